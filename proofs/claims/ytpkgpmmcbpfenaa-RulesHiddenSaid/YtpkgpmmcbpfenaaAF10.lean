/- Parts: T7f35, T7f34, T7f58, T7f29, T7f26, T7f27, T7f57, T7f56, T7f28. -/
import Derived.Test.YtpkgpmmcbpfenaaAF1
import Derived.Test.YtpkgpmmcbpfenaaAF9
/- bosket/bosketref08.Run; printed by avmain.py. -/
namespace Go.Avl.T7
open Go Go.RowKit Go.Proofs Go.Avl
set_option linter.unusedVariables false
set_option maxRecDepth 100000
set_option maxHeartbeats 4000000
attribute [local irreducible] AW AO AQ Spec SpecH Calm

def F35_c0 (k : Nat) (x5 : Int) : Option Int :=
  some (x5)
def F35_l1 (k : Nat) (p0 : S55) (p2 : ByteArray) : Nat → Int → Int → Option Int
  | 0, _, _ => none
  | j + 1, x6, x7 =>
    if x7 < (p2.size : Int) then if 0 ≤ x7 ∧ x7 < (p2.size : Int) then (F60 k p0 x6 (w64 (byteAt p2 x7))).bind fun t12 =>
    (F35_l1 k p0 p2 j) t12 (w64 (x7 + (1 : Int)))
    else none
    else F35_c0 k x6
def F35 (k : Nat) (p0 : S55) (p1 : Int) (p2 : ByteArray) : Option Int :=
  F35_l1 k p0 p2 k p1 (0 : Int)
theorem F35_spec {k : Nat} {p0 : S55} {p1 : Int} {p2 : ByteArray} {r : Int} (h : F35 k p0 p1 p2 = some r) : Spec Try.prog 35 [(e55 p0), (eI64 p1), (eStr p2)] (eI64 r) := by
  rw [F35.eq_1] at h
  refine Spec.intro (res := [.tmp 6]) Try.func35 rfl rfl rfl (Nat.le_of_ble_eq_true rfl) ?_
  refine AW.sr ?_
  refine AO.box rfl 3 rfl (by decide) rfl rfl rfl fun n4 => ?_
  refine AO.ag rfl rfl ?_
  refine AO.nK [1, 2, 3] ?_
  refine AW.seq_mid (fun ρ H => ∃ (x5 : Int), ρ = [(1, (eI64 x5))] ∧ H = [] ∧ F35_c0 k x5 = some r) ?_ ?_
  ·refine AW.sr ?_
   refine AO.ag rfl rfl ?_
   refine AO.nK [1, 2, 3, 7] ?_
   refine AW.block ?_
   refine AW.wK [1, 2, 3, 7] ?_
   refine AW.loop (fun kq ρ H => ∃ (x6 : Int) (x7 : Int), ρ = [(1, (eI64 x6)), (2, (eStr p2)), (3, (.ptr n4 0)), (7, (eI64 x7))] ∧ H = [(n4, (.mem (e55 p0)))] ∧ F35_l1 k p0 p2 kq x6 x7 = some r) k ⟨p1, (0 : Int), rfl, rfl, h⟩ ?_
   rintro kq9 _ _ ⟨x6, x7, rfl, rfl, h⟩
   cases kq9 with
   | zero => rw [F35_l1.eq_1] at h; cases h
   | succ kq9 =>
   rw [F35_l1.eq_2] at h
   generalize hrec8 : F35_l1 k p0 p2 kq9 = rec8 at h
   refine AW.seq ?_
   refine AW.sr ?_
   refine AO.mv rfl rfl ?_
   refine AO.mv rfl rfl ?_
   refine AO.c (Calm.lenStr rfl rfl Try.underlying9) ?_
   refine AO.c (x := eBool (decide (x7 < (p2.size : Int)))) (Calm.int rfl rfl rfl rfl) ?_
   refine AO.nK [1, 2, 3, 7, 11] ?_
   rcases of_ite h with ⟨hc10, h⟩ | ⟨hc10, h⟩
   ·refine AW.condP _ rfl hc10 ?_
    refine AW.sK [1, 2, 3, 7] ?_
    refine AW.seq ?_
    refine AW.block ?_
    refine AW.regQ (by rfl) (by decide +kernel) ?_
    refine AQ.c (Calm.load 0 rfl rfl rfl (At.cast At.here rfl) ag55 sz55) ?_
    refine AQ.c (Calm.move rfl rfl) ?_
    refine AQ.c (Calm.move rfl rfl) ?_
    refine AQ.c (Calm.move rfl rfl) ?_
    obtain ⟨hg11, h⟩ := of_guard h
    refine AQ.c (x := eU8 (byteAt p2 x7)) (Calm.idxS rfl rfl rfl hg11 Try.underlying9) ?_
    refine AQ.c (x := eI64 (w64 (byteAt p2 x7))) (Calm.conv rfl rfl Try.underlying5 Try.underlying3) ?_
    obtain ⟨t12, et12, h⟩ := of_bind h
    refine AQ.c (Calm.call (args := [(e55 p0), (eI64 x6), (eI64 (w64 (byteAt p2 x7)))]) rfl rfl ok60 ⟨rfl, rfl, rfl, rfl, rfl, rfl, trivial⟩ rfl (F60_spec et12)) ?_
    refine AQ.c (Calm.assign rfl rfl) ?_
    refine AQ.nK [1, 2, 3, 7] ?_
    refine AW.reg ?_
    refine AO.mv rfl rfl ?_
    refine AO.c (x := eI64 (w64 (x7 + (1 : Int)))) (Calm.int rfl rfl rfl rfl) ?_
    refine AO.ag rfl rfl ?_
    refine AO.nK [1, 2, 3, 7] ?_
    exact ⟨kq9, Nat.lt_succ_self _, t12, (w64 (x7 + (1 : Int))), rfl, rfl, by rw [hrec8]; exact h⟩
   ·refine AW.condN _ rfl hc10 ?_
    refine AW.eH [1] (H' := []) (Sub.nil _) ?_
    exact ⟨x6, rfl, rfl, h⟩
  ·rintro _ _ ⟨x5, rfl, rfl, h⟩
   rw [F35_c0.eq_1] at h
   refine AW.sr ?_
   refine AO.mv rfl rfl ?_
   refine AO.ag rfl rfl ?_
   refine AO.nK [6] ?_
   refine AW.rK [6] ?_
   have hr := Option.some.inj h
   subst hr
   exact ⟨[(eI64 x5)], ⟨rfl, rfl, trivial⟩, rfl⟩
end Go.Avl.T7
/- bosket/bosketref08.Mark; printed by avmain.py. -/
namespace Go.Avl.T7
open Go Go.RowKit Go.Proofs Go.Avl
set_option linter.unusedVariables false
set_option maxRecDepth 100000
set_option maxHeartbeats 4000000
attribute [local irreducible] AW AO AQ Spec SpecH Calm

def F34 (k : Nat) (p0 : S55) (p1 : Int) : Option Int :=
  Option.bind (α := Bool) (if p1 < (0 : Int) then some (true)
  else some (decide ((p0.f2.length : Int) ≤ p1))) fun b4 =>
  if b4 = true then some ((-1 : Int))
  else if 0 ≤ p1 ∧ p1 < (p0.f2.length : Int) then some ((lget p0.f2 p1))
  else none
theorem F34_spec {k : Nat} {p0 : S55} {p1 : Int} {r : Int} (h : F34 k p0 p1 = some r) : Spec Try.prog 34 [(e55 p0), (eI64 p1)] (eI64 r) := by
  rw [F34.eq_1] at h
  refine Spec.intro (res := [.tmp 4]) Try.func34 rfl rfl rfl (Nat.le_of_ble_eq_true rfl) ?_
  refine AW.sr ?_
  refine AO.box rfl 2 rfl (by decide) rfl rfl rfl fun n3 => ?_
  refine AO.ag rfl rfl ?_
  refine AO.nK [1, 2] ?_
  refine AW.seq ?_
  refine AW.seq ?_
  obtain ⟨b4, hq5, h⟩ := of_bind h
  refine AW.regM [(1, (eI64 p1)), (2, (.ptr n3 0)), (13, (eBool b4))] [(n3, (.mem (e55 p0)))] ?_ ?_
  ·refine AO.mv rfl rfl ?_
   refine AO.c (x := eBool (decide (p1 < (0 : Int)))) (Calm.int rfl rfl rfl rfl) ?_
   refine AO.mv rfl rfl ?_
   rcases of_ite hq5 with ⟨hc6, hq5⟩ | ⟨hc6, hq5⟩
   ·refine AO.sF rfl rfl (bD (decide_eq_true hc6)) ?_
    refine AO.sF rfl rfl (bD (decide_eq_true hc6)) ?_
    refine AO.sF rfl rfl (bD (decide_eq_true hc6)) ?_
    refine AO.sF rfl rfl (bD (decide_eq_true hc6)) ?_
    refine AO.sF rfl rfl (bD (decide_eq_true hc6)) ?_
    refine AO.c (Calm.pickT rfl (bD (decide_eq_true hc6)) rfl) ?_
    cases hq5
    refine AO.nilE ⟨rfl, rfl⟩ ?_ ?_
    · exact ⟨rfl, rfl, rfl, trivial⟩
    · exact (Sub.refl _)
   ·refine AO.cG rfl rfl (bD (decide_eq_false hc6)) (Calm.move rfl rfl) ?_
    refine AO.cG (x := .ptr n3 257) rfl rfl (bD (decide_eq_false hc6)) (Calm.fldPtr rfl rfl Try.underlying55 rfl sz35 _ rfl) ?_
    refine AO.cG rfl rfl (bD (decide_eq_false hc6)) (Calm.load 0 rfl rfl rfl (At.cast (At.fldS (At.fldS (At.fld0 At.here))) rfl) ag35 sz35) ?_
    refine AO.cG rfl rfl (bD (decide_eq_false hc6)) (Calm.lenL rfl rfl Try.underlying35) ?_
    refine AO.cG (x := eBool (decide ((p0.f2.length : Int) ≤ p1))) rfl rfl (bD (decide_eq_false hc6)) (Calm.int rfl rfl rfl rfl) ?_
    refine AO.c (Calm.pickF rfl (bD (decide_eq_false hc6)) rfl) ?_
    cases hq5
    refine AO.nilE ⟨rfl, rfl⟩ ?_ ?_
    · exact ⟨rfl, rfl, rfl, trivial⟩
    · exact (Sub.refl _)
  ·rcases of_ite h with ⟨hc7, h⟩ | ⟨hc7, h⟩
   ·refine AW.condT' _ rfl hc7 ?_
    refine AW.sr ?_
    refine AO.ag rfl rfl ?_
    refine AO.nH [4] (H' := []) (Sub.nil _) ?_
    refine AW.rK [4] ?_
    have hr := Option.some.inj h
    subst hr
    exact ⟨[(eI64 (-1 : Int))], ⟨rfl, rfl, trivial⟩, rfl⟩
   ·refine AW.condF' _ rfl hc7 ?_
    refine AW.sK [1, 2] ?_
    refine AW.sr ?_
    refine AO.c (x := .ptr n3 257) (Calm.fldPtr rfl rfl Try.underlying55 rfl sz35 _ rfl) ?_
    refine AO.c (Calm.load 0 rfl rfl rfl (At.cast (At.fldS (At.fldS (At.fld0 At.here))) rfl) ag35 sz35) ?_
    refine AO.mv rfl rfl ?_
    obtain ⟨hg8, h⟩ := of_guard h
    refine AO.c (Calm.idxL (f := eI64) rfl rfl rfl hg8 Try.underlying35 sz3) ?_
    refine AO.c (Calm.loadRp rfl rfl ag3 sz3) ?_
    refine AO.ag rfl rfl ?_
    refine AO.nH [4] (H' := []) (Sub.nil _) ?_
    refine AW.rK [4] ?_
    have hr := Option.some.inj h
    subst hr
    exact ⟨[(eI64 (lget p0.f2 p1))], ⟨rfl, rfl, trivial⟩, rfl⟩
end Go.Avl.T7
/- bosket/dfa.Reached; printed by avmain.py. -/
namespace Go.Avl.T7
open Go Go.RowKit Go.Proofs Go.Avl
set_option linter.unusedVariables false
set_option maxRecDepth 100000
set_option maxHeartbeats 4000000
attribute [local irreducible] AW AO AQ Spec SpecH Calm

def F58_c0 (k : Nat) (x11 : (List Bool)) : Option (List Bool) :=
  some (x11)
def F58_c1 (k : Nat) (rec27 : ((List Bool) → (List Int) → Int → Option (List Bool))) (x26 : Int) (x30 : (List Bool)) (x32 : (List Int)) : Option (List Bool) :=
  rec27 x30 x32 (w64 (x26 + (1 : Int)))
def F58_l2 (k : Nat) (rec16 : ((List Bool) → (List Int) → Option (List Bool))) (p0 : S55) (x15 : (List Int)) : Nat → (List Bool) → (List Int) → Int → Option (List Bool)
  | 0, _, _, _ => none
  | j + 1, x23, x25, x26 =>
    if x26 < ((lget p0.f1 (lget x15 (0 : Int))).length : Int) then if 0 ≤ x26 ∧ x26 < ((lget p0.f1 (lget x15 (0 : Int))).length : Int) then Option.bind (α := Bool) (if (0 : Int) ≤ (lget (lget p0.f1 (lget x15 (0 : Int))) x26) then if (lget (lget p0.f1 (lget x15 (0 : Int))) x26) < (x23.length : Int) then if 0 ≤ (lget (lget p0.f1 (lget x15 (0 : Int))) x26) ∧ (lget (lget p0.f1 (lget x15 (0 : Int))) x26) < (x23.length : Int) then some (!(lget x23 (lget (lget p0.f1 (lget x15 (0 : Int))) x26)))
    else none
    else some (false)
    else some (false)) fun b34 =>
    if b34 = true then if 0 ≤ (lget (lget p0.f1 (lget x15 (0 : Int))) x26) ∧ (lget (lget p0.f1 (lget x15 (0 : Int))) x26) < (x23.length : Int) then if (x25 ++ ([(lget (lget p0.f1 (lget x15 (0 : Int))) x26)] : List Int)).length * 8 ≤ 140737488355328 then F58_c1 k (F58_l2 k rec16 p0 x15 j) x26 (lset x23 (lget (lget p0.f1 (lget x15 (0 : Int))) x26) true) (x25 ++ ([(lget (lget p0.f1 (lget x15 (0 : Int))) x26)] : List Int))
    else none
    else none
    else F58_c1 k (F58_l2 k rec16 p0 x15 j) x26 x23 x25
    else none
    else rec16 x23 x25
def F58_l3 (k : Nat) (p0 : S55) : Nat → (List Bool) → (List Int) → Option (List Bool)
  | 0, _, _ => none
  | j + 1, x13, x15 =>
    if (0 : Int) < (x15.length : Int) then if 0 ≤ (0 : Int) ∧ (0 : Int) < (x15.length : Int) then if 0 ≤ (1 : Int) ∧ (1 : Int) ≤ (x15.length : Int) then if 0 ≤ (lget x15 (0 : Int)) ∧ (lget x15 (0 : Int)) < (p0.f1.length : Int) then F58_l2 k (F58_l3 k p0 j) p0 x15 k x13 (x15.drop (1 : Int).toNat) (0 : Int)
    else none
    else none
    else none
    else F58_c0 k x13
def F58 (k : Nat) (p0 : S55) (p1 : Int) : Option (List Bool) :=
  if 0 ≤ (p0.f1.length : Int) ∧ (p0.f1.length : Int) * (1 : Int) ≤ 140737488355328 ∧ (p0.f1.length : Int) ≤ 9223372036854775807 then Option.bind (α := Bool) (if p1 < (0 : Int) then some (true)
  else some (decide (((List.replicate (p0.f1.length : Int).toNat false).length : Int) ≤ p1))) fun b6 =>
  if b6 = true then some ((List.replicate (p0.f1.length : Int).toNat false))
  else if 0 ≤ p1 ∧ p1 < ((List.replicate (p0.f1.length : Int).toNat false).length : Int) then F58_l3 k p0 k (lset (List.replicate (p0.f1.length : Int).toNat false) p1 true) ([p1] : List Int)
  else none
  else none
theorem F58_spec {k : Nat} {p0 : S55} {p1 : Int} {r : (List Bool)} (h : F58 k p0 p1 = some r) : Spec Try.prog 58 [(e55 p0), (eI64 p1)] (e98 r) := by
  rw [F58.eq_1] at h
  refine Spec.intro (res := [.tmp 4]) Try.func58 rfl rfl rfl (Nat.le_of_ble_eq_true rfl) ?_
  refine AW.sr ?_
  refine AO.box rfl 2 rfl (by decide) rfl rfl rfl fun n3 => ?_
  refine AO.ag rfl rfl ?_
  refine AO.nK [1, 2] ?_
  refine AW.sr ?_
  refine AO.c (x := .ptr n3 256) (Calm.fldPtr rfl rfl Try.underlying55 rfl sz53 _ rfl) ?_
  refine AO.c (Calm.load 0 rfl rfl rfl (At.cast (At.fldS (At.fld0 At.here)) rfl) ag53 sz53) ?_
  refine AO.c (Calm.lenL rfl rfl Try.underlying53) ?_
  obtain ⟨hg5, h⟩ := of_guard h
  refine AO.makeL (f := eBool) false rfl 13 rfl (by decide) rfl rfl rfl Try.underlying98 sz4 by4 zr4 lay4 rfl hg5 fun n4 => ?_
  refine AO.ag rfl rfl ?_
  refine AO.nH [1, 2, 5] (H' := [(n3, (.mem (e55 p0))), (n4, (.mem (.ar 1 ((List.replicate (p0.f1.length : Int).toNat false).map eBool))))]) (Sub.cons 1 rfl (Sub.cons 0 rfl (Sub.nil _))) ?_
  refine AW.seq ?_
  refine AW.seq ?_
  obtain ⟨b6, hq7, h⟩ := of_bind h
  refine AW.regM [(1, (eI64 p1)), (2, (.ptr n3 0)), (5, (.own n4 0 (List.replicate (p0.f1.length : Int).toNat false).length)), (21, (eBool b6))] [(n3, (.mem (e55 p0))), (n4, (.mem (.ar 1 ((List.replicate (p0.f1.length : Int).toNat false).map eBool))))] ?_ ?_
  ·refine AO.mv rfl rfl ?_
   refine AO.c (x := eBool (decide (p1 < (0 : Int)))) (Calm.int rfl rfl rfl rfl) ?_
   refine AO.mv rfl rfl ?_
   rcases of_ite hq7 with ⟨hc8, hq7⟩ | ⟨hc8, hq7⟩
   ·refine AO.sF rfl rfl (bD (decide_eq_true hc8)) ?_
    refine AO.sF rfl rfl (bD (decide_eq_true hc8)) ?_
    refine AO.sF rfl rfl (bD (decide_eq_true hc8)) ?_
    refine AO.sF rfl rfl (bD (decide_eq_true hc8)) ?_
    refine AO.c (Calm.pickT rfl (bD (decide_eq_true hc8)) rfl) ?_
    cases hq7
    refine AO.nilE ⟨rfl, rfl⟩ ?_ ?_
    · exact ⟨rfl, rfl, rfl, rfl, trivial⟩
    · exact (Sub.refl _)
   ·refine AO.cG rfl rfl (bD (decide_eq_false hc8)) (Calm.move rfl rfl) ?_
    refine AO.cG rfl rfl (bD (decide_eq_false hc8)) (Calm.move rfl rfl) ?_
    refine AO.cG rfl rfl (bD (decide_eq_false hc8)) (Calm.lenOwn rfl rfl Try.underlying98) ?_
    refine AO.cG (x := eBool (decide (((List.replicate (p0.f1.length : Int).toNat false).length : Int) ≤ p1))) rfl rfl (bD (decide_eq_false hc8)) (Calm.int rfl rfl rfl rfl) ?_
    refine AO.c (Calm.pickF rfl (bD (decide_eq_false hc8)) rfl) ?_
    cases hq7
    refine AO.nilE ⟨rfl, rfl⟩ ?_ ?_
    · exact ⟨rfl, rfl, rfl, rfl, trivial⟩
    · exact (Sub.refl _)
  ·rcases of_ite h with ⟨hc9, h⟩ | ⟨hc9, h⟩
   ·refine AW.condT' _ rfl hc9 ?_
    refine AW.sr ?_
    refine AO.mv rfl rfl ?_
    refine AO.ag rfl rfl ?_
    refine AO.nH [4] (H' := [(n4, (.mem (.ar 1 ((List.replicate (p0.f1.length : Int).toNat false).map eBool))))]) (Sub.cons 1 rfl (Sub.nil _)) ?_
    refine AW.freezeS 0 [(4, (.fz 1 ((List.replicate (p0.f1.length : Int).toNat false).map eBool)))] rfl ⟨fz_all rfl, trivial⟩ ?_
    refine AW.rK [4] ?_
    have hr := Option.some.inj h
    subst hr
    exact ⟨[(.fz 1 ((List.replicate (p0.f1.length : Int).toNat false).map eBool))], ⟨rfl, rfl, trivial⟩, rfl⟩
   ·refine AW.condF' _ rfl hc9 ?_
    refine AW.sK [1, 2, 5] ?_
    refine AW.sr ?_
    refine AO.mv rfl rfl ?_
    refine AO.mv rfl rfl ?_
    obtain ⟨hg10, h⟩ := of_guard h
    refine AO.c (Calm.idxO 1 rfl rfl rfl rfl hg10 Try.underlying98 sz4) ?_
    refine AO.store (X' := (.ar 1 ((lset (List.replicate (p0.f1.length : Int).toNat false) p1 true).map eBool))) 1 rfl rfl rfl rfl rfl rfl (Put.cast (Put.lidx p1 true hg10.1 hg10.2 Put.here) (by omega)) rfl rfl sz4 rfl ?_
    refine AO.coe 5 (y' := (.own n4 0 (lset (List.replicate (p0.f1.length : Int).toNat false) p1 true).length)) rfl (fun _ _ h => lset_own h) ?_
    refine AO.coe 23 (y' := (.own n4 0 (lset (List.replicate (p0.f1.length : Int).toNat false) p1 true).length)) rfl (fun _ _ h => lset_own h) ?_
    refine AO.nK [1, 2, 5] ?_
    refine AW.seq_mid (fun ρ H => ∃ (x11 : (List Bool)), ρ = [(5, (.own n4 0 x11.length))] ∧ H = [(n4, (.mem (.ar 1 (x11.map eBool))))] ∧ F58_c0 k x11 = some r) ?_ ?_
    ·refine AW.sr ?_
     refine AO.mv rfl rfl ?_
     refine AO.lit (Z := (eI64 (0 : Int))) (xs := (([p1] : List Int).map eI64)) (qs := [(0, (eI64 p1))]) rfl 27 rfl (by decide) rfl ⟨rfl, rfl, rfl, trivial⟩ Try.underlying35 sz3 zr3 lay3 rfl (by decide) (litOK (z := 1) [(eI64 p1)] rfl ⟨⟨rfl, rfl⟩, trivial⟩) rfl fun n12 => ?_
     refine AO.ag rfl rfl ?_
     refine AO.nH [2, 5, 6] (H' := [(n3, (.mem (e55 p0))), (n4, (.mem (.ar 1 ((lset (List.replicate (p0.f1.length : Int).toNat false) p1 true).map eBool)))), (n12, (.mem (.ar 1 (([p1] : List Int).map eI64))))]) (Sub.cons 1 rfl (Sub.cons 1 rfl (Sub.cons 0 rfl (Sub.nil _)))) ?_
     refine AW.block ?_
     refine AW.wK [2, 5, 6] ?_
     refine AW.loop (fun kq ρ H => ∃ (n14 : Nat) (x13 : (List Bool)) (x15 : (List Int)), ρ = [(2, (.ptr n3 0)), (5, (.own n4 0 x13.length)), (6, (.own n14 0 x15.length))] ∧ H = [(n3, (.mem (e55 p0))), (n4, (.mem (.ar 1 (x13.map eBool)))), (n14, (.mem (.ar 1 (x15.map eI64))))] ∧ F58_l3 k p0 kq x13 x15 = some r) k ⟨n12, (lset (List.replicate (p0.f1.length : Int).toNat false) p1 true), ([p1] : List Int), rfl, rfl, h⟩ ?_
     rintro kq17 _ _ ⟨n14, x13, x15, rfl, rfl, h⟩
     cases kq17 with
     | zero => rw [F58_l3.eq_1] at h; cases h
     | succ kq17 =>
     rw [F58_l3.eq_2] at h
     generalize hrec16 : F58_l3 k p0 kq17 = rec16 at h
     refine AW.seq ?_
     refine AW.sr ?_
     refine AO.mv rfl rfl ?_
     refine AO.c (Calm.lenOwn rfl rfl Try.underlying35) ?_
     refine AO.c (x := eBool (decide ((0 : Int) < (x15.length : Int)))) (Calm.int rfl rfl rfl rfl) ?_
     refine AO.nK [2, 5, 6, 30] ?_
     rcases of_ite h with ⟨hc18, h⟩ | ⟨hc18, h⟩
     ·refine AW.condP _ rfl hc18 ?_
      refine AW.sK [2, 5, 6] ?_
      refine AW.block ?_
      refine AW.sr ?_
      refine AO.mv rfl rfl ?_
      obtain ⟨hg19, h⟩ := of_guard h
      refine AO.c (Calm.idxO 2 rfl rfl rfl rfl hg19 Try.underlying35 sz3) ?_
      refine AO.c (Calm.load 2 rfl rfl rfl (At.cast (At.lidx (0 : Int) hg19.1 hg19.2 At.here) (by omega)) ag3 sz3) ?_
      refine AO.ag rfl rfl ?_
      refine AO.nK [2, 5, 6, 7] ?_
      refine AW.sr ?_
      refine AO.mv rfl rfl ?_
      obtain ⟨hg20, h⟩ := of_guard h
      refine AO.sufNew (l := x15) (f := eI64) 2 35 rfl (by decide) rfl rfl rfl rfl rfl hg20 Try.underlying35 sz3 fun n21 => ?_
      refine AO.ag rfl rfl ?_
      refine AO.nK [2, 5, 6, 7] ?_
      refine AW.sr ?_
      refine AO.c (x := .ptr n3 256) (Calm.fldPtr rfl rfl Try.underlying55 rfl sz53 _ rfl) ?_
      refine AO.c (Calm.load 0 rfl rfl rfl (At.cast (At.fldS (At.fld0 At.here)) rfl) ag53 sz53) ?_
      refine AO.mv rfl rfl ?_
      obtain ⟨hg22, h⟩ := of_guard h
      refine AO.c (Calm.idxL (f := e35) rfl rfl rfl hg22 Try.underlying53 sz35) ?_
      refine AO.c (Calm.loadRp rfl rfl ag35 sz35) ?_
      refine AO.c (Calm.lenL rfl rfl Try.underlying35) ?_
      refine AO.mv rfl rfl ?_
      refine AO.nK [2, 5, 6, 40, 41, 42] ?_
      refine AW.block ?_
      refine AW.wK [2, 5, 6, 40, 41, 42] ?_
      refine AW.loop (fun kq ρ H => ∃ (n24 : Nat) (x23 : (List Bool)) (x25 : (List Int)) (x26 : Int), ρ = [(2, (.ptr n3 0)), (5, (.own n4 0 x23.length)), (6, (.own n24 0 x25.length)), (40, (.fz 1 ((lget p0.f1 (lget x15 (0 : Int))).map eI64))), (41, (eI64 ((lget p0.f1 (lget x15 (0 : Int))).length : Int))), (42, (eI64 x26))] ∧ H = [(n3, (.mem (e55 p0))), (n4, (.mem (.ar 1 (x23.map eBool)))), (n24, (.mem (.ar 1 (x25.map eI64))))] ∧ F58_l2 k rec16 p0 x15 kq x23 x25 x26 = some r) k ⟨n21, x13, (x15.drop (1 : Int).toNat), (0 : Int), rfl, rfl, h⟩ ?_
      rintro kq28 _ _ ⟨n24, x23, x25, x26, rfl, rfl, h⟩
      cases kq28 with
      | zero => rw [F58_l2.eq_1] at h; cases h
      | succ kq28 =>
      rw [F58_l2.eq_2] at h
      generalize hrec27 : F58_l2 k rec16 p0 x15 kq28 = rec27 at h
      refine AW.sr ?_
      refine AO.c (x := eBool (decide (x26 < ((lget p0.f1 (lget x15 (0 : Int))).length : Int)))) (Calm.int rfl rfl rfl rfl) ?_
      refine AO.nK [2, 5, 6, 40, 41, 42, 43] ?_
      refine AW.seq ?_
      rcases of_ite h with ⟨hc29, h⟩ | ⟨hc29, h⟩
      ·refine AW.condP _ rfl hc29 ?_
       refine AW.sK [2, 5, 6, 40, 41, 42] ?_
       refine AW.seq_mid (fun ρ H => ∃ (n31 : Nat) (x30 : (List Bool)) (x32 : (List Int)), ρ = [(2, (.ptr n3 0)), (5, (.own n4 0 x30.length)), (6, (.own n31 0 x32.length)), (40, (.fz 1 ((lget p0.f1 (lget x15 (0 : Int))).map eI64))), (41, (eI64 ((lget p0.f1 (lget x15 (0 : Int))).length : Int))), (42, (eI64 x26))] ∧ H = [(n3, (.mem (e55 p0))), (n4, (.mem (.ar 1 (x30.map eBool)))), (n31, (.mem (.ar 1 (x32.map eI64))))] ∧ F58_c1 k rec27 x26 x30 x32 = some r) ?_ ?_
       ·refine AW.block ?_
        refine AW.sr ?_
        obtain ⟨hg33, h⟩ := of_guard h
        refine AO.c (Calm.idxL (f := eI64) rfl rfl rfl hg33 Try.underlying35 sz3) ?_
        refine AO.c (Calm.loadRp rfl rfl ag3 sz3) ?_
        refine AO.ag rfl rfl ?_
        refine AO.nK [2, 5, 6, 9, 40, 41, 42] ?_
        refine AW.seq ?_
        obtain ⟨b34, hq35, h⟩ := of_bind h
        refine AW.regM [(2, (.ptr n3 0)), (5, (.own n4 0 x23.length)), (6, (.own n24 0 x25.length)), (9, (eI64 (lget (lget p0.f1 (lget x15 (0 : Int))) x26))), (40, (.fz 1 ((lget p0.f1 (lget x15 (0 : Int))).map eI64))), (41, (eI64 ((lget p0.f1 (lget x15 (0 : Int))).length : Int))), (42, (eI64 x26)), (60, (eBool b34))] [(n3, (.mem (e55 p0))), (n4, (.mem (.ar 1 (x23.map eBool)))), (n24, (.mem (.ar 1 (x25.map eI64))))] ?_ ?_
        ·refine AO.mv rfl rfl ?_
         refine AO.c (x := eBool (decide ((0 : Int) ≤ (lget (lget p0.f1 (lget x15 (0 : Int))) x26)))) (Calm.int rfl rfl rfl rfl) ?_
         refine AO.mv rfl rfl ?_
         rcases of_ite hq35 with ⟨hc36, hq35⟩ | ⟨hc36, hq35⟩
         ·refine AO.cG rfl rfl (bD (decide_eq_true hc36)) (Calm.move rfl rfl) ?_
          refine AO.cG rfl rfl (bD (decide_eq_true hc36)) (Calm.move rfl rfl) ?_
          refine AO.cG rfl rfl (bD (decide_eq_true hc36)) (Calm.lenOwn rfl rfl Try.underlying98) ?_
          refine AO.cG (x := eBool (decide ((lget (lget p0.f1 (lget x15 (0 : Int))) x26) < (x23.length : Int)))) rfl rfl (bD (decide_eq_true hc36)) (Calm.int rfl rfl rfl rfl) ?_
          refine AO.c (Calm.pickT rfl (bD (decide_eq_true hc36)) rfl) ?_
          refine AO.mv rfl rfl ?_
          rcases of_ite hq35 with ⟨hc37, hq35⟩ | ⟨hc37, hq35⟩
          ·refine AO.cG rfl rfl (bD (decide_eq_true hc37)) (Calm.move rfl rfl) ?_
           refine AO.cG rfl rfl (bD (decide_eq_true hc37)) (Calm.move rfl rfl) ?_
           obtain ⟨hg38, hq35⟩ := of_guard hq35
           refine AO.cG rfl rfl (bD (decide_eq_true hc37)) (Calm.idxO 1 rfl rfl rfl rfl hg38 Try.underlying98 sz4) ?_
           refine AO.cG rfl rfl (bD (decide_eq_true hc37)) (Calm.load 1 rfl rfl rfl (At.cast (At.lidx (lget (lget p0.f1 (lget x15 (0 : Int))) x26) hg38.1 hg38.2 At.here) (by omega)) ag4 sz4) ?_
           refine AO.cG rfl rfl (bD (decide_eq_true hc37)) (Calm.not rfl rfl) ?_
           refine AO.c (Calm.pickT rfl (bD (decide_eq_true hc37)) rfl) ?_
           cases hq35
           refine AO.nilE ⟨rfl, rfl⟩ ?_ ?_
           · exact ⟨rfl, rfl, rfl, rfl, rfl, rfl, rfl, rfl, trivial⟩
           · exact (Sub.refl _)
          ·refine AO.sT rfl rfl (bD (decide_eq_false hc37)) ?_
           refine AO.sT rfl rfl (bD (decide_eq_false hc37)) ?_
           refine AO.sT rfl rfl (bD (decide_eq_false hc37)) ?_
           refine AO.sT rfl rfl (bD (decide_eq_false hc37)) ?_
           refine AO.sT rfl rfl (bD (decide_eq_false hc37)) ?_
           refine AO.c (Calm.pickF rfl (bD (decide_eq_false hc37)) rfl) ?_
           cases hq35
           refine AO.nilE ⟨rfl, rfl⟩ ?_ ?_
           · exact ⟨rfl, rfl, rfl, rfl, rfl, rfl, rfl, rfl, trivial⟩
           · exact (Sub.refl _)
         ·refine AO.sT rfl rfl (bD (decide_eq_false hc36)) ?_
          refine AO.sT rfl rfl (bD (decide_eq_false hc36)) ?_
          refine AO.sT rfl rfl (bD (decide_eq_false hc36)) ?_
          refine AO.sT rfl rfl (bD (decide_eq_false hc36)) ?_
          refine AO.c (Calm.pickF rfl (bD (decide_eq_false hc36)) rfl) ?_
          refine AO.mv rfl rfl ?_
          refine AO.sT rfl rfl rfl ?_
          refine AO.sT rfl rfl rfl ?_
          refine AO.sT rfl rfl rfl ?_
          refine AO.sT rfl rfl rfl ?_
          refine AO.sT rfl rfl rfl ?_
          refine AO.c (Calm.pickF rfl rfl rfl) ?_
          cases hq35
          refine AO.nilE ⟨rfl, rfl⟩ ?_ ?_
          · exact ⟨rfl, rfl, rfl, rfl, rfl, rfl, rfl, rfl, trivial⟩
          · exact (Sub.refl _)
        ·rcases of_ite h with ⟨hc39, h⟩ | ⟨hc39, h⟩
         ·refine AW.condT' _ rfl hc39 ?_
          refine AW.sr ?_
          refine AO.mv rfl rfl ?_
          refine AO.mv rfl rfl ?_
          obtain ⟨hg40, h⟩ := of_guard h
          refine AO.c (Calm.idxO 1 rfl rfl rfl rfl hg40 Try.underlying98 sz4) ?_
          refine AO.store (X' := (.ar 1 ((lset x23 (lget (lget p0.f1 (lget x15 (0 : Int))) x26) true).map eBool))) 1 rfl rfl rfl rfl rfl rfl (Put.cast (Put.lidx (lget (lget p0.f1 (lget x15 (0 : Int))) x26) true hg40.1 hg40.2 Put.here) (by omega)) rfl rfl sz4 rfl ?_
          refine AO.coe 5 (y' := (.own n4 0 (lset x23 (lget (lget p0.f1 (lget x15 (0 : Int))) x26) true).length)) rfl (fun _ _ h => lset_own h) ?_
          refine AO.coe 61 (y' := (.own n4 0 (lset x23 (lget (lget p0.f1 (lget x15 (0 : Int))) x26) true).length)) rfl (fun _ _ h => lset_own h) ?_
          refine AO.nK [2, 5, 6, 9, 40, 41, 42] ?_
          refine AW.reg ?_
          refine AO.mv rfl rfl ?_
          refine AO.mv rfl rfl ?_
          refine AO.lit (Z := (eI64 (0 : Int))) (xs := (([(lget (lget p0.f1 (lget x15 (0 : Int))) x26)] : List Int).map eI64)) (qs := [(0, (eI64 (lget (lget p0.f1 (lget x15 (0 : Int))) x26)))]) rfl 66 rfl (by decide) rfl ⟨rfl, rfl, rfl, trivial⟩ Try.underlying35 sz3 zr3 lay3 rfl (by decide) (litOK (z := 1) [(eI64 (lget (lget p0.f1 (lget x15 (0 : Int))) x26))] rfl ⟨⟨rfl, rfl⟩, trivial⟩) rfl fun n41 => ?_
          obtain ⟨hg43, h⟩ := of_guard h
          refine AO.appendL (l := x25) (m := ([(lget (lget p0.f1 (lget x15 (0 : Int))) x26)] : List Int)) 3 67 rfl (by decide) rfl rfl rfl rfl rfl (Src.ownL (f := eI64) (l := ([(lget (lget p0.f1 (lget x15 (0 : Int))) x26)] : List Int)) 0 rfl) Try.underlying35 Try.underlying35 sz3 by3 zr3 rfl hg43 (by decide) fun n42 => ?_
          refine AO.ag rfl rfl ?_
          refine AO.nH [2, 5, 6, 40, 41, 42] (H' := [(n3, (.mem (e55 p0))), (n4, (.mem (.ar 1 ((lset x23 (lget (lget p0.f1 (lget x15 (0 : Int))) x26) true).map eBool)))), (n42, (.mem (.ar 1 ((x25 ++ ([(lget (lget p0.f1 (lget x15 (0 : Int))) x26)] : List Int)).map eI64))))]) (Sub.cons 1 rfl (Sub.cons 1 rfl (Sub.cons 1 rfl (Sub.nil _)))) ?_
          exact ⟨n42, (lset x23 (lget (lget p0.f1 (lget x15 (0 : Int))) x26) true), (x25 ++ ([(lget (lget p0.f1 (lget x15 (0 : Int))) x26)] : List Int)), rfl, rfl, h⟩
         ·refine AW.condF' _ rfl hc39 ?_
          refine AW.sK [2, 5, 6, 40, 41, 42] ?_
          exact ⟨n24, x23, x25, rfl, rfl, h⟩
       ·rintro _ _ ⟨n31, x30, x32, rfl, rfl, h⟩
        rw [F58_c1.eq_1] at h
        refine AW.reg ?_
        refine AO.c (x := eI64 (w64 (x26 + (1 : Int)))) (Calm.int rfl rfl rfl rfl) ?_
        refine AO.mv rfl rfl ?_
        refine AO.nK [2, 5, 6, 40, 41, 42] ?_
        exact ⟨kq28, Nat.lt_succ_self _, n31, x30, x32, (w64 (x26 + (1 : Int))), rfl, rfl, by rw [hrec27]; exact h⟩
      ·refine AW.condN _ rfl hc29 ?_
       refine AW.eK [2, 5, 6] ?_
       exact ⟨kq17, Nat.lt_succ_self _, n24, x23, x25, rfl, rfl, by rw [hrec16]; exact h⟩
     ·refine AW.condN _ rfl hc18 ?_
      refine AW.eH [5] (H' := [(n4, (.mem (.ar 1 (x13.map eBool))))]) (Sub.cons 1 rfl (Sub.nil _)) ?_
      exact ⟨x13, rfl, rfl, h⟩
    ·rintro _ _ ⟨x11, rfl, rfl, h⟩
     rw [F58_c0.eq_1] at h
     refine AW.sr ?_
     refine AO.mv rfl rfl ?_
     refine AO.ag rfl rfl ?_
     refine AO.nK [4] ?_
     refine AW.freezeS 0 [(4, (.fz 1 (x11.map eBool)))] rfl ⟨fz_all rfl, trivial⟩ ?_
     refine AW.rK [4] ?_
     have hr := Option.some.inj h
     subst hr
     exact ⟨[(.fz 1 (x11.map eBool))], ⟨rfl, rfl, trivial⟩, rfl⟩
end Go.Avl.T7
/- bosket/rules.Hidden; printed by avmain.py. -/
namespace Go.Avl.T7
open Go Go.RowKit Go.Proofs Go.Avl
set_option linter.unusedVariables false
set_option maxRecDepth 100000
set_option maxHeartbeats 4000000
attribute [local irreducible] AW AO AQ Spec SpecH Calm

def F29_c0 (k : Nat) (x9 : (List Int)) : Option (List Int) :=
  some (x9)
def F29_c1 (k : Nat) (rec13 : ((List Int) → Int → Option (List Int))) (x12 : Int) (x17 : (List Int)) : Option (List Int) :=
  rec13 x17 (w64 (x12 + (1 : Int)))
def F29_l2 (k : Nat) (x7 : (List Bool)) : Nat → (List Int) → Int → Option (List Int)
  | 0, _, _ => none
  | j + 1, x11, x12 =>
    if x12 < (x7.length : Int) then if 0 ≤ x12 ∧ x12 < (x7.length : Int) then if (!(lget x7 x12)) = true then if (x11 ++ ([x12] : List Int)).length * 8 ≤ 140737488355328 then F29_c1 k (F29_l2 k x7 j) x12 (x11 ++ ([x12] : List Int))
    else none
    else F29_c1 k (F29_l2 k x7 j) x12 x11
    else none
    else F29_c0 k x11
def F29_c3 (k : Nat) (x7 : (List Bool)) : Option (List Int) :=
  F29_l2 k x7 k ([] : List Int) (0 : Int)
def F29_c4 (k : Nat) (rec26 : ((List Bool) → Int → Option (List Int))) (x25 : Int) (x29 : (List Bool)) : Option (List Int) :=
  rec26 x29 (w64 (x25 + (1 : Int)))
def F29_l5 (k : Nat) (p0 : S55) (p1 : Int) (t6 : (List Bool)) : Nat → (List Bool) → Int → Option (List Int)
  | 0, _, _ => none
  | j + 1, x24, x25 =>
    if x25 < (p0.f2.length : Int) then if 0 ≤ x25 ∧ x25 < (p0.f2.length : Int) then Option.bind (α := Bool) (if (0 : Int) ≤ (lget p0.f2 x25) then if (lget p0.f2 x25) < p1 then if 0 ≤ x25 ∧ x25 < (t6.length : Int) then some ((lget t6 x25))
    else none
    else some (false)
    else some (false)) fun b31 =>
    if b31 = true then if 0 ≤ (lget p0.f2 x25) ∧ (lget p0.f2 x25) < (x24.length : Int) then F29_c4 k (F29_l5 k p0 p1 t6 j) x25 (lset x24 (lget p0.f2 x25) true)
    else none
    else F29_c4 k (F29_l5 k p0 p1 t6 j) x25 x24
    else none
    else F29_c3 k x24
def F29 (k : Nat) (p0 : S55) (p1 : Int) : Option (List Int) :=
  if 0 ≤ (max p1 (0 : Int)) ∧ (max p1 (0 : Int)) * (1 : Int) ≤ 140737488355328 ∧ (max p1 (0 : Int)) ≤ 9223372036854775807 then (F58 k p0 (0 : Int)).bind fun t6 =>
  F29_l5 k p0 p1 t6 k (List.replicate (max p1 (0 : Int)).toNat false) (0 : Int)
  else none
theorem F29_spec {k : Nat} {p0 : S55} {p1 : Int} {r : (List Int)} (h : F29 k p0 p1 = some r) : Spec Try.prog 29 [(e55 p0), (eI64 p1)] (e35 r) := by
  rw [F29.eq_1] at h
  refine Spec.intro (res := [.tmp 4]) Try.func29 rfl rfl rfl (Nat.le_of_ble_eq_true rfl) ?_
  refine AW.sr ?_
  refine AO.box rfl 2 rfl (by decide) rfl rfl rfl fun n3 => ?_
  refine AO.ag rfl rfl ?_
  refine AO.nK [1, 2] ?_
  refine AW.sr ?_
  refine AO.mv rfl rfl ?_
  refine AO.c (x := eI64 (max p1 (0 : Int))) (Calm.max2 rfl rfl rfl) ?_
  obtain ⟨hg5, h⟩ := of_guard h
  refine AO.makeL (f := eBool) false rfl 14 rfl (by decide) rfl rfl rfl Try.underlying98 sz4 by4 zr4 lay4 rfl hg5 fun n4 => ?_
  refine AO.ag rfl rfl ?_
  refine AO.nH [1, 2, 5] (H' := [(n3, (.mem (e55 p0))), (n4, (.mem (.ar 1 ((List.replicate (max p1 (0 : Int)).toNat false).map eBool))))]) (Sub.cons 1 rfl (Sub.cons 0 rfl (Sub.nil _))) ?_
  refine AW.sr ?_
  refine AO.c (Calm.load 0 rfl rfl rfl (At.cast At.here rfl) ag55 sz55) ?_
  obtain ⟨t6, et6, h⟩ := of_bind h
  refine AO.callS [(e55 p0), (eI64 (0 : Int))] (.fz 1 (t6.map eBool)) 16 rfl (by decide) ok58 rfl rfl rfl ⟨rfl, rfl, rfl, rfl, trivial⟩ (F58_spec et6) ?_
  refine AO.ag rfl rfl ?_
  refine AO.nK [1, 2, 5, 6] ?_
  refine AW.seq_mid (fun ρ H => ∃ (x7 : (List Bool)), ρ = [(5, (.own n4 0 x7.length))] ∧ H = [(n4, (.mem (.ar 1 (x7.map eBool))))] ∧ F29_c3 k x7 = some r) ?_ ?_
  ·refine AW.sr ?_
   refine AO.c (x := .ptr n3 257) (Calm.fldPtr rfl rfl Try.underlying55 rfl sz35 _ rfl) ?_
   refine AO.c (Calm.load 0 rfl rfl rfl (At.cast (At.fldS (At.fldS (At.fld0 At.here))) rfl) ag35 sz35) ?_
   refine AO.c (Calm.lenL rfl rfl Try.underlying35) ?_
   refine AO.mv rfl rfl ?_
   refine AO.nH [1, 5, 6, 18, 19, 20] (H' := [(n4, (.mem (.ar 1 ((List.replicate (max p1 (0 : Int)).toNat false).map eBool))))]) (Sub.cons 1 rfl (Sub.nil _)) ?_
   refine AW.block ?_
   refine AW.wK [1, 5, 6, 18, 19, 20] ?_
   refine AW.loop (fun kq ρ H => ∃ (x24 : (List Bool)) (x25 : Int), ρ = [(1, (eI64 p1)), (5, (.own n4 0 x24.length)), (6, (.fz 1 (t6.map eBool))), (18, (.fz 1 (p0.f2.map eI64))), (19, (eI64 (p0.f2.length : Int))), (20, (eI64 x25))] ∧ H = [(n4, (.mem (.ar 1 (x24.map eBool))))] ∧ F29_l5 k p0 p1 t6 kq x24 x25 = some r) k ⟨(List.replicate (max p1 (0 : Int)).toNat false), (0 : Int), rfl, rfl, h⟩ ?_
   rintro kq27 _ _ ⟨x24, x25, rfl, rfl, h⟩
   cases kq27 with
   | zero => rw [F29_l5.eq_1] at h; cases h
   | succ kq27 =>
   rw [F29_l5.eq_2] at h
   generalize hrec26 : F29_l5 k p0 p1 t6 kq27 = rec26 at h
   refine AW.sr ?_
   refine AO.c (x := eBool (decide (x25 < (p0.f2.length : Int)))) (Calm.int rfl rfl rfl rfl) ?_
   refine AO.nK [1, 5, 6, 18, 19, 20, 21] ?_
   refine AW.seq ?_
   rcases of_ite h with ⟨hc28, h⟩ | ⟨hc28, h⟩
   ·refine AW.condP _ rfl hc28 ?_
    refine AW.sK [1, 5, 6, 18, 19, 20] ?_
    refine AW.seq_mid (fun ρ H => ∃ (x29 : (List Bool)), ρ = [(1, (eI64 p1)), (5, (.own n4 0 x29.length)), (6, (.fz 1 (t6.map eBool))), (18, (.fz 1 (p0.f2.map eI64))), (19, (eI64 (p0.f2.length : Int))), (20, (eI64 x25))] ∧ H = [(n4, (.mem (.ar 1 (x29.map eBool))))] ∧ F29_c4 k rec26 x25 x29 = some r) ?_ ?_
    ·refine AW.block ?_
     refine AW.sr ?_
     refine AO.mv rfl rfl ?_
     obtain ⟨hg30, h⟩ := of_guard h
     refine AO.c (Calm.idxL (f := eI64) rfl rfl rfl hg30 Try.underlying35 sz3) ?_
     refine AO.c (Calm.loadRp rfl rfl ag3 sz3) ?_
     refine AO.ag rfl rfl ?_
     refine AO.ag rfl rfl ?_
     refine AO.nK [1, 5, 6, 7, 8, 18, 19, 20] ?_
     refine AW.seq ?_
     obtain ⟨b31, hq32, h⟩ := of_bind h
     refine AW.regM [(1, (eI64 p1)), (5, (.own n4 0 x24.length)), (6, (.fz 1 (t6.map eBool))), (8, (eI64 (lget p0.f2 x25))), (18, (.fz 1 (p0.f2.map eI64))), (19, (eI64 (p0.f2.length : Int))), (20, (eI64 x25)), (37, (eBool b31))] [(n4, (.mem (.ar 1 (x24.map eBool))))] ?_ ?_
     ·refine AO.mv rfl rfl ?_
      refine AO.c (x := eBool (decide ((0 : Int) ≤ (lget p0.f2 x25)))) (Calm.int rfl rfl rfl rfl) ?_
      refine AO.mv rfl rfl ?_
      rcases of_ite hq32 with ⟨hc33, hq32⟩ | ⟨hc33, hq32⟩
      ·refine AO.cG rfl rfl (bD (decide_eq_true hc33)) (Calm.move rfl rfl) ?_
       refine AO.cG rfl rfl (bD (decide_eq_true hc33)) (Calm.move rfl rfl) ?_
       refine AO.cG (x := eBool (decide ((lget p0.f2 x25) < p1))) rfl rfl (bD (decide_eq_true hc33)) (Calm.int rfl rfl rfl rfl) ?_
       refine AO.c (Calm.pickT rfl (bD (decide_eq_true hc33)) rfl) ?_
       refine AO.mv rfl rfl ?_
       rcases of_ite hq32 with ⟨hc34, hq32⟩ | ⟨hc34, hq32⟩
       ·refine AO.cG rfl rfl (bD (decide_eq_true hc34)) (Calm.move rfl rfl) ?_
        refine AO.cG rfl rfl (bD (decide_eq_true hc34)) (Calm.move rfl rfl) ?_
        obtain ⟨hg35, hq32⟩ := of_guard hq32
        refine AO.cG rfl rfl (bD (decide_eq_true hc34)) (Calm.idxL (f := eBool) rfl rfl rfl hg35 Try.underlying98 sz4) ?_
        refine AO.cG rfl rfl (bD (decide_eq_true hc34)) (Calm.loadRp rfl rfl ag4 sz4) ?_
        refine AO.c (Calm.pickT rfl (bD (decide_eq_true hc34)) rfl) ?_
        cases hq32
        refine AO.nilE ⟨rfl, rfl⟩ ?_ ?_
        · exact ⟨rfl, rfl, rfl, rfl, rfl, rfl, rfl, rfl, trivial⟩
        · exact (Sub.refl _)
       ·refine AO.sT rfl rfl (bD (decide_eq_false hc34)) ?_
        refine AO.sT rfl rfl (bD (decide_eq_false hc34)) ?_
        refine AO.sT rfl rfl (bD (decide_eq_false hc34)) ?_
        refine AO.sT rfl rfl (bD (decide_eq_false hc34)) ?_
        refine AO.c (Calm.pickF rfl (bD (decide_eq_false hc34)) rfl) ?_
        cases hq32
        refine AO.nilE ⟨rfl, rfl⟩ ?_ ?_
        · exact ⟨rfl, rfl, rfl, rfl, rfl, rfl, rfl, rfl, trivial⟩
        · exact (Sub.refl _)
      ·refine AO.sT rfl rfl (bD (decide_eq_false hc33)) ?_
       refine AO.sT rfl rfl (bD (decide_eq_false hc33)) ?_
       refine AO.sT rfl rfl (bD (decide_eq_false hc33)) ?_
       refine AO.c (Calm.pickF rfl (bD (decide_eq_false hc33)) rfl) ?_
       refine AO.mv rfl rfl ?_
       refine AO.sT rfl rfl rfl ?_
       refine AO.sT rfl rfl rfl ?_
       refine AO.sT rfl rfl rfl ?_
       refine AO.sT rfl rfl rfl ?_
       refine AO.c (Calm.pickF rfl rfl rfl) ?_
       cases hq32
       refine AO.nilE ⟨rfl, rfl⟩ ?_ ?_
       · exact ⟨rfl, rfl, rfl, rfl, rfl, rfl, rfl, rfl, trivial⟩
       · exact (Sub.refl _)
     ·rcases of_ite h with ⟨hc36, h⟩ | ⟨hc36, h⟩
      ·refine AW.condT' _ rfl hc36 ?_
       refine AW.reg ?_
       refine AO.mv rfl rfl ?_
       refine AO.mv rfl rfl ?_
       obtain ⟨hg37, h⟩ := of_guard h
       refine AO.c (Calm.idxO 0 rfl rfl rfl rfl hg37 Try.underlying98 sz4) ?_
       refine AO.store (X' := (.ar 1 ((lset x24 (lget p0.f2 x25) true).map eBool))) 0 rfl rfl rfl rfl rfl rfl (Put.cast (Put.lidx (lget p0.f2 x25) true hg37.1 hg37.2 Put.here) (by omega)) rfl rfl sz4 rfl ?_
       refine AO.coe 5 (y' := (.own n4 0 (lset x24 (lget p0.f2 x25) true).length)) rfl (fun _ _ h => lset_own h) ?_
       refine AO.coe 38 (y' := (.own n4 0 (lset x24 (lget p0.f2 x25) true).length)) rfl (fun _ _ h => lset_own h) ?_
       refine AO.nK [1, 5, 6, 18, 19, 20] ?_
       exact ⟨(lset x24 (lget p0.f2 x25) true), rfl, rfl, h⟩
      ·refine AW.condF' _ rfl hc36 ?_
       refine AW.sK [1, 5, 6, 18, 19, 20] ?_
       exact ⟨x24, rfl, rfl, h⟩
    ·rintro _ _ ⟨x29, rfl, rfl, h⟩
     rw [F29_c4.eq_1] at h
     refine AW.reg ?_
     refine AO.c (x := eI64 (w64 (x25 + (1 : Int)))) (Calm.int rfl rfl rfl rfl) ?_
     refine AO.mv rfl rfl ?_
     refine AO.nK [1, 5, 6, 18, 19, 20] ?_
     exact ⟨kq27, Nat.lt_succ_self _, x29, (w64 (x25 + (1 : Int))), rfl, rfl, by rw [hrec26]; exact h⟩
   ·refine AW.condN _ rfl hc28 ?_
    refine AW.eK [5] ?_
    exact ⟨x24, rfl, rfl, h⟩
  ·rintro _ _ ⟨x7, rfl, rfl, h⟩
   rw [F29_c3.eq_1] at h
   refine AW.sr ?_
   refine AO.ag rfl rfl ?_
   refine AO.nK [5, 9] ?_
   refine AW.seq_mid (fun ρ H => ∃ (n8 : Nat) (x9 : (List Int)), ρ = [(9, (.own n8 0 x9.length))] ∧ H = [(n8, (.mem (.ar 1 (x9.map eI64))))] ∧ F29_c0 k x9 = some r) ?_ ?_
   ·refine AW.sr ?_
    refine AO.mv rfl rfl ?_
    refine AO.c (Calm.lenOwn rfl rfl Try.underlying98) ?_
    refine AO.mv rfl rfl ?_
    refine AO.nK [9, 42, 43, 44] ?_
    refine AW.block ?_
    refine AW.nilOwn 9 1 rfl fun n23 => ?_
    refine AW.wK [9, 42, 43, 44] ?_
    refine AW.loop (fun kq ρ H => ∃ (n10 : Nat) (x11 : (List Int)) (x12 : Int), ρ = [(9, (.own n10 0 x11.length)), (42, (.own n4 0 x7.length)), (43, (eI64 (x7.length : Int))), (44, (eI64 x12))] ∧ H = [(n10, (.mem (.ar 1 (x11.map eI64)))), (n4, (.mem (.ar 1 (x7.map eBool))))] ∧ F29_l2 k x7 kq x11 x12 = some r) k ⟨n23, ([] : List Int), (0 : Int), rfl, rfl, h⟩ ?_
    rintro kq14 _ _ ⟨n10, x11, x12, rfl, rfl, h⟩
    cases kq14 with
    | zero => rw [F29_l2.eq_1] at h; cases h
    | succ kq14 =>
    rw [F29_l2.eq_2] at h
    generalize hrec13 : F29_l2 k x7 kq14 = rec13 at h
    refine AW.sr ?_
    refine AO.c (x := eBool (decide (x12 < (x7.length : Int)))) (Calm.int rfl rfl rfl rfl) ?_
    refine AO.nK [9, 42, 43, 44, 45] ?_
    refine AW.seq ?_
    rcases of_ite h with ⟨hc15, h⟩ | ⟨hc15, h⟩
    ·refine AW.condP _ rfl hc15 ?_
     refine AW.sK [9, 42, 43, 44] ?_
     refine AW.seq_mid (fun ρ H => ∃ (n16 : Nat) (x17 : (List Int)), ρ = [(9, (.own n16 0 x17.length)), (42, (.own n4 0 x7.length)), (43, (eI64 (x7.length : Int))), (44, (eI64 x12))] ∧ H = [(n16, (.mem (.ar 1 (x17.map eI64)))), (n4, (.mem (.ar 1 (x7.map eBool))))] ∧ F29_c1 k rec13 x12 x17 = some r) ?_ ?_
     ·refine AW.block ?_
      refine AW.sr ?_
      refine AO.mv rfl rfl ?_
      obtain ⟨hg18, h⟩ := of_guard h
      refine AO.c (Calm.idxO 1 rfl rfl rfl rfl hg18 Try.underlying98 sz4) ?_
      refine AO.c (Calm.load 1 rfl rfl rfl (At.cast (At.lidx x12 hg18.1 hg18.2 At.here) (by omega)) ag4 sz4) ?_
      refine AO.ag rfl rfl ?_
      refine AO.ag rfl rfl ?_
      refine AO.nK [9, 10, 11, 42, 43, 44] ?_
      refine AW.sr ?_
      refine AO.mv rfl rfl ?_
      refine AO.c (Calm.not rfl rfl) ?_
      refine AO.nK [9, 10, 42, 43, 44, 50] ?_
      rcases of_ite h with ⟨hc19, h⟩ | ⟨hc19, h⟩
      ·refine AW.condT' _ rfl hc19 ?_
       refine AW.reg ?_
       refine AO.mv rfl rfl ?_
       refine AO.mv rfl rfl ?_
       refine AO.lit (Z := (eI64 (0 : Int))) (xs := (([x12] : List Int).map eI64)) (qs := [(0, (eI64 x12))]) rfl 53 rfl (by decide) rfl ⟨rfl, rfl, rfl, trivial⟩ Try.underlying35 sz3 zr3 lay3 rfl (by decide) (litOK (z := 1) [(eI64 x12)] rfl ⟨⟨rfl, rfl⟩, trivial⟩) rfl fun n20 => ?_
       obtain ⟨hg22, h⟩ := of_guard h
       refine AO.appendL (l := x11) (m := ([x12] : List Int)) 1 54 rfl (by decide) rfl rfl rfl rfl rfl (Src.ownL (f := eI64) (l := ([x12] : List Int)) 0 rfl) Try.underlying35 Try.underlying35 sz3 by3 zr3 rfl hg22 (by decide) fun n21 => ?_
       refine AO.ag rfl rfl ?_
       refine AO.nH [9, 42, 43, 44] (H' := [(n21, (.mem (.ar 1 ((x11 ++ ([x12] : List Int)).map eI64)))), (n4, (.mem (.ar 1 (x7.map eBool))))]) (Sub.cons 1 rfl (Sub.cons 1 rfl (Sub.nil _))) ?_
       exact ⟨n21, (x11 ++ ([x12] : List Int)), rfl, rfl, h⟩
      ·refine AW.condF' _ rfl hc19 ?_
       refine AW.sK [9, 42, 43, 44] ?_
       exact ⟨n10, x11, rfl, rfl, h⟩
     ·rintro _ _ ⟨n16, x17, rfl, rfl, h⟩
      rw [F29_c1.eq_1] at h
      refine AW.reg ?_
      refine AO.c (x := eI64 (w64 (x12 + (1 : Int)))) (Calm.int rfl rfl rfl rfl) ?_
      refine AO.mv rfl rfl ?_
      refine AO.nK [9, 42, 43, 44] ?_
      exact ⟨kq14, Nat.lt_succ_self _, n16, x17, (w64 (x12 + (1 : Int))), rfl, rfl, by rw [hrec13]; exact h⟩
    ·refine AW.condN _ rfl hc15 ?_
     refine AW.eH [9] (H' := [(n10, (.mem (.ar 1 (x11.map eI64))))]) (Sub.cons 0 rfl (Sub.nil _)) ?_
     exact ⟨n10, x11, rfl, rfl, h⟩
   ·rintro _ _ ⟨n8, x9, rfl, rfl, h⟩
    rw [F29_c0.eq_1] at h
    refine AW.sr ?_
    refine AO.mv rfl rfl ?_
    refine AO.ag rfl rfl ?_
    refine AO.nK [4] ?_
    refine AW.freezeS 0 [(4, (.fz 1 (x9.map eI64)))] rfl ⟨fz_all rfl, trivial⟩ ?_
    refine AW.rK [4] ?_
    have hr := Option.some.inj h
    subst hr
    exact ⟨[(.fz 1 (x9.map eI64))], ⟨rfl, rfl, trivial⟩, rfl⟩
end Go.Avl.T7
/- bosket/bosketlaw11.awake; printed by avmain.py. -/
namespace Go.Avl.T7
open Go Go.RowKit Go.Proofs Go.Avl
set_option linter.unusedVariables false
set_option maxRecDepth 100000
set_option maxHeartbeats 4000000
attribute [local irreducible] AW AO AQ Spec SpecH Calm

def F26 (k : Nat) : Option Bool :=
  (F55 k [(S82.mk (ByteArray.mk #[105, 102]) (0 : Int) (ByteArray.mk #[105, 102])), (S82.mk (ByteArray.mk #[105, 100]) (0 : Int) (ByteArray.mk #[91, 97, 45, 122, 93, 43]))]).bind fun t2 =>
  Option.bind (α := Bool) (if t2.2 = (0 : Int) then (F35 k t2.1 (0 : Int) (ByteArray.mk #[105, 102])).bind fun t7 =>
  (F34 k t2.1 t7).bind fun t8 =>
  if t8 = (0 : Int) then (F35 k t2.1 (0 : Int) (ByteArray.mk #[105, 102, 115])).bind fun t10 =>
  (F34 k t2.1 t10).bind fun t11 =>
  if t11 = (1 : Int) then (F29 k t2.1 (2 : Int)).bind fun t13 =>
  some (decide ((t13.length : Int) = (0 : Int)))
  else some (false)
  else some (false)
  else some (false)) fun b4 =>
  some (b4)
theorem F26_spec {k : Nat}  {r : Bool} (h : F26 k = some r) : Spec Try.prog 26 [] (eBool r) := by
  rw [F26.eq_1] at h
  refine Spec.intro (res := [.tmp 0]) Try.func26 rfl rfl rfl (Nat.le_of_ble_eq_true rfl) ?_
  refine AW.sr ?_
  refine AO.ag rfl rfl ?_
  refine AO.nK [] ?_
  refine AW.sr ?_
  refine AO.c (x := .st [(1, (eStr (ByteArray.mk #[105, 102]))), (1, (eI64 (0 : Int))), (1, (eStr (ByteArray.mk #[105, 102])))]) (Calm.build (qs := [(0, (eStr (ByteArray.mk #[105, 102]))), (2, (eStr (ByteArray.mk #[105, 102])))]) rfl ⟨rfl, rfl, rfl, rfl, rfl, rfl, trivial⟩ Try.underlying82 rfl zr82 lay82 (.cons rfl rfl rfl rfl (Put.cast (Put.fld0 Put.here) rfl) (.cons rfl rfl rfl rfl (Put.cast (Put.fldS (Put.fldS (Put.fld0 Put.here))) rfl) .nil)) rfl) ?_
  refine AO.c (x := .st [(1, (eStr (ByteArray.mk #[105, 100]))), (1, (eI64 (0 : Int))), (1, (eStr (ByteArray.mk #[91, 97, 45, 122, 93, 43])))]) (Calm.build (qs := [(0, (eStr (ByteArray.mk #[105, 100]))), (2, (eStr (ByteArray.mk #[91, 97, 45, 122, 93, 43])))]) rfl ⟨rfl, rfl, rfl, rfl, rfl, rfl, trivial⟩ Try.underlying82 rfl zr82 lay82 (.cons rfl rfl rfl rfl (Put.cast (Put.fld0 Put.here) rfl) (.cons rfl rfl rfl rfl (Put.cast (Put.fldS (Put.fldS (Put.fld0 Put.here))) rfl) .nil)) rfl) ?_
  refine AO.lit (Z := (.st [(1, (eStr ByteArray.empty)), (1, (eI64 (0 : Int))), (1, (eStr ByteArray.empty))])) (xs := (([(S82.mk (ByteArray.mk #[105, 102]) (0 : Int) (ByteArray.mk #[105, 102])), (S82.mk (ByteArray.mk #[105, 100]) (0 : Int) (ByteArray.mk #[91, 97, 45, 122, 93, 43]))] : List S82).map e82)) (qs := [(0, (e82 (S82.mk (ByteArray.mk #[105, 102]) (0 : Int) (ByteArray.mk #[105, 102])))), (1, (e82 (S82.mk (ByteArray.mk #[105, 100]) (0 : Int) (ByteArray.mk #[91, 97, 45, 122, 93, 43]))))]) rfl 6 rfl (by decide) rfl ⟨rfl, rfl, rfl, rfl, rfl, rfl, trivial⟩ Try.underlying22 sz82 zr82 lay82 rfl (by decide) (litOK (z := 3) [(e82 (S82.mk (ByteArray.mk #[105, 102]) (0 : Int) (ByteArray.mk #[105, 102]))), (e82 (S82.mk (ByteArray.mk #[105, 100]) (0 : Int) (ByteArray.mk #[91, 97, 45, 122, 93, 43])))] rfl ⟨⟨rfl, rfl⟩, ⟨rfl, rfl⟩, trivial⟩) rfl fun n1 => ?_
  obtain ⟨t2, et2, h⟩ := of_bind h
  refine AO.freezeS 0 [(6, (.fz 3 (([(S82.mk (ByteArray.mk #[105, 102]) (0 : Int) (ByteArray.mk #[105, 102])), (S82.mk (ByteArray.mk #[105, 100]) (0 : Int) (ByteArray.mk #[91, 97, 45, 122, 93, 43]))] : List S82).map e82)))] rfl ⟨fz_all rfl, trivial⟩ ?_
  refine AO.callS [(.fz 3 (([(S82.mk (ByteArray.mk #[105, 102]) (0 : Int) (ByteArray.mk #[105, 102])), (S82.mk (ByteArray.mk #[105, 100]) (0 : Int) (ByteArray.mk #[91, 97, 45, 122, 93, 43]))] : List S82).map e82))] (.tup [(e55 t2.1), (eI64 t2.2)]) 7 rfl (by decide) ok55 rfl rfl rfl ⟨rfl, rfl, trivial⟩ (F55_spec et2) ?_
  refine AO.mv rfl rfl ?_
  refine AO.c (Calm.extract rfl rfl rfl) ?_
  refine AO.c (Calm.extract rfl rfl rfl) ?_
  refine AO.alloc rfl 1 rfl (by decide) rfl zr55 lay55 fun n3 => ?_
  refine AO.store (X' := (e55 t2.1)) 0 rfl rfl rfl rfl rfl rfl (Put.cast Put.here rfl) rfl rfl sz55 rfl ?_
  refine AO.ag rfl rfl ?_
  refine AO.nK [1, 2] ?_
  refine AW.seq ?_
  obtain ⟨b4, hq5, h⟩ := of_bind h
  refine AW.toM [(0, (eBool b4))] [] ?_ ?_
  ·rcases of_ite hq5 with ⟨hc6, hq5⟩ | ⟨hc6, hq5⟩
   ·obtain ⟨t7, et7, hq5⟩ := of_bind hq5
    obtain ⟨t8, et8, hq5⟩ := of_bind hq5
    rcases of_ite hq5 with ⟨hc9, hq5⟩ | ⟨hc9, hq5⟩
    ·obtain ⟨t10, et10, hq5⟩ := of_bind hq5
     obtain ⟨t11, et11, hq5⟩ := of_bind hq5
     rcases of_ite hq5 with ⟨hc12, hq5⟩ | ⟨hc12, hq5⟩
     ·obtain ⟨t13, et13, hq5⟩ := of_bind hq5
      refine AW.regAny (by rfl) (by decide +kernel) [(eI64 t2.2), (eBool (decide (t2.2 = (0 : Int)))), (eBool (decide (t2.2 = (0 : Int)))), (e55 t2.1), (e55 t2.1), (eI64 t7), (eI64 t8), (eBool (decide (t8 = (0 : Int)))), (eBool (decide (t8 = (0 : Int)))), (eBool (decide (t8 = (0 : Int)))), (e55 t2.1), (e55 t2.1), (eI64 t10), (eI64 t11), (eBool (decide (t11 = (1 : Int)))), (eBool (decide (t11 = (1 : Int)))), (eBool (decide (t11 = (1 : Int)))), (e55 t2.1), (.fz 1 (t13.map eI64)), (eI64 (t13.length : Int)), (eBool (decide ((t13.length : Int) = (0 : Int)))), (eBool (decide ((t13.length : Int) = (0 : Int)))), (eBool (decide ((t13.length : Int) = (0 : Int))))] [(1, (.ptr n3 0)), (2, (eI64 t2.2))] ⟨rfl, rfl, trivial⟩ rfl ?_ [(0, (eBool (decide ((t13.length : Int) = (0 : Int)))))] [] ⟨rfl, trivial⟩ (Sub.nil _) ?_
      ·refine ⟨?_, ?_, ?_, ?_, ?_, ?_, ?_, ?_, ?_, ?_, ?_, ?_, ?_, ?_, ?_, ?_, ?_, ?_, ?_, ?_, ?_, ?_, ?_, trivial⟩
       ·refine AO.wK [2] ?_
        refine AO.mv rfl rfl ?_
        exact AO.nE (d := 10) rfl ⟨⟨_, rfl, rfl⟩, Sub.refl _⟩
       ·refine AO.wK [10] ?_
        refine AO.c (x := eBool (decide (t2.2 = (0 : Int)))) (Calm.int rfl rfl rfl rfl) ?_
        exact AO.nE (d := 11) rfl ⟨⟨_, rfl, rfl⟩, Sub.refl _⟩
       ·refine AO.wK [11] ?_
        refine AO.mv rfl rfl ?_
        exact AO.nE (d := 12) rfl ⟨⟨_, rfl, rfl⟩, Sub.refl _⟩
       ·refine AO.wK [1, 12] ?_
        refine AO.cG rfl rfl (bD (decide_eq_true hc6)) (Calm.load 0 rfl rfl rfl (At.cast At.here rfl) ag55 sz55) ?_
        exact AO.nE (d := 13) rfl ⟨⟨_, rfl, rfl⟩, Sub.refl _⟩
       ·refine AO.wK [1, 12] ?_
        refine AO.cG rfl rfl (bD (decide_eq_true hc6)) (Calm.load 0 rfl rfl rfl (At.cast At.here rfl) ag55 sz55) ?_
        exact AO.nE (d := 14) rfl ⟨⟨_, rfl, rfl⟩, Sub.refl _⟩
       ·refine AO.wK [12, 14] ?_
        refine AO.callG 2 true 12 [(e55 t2.1), (eI64 (0 : Int)), (eStr (ByteArray.mk #[105, 102]))] (eI64 t7) 15 rfl (by decide) ok35 rfl rfl (bD (decide_eq_true hc6)) rfl rfl ⟨rfl, rfl, rfl, rfl, rfl, rfl, trivial⟩ (F35_spec et7) ?_
        exact AO.nE (d := 15) rfl ⟨⟨_, rfl, rfl⟩, Sub.refl _⟩
       ·refine AO.wK [12, 13, 15] ?_
        refine AO.callG 2 true 12 [(e55 t2.1), (eI64 t7)] (eI64 t8) 16 rfl (by decide) ok34 rfl rfl (bD (decide_eq_true hc6)) rfl rfl ⟨rfl, rfl, rfl, rfl, trivial⟩ (F34_spec et8) ?_
        exact AO.nE (d := 16) rfl ⟨⟨_, rfl, rfl⟩, Sub.refl _⟩
       ·refine AO.wK [12, 16] ?_
        refine AO.cG (x := eBool (decide (t8 = (0 : Int)))) rfl rfl (bD (decide_eq_true hc6)) (Calm.int rfl rfl rfl rfl) ?_
        exact AO.nE (d := 17) rfl ⟨⟨_, rfl, rfl⟩, Sub.refl _⟩
       ·refine AO.wK [12, 17] ?_
        refine AO.c (Calm.pickT rfl (bD (decide_eq_true hc6)) rfl) ?_
        exact AO.nE (d := 18) rfl ⟨⟨_, rfl, rfl⟩, Sub.refl _⟩
       ·refine AO.wK [18] ?_
        refine AO.mv rfl rfl ?_
        exact AO.nE (d := 19) rfl ⟨⟨_, rfl, rfl⟩, Sub.refl _⟩
       ·refine AO.wK [1, 19] ?_
        refine AO.cG rfl rfl (bD (decide_eq_true hc9)) (Calm.load 0 rfl rfl rfl (At.cast At.here rfl) ag55 sz55) ?_
        exact AO.nE (d := 20) rfl ⟨⟨_, rfl, rfl⟩, Sub.refl _⟩
       ·refine AO.wK [1, 19] ?_
        refine AO.cG rfl rfl (bD (decide_eq_true hc9)) (Calm.load 0 rfl rfl rfl (At.cast At.here rfl) ag55 sz55) ?_
        exact AO.nE (d := 21) rfl ⟨⟨_, rfl, rfl⟩, Sub.refl _⟩
       ·refine AO.wK [19, 21] ?_
        refine AO.callG 9 true 19 [(e55 t2.1), (eI64 (0 : Int)), (eStr (ByteArray.mk #[105, 102, 115]))] (eI64 t10) 22 rfl (by decide) ok35 rfl rfl (bD (decide_eq_true hc9)) rfl rfl ⟨rfl, rfl, rfl, rfl, rfl, rfl, trivial⟩ (F35_spec et10) ?_
        exact AO.nE (d := 22) rfl ⟨⟨_, rfl, rfl⟩, Sub.refl _⟩
       ·refine AO.wK [19, 20, 22] ?_
        refine AO.callG 9 true 19 [(e55 t2.1), (eI64 t10)] (eI64 t11) 23 rfl (by decide) ok34 rfl rfl (bD (decide_eq_true hc9)) rfl rfl ⟨rfl, rfl, rfl, rfl, trivial⟩ (F34_spec et11) ?_
        exact AO.nE (d := 23) rfl ⟨⟨_, rfl, rfl⟩, Sub.refl _⟩
       ·refine AO.wK [19, 23] ?_
        refine AO.cG (x := eBool (decide (t11 = (1 : Int)))) rfl rfl (bD (decide_eq_true hc9)) (Calm.int rfl rfl rfl rfl) ?_
        exact AO.nE (d := 24) rfl ⟨⟨_, rfl, rfl⟩, Sub.refl _⟩
       ·refine AO.wK [19, 24] ?_
        refine AO.c (Calm.pickT rfl (bD (decide_eq_true hc9)) rfl) ?_
        exact AO.nE (d := 25) rfl ⟨⟨_, rfl, rfl⟩, Sub.refl _⟩
       ·refine AO.wK [25] ?_
        refine AO.mv rfl rfl ?_
        exact AO.nE (d := 26) rfl ⟨⟨_, rfl, rfl⟩, Sub.refl _⟩
       ·refine AO.wK [1, 26] ?_
        refine AO.cG rfl rfl (bD (decide_eq_true hc12)) (Calm.load 0 rfl rfl rfl (At.cast At.here rfl) ag55 sz55) ?_
        exact AO.nE (d := 27) rfl ⟨⟨_, rfl, rfl⟩, Sub.refl _⟩
       ·refine AO.wK [26, 27] ?_
        refine AO.callG 16 true 26 [(e55 t2.1), (eI64 (2 : Int))] (.fz 1 (t13.map eI64)) 28 rfl (by decide) ok29 rfl rfl (bD (decide_eq_true hc12)) rfl rfl ⟨rfl, rfl, rfl, rfl, trivial⟩ (F29_spec et13) ?_
        exact AO.nE (d := 28) rfl ⟨⟨_, rfl, rfl⟩, Sub.refl _⟩
       ·refine AO.wK [26, 28] ?_
        refine AO.cG rfl rfl (bD (decide_eq_true hc12)) (Calm.lenL rfl rfl Try.underlying35) ?_
        exact AO.nE (d := 29) rfl ⟨⟨_, rfl, rfl⟩, Sub.refl _⟩
       ·refine AO.wK [26, 29] ?_
        refine AO.cG (x := eBool (decide ((t13.length : Int) = (0 : Int)))) rfl rfl (bD (decide_eq_true hc12)) (Calm.int rfl rfl rfl rfl) ?_
        exact AO.nE (d := 30) rfl ⟨⟨_, rfl, rfl⟩, Sub.refl _⟩
       ·refine AO.wK [26, 30] ?_
        refine AO.c (Calm.pickT rfl (bD (decide_eq_true hc12)) rfl) ?_
        exact AO.nE (d := 31) rfl ⟨⟨_, rfl, rfl⟩, Sub.refl _⟩
       ·refine AO.wK [31] ?_
        refine AO.ag rfl rfl ?_
        exact AO.nE (d := 0) rfl ⟨⟨_, rfl, rfl⟩, Sub.refl _⟩
      ·cases hq5
       exact ⟨rfl, rfl, rfl⟩
     ·refine AW.regAny (by rfl) (by decide +kernel) [(eI64 t2.2), (eBool (decide (t2.2 = (0 : Int)))), (eBool (decide (t2.2 = (0 : Int)))), (e55 t2.1), (e55 t2.1), (eI64 t7), (eI64 t8), (eBool (decide (t8 = (0 : Int)))), (eBool (decide (t8 = (0 : Int)))), (eBool (decide (t8 = (0 : Int)))), (e55 t2.1), (e55 t2.1), (eI64 t10), (eI64 t11), (eBool (decide (t11 = (1 : Int)))), (eBool (decide (t11 = (1 : Int)))), (eBool (decide (t11 = (1 : Int)))), (.fl undef), (.fl undef), (.fl undef), (.fl undef), (eBool false), (eBool false)] [(1, (.ptr n3 0)), (2, (eI64 t2.2))] ⟨rfl, rfl, trivial⟩ rfl ?_ [(0, (eBool false))] [] ⟨rfl, trivial⟩ (Sub.nil _) ?_
      ·refine ⟨?_, ?_, ?_, ?_, ?_, ?_, ?_, ?_, ?_, ?_, ?_, ?_, ?_, ?_, ?_, ?_, ?_, ?_, ?_, ?_, ?_, ?_, ?_, trivial⟩
       ·refine AO.wK [2] ?_
        refine AO.mv rfl rfl ?_
        exact AO.nE (d := 10) rfl ⟨⟨_, rfl, rfl⟩, Sub.refl _⟩
       ·refine AO.wK [10] ?_
        refine AO.c (x := eBool (decide (t2.2 = (0 : Int)))) (Calm.int rfl rfl rfl rfl) ?_
        exact AO.nE (d := 11) rfl ⟨⟨_, rfl, rfl⟩, Sub.refl _⟩
       ·refine AO.wK [11] ?_
        refine AO.mv rfl rfl ?_
        exact AO.nE (d := 12) rfl ⟨⟨_, rfl, rfl⟩, Sub.refl _⟩
       ·refine AO.wK [1, 12] ?_
        refine AO.cG rfl rfl (bD (decide_eq_true hc6)) (Calm.load 0 rfl rfl rfl (At.cast At.here rfl) ag55 sz55) ?_
        exact AO.nE (d := 13) rfl ⟨⟨_, rfl, rfl⟩, Sub.refl _⟩
       ·refine AO.wK [1, 12] ?_
        refine AO.cG rfl rfl (bD (decide_eq_true hc6)) (Calm.load 0 rfl rfl rfl (At.cast At.here rfl) ag55 sz55) ?_
        exact AO.nE (d := 14) rfl ⟨⟨_, rfl, rfl⟩, Sub.refl _⟩
       ·refine AO.wK [12, 14] ?_
        refine AO.callG 2 true 12 [(e55 t2.1), (eI64 (0 : Int)), (eStr (ByteArray.mk #[105, 102]))] (eI64 t7) 15 rfl (by decide) ok35 rfl rfl (bD (decide_eq_true hc6)) rfl rfl ⟨rfl, rfl, rfl, rfl, rfl, rfl, trivial⟩ (F35_spec et7) ?_
        exact AO.nE (d := 15) rfl ⟨⟨_, rfl, rfl⟩, Sub.refl _⟩
       ·refine AO.wK [12, 13, 15] ?_
        refine AO.callG 2 true 12 [(e55 t2.1), (eI64 t7)] (eI64 t8) 16 rfl (by decide) ok34 rfl rfl (bD (decide_eq_true hc6)) rfl rfl ⟨rfl, rfl, rfl, rfl, trivial⟩ (F34_spec et8) ?_
        exact AO.nE (d := 16) rfl ⟨⟨_, rfl, rfl⟩, Sub.refl _⟩
       ·refine AO.wK [12, 16] ?_
        refine AO.cG (x := eBool (decide (t8 = (0 : Int)))) rfl rfl (bD (decide_eq_true hc6)) (Calm.int rfl rfl rfl rfl) ?_
        exact AO.nE (d := 17) rfl ⟨⟨_, rfl, rfl⟩, Sub.refl _⟩
       ·refine AO.wK [12, 17] ?_
        refine AO.c (Calm.pickT rfl (bD (decide_eq_true hc6)) rfl) ?_
        exact AO.nE (d := 18) rfl ⟨⟨_, rfl, rfl⟩, Sub.refl _⟩
       ·refine AO.wK [18] ?_
        refine AO.mv rfl rfl ?_
        exact AO.nE (d := 19) rfl ⟨⟨_, rfl, rfl⟩, Sub.refl _⟩
       ·refine AO.wK [1, 19] ?_
        refine AO.cG rfl rfl (bD (decide_eq_true hc9)) (Calm.load 0 rfl rfl rfl (At.cast At.here rfl) ag55 sz55) ?_
        exact AO.nE (d := 20) rfl ⟨⟨_, rfl, rfl⟩, Sub.refl _⟩
       ·refine AO.wK [1, 19] ?_
        refine AO.cG rfl rfl (bD (decide_eq_true hc9)) (Calm.load 0 rfl rfl rfl (At.cast At.here rfl) ag55 sz55) ?_
        exact AO.nE (d := 21) rfl ⟨⟨_, rfl, rfl⟩, Sub.refl _⟩
       ·refine AO.wK [19, 21] ?_
        refine AO.callG 9 true 19 [(e55 t2.1), (eI64 (0 : Int)), (eStr (ByteArray.mk #[105, 102, 115]))] (eI64 t10) 22 rfl (by decide) ok35 rfl rfl (bD (decide_eq_true hc9)) rfl rfl ⟨rfl, rfl, rfl, rfl, rfl, rfl, trivial⟩ (F35_spec et10) ?_
        exact AO.nE (d := 22) rfl ⟨⟨_, rfl, rfl⟩, Sub.refl _⟩
       ·refine AO.wK [19, 20, 22] ?_
        refine AO.callG 9 true 19 [(e55 t2.1), (eI64 t10)] (eI64 t11) 23 rfl (by decide) ok34 rfl rfl (bD (decide_eq_true hc9)) rfl rfl ⟨rfl, rfl, rfl, rfl, trivial⟩ (F34_spec et11) ?_
        exact AO.nE (d := 23) rfl ⟨⟨_, rfl, rfl⟩, Sub.refl _⟩
       ·refine AO.wK [19, 23] ?_
        refine AO.cG (x := eBool (decide (t11 = (1 : Int)))) rfl rfl (bD (decide_eq_true hc9)) (Calm.int rfl rfl rfl rfl) ?_
        exact AO.nE (d := 24) rfl ⟨⟨_, rfl, rfl⟩, Sub.refl _⟩
       ·refine AO.wK [19, 24] ?_
        refine AO.c (Calm.pickT rfl (bD (decide_eq_true hc9)) rfl) ?_
        exact AO.nE (d := 25) rfl ⟨⟨_, rfl, rfl⟩, Sub.refl _⟩
       ·refine AO.wK [25] ?_
        refine AO.mv rfl rfl ?_
        exact AO.nE (d := 26) rfl ⟨⟨_, rfl, rfl⟩, Sub.refl _⟩
       ·refine AO.wK [26] ?_
        refine AO.sT rfl rfl (bD (decide_eq_false hc12)) ?_
        exact AO.nE (d := 27) rfl ⟨⟨_, rfl, rfl⟩, Sub.refl _⟩
       ·refine AO.wK [26] ?_
        refine AO.sT rfl rfl (bD (decide_eq_false hc12)) ?_
        exact AO.nE (d := 28) rfl ⟨⟨_, rfl, rfl⟩, Sub.refl _⟩
       ·refine AO.wK [26] ?_
        refine AO.sT rfl rfl (bD (decide_eq_false hc12)) ?_
        exact AO.nE (d := 29) rfl ⟨⟨_, rfl, rfl⟩, Sub.refl _⟩
       ·refine AO.wK [26] ?_
        refine AO.sT rfl rfl (bD (decide_eq_false hc12)) ?_
        exact AO.nE (d := 30) rfl ⟨⟨_, rfl, rfl⟩, Sub.refl _⟩
       ·refine AO.wK [26, 30] ?_
        refine AO.c (Calm.pickF rfl (bD (decide_eq_false hc12)) rfl) ?_
        exact AO.nE (d := 31) rfl ⟨⟨_, rfl, rfl⟩, Sub.refl _⟩
       ·refine AO.wK [31] ?_
        refine AO.ag rfl rfl ?_
        exact AO.nE (d := 0) rfl ⟨⟨_, rfl, rfl⟩, Sub.refl _⟩
      ·cases hq5
       exact ⟨rfl, rfl, rfl⟩
    ·refine AW.regAny (by rfl) (by decide +kernel) [(eI64 t2.2), (eBool (decide (t2.2 = (0 : Int)))), (eBool (decide (t2.2 = (0 : Int)))), (e55 t2.1), (e55 t2.1), (eI64 t7), (eI64 t8), (eBool (decide (t8 = (0 : Int)))), (eBool (decide (t8 = (0 : Int)))), (eBool (decide (t8 = (0 : Int)))), (.fl undef), (.fl undef), (.fl undef), (.fl undef), (.fl undef), (eBool false), (eBool false), (.fl undef), (.fl undef), (.fl undef), (.fl undef), (eBool false), (eBool false)] [(1, (.ptr n3 0)), (2, (eI64 t2.2))] ⟨rfl, rfl, trivial⟩ rfl ?_ [(0, (eBool false))] [] ⟨rfl, trivial⟩ (Sub.nil _) ?_
     ·refine ⟨?_, ?_, ?_, ?_, ?_, ?_, ?_, ?_, ?_, ?_, ?_, ?_, ?_, ?_, ?_, ?_, ?_, ?_, ?_, ?_, ?_, ?_, ?_, trivial⟩
      ·refine AO.wK [2] ?_
       refine AO.mv rfl rfl ?_
       exact AO.nE (d := 10) rfl ⟨⟨_, rfl, rfl⟩, Sub.refl _⟩
      ·refine AO.wK [10] ?_
       refine AO.c (x := eBool (decide (t2.2 = (0 : Int)))) (Calm.int rfl rfl rfl rfl) ?_
       exact AO.nE (d := 11) rfl ⟨⟨_, rfl, rfl⟩, Sub.refl _⟩
      ·refine AO.wK [11] ?_
       refine AO.mv rfl rfl ?_
       exact AO.nE (d := 12) rfl ⟨⟨_, rfl, rfl⟩, Sub.refl _⟩
      ·refine AO.wK [1, 12] ?_
       refine AO.cG rfl rfl (bD (decide_eq_true hc6)) (Calm.load 0 rfl rfl rfl (At.cast At.here rfl) ag55 sz55) ?_
       exact AO.nE (d := 13) rfl ⟨⟨_, rfl, rfl⟩, Sub.refl _⟩
      ·refine AO.wK [1, 12] ?_
       refine AO.cG rfl rfl (bD (decide_eq_true hc6)) (Calm.load 0 rfl rfl rfl (At.cast At.here rfl) ag55 sz55) ?_
       exact AO.nE (d := 14) rfl ⟨⟨_, rfl, rfl⟩, Sub.refl _⟩
      ·refine AO.wK [12, 14] ?_
       refine AO.callG 2 true 12 [(e55 t2.1), (eI64 (0 : Int)), (eStr (ByteArray.mk #[105, 102]))] (eI64 t7) 15 rfl (by decide) ok35 rfl rfl (bD (decide_eq_true hc6)) rfl rfl ⟨rfl, rfl, rfl, rfl, rfl, rfl, trivial⟩ (F35_spec et7) ?_
       exact AO.nE (d := 15) rfl ⟨⟨_, rfl, rfl⟩, Sub.refl _⟩
      ·refine AO.wK [12, 13, 15] ?_
       refine AO.callG 2 true 12 [(e55 t2.1), (eI64 t7)] (eI64 t8) 16 rfl (by decide) ok34 rfl rfl (bD (decide_eq_true hc6)) rfl rfl ⟨rfl, rfl, rfl, rfl, trivial⟩ (F34_spec et8) ?_
       exact AO.nE (d := 16) rfl ⟨⟨_, rfl, rfl⟩, Sub.refl _⟩
      ·refine AO.wK [12, 16] ?_
       refine AO.cG (x := eBool (decide (t8 = (0 : Int)))) rfl rfl (bD (decide_eq_true hc6)) (Calm.int rfl rfl rfl rfl) ?_
       exact AO.nE (d := 17) rfl ⟨⟨_, rfl, rfl⟩, Sub.refl _⟩
      ·refine AO.wK [12, 17] ?_
       refine AO.c (Calm.pickT rfl (bD (decide_eq_true hc6)) rfl) ?_
       exact AO.nE (d := 18) rfl ⟨⟨_, rfl, rfl⟩, Sub.refl _⟩
      ·refine AO.wK [18] ?_
       refine AO.mv rfl rfl ?_
       exact AO.nE (d := 19) rfl ⟨⟨_, rfl, rfl⟩, Sub.refl _⟩
      ·refine AO.wK [19] ?_
       refine AO.sT rfl rfl (bD (decide_eq_false hc9)) ?_
       exact AO.nE (d := 20) rfl ⟨⟨_, rfl, rfl⟩, Sub.refl _⟩
      ·refine AO.wK [19] ?_
       refine AO.sT rfl rfl (bD (decide_eq_false hc9)) ?_
       exact AO.nE (d := 21) rfl ⟨⟨_, rfl, rfl⟩, Sub.refl _⟩
      ·refine AO.wK [19] ?_
       refine AO.sT rfl rfl (bD (decide_eq_false hc9)) ?_
       exact AO.nE (d := 22) rfl ⟨⟨_, rfl, rfl⟩, Sub.refl _⟩
      ·refine AO.wK [19] ?_
       refine AO.sT rfl rfl (bD (decide_eq_false hc9)) ?_
       exact AO.nE (d := 23) rfl ⟨⟨_, rfl, rfl⟩, Sub.refl _⟩
      ·refine AO.wK [19] ?_
       refine AO.sT rfl rfl (bD (decide_eq_false hc9)) ?_
       exact AO.nE (d := 24) rfl ⟨⟨_, rfl, rfl⟩, Sub.refl _⟩
      ·refine AO.wK [19, 24] ?_
       refine AO.c (Calm.pickF rfl (bD (decide_eq_false hc9)) rfl) ?_
       exact AO.nE (d := 25) rfl ⟨⟨_, rfl, rfl⟩, Sub.refl _⟩
      ·refine AO.wK [25] ?_
       refine AO.mv rfl rfl ?_
       exact AO.nE (d := 26) rfl ⟨⟨_, rfl, rfl⟩, Sub.refl _⟩
      ·refine AO.wK [26] ?_
       refine AO.sT rfl rfl rfl ?_
       exact AO.nE (d := 27) rfl ⟨⟨_, rfl, rfl⟩, Sub.refl _⟩
      ·refine AO.wK [26] ?_
       refine AO.sT rfl rfl rfl ?_
       exact AO.nE (d := 28) rfl ⟨⟨_, rfl, rfl⟩, Sub.refl _⟩
      ·refine AO.wK [26] ?_
       refine AO.sT rfl rfl rfl ?_
       exact AO.nE (d := 29) rfl ⟨⟨_, rfl, rfl⟩, Sub.refl _⟩
      ·refine AO.wK [26] ?_
       refine AO.sT rfl rfl rfl ?_
       exact AO.nE (d := 30) rfl ⟨⟨_, rfl, rfl⟩, Sub.refl _⟩
      ·refine AO.wK [26, 30] ?_
       refine AO.c (Calm.pickF rfl rfl rfl) ?_
       exact AO.nE (d := 31) rfl ⟨⟨_, rfl, rfl⟩, Sub.refl _⟩
      ·refine AO.wK [31] ?_
       refine AO.ag rfl rfl ?_
       exact AO.nE (d := 0) rfl ⟨⟨_, rfl, rfl⟩, Sub.refl _⟩
     ·cases hq5
      exact ⟨rfl, rfl, rfl⟩
   ·refine AW.regAny (by rfl) (by decide +kernel) [(eI64 t2.2), (eBool (decide (t2.2 = (0 : Int)))), (eBool (decide (t2.2 = (0 : Int)))), (.fl undef), (.fl undef), (.fl undef), (.fl undef), (.fl undef), (eBool false), (eBool false), (.fl undef), (.fl undef), (.fl undef), (.fl undef), (.fl undef), (eBool false), (eBool false), (.fl undef), (.fl undef), (.fl undef), (.fl undef), (eBool false), (eBool false)] [(1, (.ptr n3 0)), (2, (eI64 t2.2))] ⟨rfl, rfl, trivial⟩ rfl ?_ [(0, (eBool false))] [] ⟨rfl, trivial⟩ (Sub.nil _) ?_
    ·refine ⟨?_, ?_, ?_, ?_, ?_, ?_, ?_, ?_, ?_, ?_, ?_, ?_, ?_, ?_, ?_, ?_, ?_, ?_, ?_, ?_, ?_, ?_, ?_, trivial⟩
     ·refine AO.wK [2] ?_
      refine AO.mv rfl rfl ?_
      exact AO.nE (d := 10) rfl ⟨⟨_, rfl, rfl⟩, Sub.refl _⟩
     ·refine AO.wK [10] ?_
      refine AO.c (x := eBool (decide (t2.2 = (0 : Int)))) (Calm.int rfl rfl rfl rfl) ?_
      exact AO.nE (d := 11) rfl ⟨⟨_, rfl, rfl⟩, Sub.refl _⟩
     ·refine AO.wK [11] ?_
      refine AO.mv rfl rfl ?_
      exact AO.nE (d := 12) rfl ⟨⟨_, rfl, rfl⟩, Sub.refl _⟩
     ·refine AO.wK [12] ?_
      refine AO.sT rfl rfl (bD (decide_eq_false hc6)) ?_
      exact AO.nE (d := 13) rfl ⟨⟨_, rfl, rfl⟩, Sub.refl _⟩
     ·refine AO.wK [12] ?_
      refine AO.sT rfl rfl (bD (decide_eq_false hc6)) ?_
      exact AO.nE (d := 14) rfl ⟨⟨_, rfl, rfl⟩, Sub.refl _⟩
     ·refine AO.wK [12] ?_
      refine AO.sT rfl rfl (bD (decide_eq_false hc6)) ?_
      exact AO.nE (d := 15) rfl ⟨⟨_, rfl, rfl⟩, Sub.refl _⟩
     ·refine AO.wK [12] ?_
      refine AO.sT rfl rfl (bD (decide_eq_false hc6)) ?_
      exact AO.nE (d := 16) rfl ⟨⟨_, rfl, rfl⟩, Sub.refl _⟩
     ·refine AO.wK [12] ?_
      refine AO.sT rfl rfl (bD (decide_eq_false hc6)) ?_
      exact AO.nE (d := 17) rfl ⟨⟨_, rfl, rfl⟩, Sub.refl _⟩
     ·refine AO.wK [12, 17] ?_
      refine AO.c (Calm.pickF rfl (bD (decide_eq_false hc6)) rfl) ?_
      exact AO.nE (d := 18) rfl ⟨⟨_, rfl, rfl⟩, Sub.refl _⟩
     ·refine AO.wK [18] ?_
      refine AO.mv rfl rfl ?_
      exact AO.nE (d := 19) rfl ⟨⟨_, rfl, rfl⟩, Sub.refl _⟩
     ·refine AO.wK [19] ?_
      refine AO.sT rfl rfl rfl ?_
      exact AO.nE (d := 20) rfl ⟨⟨_, rfl, rfl⟩, Sub.refl _⟩
     ·refine AO.wK [19] ?_
      refine AO.sT rfl rfl rfl ?_
      exact AO.nE (d := 21) rfl ⟨⟨_, rfl, rfl⟩, Sub.refl _⟩
     ·refine AO.wK [19] ?_
      refine AO.sT rfl rfl rfl ?_
      exact AO.nE (d := 22) rfl ⟨⟨_, rfl, rfl⟩, Sub.refl _⟩
     ·refine AO.wK [19] ?_
      refine AO.sT rfl rfl rfl ?_
      exact AO.nE (d := 23) rfl ⟨⟨_, rfl, rfl⟩, Sub.refl _⟩
     ·refine AO.wK [19] ?_
      refine AO.sT rfl rfl rfl ?_
      exact AO.nE (d := 24) rfl ⟨⟨_, rfl, rfl⟩, Sub.refl _⟩
     ·refine AO.wK [19, 24] ?_
      refine AO.c (Calm.pickF rfl rfl rfl) ?_
      exact AO.nE (d := 25) rfl ⟨⟨_, rfl, rfl⟩, Sub.refl _⟩
     ·refine AO.wK [25] ?_
      refine AO.mv rfl rfl ?_
      exact AO.nE (d := 26) rfl ⟨⟨_, rfl, rfl⟩, Sub.refl _⟩
     ·refine AO.wK [26] ?_
      refine AO.sT rfl rfl rfl ?_
      exact AO.nE (d := 27) rfl ⟨⟨_, rfl, rfl⟩, Sub.refl _⟩
     ·refine AO.wK [26] ?_
      refine AO.sT rfl rfl rfl ?_
      exact AO.nE (d := 28) rfl ⟨⟨_, rfl, rfl⟩, Sub.refl _⟩
     ·refine AO.wK [26] ?_
      refine AO.sT rfl rfl rfl ?_
      exact AO.nE (d := 29) rfl ⟨⟨_, rfl, rfl⟩, Sub.refl _⟩
     ·refine AO.wK [26] ?_
      refine AO.sT rfl rfl rfl ?_
      exact AO.nE (d := 30) rfl ⟨⟨_, rfl, rfl⟩, Sub.refl _⟩
     ·refine AO.wK [26, 30] ?_
      refine AO.c (Calm.pickF rfl rfl rfl) ?_
      exact AO.nE (d := 31) rfl ⟨⟨_, rfl, rfl⟩, Sub.refl _⟩
     ·refine AO.wK [31] ?_
      refine AO.ag rfl rfl ?_
      exact AO.nE (d := 0) rfl ⟨⟨_, rfl, rfl⟩, Sub.refl _⟩
    ·cases hq5
     exact ⟨rfl, rfl, rfl⟩
  ·refine AW.rK [0] ?_
   have hr := Option.some.inj h
   subst hr
   exact ⟨[(eBool b4)], ⟨rfl, rfl, trivial⟩, rfl⟩
end Go.Avl.T7
/- bosket/bosketlaw08.Small; printed by avmain.py. -/
namespace Go.Avl.T7
open Go Go.RowKit Go.Proofs Go.Avl
set_option linter.unusedVariables false
set_option maxRecDepth 100000
set_option maxHeartbeats 4000000
attribute [local irreducible] AW AO AQ Spec SpecH Calm

def F27_c0 (k : Nat) : Option Bool :=
  some (true)
def F27_l1 (k : Nat) (p0 : S55) : Nat → Int → Option Bool
  | 0, _ => none
  | j + 1, x7 =>
    if x7 < (p0.f1.length : Int) then if 0 ≤ x7 ∧ x7 < (p0.f1.length : Int) then if (256 : Int) < ((lget p0.f1 x7).length : Int) then some (false)
    else (F27_l1 k p0 j) (w64 (x7 + (1 : Int)))
    else none
    else F27_c0 k
def F27 (k : Nat) (p0 : S55) : Option Bool :=
  Option.bind (α := Bool) (if (20 : Int) < (p0.f1.length : Int) then some (true)
  else some (decide ((30 : Int) < (p0.f2.length : Int)))) fun b3 =>
  if b3 = true then some (false)
  else F27_l1 k p0 k (0 : Int)
theorem F27_spec {k : Nat} {p0 : S55} {r : Bool} (h : F27 k p0 = some r) : Spec Try.prog 27 [(e55 p0)] (eBool r) := by
  rw [F27.eq_1] at h
  refine Spec.intro (res := [.tmp 2]) Try.func27 rfl rfl rfl (Nat.le_of_ble_eq_true rfl) ?_
  refine AW.sr ?_
  refine AO.box rfl 1 rfl (by decide) rfl rfl rfl fun n2 => ?_
  refine AO.ag rfl rfl ?_
  refine AO.nK [1] ?_
  refine AW.seq ?_
  refine AW.seq ?_
  obtain ⟨b3, hq4, h⟩ := of_bind h
  refine AW.regM [(1, (.ptr n2 0)), (13, (eBool b3))] [(n2, (.mem (e55 p0)))] ?_ ?_
  ·refine AO.c (x := .ptr n2 256) (Calm.fldPtr rfl rfl Try.underlying55 rfl sz53 _ rfl) ?_
   refine AO.c (Calm.load 0 rfl rfl rfl (At.cast (At.fldS (At.fld0 At.here)) rfl) ag53 sz53) ?_
   refine AO.c (Calm.lenL rfl rfl Try.underlying53) ?_
   refine AO.c (x := eBool (decide ((20 : Int) < (p0.f1.length : Int)))) (Calm.int rfl rfl rfl rfl) ?_
   refine AO.mv rfl rfl ?_
   rcases of_ite hq4 with ⟨hc5, hq4⟩ | ⟨hc5, hq4⟩
   ·refine AO.sF rfl rfl (bD (decide_eq_true hc5)) ?_
    refine AO.sF rfl rfl (bD (decide_eq_true hc5)) ?_
    refine AO.sF rfl rfl (bD (decide_eq_true hc5)) ?_
    refine AO.sF rfl rfl (bD (decide_eq_true hc5)) ?_
    refine AO.c (Calm.pickT rfl (bD (decide_eq_true hc5)) rfl) ?_
    cases hq4
    refine AO.nilE ⟨rfl, rfl⟩ ?_ ?_
    · exact ⟨rfl, rfl, trivial⟩
    · exact (Sub.refl _)
   ·refine AO.cG (x := .ptr n2 257) rfl rfl (bD (decide_eq_false hc5)) (Calm.fldPtr rfl rfl Try.underlying55 rfl sz35 _ rfl) ?_
    refine AO.cG rfl rfl (bD (decide_eq_false hc5)) (Calm.load 0 rfl rfl rfl (At.cast (At.fldS (At.fldS (At.fld0 At.here))) rfl) ag35 sz35) ?_
    refine AO.cG rfl rfl (bD (decide_eq_false hc5)) (Calm.lenL rfl rfl Try.underlying35) ?_
    refine AO.cG (x := eBool (decide ((30 : Int) < (p0.f2.length : Int)))) rfl rfl (bD (decide_eq_false hc5)) (Calm.int rfl rfl rfl rfl) ?_
    refine AO.c (Calm.pickF rfl (bD (decide_eq_false hc5)) rfl) ?_
    cases hq4
    refine AO.nilE ⟨rfl, rfl⟩ ?_ ?_
    · exact ⟨rfl, rfl, trivial⟩
    · exact (Sub.refl _)
  ·rcases of_ite h with ⟨hc6, h⟩ | ⟨hc6, h⟩
   ·refine AW.condT' _ rfl hc6 ?_
    refine AW.sr ?_
    refine AO.ag rfl rfl ?_
    refine AO.nH [2] (H' := []) (Sub.nil _) ?_
    refine AW.rK [2] ?_
    have hr := Option.some.inj h
    subst hr
    exact ⟨[(eBool false)], ⟨rfl, rfl, trivial⟩, rfl⟩
   ·refine AW.condF' _ rfl hc6 ?_
    refine AW.sK [1] ?_
    refine AW.seq_mid (fun ρ H => ρ = [] ∧ H = [] ∧ F27_c0 k = some r) ?_ ?_
    ·refine AW.sr ?_
     refine AO.ag rfl rfl ?_
     refine AO.nK [1, 3] ?_
     refine AW.block ?_
     refine AW.wK [1, 3] ?_
     refine AW.loop (fun kq ρ H => ∃ (x7 : Int), ρ = [(1, (.ptr n2 0)), (3, (eI64 x7))] ∧ H = [(n2, (.mem (e55 p0)))] ∧ F27_l1 k p0 kq x7 = some r) k ⟨(0 : Int), rfl, rfl, h⟩ ?_
     rintro kq9 _ _ ⟨x7, rfl, rfl, h⟩
     cases kq9 with
     | zero => rw [F27_l1.eq_1] at h; cases h
     | succ kq9 =>
     rw [F27_l1.eq_2] at h
     generalize hrec8 : F27_l1 k p0 kq9 = rec8 at h
     refine AW.seq ?_
     refine AW.sr ?_
     refine AO.mv rfl rfl ?_
     refine AO.c (x := .ptr n2 256) (Calm.fldPtr rfl rfl Try.underlying55 rfl sz53 _ rfl) ?_
     refine AO.c (Calm.load 0 rfl rfl rfl (At.cast (At.fldS (At.fld0 At.here)) rfl) ag53 sz53) ?_
     refine AO.c (Calm.lenL rfl rfl Try.underlying53) ?_
     refine AO.c (x := eBool (decide (x7 < (p0.f1.length : Int)))) (Calm.int rfl rfl rfl rfl) ?_
     refine AO.nK [1, 3, 18] ?_
     rcases of_ite h with ⟨hc10, h⟩ | ⟨hc10, h⟩
     ·refine AW.condP _ rfl hc10 ?_
      refine AW.sK [1, 3] ?_
      refine AW.seq ?_
      refine AW.block ?_
      refine AW.sr ?_
      refine AO.c (x := .ptr n2 256) (Calm.fldPtr rfl rfl Try.underlying55 rfl sz53 _ rfl) ?_
      refine AO.c (Calm.load 0 rfl rfl rfl (At.cast (At.fldS (At.fld0 At.here)) rfl) ag53 sz53) ?_
      refine AO.mv rfl rfl ?_
      obtain ⟨hg11, h⟩ := of_guard h
      refine AO.c (Calm.idxL (f := e35) rfl rfl rfl hg11 Try.underlying53 sz35) ?_
      refine AO.c (Calm.loadRp rfl rfl ag35 sz35) ?_
      refine AO.c (Calm.lenL rfl rfl Try.underlying35) ?_
      refine AO.c (x := eBool (decide ((256 : Int) < ((lget p0.f1 x7).length : Int)))) (Calm.int rfl rfl rfl rfl) ?_
      refine AO.nK [1, 3, 27] ?_
      rcases of_ite h with ⟨hc12, h⟩ | ⟨hc12, h⟩
      ·refine AW.condP _ rfl hc12 ?_
       refine AW.sr ?_
       refine AO.ag rfl rfl ?_
       refine AO.nH [2] (H' := []) (Sub.nil _) ?_
       refine AW.rK [2] ?_
       have hr := Option.some.inj h
       subst hr
       exact ⟨[(eBool false)], ⟨rfl, rfl, trivial⟩, rfl⟩
      ·refine AW.condN _ rfl hc12 ?_
       refine AW.sK [1, 3] ?_
       refine AW.reg ?_
       refine AO.mv rfl rfl ?_
       refine AO.c (x := eI64 (w64 (x7 + (1 : Int)))) (Calm.int rfl rfl rfl rfl) ?_
       refine AO.ag rfl rfl ?_
       refine AO.nK [1, 3] ?_
       exact ⟨kq9, Nat.lt_succ_self _, (w64 (x7 + (1 : Int))), rfl, rfl, by rw [hrec8]; exact h⟩
     ·refine AW.condN _ rfl hc10 ?_
      refine AW.eH [] (H' := []) (Sub.nil _) ?_
      exact ⟨rfl, rfl, h⟩
    ·rintro _ _ ⟨rfl, rfl, h⟩
     rw [F27_c0.eq_1] at h
     refine AW.sr ?_
     refine AO.ag rfl rfl ?_
     refine AO.nK [2] ?_
     refine AW.rK [2] ?_
     have hr := Option.some.inj h
     subst hr
     exact ⟨[(eBool true)], ⟨rfl, rfl, trivial⟩, rfl⟩
end Go.Avl.T7
/- bosket/bosketref08.classes; printed by avmain.py. -/
namespace Go.Avl.T7
open Go Go.RowKit Go.Proofs Go.Avl
set_option linter.unusedVariables false
set_option maxRecDepth 100000
set_option maxHeartbeats 4000000
attribute [local irreducible] AW AO AQ Spec SpecH Calm

def F57_c0 (k : Nat) (x3 : Int) : Option Int :=
  some (x3)
def F57_l1 (k : Nat) (p0 : S55) : Nat → Int → Int → Option Int
  | 0, _, _ => none
  | j + 1, x4, x5 =>
    if x5 < (256 : Int) then if 0 ≤ x5 ∧ x5 < (256 : Int) then (F57_l1 k p0 j) (max x4 (w64 ((w64 (vget p0.f0 x5)) + (1 : Int)))) (w64 (x5 + (1 : Int)))
    else none
    else F57_c0 k x4
def F57 (k : Nat) (p0 : S55) : Option Int :=
  F57_l1 k p0 k (0 : Int) (0 : Int)
theorem F57_spec {k : Nat} {p0 : S55} {r : Int} (h : F57 k p0 = some r) : Spec Try.prog 57 [(e55 p0)] (eI64 r) := by
  rw [F57.eq_1] at h
  refine Spec.intro (res := [.tmp 2]) Try.func57 rfl rfl rfl (Nat.le_of_ble_eq_true rfl) ?_
  refine AW.sr ?_
  refine AO.box rfl 1 rfl (by decide) rfl rfl rfl fun n2 => ?_
  refine AO.ag rfl rfl ?_
  refine AO.nK [1] ?_
  refine AW.sr ?_
  refine AO.ag rfl rfl ?_
  refine AO.nK [1, 3] ?_
  refine AW.seq_mid (fun ρ H => ∃ (x3 : Int), ρ = [(3, (eI64 x3))] ∧ H = [] ∧ F57_c0 k x3 = some r) ?_ ?_
  ·refine AW.sr ?_
   refine AO.ag rfl rfl ?_
   refine AO.nK [1, 3, 4] ?_
   refine AW.block ?_
   refine AW.wK [1, 3, 4] ?_
   refine AW.loop (fun kq ρ H => ∃ (x4 : Int) (x5 : Int), ρ = [(1, (.ptr n2 0)), (3, (eI64 x4)), (4, (eI64 x5))] ∧ H = [(n2, (.mem (e55 p0)))] ∧ F57_l1 k p0 kq x4 x5 = some r) k ⟨(0 : Int), (0 : Int), rfl, rfl, h⟩ ?_
   rintro kq7 _ _ ⟨x4, x5, rfl, rfl, h⟩
   cases kq7 with
   | zero => rw [F57_l1.eq_1] at h; cases h
   | succ kq7 =>
   rw [F57_l1.eq_2] at h
   generalize hrec6 : F57_l1 k p0 kq7 = rec6 at h
   refine AW.seq ?_
   refine AW.sr ?_
   refine AO.mv rfl rfl ?_
   refine AO.c (x := eBool (decide (x5 < (256 : Int)))) (Calm.int rfl rfl rfl rfl) ?_
   refine AO.nK [1, 3, 4, 6] ?_
   rcases of_ite h with ⟨hc8, h⟩ | ⟨hc8, h⟩
   ·refine AW.condP _ rfl hc8 ?_
    refine AW.sK [1, 3, 4] ?_
    refine AW.seq ?_
    refine AW.block ?_
    refine AW.reg ?_
    refine AO.mv rfl rfl ?_
    refine AO.mv rfl rfl ?_
    refine AO.c (x := .ptr n2 0) (Calm.fldPtr rfl rfl Try.underlying55 rfl sz52 _ rfl) ?_
    obtain ⟨hg9, h⟩ := of_guard h
    refine AO.c (Calm.idxP rfl rfl rfl hg9 Try.underlying52 sz5) ?_
    refine AO.c (Calm.load 0 rfl rfl rfl (At.cast (At.fld0 (At.vidx x5 hg9.1 hg9.2 At.here)) (by omega)) ag5 sz5) ?_
    refine AO.c (x := eI64 (w64 (vget p0.f0 x5))) (Calm.conv rfl rfl Try.underlying5 Try.underlying3) ?_
    refine AO.c (x := eI64 (w64 ((w64 (vget p0.f0 x5)) + (1 : Int)))) (Calm.int rfl rfl rfl rfl) ?_
    refine AO.c (x := eI64 (max x4 (w64 ((w64 (vget p0.f0 x5)) + (1 : Int))))) (Calm.max2 rfl rfl rfl) ?_
    refine AO.ag rfl rfl ?_
    refine AO.nK [1, 3, 4] ?_
    refine AW.reg ?_
    refine AO.mv rfl rfl ?_
    refine AO.c (x := eI64 (w64 (x5 + (1 : Int)))) (Calm.int rfl rfl rfl rfl) ?_
    refine AO.ag rfl rfl ?_
    refine AO.nK [1, 3, 4] ?_
    exact ⟨kq7, Nat.lt_succ_self _, (max x4 (w64 ((w64 (vget p0.f0 x5)) + (1 : Int)))), (w64 (x5 + (1 : Int))), rfl, rfl, by rw [hrec6]; exact h⟩
   ·refine AW.condN _ rfl hc8 ?_
    refine AW.eH [3] (H' := []) (Sub.nil _) ?_
    exact ⟨x4, rfl, rfl, h⟩
  ·rintro _ _ ⟨x3, rfl, rfl, h⟩
   rw [F57_c0.eq_1] at h
   refine AW.sr ?_
   refine AO.mv rfl rfl ?_
   refine AO.ag rfl rfl ?_
   refine AO.nK [2] ?_
   refine AW.rK [2] ?_
   have hr := Option.some.inj h
   subst hr
   exact ⟨[(eI64 x3)], ⟨rfl, rfl, trivial⟩, rfl⟩
end Go.Avl.T7
/- bosket/bosketref08.gapless; printed by avmain.py. -/
namespace Go.Avl.T7
open Go Go.RowKit Go.Proofs Go.Avl
set_option linter.unusedVariables false
set_option maxRecDepth 100000
set_option maxHeartbeats 4000000
attribute [local irreducible] AW AO AQ Spec SpecH Calm

def F56_c0 (k : Nat) : Option Bool :=
  some (true)
def F56_c1 (k : Nat) (rec4 : (Int → Option Bool)) (x3 : Int) : Option Bool :=
  rec4 (w64 (x3 + (1 : Int)))
def F56_c2 (k : Nat) (rec4 : (Int → Option Bool)) (x3 : Int) (b8 : Bool) : Option Bool :=
  if (!b8) = true then some (false)
  else F56_c1 k rec4 x3
def F56_l3 (k : Nat) (rec4 : (Int → Option Bool)) (p0 : S55) (x3 : Int) : Nat → Bool → Int → Option Bool
  | 0, _, _ => none
  | j + 1, b10, x11 =>
    if x11 < (256 : Int) then Option.bind (α := Bool) (if b10 = true then some (true)
    else if 0 ≤ x11 ∧ x11 < (256 : Int) then some (decide ((w64 (vget p0.f0 x11)) = x3))
    else none) fun b15 =>
    (F56_l3 k rec4 p0 x3 j) b15 (w64 (x11 + (1 : Int)))
    else F56_c2 k rec4 x3 b10
def F56_l4 (k : Nat) (p0 : S55) : Nat → Int → Option Bool
  | 0, _ => none
  | j + 1, x3 =>
    (F57 k p0).bind fun t6 =>
    if x3 < t6 then F56_l3 k (F56_l4 k p0 j) p0 x3 k false (0 : Int)
    else F56_c0 k
def F56 (k : Nat) (p0 : S55) : Option Bool :=
  F56_l4 k p0 k (0 : Int)
theorem F56_spec {k : Nat} {p0 : S55} {r : Bool} (h : F56 k p0 = some r) : Spec Try.prog 56 [(e55 p0)] (eBool r) := by
  rw [F56.eq_1] at h
  refine Spec.intro (res := [.tmp 2]) Try.func56 rfl rfl rfl (Nat.le_of_ble_eq_true rfl) ?_
  refine AW.sr ?_
  refine AO.box rfl 1 rfl (by decide) rfl rfl rfl fun n2 => ?_
  refine AO.ag rfl rfl ?_
  refine AO.nK [1] ?_
  refine AW.seq_mid (fun ρ H => ρ = [] ∧ H = [] ∧ F56_c0 k = some r) ?_ ?_
  ·refine AW.sr ?_
   refine AO.ag rfl rfl ?_
   refine AO.nK [1, 3] ?_
   refine AW.block ?_
   refine AW.wK [1, 3] ?_
   refine AW.loop (fun kq ρ H => ∃ (x3 : Int), ρ = [(1, (.ptr n2 0)), (3, (eI64 x3))] ∧ H = [(n2, (.mem (e55 p0)))] ∧ F56_l4 k p0 kq x3 = some r) k ⟨(0 : Int), rfl, rfl, h⟩ ?_
   rintro kq5 _ _ ⟨x3, rfl, rfl, h⟩
   cases kq5 with
   | zero => rw [F56_l4.eq_1] at h; cases h
   | succ kq5 =>
   rw [F56_l4.eq_2] at h
   generalize hrec4 : F56_l4 k p0 kq5 = rec4 at h
   refine AW.seq ?_
   refine AW.sr ?_
   refine AO.mv rfl rfl ?_
   refine AO.c (Calm.load 0 rfl rfl rfl (At.cast At.here rfl) ag55 sz55) ?_
   obtain ⟨t6, et6, h⟩ := of_bind h
   refine AO.callS [(e55 p0)] (eI64 t6) 8 rfl (by decide) ok57 rfl rfl rfl ⟨rfl, rfl, trivial⟩ (F57_spec et6) ?_
   refine AO.c (x := eBool (decide (x3 < t6))) (Calm.int rfl rfl rfl rfl) ?_
   refine AO.nK [1, 3, 9] ?_
   rcases of_ite h with ⟨hc7, h⟩ | ⟨hc7, h⟩
   ·refine AW.condP _ rfl hc7 ?_
    refine AW.sK [1, 3] ?_
    refine AW.seq_mid (fun ρ H => ρ = [(1, (.ptr n2 0)), (3, (eI64 x3))] ∧ H = [(n2, (.mem (e55 p0)))] ∧ F56_c1 k rec4 x3 = some r) ?_ ?_
    ·refine AW.block ?_
     refine AW.sr ?_
     refine AO.ag rfl rfl ?_
     refine AO.nK [1, 3, 4] ?_
     refine AW.seq_mid (fun ρ H => ∃ (b8 : Bool), ρ = [(1, (.ptr n2 0)), (3, (eI64 x3)), (4, (eBool b8))] ∧ H = [(n2, (.mem (e55 p0)))] ∧ F56_c2 k rec4 x3 b8 = some r) ?_ ?_
     ·refine AW.sr ?_
      refine AO.ag rfl rfl ?_
      refine AO.nK [1, 3, 4, 5] ?_
      refine AW.block ?_
      refine AW.wK [1, 3, 4, 5] ?_
      refine AW.loop (fun kq ρ H => ∃ (b10 : Bool) (x11 : Int), ρ = [(1, (.ptr n2 0)), (3, (eI64 x3)), (4, (eBool b10)), (5, (eI64 x11))] ∧ H = [(n2, (.mem (e55 p0)))] ∧ F56_l3 k rec4 p0 x3 kq b10 x11 = some r) k ⟨false, (0 : Int), rfl, rfl, h⟩ ?_
      rintro kq13 _ _ ⟨b10, x11, rfl, rfl, h⟩
      cases kq13 with
      | zero => rw [F56_l3.eq_1] at h; cases h
      | succ kq13 =>
      rw [F56_l3.eq_2] at h
      generalize hrec12 : F56_l3 k rec4 p0 x3 kq13 = rec12 at h
      refine AW.seq ?_
      refine AW.sr ?_
      refine AO.mv rfl rfl ?_
      refine AO.c (x := eBool (decide (x11 < (256 : Int)))) (Calm.int rfl rfl rfl rfl) ?_
      refine AO.nK [1, 3, 4, 5, 13] ?_
      rcases of_ite h with ⟨hc14, h⟩ | ⟨hc14, h⟩
      ·refine AW.condP _ rfl hc14 ?_
       refine AW.sK [1, 3, 4, 5] ?_
       refine AW.seq ?_
       refine AW.block ?_
       obtain ⟨b15, hq16, h⟩ := of_bind h
       refine AW.regM [(1, (.ptr n2 0)), (3, (eI64 x3)), (4, (eBool b15)), (5, (eI64 x11))] [(n2, (.mem (e55 p0)))] ?_ ?_
       ·refine AO.mv rfl rfl ?_
        refine AO.mv rfl rfl ?_
        rcases of_ite hq16 with ⟨hc17, hq16⟩ | ⟨hc17, hq16⟩
        ·refine AO.sF rfl rfl (bD hc17) ?_
         refine AO.sF rfl rfl (bD hc17) ?_
         refine AO.sF rfl rfl (bD hc17) ?_
         refine AO.sF rfl rfl (bD hc17) ?_
         refine AO.sF rfl rfl (bD hc17) ?_
         refine AO.sF rfl rfl (bD hc17) ?_
         refine AO.sF rfl rfl (bD hc17) ?_
         refine AO.c (Calm.pickT rfl (bD hc17) rfl) ?_
         refine AO.ag rfl rfl ?_
         cases hq16
         refine AO.nilE ⟨rfl, rfl⟩ ?_ ?_
         · exact ⟨rfl, rfl, rfl, rfl, trivial⟩
         · exact (Sub.refl _)
        ·refine AO.cG rfl rfl (bD (eq_false_of_ne_true hc17)) (Calm.move rfl rfl) ?_
         refine AO.cG (x := .ptr n2 0) rfl rfl (bD (eq_false_of_ne_true hc17)) (Calm.fldPtr rfl rfl Try.underlying55 rfl sz52 _ rfl) ?_
         obtain ⟨hg18, hq16⟩ := of_guard hq16
         refine AO.cG rfl rfl (bD (eq_false_of_ne_true hc17)) (Calm.idxP rfl rfl rfl hg18 Try.underlying52 sz5) ?_
         refine AO.cG rfl rfl (bD (eq_false_of_ne_true hc17)) (Calm.load 0 rfl rfl rfl (At.cast (At.fld0 (At.vidx x11 hg18.1 hg18.2 At.here)) (by omega)) ag5 sz5) ?_
         refine AO.cG (x := eI64 (w64 (vget p0.f0 x11))) rfl rfl (bD (eq_false_of_ne_true hc17)) (Calm.conv rfl rfl Try.underlying5 Try.underlying3) ?_
         refine AO.cG rfl rfl (bD (eq_false_of_ne_true hc17)) (Calm.move rfl rfl) ?_
         refine AO.cG (x := eBool (decide ((w64 (vget p0.f0 x11)) = x3))) rfl rfl (bD (eq_false_of_ne_true hc17)) (Calm.int rfl rfl rfl rfl) ?_
         refine AO.c (Calm.pickF rfl (bD (eq_false_of_ne_true hc17)) rfl) ?_
         refine AO.ag rfl rfl ?_
         cases hq16
         refine AO.nilE ⟨rfl, rfl⟩ ?_ ?_
         · exact ⟨rfl, rfl, rfl, rfl, trivial⟩
         · exact (Sub.refl _)
       ·refine AW.reg ?_
        refine AO.mv rfl rfl ?_
        refine AO.c (x := eI64 (w64 (x11 + (1 : Int)))) (Calm.int rfl rfl rfl rfl) ?_
        refine AO.ag rfl rfl ?_
        refine AO.nK [1, 3, 4, 5] ?_
        exact ⟨kq13, Nat.lt_succ_self _, b15, (w64 (x11 + (1 : Int))), rfl, rfl, by rw [hrec12]; exact h⟩
      ·refine AW.condN _ rfl hc14 ?_
       refine AW.eK [1, 3, 4] ?_
       exact ⟨b10, rfl, rfl, h⟩
     ·rintro _ _ ⟨b8, rfl, rfl, h⟩
      rw [F56_c2.eq_1] at h
      refine AW.sr ?_
      refine AO.mv rfl rfl ?_
      refine AO.c (Calm.not rfl rfl) ?_
      refine AO.nK [1, 3, 27] ?_
      rcases of_ite h with ⟨hc9, h⟩ | ⟨hc9, h⟩
      ·refine AW.condT' _ rfl hc9 ?_
       refine AW.sr ?_
       refine AO.ag rfl rfl ?_
       refine AO.nH [2] (H' := []) (Sub.nil _) ?_
       refine AW.rK [2] ?_
       have hr := Option.some.inj h
       subst hr
       exact ⟨[(eBool false)], ⟨rfl, rfl, trivial⟩, rfl⟩
      ·refine AW.condF' _ rfl hc9 ?_
       refine AW.sK [1, 3] ?_
       exact ⟨rfl, rfl, h⟩
    ·rintro _ _ ⟨rfl, rfl, h⟩
     rw [F56_c1.eq_1] at h
     refine AW.reg ?_
     refine AO.mv rfl rfl ?_
     refine AO.c (x := eI64 (w64 (x3 + (1 : Int)))) (Calm.int rfl rfl rfl rfl) ?_
     refine AO.ag rfl rfl ?_
     refine AO.nK [1, 3] ?_
     exact ⟨kq5, Nat.lt_succ_self _, (w64 (x3 + (1 : Int))), rfl, rfl, by rw [hrec4]; exact h⟩
   ·refine AW.condN _ rfl hc7 ?_
    refine AW.eH [] (H' := []) (Sub.nil _) ?_
    exact ⟨rfl, rfl, h⟩
  ·rintro _ _ ⟨rfl, rfl, h⟩
   rw [F56_c0.eq_1] at h
   refine AW.sr ?_
   refine AO.ag rfl rfl ?_
   refine AO.nK [2] ?_
   refine AW.rK [2] ?_
   have hr := Option.some.inj h
   subst hr
   exact ⟨[(eBool true)], ⟨rfl, rfl, trivial⟩, rfl⟩
end Go.Avl.T7
/- bosket/bosketref08.Right; printed by avmain.py. -/
namespace Go.Avl.T7
open Go Go.RowKit Go.Proofs Go.Avl
set_option linter.unusedVariables false
set_option maxRecDepth 100000
set_option maxHeartbeats 4000000
attribute [local irreducible] AW AO AQ Spec SpecH Calm

def F28_c0 (k : Nat) : Option Bool :=
  some (true)
def F28_c1 (k : Nat) (rec11 : (Int → Option Bool)) (x10 : Int) : Option Bool :=
  rec11 (w64 (x10 + (1 : Int)))
def F28_l2 (k : Nat) (rec11 : (Int → Option Bool)) (p0 : S55) (x10 : Int) : Nat → Int → Option Bool
  | 0, _ => none
  | j + 1, x23 =>
    if 0 ≤ x10 ∧ x10 < (p0.f1.length : Int) then if x23 < ((lget p0.f1 x10).length : Int) then Option.bind (α := Bool) (if 0 ≤ x10 ∧ x10 < (p0.f1.length : Int) then if 0 ≤ x23 ∧ x23 < ((lget p0.f1 x10).length : Int) then if (lget (lget p0.f1 x10) x23) < (-1 : Int) then some (true)
    else if 0 ≤ x10 ∧ x10 < (p0.f1.length : Int) then if 0 ≤ x23 ∧ x23 < ((lget p0.f1 x10).length : Int) then some (decide ((p0.f1.length : Int) ≤ (lget (lget p0.f1 x10) x23)))
    else none
    else none
    else none
    else none) fun b28 =>
    if b28 = true then some (false)
    else (F28_l2 k rec11 p0 x10 j) (w64 (x23 + (1 : Int)))
    else F28_c1 k rec11 x10
    else none
def F28_l3 (k : Nat) (p0 : S55) : Nat → Int → Option Bool
  | 0, _ => none
  | j + 1, x10 =>
    if x10 < (p0.f1.length : Int) then Option.bind (α := Bool) (if 0 ≤ x10 ∧ x10 < (p0.f1.length : Int) then (F57 k p0).bind fun t17 =>
    if ((lget p0.f1 x10).length : Int) ≠ t17 then some (true)
    else if 0 ≤ x10 ∧ x10 < (p0.f2.length : Int) then if (lget p0.f2 x10) < (-1 : Int) then some (true)
    else if 0 ≤ x10 ∧ x10 < (p0.f2.length : Int) then some (decide ((32768 : Int) ≤ (lget p0.f2 x10)))
    else none
    else none
    else none) fun b14 =>
    if b14 = true then some (false)
    else F28_l2 k (F28_l3 k p0 j) p0 x10 k (0 : Int)
    else F28_c0 k
def F28 (k : Nat) (p0 : S55) : Option Bool :=
  Option.bind (α := Bool) (if (p0.f1.length : Int) < (1 : Int) then some (true)
  else if (32768 : Int) < (p0.f1.length : Int) then some (true)
  else if (p0.f2.length : Int) ≠ (p0.f1.length : Int) then some (true)
  else (F56 k p0).bind fun t8 =>
  some (!t8)) fun b3 =>
  if b3 = true then some (false)
  else F28_l3 k p0 k (0 : Int)
theorem F28_spec {k : Nat} {p0 : S55} {r : Bool} (h : F28 k p0 = some r) : Spec Try.prog 28 [(e55 p0)] (eBool r) := by
  rw [F28.eq_1] at h
  refine Spec.intro (res := [.tmp 2]) Try.func28 rfl rfl rfl (Nat.le_of_ble_eq_true rfl) ?_
  refine AW.sr ?_
  refine AO.box rfl 1 rfl (by decide) rfl rfl rfl fun n2 => ?_
  refine AO.ag rfl rfl ?_
  refine AO.nK [1] ?_
  refine AW.sr ?_
  refine AO.c (x := .ptr n2 256) (Calm.fldPtr rfl rfl Try.underlying55 rfl sz53 _ rfl) ?_
  refine AO.c (Calm.load 0 rfl rfl rfl (At.cast (At.fldS (At.fld0 At.here)) rfl) ag53 sz53) ?_
  refine AO.c (Calm.lenL rfl rfl Try.underlying53) ?_
  refine AO.ag rfl rfl ?_
  refine AO.nK [1, 3] ?_
  refine AW.seq ?_
  refine AW.seq ?_
  obtain ⟨b3, hq4, h⟩ := of_bind h
  refine AW.regM [(1, (.ptr n2 0)), (3, (eI64 (p0.f1.length : Int))), (26, (eBool b3))] [(n2, (.mem (e55 p0)))] ?_ ?_
  ·refine AO.mv rfl rfl ?_
   refine AO.c (x := eBool (decide ((p0.f1.length : Int) < (1 : Int)))) (Calm.int rfl rfl rfl rfl) ?_
   refine AO.mv rfl rfl ?_
   rcases of_ite hq4 with ⟨hc5, hq4⟩ | ⟨hc5, hq4⟩
   ·refine AO.sF rfl rfl (bD (decide_eq_true hc5)) ?_
    refine AO.sF rfl rfl (bD (decide_eq_true hc5)) ?_
    refine AO.c (Calm.pickT rfl (bD (decide_eq_true hc5)) rfl) ?_
    refine AO.mv rfl rfl ?_
    refine AO.sF rfl rfl rfl ?_
    refine AO.sF rfl rfl rfl ?_
    refine AO.sF rfl rfl rfl ?_
    refine AO.sF rfl rfl rfl ?_
    refine AO.sF rfl rfl rfl ?_
    refine AO.c (Calm.pickT rfl rfl rfl) ?_
    refine AO.mv rfl rfl ?_
    refine AO.sF rfl rfl rfl ?_
    refine AO.sF rfl rfl rfl ?_
    refine AO.sF rfl rfl rfl ?_
    refine AO.c (Calm.pickT rfl rfl rfl) ?_
    cases hq4
    refine AO.nilE ⟨rfl, rfl⟩ ?_ ?_
    · exact ⟨rfl, rfl, rfl, trivial⟩
    · exact (Sub.refl _)
   ·refine AO.cG rfl rfl (bD (decide_eq_false hc5)) (Calm.move rfl rfl) ?_
    refine AO.cG (x := eBool (decide ((32768 : Int) < (p0.f1.length : Int)))) rfl rfl (bD (decide_eq_false hc5)) (Calm.int rfl rfl rfl rfl) ?_
    refine AO.c (Calm.pickF rfl (bD (decide_eq_false hc5)) rfl) ?_
    refine AO.mv rfl rfl ?_
    rcases of_ite hq4 with ⟨hc6, hq4⟩ | ⟨hc6, hq4⟩
    ·refine AO.sF rfl rfl (bD (decide_eq_true hc6)) ?_
     refine AO.sF rfl rfl (bD (decide_eq_true hc6)) ?_
     refine AO.sF rfl rfl (bD (decide_eq_true hc6)) ?_
     refine AO.sF rfl rfl (bD (decide_eq_true hc6)) ?_
     refine AO.sF rfl rfl (bD (decide_eq_true hc6)) ?_
     refine AO.c (Calm.pickT rfl (bD (decide_eq_true hc6)) rfl) ?_
     refine AO.mv rfl rfl ?_
     refine AO.sF rfl rfl rfl ?_
     refine AO.sF rfl rfl rfl ?_
     refine AO.sF rfl rfl rfl ?_
     refine AO.c (Calm.pickT rfl rfl rfl) ?_
     cases hq4
     refine AO.nilE ⟨rfl, rfl⟩ ?_ ?_
     · exact ⟨rfl, rfl, rfl, trivial⟩
     · exact (Sub.refl _)
    ·refine AO.cG (x := .ptr n2 257) rfl rfl (bD (decide_eq_false hc6)) (Calm.fldPtr rfl rfl Try.underlying55 rfl sz35 _ rfl) ?_
     refine AO.cG rfl rfl (bD (decide_eq_false hc6)) (Calm.load 0 rfl rfl rfl (At.cast (At.fldS (At.fldS (At.fld0 At.here))) rfl) ag35 sz35) ?_
     refine AO.cG rfl rfl (bD (decide_eq_false hc6)) (Calm.lenL rfl rfl Try.underlying35) ?_
     refine AO.cG rfl rfl (bD (decide_eq_false hc6)) (Calm.move rfl rfl) ?_
     refine AO.cG (x := eBool (decide ((p0.f2.length : Int) ≠ (p0.f1.length : Int)))) rfl rfl (bD (decide_eq_false hc6)) (Calm.int rfl rfl rfl rfl) ?_
     refine AO.c (Calm.pickF rfl (bD (decide_eq_false hc6)) rfl) ?_
     refine AO.mv rfl rfl ?_
     rcases of_ite hq4 with ⟨hc7, hq4⟩ | ⟨hc7, hq4⟩
     ·refine AO.sF rfl rfl (bD (decide_eq_true hc7)) ?_
      refine AO.sF rfl rfl (bD (decide_eq_true hc7)) ?_
      refine AO.sF rfl rfl (bD (decide_eq_true hc7)) ?_
      refine AO.c (Calm.pickT rfl (bD (decide_eq_true hc7)) rfl) ?_
      cases hq4
      refine AO.nilE ⟨rfl, rfl⟩ ?_ ?_
      · exact ⟨rfl, rfl, rfl, trivial⟩
      · exact (Sub.refl _)
     ·refine AO.cG rfl rfl (bD (decide_eq_false hc7)) (Calm.load 0 rfl rfl rfl (At.cast At.here rfl) ag55 sz55) ?_
      obtain ⟨t8, et8, hq4⟩ := of_bind hq4
      refine AO.callG 13 false 22 [(e55 p0)] (eBool t8) 24 rfl (by decide) ok56 rfl rfl (bD (decide_eq_false hc7)) rfl rfl ⟨rfl, rfl, trivial⟩ (F56_spec et8) ?_
      refine AO.cG rfl rfl (bD (decide_eq_false hc7)) (Calm.not rfl rfl) ?_
      refine AO.c (Calm.pickF rfl (bD (decide_eq_false hc7)) rfl) ?_
      cases hq4
      refine AO.nilE ⟨rfl, rfl⟩ ?_ ?_
      · exact ⟨rfl, rfl, rfl, trivial⟩
      · exact (Sub.refl _)
  ·rcases of_ite h with ⟨hc9, h⟩ | ⟨hc9, h⟩
   ·refine AW.condT' _ rfl hc9 ?_
    refine AW.sr ?_
    refine AO.ag rfl rfl ?_
    refine AO.nH [2] (H' := []) (Sub.nil _) ?_
    refine AW.rK [2] ?_
    have hr := Option.some.inj h
    subst hr
    exact ⟨[(eBool false)], ⟨rfl, rfl, trivial⟩, rfl⟩
   ·refine AW.condF' _ rfl hc9 ?_
    refine AW.sK [1, 3] ?_
    refine AW.seq_mid (fun ρ H => ρ = [] ∧ H = [] ∧ F28_c0 k = some r) ?_ ?_
    ·refine AW.sr ?_
     refine AO.ag rfl rfl ?_
     refine AO.nK [1, 3, 4] ?_
     refine AW.block ?_
     refine AW.wK [1, 3, 4] ?_
     refine AW.loop (fun kq ρ H => ∃ (x10 : Int), ρ = [(1, (.ptr n2 0)), (3, (eI64 (p0.f1.length : Int))), (4, (eI64 x10))] ∧ H = [(n2, (.mem (e55 p0)))] ∧ F28_l3 k p0 kq x10 = some r) k ⟨(0 : Int), rfl, rfl, h⟩ ?_
     rintro kq12 _ _ ⟨x10, rfl, rfl, h⟩
     cases kq12 with
     | zero => rw [F28_l3.eq_1] at h; cases h
     | succ kq12 =>
     rw [F28_l3.eq_2] at h
     generalize hrec11 : F28_l3 k p0 kq12 = rec11 at h
     refine AW.seq ?_
     refine AW.sr ?_
     refine AO.mv rfl rfl ?_
     refine AO.mv rfl rfl ?_
     refine AO.c (x := eBool (decide (x10 < (p0.f1.length : Int)))) (Calm.int rfl rfl rfl rfl) ?_
     refine AO.nK [1, 3, 4, 29] ?_
     rcases of_ite h with ⟨hc13, h⟩ | ⟨hc13, h⟩
     ·refine AW.condP _ rfl hc13 ?_
      refine AW.sK [1, 3, 4] ?_
      refine AW.seq_mid (fun ρ H => ρ = [(1, (.ptr n2 0)), (3, (eI64 (p0.f1.length : Int))), (4, (eI64 x10))] ∧ H = [(n2, (.mem (e55 p0)))] ∧ F28_c1 k rec11 x10 = some r) ?_ ?_
      ·refine AW.block ?_
       refine AW.seq ?_
       refine AW.seq ?_
       obtain ⟨b14, hq15, h⟩ := of_bind h
       refine AW.regQM (by rfl) (by decide +kernel) [(1, (.ptr n2 0)), (3, (eI64 (p0.f1.length : Int))), (4, (eI64 x10)), (56, (eBool b14))] ?_ ?_
       ·refine AQ.c (x := .ptr n2 256) (Calm.fldPtr rfl rfl Try.underlying55 rfl sz53 _ rfl) ?_
        refine AQ.c (Calm.load 0 rfl rfl rfl (At.cast (At.fldS (At.fld0 At.here)) rfl) ag53 sz53) ?_
        refine AQ.c (Calm.move rfl rfl) ?_
        obtain ⟨hg16, hq15⟩ := of_guard hq15
        refine AQ.c (Calm.idxL (f := e35) rfl rfl rfl hg16 Try.underlying53 sz35) ?_
        refine AQ.c (Calm.loadRp rfl rfl ag35 sz35) ?_
        refine AQ.c (Calm.lenL rfl rfl Try.underlying35) ?_
        refine AQ.c (Calm.load 0 rfl rfl rfl (At.cast At.here rfl) ag55 sz55) ?_
        obtain ⟨t17, et17, hq15⟩ := of_bind hq15
        refine AQ.c (Calm.call (args := [(e55 p0)]) rfl rfl ok57 ⟨rfl, rfl, trivial⟩ rfl (F57_spec et17)) ?_
        refine AQ.c (x := eBool (decide (((lget p0.f1 x10).length : Int) ≠ t17))) (Calm.int rfl rfl rfl rfl) ?_
        refine AQ.c (Calm.move rfl rfl) ?_
        rcases of_ite hq15 with ⟨hc18, hq15⟩ | ⟨hc18, hq15⟩
        ·refine AQ.sF rfl rfl (bD (decide_eq_true hc18)) ?_
         refine AQ.sF rfl rfl (bD (decide_eq_true hc18)) ?_
         refine AQ.sF rfl rfl (bD (decide_eq_true hc18)) ?_
         refine AQ.sF rfl rfl (bD (decide_eq_true hc18)) ?_
         refine AQ.sF rfl rfl (bD (decide_eq_true hc18)) ?_
         refine AQ.sF rfl rfl (bD (decide_eq_true hc18)) ?_
         refine AQ.c (Calm.pickT rfl (bD (decide_eq_true hc18)) rfl) ?_
         refine AQ.c (Calm.move rfl rfl) ?_
         refine AQ.sF rfl rfl rfl ?_
         refine AQ.sF rfl rfl rfl ?_
         refine AQ.sF rfl rfl rfl ?_
         refine AQ.sF rfl rfl rfl ?_
         refine AQ.sF rfl rfl rfl ?_
         refine AQ.sF rfl rfl rfl ?_
         refine AQ.c (Calm.pickT rfl rfl rfl) ?_
         cases hq15
         refine AQ.nilE rfl ?_
         exact ⟨rfl, rfl, rfl, rfl, trivial⟩
        ·refine AQ.cG (x := .ptr n2 257) rfl rfl (bD (decide_eq_false hc18)) (Calm.fldPtr rfl rfl Try.underlying55 rfl sz35 _ rfl) ?_
         refine AQ.cG rfl rfl (bD (decide_eq_false hc18)) (Calm.load 0 rfl rfl rfl (At.cast (At.fldS (At.fldS (At.fld0 At.here))) rfl) ag35 sz35) ?_
         refine AQ.cG rfl rfl (bD (decide_eq_false hc18)) (Calm.move rfl rfl) ?_
         obtain ⟨hg19, hq15⟩ := of_guard hq15
         refine AQ.cG rfl rfl (bD (decide_eq_false hc18)) (Calm.idxL (f := eI64) rfl rfl rfl hg19 Try.underlying35 sz3) ?_
         refine AQ.cG rfl rfl (bD (decide_eq_false hc18)) (Calm.loadRp rfl rfl ag3 sz3) ?_
         refine AQ.cG (x := eBool (decide ((lget p0.f2 x10) < (-1 : Int)))) rfl rfl (bD (decide_eq_false hc18)) (Calm.int rfl rfl rfl rfl) ?_
         refine AQ.c (Calm.pickF rfl (bD (decide_eq_false hc18)) rfl) ?_
         refine AQ.c (Calm.move rfl rfl) ?_
         rcases of_ite hq15 with ⟨hc20, hq15⟩ | ⟨hc20, hq15⟩
         ·refine AQ.sF rfl rfl (bD (decide_eq_true hc20)) ?_
          refine AQ.sF rfl rfl (bD (decide_eq_true hc20)) ?_
          refine AQ.sF rfl rfl (bD (decide_eq_true hc20)) ?_
          refine AQ.sF rfl rfl (bD (decide_eq_true hc20)) ?_
          refine AQ.sF rfl rfl (bD (decide_eq_true hc20)) ?_
          refine AQ.sF rfl rfl (bD (decide_eq_true hc20)) ?_
          refine AQ.c (Calm.pickT rfl (bD (decide_eq_true hc20)) rfl) ?_
          cases hq15
          refine AQ.nilE rfl ?_
          exact ⟨rfl, rfl, rfl, rfl, trivial⟩
         ·refine AQ.cG (x := .ptr n2 257) rfl rfl (bD (decide_eq_false hc20)) (Calm.fldPtr rfl rfl Try.underlying55 rfl sz35 _ rfl) ?_
          refine AQ.cG rfl rfl (bD (decide_eq_false hc20)) (Calm.load 0 rfl rfl rfl (At.cast (At.fldS (At.fldS (At.fld0 At.here))) rfl) ag35 sz35) ?_
          refine AQ.cG rfl rfl (bD (decide_eq_false hc20)) (Calm.move rfl rfl) ?_
          obtain ⟨hg21, hq15⟩ := of_guard hq15
          refine AQ.cG rfl rfl (bD (decide_eq_false hc20)) (Calm.idxL (f := eI64) rfl rfl rfl hg21 Try.underlying35 sz3) ?_
          refine AQ.cG rfl rfl (bD (decide_eq_false hc20)) (Calm.loadRp rfl rfl ag3 sz3) ?_
          refine AQ.cG (x := eBool (decide ((32768 : Int) ≤ (lget p0.f2 x10)))) rfl rfl (bD (decide_eq_false hc20)) (Calm.int rfl rfl rfl rfl) ?_
          refine AQ.c (Calm.pickF rfl (bD (decide_eq_false hc20)) rfl) ?_
          cases hq15
          refine AQ.nilE rfl ?_
          exact ⟨rfl, rfl, rfl, rfl, trivial⟩
       ·rcases of_ite h with ⟨hc22, h⟩ | ⟨hc22, h⟩
        ·refine AW.condT' _ rfl hc22 ?_
         refine AW.sr ?_
         refine AO.ag rfl rfl ?_
         refine AO.nH [2] (H' := []) (Sub.nil _) ?_
         refine AW.rK [2] ?_
         have hr := Option.some.inj h
         subst hr
         exact ⟨[(eBool false)], ⟨rfl, rfl, trivial⟩, rfl⟩
        ·refine AW.condF' _ rfl hc22 ?_
         refine AW.sK [1, 3, 4] ?_
         refine AW.sr ?_
         refine AO.ag rfl rfl ?_
         refine AO.nK [1, 3, 4, 5] ?_
         refine AW.block ?_
         refine AW.wK [1, 3, 4, 5] ?_
         refine AW.loop (fun kq ρ H => ∃ (x23 : Int), ρ = [(1, (.ptr n2 0)), (3, (eI64 (p0.f1.length : Int))), (4, (eI64 x10)), (5, (eI64 x23))] ∧ H = [(n2, (.mem (e55 p0)))] ∧ F28_l2 k rec11 p0 x10 kq x23 = some r) k ⟨(0 : Int), rfl, rfl, h⟩ ?_
         rintro kq25 _ _ ⟨x23, rfl, rfl, h⟩
         cases kq25 with
         | zero => rw [F28_l2.eq_1] at h; cases h
         | succ kq25 =>
         rw [F28_l2.eq_2] at h
         generalize hrec24 : F28_l2 k rec11 p0 x10 kq25 = rec24 at h
         refine AW.seq ?_
         refine AW.sr ?_
         refine AO.mv rfl rfl ?_
         refine AO.c (x := .ptr n2 256) (Calm.fldPtr rfl rfl Try.underlying55 rfl sz53 _ rfl) ?_
         refine AO.c (Calm.load 0 rfl rfl rfl (At.cast (At.fldS (At.fld0 At.here)) rfl) ag53 sz53) ?_
         refine AO.mv rfl rfl ?_
         obtain ⟨hg26, h⟩ := of_guard h
         refine AO.c (Calm.idxL (f := e35) rfl rfl rfl hg26 Try.underlying53 sz35) ?_
         refine AO.c (Calm.loadRp rfl rfl ag35 sz35) ?_
         refine AO.c (Calm.lenL rfl rfl Try.underlying35) ?_
         refine AO.c (x := eBool (decide (x23 < ((lget p0.f1 x10).length : Int)))) (Calm.int rfl rfl rfl rfl) ?_
         refine AO.nK [1, 3, 4, 5, 64] ?_
         rcases of_ite h with ⟨hc27, h⟩ | ⟨hc27, h⟩
         ·refine AW.condP _ rfl hc27 ?_
          refine AW.sK [1, 3, 4, 5] ?_
          refine AW.seq ?_
          refine AW.block ?_
          refine AW.seq ?_
          obtain ⟨b28, hq29, h⟩ := of_bind h
          refine AW.regM [(1, (.ptr n2 0)), (3, (eI64 (p0.f1.length : Int))), (4, (eI64 x10)), (5, (eI64 x23)), (87, (eBool b28))] [(n2, (.mem (e55 p0)))] ?_ ?_
          ·refine AO.c (x := .ptr n2 256) (Calm.fldPtr rfl rfl Try.underlying55 rfl sz53 _ rfl) ?_
           refine AO.c (Calm.load 0 rfl rfl rfl (At.cast (At.fldS (At.fld0 At.here)) rfl) ag53 sz53) ?_
           refine AO.mv rfl rfl ?_
           obtain ⟨hg30, hq29⟩ := of_guard hq29
           refine AO.c (Calm.idxL (f := e35) rfl rfl rfl hg30 Try.underlying53 sz35) ?_
           refine AO.c (Calm.loadRp rfl rfl ag35 sz35) ?_
           refine AO.mv rfl rfl ?_
           obtain ⟨hg31, hq29⟩ := of_guard hq29
           refine AO.c (Calm.idxL (f := eI64) rfl rfl rfl hg31 Try.underlying35 sz3) ?_
           refine AO.c (Calm.loadRp rfl rfl ag3 sz3) ?_
           refine AO.c (x := eBool (decide ((lget (lget p0.f1 x10) x23) < (-1 : Int)))) (Calm.int rfl rfl rfl rfl) ?_
           refine AO.mv rfl rfl ?_
           rcases of_ite hq29 with ⟨hc32, hq29⟩ | ⟨hc32, hq29⟩
           ·refine AO.sF rfl rfl (bD (decide_eq_true hc32)) ?_
            refine AO.sF rfl rfl (bD (decide_eq_true hc32)) ?_
            refine AO.sF rfl rfl (bD (decide_eq_true hc32)) ?_
            refine AO.sF rfl rfl (bD (decide_eq_true hc32)) ?_
            refine AO.sF rfl rfl (bD (decide_eq_true hc32)) ?_
            refine AO.sF rfl rfl (bD (decide_eq_true hc32)) ?_
            refine AO.sF rfl rfl (bD (decide_eq_true hc32)) ?_
            refine AO.sF rfl rfl (bD (decide_eq_true hc32)) ?_
            refine AO.sF rfl rfl (bD (decide_eq_true hc32)) ?_
            refine AO.sF rfl rfl (bD (decide_eq_true hc32)) ?_
            refine AO.c (Calm.pickT rfl (bD (decide_eq_true hc32)) rfl) ?_
            cases hq29
            refine AO.nilE ⟨rfl, rfl⟩ ?_ ?_
            · exact ⟨rfl, rfl, rfl, rfl, rfl, trivial⟩
            · exact (Sub.refl _)
           ·refine AO.cG (x := .ptr n2 256) rfl rfl (bD (decide_eq_false hc32)) (Calm.fldPtr rfl rfl Try.underlying55 rfl sz53 _ rfl) ?_
            refine AO.cG rfl rfl (bD (decide_eq_false hc32)) (Calm.load 0 rfl rfl rfl (At.cast (At.fldS (At.fld0 At.here)) rfl) ag53 sz53) ?_
            refine AO.cG rfl rfl (bD (decide_eq_false hc32)) (Calm.move rfl rfl) ?_
            obtain ⟨hg33, hq29⟩ := of_guard hq29
            refine AO.cG rfl rfl (bD (decide_eq_false hc32)) (Calm.idxL (f := e35) rfl rfl rfl hg33 Try.underlying53 sz35) ?_
            refine AO.cG rfl rfl (bD (decide_eq_false hc32)) (Calm.loadRp rfl rfl ag35 sz35) ?_
            refine AO.cG rfl rfl (bD (decide_eq_false hc32)) (Calm.move rfl rfl) ?_
            obtain ⟨hg34, hq29⟩ := of_guard hq29
            refine AO.cG rfl rfl (bD (decide_eq_false hc32)) (Calm.idxL (f := eI64) rfl rfl rfl hg34 Try.underlying35 sz3) ?_
            refine AO.cG rfl rfl (bD (decide_eq_false hc32)) (Calm.loadRp rfl rfl ag3 sz3) ?_
            refine AO.cG rfl rfl (bD (decide_eq_false hc32)) (Calm.move rfl rfl) ?_
            refine AO.cG (x := eBool (decide ((p0.f1.length : Int) ≤ (lget (lget p0.f1 x10) x23)))) rfl rfl (bD (decide_eq_false hc32)) (Calm.int rfl rfl rfl rfl) ?_
            refine AO.c (Calm.pickF rfl (bD (decide_eq_false hc32)) rfl) ?_
            cases hq29
            refine AO.nilE ⟨rfl, rfl⟩ ?_ ?_
            · exact ⟨rfl, rfl, rfl, rfl, rfl, trivial⟩
            · exact (Sub.refl _)
          ·rcases of_ite h with ⟨hc35, h⟩ | ⟨hc35, h⟩
           ·refine AW.condT' _ rfl hc35 ?_
            refine AW.sr ?_
            refine AO.ag rfl rfl ?_
            refine AO.nH [2] (H' := []) (Sub.nil _) ?_
            refine AW.rK [2] ?_
            have hr := Option.some.inj h
            subst hr
            exact ⟨[(eBool false)], ⟨rfl, rfl, trivial⟩, rfl⟩
           ·refine AW.condF' _ rfl hc35 ?_
            refine AW.sK [1, 3, 4, 5] ?_
            refine AW.reg ?_
            refine AO.mv rfl rfl ?_
            refine AO.c (x := eI64 (w64 (x23 + (1 : Int)))) (Calm.int rfl rfl rfl rfl) ?_
            refine AO.ag rfl rfl ?_
            refine AO.nK [1, 3, 4, 5] ?_
            exact ⟨kq25, Nat.lt_succ_self _, (w64 (x23 + (1 : Int))), rfl, rfl, by rw [hrec24]; exact h⟩
         ·refine AW.condN _ rfl hc27 ?_
          refine AW.eK [1, 3, 4] ?_
          exact ⟨rfl, rfl, h⟩
      ·rintro _ _ ⟨rfl, rfl, h⟩
       rw [F28_c1.eq_1] at h
       refine AW.reg ?_
       refine AO.mv rfl rfl ?_
       refine AO.c (x := eI64 (w64 (x10 + (1 : Int)))) (Calm.int rfl rfl rfl rfl) ?_
       refine AO.ag rfl rfl ?_
       refine AO.nK [1, 3, 4] ?_
       exact ⟨kq12, Nat.lt_succ_self _, (w64 (x10 + (1 : Int))), rfl, rfl, by rw [hrec11]; exact h⟩
     ·refine AW.condN _ rfl hc13 ?_
      refine AW.eH [] (H' := []) (Sub.nil _) ?_
      exact ⟨rfl, rfl, h⟩
    ·rintro _ _ ⟨rfl, rfl, h⟩
     rw [F28_c0.eq_1] at h
     refine AW.sr ?_
     refine AO.ag rfl rfl ?_
     refine AO.nK [2] ?_
     refine AW.rK [2] ?_
     have hr := Option.some.inj h
     subst hr
     exact ⟨[(eBool true)], ⟨rfl, rfl, trivial⟩, rfl⟩
end Go.Avl.T7
