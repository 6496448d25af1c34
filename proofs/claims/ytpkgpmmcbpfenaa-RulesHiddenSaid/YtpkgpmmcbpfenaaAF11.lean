/- Parts: T7f59, T7f30, T7f31, T7f6, T7f18, T7f21, T7f54, T7f70, T7f42, T7f43, T7f16, T7f22, T7f44, T7f45, T7f11, T7f9, T7f85. -/
import Derived.Test.YtpkgpmmcbpfenaaAF1
import Derived.Test.YtpkgpmmcbpfenaaAF10
import Derived.Test.YtpkgpmmcbpfenaaAF9
import Derived.Test.YtpkgpmmcbpfenaaAF2
import Derived.Test.YtpkgpmmcbpfenaaAF7
/- bosket/bosketref10.can; printed by avmain.py. -/
namespace Go.Avl.T7
open Go Go.RowKit Go.Proofs Go.Avl
set_option linter.unusedVariables false
set_option maxRecDepth 100000
set_option maxHeartbeats 4000000
attribute [local irreducible] AW AO AQ Spec SpecH Calm

def F59_c0 (k : Nat) : Option Bool :=
  some (false)
def F59_l1 (k : Nat) (p0 : S55) (x11 : (List Bool)) : Nat → Int → Option Bool
  | 0, _ => none
  | j + 1, x12 =>
    if x12 < (x11.length : Int) then Option.bind (α := Bool) (if 0 ≤ x12 ∧ x12 < (x11.length : Int) then if (lget x11 x12) = true then if 0 ≤ x12 ∧ x12 < (p0.f2.length : Int) then some (decide ((0 : Int) ≤ (lget p0.f2 x12)))
    else none
    else some (false)
    else none) fun b16 =>
    if b16 = true then some (true)
    else (F59_l1 k p0 x11 j) (w64 (x12 + (1 : Int)))
    else F59_c0 k
def F59_c2 (k : Nat) (p0 : S55) (x11 : (List Bool)) : Option Bool :=
  F59_l1 k p0 x11 k (0 : Int)
def F59_c3 (k : Nat) (rec25 : ((List Bool) → Int → Option Bool)) (x24 : Int) (x29 : (List Bool)) : Option Bool :=
  rec25 x29 (w64 (x24 + (1 : Int)))
def F59_c4 (k : Nat) (rec25 : ((List Bool) → Int → Option Bool)) (x24 : Int) (x32 : (List Bool)) : Option Bool :=
  F59_c3 k rec25 x24 x32
def F59_c5 (k : Nat) (rec35 : ((List Bool) → Int → Option Bool)) (x34 : Int) (x38 : (List Bool)) : Option Bool :=
  rec35 x38 (w64 (x34 + (1 : Int)))
def F59_c6 (k : Nat) (rec41 : ((List Bool) → Int → Option Bool)) (x40 : Int) (x49 : (List Bool)) : Option Bool :=
  rec41 x49 (w64 (x40 + (1 : Int)))
def F59_l7 (k : Nat) (rec35 : ((List Bool) → Int → Option Bool)) (p0 : S55) (x23 : (List Bool)) (x34 : Int) : Nat → (List Bool) → Int → Option Bool
  | 0, _, _ => none
  | j + 1, x39, x40 =>
    Option.bind (α := Bool) (if 0 ≤ x34 ∧ x34 < (x23.length : Int) then if (lget x23 x34) = true then if 0 ≤ x34 ∧ x34 < (p0.f1.length : Int) then some (decide (x40 < ((lget p0.f1 x34).length : Int)))
    else none
    else some (false)
    else none) fun b43 =>
    if b43 = true then if 0 ≤ x34 ∧ x34 < (p0.f1.length : Int) then if 0 ≤ x40 ∧ x40 < ((lget p0.f1 x34).length : Int) then if (0 : Int) ≤ (lget (lget p0.f1 x34) x40) then if 0 ≤ x34 ∧ x34 < (p0.f1.length : Int) then if 0 ≤ x40 ∧ x40 < ((lget p0.f1 x34).length : Int) then if 0 ≤ (lget (lget p0.f1 x34) x40) ∧ (lget (lget p0.f1 x34) x40) < (x39.length : Int) then F59_c6 k (F59_l7 k rec35 p0 x23 x34 j) x40 (lset x39 (lget (lget p0.f1 x34) x40) true)
    else none
    else none
    else none
    else F59_c6 k (F59_l7 k rec35 p0 x23 x34 j) x40 x39
    else none
    else none
    else F59_c5 k rec35 x34 x39
def F59_l8 (k : Nat) (rec25 : ((List Bool) → Int → Option Bool)) (p0 : S55) (x23 : (List Bool)) (x24 : Int) : Nat → (List Bool) → Int → Option Bool
  | 0, _, _ => none
  | j + 1, x33, x34 =>
    if x34 < (x23.length : Int) then F59_l7 k (F59_l8 k rec25 p0 x23 x24 j) p0 x23 x34 k x33 (0 : Int)
    else F59_c4 k rec25 x24 x33
def F59_l9 (k : Nat) (p0 : S55) (p2 : Int) : Nat → (List Bool) → Int → Option Bool
  | 0, _, _ => none
  | j + 1, x23, x24 =>
    if x24 < p2 then if 0 ≤ (x23.length : Int) ∧ (x23.length : Int) * (1 : Int) ≤ 140737488355328 ∧ (x23.length : Int) ≤ 9223372036854775807 then F59_l8 k (F59_l9 k p0 p2 j) p0 x23 x24 k (List.replicate (x23.length : Int).toNat false) (0 : Int)
    else none
    else F59_c2 k p0 x23
def F59 (k : Nat) (p0 : S55) (p1 : Int) (p2 : Int) : Option Bool :=
  if p2 = (0 : Int) then (F34 k p0 p1).bind fun t6 =>
  some (decide ((0 : Int) ≤ t6))
  else if 0 ≤ (p0.f1.length : Int) ∧ (p0.f1.length : Int) * (1 : Int) ≤ 140737488355328 ∧ (p0.f1.length : Int) ≤ 9223372036854775807 then if 0 ≤ p1 ∧ p1 < ((List.replicate (p0.f1.length : Int).toNat false).length : Int) then F59_l9 k p0 p2 k (lset (List.replicate (p0.f1.length : Int).toNat false) p1 true) (0 : Int)
  else none
  else none
theorem F59_spec {k : Nat} {p0 : S55} {p1 : Int} {p2 : Int} {r : Bool} (h : F59 k p0 p1 p2 = some r) : Spec Try.prog 59 [(e55 p0), (eI64 p1), (eI64 p2)] (eBool r) := by
  rw [F59.eq_1] at h
  refine Spec.intro (res := [.tmp 6]) Try.func59 rfl rfl rfl (Nat.le_of_ble_eq_true rfl) ?_
  refine AW.sr ?_
  refine AO.box rfl 3 rfl (by decide) rfl rfl rfl fun n4 => ?_
  refine AO.ag rfl rfl ?_
  refine AO.nK [1, 2, 3] ?_
  refine AW.seq ?_
  refine AW.sr ?_
  refine AO.mv rfl rfl ?_
  refine AO.c (x := eBool (decide (p2 = (0 : Int)))) (Calm.int rfl rfl rfl rfl) ?_
  refine AO.nK [1, 2, 3, 14] ?_
  rcases of_ite h with ⟨hc5, h⟩ | ⟨hc5, h⟩
  ·refine AW.condP _ rfl hc5 ?_
   refine AW.sr ?_
   refine AO.c (Calm.load 0 rfl rfl rfl (At.cast At.here rfl) ag55 sz55) ?_
   refine AO.mv rfl rfl ?_
   obtain ⟨t6, et6, h⟩ := of_bind h
   refine AO.callS [(e55 p0), (eI64 p1)] (eI64 t6) 17 rfl (by decide) ok34 rfl rfl rfl ⟨rfl, rfl, rfl, rfl, trivial⟩ (F34_spec et6) ?_
   refine AO.c (x := eBool (decide ((0 : Int) ≤ t6))) (Calm.int rfl rfl rfl rfl) ?_
   refine AO.ag rfl rfl ?_
   refine AO.nH [6] (H' := []) (Sub.nil _) ?_
   refine AW.rK [6] ?_
   have hr := Option.some.inj h
   subst hr
   exact ⟨[(eBool (decide ((0 : Int) ≤ t6)))], ⟨rfl, rfl, trivial⟩, rfl⟩
  ·refine AW.condN _ rfl hc5 ?_
   refine AW.sK [1, 2, 3] ?_
   refine AW.sr ?_
   refine AO.c (x := .ptr n4 256) (Calm.fldPtr rfl rfl Try.underlying55 rfl sz53 _ rfl) ?_
   refine AO.c (Calm.load 0 rfl rfl rfl (At.cast (At.fldS (At.fld0 At.here)) rfl) ag53 sz53) ?_
   refine AO.c (Calm.lenL rfl rfl Try.underlying53) ?_
   obtain ⟨hg8, h⟩ := of_guard h
   refine AO.makeL (f := eBool) false rfl 22 rfl (by decide) rfl rfl rfl Try.underlying98 sz4 by4 zr4 lay4 rfl hg8 fun n7 => ?_
   refine AO.ag rfl rfl ?_
   refine AO.nH [1, 2, 3, 7] (H' := [(n4, (.mem (e55 p0))), (n7, (.mem (.ar 1 ((List.replicate (p0.f1.length : Int).toNat false).map eBool))))]) (Sub.cons 1 rfl (Sub.cons 0 rfl (Sub.nil _))) ?_
   refine AW.sr ?_
   refine AO.mv rfl rfl ?_
   refine AO.mv rfl rfl ?_
   obtain ⟨hg9, h⟩ := of_guard h
   refine AO.c (Calm.idxO 1 rfl rfl rfl rfl hg9 Try.underlying98 sz4) ?_
   refine AO.store (X' := (.ar 1 ((lset (List.replicate (p0.f1.length : Int).toNat false) p1 true).map eBool))) 1 rfl rfl rfl rfl rfl rfl (Put.cast (Put.lidx p1 true hg9.1 hg9.2 Put.here) (by omega)) rfl rfl sz4 rfl ?_
   refine AO.coe 7 (y' := (.own n7 0 (lset (List.replicate (p0.f1.length : Int).toNat false) p1 true).length)) rfl (fun _ _ h => lset_own h) ?_
   refine AO.coe 23 (y' := (.own n7 0 (lset (List.replicate (p0.f1.length : Int).toNat false) p1 true).length)) rfl (fun _ _ h => lset_own h) ?_
   refine AO.nK [2, 3, 7] ?_
   refine AW.seq_mid (fun ρ H => ∃ (n10 : Nat) (x11 : (List Bool)), ρ = [(3, (.ptr n4 0)), (7, (.own n10 0 x11.length))] ∧ H = [(n4, (.mem (e55 p0))), (n10, (.mem (.ar 1 (x11.map eBool))))] ∧ F59_c2 k p0 x11 = some r) ?_ ?_
   ·refine AW.sr ?_
    refine AO.ag rfl rfl ?_
    refine AO.nK [2, 3, 7, 8] ?_
    refine AW.block ?_
    refine AW.wK [2, 3, 7, 8] ?_
    refine AW.loop (fun kq ρ H => ∃ (n22 : Nat) (x23 : (List Bool)) (x24 : Int), ρ = [(2, (eI64 p2)), (3, (.ptr n4 0)), (7, (.own n22 0 x23.length)), (8, (eI64 x24))] ∧ H = [(n4, (.mem (e55 p0))), (n22, (.mem (.ar 1 (x23.map eBool))))] ∧ F59_l9 k p0 p2 kq x23 x24 = some r) k ⟨n7, (lset (List.replicate (p0.f1.length : Int).toNat false) p1 true), (0 : Int), rfl, rfl, h⟩ ?_
    rintro kq26 _ _ ⟨n22, x23, x24, rfl, rfl, h⟩
    cases kq26 with
    | zero => rw [F59_l9.eq_1] at h; cases h
    | succ kq26 =>
    rw [F59_l9.eq_2] at h
    generalize hrec25 : F59_l9 k p0 p2 kq26 = rec25 at h
    refine AW.seq ?_
    refine AW.sr ?_
    refine AO.mv rfl rfl ?_
    refine AO.mv rfl rfl ?_
    refine AO.c (x := eBool (decide (x24 < p2))) (Calm.int rfl rfl rfl rfl) ?_
    refine AO.nK [2, 3, 7, 8, 28] ?_
    rcases of_ite h with ⟨hc27, h⟩ | ⟨hc27, h⟩
    ·refine AW.condP _ rfl hc27 ?_
     refine AW.sK [2, 3, 7, 8] ?_
     refine AW.seq_mid (fun ρ H => ∃ (n28 : Nat) (x29 : (List Bool)), ρ = [(2, (eI64 p2)), (3, (.ptr n4 0)), (7, (.own n28 0 x29.length)), (8, (eI64 x24))] ∧ H = [(n4, (.mem (e55 p0))), (n28, (.mem (.ar 1 (x29.map eBool))))] ∧ F59_c3 k rec25 x24 x29 = some r) ?_ ?_
     ·refine AW.block ?_
      refine AW.sr ?_
      refine AO.mv rfl rfl ?_
      refine AO.c (Calm.lenOwn rfl rfl Try.underlying98) ?_
      obtain ⟨hg31, h⟩ := of_guard h
      refine AO.makeL (f := eBool) false rfl 33 rfl (by decide) rfl rfl rfl Try.underlying98 sz4 by4 zr4 lay4 rfl hg31 fun n30 => ?_
      refine AO.ag rfl rfl ?_
      refine AO.nH [2, 3, 7, 8, 9] (H' := [(n4, (.mem (e55 p0))), (n22, (.mem (.ar 1 (x23.map eBool)))), (n30, (.mem (.ar 1 ((List.replicate (x23.length : Int).toNat false).map eBool))))]) (Sub.cons 1 rfl (Sub.cons 1 rfl (Sub.cons 0 rfl (Sub.nil _)))) ?_
      refine AW.seq_mid (fun ρ H => ∃ (x32 : (List Bool)), ρ = [(2, (eI64 p2)), (3, (.ptr n4 0)), (8, (eI64 x24)), (9, (.own n30 0 x32.length))] ∧ H = [(n4, (.mem (e55 p0))), (n30, (.mem (.ar 1 (x32.map eBool))))] ∧ F59_c4 k rec25 x24 x32 = some r) ?_ ?_
      ·refine AW.sr ?_
       refine AO.ag rfl rfl ?_
       refine AO.nK [2, 3, 7, 8, 9, 10] ?_
       refine AW.block ?_
       refine AW.wK [2, 3, 7, 8, 9, 10] ?_
       refine AW.loop (fun kq ρ H => ∃ (x33 : (List Bool)) (x34 : Int), ρ = [(2, (eI64 p2)), (3, (.ptr n4 0)), (7, (.own n22 0 x23.length)), (8, (eI64 x24)), (9, (.own n30 0 x33.length)), (10, (eI64 x34))] ∧ H = [(n4, (.mem (e55 p0))), (n22, (.mem (.ar 1 (x23.map eBool)))), (n30, (.mem (.ar 1 (x33.map eBool))))] ∧ F59_l8 k rec25 p0 x23 x24 kq x33 x34 = some r) k ⟨(List.replicate (x23.length : Int).toNat false), (0 : Int), rfl, rfl, h⟩ ?_
       rintro kq36 _ _ ⟨x33, x34, rfl, rfl, h⟩
       cases kq36 with
       | zero => rw [F59_l8.eq_1] at h; cases h
       | succ kq36 =>
       rw [F59_l8.eq_2] at h
       generalize hrec35 : F59_l8 k rec25 p0 x23 x24 kq36 = rec35 at h
       refine AW.seq ?_
       refine AW.sr ?_
       refine AO.mv rfl rfl ?_
       refine AO.mv rfl rfl ?_
       refine AO.c (Calm.lenOwn rfl rfl Try.underlying98) ?_
       refine AO.c (x := eBool (decide (x34 < (x23.length : Int)))) (Calm.int rfl rfl rfl rfl) ?_
       refine AO.nK [2, 3, 7, 8, 9, 10, 37] ?_
       rcases of_ite h with ⟨hc37, h⟩ | ⟨hc37, h⟩
       ·refine AW.condP _ rfl hc37 ?_
        refine AW.sK [2, 3, 7, 8, 9, 10] ?_
        refine AW.seq_mid (fun ρ H => ∃ (x38 : (List Bool)), ρ = [(2, (eI64 p2)), (3, (.ptr n4 0)), (7, (.own n22 0 x23.length)), (8, (eI64 x24)), (9, (.own n30 0 x38.length)), (10, (eI64 x34))] ∧ H = [(n4, (.mem (e55 p0))), (n22, (.mem (.ar 1 (x23.map eBool)))), (n30, (.mem (.ar 1 (x38.map eBool))))] ∧ F59_c5 k rec35 x34 x38 = some r) ?_ ?_
        ·refine AW.block ?_
         refine AW.sr ?_
         refine AO.ag rfl rfl ?_
         refine AO.nK [2, 3, 7, 8, 9, 10, 11] ?_
         refine AW.block ?_
         refine AW.wK [2, 3, 7, 8, 9, 10, 11] ?_
         refine AW.loop (fun kq ρ H => ∃ (x39 : (List Bool)) (x40 : Int), ρ = [(2, (eI64 p2)), (3, (.ptr n4 0)), (7, (.own n22 0 x23.length)), (8, (eI64 x24)), (9, (.own n30 0 x39.length)), (10, (eI64 x34)), (11, (eI64 x40))] ∧ H = [(n4, (.mem (e55 p0))), (n22, (.mem (.ar 1 (x23.map eBool)))), (n30, (.mem (.ar 1 (x39.map eBool))))] ∧ F59_l7 k rec35 p0 x23 x34 kq x39 x40 = some r) k ⟨x33, (0 : Int), rfl, rfl, h⟩ ?_
         rintro kq42 _ _ ⟨x39, x40, rfl, rfl, h⟩
         cases kq42 with
         | zero => rw [F59_l7.eq_1] at h; cases h
         | succ kq42 =>
         rw [F59_l7.eq_2] at h
         generalize hrec41 : F59_l7 k rec35 p0 x23 x34 kq42 = rec41 at h
         refine AW.seq ?_
         refine AW.seq ?_
         obtain ⟨b43, hq44, h⟩ := of_bind h
         refine AW.regM [(2, (eI64 p2)), (3, (.ptr n4 0)), (7, (.own n22 0 x23.length)), (8, (eI64 x24)), (9, (.own n30 0 x39.length)), (10, (eI64 x34)), (11, (eI64 x40)), (53, (eBool b43))] [(n4, (.mem (e55 p0))), (n22, (.mem (.ar 1 (x23.map eBool)))), (n30, (.mem (.ar 1 (x39.map eBool))))] ?_ ?_
         ·refine AO.mv rfl rfl ?_
          refine AO.mv rfl rfl ?_
          obtain ⟨hg45, hq44⟩ := of_guard hq44
          refine AO.c (Calm.idxO 1 rfl rfl rfl rfl hg45 Try.underlying98 sz4) ?_
          refine AO.c (Calm.load 1 rfl rfl rfl (At.cast (At.lidx x34 hg45.1 hg45.2 At.here) (by omega)) ag4 sz4) ?_
          refine AO.mv rfl rfl ?_
          rcases of_ite hq44 with ⟨hc46, hq44⟩ | ⟨hc46, hq44⟩
          ·refine AO.cG rfl rfl (bD hc46) (Calm.move rfl rfl) ?_
           refine AO.cG (x := .ptr n4 256) rfl rfl (bD hc46) (Calm.fldPtr rfl rfl Try.underlying55 rfl sz53 _ rfl) ?_
           refine AO.cG rfl rfl (bD hc46) (Calm.load 0 rfl rfl rfl (At.cast (At.fldS (At.fld0 At.here)) rfl) ag53 sz53) ?_
           refine AO.cG rfl rfl (bD hc46) (Calm.move rfl rfl) ?_
           obtain ⟨hg47, hq44⟩ := of_guard hq44
           refine AO.cG rfl rfl (bD hc46) (Calm.idxL (f := e35) rfl rfl rfl hg47 Try.underlying53 sz35) ?_
           refine AO.cG rfl rfl (bD hc46) (Calm.loadRp rfl rfl ag35 sz35) ?_
           refine AO.cG rfl rfl (bD hc46) (Calm.lenL rfl rfl Try.underlying35) ?_
           refine AO.cG (x := eBool (decide (x40 < ((lget p0.f1 x34).length : Int)))) rfl rfl (bD hc46) (Calm.int rfl rfl rfl rfl) ?_
           refine AO.c (Calm.pickT rfl (bD hc46) rfl) ?_
           cases hq44
           refine AO.nilE ⟨rfl, rfl⟩ ?_ ?_
           · exact ⟨rfl, rfl, rfl, rfl, rfl, rfl, rfl, rfl, trivial⟩
           · exact (Sub.refl _)
          ·refine AO.sT rfl rfl (bD (eq_false_of_ne_true hc46)) ?_
           refine AO.sT rfl rfl (bD (eq_false_of_ne_true hc46)) ?_
           refine AO.sT rfl rfl (bD (eq_false_of_ne_true hc46)) ?_
           refine AO.sT rfl rfl (bD (eq_false_of_ne_true hc46)) ?_
           refine AO.sT rfl rfl (bD (eq_false_of_ne_true hc46)) ?_
           refine AO.sT rfl rfl (bD (eq_false_of_ne_true hc46)) ?_
           refine AO.sT rfl rfl (bD (eq_false_of_ne_true hc46)) ?_
           refine AO.sT rfl rfl (bD (eq_false_of_ne_true hc46)) ?_
           refine AO.c (Calm.pickF rfl (bD (eq_false_of_ne_true hc46)) rfl) ?_
           cases hq44
           refine AO.nilE ⟨rfl, rfl⟩ ?_ ?_
           · exact ⟨rfl, rfl, rfl, rfl, rfl, rfl, rfl, rfl, trivial⟩
           · exact (Sub.refl _)
         ·rcases of_ite h with ⟨hc48, h⟩ | ⟨hc48, h⟩
          ·refine AW.condT' _ rfl hc48 ?_
           refine AW.sK [2, 3, 7, 8, 9, 10, 11] ?_
           refine AW.seq_mid (fun ρ H => ∃ (x49 : (List Bool)), ρ = [(2, (eI64 p2)), (3, (.ptr n4 0)), (7, (.own n22 0 x23.length)), (8, (eI64 x24)), (9, (.own n30 0 x49.length)), (10, (eI64 x34)), (11, (eI64 x40))] ∧ H = [(n4, (.mem (e55 p0))), (n22, (.mem (.ar 1 (x23.map eBool)))), (n30, (.mem (.ar 1 (x49.map eBool))))] ∧ F59_c6 k rec41 x40 x49 = some r) ?_ ?_
           ·refine AW.block ?_
            refine AW.sr ?_
            refine AO.c (x := .ptr n4 256) (Calm.fldPtr rfl rfl Try.underlying55 rfl sz53 _ rfl) ?_
            refine AO.c (Calm.load 0 rfl rfl rfl (At.cast (At.fldS (At.fld0 At.here)) rfl) ag53 sz53) ?_
            refine AO.mv rfl rfl ?_
            obtain ⟨hg50, h⟩ := of_guard h
            refine AO.c (Calm.idxL (f := e35) rfl rfl rfl hg50 Try.underlying53 sz35) ?_
            refine AO.c (Calm.loadRp rfl rfl ag35 sz35) ?_
            refine AO.mv rfl rfl ?_
            obtain ⟨hg51, h⟩ := of_guard h
            refine AO.c (Calm.idxL (f := eI64) rfl rfl rfl hg51 Try.underlying35 sz3) ?_
            refine AO.c (Calm.loadRp rfl rfl ag3 sz3) ?_
            refine AO.c (x := eBool (decide ((0 : Int) ≤ (lget (lget p0.f1 x34) x40)))) (Calm.int rfl rfl rfl rfl) ?_
            refine AO.nK [2, 3, 7, 8, 9, 10, 11, 64] ?_
            rcases of_ite h with ⟨hc52, h⟩ | ⟨hc52, h⟩
            ·refine AW.condP _ rfl hc52 ?_
             refine AW.reg ?_
             refine AO.mv rfl rfl ?_
             refine AO.c (x := .ptr n4 256) (Calm.fldPtr rfl rfl Try.underlying55 rfl sz53 _ rfl) ?_
             refine AO.c (Calm.load 0 rfl rfl rfl (At.cast (At.fldS (At.fld0 At.here)) rfl) ag53 sz53) ?_
             refine AO.mv rfl rfl ?_
             obtain ⟨hg53, h⟩ := of_guard h
             refine AO.c (Calm.idxL (f := e35) rfl rfl rfl hg53 Try.underlying53 sz35) ?_
             refine AO.c (Calm.loadRp rfl rfl ag35 sz35) ?_
             refine AO.mv rfl rfl ?_
             obtain ⟨hg54, h⟩ := of_guard h
             refine AO.c (Calm.idxL (f := eI64) rfl rfl rfl hg54 Try.underlying35 sz3) ?_
             refine AO.c (Calm.loadRp rfl rfl ag3 sz3) ?_
             obtain ⟨hg55, h⟩ := of_guard h
             refine AO.c (Calm.idxO 2 rfl rfl rfl rfl hg55 Try.underlying98 sz4) ?_
             refine AO.store (X' := (.ar 1 ((lset x39 (lget (lget p0.f1 x34) x40) true).map eBool))) 2 rfl rfl rfl rfl rfl rfl (Put.cast (Put.lidx (lget (lget p0.f1 x34) x40) true hg55.1 hg55.2 Put.here) (by omega)) rfl rfl sz4 rfl ?_
             refine AO.coe 9 (y' := (.own n30 0 (lset x39 (lget (lget p0.f1 x34) x40) true).length)) rfl (fun _ _ h => lset_own h) ?_
             refine AO.coe 65 (y' := (.own n30 0 (lset x39 (lget (lget p0.f1 x34) x40) true).length)) rfl (fun _ _ h => lset_own h) ?_
             refine AO.nK [2, 3, 7, 8, 9, 10, 11] ?_
             exact ⟨(lset x39 (lget (lget p0.f1 x34) x40) true), rfl, rfl, h⟩
            ·refine AW.condN _ rfl hc52 ?_
             refine AW.sK [2, 3, 7, 8, 9, 10, 11] ?_
             exact ⟨x39, rfl, rfl, h⟩
           ·rintro _ _ ⟨x49, rfl, rfl, h⟩
            rw [F59_c6.eq_1] at h
            refine AW.reg ?_
            refine AO.mv rfl rfl ?_
            refine AO.c (x := eI64 (w64 (x40 + (1 : Int)))) (Calm.int rfl rfl rfl rfl) ?_
            refine AO.ag rfl rfl ?_
            refine AO.nK [2, 3, 7, 8, 9, 10, 11] ?_
            exact ⟨kq42, Nat.lt_succ_self _, x49, (w64 (x40 + (1 : Int))), rfl, rfl, by rw [hrec41]; exact h⟩
          ·refine AW.condF' _ rfl hc48 ?_
           refine AW.eK [2, 3, 7, 8, 9, 10] ?_
           exact ⟨x39, rfl, rfl, h⟩
        ·rintro _ _ ⟨x38, rfl, rfl, h⟩
         rw [F59_c5.eq_1] at h
         refine AW.reg ?_
         refine AO.mv rfl rfl ?_
         refine AO.c (x := eI64 (w64 (x34 + (1 : Int)))) (Calm.int rfl rfl rfl rfl) ?_
         refine AO.ag rfl rfl ?_
         refine AO.nK [2, 3, 7, 8, 9, 10] ?_
         exact ⟨kq36, Nat.lt_succ_self _, x38, (w64 (x34 + (1 : Int))), rfl, rfl, by rw [hrec35]; exact h⟩
       ·refine AW.condN _ rfl hc37 ?_
        refine AW.eH [2, 3, 8, 9] (H' := [(n4, (.mem (e55 p0))), (n30, (.mem (.ar 1 (x33.map eBool))))]) (Sub.cons 0 rfl (Sub.cons 1 rfl (Sub.nil _))) ?_
        exact ⟨x33, rfl, rfl, h⟩
      ·rintro _ _ ⟨x32, rfl, rfl, h⟩
       rw [F59_c4.eq_1] at h
       refine AW.reg ?_
       refine AO.mv rfl rfl ?_
       refine AO.ag rfl rfl ?_
       refine AO.nK [2, 3, 7, 8] ?_
       exact ⟨n30, x32, rfl, rfl, h⟩
     ·rintro _ _ ⟨n28, x29, rfl, rfl, h⟩
      rw [F59_c3.eq_1] at h
      refine AW.reg ?_
      refine AO.mv rfl rfl ?_
      refine AO.c (x := eI64 (w64 (x24 + (1 : Int)))) (Calm.int rfl rfl rfl rfl) ?_
      refine AO.ag rfl rfl ?_
      refine AO.nK [2, 3, 7, 8] ?_
      exact ⟨kq26, Nat.lt_succ_self _, n28, x29, (w64 (x24 + (1 : Int))), rfl, rfl, by rw [hrec25]; exact h⟩
    ·refine AW.condN _ rfl hc27 ?_
     refine AW.eK [3, 7] ?_
     exact ⟨n22, x23, rfl, rfl, h⟩
   ·rintro _ _ ⟨n10, x11, rfl, rfl, h⟩
    rw [F59_c2.eq_1] at h
    refine AW.seq_mid (fun ρ H => ρ = [] ∧ H = [] ∧ F59_c0 k = some r) ?_ ?_
    ·refine AW.sr ?_
     refine AO.ag rfl rfl ?_
     refine AO.nK [3, 7, 12] ?_
     refine AW.block ?_
     refine AW.wK [3, 7, 12] ?_
     refine AW.loop (fun kq ρ H => ∃ (x12 : Int), ρ = [(3, (.ptr n4 0)), (7, (.own n10 0 x11.length)), (12, (eI64 x12))] ∧ H = [(n4, (.mem (e55 p0))), (n10, (.mem (.ar 1 (x11.map eBool))))] ∧ F59_l1 k p0 x11 kq x12 = some r) k ⟨(0 : Int), rfl, rfl, h⟩ ?_
     rintro kq14 _ _ ⟨x12, rfl, rfl, h⟩
     cases kq14 with
     | zero => rw [F59_l1.eq_1] at h; cases h
     | succ kq14 =>
     rw [F59_l1.eq_2] at h
     generalize hrec13 : F59_l1 k p0 x11 kq14 = rec13 at h
     refine AW.seq ?_
     refine AW.sr ?_
     refine AO.mv rfl rfl ?_
     refine AO.mv rfl rfl ?_
     refine AO.c (Calm.lenOwn rfl rfl Try.underlying98) ?_
     refine AO.c (x := eBool (decide (x12 < (x11.length : Int)))) (Calm.int rfl rfl rfl rfl) ?_
     refine AO.nK [3, 7, 12, 79] ?_
     rcases of_ite h with ⟨hc15, h⟩ | ⟨hc15, h⟩
     ·refine AW.condP _ rfl hc15 ?_
      refine AW.sK [3, 7, 12] ?_
      refine AW.seq ?_
      refine AW.block ?_
      refine AW.seq ?_
      obtain ⟨b16, hq17, h⟩ := of_bind h
      refine AW.regM [(3, (.ptr n4 0)), (7, (.own n10 0 x11.length)), (12, (eI64 x12)), (93, (eBool b16))] [(n4, (.mem (e55 p0))), (n10, (.mem (.ar 1 (x11.map eBool))))] ?_ ?_
      ·refine AO.mv rfl rfl ?_
       refine AO.mv rfl rfl ?_
       obtain ⟨hg18, hq17⟩ := of_guard hq17
       refine AO.c (Calm.idxO 1 rfl rfl rfl rfl hg18 Try.underlying98 sz4) ?_
       refine AO.c (Calm.load 1 rfl rfl rfl (At.cast (At.lidx x12 hg18.1 hg18.2 At.here) (by omega)) ag4 sz4) ?_
       refine AO.mv rfl rfl ?_
       rcases of_ite hq17 with ⟨hc19, hq17⟩ | ⟨hc19, hq17⟩
       ·refine AO.cG (x := .ptr n4 257) rfl rfl (bD hc19) (Calm.fldPtr rfl rfl Try.underlying55 rfl sz35 _ rfl) ?_
        refine AO.cG rfl rfl (bD hc19) (Calm.load 0 rfl rfl rfl (At.cast (At.fldS (At.fldS (At.fld0 At.here))) rfl) ag35 sz35) ?_
        refine AO.cG rfl rfl (bD hc19) (Calm.move rfl rfl) ?_
        obtain ⟨hg20, hq17⟩ := of_guard hq17
        refine AO.cG rfl rfl (bD hc19) (Calm.idxL (f := eI64) rfl rfl rfl hg20 Try.underlying35 sz3) ?_
        refine AO.cG rfl rfl (bD hc19) (Calm.loadRp rfl rfl ag3 sz3) ?_
        refine AO.cG (x := eBool (decide ((0 : Int) ≤ (lget p0.f2 x12)))) rfl rfl (bD hc19) (Calm.int rfl rfl rfl rfl) ?_
        refine AO.c (Calm.pickT rfl (bD hc19) rfl) ?_
        cases hq17
        refine AO.nilE ⟨rfl, rfl⟩ ?_ ?_
        · exact ⟨rfl, rfl, rfl, rfl, trivial⟩
        · exact (Sub.refl _)
       ·refine AO.sT rfl rfl (bD (eq_false_of_ne_true hc19)) ?_
        refine AO.sT rfl rfl (bD (eq_false_of_ne_true hc19)) ?_
        refine AO.sT rfl rfl (bD (eq_false_of_ne_true hc19)) ?_
        refine AO.sT rfl rfl (bD (eq_false_of_ne_true hc19)) ?_
        refine AO.sT rfl rfl (bD (eq_false_of_ne_true hc19)) ?_
        refine AO.sT rfl rfl (bD (eq_false_of_ne_true hc19)) ?_
        refine AO.c (Calm.pickF rfl (bD (eq_false_of_ne_true hc19)) rfl) ?_
        cases hq17
        refine AO.nilE ⟨rfl, rfl⟩ ?_ ?_
        · exact ⟨rfl, rfl, rfl, rfl, trivial⟩
        · exact (Sub.refl _)
      ·rcases of_ite h with ⟨hc21, h⟩ | ⟨hc21, h⟩
       ·refine AW.condT' _ rfl hc21 ?_
        refine AW.sr ?_
        refine AO.ag rfl rfl ?_
        refine AO.nH [6] (H' := []) (Sub.nil _) ?_
        refine AW.rK [6] ?_
        have hr := Option.some.inj h
        subst hr
        exact ⟨[(eBool true)], ⟨rfl, rfl, trivial⟩, rfl⟩
       ·refine AW.condF' _ rfl hc21 ?_
        refine AW.sK [3, 7, 12] ?_
        refine AW.reg ?_
        refine AO.mv rfl rfl ?_
        refine AO.c (x := eI64 (w64 (x12 + (1 : Int)))) (Calm.int rfl rfl rfl rfl) ?_
        refine AO.ag rfl rfl ?_
        refine AO.nK [3, 7, 12] ?_
        exact ⟨kq14, Nat.lt_succ_self _, (w64 (x12 + (1 : Int))), rfl, rfl, by rw [hrec13]; exact h⟩
     ·refine AW.condN _ rfl hc15 ?_
      refine AW.eH [] (H' := []) (Sub.nil _) ?_
      exact ⟨rfl, rfl, h⟩
    ·rintro _ _ ⟨rfl, rfl, h⟩
     rw [F59_c0.eq_1] at h
     refine AW.sr ?_
     refine AO.ag rfl rfl ?_
     refine AO.nK [6] ?_
     refine AW.rK [6] ?_
     have hr := Option.some.inj h
     subst hr
     exact ⟨[(eBool false)], ⟨rfl, rfl, trivial⟩, rfl⟩
end Go.Avl.T7
/- bosket/bosketref10.Shortest; printed by avmain.py. -/
namespace Go.Avl.T7
open Go Go.RowKit Go.Proofs Go.Avl
set_option linter.unusedVariables false
set_option maxRecDepth 100000
set_option maxHeartbeats 4000000
attribute [local irreducible] AW AO AQ Spec SpecH Calm

def F30_c0 (k : Nat) : Option (ByteArray × Bool) :=
  some ((ByteArray.mk #[]), false)
def F30_c1 (k : Nat) (rec6 : (Int → Option (ByteArray × Bool))) (x5 : Int) : Option (ByteArray × Bool) :=
  rec6 (w64 (x5 + (1 : Int)))
def F30_c2 (k : Nat) (x11 : ByteArray) : Option (ByteArray × Bool) :=
  some (x11, true)
def F30_c3 (k : Nat) (rec15 : (ByteArray → Int → Int → Option (ByteArray × Bool))) (x14 : Int) (x18 : ByteArray) (x19 : Int) : Option (ByteArray × Bool) :=
  rec15 x18 x19 (w64 (x14 - (1 : Int)))
def F30_l4 (k : Nat) (rec15 : (ByteArray → Int → Int → Option (ByteArray × Bool))) (p0 : S55) (x12 : ByteArray) (x13 : Int) (x14 : Int) : Nat → Int → Option (ByteArray × Bool)
  | 0, _ => none
  | j + 1, x20 =>
    if x20 < (256 : Int) then (F60 k p0 x13 x20).bind fun t24 =>
    Option.bind (α := Bool) (if (0 : Int) ≤ t24 then (F59 k p0 t24 (w64 (x14 - (1 : Int)))).bind fun t28 =>
    some (t28)
    else some (false)) fun b25 =>
    if b25 = true then if x12.size + (strOfNums ([(w8 x20)] : List Int)).size ≤ 9223372036854775807 then F30_c3 k rec15 x14 (x12 ++ (strOfNums ([(w8 x20)] : List Int))) t24
    else none
    else (F30_l4 k rec15 p0 x12 x13 x14 j) (w64 (x20 + (1 : Int)))
    else F30_c3 k rec15 x14 x12 x13
def F30_l5 (k : Nat) (p0 : S55) : Nat → ByteArray → Int → Int → Option (ByteArray × Bool)
  | 0, _, _, _ => none
  | j + 1, x12, x13, x14 =>
    if (0 : Int) < x14 then F30_l4 k (F30_l5 k p0 j) p0 x12 x13 x14 k (0 : Int)
    else F30_c2 k x12
def F30_l6 (k : Nat) (p0 : S55) : Nat → Int → Option (ByteArray × Bool)
  | 0, _ => none
  | j + 1, x5 =>
    if x5 ≤ (p0.f1.length : Int) then (F59 k p0 (0 : Int) x5).bind fun t9 =>
    if (!t9) = true then F30_c1 k (F30_l6 k p0 j) x5
    else F30_l5 k p0 k (ByteArray.mk #[]) (0 : Int) x5
    else F30_c0 k
def F30 (k : Nat) (p0 : S55) : Option (ByteArray × Bool) :=
  (F28 k p0).bind fun t3 =>
  if (!t3) = true then some ((ByteArray.mk #[]), false)
  else F30_l6 k p0 k (0 : Int)
theorem F30_spec {k : Nat} {p0 : S55} {r : (ByteArray × Bool)} (h : F30 k p0 = some r) : Spec Try.prog 30 [(e55 p0)] (.tup [(eStr r.1), (eBool r.2)]) := by
  rw [F30.eq_1] at h
  refine Spec.intro (res := [.tmp 2, .tmp 3]) Try.func30 rfl rfl rfl (Nat.le_of_ble_eq_true rfl) ?_
  refine AW.sr ?_
  refine AO.box rfl 1 rfl (by decide) rfl rfl rfl fun n2 => ?_
  refine AO.ag rfl rfl ?_
  refine AO.ag rfl rfl ?_
  refine AO.nK [1] ?_
  refine AW.seq ?_
  refine AW.sr ?_
  refine AO.c (Calm.load 0 rfl rfl rfl (At.cast At.here rfl) ag55 sz55) ?_
  obtain ⟨t3, et3, h⟩ := of_bind h
  refine AO.callS [(e55 p0)] (eBool t3) 11 rfl (by decide) ok28 rfl rfl rfl ⟨rfl, rfl, trivial⟩ (F28_spec et3) ?_
  refine AO.c (Calm.not rfl rfl) ?_
  refine AO.nK [1, 12] ?_
  rcases of_ite h with ⟨hc4, h⟩ | ⟨hc4, h⟩
  ·refine AW.condT' _ rfl hc4 ?_
   refine AW.sr ?_
   refine AO.ag rfl rfl ?_
   refine AO.ag rfl rfl ?_
   refine AO.nH [2, 3] (H' := []) (Sub.nil _) ?_
   refine AW.rK [2, 3] ?_
   have hr := Option.some.inj h
   subst hr
   exact ⟨[(eStr (ByteArray.mk #[])), (eBool false)], ⟨rfl, rfl, rfl, rfl, trivial⟩, rfl⟩
  ·refine AW.condF' _ rfl hc4 ?_
   refine AW.sK [1] ?_
   refine AW.seq_mid (fun ρ H => ρ = [] ∧ H = [] ∧ F30_c0 k = some r) ?_ ?_
   ·refine AW.sr ?_
    refine AO.ag rfl rfl ?_
    refine AO.nK [1, 4] ?_
    refine AW.block ?_
    refine AW.wK [1, 4] ?_
    refine AW.loop (fun kq ρ H => ∃ (x5 : Int), ρ = [(1, (.ptr n2 0)), (4, (eI64 x5))] ∧ H = [(n2, (.mem (e55 p0)))] ∧ F30_l6 k p0 kq x5 = some r) k ⟨(0 : Int), rfl, rfl, h⟩ ?_
    rintro kq7 _ _ ⟨x5, rfl, rfl, h⟩
    cases kq7 with
    | zero => rw [F30_l6.eq_1] at h; cases h
    | succ kq7 =>
    rw [F30_l6.eq_2] at h
    generalize hrec6 : F30_l6 k p0 kq7 = rec6 at h
    refine AW.seq ?_
    refine AW.sr ?_
    refine AO.mv rfl rfl ?_
    refine AO.c (x := .ptr n2 256) (Calm.fldPtr rfl rfl Try.underlying55 rfl sz53 _ rfl) ?_
    refine AO.c (Calm.load 0 rfl rfl rfl (At.cast (At.fldS (At.fld0 At.here)) rfl) ag53 sz53) ?_
    refine AO.c (Calm.lenL rfl rfl Try.underlying53) ?_
    refine AO.c (x := eBool (decide (x5 ≤ (p0.f1.length : Int)))) (Calm.int rfl rfl rfl rfl) ?_
    refine AO.nK [1, 4, 17] ?_
    rcases of_ite h with ⟨hc8, h⟩ | ⟨hc8, h⟩
    ·refine AW.condP _ rfl hc8 ?_
     refine AW.sK [1, 4] ?_
     refine AW.seq_mid (fun ρ H => ρ = [(1, (.ptr n2 0)), (4, (eI64 x5))] ∧ H = [(n2, (.mem (e55 p0)))] ∧ F30_c1 k rec6 x5 = some r) ?_ ?_
     ·refine AW.block ?_
      refine AW.seq ?_
      refine AW.sr ?_
      refine AO.c (Calm.load 0 rfl rfl rfl (At.cast At.here rfl) ag55 sz55) ?_
      refine AO.mv rfl rfl ?_
      obtain ⟨t9, et9, h⟩ := of_bind h
      refine AO.callS [(e55 p0), (eI64 (0 : Int)), (eI64 x5)] (eBool t9) 22 rfl (by decide) ok59 rfl rfl rfl ⟨rfl, rfl, rfl, rfl, rfl, rfl, trivial⟩ (F59_spec et9) ?_
      refine AO.c (Calm.not rfl rfl) ?_
      refine AO.nK [1, 4, 23] ?_
      rcases of_ite h with ⟨hc10, h⟩ | ⟨hc10, h⟩
      ·refine AW.condT' _ rfl hc10 ?_
       refine AW.eK [1, 4] ?_
       exact ⟨rfl, rfl, h⟩
      ·refine AW.condF' _ rfl hc10 ?_
       refine AW.sK [1, 4] ?_
       refine AW.sr ?_
       refine AO.ag rfl rfl ?_
       refine AO.ag rfl rfl ?_
       refine AO.nK [1, 4, 5, 6] ?_
       refine AW.seq_mid (fun ρ H => ∃ (x11 : ByteArray), ρ = [(5, (eStr x11))] ∧ H = [] ∧ F30_c2 k x11 = some r) ?_ ?_
       ·refine AW.sr ?_
        refine AO.mv rfl rfl ?_
        refine AO.ag rfl rfl ?_
        refine AO.nK [1, 5, 6, 7] ?_
        refine AW.block ?_
        refine AW.wK [1, 5, 6, 7] ?_
        refine AW.loop (fun kq ρ H => ∃ (x12 : ByteArray) (x13 : Int) (x14 : Int), ρ = [(1, (.ptr n2 0)), (5, (eStr x12)), (6, (eI64 x13)), (7, (eI64 x14))] ∧ H = [(n2, (.mem (e55 p0)))] ∧ F30_l5 k p0 kq x12 x13 x14 = some r) k ⟨(ByteArray.mk #[]), (0 : Int), x5, rfl, rfl, h⟩ ?_
        rintro kq16 _ _ ⟨x12, x13, x14, rfl, rfl, h⟩
        cases kq16 with
        | zero => rw [F30_l5.eq_1] at h; cases h
        | succ kq16 =>
        rw [F30_l5.eq_2] at h
        generalize hrec15 : F30_l5 k p0 kq16 = rec15 at h
        refine AW.seq ?_
        refine AW.sr ?_
        refine AO.mv rfl rfl ?_
        refine AO.c (x := eBool (decide ((0 : Int) < x14))) (Calm.int rfl rfl rfl rfl) ?_
        refine AO.nK [1, 5, 6, 7, 26] ?_
        rcases of_ite h with ⟨hc17, h⟩ | ⟨hc17, h⟩
        ·refine AW.condP _ rfl hc17 ?_
         refine AW.sK [1, 5, 6, 7] ?_
         refine AW.seq_mid (fun ρ H => ∃ (x18 : ByteArray) (x19 : Int), ρ = [(1, (.ptr n2 0)), (5, (eStr x18)), (6, (eI64 x19)), (7, (eI64 x14))] ∧ H = [(n2, (.mem (e55 p0)))] ∧ F30_c3 k rec15 x14 x18 x19 = some r) ?_ ?_
         ·refine AW.block ?_
          refine AW.sr ?_
          refine AO.ag rfl rfl ?_
          refine AO.nK [1, 5, 6, 7, 8] ?_
          refine AW.block ?_
          refine AW.wK [1, 5, 6, 7, 8] ?_
          refine AW.loop (fun kq ρ H => ∃ (x20 : Int), ρ = [(1, (.ptr n2 0)), (5, (eStr x12)), (6, (eI64 x13)), (7, (eI64 x14)), (8, (eI64 x20))] ∧ H = [(n2, (.mem (e55 p0)))] ∧ F30_l4 k rec15 p0 x12 x13 x14 kq x20 = some r) k ⟨(0 : Int), rfl, rfl, h⟩ ?_
          rintro kq22 _ _ ⟨x20, rfl, rfl, h⟩
          cases kq22 with
          | zero => rw [F30_l4.eq_1] at h; cases h
          | succ kq22 =>
          rw [F30_l4.eq_2] at h
          generalize hrec21 : F30_l4 k rec15 p0 x12 x13 x14 kq22 = rec21 at h
          refine AW.seq ?_
          refine AW.sr ?_
          refine AO.mv rfl rfl ?_
          refine AO.c (x := eBool (decide (x20 < (256 : Int)))) (Calm.int rfl rfl rfl rfl) ?_
          refine AO.nK [1, 5, 6, 7, 8, 30] ?_
          rcases of_ite h with ⟨hc23, h⟩ | ⟨hc23, h⟩
          ·refine AW.condP _ rfl hc23 ?_
           refine AW.sK [1, 5, 6, 7, 8] ?_
           refine AW.seq ?_
           refine AW.block ?_
           refine AW.sr ?_
           refine AO.c (Calm.load 0 rfl rfl rfl (At.cast At.here rfl) ag55 sz55) ?_
           refine AO.mv rfl rfl ?_
           refine AO.mv rfl rfl ?_
           obtain ⟨t24, et24, h⟩ := of_bind h
           refine AO.callS [(e55 p0), (eI64 x13), (eI64 x20)] (eI64 t24) 36 rfl (by decide) ok60 rfl rfl rfl ⟨rfl, rfl, rfl, rfl, rfl, rfl, trivial⟩ (F60_spec et24) ?_
           refine AO.ag rfl rfl ?_
           refine AO.nK [1, 5, 6, 7, 8, 9] ?_
           refine AW.seq ?_
           obtain ⟨b25, hq26, h⟩ := of_bind h
           refine AW.regM [(1, (.ptr n2 0)), (5, (eStr x12)), (6, (eI64 x13)), (7, (eI64 x14)), (8, (eI64 x20)), (9, (eI64 t24)), (45, (eBool b25))] [(n2, (.mem (e55 p0)))] ?_ ?_
           ·refine AO.mv rfl rfl ?_
            refine AO.c (x := eBool (decide ((0 : Int) ≤ t24))) (Calm.int rfl rfl rfl rfl) ?_
            refine AO.mv rfl rfl ?_
            rcases of_ite hq26 with ⟨hc27, hq26⟩ | ⟨hc27, hq26⟩
            ·refine AO.cG rfl rfl (bD (decide_eq_true hc27)) (Calm.load 0 rfl rfl rfl (At.cast At.here rfl) ag55 sz55) ?_
             refine AO.cG rfl rfl (bD (decide_eq_true hc27)) (Calm.move rfl rfl) ?_
             refine AO.cG rfl rfl (bD (decide_eq_true hc27)) (Calm.move rfl rfl) ?_
             refine AO.cG (x := eI64 (w64 (x14 - (1 : Int)))) rfl rfl (bD (decide_eq_true hc27)) (Calm.int rfl rfl rfl rfl) ?_
             obtain ⟨t28, et28, hq26⟩ := of_bind hq26
             refine AO.callG 2 true 39 [(e55 p0), (eI64 t24), (eI64 (w64 (x14 - (1 : Int))))] (eBool t28) 44 rfl (by decide) ok59 rfl rfl (bD (decide_eq_true hc27)) rfl rfl ⟨rfl, rfl, rfl, rfl, rfl, rfl, trivial⟩ (F59_spec et28) ?_
             refine AO.c (Calm.pickT rfl (bD (decide_eq_true hc27)) rfl) ?_
             cases hq26
             refine AO.nilE ⟨rfl, rfl⟩ ?_ ?_
             · exact ⟨rfl, rfl, rfl, rfl, rfl, rfl, rfl, trivial⟩
             · exact (Sub.refl _)
            ·refine AO.sT rfl rfl (bD (decide_eq_false hc27)) ?_
             refine AO.sT rfl rfl (bD (decide_eq_false hc27)) ?_
             refine AO.sT rfl rfl (bD (decide_eq_false hc27)) ?_
             refine AO.sT rfl rfl (bD (decide_eq_false hc27)) ?_
             refine AO.sT rfl rfl (bD (decide_eq_false hc27)) ?_
             refine AO.c (Calm.pickF rfl (bD (decide_eq_false hc27)) rfl) ?_
             cases hq26
             refine AO.nilE ⟨rfl, rfl⟩ ?_ ?_
             · exact ⟨rfl, rfl, rfl, rfl, rfl, rfl, rfl, trivial⟩
             · exact (Sub.refl _)
           ·rcases of_ite h with ⟨hc29, h⟩ | ⟨hc29, h⟩
            ·refine AW.condT' _ rfl hc29 ?_
             refine AW.sr ?_
             refine AO.mv rfl rfl ?_
             refine AO.mv rfl rfl ?_
             refine AO.c (x := eU8 (w8 x20)) (Calm.conv rfl rfl Try.underlying3 Try.underlying5) ?_
             refine AO.lit (Z := (eU8 (0 : Int))) (xs := (([(w8 x20)] : List Int).map eU8)) (qs := [(0, (eU8 (w8 x20)))]) rfl 49 rfl (by decide) rfl ⟨rfl, rfl, rfl, trivial⟩ Try.underlying102 sz5 zr5 lay5 rfl (by decide) (litOK (z := 1) [(eU8 (w8 x20))] rfl ⟨⟨rfl, rfl⟩, trivial⟩) rfl fun n30 => ?_
             refine AO.c (x := eStr (strOfNums ([(w8 x20)] : List Int))) (Calm.strO 0 rfl rfl rfl Try.underlying102 Try.underlying9 Try.underlying5) ?_
             obtain ⟨hg31, h⟩ := of_guard h
             refine AO.c (x := eStr (x12 ++ (strOfNums ([(w8 x20)] : List Int)))) (Calm.cat rfl rfl rfl hg31) ?_
             refine AO.ag rfl rfl ?_
             refine AO.nH [1, 5, 7, 9] (H' := [(n2, (.mem (e55 p0)))]) (Sub.cons 1 rfl (Sub.nil _)) ?_
             refine AW.sr ?_
             refine AO.mv rfl rfl ?_
             refine AO.ag rfl rfl ?_
             refine AO.nK [1, 5, 6, 7] ?_
             refine AW.eK [1, 5, 6, 7] ?_
             exact ⟨(x12 ++ (strOfNums ([(w8 x20)] : List Int))), t24, rfl, rfl, h⟩
            ·refine AW.condF' _ rfl hc29 ?_
             refine AW.sK [1, 5, 6, 7, 8] ?_
             refine AW.reg ?_
             refine AO.mv rfl rfl ?_
             refine AO.c (x := eI64 (w64 (x20 + (1 : Int)))) (Calm.int rfl rfl rfl rfl) ?_
             refine AO.ag rfl rfl ?_
             refine AO.nK [1, 5, 6, 7, 8] ?_
             exact ⟨kq22, Nat.lt_succ_self _, (w64 (x20 + (1 : Int))), rfl, rfl, by rw [hrec21]; exact h⟩
          ·refine AW.condN _ rfl hc23 ?_
           refine AW.eK [1, 5, 6, 7] ?_
           exact ⟨x12, x13, rfl, rfl, h⟩
         ·rintro _ _ ⟨x18, x19, rfl, rfl, h⟩
          rw [F30_c3.eq_1] at h
          refine AW.reg ?_
          refine AO.mv rfl rfl ?_
          refine AO.c (x := eI64 (w64 (x14 - (1 : Int)))) (Calm.int rfl rfl rfl rfl) ?_
          refine AO.ag rfl rfl ?_
          refine AO.nK [1, 5, 6, 7] ?_
          exact ⟨kq16, Nat.lt_succ_self _, x18, x19, (w64 (x14 - (1 : Int))), rfl, rfl, by rw [hrec15]; exact h⟩
        ·refine AW.condN _ rfl hc17 ?_
         refine AW.eH [5] (H' := []) (Sub.nil _) ?_
         exact ⟨x12, rfl, rfl, h⟩
       ·rintro _ _ ⟨x11, rfl, rfl, h⟩
        rw [F30_c2.eq_1] at h
        refine AW.sr ?_
        refine AO.mv rfl rfl ?_
        refine AO.ag rfl rfl ?_
        refine AO.ag rfl rfl ?_
        refine AO.nK [2, 3] ?_
        refine AW.rK [2, 3] ?_
        have hr := Option.some.inj h
        subst hr
        exact ⟨[(eStr x11), (eBool true)], ⟨rfl, rfl, rfl, rfl, trivial⟩, rfl⟩
     ·rintro _ _ ⟨rfl, rfl, h⟩
      rw [F30_c1.eq_1] at h
      refine AW.reg ?_
      refine AO.mv rfl rfl ?_
      refine AO.c (x := eI64 (w64 (x5 + (1 : Int)))) (Calm.int rfl rfl rfl rfl) ?_
      refine AO.ag rfl rfl ?_
      refine AO.nK [1, 4] ?_
      exact ⟨kq7, Nat.lt_succ_self _, (w64 (x5 + (1 : Int))), rfl, rfl, by rw [hrec6]; exact h⟩
    ·refine AW.condN _ rfl hc8 ?_
     refine AW.eH [] (H' := []) (Sub.nil _) ?_
     exact ⟨rfl, rfl, h⟩
   ·rintro _ _ ⟨rfl, rfl, h⟩
    rw [F30_c0.eq_1] at h
    refine AW.sr ?_
    refine AO.ag rfl rfl ?_
    refine AO.ag rfl rfl ?_
    refine AO.nK [2, 3] ?_
    refine AW.rK [2, 3] ?_
    have hr := Option.some.inj h
    subst hr
    exact ⟨[(eStr (ByteArray.mk #[])), (eBool false)], ⟨rfl, rfl, rfl, rfl, trivial⟩, rfl⟩
end Go.Avl.T7
/- bosket/rules.Blanks; printed by avmain.py. -/
namespace Go.Avl.T7
open Go Go.RowKit Go.Proofs Go.Avl
set_option linter.unusedVariables false
set_option maxRecDepth 100000
set_option maxHeartbeats 4000000
attribute [local irreducible] AW AO AQ Spec SpecH Calm

def F31 (k : Nat) : Option (Vector Int 4) :=
  (F61 k [(32 : Int), (10 : Int), (9 : Int), (13 : Int)]).bind fun t3 =>
  some (t3)
theorem F31_spec {k : Nat}  {r : (Vector Int 4)} (h : F31 k = some r) : Spec Try.prog 31 [] (e62 r) := by
  rw [F31.eq_1] at h
  refine Spec.intro (res := [.cell 0 62]) Try.func31 rfl rfl rfl (Nat.le_of_ble_eq_true rfl) ?_
  refine AW.sr ?_
  refine AO.alloc rfl 0 rfl (by decide) rfl zr62 lay62 fun n1 => ?_
  refine AO.nK [0] ?_
  refine AW.sr ?_
  refine AO.lit (Z := (eU8 (0 : Int))) (xs := (([(32 : Int), (10 : Int), (9 : Int), (13 : Int)] : List Int).map eU8)) (qs := [(0, (eU8 (32 : Int))), (1, (eU8 (10 : Int))), (2, (eU8 (9 : Int))), (3, (eU8 (13 : Int)))]) rfl 1 rfl (by decide) rfl ⟨rfl, rfl, rfl, rfl, rfl, rfl, rfl, rfl, rfl, rfl, rfl, rfl, trivial⟩ Try.underlying102 sz5 zr5 lay5 rfl (by decide) (litOK (z := 1) [(eU8 (32 : Int)), (eU8 (10 : Int)), (eU8 (9 : Int)), (eU8 (13 : Int))] rfl ⟨⟨rfl, rfl⟩, ⟨rfl, rfl⟩, ⟨rfl, rfl⟩, ⟨rfl, rfl⟩, trivial⟩) rfl fun n2 => ?_
  obtain ⟨t3, et3, h⟩ := of_bind h
  refine AO.freezeS 0 [(1, (.fz 1 (([(32 : Int), (10 : Int), (9 : Int), (13 : Int)] : List Int).map eU8)))] rfl ⟨fz_all rfl, trivial⟩ ?_
  refine AO.callS [(.fz 1 (([(32 : Int), (10 : Int), (9 : Int), (13 : Int)] : List Int).map eU8))] (.ar 1 (t3.toList.map eU64)) 2 rfl (by decide) ok61 rfl rfl rfl ⟨rfl, rfl, trivial⟩ (F61_spec et3) ?_
  refine AO.store (X' := (.ar 1 (t3.toList.map eU64))) 0 rfl rfl rfl rfl rfl rfl (Put.cast Put.here rfl) rfl (by simp [AV.size]) (by rw [sz62]; simp [AV.size]) rfl ?_
  refine AO.nK [0] ?_
  refine AW.rK [0] ?_
  have hr := Option.some.inj h
  subst hr
  exact ⟨[(.ar 1 (t3.toList.map eU64))], ⟨⟨_, 0, rfl, rfl, ag62, (by rw [sz62]; simp [AV.size])⟩, trivial⟩, rfl⟩
end Go.Avl.T7
/- bosket/bosketlaw11.RulesHidden; printed by avmain.py. -/
namespace Go.Avl.T7
open Go Go.RowKit Go.Proofs Go.Avl
set_option linter.unusedVariables false
set_option maxRecDepth 100000
set_option maxHeartbeats 4000000
attribute [local irreducible] AW AO AQ Spec SpecH Calm

def F6_c0 (k : Nat) (t12 : (List Int)) (x13 : Int) : Option Bool :=
  (F31 k).bind fun t14 =>
  Option.bind (α := Bool) (if x13 = (t12.length : Int) then some (decide (t14 = (vset (Vector.replicate 4 (0 : Int)) (0 : Int) (4294977024 : Int))))
  else some (false)) fun b16 =>
  some (b16)
def F6_c1 (k : Nat) (rec21 : (Int → Int → Option Bool)) (x20 : Int) (x24 : Int) : Option Bool :=
  rec21 x24 (w64 (x20 + (1 : Int)))
def F6_c2 (k : Nat) (rec21 : (Int → Int → Option Bool)) (p0 : S55) (t12 : (List Int)) (x19 : Int) (x20 : Int) (x27 : (List Int)) : Option Bool :=
  (F30 k (S55.mk p0.f0 p0.f1 x27)).bind fun t28 =>
  if t28.2 = true then F6_c1 k rec21 x20 x19
  else Option.bind (α := Bool) (if (t12.length : Int) ≤ x19 then some (true)
  else if 0 ≤ x19 ∧ x19 < (t12.length : Int) then some (decide ((lget t12 x19) ≠ x20))
  else none) fun b30 =>
  if b30 = true then some (false)
  else F6_c1 k rec21 x20 (w64 (x19 + (1 : Int)))
def F6_c3 (k : Nat) (rec38 : ((List Int) → Int → Option Bool)) (x36 : (List Int)) (x37 : Int) (x41 : Int) : Option Bool :=
  if (x36 ++ ([x41] : List Int)).length * 8 ≤ 140737488355328 then rec38 (x36 ++ ([x41] : List Int)) (w64 (x37 + (1 : Int)))
  else none
def F6_l4 (k : Nat) (rec21 : (Int → Int → Option Bool)) (p0 : S55) (t12 : (List Int)) (x19 : Int) (x20 : Int) : Nat → (List Int) → Int → Option Bool
  | 0, _, _ => none
  | j + 1, x36, x37 =>
    if x37 < (p0.f2.length : Int) then if 0 ≤ x37 ∧ x37 < (p0.f2.length : Int) then if (lget p0.f2 x37) = x20 then F6_c3 k (F6_l4 k rec21 p0 t12 x19 x20 j) x36 x37 (0 : Int)
    else F6_c3 k (F6_l4 k rec21 p0 t12 x19 x20 j) x36 x37 (-1 : Int)
    else none
    else F6_c2 k rec21 p0 t12 x19 x20 x36
def F6_l5 (k : Nat) (p0 : S55) (p1 : Int) (t12 : (List Int)) : Nat → Int → Int → Option Bool
  | 0, _, _ => none
  | j + 1, x19, x20 =>
    if x20 < (w64 (p1.tmod (20 : Int))) then F6_l4 k (F6_l5 k p0 p1 t12 j) p0 t12 x19 x20 k ([] : List Int) (0 : Int)
    else F6_c0 k t12 x19
def F6 (k : Nat) (p0 : S55) (p1 : Int) : Option Bool :=
  (F26 k).bind fun t4 =>
  if (!t4) = true then some (false)
  else Option.bind (α := Bool) ((F27 k p0).bind fun t8 =>
  if (!t8) = true then some (true)
  else (F28 k p0).bind fun t10 =>
  some (!t10)) fun b6 =>
  if b6 = true then some (true)
  else (F29 k p0 (w64 (p1.tmod (20 : Int)))).bind fun t12 =>
  F6_l5 k p0 p1 t12 k (0 : Int) (0 : Int)
theorem F6_spec {k : Nat} {p0 : S55} {p1 : Int} {r : Bool} (h : F6 k p0 p1 = some r) : Spec Try.prog 6 [(e55 p0), (eU8 p1)] (eBool r) := by
  rw [F6.eq_1] at h
  refine Spec.intro (res := [.tmp 4]) Try.func6 rfl rfl rfl (Nat.le_of_ble_eq_true rfl) ?_
  refine AW.sr ?_
  refine AO.box rfl 2 rfl (by decide) rfl rfl rfl fun n3 => ?_
  refine AO.ag rfl rfl ?_
  refine AO.nK [1, 2] ?_
  refine AW.seq ?_
  refine AW.sr ?_
  obtain ⟨t4, et4, h⟩ := of_bind h
  refine AO.callS [] (eBool t4) 14 rfl (by decide) ok26 rfl rfl rfl trivial (F26_spec et4) ?_
  refine AO.c (Calm.not rfl rfl) ?_
  refine AO.nK [1, 2, 15] ?_
  rcases of_ite h with ⟨hc5, h⟩ | ⟨hc5, h⟩
  ·refine AW.condT' _ rfl hc5 ?_
   refine AW.sr ?_
   refine AO.ag rfl rfl ?_
   refine AO.nH [4] (H' := []) (Sub.nil _) ?_
   refine AW.rK [4] ?_
   have hr := Option.some.inj h
   subst hr
   exact ⟨[(eBool false)], ⟨rfl, rfl, trivial⟩, rfl⟩
  ·refine AW.condF' _ rfl hc5 ?_
   refine AW.sK [1, 2] ?_
   refine AW.seq ?_
   refine AW.seq ?_
   obtain ⟨b6, hq7, h⟩ := of_bind h
   refine AW.regM [(1, (eU8 p1)), (2, (.ptr n3 0)), (23, (eBool b6))] [(n3, (.mem (e55 p0)))] ?_ ?_
   ·refine AO.c (Calm.load 0 rfl rfl rfl (At.cast At.here rfl) ag55 sz55) ?_
    obtain ⟨t8, et8, hq7⟩ := of_bind hq7
    refine AO.callS [(e55 p0)] (eBool t8) 17 rfl (by decide) ok27 rfl rfl rfl ⟨rfl, rfl, trivial⟩ (F27_spec et8) ?_
    refine AO.c (Calm.not rfl rfl) ?_
    refine AO.mv rfl rfl ?_
    rcases of_ite hq7 with ⟨hc9, hq7⟩ | ⟨hc9, hq7⟩
    ·refine AO.sF rfl rfl (bD hc9) ?_
     refine AO.sF rfl rfl (bD hc9) ?_
     refine AO.sF rfl rfl (bD hc9) ?_
     refine AO.c (Calm.pickT rfl (bD hc9) rfl) ?_
     cases hq7
     refine AO.nilE ⟨rfl, rfl⟩ ?_ ?_
     · exact ⟨rfl, rfl, rfl, trivial⟩
     · exact (Sub.refl _)
    ·refine AO.cG rfl rfl (bD (eq_false_of_ne_true hc9)) (Calm.load 0 rfl rfl rfl (At.cast At.here rfl) ag55 sz55) ?_
     obtain ⟨t10, et10, hq7⟩ := of_bind hq7
     refine AO.callG 3 false 19 [(e55 p0)] (eBool t10) 21 rfl (by decide) ok28 rfl rfl (bD (eq_false_of_ne_true hc9)) rfl rfl ⟨rfl, rfl, trivial⟩ (F28_spec et10) ?_
     refine AO.cG rfl rfl (bD (eq_false_of_ne_true hc9)) (Calm.not rfl rfl) ?_
     refine AO.c (Calm.pickF rfl (bD (eq_false_of_ne_true hc9)) rfl) ?_
     cases hq7
     refine AO.nilE ⟨rfl, rfl⟩ ?_ ?_
     · exact ⟨rfl, rfl, rfl, trivial⟩
     · exact (Sub.refl _)
   ·rcases of_ite h with ⟨hc11, h⟩ | ⟨hc11, h⟩
    ·refine AW.condT' _ rfl hc11 ?_
     refine AW.sr ?_
     refine AO.ag rfl rfl ?_
     refine AO.nH [4] (H' := []) (Sub.nil _) ?_
     refine AW.rK [4] ?_
     have hr := Option.some.inj h
     subst hr
     exact ⟨[(eBool true)], ⟨rfl, rfl, trivial⟩, rfl⟩
    ·refine AW.condF' _ rfl hc11 ?_
     refine AW.sK [1, 2] ?_
     refine AW.sr ?_
     refine AO.c (Calm.load 0 rfl rfl rfl (At.cast At.here rfl) ag55 sz55) ?_
     refine AO.mv rfl rfl ?_
     refine AO.c (x := eU8 (p1.tmod (20 : Int))) (Calm.rem rfl rfl rfl (by decide)) ?_
     refine AO.c (x := eI64 (w64 (p1.tmod (20 : Int)))) (Calm.conv rfl rfl Try.underlying5 Try.underlying3) ?_
     obtain ⟨t12, et12, h⟩ := of_bind h
     refine AO.callS [(e55 p0), (eI64 (w64 (p1.tmod (20 : Int))))] (.fz 1 (t12.map eI64)) 28 rfl (by decide) ok29 rfl rfl rfl ⟨rfl, rfl, rfl, rfl, trivial⟩ (F29_spec et12) ?_
     refine AO.ag rfl rfl ?_
     refine AO.ag rfl rfl ?_
     refine AO.nK [1, 2, 5, 6] ?_
     refine AW.seq_mid (fun ρ H => ∃ (x13 : Int), ρ = [(5, (.fz 1 (t12.map eI64))), (6, (eI64 x13))] ∧ H = [] ∧ F6_c0 k t12 x13 = some r) ?_ ?_
     ·refine AW.sr ?_
      refine AO.ag rfl rfl ?_
      refine AO.nK [1, 2, 5, 6, 7] ?_
      refine AW.block ?_
      refine AW.wK [1, 2, 5, 6, 7] ?_
      refine AW.loop (fun kq ρ H => ∃ (x19 : Int) (x20 : Int), ρ = [(1, (eU8 p1)), (2, (.ptr n3 0)), (5, (.fz 1 (t12.map eI64))), (6, (eI64 x19)), (7, (eI64 x20))] ∧ H = [(n3, (.mem (e55 p0)))] ∧ F6_l5 k p0 p1 t12 kq x19 x20 = some r) k ⟨(0 : Int), (0 : Int), rfl, rfl, h⟩ ?_
      rintro kq22 _ _ ⟨x19, x20, rfl, rfl, h⟩
      cases kq22 with
      | zero => rw [F6_l5.eq_1] at h; cases h
      | succ kq22 =>
      rw [F6_l5.eq_2] at h
      generalize hrec21 : F6_l5 k p0 p1 t12 kq22 = rec21 at h
      refine AW.seq ?_
      refine AW.sr ?_
      refine AO.mv rfl rfl ?_
      refine AO.mv rfl rfl ?_
      refine AO.c (x := eU8 (p1.tmod (20 : Int))) (Calm.rem rfl rfl rfl (by decide)) ?_
      refine AO.c (x := eI64 (w64 (p1.tmod (20 : Int)))) (Calm.conv rfl rfl Try.underlying5 Try.underlying3) ?_
      refine AO.c (x := eBool (decide (x20 < (w64 (p1.tmod (20 : Int)))))) (Calm.int rfl rfl rfl rfl) ?_
      refine AO.nK [1, 2, 5, 6, 7, 33] ?_
      rcases of_ite h with ⟨hc23, h⟩ | ⟨hc23, h⟩
      ·refine AW.condP _ rfl hc23 ?_
       refine AW.sK [1, 2, 5, 6, 7] ?_
       refine AW.seq_mid (fun ρ H => ∃ (x24 : Int), ρ = [(1, (eU8 p1)), (2, (.ptr n3 0)), (5, (.fz 1 (t12.map eI64))), (6, (eI64 x24)), (7, (eI64 x20))] ∧ H = [(n3, (.mem (e55 p0)))] ∧ F6_c1 k rec21 x20 x24 = some r) ?_ ?_
       ·refine AW.block ?_
        refine AW.sr ?_
        refine AO.c (x := .ptr n3 0) (Calm.fldPtr rfl rfl Try.underlying55 rfl sz52 _ rfl) ?_
        refine AO.c (Calm.load 0 rfl rfl rfl (At.cast (At.fld0 At.here) rfl) ag52 (by rw [sz52]; simp [AV.size])) ?_
        refine AO.c (x := .ptr n3 256) (Calm.fldPtr rfl rfl Try.underlying55 rfl sz53 _ rfl) ?_
        refine AO.c (Calm.load 0 rfl rfl rfl (At.cast (At.fldS (At.fld0 At.here)) rfl) ag53 sz53) ?_
        refine AO.c (x := .st [(256, (.ar 1 (p0.f0.toList.map eU8))), (1, (.fz 1 (p0.f1.map e35))), (1, (.fl (.slice none 0 0)))]) (Calm.build (qs := [(0, (.ar 1 (p0.f0.toList.map eU8))), (1, (.fz 1 (p0.f1.map e35)))]) rfl ⟨rfl, rfl, rfl, rfl, rfl, rfl, trivial⟩ Try.underlying55 rfl zr55 lay55 (.cons rfl rfl (vec_size _ _) (vec_size _ _) (Put.cast (Put.fld0 Put.here) rfl) (.cons rfl rfl rfl rfl (Put.cast (Put.fldS (Put.fld0 Put.here)) rfl) .nil)) rfl) ?_
        refine AO.alloc rfl 8 rfl (by decide) rfl zr55 lay55 fun n25 => ?_
        refine AO.store (X' := (.st [(256, (.ar 1 (p0.f0.toList.map eU8))), (1, (.fz 1 (p0.f1.map e35))), (1, (.fl (.slice none 0 0)))])) 0 rfl rfl rfl rfl rfl rfl (Put.cast Put.here rfl) rfl rfl sz55 rfl ?_
        refine AO.nH [1, 2, 5, 6, 7, 8] (H' := [(n3, (.mem (e55 p0))), (n25, (.mem (.st [(256, (.ar 1 (p0.f0.toList.map eU8))), (1, (.fz 1 (p0.f1.map e35))), (1, (.fl (.slice none 0 0)))])))]) (Sub.cons 1 rfl (Sub.cons 0 rfl (Sub.nil _))) ?_
        refine AW.seq_mid (fun ρ H => ∃ (n26 : Nat) (x27 : (List Int)), ρ = [(1, (eU8 p1)), (2, (.ptr n3 0)), (5, (.fz 1 (t12.map eI64))), (6, (eI64 x19)), (7, (eI64 x20)), (8, (.ptr n25 0))] ∧ H = [(n3, (.mem (e55 p0))), (n25, (.mem (.st [(256, (.ar 1 (p0.f0.toList.map eU8))), (1, (.fz 1 (p0.f1.map e35))), (1, (.own n26 0 x27.length))]))), (n26, (.mem (.ar 1 (x27.map eI64))))] ∧ F6_c2 k rec21 p0 t12 x19 x20 x27 = some r) ?_ ?_
        ·refine AW.sr ?_
         refine AO.ag rfl rfl ?_
         refine AO.nK [1, 2, 5, 6, 7, 8, 9] ?_
         refine AW.block ?_
         refine AW.nilOwnFld 1 1 (fun n47 => (.st [(256, (.ar 1 (p0.f0.toList.map eU8))), (1, (.fz 1 (p0.f1.map e35))), (1, (.own n47 0 0))])) rfl (fun _ => (Put.cast (Put.fldS (Put.fldS (Put.fld0 Put.here))) rfl)) (fun _ => rfl) (fun _ => rfl) fun n47 => ?_
         refine AW.wH [1, 2, 5, 6, 7, 8, 9] (H' := [(n3, (.mem (e55 p0))), (n25, (.mem (.st [(256, (.ar 1 (p0.f0.toList.map eU8))), (1, (.fz 1 (p0.f1.map e35))), (1, (.own n47 0 ([] : List Int).length))]))), (n47, (.mem (.ar 1 (([] : List Int).map eI64))))]) (Sub.cons 1 rfl (Sub.cons 1 rfl (Sub.cons 0 rfl (Sub.nil _)))) ?_
         refine AW.loop (fun kq ρ H => ∃ (n35 : Nat) (x36 : (List Int)) (x37 : Int), ρ = [(1, (eU8 p1)), (2, (.ptr n3 0)), (5, (.fz 1 (t12.map eI64))), (6, (eI64 x19)), (7, (eI64 x20)), (8, (.ptr n25 0)), (9, (eI64 x37))] ∧ H = [(n3, (.mem (e55 p0))), (n25, (.mem (.st [(256, (.ar 1 (p0.f0.toList.map eU8))), (1, (.fz 1 (p0.f1.map e35))), (1, (.own n35 0 x36.length))]))), (n35, (.mem (.ar 1 (x36.map eI64))))] ∧ F6_l4 k rec21 p0 t12 x19 x20 kq x36 x37 = some r) k ⟨n47, ([] : List Int), (0 : Int), rfl, rfl, h⟩ ?_
         rintro kq39 _ _ ⟨n35, x36, x37, rfl, rfl, h⟩
         cases kq39 with
         | zero => rw [F6_l4.eq_1] at h; cases h
         | succ kq39 =>
         rw [F6_l4.eq_2] at h
         generalize hrec38 : F6_l4 k rec21 p0 t12 x19 x20 kq39 = rec38 at h
         refine AW.seq ?_
         refine AW.sr ?_
         refine AO.mv rfl rfl ?_
         refine AO.c (x := .ptr n3 257) (Calm.fldPtr rfl rfl Try.underlying55 rfl sz35 _ rfl) ?_
         refine AO.c (Calm.load 0 rfl rfl rfl (At.cast (At.fldS (At.fldS (At.fld0 At.here))) rfl) ag35 sz35) ?_
         refine AO.c (Calm.lenL rfl rfl Try.underlying35) ?_
         refine AO.c (x := eBool (decide (x37 < (p0.f2.length : Int)))) (Calm.int rfl rfl rfl rfl) ?_
         refine AO.nK [1, 2, 5, 6, 7, 8, 9, 45] ?_
         rcases of_ite h with ⟨hc40, h⟩ | ⟨hc40, h⟩
         ·refine AW.condP _ rfl hc40 ?_
          refine AW.sK [1, 2, 5, 6, 7, 8, 9] ?_
          refine AW.seq ?_
          refine AW.block ?_
          refine AW.sr ?_
          refine AO.ag rfl rfl ?_
          refine AO.nK [1, 2, 5, 6, 7, 8, 9, 10] ?_
          refine AW.seq_mid (fun ρ H => ∃ (x41 : Int), ρ = [(1, (eU8 p1)), (2, (.ptr n3 0)), (5, (.fz 1 (t12.map eI64))), (6, (eI64 x19)), (7, (eI64 x20)), (8, (.ptr n25 0)), (9, (eI64 x37)), (10, (eI64 x41))] ∧ H = [(n3, (.mem (e55 p0))), (n25, (.mem (.st [(256, (.ar 1 (p0.f0.toList.map eU8))), (1, (.fz 1 (p0.f1.map e35))), (1, (.own n35 0 x36.length))]))), (n35, (.mem (.ar 1 (x36.map eI64))))] ∧ F6_c3 k rec38 x36 x37 x41 = some r) ?_ ?_
          ·refine AW.sr ?_
           refine AO.c (x := .ptr n3 257) (Calm.fldPtr rfl rfl Try.underlying55 rfl sz35 _ rfl) ?_
           refine AO.c (Calm.load 0 rfl rfl rfl (At.cast (At.fldS (At.fldS (At.fld0 At.here))) rfl) ag35 sz35) ?_
           refine AO.mv rfl rfl ?_
           obtain ⟨hg45, h⟩ := of_guard h
           refine AO.c (Calm.idxL (f := eI64) rfl rfl rfl hg45 Try.underlying35 sz3) ?_
           refine AO.c (Calm.loadRp rfl rfl ag3 sz3) ?_
           refine AO.mv rfl rfl ?_
           refine AO.c (x := eBool (decide ((lget p0.f2 x37) = x20))) (Calm.int rfl rfl rfl rfl) ?_
           refine AO.nK [1, 2, 5, 6, 7, 8, 9, 10, 54] ?_
           rcases of_ite h with ⟨hc46, h⟩ | ⟨hc46, h⟩
           ·refine AW.condP _ rfl hc46 ?_
            refine AW.reg ?_
            refine AO.ag rfl rfl ?_
            refine AO.nK [1, 2, 5, 6, 7, 8, 9, 10] ?_
            exact ⟨(0 : Int), rfl, rfl, h⟩
           ·refine AW.condN _ rfl hc46 ?_
            refine AW.sK [1, 2, 5, 6, 7, 8, 9, 10] ?_
            exact ⟨(-1 : Int), rfl, rfl, h⟩
          ·rintro _ _ ⟨x41, rfl, rfl, h⟩
           rw [F6_c3.eq_1] at h
           refine AW.reg ?_
           refine AO.c (x := .ptr n25 257) (Calm.fldPtr rfl rfl Try.underlying55 rfl sz35 _ rfl) ?_
           refine AO.c (Calm.load 1 rfl rfl rfl (At.cast (At.fldS (At.fldS (At.fld0 At.here))) rfl) ag35 sz35) ?_
           refine AO.mv rfl rfl ?_
           refine AO.lit (Z := (eI64 (0 : Int))) (xs := (([x41] : List Int).map eI64)) (qs := [(0, (eI64 x41))]) rfl 58 rfl (by decide) rfl ⟨rfl, rfl, rfl, trivial⟩ Try.underlying35 sz3 zr3 lay3 rfl (by decide) (litOK (z := 1) [(eI64 x41)] rfl ⟨⟨rfl, rfl⟩, trivial⟩) rfl fun n42 => ?_
           obtain ⟨hg44, h⟩ := of_guard h
           refine AO.appendL (l := x36) (m := ([x41] : List Int)) 3 59 rfl (by decide) rfl rfl rfl rfl rfl (Src.ownL (f := eI64) (l := ([x41] : List Int)) 0 rfl) Try.underlying35 Try.underlying35 sz3 by3 zr3 rfl hg44 (by decide) fun n43 => ?_
           refine AO.c (x := .ptr n25 257) (Calm.fldPtr rfl rfl Try.underlying55 rfl sz35 _ rfl) ?_
           refine AO.store (X' := (.st [(256, (.ar 1 (p0.f0.toList.map eU8))), (1, (.fz 1 (p0.f1.map e35))), (1, (.own n43 0 (x36 ++ ([x41] : List Int)).length))])) 2 rfl rfl rfl rfl rfl rfl (Put.cast (Put.fldS (Put.fldS (Put.fld0 Put.here))) rfl) rfl rfl sz35 rfl ?_
           refine AO.nH [1, 2, 5, 6, 7, 8, 9] (H' := [(n3, (.mem (e55 p0))), (n25, (.mem (.st [(256, (.ar 1 (p0.f0.toList.map eU8))), (1, (.fz 1 (p0.f1.map e35))), (1, (.own n43 0 (x36 ++ ([x41] : List Int)).length))]))), (n43, (.mem (.ar 1 ((x36 ++ ([x41] : List Int)).map eI64))))]) (Sub.cons 1 rfl (Sub.cons 1 rfl (Sub.cons 1 rfl (Sub.nil _)))) ?_
           refine AW.reg ?_
           refine AO.mv rfl rfl ?_
           refine AO.c (x := eI64 (w64 (x37 + (1 : Int)))) (Calm.int rfl rfl rfl rfl) ?_
           refine AO.ag rfl rfl ?_
           refine AO.nK [1, 2, 5, 6, 7, 8, 9] ?_
           exact ⟨kq39, Nat.lt_succ_self _, n43, (x36 ++ ([x41] : List Int)), (w64 (x37 + (1 : Int))), rfl, rfl, by rw [hrec38]; exact h⟩
         ·refine AW.condN _ rfl hc40 ?_
          refine AW.eK [1, 2, 5, 6, 7, 8] ?_
          exact ⟨n35, x36, rfl, rfl, h⟩
        ·rintro _ _ ⟨n26, x27, rfl, rfl, h⟩
         rw [F6_c2.eq_1] at h
         refine AW.seq ?_
         refine AW.sr ?_
         refine AO.freezeFld (X' := (.st [(256, (.ar 1 (p0.f0.toList.map eU8))), (1, (.fz 1 (p0.f1.map e35))), (1, (.fz 1 (x27.map eI64)))])) (els' := (x27.map eI64)) 2 1 rfl rfl (Put.cast (Put.fldS (Put.fldS (Put.fld0 Put.here))) rfl) (by simp) (by rw [own_all]) rfl rfl (by decide) ?_
         refine AO.c (x := e55 (S55.mk p0.f0 p0.f1 x27)) (Calm.load 1 rfl rfl rfl (At.cast At.here rfl) ag55 sz55) ?_
         obtain ⟨t28, et28, h⟩ := of_bind h
         refine AO.callS [(e55 (S55.mk p0.f0 p0.f1 x27))] (.tup [(eStr t28.1), (eBool t28.2)]) 63 rfl (by decide) ok30 rfl rfl rfl ⟨rfl, rfl, trivial⟩ (F30_spec et28) ?_
         refine AO.mv rfl rfl ?_
         refine AO.c (Calm.extract rfl rfl rfl) ?_
         refine AO.c (Calm.extract rfl rfl rfl) ?_
         refine AO.ag rfl rfl ?_
         refine AO.ag rfl rfl ?_
         refine AO.nH [1, 2, 5, 6, 7, 12] (H' := [(n3, (.mem (e55 p0)))]) (Sub.cons 0 rfl (Sub.nil _)) ?_
         refine AW.sr ?_
         refine AO.mv rfl rfl ?_
         refine AO.nK [1, 2, 5, 6, 7, 66] ?_
         rcases of_ite h with ⟨hc29, h⟩ | ⟨hc29, h⟩
         ·refine AW.condT' _ rfl hc29 ?_
          refine AW.eK [1, 2, 5, 6, 7] ?_
          exact ⟨x19, rfl, rfl, h⟩
         ·refine AW.condF' _ rfl hc29 ?_
          refine AW.sK [1, 2, 5, 6, 7] ?_
          refine AW.seq ?_
          refine AW.seq ?_
          obtain ⟨b30, hq31, h⟩ := of_bind h
          refine AW.regM [(1, (eU8 p1)), (2, (.ptr n3 0)), (5, (.fz 1 (t12.map eI64))), (6, (eI64 x19)), (7, (eI64 x20)), (78, (eBool b30))] [(n3, (.mem (e55 p0)))] ?_ ?_
          ·refine AO.mv rfl rfl ?_
           refine AO.mv rfl rfl ?_
           refine AO.c (Calm.lenL rfl rfl Try.underlying35) ?_
           refine AO.c (x := eBool (decide ((t12.length : Int) ≤ x19))) (Calm.int rfl rfl rfl rfl) ?_
           refine AO.mv rfl rfl ?_
           rcases of_ite hq31 with ⟨hc32, hq31⟩ | ⟨hc32, hq31⟩
           ·refine AO.sF rfl rfl (bD (decide_eq_true hc32)) ?_
            refine AO.sF rfl rfl (bD (decide_eq_true hc32)) ?_
            refine AO.sF rfl rfl (bD (decide_eq_true hc32)) ?_
            refine AO.sF rfl rfl (bD (decide_eq_true hc32)) ?_
            refine AO.sF rfl rfl (bD (decide_eq_true hc32)) ?_
            refine AO.sF rfl rfl (bD (decide_eq_true hc32)) ?_
            refine AO.c (Calm.pickT rfl (bD (decide_eq_true hc32)) rfl) ?_
            cases hq31
            refine AO.nilE ⟨rfl, rfl⟩ ?_ ?_
            · exact ⟨rfl, rfl, rfl, rfl, rfl, rfl, trivial⟩
            · exact (Sub.refl _)
           ·refine AO.cG rfl rfl (bD (decide_eq_false hc32)) (Calm.move rfl rfl) ?_
            refine AO.cG rfl rfl (bD (decide_eq_false hc32)) (Calm.move rfl rfl) ?_
            obtain ⟨hg33, hq31⟩ := of_guard hq31
            refine AO.cG rfl rfl (bD (decide_eq_false hc32)) (Calm.idxL (f := eI64) rfl rfl rfl hg33 Try.underlying35 sz3) ?_
            refine AO.cG rfl rfl (bD (decide_eq_false hc32)) (Calm.loadRp rfl rfl ag3 sz3) ?_
            refine AO.cG rfl rfl (bD (decide_eq_false hc32)) (Calm.move rfl rfl) ?_
            refine AO.cG (x := eBool (decide ((lget t12 x19) ≠ x20))) rfl rfl (bD (decide_eq_false hc32)) (Calm.int rfl rfl rfl rfl) ?_
            refine AO.c (Calm.pickF rfl (bD (decide_eq_false hc32)) rfl) ?_
            cases hq31
            refine AO.nilE ⟨rfl, rfl⟩ ?_ ?_
            · exact ⟨rfl, rfl, rfl, rfl, rfl, rfl, trivial⟩
            · exact (Sub.refl _)
          ·rcases of_ite h with ⟨hc34, h⟩ | ⟨hc34, h⟩
           ·refine AW.condT' _ rfl hc34 ?_
            refine AW.sr ?_
            refine AO.ag rfl rfl ?_
            refine AO.nH [4] (H' := []) (Sub.nil _) ?_
            refine AW.rK [4] ?_
            have hr := Option.some.inj h
            subst hr
            exact ⟨[(eBool false)], ⟨rfl, rfl, trivial⟩, rfl⟩
           ·refine AW.condF' _ rfl hc34 ?_
            refine AW.sK [1, 2, 5, 6, 7] ?_
            refine AW.reg ?_
            refine AO.mv rfl rfl ?_
            refine AO.c (x := eI64 (w64 (x19 + (1 : Int)))) (Calm.int rfl rfl rfl rfl) ?_
            refine AO.ag rfl rfl ?_
            refine AO.nK [1, 2, 5, 6, 7] ?_
            exact ⟨(w64 (x19 + (1 : Int))), rfl, rfl, h⟩
       ·rintro _ _ ⟨x24, rfl, rfl, h⟩
        rw [F6_c1.eq_1] at h
        refine AW.reg ?_
        refine AO.mv rfl rfl ?_
        refine AO.c (x := eI64 (w64 (x20 + (1 : Int)))) (Calm.int rfl rfl rfl rfl) ?_
        refine AO.ag rfl rfl ?_
        refine AO.nK [1, 2, 5, 6, 7] ?_
        exact ⟨kq22, Nat.lt_succ_self _, x24, (w64 (x20 + (1 : Int))), rfl, rfl, by rw [hrec21]; exact h⟩
      ·refine AW.condN _ rfl hc23 ?_
       refine AW.eH [5, 6] (H' := []) (Sub.nil _) ?_
       exact ⟨x19, rfl, rfl, h⟩
     ·rintro _ _ ⟨x13, rfl, rfl, h⟩
      rw [F6_c0.eq_1] at h
      refine AW.sr ?_
      obtain ⟨t14, et14, h⟩ := of_bind h
      refine AO.callS [] (.ar 1 (t14.toList.map eU64)) 81 rfl (by decide) ok31 rfl rfl rfl trivial (F31_spec et14) ?_
      refine AO.alloc rfl 13 rfl (by decide) rfl zr62 lay62 fun n15 => ?_
      refine AO.store (X' := (.ar 1 (t14.toList.map eU64))) 0 rfl rfl rfl rfl rfl rfl (Put.cast Put.here rfl) rfl (by simp [AV.size]) (by rw [sz62]; simp [AV.size]) rfl ?_
      refine AO.nK [5, 6, 13] ?_
      refine AW.seq ?_
      obtain ⟨b16, hq17, h⟩ := of_bind h
      refine AW.regM [(4, (eBool b16))] [] ?_ ?_
      ·refine AO.mv rfl rfl ?_
       refine AO.mv rfl rfl ?_
       refine AO.c (Calm.lenL rfl rfl Try.underlying35) ?_
       refine AO.c (x := eBool (decide (x13 = (t12.length : Int)))) (Calm.int rfl rfl rfl rfl) ?_
       refine AO.mv rfl rfl ?_
       rcases of_ite hq17 with ⟨hc18, hq17⟩ | ⟨hc18, hq17⟩
       ·refine AO.cG rfl rfl (bD (decide_eq_true hc18)) (Calm.load 0 rfl rfl rfl (At.cast At.here rfl) ag62 (by rw [sz62]; simp [AV.size])) ?_
        refine AO.cG (x := .ar 1 ((vset (Vector.replicate 4 (0 : Int)) (0 : Int) (4294977024 : Int)).toList.map eU64)) rfl rfl (bD (decide_eq_true hc18)) (Calm.buildAr (qs := [(0, (eU64 (4294977024 : Int)))]) rfl ⟨rfl, rfl, rfl, trivial⟩ Try.underlying62 sz60 zr62 lay62 (.cons rfl rfl rfl rfl (Put.cast (Put.vidx (0 : Int) (4294977024 : Int) (by decide) (by decide) Put.here) rfl) .nil) rfl) ?_
        refine AO.cG (x := eBool (decide (t14 = (vset (Vector.replicate 4 (0 : Int)) (0 : Int) (4294977024 : Int))))) rfl rfl (bD (decide_eq_true hc18)) (Calm.eqA rfl rfl rfl eg62 (eqa62 t14 (vset (Vector.replicate 4 (0 : Int)) (0 : Int) (4294977024 : Int))) (by decide)) ?_
        refine AO.c (Calm.pickT rfl (bD (decide_eq_true hc18)) rfl) ?_
        refine AO.ag rfl rfl ?_
        cases hq17
        refine AO.nilE ⟨rfl, rfl⟩ ?_ ?_
        · exact ⟨rfl, trivial⟩
        · exact (Sub.nil _)
       ·refine AO.sT rfl rfl (bD (decide_eq_false hc18)) ?_
        refine AO.sT rfl rfl (bD (decide_eq_false hc18)) ?_
        refine AO.sT rfl rfl (bD (decide_eq_false hc18)) ?_
        refine AO.c (Calm.pickF rfl (bD (decide_eq_false hc18)) rfl) ?_
        refine AO.ag rfl rfl ?_
        cases hq17
        refine AO.nilE ⟨rfl, rfl⟩ ?_ ?_
        · exact ⟨rfl, trivial⟩
        · exact (Sub.nil _)
      ·refine AW.rK [4] ?_
       have hr := Option.some.inj h
       subst hr
       exact ⟨[(eBool b16)], ⟨rfl, rfl, trivial⟩, rfl⟩
end Go.Avl.T7
/- bosket/gram.Name; printed by avmain.py. -/
namespace Go.Avl.T7
open Go Go.RowKit Go.Proofs Go.Avl
set_option linter.unusedVariables false
set_option maxRecDepth 100000
set_option maxHeartbeats 4000000
attribute [local irreducible] AW AO AQ Spec SpecH Calm

end Go.Avl.T7
/- bosket/gram.Line; printed by avmain.py. -/
namespace Go.Avl.T7
open Go Go.RowKit Go.Proofs Go.Avl
set_option linter.unusedVariables false
set_option maxRecDepth 100000
set_option maxHeartbeats 4000000
attribute [local irreducible] AW AO AQ Spec SpecH Calm

end Go.Avl.T7
/- slices.Index[[]string,string]; printed by avmain.py. -/
namespace Go.Avl.T7
open Go Go.RowKit Go.Proofs Go.Avl
set_option linter.unusedVariables false
set_option maxRecDepth 100000
set_option maxHeartbeats 4000000
attribute [local irreducible] AW AO AQ Spec SpecH Calm

end Go.Avl.T7
/- slices.Contains[[]string,string]; printed by avmain.py. -/
namespace Go.Avl.T7
open Go Go.RowKit Go.Proofs Go.Avl
set_option linter.unusedVariables false
set_option maxRecDepth 100000
set_option maxHeartbeats 4000000
attribute [local irreducible] AW AO AQ Spec SpecH Calm

end Go.Avl.T7
/- bosket/rules.Find; printed by avmain.py. -/
namespace Go.Avl.T7
open Go Go.RowKit Go.Proofs Go.Avl
set_option linter.unusedVariables false
set_option maxRecDepth 100000
set_option maxHeartbeats 4000000
attribute [local irreducible] AW AO AQ Spec SpecH Calm

end Go.Avl.T7
/- bosket/gram.sorts; printed by avmain.py. -/
namespace Go.Avl.T7
open Go Go.RowKit Go.Proofs Go.Avl
set_option linter.unusedVariables false
set_option maxRecDepth 100000
set_option maxHeartbeats 4000000
attribute [local irreducible] AW AO AQ Spec SpecH Calm

end Go.Avl.T7
/- bosket/gram.Has; printed by avmain.py. -/
namespace Go.Avl.T7
open Go Go.RowKit Go.Proofs Go.Avl
set_option linter.unusedVariables false
set_option maxRecDepth 100000
set_option maxHeartbeats 4000000
attribute [local irreducible] AW AO AQ Spec SpecH Calm

end Go.Avl.T7
/- bosket/gram.Encloses; printed by avmain.py. -/
namespace Go.Avl.T7
open Go Go.RowKit Go.Proofs Go.Avl
set_option linter.unusedVariables false
set_option maxRecDepth 100000
set_option maxHeartbeats 4000000
attribute [local irreducible] AW AO AQ Spec SpecH Calm

end Go.Avl.T7
/- bosket/gram.prod; printed by avmain.py. -/
namespace Go.Avl.T7
open Go Go.RowKit Go.Proofs Go.Avl
set_option linter.unusedVariables false
set_option maxRecDepth 100000
set_option maxHeartbeats 4000000
attribute [local irreducible] AW AO AQ Spec SpecH Calm

end Go.Avl.T7
/- bosket/gram.levels; printed by avmain.py. -/
namespace Go.Avl.T7
open Go Go.RowKit Go.Proofs Go.Avl
set_option linter.unusedVariables false
set_option maxRecDepth 100000
set_option maxHeartbeats 4000000
attribute [local irreducible] AW AO AQ Spec SpecH Calm

end Go.Avl.T7
/- bosket/gram.Check; printed by avmain.py. -/
namespace Go.Avl.T7
open Go Go.RowKit Go.Proofs Go.Avl
set_option linter.unusedVariables false
set_option maxRecDepth 100000
set_option maxHeartbeats 4000000
attribute [local irreducible] AW AO AQ Spec SpecH Calm

end Go.Avl.T7
/- bosket/bosketlaw17.awake; printed by avmain.py. -/
namespace Go.Avl.T7
open Go Go.RowKit Go.Proofs Go.Avl
set_option linter.unusedVariables false
set_option maxRecDepth 100000
set_option maxHeartbeats 4000000
attribute [local irreducible] AW AO AQ Spec SpecH Calm

end Go.Avl.T7
/- bosket/bosketref02.Has; printed by avmain.py. -/
namespace Go.Avl.T7
open Go Go.RowKit Go.Proofs Go.Avl
set_option linter.unusedVariables false
set_option maxRecDepth 100000
set_option maxHeartbeats 4000000
attribute [local irreducible] AW AO AQ Spec SpecH Calm

end Go.Avl.T7
