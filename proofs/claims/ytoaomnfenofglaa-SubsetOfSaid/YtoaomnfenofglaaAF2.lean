/- Parts: T5f52, T5f54, T5f21, T5f49, T5f16, T5f18, T5f19, T5f20, T5f55, T5f80, T5f100, T5f81. -/
import Derived.Test.YtoaomnfenofglaaAF1
/- bosket/nfa.Move; printed by avmain.py. -/
namespace Go.Avl.T5
open Go Go.RowKit Go.Proofs Go.Avl
set_option linter.unusedVariables false
set_option maxRecDepth 100000
set_option maxHeartbeats 4000000
attribute [local irreducible] AW AO AQ Spec SpecH Calm

def nfa_Move_c0 (k : Nat) (x7 : (List Bool)) : Option (List Bool) :=
  some (x7)
def nfa_Move_c1 (k : Nat) (rec10 : ((List Bool) → Int → Option (List Bool))) (x9 : Int) (x13 : (List Bool)) : Option (List Bool) :=
  rec10 x13 (w64 (x9 + (1 : Int)))
def nfa_Move_l2 (k : Nat) (p0 : S24) (p1 : (List Bool)) (p2 : Int) : Nat → (List Bool) → Int → Option (List Bool)
  | 0, _, _ => none
  | j + 1, x8, x9 =>
    if x9 < (p0.f1.length : Int) then if 0 ≤ x9 ∧ x9 < (p0.f1.length : Int) then Option.bind (α := Bool) (if (!((lget p0.f1 x9).f3)) = true then if ((lget p0.f1 x9).f0) < (p1.length : Int) then if 0 ≤ ((lget p0.f1 x9).f0) ∧ ((lget p0.f1 x9).f0) < (p1.length : Int) then if (lget p1 ((lget p0.f1 x9).f0)) = true then (byteset_Has k ((lget p0.f1 x9).f2) p2).bind fun t22 =>
    some (t22)
    else some (false)
    else none
    else some (false)
    else some (false)) fun b16 =>
    if b16 = true then if 0 ≤ ((lget p0.f1 x9).f1) ∧ ((lget p0.f1 x9).f1) < (x8.length : Int) then nfa_Move_c1 k (nfa_Move_l2 k p0 p1 p2 j) x9 (lset x8 ((lget p0.f1 x9).f1) true)
    else none
    else nfa_Move_c1 k (nfa_Move_l2 k p0 p1 p2 j) x9 x8
    else none
    else nfa_Move_c0 k x8
def nfa_Move (k : Nat) (p0 : S24) (p1 : (List Bool)) (p2 : Int) : Option (List Bool) :=
  if 0 ≤ p0.f0 ∧ p0.f0 * (1 : Int) ≤ 140737488355328 ∧ p0.f0 ≤ 9223372036854775807 then nfa_Move_l2 k p0 p1 p2 k (List.replicate p0.f0.toNat false) (0 : Int)
  else none
theorem nfa_Move_spec {k : Nat} {p0 : S24} {p1 : (List Bool)} {p2 : Int} {r : (List Bool)} (h : nfa_Move k p0 p1 p2 = some r) : Spec Try.prog 52 [(e24 p0), (.fz 1 (p1.map eBool)), (eU8 p2)] (e49 r) := by
  rw [nfa_Move.eq_1] at h
  refine Spec.intro (res := [.tmp 6]) Try.func52 rfl rfl rfl (Nat.le_of_ble_eq_true rfl) ?_
  refine AW.sr ?_
  refine AO.box rfl 3 rfl (by decide) rfl rfl rfl fun n4 => ?_
  refine AO.c (Calm.assign rfl rfl) ?_
  refine AO.nK [1, 2, 3] ?_
  refine AW.sr ?_
  refine AO.c (x := .ptr n4 0) (Calm.fldPtr rfl rfl Try.underlying24 rfl sz3 _ rfl) ?_
  refine AO.c (Calm.load 0 rfl rfl rfl (At.cast (At.fld0 At.here) rfl) ag3 sz3) ?_
  obtain ⟨hg6, h⟩ := of_guard h
  refine AO.makeL (f := eBool) false rfl 12 rfl (by decide) rfl rfl rfl Try.underlying49 sz4 by4 zr4 lay4 rfl hg6 fun n5 => ?_
  refine AO.c (Calm.assign rfl rfl) ?_
  refine AO.nH [1, 2, 3, 7] (H' := [(n4, (.mem (e24 p0))), (n5, (.mem (.ar 1 ((List.replicate p0.f0.toNat false).map eBool))))]) (Sub.cons 1 rfl (Sub.cons 0 rfl (Sub.nil _))) ?_
  refine AW.seq_mid (fun ρ H => ∃ (x7 : (List Bool)), ρ = [(7, (.own n5 0 x7.length))] ∧ H = [(n5, (.mem (.ar 1 (x7.map eBool))))] ∧ nfa_Move_c0 k x7 = some r) ?_ ?_
  ·refine AW.sr ?_
   refine AO.c (x := .ptr n4 1) (Calm.fldPtr rfl rfl Try.underlying24 rfl sz22 _ rfl) ?_
   refine AO.c (Calm.load 0 rfl rfl rfl (At.cast (At.fldS (At.fld0 At.here)) rfl) ag22 sz22) ?_
   refine AO.c (Calm.lenL rfl rfl Try.underlying22) ?_
   refine AO.c (Calm.move rfl rfl) ?_
   refine AO.nH [1, 2, 7, 14, 15, 16] (H' := [(n5, (.mem (.ar 1 ((List.replicate p0.f0.toNat false).map eBool))))]) (Sub.cons 1 rfl (Sub.nil _)) ?_
   refine AW.block ?_
   refine AW.wK [1, 2, 7, 14, 15, 16] ?_
   refine AW.loop (fun kq ρ H => ∃ (x8 : (List Bool)) (x9 : Int), ρ = [(1, (.fz 1 (p1.map eBool))), (2, (eU8 p2)), (7, (.own n5 0 x8.length)), (14, (.fz 7 (p0.f1.map e43))), (15, (eI64 (p0.f1.length : Int))), (16, (eI64 x9))] ∧ H = [(n5, (.mem (.ar 1 (x8.map eBool))))] ∧ nfa_Move_l2 k p0 p1 p2 kq x8 x9 = some r) k ⟨(List.replicate p0.f0.toNat false), (0 : Int), rfl, rfl, h⟩ ?_
   rintro kq11 _ _ ⟨x8, x9, rfl, rfl, h⟩
   cases kq11 with
   | zero => rw [nfa_Move_l2.eq_1] at h; cases h
   | succ kq11 =>
   rw [nfa_Move_l2.eq_2] at h
   generalize hrec10 : nfa_Move_l2 k p0 p1 p2 kq11 = rec10 at h
   refine AW.sr ?_
   refine AO.c (x := eBool (decide (x9 < (p0.f1.length : Int)))) (Calm.int rfl rfl rfl rfl) ?_
   refine AO.nK [1, 2, 7, 14, 15, 16, 17] ?_
   refine AW.seq ?_
   rcases of_ite h with ⟨hc12, h⟩ | ⟨hc12, h⟩
   ·refine AW.condP _ rfl hc12 ?_
    refine AW.sK [1, 2, 7, 14, 15, 16] ?_
    refine AW.seq_mid (fun ρ H => ∃ (x13 : (List Bool)), ρ = [(1, (.fz 1 (p1.map eBool))), (2, (eU8 p2)), (7, (.own n5 0 x13.length)), (14, (.fz 7 (p0.f1.map e43))), (15, (eI64 (p0.f1.length : Int))), (16, (eI64 x9))] ∧ H = [(n5, (.mem (.ar 1 (x13.map eBool))))] ∧ nfa_Move_c1 k rec10 x9 x13 = some r) ?_ ?_
    ·refine AW.block ?_
     refine AW.sr ?_
     obtain ⟨hg14, h⟩ := of_guard h
     refine AO.c (Calm.idxL (f := e43) rfl rfl rfl hg14 Try.underlying22 sz43) ?_
     refine AO.c (Calm.loadRp rfl rfl ag43 sz43) ?_
     refine AO.alloc rfl 9 rfl (by decide) rfl zr43 lay43 fun n15 => ?_
     refine AO.store (X' := (e43 (lget p0.f1 x9))) 0 rfl rfl rfl rfl rfl rfl (Put.cast Put.here rfl) rfl rfl sz43 rfl ?_
     refine AO.nH [1, 2, 7, 9, 14, 15, 16] (H' := [(n5, (.mem (.ar 1 (x8.map eBool)))), (n15, (.mem (e43 (lget p0.f1 x9))))]) (Sub.cons 1 rfl (Sub.cons 0 rfl (Sub.nil _))) ?_
     refine AW.seq ?_
     obtain ⟨b16, hq17, h⟩ := of_bind h
     refine AW.regM [(1, (.fz 1 (p1.map eBool))), (2, (eU8 p2)), (7, (.own n5 0 x8.length)), (9, (.ptr n15 0)), (14, (.fz 7 (p0.f1.map e43))), (15, (eI64 (p0.f1.length : Int))), (16, (eI64 x9)), (42, (eBool b16))] [(n5, (.mem (.ar 1 (x8.map eBool)))), (n15, (.mem (e43 (lget p0.f1 x9))))] ?_ ?_
     ·refine AO.c (x := .ptr n15 6) (Calm.fldPtr rfl rfl Try.underlying43 rfl sz4 _ rfl) ?_
      refine AO.c (Calm.load 1 rfl rfl rfl (At.cast (At.fldS (At.fldS (At.fldS (At.fld0 At.here)))) rfl) ag4 sz4) ?_
      refine AO.c (Calm.not rfl rfl) ?_
      refine AO.c (Calm.move rfl rfl) ?_
      rcases of_ite hq17 with ⟨hc18, hq17⟩ | ⟨hc18, hq17⟩
      ·refine AO.cG (x := .ptr n15 0) rfl rfl (bD hc18) (Calm.fldPtr rfl rfl Try.underlying43 rfl sz3 _ rfl) ?_
       refine AO.cG rfl rfl (bD hc18) (Calm.load 1 rfl rfl rfl (At.cast (At.fld0 At.here) rfl) ag3 sz3) ?_
       refine AO.cG rfl rfl (bD hc18) (Calm.move rfl rfl) ?_
       refine AO.cG rfl rfl (bD hc18) (Calm.lenL rfl rfl Try.underlying49) ?_
       refine AO.cG (x := eBool (decide (((lget p0.f1 x9).f0) < (p1.length : Int)))) rfl rfl (bD hc18) (Calm.int rfl rfl rfl rfl) ?_
       refine AO.c (Calm.pickT rfl (bD hc18) rfl) ?_
       refine AO.c (Calm.move rfl rfl) ?_
       rcases of_ite hq17 with ⟨hc19, hq17⟩ | ⟨hc19, hq17⟩
       ·refine AO.cG rfl rfl (bD (decide_eq_true hc19)) (Calm.move rfl rfl) ?_
        refine AO.cG (x := .ptr n15 0) rfl rfl (bD (decide_eq_true hc19)) (Calm.fldPtr rfl rfl Try.underlying43 rfl sz3 _ rfl) ?_
        refine AO.cG rfl rfl (bD (decide_eq_true hc19)) (Calm.load 1 rfl rfl rfl (At.cast (At.fld0 At.here) rfl) ag3 sz3) ?_
        obtain ⟨hg20, hq17⟩ := of_guard hq17
        refine AO.cG rfl rfl (bD (decide_eq_true hc19)) (Calm.idxL (f := eBool) rfl rfl rfl hg20 Try.underlying49 sz4) ?_
        refine AO.cG rfl rfl (bD (decide_eq_true hc19)) (Calm.loadRp rfl rfl ag4 sz4) ?_
        refine AO.c (Calm.pickT rfl (bD (decide_eq_true hc19)) rfl) ?_
        refine AO.c (Calm.move rfl rfl) ?_
        rcases of_ite hq17 with ⟨hc21, hq17⟩ | ⟨hc21, hq17⟩
        ·refine AO.cG (x := .ptr n15 2) rfl rfl (bD hc21) (Calm.fldPtr rfl rfl Try.underlying43 rfl sz41 _ rfl) ?_
         refine AO.cG rfl rfl (bD hc21) (Calm.load 1 rfl rfl rfl (At.cast (At.fldS (At.fldS (At.fld0 At.here))) rfl) ag41 (by rw [sz41]; simp [AV.size])) ?_
         refine AO.cG rfl rfl (bD hc21) (Calm.move rfl rfl) ?_
         obtain ⟨t22, et22, hq17⟩ := of_bind hq17
         refine AO.callG 17 true 37 [(.ar 1 (((lget p0.f1 x9).f2).toList.map eU64)), (eU8 p2)] (eBool t22) 41 rfl (by decide) ok82 rfl rfl (bD hc21) rfl rfl ⟨rfl, rfl, rfl, rfl, trivial⟩ (byteset_Has_spec et22) ?_
         refine AO.c (Calm.pickT rfl (bD hc21) rfl) ?_
         cases hq17
         refine AO.nilE ⟨rfl, rfl⟩ ?_ ?_
         · exact ⟨rfl, rfl, rfl, rfl, rfl, rfl, rfl, rfl, trivial⟩
         · exact (Sub.refl _)
        ·refine AO.sT rfl rfl (bD (eq_false_of_ne_true hc21)) ?_
         refine AO.sT rfl rfl (bD (eq_false_of_ne_true hc21)) ?_
         refine AO.sT rfl rfl (bD (eq_false_of_ne_true hc21)) ?_
         refine AO.sT rfl rfl (bD (eq_false_of_ne_true hc21)) ?_
         refine AO.c (Calm.pickF rfl (bD (eq_false_of_ne_true hc21)) rfl) ?_
         cases hq17
         refine AO.nilE ⟨rfl, rfl⟩ ?_ ?_
         · exact ⟨rfl, rfl, rfl, rfl, rfl, rfl, rfl, rfl, trivial⟩
         · exact (Sub.refl _)
       ·refine AO.sT rfl rfl (bD (decide_eq_false hc19)) ?_
        refine AO.sT rfl rfl (bD (decide_eq_false hc19)) ?_
        refine AO.sT rfl rfl (bD (decide_eq_false hc19)) ?_
        refine AO.sT rfl rfl (bD (decide_eq_false hc19)) ?_
        refine AO.sT rfl rfl (bD (decide_eq_false hc19)) ?_
        refine AO.c (Calm.pickF rfl (bD (decide_eq_false hc19)) rfl) ?_
        refine AO.c (Calm.move rfl rfl) ?_
        refine AO.sT rfl rfl rfl ?_
        refine AO.sT rfl rfl rfl ?_
        refine AO.sT rfl rfl rfl ?_
        refine AO.sT rfl rfl rfl ?_
        refine AO.c (Calm.pickF rfl rfl rfl) ?_
        cases hq17
        refine AO.nilE ⟨rfl, rfl⟩ ?_ ?_
        · exact ⟨rfl, rfl, rfl, rfl, rfl, rfl, rfl, rfl, trivial⟩
        · exact (Sub.refl _)
      ·refine AO.sT rfl rfl (bD (eq_false_of_ne_true hc18)) ?_
       refine AO.sT rfl rfl (bD (eq_false_of_ne_true hc18)) ?_
       refine AO.sT rfl rfl (bD (eq_false_of_ne_true hc18)) ?_
       refine AO.sT rfl rfl (bD (eq_false_of_ne_true hc18)) ?_
       refine AO.sT rfl rfl (bD (eq_false_of_ne_true hc18)) ?_
       refine AO.c (Calm.pickF rfl (bD (eq_false_of_ne_true hc18)) rfl) ?_
       refine AO.c (Calm.move rfl rfl) ?_
       refine AO.sT rfl rfl rfl ?_
       refine AO.sT rfl rfl rfl ?_
       refine AO.sT rfl rfl rfl ?_
       refine AO.sT rfl rfl rfl ?_
       refine AO.sT rfl rfl rfl ?_
       refine AO.c (Calm.pickF rfl rfl rfl) ?_
       refine AO.c (Calm.move rfl rfl) ?_
       refine AO.sT rfl rfl rfl ?_
       refine AO.sT rfl rfl rfl ?_
       refine AO.sT rfl rfl rfl ?_
       refine AO.sT rfl rfl rfl ?_
       refine AO.c (Calm.pickF rfl rfl rfl) ?_
       cases hq17
       refine AO.nilE ⟨rfl, rfl⟩ ?_ ?_
       · exact ⟨rfl, rfl, rfl, rfl, rfl, rfl, rfl, rfl, trivial⟩
       · exact (Sub.refl _)
     ·rcases of_ite h with ⟨hc23, h⟩ | ⟨hc23, h⟩
      ·refine AW.condT' _ rfl hc23 ?_
       refine AW.reg ?_
       refine AO.c (Calm.move rfl rfl) ?_
       refine AO.c (x := .ptr n15 1) (Calm.fldPtr rfl rfl Try.underlying43 rfl sz3 _ rfl) ?_
       refine AO.c (Calm.load 1 rfl rfl rfl (At.cast (At.fldS (At.fld0 At.here)) rfl) ag3 sz3) ?_
       obtain ⟨hg24, h⟩ := of_guard h
       refine AO.c (Calm.idxO 0 rfl rfl rfl rfl hg24 Try.underlying49 sz4) ?_
       refine AO.store (X' := (.ar 1 ((lset x8 ((lget p0.f1 x9).f1) true).map eBool))) 0 rfl rfl rfl rfl rfl rfl (Put.cast (Put.lidx ((lget p0.f1 x9).f1) true hg24.1 hg24.2 Put.here) (by omega)) rfl rfl sz4 rfl ?_
       refine AO.coe 7 (y' := (.own n5 0 (lset x8 ((lget p0.f1 x9).f1) true).length)) rfl (fun _ _ h => lset_own h) ?_
       refine AO.coe 43 (y' := (.own n5 0 (lset x8 ((lget p0.f1 x9).f1) true).length)) rfl (fun _ _ h => lset_own h) ?_
       refine AO.nH [1, 2, 7, 14, 15, 16] (H' := [(n5, (.mem (.ar 1 ((lset x8 ((lget p0.f1 x9).f1) true).map eBool))))]) (Sub.cons 0 rfl (Sub.nil _)) ?_
       exact ⟨(lset x8 ((lget p0.f1 x9).f1) true), rfl, rfl, h⟩
      ·refine AW.condF' _ rfl hc23 ?_
       refine AW.sH [1, 2, 7, 14, 15, 16] (H' := [(n5, (.mem (.ar 1 (x8.map eBool))))]) (Sub.cons 0 rfl (Sub.nil _)) ?_
       exact ⟨x8, rfl, rfl, h⟩
    ·rintro _ _ ⟨x13, rfl, rfl, h⟩
     rw [nfa_Move_c1.eq_1] at h
     refine AW.reg ?_
     refine AO.c (x := eI64 (w64 (x9 + (1 : Int)))) (Calm.int rfl rfl rfl rfl) ?_
     refine AO.c (Calm.move rfl rfl) ?_
     refine AO.nK [1, 2, 7, 14, 15, 16] ?_
     exact ⟨kq11, Nat.lt_succ_self _, x13, (w64 (x9 + (1 : Int))), rfl, rfl, by rw [hrec10]; exact h⟩
   ·refine AW.condN _ rfl hc12 ?_
    refine AW.eK [7] ?_
    exact ⟨x8, rfl, rfl, h⟩
  ·rintro _ _ ⟨x7, rfl, rfl, h⟩
   rw [nfa_Move_c0.eq_1] at h
   refine AW.sr ?_
   refine AO.c (Calm.move rfl rfl) ?_
   refine AO.c (Calm.assign rfl rfl) ?_
   refine AO.nK [6] ?_
   refine AW.freezeS 0 [(6, (.fz 1 (x7.map eBool)))] rfl ⟨fz_all rfl, trivial⟩ ?_
   refine AW.rK [6] ?_
   have hr := Option.some.inj h
   subst hr
   exact ⟨[(.fz 1 (x7.map eBool))], ⟨rfl, rfl, trivial⟩, rfl⟩
end Go.Avl.T5
/- bosket/bosketref06.Move; printed by avmain.py. -/
namespace Go.Avl.T5
open Go Go.RowKit Go.Proofs Go.Avl
set_option linter.unusedVariables false
set_option maxRecDepth 100000
set_option maxHeartbeats 4000000
attribute [local irreducible] AW AO AQ Spec SpecH Calm

def bosketref06_Move_c0 (k : Nat) (x7 : (List Bool)) : Option (List Bool) :=
  some (x7)
def bosketref06_Move_c1 (k : Nat) (rec10 : ((List Bool) → Int → Option (List Bool))) (x9 : Int) (x13 : (List Bool)) : Option (List Bool) :=
  rec10 x13 (w64 (x9 + (1 : Int)))
def bosketref06_Move_l2 (k : Nat) (p0 : S24) (p1 : (List Bool)) (p2 : Int) : Nat → (List Bool) → Int → Option (List Bool)
  | 0, _, _ => none
  | j + 1, x8, x9 =>
    if x9 < (p0.f1.length : Int) then if 0 ≤ x9 ∧ x9 < (p0.f1.length : Int) then Option.bind (α := Bool) (if (!((lget p0.f1 x9).f3)) = true then if ((lget p0.f1 x9).f0) < (p1.length : Int) then if 0 ≤ ((lget p0.f1 x9).f0) ∧ ((lget p0.f1 x9).f0) < (p1.length : Int) then if (lget p1 ((lget p0.f1 x9).f0)) = true then (bosketref02_Has k ((lget p0.f1 x9).f2) p2).bind fun t22 =>
    some (t22)
    else some (false)
    else none
    else some (false)
    else some (false)) fun b16 =>
    if b16 = true then if 0 ≤ ((lget p0.f1 x9).f1) ∧ ((lget p0.f1 x9).f1) < (x8.length : Int) then bosketref06_Move_c1 k (bosketref06_Move_l2 k p0 p1 p2 j) x9 (lset x8 ((lget p0.f1 x9).f1) true)
    else none
    else bosketref06_Move_c1 k (bosketref06_Move_l2 k p0 p1 p2 j) x9 x8
    else none
    else bosketref06_Move_c0 k x8
def bosketref06_Move (k : Nat) (p0 : S24) (p1 : (List Bool)) (p2 : Int) : Option (List Bool) :=
  if 0 ≤ p0.f0 ∧ p0.f0 * (1 : Int) ≤ 140737488355328 ∧ p0.f0 ≤ 9223372036854775807 then bosketref06_Move_l2 k p0 p1 p2 k (List.replicate p0.f0.toNat false) (0 : Int)
  else none
theorem bosketref06_Move_spec {k : Nat} {p0 : S24} {p1 : (List Bool)} {p2 : Int} {r : (List Bool)} (h : bosketref06_Move k p0 p1 p2 = some r) : Spec Try.prog 54 [(e24 p0), (.fz 1 (p1.map eBool)), (eI64 p2)] (e49 r) := by
  rw [bosketref06_Move.eq_1] at h
  refine Spec.intro (res := [.tmp 6]) Try.func54 rfl rfl rfl (Nat.le_of_ble_eq_true rfl) ?_
  refine AW.sr ?_
  refine AO.box rfl 3 rfl (by decide) rfl rfl rfl fun n4 => ?_
  refine AO.c (Calm.assign rfl rfl) ?_
  refine AO.nK [1, 2, 3] ?_
  refine AW.sr ?_
  refine AO.c (x := .ptr n4 0) (Calm.fldPtr rfl rfl Try.underlying24 rfl sz3 _ rfl) ?_
  refine AO.c (Calm.load 0 rfl rfl rfl (At.cast (At.fld0 At.here) rfl) ag3 sz3) ?_
  obtain ⟨hg6, h⟩ := of_guard h
  refine AO.makeL (f := eBool) false rfl 12 rfl (by decide) rfl rfl rfl Try.underlying49 sz4 by4 zr4 lay4 rfl hg6 fun n5 => ?_
  refine AO.c (Calm.assign rfl rfl) ?_
  refine AO.nH [1, 2, 3, 7] (H' := [(n4, (.mem (e24 p0))), (n5, (.mem (.ar 1 ((List.replicate p0.f0.toNat false).map eBool))))]) (Sub.cons 1 rfl (Sub.cons 0 rfl (Sub.nil _))) ?_
  refine AW.seq_mid (fun ρ H => ∃ (x7 : (List Bool)), ρ = [(7, (.own n5 0 x7.length))] ∧ H = [(n5, (.mem (.ar 1 (x7.map eBool))))] ∧ bosketref06_Move_c0 k x7 = some r) ?_ ?_
  ·refine AW.sr ?_
   refine AO.c (Calm.assign rfl rfl) ?_
   refine AO.nK [1, 2, 3, 7, 8] ?_
   refine AW.block ?_
   refine AW.wK [1, 2, 3, 7, 8] ?_
   refine AW.loop (fun kq ρ H => ∃ (x8 : (List Bool)) (x9 : Int), ρ = [(1, (.fz 1 (p1.map eBool))), (2, (eI64 p2)), (3, (.ptr n4 0)), (7, (.own n5 0 x8.length)), (8, (eI64 x9))] ∧ H = [(n4, (.mem (e24 p0))), (n5, (.mem (.ar 1 (x8.map eBool))))] ∧ bosketref06_Move_l2 k p0 p1 p2 kq x8 x9 = some r) k ⟨(List.replicate p0.f0.toNat false), (0 : Int), rfl, rfl, h⟩ ?_
   rintro kq11 _ _ ⟨x8, x9, rfl, rfl, h⟩
   cases kq11 with
   | zero => rw [bosketref06_Move_l2.eq_1] at h; cases h
   | succ kq11 =>
   rw [bosketref06_Move_l2.eq_2] at h
   generalize hrec10 : bosketref06_Move_l2 k p0 p1 p2 kq11 = rec10 at h
   refine AW.seq ?_
   refine AW.sr ?_
   refine AO.c (Calm.move rfl rfl) ?_
   refine AO.c (x := .ptr n4 1) (Calm.fldPtr rfl rfl Try.underlying24 rfl sz22 _ rfl) ?_
   refine AO.c (Calm.load 0 rfl rfl rfl (At.cast (At.fldS (At.fld0 At.here)) rfl) ag22 sz22) ?_
   refine AO.c (Calm.lenL rfl rfl Try.underlying22) ?_
   refine AO.c (x := eBool (decide (x9 < (p0.f1.length : Int)))) (Calm.int rfl rfl rfl rfl) ?_
   refine AO.nK [1, 2, 3, 7, 8, 17] ?_
   rcases of_ite h with ⟨hc12, h⟩ | ⟨hc12, h⟩
   ·refine AW.condP _ rfl hc12 ?_
    refine AW.sK [1, 2, 3, 7, 8] ?_
    refine AW.seq_mid (fun ρ H => ∃ (x13 : (List Bool)), ρ = [(1, (.fz 1 (p1.map eBool))), (2, (eI64 p2)), (3, (.ptr n4 0)), (7, (.own n5 0 x13.length)), (8, (eI64 x9))] ∧ H = [(n4, (.mem (e24 p0))), (n5, (.mem (.ar 1 (x13.map eBool))))] ∧ bosketref06_Move_c1 k rec10 x9 x13 = some r) ?_ ?_
    ·refine AW.block ?_
     refine AW.sr ?_
     refine AO.c (x := .ptr n4 1) (Calm.fldPtr rfl rfl Try.underlying24 rfl sz22 _ rfl) ?_
     refine AO.c (Calm.load 0 rfl rfl rfl (At.cast (At.fldS (At.fld0 At.here)) rfl) ag22 sz22) ?_
     refine AO.c (Calm.move rfl rfl) ?_
     obtain ⟨hg14, h⟩ := of_guard h
     refine AO.c (Calm.idxL (f := e43) rfl rfl rfl hg14 Try.underlying22 sz43) ?_
     refine AO.c (Calm.loadRp rfl rfl ag43 sz43) ?_
     refine AO.alloc rfl 9 rfl (by decide) rfl zr43 lay43 fun n15 => ?_
     refine AO.store (X' := (e43 (lget p0.f1 x9))) 0 rfl rfl rfl rfl rfl rfl (Put.cast Put.here rfl) rfl rfl sz43 rfl ?_
     refine AO.nH [1, 2, 3, 7, 8, 9] (H' := [(n4, (.mem (e24 p0))), (n5, (.mem (.ar 1 (x8.map eBool)))), (n15, (.mem (e43 (lget p0.f1 x9))))]) (Sub.cons 1 rfl (Sub.cons 1 rfl (Sub.cons 0 rfl (Sub.nil _)))) ?_
     refine AW.seq ?_
     obtain ⟨b16, hq17, h⟩ := of_bind h
     refine AW.regM [(1, (.fz 1 (p1.map eBool))), (2, (eI64 p2)), (3, (.ptr n4 0)), (7, (.own n5 0 x8.length)), (8, (eI64 x9)), (9, (.ptr n15 0)), (47, (eBool b16))] [(n4, (.mem (e24 p0))), (n5, (.mem (.ar 1 (x8.map eBool)))), (n15, (.mem (e43 (lget p0.f1 x9))))] ?_ ?_
     ·refine AO.c (x := .ptr n15 6) (Calm.fldPtr rfl rfl Try.underlying43 rfl sz4 _ rfl) ?_
      refine AO.c (Calm.load 2 rfl rfl rfl (At.cast (At.fldS (At.fldS (At.fldS (At.fld0 At.here)))) rfl) ag4 sz4) ?_
      refine AO.c (Calm.not rfl rfl) ?_
      refine AO.c (Calm.move rfl rfl) ?_
      rcases of_ite hq17 with ⟨hc18, hq17⟩ | ⟨hc18, hq17⟩
      ·refine AO.cG (x := .ptr n15 0) rfl rfl (bD hc18) (Calm.fldPtr rfl rfl Try.underlying43 rfl sz3 _ rfl) ?_
       refine AO.cG rfl rfl (bD hc18) (Calm.load 2 rfl rfl rfl (At.cast (At.fld0 At.here) rfl) ag3 sz3) ?_
       refine AO.cG rfl rfl (bD hc18) (Calm.move rfl rfl) ?_
       refine AO.cG rfl rfl (bD hc18) (Calm.lenL rfl rfl Try.underlying49) ?_
       refine AO.cG (x := eBool (decide (((lget p0.f1 x9).f0) < (p1.length : Int)))) rfl rfl (bD hc18) (Calm.int rfl rfl rfl rfl) ?_
       refine AO.c (Calm.pickT rfl (bD hc18) rfl) ?_
       refine AO.c (Calm.move rfl rfl) ?_
       rcases of_ite hq17 with ⟨hc19, hq17⟩ | ⟨hc19, hq17⟩
       ·refine AO.cG rfl rfl (bD (decide_eq_true hc19)) (Calm.move rfl rfl) ?_
        refine AO.cG (x := .ptr n15 0) rfl rfl (bD (decide_eq_true hc19)) (Calm.fldPtr rfl rfl Try.underlying43 rfl sz3 _ rfl) ?_
        refine AO.cG rfl rfl (bD (decide_eq_true hc19)) (Calm.load 2 rfl rfl rfl (At.cast (At.fld0 At.here) rfl) ag3 sz3) ?_
        obtain ⟨hg20, hq17⟩ := of_guard hq17
        refine AO.cG rfl rfl (bD (decide_eq_true hc19)) (Calm.idxL (f := eBool) rfl rfl rfl hg20 Try.underlying49 sz4) ?_
        refine AO.cG rfl rfl (bD (decide_eq_true hc19)) (Calm.loadRp rfl rfl ag4 sz4) ?_
        refine AO.c (Calm.pickT rfl (bD (decide_eq_true hc19)) rfl) ?_
        refine AO.c (Calm.move rfl rfl) ?_
        rcases of_ite hq17 with ⟨hc21, hq17⟩ | ⟨hc21, hq17⟩
        ·refine AO.cG (x := .ptr n15 2) rfl rfl (bD hc21) (Calm.fldPtr rfl rfl Try.underlying43 rfl sz41 _ rfl) ?_
         refine AO.cG rfl rfl (bD hc21) (Calm.load 2 rfl rfl rfl (At.cast (At.fldS (At.fldS (At.fld0 At.here))) rfl) ag41 (by rw [sz41]; simp [AV.size])) ?_
         refine AO.cG rfl rfl (bD hc21) (Calm.move rfl rfl) ?_
         obtain ⟨t22, et22, hq17⟩ := of_bind hq17
         refine AO.callG 17 true 42 [(.ar 1 (((lget p0.f1 x9).f2).toList.map eU64)), (eI64 p2)] (eBool t22) 46 rfl (by decide) ok56 rfl rfl (bD hc21) rfl rfl ⟨rfl, rfl, rfl, rfl, trivial⟩ (bosketref02_Has_spec et22) ?_
         refine AO.c (Calm.pickT rfl (bD hc21) rfl) ?_
         cases hq17
         refine AO.nilE ⟨rfl, rfl⟩ ?_ ?_
         · exact ⟨rfl, rfl, rfl, rfl, rfl, rfl, rfl, trivial⟩
         · exact (Sub.refl _)
        ·refine AO.sT rfl rfl (bD (eq_false_of_ne_true hc21)) ?_
         refine AO.sT rfl rfl (bD (eq_false_of_ne_true hc21)) ?_
         refine AO.sT rfl rfl (bD (eq_false_of_ne_true hc21)) ?_
         refine AO.sT rfl rfl (bD (eq_false_of_ne_true hc21)) ?_
         refine AO.c (Calm.pickF rfl (bD (eq_false_of_ne_true hc21)) rfl) ?_
         cases hq17
         refine AO.nilE ⟨rfl, rfl⟩ ?_ ?_
         · exact ⟨rfl, rfl, rfl, rfl, rfl, rfl, rfl, trivial⟩
         · exact (Sub.refl _)
       ·refine AO.sT rfl rfl (bD (decide_eq_false hc19)) ?_
        refine AO.sT rfl rfl (bD (decide_eq_false hc19)) ?_
        refine AO.sT rfl rfl (bD (decide_eq_false hc19)) ?_
        refine AO.sT rfl rfl (bD (decide_eq_false hc19)) ?_
        refine AO.sT rfl rfl (bD (decide_eq_false hc19)) ?_
        refine AO.c (Calm.pickF rfl (bD (decide_eq_false hc19)) rfl) ?_
        refine AO.c (Calm.move rfl rfl) ?_
        refine AO.sT rfl rfl rfl ?_
        refine AO.sT rfl rfl rfl ?_
        refine AO.sT rfl rfl rfl ?_
        refine AO.sT rfl rfl rfl ?_
        refine AO.c (Calm.pickF rfl rfl rfl) ?_
        cases hq17
        refine AO.nilE ⟨rfl, rfl⟩ ?_ ?_
        · exact ⟨rfl, rfl, rfl, rfl, rfl, rfl, rfl, trivial⟩
        · exact (Sub.refl _)
      ·refine AO.sT rfl rfl (bD (eq_false_of_ne_true hc18)) ?_
       refine AO.sT rfl rfl (bD (eq_false_of_ne_true hc18)) ?_
       refine AO.sT rfl rfl (bD (eq_false_of_ne_true hc18)) ?_
       refine AO.sT rfl rfl (bD (eq_false_of_ne_true hc18)) ?_
       refine AO.sT rfl rfl (bD (eq_false_of_ne_true hc18)) ?_
       refine AO.c (Calm.pickF rfl (bD (eq_false_of_ne_true hc18)) rfl) ?_
       refine AO.c (Calm.move rfl rfl) ?_
       refine AO.sT rfl rfl rfl ?_
       refine AO.sT rfl rfl rfl ?_
       refine AO.sT rfl rfl rfl ?_
       refine AO.sT rfl rfl rfl ?_
       refine AO.sT rfl rfl rfl ?_
       refine AO.c (Calm.pickF rfl rfl rfl) ?_
       refine AO.c (Calm.move rfl rfl) ?_
       refine AO.sT rfl rfl rfl ?_
       refine AO.sT rfl rfl rfl ?_
       refine AO.sT rfl rfl rfl ?_
       refine AO.sT rfl rfl rfl ?_
       refine AO.c (Calm.pickF rfl rfl rfl) ?_
       cases hq17
       refine AO.nilE ⟨rfl, rfl⟩ ?_ ?_
       · exact ⟨rfl, rfl, rfl, rfl, rfl, rfl, rfl, trivial⟩
       · exact (Sub.refl _)
     ·rcases of_ite h with ⟨hc23, h⟩ | ⟨hc23, h⟩
      ·refine AW.condT' _ rfl hc23 ?_
       refine AW.reg ?_
       refine AO.c (Calm.move rfl rfl) ?_
       refine AO.c (x := .ptr n15 1) (Calm.fldPtr rfl rfl Try.underlying43 rfl sz3 _ rfl) ?_
       refine AO.c (Calm.load 2 rfl rfl rfl (At.cast (At.fldS (At.fld0 At.here)) rfl) ag3 sz3) ?_
       obtain ⟨hg24, h⟩ := of_guard h
       refine AO.c (Calm.idxO 1 rfl rfl rfl rfl hg24 Try.underlying49 sz4) ?_
       refine AO.store (X' := (.ar 1 ((lset x8 ((lget p0.f1 x9).f1) true).map eBool))) 1 rfl rfl rfl rfl rfl rfl (Put.cast (Put.lidx ((lget p0.f1 x9).f1) true hg24.1 hg24.2 Put.here) (by omega)) rfl rfl sz4 rfl ?_
       refine AO.coe 7 (y' := (.own n5 0 (lset x8 ((lget p0.f1 x9).f1) true).length)) rfl (fun _ _ h => lset_own h) ?_
       refine AO.coe 48 (y' := (.own n5 0 (lset x8 ((lget p0.f1 x9).f1) true).length)) rfl (fun _ _ h => lset_own h) ?_
       refine AO.nH [1, 2, 3, 7, 8] (H' := [(n4, (.mem (e24 p0))), (n5, (.mem (.ar 1 ((lset x8 ((lget p0.f1 x9).f1) true).map eBool))))]) (Sub.cons 0 rfl (Sub.cons 0 rfl (Sub.nil _))) ?_
       exact ⟨(lset x8 ((lget p0.f1 x9).f1) true), rfl, rfl, h⟩
      ·refine AW.condF' _ rfl hc23 ?_
       refine AW.sH [1, 2, 3, 7, 8] (H' := [(n4, (.mem (e24 p0))), (n5, (.mem (.ar 1 (x8.map eBool))))]) (Sub.cons 0 rfl (Sub.cons 0 rfl (Sub.nil _))) ?_
       exact ⟨x8, rfl, rfl, h⟩
    ·rintro _ _ ⟨x13, rfl, rfl, h⟩
     rw [bosketref06_Move_c1.eq_1] at h
     refine AW.reg ?_
     refine AO.c (Calm.move rfl rfl) ?_
     refine AO.c (x := eI64 (w64 (x9 + (1 : Int)))) (Calm.int rfl rfl rfl rfl) ?_
     refine AO.c (Calm.assign rfl rfl) ?_
     refine AO.nK [1, 2, 3, 7, 8] ?_
     exact ⟨kq11, Nat.lt_succ_self _, x13, (w64 (x9 + (1 : Int))), rfl, rfl, by rw [hrec10]; exact h⟩
   ·refine AW.condN _ rfl hc12 ?_
    refine AW.eH [7] (H' := [(n5, (.mem (.ar 1 (x8.map eBool))))]) (Sub.cons 1 rfl (Sub.nil _)) ?_
    exact ⟨x8, rfl, rfl, h⟩
  ·rintro _ _ ⟨x7, rfl, rfl, h⟩
   rw [bosketref06_Move_c0.eq_1] at h
   refine AW.sr ?_
   refine AO.c (Calm.move rfl rfl) ?_
   refine AO.c (Calm.assign rfl rfl) ?_
   refine AO.nK [6] ?_
   refine AW.freezeS 0 [(6, (.fz 1 (x7.map eBool)))] rfl ⟨fz_all rfl, trivial⟩ ?_
   refine AW.rK [6] ?_
   have hr := Option.some.inj h
   subst hr
   exact ⟨[(.fz 1 (x7.map eBool))], ⟨rfl, rfl, trivial⟩, rfl⟩
end Go.Avl.T5
/- bosket/bosketref06.Run; printed by avmain.py. -/
namespace Go.Avl.T5
open Go Go.RowKit Go.Proofs Go.Avl
set_option linter.unusedVariables false
set_option maxRecDepth 100000
set_option maxHeartbeats 4000000
attribute [local irreducible] AW AO AQ Spec SpecH Calm

end Go.Avl.T5
/- bosket/nfa.Sets; printed by avmain.py. -/
namespace Go.Avl.T5
open Go Go.RowKit Go.Proofs Go.Avl
set_option linter.unusedVariables false
set_option maxRecDepth 100000
set_option maxHeartbeats 4000000
attribute [local irreducible] AW AO AQ Spec SpecH Calm

def nfa_Sets_c0 (k : Nat) (x4 : (List (Vector Int 4))) : Option (List (Vector Int 4)) :=
  some (x4)
def nfa_Sets_c1 (k : Nat) (rec8 : ((List (Vector Int 4)) → Int → Option (List (Vector Int 4)))) (x7 : Int) (x12 : (List (Vector Int 4))) : Option (List (Vector Int 4)) :=
  rec8 x12 (w64 (x7 + (1 : Int)))
def nfa_Sets_l2 (k : Nat) (p0 : S24) : Nat → (List (Vector Int 4)) → Int → Option (List (Vector Int 4))
  | 0, _, _ => none
  | j + 1, x6, x7 =>
    if x7 < (p0.f1.length : Int) then if 0 ≤ x7 ∧ x7 < (p0.f1.length : Int) then if (!((lget p0.f1 x7).f3)) = true then if (x6 ++ ([(lget p0.f1 x7).f2] : List (Vector Int 4))).length * 32 ≤ 140737488355328 then nfa_Sets_c1 k (nfa_Sets_l2 k p0 j) x7 (x6 ++ ([(lget p0.f1 x7).f2] : List (Vector Int 4)))
    else none
    else nfa_Sets_c1 k (nfa_Sets_l2 k p0 j) x7 x6
    else none
    else nfa_Sets_c0 k x6
def nfa_Sets (k : Nat) (p0 : S24) : Option (List (Vector Int 4)) :=
  nfa_Sets_l2 k p0 k ([] : List (Vector Int 4)) (0 : Int)
theorem nfa_Sets_spec {k : Nat} {p0 : S24} {r : (List (Vector Int 4))} (h : nfa_Sets k p0 = some r) : Spec Try.prog 49 [(e24 p0)] (e38 r) := by
  rw [nfa_Sets.eq_1] at h
  refine Spec.intro (res := [.tmp 2]) Try.func49 rfl rfl rfl (Nat.le_of_ble_eq_true rfl) ?_
  refine AW.sr ?_
  refine AO.box rfl 1 rfl (by decide) rfl rfl rfl fun n2 => ?_
  refine AO.c (Calm.assign rfl rfl) ?_
  refine AO.nK [1] ?_
  refine AW.sr ?_
  refine AO.c (Calm.assign rfl rfl) ?_
  refine AO.nK [1, 3] ?_
  refine AW.seq_mid (fun ρ H => ∃ (n3 : Nat) (x4 : (List (Vector Int 4))), ρ = [(3, (.own n3 0 x4.length))] ∧ H = [(n3, (.mem (.ar 4 (x4.map e41))))] ∧ nfa_Sets_c0 k x4 = some r) ?_ ?_
  ·refine AW.sr ?_
   refine AO.c (x := .ptr n2 1) (Calm.fldPtr rfl rfl Try.underlying24 rfl sz22 _ rfl) ?_
   refine AO.c (Calm.load 0 rfl rfl rfl (At.cast (At.fldS (At.fld0 At.here)) rfl) ag22 sz22) ?_
   refine AO.c (Calm.lenL rfl rfl Try.underlying22) ?_
   refine AO.c (Calm.move rfl rfl) ?_
   refine AO.nH [3, 7, 8, 9] (H' := []) (Sub.nil _) ?_
   refine AW.block ?_
   refine AW.nilOwn 3 4 rfl fun n19 => ?_
   refine AW.wK [3, 7, 8, 9] ?_
   refine AW.loop (fun kq ρ H => ∃ (n5 : Nat) (x6 : (List (Vector Int 4))) (x7 : Int), ρ = [(3, (.own n5 0 x6.length)), (7, (.fz 7 (p0.f1.map e43))), (8, (eI64 (p0.f1.length : Int))), (9, (eI64 x7))] ∧ H = [(n5, (.mem (.ar 4 (x6.map e41))))] ∧ nfa_Sets_l2 k p0 kq x6 x7 = some r) k ⟨n19, ([] : List (Vector Int 4)), (0 : Int), rfl, rfl, h⟩ ?_
   rintro kq9 _ _ ⟨n5, x6, x7, rfl, rfl, h⟩
   cases kq9 with
   | zero => rw [nfa_Sets_l2.eq_1] at h; cases h
   | succ kq9 =>
   rw [nfa_Sets_l2.eq_2] at h
   generalize hrec8 : nfa_Sets_l2 k p0 kq9 = rec8 at h
   refine AW.sr ?_
   refine AO.c (x := eBool (decide (x7 < (p0.f1.length : Int)))) (Calm.int rfl rfl rfl rfl) ?_
   refine AO.nK [3, 7, 8, 9, 10] ?_
   refine AW.seq ?_
   rcases of_ite h with ⟨hc10, h⟩ | ⟨hc10, h⟩
   ·refine AW.condP _ rfl hc10 ?_
    refine AW.sK [3, 7, 8, 9] ?_
    refine AW.seq_mid (fun ρ H => ∃ (n11 : Nat) (x12 : (List (Vector Int 4))), ρ = [(3, (.own n11 0 x12.length)), (7, (.fz 7 (p0.f1.map e43))), (8, (eI64 (p0.f1.length : Int))), (9, (eI64 x7))] ∧ H = [(n11, (.mem (.ar 4 (x12.map e41))))] ∧ nfa_Sets_c1 k rec8 x7 x12 = some r) ?_ ?_
    ·refine AW.block ?_
     refine AW.sr ?_
     obtain ⟨hg13, h⟩ := of_guard h
     refine AO.c (Calm.idxL (f := e43) rfl rfl rfl hg13 Try.underlying22 sz43) ?_
     refine AO.c (Calm.loadRp rfl rfl ag43 sz43) ?_
     refine AO.alloc rfl 5 rfl (by decide) rfl zr43 lay43 fun n14 => ?_
     refine AO.store (X' := (e43 (lget p0.f1 x7))) 0 rfl rfl rfl rfl rfl rfl (Put.cast Put.here rfl) rfl rfl sz43 rfl ?_
     refine AO.nH [3, 5, 7, 8, 9] (H' := [(n5, (.mem (.ar 4 (x6.map e41)))), (n14, (.mem (e43 (lget p0.f1 x7))))]) (Sub.cons 1 rfl (Sub.cons 0 rfl (Sub.nil _))) ?_
     refine AW.sr ?_
     refine AO.c (x := .ptr n14 6) (Calm.fldPtr rfl rfl Try.underlying43 rfl sz4 _ rfl) ?_
     refine AO.c (Calm.load 1 rfl rfl rfl (At.cast (At.fldS (At.fldS (At.fldS (At.fld0 At.here)))) rfl) ag4 sz4) ?_
     refine AO.c (Calm.not rfl rfl) ?_
     refine AO.nK [3, 5, 7, 8, 9, 15] ?_
     rcases of_ite h with ⟨hc15, h⟩ | ⟨hc15, h⟩
     ·refine AW.condT' _ rfl hc15 ?_
      refine AW.reg ?_
      refine AO.c (Calm.move rfl rfl) ?_
      refine AO.c (x := .ptr n14 2) (Calm.fldPtr rfl rfl Try.underlying43 rfl sz41 _ rfl) ?_
      refine AO.c (Calm.load 1 rfl rfl rfl (At.cast (At.fldS (At.fldS (At.fld0 At.here))) rfl) ag41 (by rw [sz41]; simp [AV.size])) ?_
      refine AO.lit (Z := (.ar 1 ((Vector.replicate 4 (0 : Int)).toList.map eU64))) (xs := (([(lget p0.f1 x7).f2] : List (Vector Int 4)).map e41)) (qs := [(0, (.ar 1 (((lget p0.f1 x7).f2).toList.map eU64)))]) rfl 19 rfl (by decide) rfl ⟨rfl, rfl, rfl, trivial⟩ Try.underlying38 sz41 zr41 lay41 rfl (by decide) (litOK (z := 4) [(.ar 1 (((lget p0.f1 x7).f2).toList.map eU64))] (vec_size _ _) ⟨⟨rfl, (vec_size _ _)⟩, trivial⟩) rfl fun n16 => ?_
      obtain ⟨hg18, h⟩ := of_guard h
      refine AO.appendL (l := x6) (m := ([(lget p0.f1 x7).f2] : List (Vector Int 4))) 1 20 rfl (by decide) rfl rfl rfl rfl rfl (Src.ownL (f := e41) (l := ([(lget p0.f1 x7).f2] : List (Vector Int 4))) 0 rfl) Try.underlying38 Try.underlying38 sz41 by41 zr41 rfl hg18 (by decide) fun n17 => ?_
      refine AO.c (Calm.assign rfl rfl) ?_
      refine AO.nH [3, 7, 8, 9] (H' := [(n17, (.mem (.ar 4 ((x6 ++ ([(lget p0.f1 x7).f2] : List (Vector Int 4))).map e41))))]) (Sub.cons 1 rfl (Sub.nil _)) ?_
      exact ⟨n17, (x6 ++ ([(lget p0.f1 x7).f2] : List (Vector Int 4))), rfl, rfl, h⟩
     ·refine AW.condF' _ rfl hc15 ?_
      refine AW.sH [3, 7, 8, 9] (H' := [(n5, (.mem (.ar 4 (x6.map e41))))]) (Sub.cons 0 rfl (Sub.nil _)) ?_
      exact ⟨n5, x6, rfl, rfl, h⟩
    ·rintro _ _ ⟨n11, x12, rfl, rfl, h⟩
     rw [nfa_Sets_c1.eq_1] at h
     refine AW.reg ?_
     refine AO.c (x := eI64 (w64 (x7 + (1 : Int)))) (Calm.int rfl rfl rfl rfl) ?_
     refine AO.c (Calm.move rfl rfl) ?_
     refine AO.nK [3, 7, 8, 9] ?_
     exact ⟨kq9, Nat.lt_succ_self _, n11, x12, (w64 (x7 + (1 : Int))), rfl, rfl, by rw [hrec8]; exact h⟩
   ·refine AW.condN _ rfl hc10 ?_
    refine AW.eK [3] ?_
    exact ⟨n5, x6, rfl, rfl, h⟩
  ·rintro _ _ ⟨n3, x4, rfl, rfl, h⟩
   rw [nfa_Sets_c0.eq_1] at h
   refine AW.sr ?_
   refine AO.c (Calm.move rfl rfl) ?_
   refine AO.c (Calm.assign rfl rfl) ?_
   refine AO.nK [2] ?_
   refine AW.freezeS 0 [(2, (.fz 4 (x4.map e41)))] rfl ⟨fz_all rfl, trivial⟩ ?_
   refine AW.rK [2] ?_
   have hr := Option.some.inj h
   subst hr
   exact ⟨[(.fz 4 (x4.map e41))], ⟨rfl, rfl, trivial⟩, rfl⟩
end Go.Avl.T5
/- bosket/bosketref07.Reps; printed by avmain.py. -/
namespace Go.Avl.T5
open Go Go.RowKit Go.Proofs Go.Avl
set_option linter.unusedVariables false
set_option maxRecDepth 100000
set_option maxHeartbeats 4000000
attribute [local irreducible] AW AO AQ Spec SpecH Calm

def bosketref07_Reps_c0 (k : Nat) (x6 : (List Int)) : Option (List Int) :=
  some (x6)
def bosketref07_Reps_c1 (k : Nat) (rec10 : ((List Int) → Int → Option (List Int))) (x9 : Int) (x14 : (List Int)) : Option (List Int) :=
  rec10 x14 (w64 (x9 + (1 : Int)))
def bosketref07_Reps_l2 (k : Nat) (x4 : (List (Vector Int 4))) : Nat → (List Int) → Int → Option (List Int)
  | 0, _, _ => none
  | j + 1, x8, x9 =>
    if x9 < (256 : Int) then (bosketref02_Class k x4 x9).bind fun t15 =>
    if t15 = x9 then if (x8 ++ ([x9] : List Int)).length * 8 ≤ 140737488355328 then bosketref07_Reps_c1 k (bosketref07_Reps_l2 k x4 j) x9 (x8 ++ ([x9] : List Int))
    else none
    else bosketref07_Reps_c1 k (bosketref07_Reps_l2 k x4 j) x9 x8
    else bosketref07_Reps_c0 k x8
def bosketref07_Reps_c3 (k : Nat) (x4 : (List (Vector Int 4))) : Option (List Int) :=
  bosketref07_Reps_l2 k x4 k ([] : List Int) (0 : Int)
def bosketref07_Reps_c4 (k : Nat) (rec24 : ((List (Vector Int 4)) → Int → Option (List Int))) (x23 : Int) (x28 : (List (Vector Int 4))) : Option (List Int) :=
  rec24 x28 (w64 (x23 + (1 : Int)))
def bosketref07_Reps_l5 (k : Nat) (p0 : S24) : Nat → (List (Vector Int 4)) → Int → Option (List Int)
  | 0, _, _ => none
  | j + 1, x22, x23 =>
    if x23 < (p0.f1.length : Int) then if 0 ≤ x23 ∧ x23 < (p0.f1.length : Int) then if (!((lget p0.f1 x23).f3)) = true then if 0 ≤ x23 ∧ x23 < (p0.f1.length : Int) then if (x22 ++ ([(lget p0.f1 x23).f2] : List (Vector Int 4))).length * 32 ≤ 140737488355328 then bosketref07_Reps_c4 k (bosketref07_Reps_l5 k p0 j) x23 (x22 ++ ([(lget p0.f1 x23).f2] : List (Vector Int 4)))
    else none
    else none
    else bosketref07_Reps_c4 k (bosketref07_Reps_l5 k p0 j) x23 x22
    else none
    else bosketref07_Reps_c3 k x22
def bosketref07_Reps (k : Nat) (p0 : S24) : Option (List Int) :=
  bosketref07_Reps_l5 k p0 k ([] : List (Vector Int 4)) (0 : Int)
theorem bosketref07_Reps_spec {k : Nat} {p0 : S24} {r : (List Int)} (h : bosketref07_Reps k p0 = some r) : Spec Try.prog 16 [(e24 p0)] (e25 r) := by
  rw [bosketref07_Reps.eq_1] at h
  refine Spec.intro (res := [.tmp 2]) Try.func16 rfl rfl rfl (Nat.le_of_ble_eq_true rfl) ?_
  refine AW.sr ?_
  refine AO.box rfl 1 rfl (by decide) rfl rfl rfl fun n2 => ?_
  refine AO.c (Calm.assign rfl rfl) ?_
  refine AO.nK [1] ?_
  refine AW.sr ?_
  refine AO.c (Calm.assign rfl rfl) ?_
  refine AO.nK [1, 3] ?_
  refine AW.seq_mid (fun ρ H => ∃ (n3 : Nat) (x4 : (List (Vector Int 4))), ρ = [(3, (.own n3 0 x4.length))] ∧ H = [(n3, (.mem (.ar 4 (x4.map e41))))] ∧ bosketref07_Reps_c3 k x4 = some r) ?_ ?_
  ·refine AW.sr ?_
   refine AO.c (Calm.assign rfl rfl) ?_
   refine AO.nK [1, 3, 4] ?_
   refine AW.block ?_
   refine AW.nilOwn 3 4 rfl fun n35 => ?_
   refine AW.wH [1, 3, 4] (H' := [(n2, (.mem (e24 p0))), (n35, (.mem (.ar 4 (([] : List (Vector Int 4)).map e41))))]) (Sub.cons 1 rfl (Sub.cons 0 rfl (Sub.nil _))) ?_
   refine AW.loop (fun kq ρ H => ∃ (n21 : Nat) (x22 : (List (Vector Int 4))) (x23 : Int), ρ = [(1, (.ptr n2 0)), (3, (.own n21 0 x22.length)), (4, (eI64 x23))] ∧ H = [(n2, (.mem (e24 p0))), (n21, (.mem (.ar 4 (x22.map e41))))] ∧ bosketref07_Reps_l5 k p0 kq x22 x23 = some r) k ⟨n35, ([] : List (Vector Int 4)), (0 : Int), rfl, rfl, h⟩ ?_
   rintro kq25 _ _ ⟨n21, x22, x23, rfl, rfl, h⟩
   cases kq25 with
   | zero => rw [bosketref07_Reps_l5.eq_1] at h; cases h
   | succ kq25 =>
   rw [bosketref07_Reps_l5.eq_2] at h
   generalize hrec24 : bosketref07_Reps_l5 k p0 kq25 = rec24 at h
   refine AW.seq ?_
   refine AW.sr ?_
   refine AO.c (Calm.move rfl rfl) ?_
   refine AO.c (x := .ptr n2 1) (Calm.fldPtr rfl rfl Try.underlying24 rfl sz22 _ rfl) ?_
   refine AO.c (Calm.load 0 rfl rfl rfl (At.cast (At.fldS (At.fld0 At.here)) rfl) ag22 sz22) ?_
   refine AO.c (Calm.lenL rfl rfl Try.underlying22) ?_
   refine AO.c (x := eBool (decide (x23 < (p0.f1.length : Int)))) (Calm.int rfl rfl rfl rfl) ?_
   refine AO.nK [1, 3, 4, 11] ?_
   rcases of_ite h with ⟨hc26, h⟩ | ⟨hc26, h⟩
   ·refine AW.condP _ rfl hc26 ?_
    refine AW.sK [1, 3, 4] ?_
    refine AW.seq_mid (fun ρ H => ∃ (n27 : Nat) (x28 : (List (Vector Int 4))), ρ = [(1, (.ptr n2 0)), (3, (.own n27 0 x28.length)), (4, (eI64 x23))] ∧ H = [(n2, (.mem (e24 p0))), (n27, (.mem (.ar 4 (x28.map e41))))] ∧ bosketref07_Reps_c4 k rec24 x23 x28 = some r) ?_ ?_
    ·refine AW.block ?_
     refine AW.sr ?_
     refine AO.c (x := .ptr n2 1) (Calm.fldPtr rfl rfl Try.underlying24 rfl sz22 _ rfl) ?_
     refine AO.c (Calm.load 0 rfl rfl rfl (At.cast (At.fldS (At.fld0 At.here)) rfl) ag22 sz22) ?_
     refine AO.c (Calm.move rfl rfl) ?_
     obtain ⟨hg29, h⟩ := of_guard h
     refine AO.c (Calm.idxL (f := e43) rfl rfl rfl hg29 Try.underlying22 sz43) ?_
     refine AO.c (Calm.fldRp rfl rfl Try.underlying43 rfl sz4 (At.cast (At.fldS (At.fldS (At.fldS (At.fld0 At.here)))) rfl)) ?_
     refine AO.c (Calm.loadRp rfl rfl ag4 sz4) ?_
     refine AO.c (Calm.not rfl rfl) ?_
     refine AO.nK [1, 3, 4, 20] ?_
     rcases of_ite h with ⟨hc30, h⟩ | ⟨hc30, h⟩
     ·refine AW.condT' _ rfl hc30 ?_
      refine AW.reg ?_
      refine AO.c (Calm.move rfl rfl) ?_
      refine AO.c (x := .ptr n2 1) (Calm.fldPtr rfl rfl Try.underlying24 rfl sz22 _ rfl) ?_
      refine AO.c (Calm.load 0 rfl rfl rfl (At.cast (At.fldS (At.fld0 At.here)) rfl) ag22 sz22) ?_
      refine AO.c (Calm.move rfl rfl) ?_
      obtain ⟨hg31, h⟩ := of_guard h
      refine AO.c (Calm.idxL (f := e43) rfl rfl rfl hg31 Try.underlying22 sz43) ?_
      refine AO.c (Calm.fldRp rfl rfl Try.underlying43 rfl sz41 (At.cast (At.fldS (At.fldS (At.fld0 At.here))) rfl)) ?_
      refine AO.c (Calm.loadRp rfl rfl ag41 (by rw [sz41]; simp [AV.size])) ?_
      refine AO.lit (Z := (.ar 1 ((Vector.replicate 4 (0 : Int)).toList.map eU64))) (xs := (([(lget p0.f1 x23).f2] : List (Vector Int 4)).map e41)) (qs := [(0, (.ar 1 (((lget p0.f1 x23).f2).toList.map eU64)))]) rfl 28 rfl (by decide) rfl ⟨rfl, rfl, rfl, trivial⟩ Try.underlying38 sz41 zr41 lay41 rfl (by decide) (litOK (z := 4) [(.ar 1 (((lget p0.f1 x23).f2).toList.map eU64))] (vec_size _ _) ⟨⟨rfl, (vec_size _ _)⟩, trivial⟩) rfl fun n32 => ?_
      obtain ⟨hg34, h⟩ := of_guard h
      refine AO.appendL (l := x22) (m := ([(lget p0.f1 x23).f2] : List (Vector Int 4))) 2 29 rfl (by decide) rfl rfl rfl rfl rfl (Src.ownL (f := e41) (l := ([(lget p0.f1 x23).f2] : List (Vector Int 4))) 0 rfl) Try.underlying38 Try.underlying38 sz41 by41 zr41 rfl hg34 (by decide) fun n33 => ?_
      refine AO.c (Calm.assign rfl rfl) ?_
      refine AO.nH [1, 3, 4] (H' := [(n2, (.mem (e24 p0))), (n33, (.mem (.ar 4 ((x22 ++ ([(lget p0.f1 x23).f2] : List (Vector Int 4))).map e41))))]) (Sub.cons 1 rfl (Sub.cons 1 rfl (Sub.nil _))) ?_
      exact ⟨n33, (x22 ++ ([(lget p0.f1 x23).f2] : List (Vector Int 4))), rfl, rfl, h⟩
     ·refine AW.condF' _ rfl hc30 ?_
      refine AW.sK [1, 3, 4] ?_
      exact ⟨n21, x22, rfl, rfl, h⟩
    ·rintro _ _ ⟨n27, x28, rfl, rfl, h⟩
     rw [bosketref07_Reps_c4.eq_1] at h
     refine AW.reg ?_
     refine AO.c (Calm.move rfl rfl) ?_
     refine AO.c (x := eI64 (w64 (x23 + (1 : Int)))) (Calm.int rfl rfl rfl rfl) ?_
     refine AO.c (Calm.assign rfl rfl) ?_
     refine AO.nK [1, 3, 4] ?_
     exact ⟨kq25, Nat.lt_succ_self _, n27, x28, (w64 (x23 + (1 : Int))), rfl, rfl, by rw [hrec24]; exact h⟩
   ·refine AW.condN _ rfl hc26 ?_
    refine AW.eH [3] (H' := [(n21, (.mem (.ar 4 (x22.map e41))))]) (Sub.cons 1 rfl (Sub.nil _)) ?_
    exact ⟨n21, x22, rfl, rfl, h⟩
  ·rintro _ _ ⟨n3, x4, rfl, rfl, h⟩
   rw [bosketref07_Reps_c3.eq_1] at h
   refine AW.sr ?_
   refine AO.c (Calm.assign rfl rfl) ?_
   refine AO.nK [3, 5] ?_
   refine AW.seq_mid (fun ρ H => ∃ (n5 : Nat) (x6 : (List Int)), ρ = [(5, (.own n5 0 x6.length))] ∧ H = [(n5, (.mem (.ar 1 (x6.map eI64))))] ∧ bosketref07_Reps_c0 k x6 = some r) ?_ ?_
   ·refine AW.sr ?_
    refine AO.c (Calm.assign rfl rfl) ?_
    refine AO.nK [3, 5, 6] ?_
    refine AW.block ?_
    refine AW.nilOwn 5 1 rfl fun n20 => ?_
    refine AW.wH [3, 5, 6] (H' := [(n3, (.mem (.ar 4 (x4.map e41)))), (n20, (.mem (.ar 1 (([] : List Int).map eI64))))]) (Sub.cons 1 rfl (Sub.cons 0 rfl (Sub.nil _))) ?_
    refine AW.loop (fun kq ρ H => ∃ (n7 : Nat) (x8 : (List Int)) (x9 : Int), ρ = [(3, (.own n3 0 x4.length)), (5, (.own n7 0 x8.length)), (6, (eI64 x9))] ∧ H = [(n3, (.mem (.ar 4 (x4.map e41)))), (n7, (.mem (.ar 1 (x8.map eI64))))] ∧ bosketref07_Reps_l2 k x4 kq x8 x9 = some r) k ⟨n20, ([] : List Int), (0 : Int), rfl, rfl, h⟩ ?_
    rintro kq11 _ _ ⟨n7, x8, x9, rfl, rfl, h⟩
    cases kq11 with
    | zero => rw [bosketref07_Reps_l2.eq_1] at h; cases h
    | succ kq11 =>
    rw [bosketref07_Reps_l2.eq_2] at h
    generalize hrec10 : bosketref07_Reps_l2 k x4 kq11 = rec10 at h
    refine AW.seq ?_
    refine AW.sr ?_
    refine AO.c (Calm.move rfl rfl) ?_
    refine AO.c (x := eBool (decide (x9 < (256 : Int)))) (Calm.int rfl rfl rfl rfl) ?_
    refine AO.nK [3, 5, 6, 31] ?_
    rcases of_ite h with ⟨hc12, h⟩ | ⟨hc12, h⟩
    ·refine AW.condP _ rfl hc12 ?_
     refine AW.sK [3, 5, 6] ?_
     refine AW.seq_mid (fun ρ H => ∃ (n13 : Nat) (x14 : (List Int)), ρ = [(3, (.own n3 0 x4.length)), (5, (.own n13 0 x14.length)), (6, (eI64 x9))] ∧ H = [(n3, (.mem (.ar 4 (x4.map e41)))), (n13, (.mem (.ar 1 (x14.map eI64))))] ∧ bosketref07_Reps_c1 k rec10 x9 x14 = some r) ?_ ?_
     ·refine AW.block ?_
      refine AW.sr ?_
      refine AO.c (Calm.move rfl rfl) ?_
      refine AO.c (Calm.move rfl rfl) ?_
      obtain ⟨t15, et15, h⟩ := of_bind h
      refine AO.c (Calm.callB (args := [(.fz 4 (x4.map e41)), (eI64 x9)]) rfl rfl ok17 ⟨.inr ⟨_, 0, _, _, _, 0, rfl, rfl, by simp, by rw [own_all]⟩, .inl ⟨rfl, rfl⟩, trivial⟩ rfl (bosketref02_Class_spec et15)) ?_
      refine AO.c (Calm.move rfl rfl) ?_
      refine AO.c (x := eBool (decide (t15 = x9))) (Calm.int rfl rfl rfl rfl) ?_
      refine AO.nK [3, 5, 6, 38] ?_
      rcases of_ite h with ⟨hc16, h⟩ | ⟨hc16, h⟩
      ·refine AW.condP _ rfl hc16 ?_
       refine AW.reg ?_
       refine AO.c (Calm.move rfl rfl) ?_
       refine AO.c (Calm.move rfl rfl) ?_
       refine AO.lit (Z := (eI64 (0 : Int))) (xs := (([x9] : List Int).map eI64)) (qs := [(0, (eI64 x9))]) rfl 41 rfl (by decide) rfl ⟨rfl, rfl, rfl, trivial⟩ Try.underlying25 sz3 zr3 lay3 rfl (by decide) (litOK (z := 1) [(eI64 x9)] rfl ⟨⟨rfl, rfl⟩, trivial⟩) rfl fun n17 => ?_
       obtain ⟨hg19, h⟩ := of_guard h
       refine AO.appendL (l := x8) (m := ([x9] : List Int)) 2 42 rfl (by decide) rfl rfl rfl rfl rfl (Src.ownL (f := eI64) (l := ([x9] : List Int)) 0 rfl) Try.underlying25 Try.underlying25 sz3 by3 zr3 rfl hg19 (by decide) fun n18 => ?_
       refine AO.c (Calm.assign rfl rfl) ?_
       refine AO.nH [3, 5, 6] (H' := [(n3, (.mem (.ar 4 (x4.map e41)))), (n18, (.mem (.ar 1 ((x8 ++ ([x9] : List Int)).map eI64))))]) (Sub.cons 1 rfl (Sub.cons 1 rfl (Sub.nil _))) ?_
       exact ⟨n18, (x8 ++ ([x9] : List Int)), rfl, rfl, h⟩
      ·refine AW.condN _ rfl hc16 ?_
       refine AW.sK [3, 5, 6] ?_
       exact ⟨n7, x8, rfl, rfl, h⟩
     ·rintro _ _ ⟨n13, x14, rfl, rfl, h⟩
      rw [bosketref07_Reps_c1.eq_1] at h
      refine AW.reg ?_
      refine AO.c (Calm.move rfl rfl) ?_
      refine AO.c (x := eI64 (w64 (x9 + (1 : Int)))) (Calm.int rfl rfl rfl rfl) ?_
      refine AO.c (Calm.assign rfl rfl) ?_
      refine AO.nK [3, 5, 6] ?_
      exact ⟨kq11, Nat.lt_succ_self _, n13, x14, (w64 (x9 + (1 : Int))), rfl, rfl, by rw [hrec10]; exact h⟩
    ·refine AW.condN _ rfl hc12 ?_
     refine AW.eH [5] (H' := [(n7, (.mem (.ar 1 (x8.map eI64))))]) (Sub.cons 1 rfl (Sub.nil _)) ?_
     exact ⟨n7, x8, rfl, rfl, h⟩
   ·rintro _ _ ⟨n5, x6, rfl, rfl, h⟩
    rw [bosketref07_Reps_c0.eq_1] at h
    refine AW.sr ?_
    refine AO.c (Calm.move rfl rfl) ?_
    refine AO.c (Calm.assign rfl rfl) ?_
    refine AO.nK [2] ?_
    refine AW.freezeS 0 [(2, (.fz 1 (x6.map eI64)))] rfl ⟨fz_all rfl, trivial⟩ ?_
    refine AW.rK [2] ?_
    have hr := Option.some.inj h
    subst hr
    exact ⟨[(.fz 1 (x6.map eI64))], ⟨rfl, rfl, trivial⟩, rfl⟩
end Go.Avl.T5
/- bosket/bosketref07.SameRows; printed by avmain.py. -/
namespace Go.Avl.T5
open Go Go.RowKit Go.Proofs Go.Avl
set_option linter.unusedVariables false
set_option maxRecDepth 100000
set_option maxHeartbeats 4000000
attribute [local irreducible] AW AO AQ Spec SpecH Calm

def bosketref07_SameRows_c0 (k : Nat) : Option Bool :=
  some (true)
def bosketref07_SameRows_c1 (k : Nat) (rec5 : (Int → Option Bool)) (x4 : Int) : Option Bool :=
  rec5 (w64 (x4 + (1 : Int)))
def bosketref07_SameRows_l2 (k : Nat) (rec5 : (Int → Option Bool)) (p0 : (List (List Int))) (p1 : (List (List Int))) (x4 : Int) : Nat → Int → Option Bool
  | 0, _ => none
  | j + 1, x11 =>
    if 0 ≤ x4 ∧ x4 < (p0.length : Int) then if x11 < ((lget p0 x4).length : Int) then if 0 ≤ x4 ∧ x4 < (p0.length : Int) then if 0 ≤ x11 ∧ x11 < ((lget p0 x4).length : Int) then if 0 ≤ x4 ∧ x4 < (p1.length : Int) then if 0 ≤ x11 ∧ x11 < ((lget p1 x4).length : Int) then if (lget (lget p0 x4) x11) ≠ (lget (lget p1 x4) x11) then some (false)
    else (bosketref07_SameRows_l2 k rec5 p0 p1 x4 j) (w64 (x11 + (1 : Int)))
    else none
    else none
    else none
    else none
    else bosketref07_SameRows_c1 k rec5 x4
    else none
def bosketref07_SameRows_l3 (k : Nat) (p0 : (List (List Int))) (p1 : (List (List Int))) : Nat → Int → Option Bool
  | 0, _ => none
  | j + 1, x4 =>
    if x4 < (p0.length : Int) then if 0 ≤ x4 ∧ x4 < (p0.length : Int) then if 0 ≤ x4 ∧ x4 < (p1.length : Int) then if ((lget p0 x4).length : Int) ≠ ((lget p1 x4).length : Int) then some (false)
    else bosketref07_SameRows_l2 k (bosketref07_SameRows_l3 k p0 p1 j) p0 p1 x4 k (0 : Int)
    else none
    else none
    else bosketref07_SameRows_c0 k
def bosketref07_SameRows (k : Nat) (p0 : (List (List Int))) (p1 : (List (List Int))) : Option Bool :=
  if (p0.length : Int) ≠ (p1.length : Int) then some (false)
  else bosketref07_SameRows_l3 k p0 p1 k (0 : Int)
theorem bosketref07_SameRows_spec {k : Nat} {p0 : (List (List Int))} {p1 : (List (List Int))} {r : Bool} (h : bosketref07_SameRows k p0 p1 = some r) : Spec Try.prog 18 [(.fz 1 (p0.map e25)), (.fz 1 (p1.map e25))] (eBool r) := by
  rw [bosketref07_SameRows.eq_1] at h
  refine Spec.intro (res := [.tmp 4]) Try.func18 rfl rfl rfl (Nat.le_of_ble_eq_true rfl) ?_
  refine AW.sr ?_
  refine AO.c (Calm.assign rfl rfl) ?_
  refine AO.nK [0, 1] ?_
  refine AW.seq ?_
  refine AW.sr ?_
  refine AO.c (Calm.move rfl rfl) ?_
  refine AO.c (Calm.lenL rfl rfl Try.underlying28) ?_
  refine AO.c (Calm.move rfl rfl) ?_
  refine AO.c (Calm.lenL rfl rfl Try.underlying28) ?_
  refine AO.c (x := eBool (decide ((p0.length : Int) ≠ (p1.length : Int)))) (Calm.int rfl rfl rfl rfl) ?_
  refine AO.nK [0, 1, 11] ?_
  rcases of_ite h with ⟨hc3, h⟩ | ⟨hc3, h⟩
  ·refine AW.condP _ rfl hc3 ?_
   refine AW.sr ?_
   refine AO.c (Calm.assign rfl rfl) ?_
   refine AO.nK [4] ?_
   refine AW.rK [4] ?_
   have hr := Option.some.inj h
   subst hr
   exact ⟨[(eBool false)], ⟨rfl, rfl, trivial⟩, rfl⟩
  ·refine AW.condN _ rfl hc3 ?_
   refine AW.sK [0, 1] ?_
   refine AW.seq_mid (fun ρ H => ρ = [] ∧ H = [] ∧ bosketref07_SameRows_c0 k = some r) ?_ ?_
   ·refine AW.sr ?_
    refine AO.c (Calm.assign rfl rfl) ?_
    refine AO.nK [0, 1, 5] ?_
    refine AW.block ?_
    refine AW.wK [0, 1, 5] ?_
    refine AW.loop (fun kq ρ H => ∃ (x4 : Int), ρ = [(0, (.fz 1 (p0.map e25))), (1, (.fz 1 (p1.map e25))), (5, (eI64 x4))] ∧ H = [] ∧ bosketref07_SameRows_l3 k p0 p1 kq x4 = some r) k ⟨(0 : Int), rfl, rfl, h⟩ ?_
    rintro kq6 _ _ ⟨x4, rfl, rfl, h⟩
    cases kq6 with
    | zero => rw [bosketref07_SameRows_l3.eq_1] at h; cases h
    | succ kq6 =>
    rw [bosketref07_SameRows_l3.eq_2] at h
    generalize hrec5 : bosketref07_SameRows_l3 k p0 p1 kq6 = rec5 at h
    refine AW.seq ?_
    refine AW.sr ?_
    refine AO.c (Calm.move rfl rfl) ?_
    refine AO.c (Calm.move rfl rfl) ?_
    refine AO.c (Calm.lenL rfl rfl Try.underlying28) ?_
    refine AO.c (x := eBool (decide (x4 < (p0.length : Int)))) (Calm.int rfl rfl rfl rfl) ?_
    refine AO.nK [0, 1, 5, 15] ?_
    rcases of_ite h with ⟨hc7, h⟩ | ⟨hc7, h⟩
    ·refine AW.condP _ rfl hc7 ?_
     refine AW.sK [0, 1, 5] ?_
     refine AW.seq_mid (fun ρ H => ρ = [(0, (.fz 1 (p0.map e25))), (1, (.fz 1 (p1.map e25))), (5, (eI64 x4))] ∧ H = [] ∧ bosketref07_SameRows_c1 k rec5 x4 = some r) ?_ ?_
     ·refine AW.block ?_
      refine AW.seq ?_
      refine AW.seq ?_
      refine AW.regQ (by rfl) (by decide +kernel) ?_
      refine AQ.c (Calm.move rfl rfl) ?_
      refine AQ.c (Calm.move rfl rfl) ?_
      obtain ⟨hg8, h⟩ := of_guard h
      refine AQ.c (Calm.idxL (f := e25) rfl rfl rfl hg8 Try.underlying28 sz25) ?_
      refine AQ.c (Calm.loadRp rfl rfl ag25 sz25) ?_
      refine AQ.c (Calm.lenL rfl rfl Try.underlying25) ?_
      refine AQ.c (Calm.move rfl rfl) ?_
      refine AQ.c (Calm.move rfl rfl) ?_
      obtain ⟨hg9, h⟩ := of_guard h
      refine AQ.c (Calm.idxL (f := e25) rfl rfl rfl hg9 Try.underlying28 sz25) ?_
      refine AQ.c (Calm.loadRp rfl rfl ag25 sz25) ?_
      refine AQ.c (Calm.lenL rfl rfl Try.underlying25) ?_
      refine AQ.c (x := eBool (decide (((lget p0 x4).length : Int) ≠ ((lget p1 x4).length : Int)))) (Calm.int rfl rfl rfl rfl) ?_
      refine AQ.nK [0, 1, 5, 28] ?_
      rcases of_ite h with ⟨hc10, h⟩ | ⟨hc10, h⟩
      ·refine AW.condP _ rfl hc10 ?_
       refine AW.sr ?_
       refine AO.c (Calm.assign rfl rfl) ?_
       refine AO.nK [4] ?_
       refine AW.rK [4] ?_
       have hr := Option.some.inj h
       subst hr
       exact ⟨[(eBool false)], ⟨rfl, rfl, trivial⟩, rfl⟩
      ·refine AW.condN _ rfl hc10 ?_
       refine AW.sK [0, 1, 5] ?_
       refine AW.sr ?_
       refine AO.c (Calm.assign rfl rfl) ?_
       refine AO.nK [0, 1, 5, 6] ?_
       refine AW.block ?_
       refine AW.wK [0, 1, 5, 6] ?_
       refine AW.loop (fun kq ρ H => ∃ (x11 : Int), ρ = [(0, (.fz 1 (p0.map e25))), (1, (.fz 1 (p1.map e25))), (5, (eI64 x4)), (6, (eI64 x11))] ∧ H = [] ∧ bosketref07_SameRows_l2 k rec5 p0 p1 x4 kq x11 = some r) k ⟨(0 : Int), rfl, rfl, h⟩ ?_
       rintro kq13 _ _ ⟨x11, rfl, rfl, h⟩
       cases kq13 with
       | zero => rw [bosketref07_SameRows_l2.eq_1] at h; cases h
       | succ kq13 =>
       rw [bosketref07_SameRows_l2.eq_2] at h
       generalize hrec12 : bosketref07_SameRows_l2 k rec5 p0 p1 x4 kq13 = rec12 at h
       refine AW.seq ?_
       refine AW.sr ?_
       refine AO.c (Calm.move rfl rfl) ?_
       refine AO.c (Calm.move rfl rfl) ?_
       refine AO.c (Calm.move rfl rfl) ?_
       obtain ⟨hg14, h⟩ := of_guard h
       refine AO.c (Calm.idxL (f := e25) rfl rfl rfl hg14 Try.underlying28 sz25) ?_
       refine AO.c (Calm.loadRp rfl rfl ag25 sz25) ?_
       refine AO.c (Calm.lenL rfl rfl Try.underlying25) ?_
       refine AO.c (x := eBool (decide (x11 < ((lget p0 x4).length : Int)))) (Calm.int rfl rfl rfl rfl) ?_
       refine AO.nK [0, 1, 5, 6, 35] ?_
       rcases of_ite h with ⟨hc15, h⟩ | ⟨hc15, h⟩
       ·refine AW.condP _ rfl hc15 ?_
        refine AW.sK [0, 1, 5, 6] ?_
        refine AW.seq ?_
        refine AW.block ?_
        refine AW.seq ?_
        refine AW.regQ (by rfl) (by decide +kernel) ?_
        refine AQ.c (Calm.move rfl rfl) ?_
        refine AQ.c (Calm.move rfl rfl) ?_
        obtain ⟨hg16, h⟩ := of_guard h
        refine AQ.c (Calm.idxL (f := e25) rfl rfl rfl hg16 Try.underlying28 sz25) ?_
        refine AQ.c (Calm.loadRp rfl rfl ag25 sz25) ?_
        refine AQ.c (Calm.move rfl rfl) ?_
        obtain ⟨hg17, h⟩ := of_guard h
        refine AQ.c (Calm.idxL (f := eI64) rfl rfl rfl hg17 Try.underlying25 sz3) ?_
        refine AQ.c (Calm.loadRp rfl rfl ag3 sz3) ?_
        refine AQ.c (Calm.move rfl rfl) ?_
        refine AQ.c (Calm.move rfl rfl) ?_
        obtain ⟨hg18, h⟩ := of_guard h
        refine AQ.c (Calm.idxL (f := e25) rfl rfl rfl hg18 Try.underlying28 sz25) ?_
        refine AQ.c (Calm.loadRp rfl rfl ag25 sz25) ?_
        refine AQ.c (Calm.move rfl rfl) ?_
        obtain ⟨hg19, h⟩ := of_guard h
        refine AQ.c (Calm.idxL (f := eI64) rfl rfl rfl hg19 Try.underlying25 sz3) ?_
        refine AQ.c (Calm.loadRp rfl rfl ag3 sz3) ?_
        refine AQ.c (x := eBool (decide ((lget (lget p0 x4) x11) ≠ (lget (lget p1 x4) x11)))) (Calm.int rfl rfl rfl rfl) ?_
        refine AQ.nK [0, 1, 5, 6, 52] ?_
        rcases of_ite h with ⟨hc20, h⟩ | ⟨hc20, h⟩
        ·refine AW.condP _ rfl hc20 ?_
         refine AW.sr ?_
         refine AO.c (Calm.assign rfl rfl) ?_
         refine AO.nK [4] ?_
         refine AW.rK [4] ?_
         have hr := Option.some.inj h
         subst hr
         exact ⟨[(eBool false)], ⟨rfl, rfl, trivial⟩, rfl⟩
        ·refine AW.condN _ rfl hc20 ?_
         refine AW.sK [0, 1, 5, 6] ?_
         refine AW.reg ?_
         refine AO.c (Calm.move rfl rfl) ?_
         refine AO.c (x := eI64 (w64 (x11 + (1 : Int)))) (Calm.int rfl rfl rfl rfl) ?_
         refine AO.c (Calm.assign rfl rfl) ?_
         refine AO.nK [0, 1, 5, 6] ?_
         exact ⟨kq13, Nat.lt_succ_self _, (w64 (x11 + (1 : Int))), rfl, rfl, by rw [hrec12]; exact h⟩
       ·refine AW.condN _ rfl hc15 ?_
        refine AW.eK [0, 1, 5] ?_
        exact ⟨rfl, rfl, h⟩
     ·rintro _ _ ⟨rfl, rfl, h⟩
      rw [bosketref07_SameRows_c1.eq_1] at h
      refine AW.reg ?_
      refine AO.c (Calm.move rfl rfl) ?_
      refine AO.c (x := eI64 (w64 (x4 + (1 : Int)))) (Calm.int rfl rfl rfl rfl) ?_
      refine AO.c (Calm.assign rfl rfl) ?_
      refine AO.nK [0, 1, 5] ?_
      exact ⟨kq6, Nat.lt_succ_self _, (w64 (x4 + (1 : Int))), rfl, rfl, by rw [hrec5]; exact h⟩
    ·refine AW.condN _ rfl hc7 ?_
     refine AW.eK [] ?_
     exact ⟨rfl, rfl, h⟩
   ·rintro _ _ ⟨rfl, rfl, h⟩
    rw [bosketref07_SameRows_c0.eq_1] at h
    refine AW.sr ?_
    refine AO.c (Calm.assign rfl rfl) ?_
    refine AO.nK [4] ?_
    refine AW.rK [4] ?_
    have hr := Option.some.inj h
    subst hr
    exact ⟨[(eBool true)], ⟨rfl, rfl, trivial⟩, rfl⟩
end Go.Avl.T5
/- bosket/bosketref01.Same; printed by avmain.py. -/
namespace Go.Avl.T5
open Go Go.RowKit Go.Proofs Go.Avl
set_option linter.unusedVariables false
set_option maxRecDepth 100000
set_option maxHeartbeats 4000000
attribute [local irreducible] AW AO AQ Spec SpecH Calm

def bosketref01_Same_c0 (k : Nat) : Option Bool :=
  some (true)
def bosketref01_Same_l1 (k : Nat) (p0 : (List Int)) (p1 : (List Int)) : Nat → Int → Option Bool
  | 0, _ => none
  | j + 1, x4 =>
    if x4 < (p0.length : Int) then if 0 ≤ x4 ∧ x4 < (p0.length : Int) then if 0 ≤ x4 ∧ x4 < (p1.length : Int) then if (lget p0 x4) ≠ (lget p1 x4) then some (false)
    else (bosketref01_Same_l1 k p0 p1 j) (w64 (x4 + (1 : Int)))
    else none
    else none
    else bosketref01_Same_c0 k
def bosketref01_Same (k : Nat) (p0 : (List Int)) (p1 : (List Int)) : Option Bool :=
  if (p0.length : Int) ≠ (p1.length : Int) then some (false)
  else bosketref01_Same_l1 k p0 p1 k (0 : Int)
theorem bosketref01_Same_spec {k : Nat} {p0 : (List Int)} {p1 : (List Int)} {r : Bool} (h : bosketref01_Same k p0 p1 = some r) : Spec Try.prog 19 [(.fz 1 (p0.map eI64)), (.fz 1 (p1.map eI64))] (eBool r) := by
  rw [bosketref01_Same.eq_1] at h
  refine Spec.intro (res := [.tmp 4]) Try.func19 rfl rfl rfl (Nat.le_of_ble_eq_true rfl) ?_
  refine AW.sr ?_
  refine AO.c (Calm.assign rfl rfl) ?_
  refine AO.nK [0, 1] ?_
  refine AW.seq ?_
  refine AW.sr ?_
  refine AO.c (Calm.move rfl rfl) ?_
  refine AO.c (Calm.lenL rfl rfl Try.underlying25) ?_
  refine AO.c (Calm.move rfl rfl) ?_
  refine AO.c (Calm.lenL rfl rfl Try.underlying25) ?_
  refine AO.c (x := eBool (decide ((p0.length : Int) ≠ (p1.length : Int)))) (Calm.int rfl rfl rfl rfl) ?_
  refine AO.nK [0, 1, 10] ?_
  rcases of_ite h with ⟨hc3, h⟩ | ⟨hc3, h⟩
  ·refine AW.condP _ rfl hc3 ?_
   refine AW.sr ?_
   refine AO.c (Calm.assign rfl rfl) ?_
   refine AO.nK [4] ?_
   refine AW.rK [4] ?_
   have hr := Option.some.inj h
   subst hr
   exact ⟨[(eBool false)], ⟨rfl, rfl, trivial⟩, rfl⟩
  ·refine AW.condN _ rfl hc3 ?_
   refine AW.sK [0, 1] ?_
   refine AW.seq_mid (fun ρ H => ρ = [] ∧ H = [] ∧ bosketref01_Same_c0 k = some r) ?_ ?_
   ·refine AW.sr ?_
    refine AO.c (Calm.assign rfl rfl) ?_
    refine AO.nK [0, 1, 5] ?_
    refine AW.block ?_
    refine AW.wK [0, 1, 5] ?_
    refine AW.loop (fun kq ρ H => ∃ (x4 : Int), ρ = [(0, (.fz 1 (p0.map eI64))), (1, (.fz 1 (p1.map eI64))), (5, (eI64 x4))] ∧ H = [] ∧ bosketref01_Same_l1 k p0 p1 kq x4 = some r) k ⟨(0 : Int), rfl, rfl, h⟩ ?_
    rintro kq6 _ _ ⟨x4, rfl, rfl, h⟩
    cases kq6 with
    | zero => rw [bosketref01_Same_l1.eq_1] at h; cases h
    | succ kq6 =>
    rw [bosketref01_Same_l1.eq_2] at h
    generalize hrec5 : bosketref01_Same_l1 k p0 p1 kq6 = rec5 at h
    refine AW.seq ?_
    refine AW.sr ?_
    refine AO.c (Calm.move rfl rfl) ?_
    refine AO.c (Calm.move rfl rfl) ?_
    refine AO.c (Calm.lenL rfl rfl Try.underlying25) ?_
    refine AO.c (x := eBool (decide (x4 < (p0.length : Int)))) (Calm.int rfl rfl rfl rfl) ?_
    refine AO.nK [0, 1, 5, 14] ?_
    rcases of_ite h with ⟨hc7, h⟩ | ⟨hc7, h⟩
    ·refine AW.condP _ rfl hc7 ?_
     refine AW.sK [0, 1, 5] ?_
     refine AW.seq ?_
     refine AW.block ?_
     refine AW.seq ?_
     refine AW.regQ (by rfl) (by decide +kernel) ?_
     refine AQ.c (Calm.move rfl rfl) ?_
     refine AQ.c (Calm.move rfl rfl) ?_
     obtain ⟨hg8, h⟩ := of_guard h
     refine AQ.c (Calm.idxL (f := eI64) rfl rfl rfl hg8 Try.underlying25 sz3) ?_
     refine AQ.c (Calm.loadRp rfl rfl ag3 sz3) ?_
     refine AQ.c (Calm.move rfl rfl) ?_
     refine AQ.c (Calm.move rfl rfl) ?_
     obtain ⟨hg9, h⟩ := of_guard h
     refine AQ.c (Calm.idxL (f := eI64) rfl rfl rfl hg9 Try.underlying25 sz3) ?_
     refine AQ.c (Calm.loadRp rfl rfl ag3 sz3) ?_
     refine AQ.c (x := eBool (decide ((lget p0 x4) ≠ (lget p1 x4)))) (Calm.int rfl rfl rfl rfl) ?_
     refine AQ.nK [0, 1, 5, 25] ?_
     rcases of_ite h with ⟨hc10, h⟩ | ⟨hc10, h⟩
     ·refine AW.condP _ rfl hc10 ?_
      refine AW.sr ?_
      refine AO.c (Calm.assign rfl rfl) ?_
      refine AO.nK [4] ?_
      refine AW.rK [4] ?_
      have hr := Option.some.inj h
      subst hr
      exact ⟨[(eBool false)], ⟨rfl, rfl, trivial⟩, rfl⟩
     ·refine AW.condN _ rfl hc10 ?_
      refine AW.sK [0, 1, 5] ?_
      refine AW.reg ?_
      refine AO.c (Calm.move rfl rfl) ?_
      refine AO.c (x := eI64 (w64 (x4 + (1 : Int)))) (Calm.int rfl rfl rfl rfl) ?_
      refine AO.c (Calm.assign rfl rfl) ?_
      refine AO.nK [0, 1, 5] ?_
      exact ⟨kq6, Nat.lt_succ_self _, (w64 (x4 + (1 : Int))), rfl, rfl, by rw [hrec5]; exact h⟩
    ·refine AW.condN _ rfl hc7 ?_
     refine AW.eK [] ?_
     exact ⟨rfl, rfl, h⟩
   ·rintro _ _ ⟨rfl, rfl, h⟩
    rw [bosketref01_Same_c0.eq_1] at h
    refine AW.sr ?_
    refine AO.c (Calm.assign rfl rfl) ?_
    refine AO.nK [4] ?_
    refine AW.rK [4] ?_
    have hr := Option.some.inj h
    subst hr
    exact ⟨[(eBool true)], ⟨rfl, rfl, trivial⟩, rfl⟩
end Go.Avl.T5
/- bosket/bosketref07.Mark; printed by avmain.py. -/
namespace Go.Avl.T5
open Go Go.RowKit Go.Proofs Go.Avl
set_option linter.unusedVariables false
set_option maxRecDepth 100000
set_option maxHeartbeats 4000000
attribute [local irreducible] AW AO AQ Spec SpecH Calm

def bosketref07_Mark_c0 (k : Nat) (x3 : Int) : Option Int :=
  some (x3)
def bosketref07_Mark_c1 (k : Nat) (rec6 : (Int → Int → Option Int)) (x5 : Int) (x12 : Int) : Option Int :=
  rec6 x12 (w64 (x5 + (1 : Int)))
def bosketref07_Mark_l2 (k : Nat) (p0 : (List Int)) (p1 : (List Bool)) : Nat → Int → Int → Option Int
  | 0, _, _ => none
  | j + 1, x4, x5 =>
    Option.bind (α := Bool) (if x5 < (p1.length : Int) then some (decide (x5 < (p0.length : Int)))
    else some (false)) fun b8 =>
    if b8 = true then Option.bind (α := Bool) (if 0 ≤ x5 ∧ x5 < (p1.length : Int) then if (lget p1 x5) = true then if 0 ≤ x5 ∧ x5 < (p0.length : Int) then if (0 : Int) ≤ (lget p0 x5) then if x4 < (0 : Int) then some (true)
    else if 0 ≤ x5 ∧ x5 < (p0.length : Int) then some (decide ((lget p0 x5) < x4))
    else none
    else some (false)
    else none
    else some (false)
    else none) fun b13 =>
    if b13 = true then if 0 ≤ x5 ∧ x5 < (p0.length : Int) then bosketref07_Mark_c1 k (bosketref07_Mark_l2 k p0 p1 j) x5 (lget p0 x5)
    else none
    else bosketref07_Mark_c1 k (bosketref07_Mark_l2 k p0 p1 j) x5 x4
    else bosketref07_Mark_c0 k x4
def bosketref07_Mark (k : Nat) (p0 : (List Int)) (p1 : (List Bool)) : Option Int :=
  bosketref07_Mark_l2 k p0 p1 k (-1 : Int) (0 : Int)
theorem bosketref07_Mark_spec {k : Nat} {p0 : (List Int)} {p1 : (List Bool)} {r : Int} (h : bosketref07_Mark k p0 p1 = some r) : Spec Try.prog 20 [(.fz 1 (p0.map eI64)), (.fz 1 (p1.map eBool))] (eI64 r) := by
  rw [bosketref07_Mark.eq_1] at h
  refine Spec.intro (res := [.tmp 4]) Try.func20 rfl rfl rfl (Nat.le_of_ble_eq_true rfl) ?_
  refine AW.sr ?_
  refine AO.c (Calm.assign rfl rfl) ?_
  refine AO.nK [0, 1] ?_
  refine AW.sr ?_
  refine AO.c (Calm.assign rfl rfl) ?_
  refine AO.nK [0, 1, 5] ?_
  refine AW.seq_mid (fun ρ H => ∃ (x3 : Int), ρ = [(5, (eI64 x3))] ∧ H = [] ∧ bosketref07_Mark_c0 k x3 = some r) ?_ ?_
  ·refine AW.sr ?_
   refine AO.c (Calm.assign rfl rfl) ?_
   refine AO.nK [0, 1, 5, 6] ?_
   refine AW.block ?_
   refine AW.wK [0, 1, 5, 6] ?_
   refine AW.loop (fun kq ρ H => ∃ (x4 : Int) (x5 : Int), ρ = [(0, (.fz 1 (p0.map eI64))), (1, (.fz 1 (p1.map eBool))), (5, (eI64 x4)), (6, (eI64 x5))] ∧ H = [] ∧ bosketref07_Mark_l2 k p0 p1 kq x4 x5 = some r) k ⟨(-1 : Int), (0 : Int), rfl, rfl, h⟩ ?_
   rintro kq7 _ _ ⟨x4, x5, rfl, rfl, h⟩
   cases kq7 with
   | zero => rw [bosketref07_Mark_l2.eq_1] at h; cases h
   | succ kq7 =>
   rw [bosketref07_Mark_l2.eq_2] at h
   generalize hrec6 : bosketref07_Mark_l2 k p0 p1 kq7 = rec6 at h
   refine AW.seq ?_
   refine AW.seq ?_
   obtain ⟨b8, hq9, h⟩ := of_bind h
   refine AW.regM [(0, (.fz 1 (p0.map eI64))), (1, (.fz 1 (p1.map eBool))), (5, (eI64 x4)), (6, (eI64 x5)), (16, (eBool b8))] [] ?_ ?_
   ·refine AO.c (Calm.move rfl rfl) ?_
    refine AO.c (Calm.move rfl rfl) ?_
    refine AO.c (Calm.lenL rfl rfl Try.underlying49) ?_
    refine AO.c (x := eBool (decide (x5 < (p1.length : Int)))) (Calm.int rfl rfl rfl rfl) ?_
    refine AO.c (Calm.move rfl rfl) ?_
    rcases of_ite hq9 with ⟨hc10, hq9⟩ | ⟨hc10, hq9⟩
    ·refine AO.cG rfl rfl (bD (decide_eq_true hc10)) (Calm.move rfl rfl) ?_
     refine AO.cG rfl rfl (bD (decide_eq_true hc10)) (Calm.move rfl rfl) ?_
     refine AO.cG rfl rfl (bD (decide_eq_true hc10)) (Calm.lenL rfl rfl Try.underlying25) ?_
     refine AO.cG (x := eBool (decide (x5 < (p0.length : Int)))) rfl rfl (bD (decide_eq_true hc10)) (Calm.int rfl rfl rfl rfl) ?_
     refine AO.c (Calm.pickT rfl (bD (decide_eq_true hc10)) rfl) ?_
     cases hq9
     refine AO.nilE ⟨rfl, rfl⟩ ?_ ?_
     · exact ⟨rfl, rfl, rfl, rfl, rfl, trivial⟩
     · exact (Sub.refl _)
    ·refine AO.sT rfl rfl (bD (decide_eq_false hc10)) ?_
     refine AO.sT rfl rfl (bD (decide_eq_false hc10)) ?_
     refine AO.sT rfl rfl (bD (decide_eq_false hc10)) ?_
     refine AO.sT rfl rfl (bD (decide_eq_false hc10)) ?_
     refine AO.c (Calm.pickF rfl (bD (decide_eq_false hc10)) rfl) ?_
     cases hq9
     refine AO.nilE ⟨rfl, rfl⟩ ?_ ?_
     · exact ⟨rfl, rfl, rfl, rfl, rfl, trivial⟩
     · exact (Sub.refl _)
   ·rcases of_ite h with ⟨hc11, h⟩ | ⟨hc11, h⟩
    ·refine AW.condT' _ rfl hc11 ?_
     refine AW.sK [0, 1, 5, 6] ?_
     refine AW.seq_mid (fun ρ H => ∃ (x12 : Int), ρ = [(0, (.fz 1 (p0.map eI64))), (1, (.fz 1 (p1.map eBool))), (5, (eI64 x12)), (6, (eI64 x5))] ∧ H = [] ∧ bosketref07_Mark_c1 k rec6 x5 x12 = some r) ?_ ?_
     ·refine AW.block ?_
      refine AW.seq ?_
      obtain ⟨b13, hq14, h⟩ := of_bind h
      refine AW.regM [(0, (.fz 1 (p0.map eI64))), (1, (.fz 1 (p1.map eBool))), (5, (eI64 x4)), (6, (eI64 x5)), (41, (eBool b13))] [] ?_ ?_
      ·refine AO.c (Calm.move rfl rfl) ?_
       refine AO.c (Calm.move rfl rfl) ?_
       obtain ⟨hg15, hq14⟩ := of_guard hq14
       refine AO.c (Calm.idxL (f := eBool) rfl rfl rfl hg15 Try.underlying49 sz4) ?_
       refine AO.c (Calm.loadRp rfl rfl ag4 sz4) ?_
       refine AO.c (Calm.move rfl rfl) ?_
       rcases of_ite hq14 with ⟨hc16, hq14⟩ | ⟨hc16, hq14⟩
       ·refine AO.cG rfl rfl (bD hc16) (Calm.move rfl rfl) ?_
        refine AO.cG rfl rfl (bD hc16) (Calm.move rfl rfl) ?_
        obtain ⟨hg17, hq14⟩ := of_guard hq14
        refine AO.cG rfl rfl (bD hc16) (Calm.idxL (f := eI64) rfl rfl rfl hg17 Try.underlying25 sz3) ?_
        refine AO.cG rfl rfl (bD hc16) (Calm.loadRp rfl rfl ag3 sz3) ?_
        refine AO.cG (x := eBool (decide ((0 : Int) ≤ (lget p0 x5)))) rfl rfl (bD hc16) (Calm.int rfl rfl rfl rfl) ?_
        refine AO.c (Calm.pickT rfl (bD hc16) rfl) ?_
        refine AO.c (Calm.move rfl rfl) ?_
        rcases of_ite hq14 with ⟨hc18, hq14⟩ | ⟨hc18, hq14⟩
        ·refine AO.cG rfl rfl (bD (decide_eq_true hc18)) (Calm.move rfl rfl) ?_
         refine AO.cG (x := eBool (decide (x4 < (0 : Int)))) rfl rfl (bD (decide_eq_true hc18)) (Calm.int rfl rfl rfl rfl) ?_
         refine AO.cG rfl rfl (bD (decide_eq_true hc18)) (Calm.move rfl rfl) ?_
         rcases of_ite hq14 with ⟨hc19, hq14⟩ | ⟨hc19, hq14⟩
         ·refine AO.sF rfl rfl (bD (decide_eq_true hc19)) ?_
          refine AO.sF rfl rfl (bD (decide_eq_true hc19)) ?_
          refine AO.sF rfl rfl (bD (decide_eq_true hc19)) ?_
          refine AO.sF rfl rfl (bD (decide_eq_true hc19)) ?_
          refine AO.sF rfl rfl (bD (decide_eq_true hc19)) ?_
          refine AO.sF rfl rfl (bD (decide_eq_true hc19)) ?_
          refine AO.cG rfl rfl (bD (decide_eq_true hc18)) (Calm.pickT rfl (bD (decide_eq_true hc19)) rfl) ?_
          refine AO.c (Calm.pickT rfl (bD (decide_eq_true hc18)) rfl) ?_
          cases hq14
          refine AO.nilE ⟨rfl, rfl⟩ ?_ ?_
          · exact ⟨rfl, rfl, rfl, rfl, rfl, trivial⟩
          · exact (Sub.refl _)
         ·refine AO.cG rfl rfl (bD (decide_eq_false hc19)) (Calm.move rfl rfl) ?_
          refine AO.cG rfl rfl (bD (decide_eq_false hc19)) (Calm.move rfl rfl) ?_
          obtain ⟨hg20, hq14⟩ := of_guard hq14
          refine AO.cG rfl rfl (bD (decide_eq_false hc19)) (Calm.idxL (f := eI64) rfl rfl rfl hg20 Try.underlying25 sz3) ?_
          refine AO.cG rfl rfl (bD (decide_eq_false hc19)) (Calm.loadRp rfl rfl ag3 sz3) ?_
          refine AO.cG rfl rfl (bD (decide_eq_false hc19)) (Calm.move rfl rfl) ?_
          refine AO.cG (x := eBool (decide ((lget p0 x5) < x4))) rfl rfl (bD (decide_eq_false hc19)) (Calm.int rfl rfl rfl rfl) ?_
          refine AO.cG rfl rfl (bD (decide_eq_true hc18)) (Calm.pickF rfl (bD (decide_eq_false hc19)) rfl) ?_
          refine AO.c (Calm.pickT rfl (bD (decide_eq_true hc18)) rfl) ?_
          cases hq14
          refine AO.nilE ⟨rfl, rfl⟩ ?_ ?_
          · exact ⟨rfl, rfl, rfl, rfl, rfl, trivial⟩
          · exact (Sub.refl _)
        ·refine AO.sT rfl rfl (bD (decide_eq_false hc18)) ?_
         refine AO.sT rfl rfl (bD (decide_eq_false hc18)) ?_
         refine AO.sT rfl rfl (bD (decide_eq_false hc18)) ?_
         refine AO.sU rfl rfl rfl ?_
         refine AO.sU rfl rfl rfl ?_
         refine AO.sU rfl rfl rfl ?_
         refine AO.sU rfl rfl rfl ?_
         refine AO.sU rfl rfl rfl ?_
         refine AO.sU rfl rfl rfl ?_
         refine AO.sT rfl rfl (bD (decide_eq_false hc18)) ?_
         refine AO.c (Calm.pickF rfl (bD (decide_eq_false hc18)) rfl) ?_
         cases hq14
         refine AO.nilE ⟨rfl, rfl⟩ ?_ ?_
         · exact ⟨rfl, rfl, rfl, rfl, rfl, trivial⟩
         · exact (Sub.refl _)
       ·refine AO.sT rfl rfl (bD (eq_false_of_ne_true hc16)) ?_
        refine AO.sT rfl rfl (bD (eq_false_of_ne_true hc16)) ?_
        refine AO.sT rfl rfl (bD (eq_false_of_ne_true hc16)) ?_
        refine AO.sT rfl rfl (bD (eq_false_of_ne_true hc16)) ?_
        refine AO.sT rfl rfl (bD (eq_false_of_ne_true hc16)) ?_
        refine AO.c (Calm.pickF rfl (bD (eq_false_of_ne_true hc16)) rfl) ?_
        refine AO.c (Calm.move rfl rfl) ?_
        refine AO.sT rfl rfl rfl ?_
        refine AO.sT rfl rfl rfl ?_
        refine AO.sT rfl rfl rfl ?_
        refine AO.sU rfl rfl rfl ?_
        refine AO.sU rfl rfl rfl ?_
        refine AO.sU rfl rfl rfl ?_
        refine AO.sU rfl rfl rfl ?_
        refine AO.sU rfl rfl rfl ?_
        refine AO.sU rfl rfl rfl ?_
        refine AO.sT rfl rfl rfl ?_
        refine AO.c (Calm.pickF rfl rfl rfl) ?_
        cases hq14
        refine AO.nilE ⟨rfl, rfl⟩ ?_ ?_
        · exact ⟨rfl, rfl, rfl, rfl, rfl, trivial⟩
        · exact (Sub.refl _)
      ·rcases of_ite h with ⟨hc21, h⟩ | ⟨hc21, h⟩
       ·refine AW.condT' _ rfl hc21 ?_
        refine AW.reg ?_
        refine AO.c (Calm.move rfl rfl) ?_
        refine AO.c (Calm.move rfl rfl) ?_
        obtain ⟨hg22, h⟩ := of_guard h
        refine AO.c (Calm.idxL (f := eI64) rfl rfl rfl hg22 Try.underlying25 sz3) ?_
        refine AO.c (Calm.loadRp rfl rfl ag3 sz3) ?_
        refine AO.c (Calm.assign rfl rfl) ?_
        refine AO.nK [0, 1, 5, 6] ?_
        exact ⟨(lget p0 x5), rfl, rfl, h⟩
       ·refine AW.condF' _ rfl hc21 ?_
        refine AW.sK [0, 1, 5, 6] ?_
        exact ⟨x4, rfl, rfl, h⟩
     ·rintro _ _ ⟨x12, rfl, rfl, h⟩
      rw [bosketref07_Mark_c1.eq_1] at h
      refine AW.reg ?_
      refine AO.c (Calm.move rfl rfl) ?_
      refine AO.c (x := eI64 (w64 (x5 + (1 : Int)))) (Calm.int rfl rfl rfl rfl) ?_
      refine AO.c (Calm.assign rfl rfl) ?_
      refine AO.nK [0, 1, 5, 6] ?_
      exact ⟨kq7, Nat.lt_succ_self _, x12, (w64 (x5 + (1 : Int))), rfl, rfl, by rw [hrec6]; exact h⟩
    ·refine AW.condF' _ rfl hc11 ?_
     refine AW.eK [5] ?_
     exact ⟨x4, rfl, rfl, h⟩
  ·rintro _ _ ⟨x3, rfl, rfl, h⟩
   rw [bosketref07_Mark_c0.eq_1] at h
   refine AW.sr ?_
   refine AO.c (Calm.move rfl rfl) ?_
   refine AO.c (Calm.assign rfl rfl) ?_
   refine AO.nK [4] ?_
   refine AW.rK [4] ?_
   have hr := Option.some.inj h
   subst hr
   exact ⟨[(eI64 x3)], ⟨rfl, rfl, trivial⟩, rfl⟩
end Go.Avl.T5
/- bosket/bosketref07.any; printed by avmain.py. -/
namespace Go.Avl.T5
open Go Go.RowKit Go.Proofs Go.Avl
set_option linter.unusedVariables false
set_option maxRecDepth 100000
set_option maxHeartbeats 4000000
attribute [local irreducible] AW AO AQ Spec SpecH Calm

def bosketref07_any_c0 (k : Nat) : Option Bool :=
  some (false)
def bosketref07_any_l1 (k : Nat) (p0 : (List Bool)) : Nat → Int → Option Bool
  | 0, _ => none
  | j + 1, x2 =>
    if x2 < (p0.length : Int) then if 0 ≤ x2 ∧ x2 < (p0.length : Int) then if (lget p0 x2) = true then some (true)
    else (bosketref07_any_l1 k p0 j) (w64 (x2 + (1 : Int)))
    else none
    else bosketref07_any_c0 k
def bosketref07_any (k : Nat) (p0 : (List Bool)) : Option Bool :=
  bosketref07_any_l1 k p0 k (0 : Int)
theorem bosketref07_any_spec {k : Nat} {p0 : (List Bool)} {r : Bool} (h : bosketref07_any k p0 = some r) : Spec Try.prog 55 [(.fz 1 (p0.map eBool))] (eBool r) := by
  rw [bosketref07_any.eq_1] at h
  refine Spec.intro (res := [.tmp 2]) Try.func55 rfl rfl rfl (Nat.le_of_ble_eq_true rfl) ?_
  refine AW.sr ?_
  refine AO.c (Calm.assign rfl rfl) ?_
  refine AO.nK [0] ?_
  refine AW.seq_mid (fun ρ H => ρ = [] ∧ H = [] ∧ bosketref07_any_c0 k = some r) ?_ ?_
  ·refine AW.sr ?_
   refine AO.c (Calm.assign rfl rfl) ?_
   refine AO.nK [0, 3] ?_
   refine AW.block ?_
   refine AW.wK [0, 3] ?_
   refine AW.loop (fun kq ρ H => ∃ (x2 : Int), ρ = [(0, (.fz 1 (p0.map eBool))), (3, (eI64 x2))] ∧ H = [] ∧ bosketref07_any_l1 k p0 kq x2 = some r) k ⟨(0 : Int), rfl, rfl, h⟩ ?_
   rintro kq4 _ _ ⟨x2, rfl, rfl, h⟩
   cases kq4 with
   | zero => rw [bosketref07_any_l1.eq_1] at h; cases h
   | succ kq4 =>
   rw [bosketref07_any_l1.eq_2] at h
   generalize hrec3 : bosketref07_any_l1 k p0 kq4 = rec3 at h
   refine AW.seq ?_
   refine AW.sr ?_
   refine AO.c (Calm.move rfl rfl) ?_
   refine AO.c (Calm.move rfl rfl) ?_
   refine AO.c (Calm.lenL rfl rfl Try.underlying49) ?_
   refine AO.c (x := eBool (decide (x2 < (p0.length : Int)))) (Calm.int rfl rfl rfl rfl) ?_
   refine AO.nK [0, 3, 7] ?_
   rcases of_ite h with ⟨hc5, h⟩ | ⟨hc5, h⟩
   ·refine AW.condP _ rfl hc5 ?_
    refine AW.sK [0, 3] ?_
    refine AW.seq ?_
    refine AW.block ?_
    refine AW.sr ?_
    refine AO.c (Calm.move rfl rfl) ?_
    refine AO.c (Calm.move rfl rfl) ?_
    obtain ⟨hg6, h⟩ := of_guard h
    refine AO.c (Calm.idxL (f := eBool) rfl rfl rfl hg6 Try.underlying49 sz4) ?_
    refine AO.c (Calm.loadRp rfl rfl ag4 sz4) ?_
    refine AO.nK [0, 3, 13] ?_
    rcases of_ite h with ⟨hc7, h⟩ | ⟨hc7, h⟩
    ·refine AW.condT' _ rfl hc7 ?_
     refine AW.sr ?_
     refine AO.c (Calm.assign rfl rfl) ?_
     refine AO.nK [2] ?_
     refine AW.rK [2] ?_
     have hr := Option.some.inj h
     subst hr
     exact ⟨[(eBool true)], ⟨rfl, rfl, trivial⟩, rfl⟩
    ·refine AW.condF' _ rfl hc7 ?_
     refine AW.sK [0, 3] ?_
     refine AW.reg ?_
     refine AO.c (Calm.move rfl rfl) ?_
     refine AO.c (x := eI64 (w64 (x2 + (1 : Int)))) (Calm.int rfl rfl rfl rfl) ?_
     refine AO.c (Calm.assign rfl rfl) ?_
     refine AO.nK [0, 3] ?_
     exact ⟨kq4, Nat.lt_succ_self _, (w64 (x2 + (1 : Int))), rfl, rfl, by rw [hrec3]; exact h⟩
   ·refine AW.condN _ rfl hc5 ?_
    refine AW.eK [] ?_
    exact ⟨rfl, rfl, h⟩
  ·rintro _ _ ⟨rfl, rfl, h⟩
   rw [bosketref07_any_c0.eq_1] at h
   refine AW.sr ?_
   refine AO.c (Calm.assign rfl rfl) ?_
   refine AO.nK [2] ?_
   refine AW.rK [2] ?_
   have hr := Option.some.inj h
   subst hr
   exact ⟨[(eBool false)], ⟨rfl, rfl, trivial⟩, rfl⟩
end Go.Avl.T5
/- bosket/subset.key; printed by avmain.py. -/
namespace Go.Avl.T5
open Go Go.RowKit Go.Proofs Go.Avl
set_option linter.unusedVariables false
set_option maxRecDepth 100000
set_option maxHeartbeats 4000000
attribute [local irreducible] AW AO AQ Spec SpecH Calm

def subset_key_c0 (k : Nat) (x4 : (List Int)) : Option ByteArray :=
  some ((strOfNums x4))
def subset_key_c1 (k : Nat) (rec7 : ((List Int) → Int → Option ByteArray)) (x6 : Int) (x10 : (List Int)) : Option ByteArray :=
  rec7 x10 (w64 (x6 + (1 : Int)))
def subset_key_l2 (k : Nat) (p0 : (List Bool)) : Nat → (List Int) → Int → Option ByteArray
  | 0, _, _ => none
  | j + 1, x5, x6 =>
    if x6 < (p0.length : Int) then if 0 ≤ x6 ∧ x6 < (p0.length : Int) then if (lget p0 x6) = true then if 0 ≤ (IntKind.i64.wrap (x6.tdiv (8 : Int))) ∧ (IntKind.i64.wrap (x6.tdiv (8 : Int))) < (x5.length : Int) then if 0 ≤ (u64 (x6.tmod (8 : Int))) then if 0 ≤ (IntKind.i64.wrap (x6.tdiv (8 : Int))) ∧ (IntKind.i64.wrap (x6.tdiv (8 : Int))) < (x5.length : Int) then subset_key_c1 k (subset_key_l2 k p0 j) x6 (lset x5 (IntKind.i64.wrap (x6.tdiv (8 : Int))) (bits .or .u8 (lget x5 (IntKind.i64.wrap (x6.tdiv (8 : Int)))) (IntKind.u8.wrap ((1 : Int) * 2 ^ (min (u64 (x6.tmod (8 : Int))).toNat IntKind.u8.bits)))))
    else none
    else none
    else none
    else subset_key_c1 k (subset_key_l2 k p0 j) x6 x5
    else none
    else subset_key_c0 k x5
def subset_key (k : Nat) (p0 : (List Bool)) : Option ByteArray :=
  if 0 ≤ (IntKind.i64.wrap ((w64 ((p0.length : Int) + (7 : Int))).tdiv (8 : Int))) ∧ (IntKind.i64.wrap ((w64 ((p0.length : Int) + (7 : Int))).tdiv (8 : Int))) * (1 : Int) ≤ 140737488355328 ∧ (IntKind.i64.wrap ((w64 ((p0.length : Int) + (7 : Int))).tdiv (8 : Int))) ≤ 9223372036854775807 then subset_key_l2 k p0 k (List.replicate (IntKind.i64.wrap ((w64 ((p0.length : Int) + (7 : Int))).tdiv (8 : Int))).toNat (0 : Int)) (0 : Int)
  else none
theorem subset_key_spec {k : Nat} {p0 : (List Bool)} {r : ByteArray} (h : subset_key k p0 = some r) : Spec Try.prog 80 [(.fz 1 (p0.map eBool))] (eStr r) := by
  rw [subset_key.eq_1] at h
  refine Spec.intro (res := [.tmp 2]) Try.func80 rfl rfl rfl (Nat.le_of_ble_eq_true rfl) ?_
  refine AW.sr ?_
  refine AO.c (Calm.assign rfl rfl) ?_
  refine AO.nK [0] ?_
  refine AW.sr ?_
  refine AO.c (Calm.move rfl rfl) ?_
  refine AO.c (Calm.lenL rfl rfl Try.underlying49) ?_
  refine AO.c (x := eI64 (w64 ((p0.length : Int) + (7 : Int)))) (Calm.int rfl rfl rfl rfl) ?_
  refine AO.c (x := eI64 (IntKind.i64.wrap ((w64 ((p0.length : Int) + (7 : Int))).tdiv (8 : Int)))) (Calm.quo rfl rfl rfl (by decide)) ?_
  obtain ⟨hg3, h⟩ := of_guard h
  refine AO.makeL (f := eU8) (0 : Int) rfl 10 rfl (by decide) rfl rfl rfl Try.underlying77 sz5 by5 zr5 lay5 rfl hg3 fun n2 => ?_
  refine AO.c (Calm.assign rfl rfl) ?_
  refine AO.nK [0, 3] ?_
  refine AW.seq_mid (fun ρ H => ∃ (x4 : (List Int)), ρ = [(3, (.own n2 0 x4.length))] ∧ H = [(n2, (.mem (.ar 1 (x4.map eU8))))] ∧ subset_key_c0 k x4 = some r) ?_ ?_
  ·refine AW.sr ?_
   refine AO.c (Calm.move rfl rfl) ?_
   refine AO.c (Calm.lenL rfl rfl Try.underlying49) ?_
   refine AO.c (Calm.move rfl rfl) ?_
   refine AO.nK [3, 11, 12, 13] ?_
   refine AW.block ?_
   refine AW.wK [3, 11, 12, 13] ?_
   refine AW.loop (fun kq ρ H => ∃ (x5 : (List Int)) (x6 : Int), ρ = [(3, (.own n2 0 x5.length)), (11, (.fz 1 (p0.map eBool))), (12, (eI64 (p0.length : Int))), (13, (eI64 x6))] ∧ H = [(n2, (.mem (.ar 1 (x5.map eU8))))] ∧ subset_key_l2 k p0 kq x5 x6 = some r) k ⟨(List.replicate (IntKind.i64.wrap ((w64 ((p0.length : Int) + (7 : Int))).tdiv (8 : Int))).toNat (0 : Int)), (0 : Int), rfl, rfl, h⟩ ?_
   rintro kq8 _ _ ⟨x5, x6, rfl, rfl, h⟩
   cases kq8 with
   | zero => rw [subset_key_l2.eq_1] at h; cases h
   | succ kq8 =>
   rw [subset_key_l2.eq_2] at h
   generalize hrec7 : subset_key_l2 k p0 kq8 = rec7 at h
   refine AW.sr ?_
   refine AO.c (x := eBool (decide (x6 < (p0.length : Int)))) (Calm.int rfl rfl rfl rfl) ?_
   refine AO.nK [3, 11, 12, 13, 14] ?_
   refine AW.seq ?_
   rcases of_ite h with ⟨hc9, h⟩ | ⟨hc9, h⟩
   ·refine AW.condP _ rfl hc9 ?_
    refine AW.sK [3, 11, 12, 13] ?_
    refine AW.seq_mid (fun ρ H => ∃ (x10 : (List Int)), ρ = [(3, (.own n2 0 x10.length)), (11, (.fz 1 (p0.map eBool))), (12, (eI64 (p0.length : Int))), (13, (eI64 x6))] ∧ H = [(n2, (.mem (.ar 1 (x10.map eU8))))] ∧ subset_key_c1 k rec7 x6 x10 = some r) ?_ ?_
    ·refine AW.block ?_
     refine AW.sr ?_
     refine AO.c (Calm.move rfl rfl) ?_
     obtain ⟨hg11, h⟩ := of_guard h
     refine AO.c (Calm.idxL (f := eBool) rfl rfl rfl hg11 Try.underlying49 sz4) ?_
     refine AO.c (Calm.loadRp rfl rfl ag4 sz4) ?_
     refine AO.c (Calm.assign rfl rfl) ?_
     refine AO.c (Calm.assign rfl rfl) ?_
     refine AO.nK [3, 4, 5, 11, 12, 13] ?_
     refine AW.sr ?_
     refine AO.c (Calm.move rfl rfl) ?_
     refine AO.nK [3, 4, 11, 12, 13, 18] ?_
     rcases of_ite h with ⟨hc12, h⟩ | ⟨hc12, h⟩
     ·refine AW.condT' _ rfl hc12 ?_
      refine AW.reg ?_
      refine AO.c (Calm.move rfl rfl) ?_
      refine AO.c (Calm.move rfl rfl) ?_
      refine AO.c (x := eI64 (IntKind.i64.wrap (x6.tdiv (8 : Int)))) (Calm.quo rfl rfl rfl (by decide)) ?_
      obtain ⟨hg13, h⟩ := of_guard h
      refine AO.c (Calm.idxO 0 rfl rfl rfl rfl hg13 Try.underlying77 sz5) ?_
      refine AO.c (Calm.load 0 rfl rfl rfl (At.cast (At.lidx (IntKind.i64.wrap (x6.tdiv (8 : Int))) hg13.1 hg13.2 At.here) (by omega)) ag5 sz5) ?_
      refine AO.c (Calm.move rfl rfl) ?_
      refine AO.c (x := eI64 (x6.tmod (8 : Int))) (Calm.rem rfl rfl rfl (by decide)) ?_
      refine AO.c (x := eU64 (u64 (x6.tmod (8 : Int)))) (Calm.conv rfl rfl Try.underlying3 Try.underlying132) ?_
      obtain ⟨hg14, h⟩ := of_guard h
      refine AO.c (x := eU8 (IntKind.u8.wrap ((1 : Int) * 2 ^ (min (u64 (x6.tmod (8 : Int))).toNat IntKind.u8.bits)))) (Calm.shl rfl rfl rfl hg14) ?_
      refine AO.c (x := eU8 (bits .or .u8 (lget x5 (IntKind.i64.wrap (x6.tdiv (8 : Int)))) (IntKind.u8.wrap ((1 : Int) * 2 ^ (min (u64 (x6.tmod (8 : Int))).toNat IntKind.u8.bits))))) (Calm.int rfl rfl rfl rfl) ?_
      obtain ⟨hg15, h⟩ := of_guard h
      refine AO.c (Calm.idxO 0 rfl rfl rfl rfl hg15 Try.underlying77 sz5) ?_
      refine AO.store (X' := (.ar 1 ((lset x5 (IntKind.i64.wrap (x6.tdiv (8 : Int))) (bits .or .u8 (lget x5 (IntKind.i64.wrap (x6.tdiv (8 : Int)))) (IntKind.u8.wrap ((1 : Int) * 2 ^ (min (u64 (x6.tmod (8 : Int))).toNat IntKind.u8.bits))))).map eU8))) 0 rfl rfl rfl rfl rfl rfl (Put.cast (Put.lidx (IntKind.i64.wrap (x6.tdiv (8 : Int))) (bits .or .u8 (lget x5 (IntKind.i64.wrap (x6.tdiv (8 : Int)))) (IntKind.u8.wrap ((1 : Int) * 2 ^ (min (u64 (x6.tmod (8 : Int))).toNat IntKind.u8.bits)))) hg15.1 hg15.2 Put.here) (by omega)) rfl rfl sz5 rfl ?_
      refine AO.coe 3 (y' := (.own n2 0 (lset x5 (IntKind.i64.wrap (x6.tdiv (8 : Int))) (bits .or .u8 (lget x5 (IntKind.i64.wrap (x6.tdiv (8 : Int)))) (IntKind.u8.wrap ((1 : Int) * 2 ^ (min (u64 (x6.tmod (8 : Int))).toNat IntKind.u8.bits))))).length)) rfl (fun _ _ h => lset_own h) ?_
      refine AO.coe 19 (y' := (.own n2 0 (lset x5 (IntKind.i64.wrap (x6.tdiv (8 : Int))) (bits .or .u8 (lget x5 (IntKind.i64.wrap (x6.tdiv (8 : Int)))) (IntKind.u8.wrap ((1 : Int) * 2 ^ (min (u64 (x6.tmod (8 : Int))).toNat IntKind.u8.bits))))).length)) rfl (fun _ _ h => lset_own h) ?_
      refine AO.nK [3, 11, 12, 13] ?_
      exact ⟨(lset x5 (IntKind.i64.wrap (x6.tdiv (8 : Int))) (bits .or .u8 (lget x5 (IntKind.i64.wrap (x6.tdiv (8 : Int)))) (IntKind.u8.wrap ((1 : Int) * 2 ^ (min (u64 (x6.tmod (8 : Int))).toNat IntKind.u8.bits))))), rfl, rfl, h⟩
     ·refine AW.condF' _ rfl hc12 ?_
      refine AW.sK [3, 11, 12, 13] ?_
      exact ⟨x5, rfl, rfl, h⟩
    ·rintro _ _ ⟨x10, rfl, rfl, h⟩
     rw [subset_key_c1.eq_1] at h
     refine AW.reg ?_
     refine AO.c (x := eI64 (w64 (x6 + (1 : Int)))) (Calm.int rfl rfl rfl rfl) ?_
     refine AO.c (Calm.move rfl rfl) ?_
     refine AO.nK [3, 11, 12, 13] ?_
     exact ⟨kq8, Nat.lt_succ_self _, x10, (w64 (x6 + (1 : Int))), rfl, rfl, by rw [hrec7]; exact h⟩
   ·refine AW.condN _ rfl hc9 ?_
    refine AW.eK [3] ?_
    exact ⟨x5, rfl, rfl, h⟩
  ·rintro _ _ ⟨x4, rfl, rfl, h⟩
   rw [subset_key_c0.eq_1] at h
   refine AW.sr ?_
   refine AO.c (Calm.move rfl rfl) ?_
   refine AO.c (x := eStr (strOfNums x4)) (Calm.strO 0 rfl rfl rfl Try.underlying77 Try.underlying9 Try.underlying5) ?_
   refine AO.c (Calm.assign rfl rfl) ?_
   refine AO.nH [2] (H' := []) (Sub.nil _) ?_
   refine AW.rK [2] ?_
   have hr := Option.some.inj h
   subst hr
   exact ⟨[(eStr (strOfNums x4))], ⟨rfl, rfl, trivial⟩, rfl⟩
end Go.Avl.T5
/- bosket/subset.markOf; printed by avmain.py. -/
namespace Go.Avl.T5
open Go Go.RowKit Go.Proofs Go.Avl
set_option linter.unusedVariables false
set_option maxRecDepth 100000
set_option maxHeartbeats 4000000
attribute [local irreducible] AW AO AQ Spec SpecH Calm

def subset_markOf (k : Nat) (p0 : (List Int)) (p1 : Int) : Option Int :=
  if (p0.length : Int) ≤ p1 then some ((-1 : Int))
  else if 0 ≤ p1 ∧ p1 < (p0.length : Int) then some ((lget p0 p1))
  else none
theorem subset_markOf_spec {k : Nat} {p0 : (List Int)} {p1 : Int} {r : Int} (h : subset_markOf k p0 p1 = some r) : Spec Try.prog 100 [(.fz 1 (p0.map eI64)), (eI64 p1)] (eI64 r) := by
  rw [subset_markOf.eq_1] at h
  refine Spec.intro (res := [.tmp 4]) Try.func100 rfl rfl rfl (Nat.le_of_ble_eq_true rfl) ?_
  refine AW.sr ?_
  refine AO.c (Calm.assign rfl rfl) ?_
  refine AO.nK [0, 1] ?_
  refine AW.seq ?_
  refine AW.sr ?_
  refine AO.c (Calm.move rfl rfl) ?_
  refine AO.c (Calm.move rfl rfl) ?_
  refine AO.c (Calm.lenL rfl rfl Try.underlying25) ?_
  refine AO.c (x := eBool (decide ((p0.length : Int) ≤ p1))) (Calm.int rfl rfl rfl rfl) ?_
  refine AO.nK [0, 1, 8] ?_
  rcases of_ite h with ⟨hc3, h⟩ | ⟨hc3, h⟩
  ·refine AW.condP _ rfl hc3 ?_
   refine AW.sr ?_
   refine AO.c (Calm.assign rfl rfl) ?_
   refine AO.nK [4] ?_
   refine AW.rK [4] ?_
   have hr := Option.some.inj h
   subst hr
   exact ⟨[(eI64 (-1 : Int))], ⟨rfl, rfl, trivial⟩, rfl⟩
  ·refine AW.condN _ rfl hc3 ?_
   refine AW.sK [0, 1] ?_
   refine AW.sr ?_
   refine AO.c (Calm.move rfl rfl) ?_
   refine AO.c (Calm.move rfl rfl) ?_
   obtain ⟨hg4, h⟩ := of_guard h
   refine AO.c (Calm.idxL (f := eI64) rfl rfl rfl hg4 Try.underlying25 sz3) ?_
   refine AO.c (Calm.loadRp rfl rfl ag3 sz3) ?_
   refine AO.c (Calm.assign rfl rfl) ?_
   refine AO.nK [4] ?_
   refine AW.rK [4] ?_
   have hr := Option.some.inj h
   subst hr
   exact ⟨[(eI64 (lget p0 p1))], ⟨rfl, rfl, trivial⟩, rfl⟩
end Go.Avl.T5
/- (*bosket/subset.builder).mark; printed by avmain.py. -/
namespace Go.Avl.T5
open Go Go.RowKit Go.Proofs Go.Avl
set_option linter.unusedVariables false
set_option maxRecDepth 100000
set_option maxHeartbeats 4000000
attribute [local irreducible] AW AO AQ Spec SpecH Calm

def subset_builder_mark_c0 (k : Nat) (x3 : Int) : Option Int :=
  some (x3)
def subset_builder_mark_c1 (k : Nat) (rec6 : (Int → Int → Option Int)) (x5 : Int) (x9 : Int) : Option Int :=
  rec6 x9 (w64 (x5 + (1 : Int)))
def subset_builder_mark_l2 (k : Nat) (p0 : S80) (p1 : (List Bool)) : Nat → Int → Int → Option Int
  | 0, _, _ => none
  | j + 1, x4, x5 =>
    if x5 < (p1.length : Int) then if 0 ≤ x5 ∧ x5 < (p1.length : Int) then (subset_markOf k p0.f1 x5).bind fun t11 =>
    Option.bind (α := Bool) (if (lget p1 x5) = true then if (0 : Int) ≤ t11 then if x4 < (0 : Int) then some (true)
    else some (decide (t11 < x4))
    else some (false)
    else some (false)) fun b12 =>
    if b12 = true then subset_builder_mark_c1 k (subset_builder_mark_l2 k p0 p1 j) x5 t11
    else subset_builder_mark_c1 k (subset_builder_mark_l2 k p0 p1 j) x5 x4
    else none
    else subset_builder_mark_c0 k x4
def subset_builder_mark (k : Nat) (p0 : S80) (p1 : (List Bool)) : Option Int :=
  subset_builder_mark_l2 k p0 p1 k (-1 : Int) (0 : Int)
theorem subset_builder_mark_spec {k : Nat} {p0 : S80} {p1 : (List Bool)} {r : Int} (h : subset_builder_mark k p0 p1 = some r) {q0 : Nat} {q0_0 : Nat} {q0_1 : Nat} {q0_2 : Nat} {q0_3 : Nat} {T0 : Heap} : SpecH Try.prog 81 [(.ptr q0 0), (.fz 1 (p1.map eBool))] ((q0, (.mem (.st [(4, (e24 p0.f0)), (1, (.fz 1 (p0.f1.map eI64))), (1, (.fz 1 (p0.f2.map eU8))), (1, (.mp q0_0)), (1, (.own q0_1 0 p0.f4.length)), (258, (.st [(256, (.ar 1 (p0.f5.f0.toList.map eU8))), (1, (.own q0_2 0 p0.f5.f1.length)), (1, (.own q0_3 0 p0.f5.f2.length))]))]))) :: (q0_0, (.map (encM Value.string eI64 p0.f3))) :: (q0_1, (.mem (.ar 1 (p0.f4.map e49)))) :: (q0_2, (.mem (.ar 1 (p0.f5.f1.map e25)))) :: (q0_3, (.mem (.ar 1 (p0.f5.f2.map eI64)))) :: T0) (fun x H' => x = eI64 r ∧ Sub ((q0, (.mem (.st [(4, (e24 p0.f0)), (1, (.fz 1 (p0.f1.map eI64))), (1, (.fz 1 (p0.f2.map eU8))), (1, (.mp q0_0)), (1, (.own q0_1 0 p0.f4.length)), (258, (.st [(256, (.ar 1 (p0.f5.f0.toList.map eU8))), (1, (.own q0_2 0 p0.f5.f1.length)), (1, (.own q0_3 0 p0.f5.f2.length))]))]))) :: (q0_0, (.map (encM Value.string eI64 p0.f3))) :: (q0_1, (.mem (.ar 1 (p0.f4.map e49)))) :: (q0_2, (.mem (.ar 1 (p0.f5.f1.map e25)))) :: (q0_3, (.mem (.ar 1 (p0.f5.f2.map eI64)))) :: T0) H') := by
  rw [subset_builder_mark.eq_1] at h
  refine SpecH.intro (res := [.tmp 4]) Try.func81 rfl rfl rfl (Nat.le_of_ble_eq_true rfl) ?_
  refine AW.sr ?_
  refine AO.c (Calm.assign rfl rfl) ?_
  refine AO.nK [0, 1] ?_
  refine AW.sr ?_
  refine AO.c (Calm.assign rfl rfl) ?_
  refine AO.nK [0, 1, 5] ?_
  refine AW.seq_mid (fun ρ H => ∃ (x3 : Int), ρ = [(5, (eI64 x3))] ∧ H = ((q0, (.mem (.st [(4, (e24 p0.f0)), (1, (.fz 1 (p0.f1.map eI64))), (1, (.fz 1 (p0.f2.map eU8))), (1, (.mp q0_0)), (1, (.own q0_1 0 p0.f4.length)), (258, (.st [(256, (.ar 1 (p0.f5.f0.toList.map eU8))), (1, (.own q0_2 0 p0.f5.f1.length)), (1, (.own q0_3 0 p0.f5.f2.length))]))]))) :: (q0_0, (.map (encM Value.string eI64 p0.f3))) :: (q0_1, (.mem (.ar 1 (p0.f4.map e49)))) :: (q0_2, (.mem (.ar 1 (p0.f5.f1.map e25)))) :: (q0_3, (.mem (.ar 1 (p0.f5.f2.map eI64)))) :: T0) ∧ subset_builder_mark_c0 k x3 = some r) ?_ ?_
  ·refine AW.sr ?_
   refine AO.c (Calm.move rfl rfl) ?_
   refine AO.c (Calm.lenL rfl rfl Try.underlying49) ?_
   refine AO.c (Calm.move rfl rfl) ?_
   refine AO.nK [0, 5, 9, 10, 11] ?_
   refine AW.block ?_
   refine AW.wK [0, 5, 9, 10, 11] ?_
   refine AW.loop (fun kq ρ H => ∃ (x4 : Int) (x5 : Int), ρ = [(0, (.ptr q0 0)), (5, (eI64 x4)), (9, (.fz 1 (p1.map eBool))), (10, (eI64 (p1.length : Int))), (11, (eI64 x5))] ∧ H = ((q0, (.mem (.st [(4, (e24 p0.f0)), (1, (.fz 1 (p0.f1.map eI64))), (1, (.fz 1 (p0.f2.map eU8))), (1, (.mp q0_0)), (1, (.own q0_1 0 p0.f4.length)), (258, (.st [(256, (.ar 1 (p0.f5.f0.toList.map eU8))), (1, (.own q0_2 0 p0.f5.f1.length)), (1, (.own q0_3 0 p0.f5.f2.length))]))]))) :: (q0_0, (.map (encM Value.string eI64 p0.f3))) :: (q0_1, (.mem (.ar 1 (p0.f4.map e49)))) :: (q0_2, (.mem (.ar 1 (p0.f5.f1.map e25)))) :: (q0_3, (.mem (.ar 1 (p0.f5.f2.map eI64)))) :: T0) ∧ subset_builder_mark_l2 k p0 p1 kq x4 x5 = some r) k ⟨(-1 : Int), (0 : Int), rfl, rfl, h⟩ ?_
   rintro kq7 _ _ ⟨x4, x5, rfl, rfl, h⟩
   cases kq7 with
   | zero => rw [subset_builder_mark_l2.eq_1] at h; cases h
   | succ kq7 =>
   rw [subset_builder_mark_l2.eq_2] at h
   generalize hrec6 : subset_builder_mark_l2 k p0 p1 kq7 = rec6 at h
   refine AW.sr ?_
   refine AO.c (x := eBool (decide (x5 < (p1.length : Int)))) (Calm.int rfl rfl rfl rfl) ?_
   refine AO.nK [0, 5, 9, 10, 11, 12] ?_
   refine AW.seq ?_
   rcases of_ite h with ⟨hc8, h⟩ | ⟨hc8, h⟩
   ·refine AW.condP _ rfl hc8 ?_
    refine AW.sK [0, 5, 9, 10, 11] ?_
    refine AW.seq_mid (fun ρ H => ∃ (x9 : Int), ρ = [(0, (.ptr q0 0)), (5, (eI64 x9)), (9, (.fz 1 (p1.map eBool))), (10, (eI64 (p1.length : Int))), (11, (eI64 x5))] ∧ H = ((q0, (.mem (.st [(4, (e24 p0.f0)), (1, (.fz 1 (p0.f1.map eI64))), (1, (.fz 1 (p0.f2.map eU8))), (1, (.mp q0_0)), (1, (.own q0_1 0 p0.f4.length)), (258, (.st [(256, (.ar 1 (p0.f5.f0.toList.map eU8))), (1, (.own q0_2 0 p0.f5.f1.length)), (1, (.own q0_3 0 p0.f5.f2.length))]))]))) :: (q0_0, (.map (encM Value.string eI64 p0.f3))) :: (q0_1, (.mem (.ar 1 (p0.f4.map e49)))) :: (q0_2, (.mem (.ar 1 (p0.f5.f1.map e25)))) :: (q0_3, (.mem (.ar 1 (p0.f5.f2.map eI64)))) :: T0) ∧ subset_builder_mark_c1 k rec6 x5 x9 = some r) ?_ ?_
    ·refine AW.block ?_
     refine AW.sr ?_
     refine AO.c (Calm.move rfl rfl) ?_
     obtain ⟨hg10, h⟩ := of_guard h
     refine AO.c (Calm.idxL (f := eBool) rfl rfl rfl hg10 Try.underlying49 sz4) ?_
     refine AO.c (Calm.loadRp rfl rfl ag4 sz4) ?_
     refine AO.c (Calm.assign rfl rfl) ?_
     refine AO.c (Calm.assign rfl rfl) ?_
     refine AO.nK [0, 5, 6, 7, 9, 10, 11] ?_
     refine AW.sr ?_
     refine AO.c (Calm.move rfl rfl) ?_
     refine AO.c (Calm.nilCheck rfl rfl) ?_
     refine AO.c (x := .ptr q0 4) (Calm.fldPtr rfl rfl Try.underlying80 rfl sz25 _ rfl) ?_
     refine AO.c (Calm.load 0 rfl rfl rfl (At.cast (At.fldS (At.fld0 At.here)) rfl) ag25 sz25) ?_
     refine AO.c (Calm.move rfl rfl) ?_
     obtain ⟨t11, et11, h⟩ := of_bind h
     refine AO.callS [(.fz 1 (p0.f1.map eI64)), (eI64 x5)] (eI64 t11) 21 rfl (by decide) ok100 rfl rfl rfl ⟨rfl, rfl, rfl, rfl, trivial⟩ (subset_markOf_spec et11) ?_
     refine AO.c (Calm.assign rfl rfl) ?_
     refine AO.nK [0, 5, 7, 8, 9, 10, 11] ?_
     refine AW.seq ?_
     obtain ⟨b12, hq13, h⟩ := of_bind h
     refine AW.regM [(0, (.ptr q0 0)), (5, (eI64 x4)), (8, (eI64 t11)), (9, (.fz 1 (p1.map eBool))), (10, (eI64 (p1.length : Int))), (11, (eI64 x5)), (35, (eBool b12))] ((q0, (.mem (.st [(4, (e24 p0.f0)), (1, (.fz 1 (p0.f1.map eI64))), (1, (.fz 1 (p0.f2.map eU8))), (1, (.mp q0_0)), (1, (.own q0_1 0 p0.f4.length)), (258, (.st [(256, (.ar 1 (p0.f5.f0.toList.map eU8))), (1, (.own q0_2 0 p0.f5.f1.length)), (1, (.own q0_3 0 p0.f5.f2.length))]))]))) :: (q0_0, (.map (encM Value.string eI64 p0.f3))) :: (q0_1, (.mem (.ar 1 (p0.f4.map e49)))) :: (q0_2, (.mem (.ar 1 (p0.f5.f1.map e25)))) :: (q0_3, (.mem (.ar 1 (p0.f5.f2.map eI64)))) :: T0) ?_ ?_
     ·refine AO.c (Calm.move rfl rfl) ?_
      refine AO.c (Calm.move rfl rfl) ?_
      rcases of_ite hq13 with ⟨hc14, hq13⟩ | ⟨hc14, hq13⟩
      ·refine AO.cG rfl rfl (bD hc14) (Calm.move rfl rfl) ?_
       refine AO.cG (x := eBool (decide ((0 : Int) ≤ t11))) rfl rfl (bD hc14) (Calm.int rfl rfl rfl rfl) ?_
       refine AO.c (Calm.pickT rfl (bD hc14) rfl) ?_
       refine AO.c (Calm.move rfl rfl) ?_
       rcases of_ite hq13 with ⟨hc15, hq13⟩ | ⟨hc15, hq13⟩
       ·refine AO.cG rfl rfl (bD (decide_eq_true hc15)) (Calm.move rfl rfl) ?_
        refine AO.cG (x := eBool (decide (x4 < (0 : Int)))) rfl rfl (bD (decide_eq_true hc15)) (Calm.int rfl rfl rfl rfl) ?_
        refine AO.cG rfl rfl (bD (decide_eq_true hc15)) (Calm.move rfl rfl) ?_
        rcases of_ite hq13 with ⟨hc16, hq13⟩ | ⟨hc16, hq13⟩
        ·refine AO.sF rfl rfl (bD (decide_eq_true hc16)) ?_
         refine AO.sF rfl rfl (bD (decide_eq_true hc16)) ?_
         refine AO.sF rfl rfl (bD (decide_eq_true hc16)) ?_
         refine AO.cG rfl rfl (bD (decide_eq_true hc15)) (Calm.pickT rfl (bD (decide_eq_true hc16)) rfl) ?_
         refine AO.c (Calm.pickT rfl (bD (decide_eq_true hc15)) rfl) ?_
         cases hq13
         refine AO.nilE ⟨rfl, rfl⟩ ?_ ?_
         · exact ⟨rfl, rfl, rfl, rfl, rfl, rfl, rfl, trivial⟩
         · exact (Sub.refl _)
        ·refine AO.cG rfl rfl (bD (decide_eq_false hc16)) (Calm.move rfl rfl) ?_
         refine AO.cG rfl rfl (bD (decide_eq_false hc16)) (Calm.move rfl rfl) ?_
         refine AO.cG (x := eBool (decide (t11 < x4))) rfl rfl (bD (decide_eq_false hc16)) (Calm.int rfl rfl rfl rfl) ?_
         refine AO.cG rfl rfl (bD (decide_eq_true hc15)) (Calm.pickF rfl (bD (decide_eq_false hc16)) rfl) ?_
         refine AO.c (Calm.pickT rfl (bD (decide_eq_true hc15)) rfl) ?_
         cases hq13
         refine AO.nilE ⟨rfl, rfl⟩ ?_ ?_
         · exact ⟨rfl, rfl, rfl, rfl, rfl, rfl, rfl, trivial⟩
         · exact (Sub.refl _)
       ·refine AO.sT rfl rfl (bD (decide_eq_false hc15)) ?_
        refine AO.sT rfl rfl (bD (decide_eq_false hc15)) ?_
        refine AO.sT rfl rfl (bD (decide_eq_false hc15)) ?_
        refine AO.sU rfl rfl rfl ?_
        refine AO.sU rfl rfl rfl ?_
        refine AO.sU rfl rfl rfl ?_
        refine AO.sT rfl rfl (bD (decide_eq_false hc15)) ?_
        refine AO.c (Calm.pickF rfl (bD (decide_eq_false hc15)) rfl) ?_
        cases hq13
        refine AO.nilE ⟨rfl, rfl⟩ ?_ ?_
        · exact ⟨rfl, rfl, rfl, rfl, rfl, rfl, rfl, trivial⟩
        · exact (Sub.refl _)
      ·refine AO.sT rfl rfl (bD (eq_false_of_ne_true hc14)) ?_
       refine AO.sT rfl rfl (bD (eq_false_of_ne_true hc14)) ?_
       refine AO.c (Calm.pickF rfl (bD (eq_false_of_ne_true hc14)) rfl) ?_
       refine AO.c (Calm.move rfl rfl) ?_
       refine AO.sT rfl rfl rfl ?_
       refine AO.sT rfl rfl rfl ?_
       refine AO.sT rfl rfl rfl ?_
       refine AO.sU rfl rfl rfl ?_
       refine AO.sU rfl rfl rfl ?_
       refine AO.sU rfl rfl rfl ?_
       refine AO.sT rfl rfl rfl ?_
       refine AO.c (Calm.pickF rfl rfl rfl) ?_
       cases hq13
       refine AO.nilE ⟨rfl, rfl⟩ ?_ ?_
       · exact ⟨rfl, rfl, rfl, rfl, rfl, rfl, rfl, trivial⟩
       · exact (Sub.refl _)
     ·rcases of_ite h with ⟨hc17, h⟩ | ⟨hc17, h⟩
      ·refine AW.condT' _ rfl hc17 ?_
       refine AW.reg ?_
       refine AO.c (Calm.move rfl rfl) ?_
       refine AO.c (Calm.assign rfl rfl) ?_
       refine AO.nK [0, 5, 9, 10, 11] ?_
       exact ⟨t11, rfl, rfl, h⟩
      ·refine AW.condF' _ rfl hc17 ?_
       refine AW.sK [0, 5, 9, 10, 11] ?_
       exact ⟨x4, rfl, rfl, h⟩
    ·rintro _ _ ⟨x9, rfl, rfl, h⟩
     rw [subset_builder_mark_c1.eq_1] at h
     refine AW.reg ?_
     refine AO.c (x := eI64 (w64 (x5 + (1 : Int)))) (Calm.int rfl rfl rfl rfl) ?_
     refine AO.c (Calm.move rfl rfl) ?_
     refine AO.nK [0, 5, 9, 10, 11] ?_
     exact ⟨kq7, Nat.lt_succ_self _, x9, (w64 (x5 + (1 : Int))), rfl, rfl, by rw [hrec6]; exact h⟩
   ·refine AW.condN _ rfl hc8 ?_
    refine AW.eK [5] ?_
    exact ⟨x4, rfl, rfl, h⟩
  ·rintro _ _ ⟨x3, rfl, rfl, h⟩
   rw [subset_builder_mark_c0.eq_1] at h
   refine AW.sr ?_
   refine AO.c (Calm.move rfl rfl) ?_
   refine AO.c (Calm.assign rfl rfl) ?_
   refine AO.nK [4] ?_
   refine AW.rK [4] ?_
   have hr := Option.some.inj h
   subst hr
   exact ⟨[(eI64 x3)], ⟨rfl, rfl, trivial⟩, rfl, (Sub.cons 0 rfl (Sub.cons 0 rfl (Sub.cons 0 rfl (Sub.cons 0 rfl (Sub.cons 0 rfl (Sub.refl _))))))⟩
end Go.Avl.T5
