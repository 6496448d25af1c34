/- Parts: T3f54, T3f55, T3f29. -/
import Derived.Test.YtcdennkoccjacaaAF1
/- slices.Equal[[]int,int]; printed by avmain.py. -/
namespace Go.Avl.T3
open Go Go.RowKit Go.Proofs Go.Avl
set_option linter.unusedVariables false
set_option maxRecDepth 100000
set_option maxHeartbeats 4000000
attribute [local irreducible] AW AO AQ Spec SpecH Calm

def slices_Equal_int_int__c0 (k : Nat) : Option Bool :=
  some (true)
def slices_Equal_int_int__l1 (k : Nat) (p0 : (List Int)) (p1 : (List Int)) : Nat → Int → Option Bool
  | 0, _ => none
  | j + 1, x4 =>
    if x4 < (p0.length : Int) then if 0 ≤ x4 ∧ x4 < (p0.length : Int) then if 0 ≤ x4 ∧ x4 < (p1.length : Int) then if (lget p0 x4) ≠ (lget p1 x4) then some (false)
    else (slices_Equal_int_int__l1 k p0 p1 j) (w64 (x4 + (1 : Int)))
    else none
    else none
    else slices_Equal_int_int__c0 k
def slices_Equal_int_int_ (k : Nat) (p0 : (List Int)) (p1 : (List Int)) : Option Bool :=
  if (p0.length : Int) ≠ (p1.length : Int) then some (false)
  else slices_Equal_int_int__l1 k p0 p1 k (0 : Int)
theorem slices_Equal_int_int__spec {k : Nat} {p0 : (List Int)} {p1 : (List Int)} {r : Bool} (h : slices_Equal_int_int_ k p0 p1 = some r) : Spec Try.prog 54 [(.fz 1 (p0.map eI64)), (.fz 1 (p1.map eI64))] (eBool r) := by
  rw [slices_Equal_int_int_.eq_1] at h
  refine Spec.intro (res := [.tmp 4]) Try.func54 rfl rfl rfl (Nat.le_of_ble_eq_true rfl) ?_
  refine AW.seq ?_
  refine AW.reg ?_
  refine AO.calm rfl 4 rfl (by decide) (eBool false) (Calm.assign rfl rfl) ?_
  refine AO.nil (ρ' := [(0, (.fz 1 (p0.map eI64))), (1, (.fz 1 (p1.map eI64)))]) (H' := []) ⟨rfl, rfl, trivial⟩ (Sub.refl _) ?_
  refine AW.seq ?_
  refine AW.seq ?_
  refine AW.reg ?_
  refine AO.calm rfl 6 rfl (by decide) (.fz 1 (p0.map eI64)) (Calm.move rfl rfl) ?_
  refine AO.calm rfl 7 rfl (by decide) (eI64 (p0.length : Int)) (Calm.lenL rfl rfl Try.underlying43) ?_
  refine AO.calm rfl 8 rfl (by decide) (.fz 1 (p1.map eI64)) (Calm.move rfl rfl) ?_
  refine AO.calm rfl 9 rfl (by decide) (eI64 (p1.length : Int)) (Calm.lenL rfl rfl Try.underlying43) ?_
  refine AO.calm rfl 10 rfl (by decide) (eBool (decide ((p0.length : Int) ≠ (p1.length : Int)))) (Calm.int rfl rfl rfl rfl) ?_
  refine AO.nil (ρ' := [(0, (.fz 1 (p0.map eI64))), (1, (.fz 1 (p1.map eI64))), (10, (eBool (decide ((p0.length : Int) ≠ (p1.length : Int)))))]) (H' := []) ⟨rfl, rfl, rfl, trivial⟩ (Sub.refl _) ?_
  by_cases hc3 : (p0.length : Int) ≠ (p1.length : Int)
  · have h := (if_pos hc3).symm.trans h
    refine AW.condP ((p0.length : Int) ≠ (p1.length : Int)) rfl hc3 ?_
    refine AW.seq ?_
    refine AW.reg ?_
    refine AO.calm rfl 4 rfl (by decide) (eBool false) (Calm.assign rfl rfl) ?_
    refine AO.nil (ρ' := [(4, (eBool false))]) (H' := []) ⟨rfl, trivial⟩ (Sub.refl _) ?_
    refine AW.ret (ρ' := [(4, (eBool false))]) (H' := []) ⟨rfl, trivial⟩ (Sub.refl _) ?_
    have hr := Option.some.inj h
    subst hr
    exact ⟨[(eBool false)], ⟨rfl, rfl, trivial⟩, rfl⟩
  · have h := (if_neg hc3).symm.trans h
    refine AW.condN ((p0.length : Int) ≠ (p1.length : Int)) rfl hc3 ?_
    refine AW.skip (ρ' := [(0, (.fz 1 (p0.map eI64))), (1, (.fz 1 (p1.map eI64)))]) (H' := []) ⟨rfl, rfl, trivial⟩ (Sub.refl _) ?_
    refine AW.seq_mid (fun ρ H => ρ = [] ∧ H = [] ∧ slices_Equal_int_int__c0 k = some r) ?_ ?_
    · refine AW.seq ?_
      refine AW.reg ?_
      refine AO.calm rfl 11 rfl (by decide) (.fz 1 (p0.map eI64)) (Calm.move rfl rfl) ?_
      refine AO.calm rfl 12 rfl (by decide) (eI64 (p0.length : Int)) (Calm.lenL rfl rfl Try.underlying43) ?_
      refine AO.calm rfl 13 rfl (by decide) (eI64 (0 : Int)) (Calm.move rfl rfl) ?_
      refine AO.nil (ρ' := [(0, (.fz 1 (p0.map eI64))), (1, (.fz 1 (p1.map eI64))), (12, (eI64 (p0.length : Int))), (13, (eI64 (0 : Int)))]) (H' := []) ⟨rfl, rfl, rfl, rfl, trivial⟩ (Sub.refl _) ?_
      refine AW.block ?_
      refine AW.weak (ρ' := [(0, (.fz 1 (p0.map eI64))), (1, (.fz 1 (p1.map eI64))), (12, (eI64 (p0.length : Int))), (13, (eI64 (0 : Int)))]) (H' := []) ⟨rfl, rfl, rfl, rfl, trivial⟩ (Sub.refl _) ?_
      refine AW.loop (fun kq ρ H => ∃ (x4 : Int), ρ = [(0, (.fz 1 (p0.map eI64))), (1, (.fz 1 (p1.map eI64))), (12, (eI64 (p0.length : Int))), (13, (eI64 x4))] ∧ H = [] ∧ slices_Equal_int_int__l1 k p0 p1 kq x4 = some r) k ⟨(0 : Int), rfl, rfl, h⟩ ?_
      rintro kq6 _ _ ⟨x4, rfl, rfl, h⟩
      cases kq6 with
      | zero => rw [slices_Equal_int_int__l1.eq_1] at h; cases h
      | succ kq6 =>
      rw [slices_Equal_int_int__l1.eq_2] at h
      generalize hrec5 : slices_Equal_int_int__l1 k p0 p1 kq6 = rec5 at h
      refine AW.seq ?_
      refine AW.reg ?_
      refine AO.calm rfl 14 rfl (by decide) (eBool (decide (x4 < (p0.length : Int)))) (Calm.int rfl rfl rfl rfl) ?_
      refine AO.nil (ρ' := [(0, (.fz 1 (p0.map eI64))), (1, (.fz 1 (p1.map eI64))), (12, (eI64 (p0.length : Int))), (13, (eI64 x4)), (14, (eBool (decide (x4 < (p0.length : Int)))))]) (H' := []) ⟨rfl, rfl, rfl, rfl, rfl, trivial⟩ (Sub.refl _) ?_
      refine AW.seq ?_
      by_cases hc7 : x4 < (p0.length : Int)
      · have h := (if_pos hc7).symm.trans h
        refine AW.condP (x4 < (p0.length : Int)) rfl hc7 ?_
        refine AW.skip (ρ' := [(0, (.fz 1 (p0.map eI64))), (1, (.fz 1 (p1.map eI64))), (12, (eI64 (p0.length : Int))), (13, (eI64 x4))]) (H' := []) ⟨rfl, rfl, rfl, rfl, trivial⟩ (Sub.refl _) ?_
        refine AW.seq ?_
        refine AW.block ?_
        refine AW.seq ?_
        refine AW.reg ?_
        refine AO.calm rfl 15 rfl (by decide) (eI64 x4) (Calm.move rfl rfl) ?_
        refine AO.calm rfl 5 rfl (by decide) (eI64 x4) (Calm.assign rfl rfl) ?_
        refine AO.nil (ρ' := [(0, (.fz 1 (p0.map eI64))), (1, (.fz 1 (p1.map eI64))), (5, (eI64 x4)), (12, (eI64 (p0.length : Int))), (13, (eI64 x4))]) (H' := []) ⟨rfl, rfl, rfl, rfl, rfl, trivial⟩ (Sub.refl _) ?_
        refine AW.seq ?_
        refine AW.regQ (by rfl) (by decide +kernel) ?_
        refine AQ.calm rfl 16 rfl (by decide) (.fz 1 (p0.map eI64)) (Calm.move rfl rfl) ?_
        refine AQ.calm rfl 17 rfl (by decide) (eI64 x4) (Calm.move rfl rfl) ?_
        obtain ⟨hg8, h⟩ := of_guard h
        refine AQ.calm rfl 18 rfl (by decide) (.rp (eI64 (lget p0 x4))) (Calm.idxL (f := eI64) rfl rfl rfl hg8 Try.underlying43 sz3) ?_
        refine AQ.calm rfl 19 rfl (by decide) (eI64 (lget p0 x4)) (Calm.loadRp rfl rfl ag3 sz3) ?_
        refine AQ.calm rfl 20 rfl (by decide) (.fz 1 (p1.map eI64)) (Calm.move rfl rfl) ?_
        refine AQ.calm rfl 21 rfl (by decide) (eI64 x4) (Calm.move rfl rfl) ?_
        obtain ⟨hg9, h⟩ := of_guard h
        refine AQ.calm rfl 22 rfl (by decide) (.rp (eI64 (lget p1 x4))) (Calm.idxL (f := eI64) rfl rfl rfl hg9 Try.underlying43 sz3) ?_
        refine AQ.calm rfl 23 rfl (by decide) (eI64 (lget p1 x4)) (Calm.loadRp rfl rfl ag3 sz3) ?_
        refine AQ.calm rfl 24 rfl (by decide) (eBool (decide ((lget p0 x4) ≠ (lget p1 x4)))) (Calm.int rfl rfl rfl rfl) ?_
        refine AQ.nil (ρ' := [(0, (.fz 1 (p0.map eI64))), (1, (.fz 1 (p1.map eI64))), (12, (eI64 (p0.length : Int))), (13, (eI64 x4)), (24, (eBool (decide ((lget p0 x4) ≠ (lget p1 x4)))))]) ⟨rfl, rfl, rfl, rfl, rfl, trivial⟩ ?_
        by_cases hc10 : (lget p0 x4) ≠ (lget p1 x4)
        · have h := (if_pos hc10).symm.trans h
          refine AW.condP ((lget p0 x4) ≠ (lget p1 x4)) rfl hc10 ?_
          refine AW.seq ?_
          refine AW.reg ?_
          refine AO.calm rfl 4 rfl (by decide) (eBool false) (Calm.assign rfl rfl) ?_
          refine AO.nil (ρ' := [(4, (eBool false))]) (H' := []) ⟨rfl, trivial⟩ (Sub.refl _) ?_
          refine AW.ret (ρ' := [(4, (eBool false))]) (H' := []) ⟨rfl, trivial⟩ (Sub.refl _) ?_
          have hr := Option.some.inj h
          subst hr
          exact ⟨[(eBool false)], ⟨rfl, rfl, trivial⟩, rfl⟩
        · have h := (if_neg hc10).symm.trans h
          refine AW.condN ((lget p0 x4) ≠ (lget p1 x4)) rfl hc10 ?_
          refine AW.skip (ρ' := [(0, (.fz 1 (p0.map eI64))), (1, (.fz 1 (p1.map eI64))), (12, (eI64 (p0.length : Int))), (13, (eI64 x4))]) (H' := []) ⟨rfl, rfl, rfl, rfl, trivial⟩ (Sub.refl _) ?_
          refine AW.reg ?_
          refine AO.calm rfl 25 rfl (by decide) (eI64 (w64 (x4 + (1 : Int)))) (Calm.int rfl rfl rfl rfl) ?_
          refine AO.calm rfl 13 rfl (by decide) (eI64 (w64 (x4 + (1 : Int)))) (Calm.move rfl rfl) ?_
          refine AO.nil (ρ' := [(0, (.fz 1 (p0.map eI64))), (1, (.fz 1 (p1.map eI64))), (12, (eI64 (p0.length : Int))), (13, (eI64 (w64 (x4 + (1 : Int)))))]) (H' := []) ⟨rfl, rfl, rfl, rfl, trivial⟩ (Sub.refl _) ?_
          exact ⟨kq6, Nat.lt_succ_self _, (w64 (x4 + (1 : Int))), rfl, rfl, by rw [hrec5]; exact h⟩
      · have h := (if_neg hc7).symm.trans h
        refine AW.condN (x4 < (p0.length : Int)) rfl hc7 ?_
        refine AW.exit (ρ' := []) (H' := []) trivial (Sub.refl _) ?_
        exact ⟨rfl, rfl, h⟩
    · rintro _ _ ⟨rfl, rfl, h⟩
      rw [slices_Equal_int_int__c0.eq_1] at h
      refine AW.seq ?_
      refine AW.reg ?_
      refine AO.calm rfl 4 rfl (by decide) (eBool true) (Calm.assign rfl rfl) ?_
      refine AO.nil (ρ' := [(4, (eBool true))]) (H' := []) ⟨rfl, trivial⟩ (Sub.refl _) ?_
      refine AW.ret (ρ' := [(4, (eBool true))]) (H' := []) ⟨rfl, trivial⟩ (Sub.refl _) ?_
      have hr := Option.some.inj h
      subst hr
      exact ⟨[(eBool true)], ⟨rfl, rfl, trivial⟩, rfl⟩
end Go.Avl.T3
/- slices.EqualFunc[[][]int,[][]int,[]int,[]int]; printed by avmain.py. -/
namespace Go.Avl.T3
open Go Go.RowKit Go.Proofs Go.Avl
set_option linter.unusedVariables false
set_option maxRecDepth 100000
set_option maxHeartbeats 4000000
attribute [local irreducible] AW AO AQ Spec SpecH Calm

def slices_EqualFunc_int_int_int_int__c0 (k : Nat) : Option Bool :=
  some (true)
def slices_EqualFunc_int_int_int_int__l1 (k : Nat) (p0 : (List (List Int))) (p1 : (List (List Int))) : Nat → Int → Option Bool
  | 0, _ => none
  | j + 1, x5 =>
    if x5 < (p0.length : Int) then if 0 ≤ x5 ∧ x5 < (p0.length : Int) then if 0 ≤ x5 ∧ x5 < (p1.length : Int) then (slices_Equal_int_int_ k (lget p0 x5) (lget p1 x5)).bind fun t11 =>
    if (!t11) = true then some (false)
    else (slices_EqualFunc_int_int_int_int__l1 k p0 p1 j) (w64 (x5 + (1 : Int)))
    else none
    else none
    else slices_EqualFunc_int_int_int_int__c0 k
def slices_EqualFunc_int_int_int_int_ (k : Nat) (p0 : (List (List Int))) (p1 : (List (List Int))) : Option Bool :=
  if (p0.length : Int) ≠ (p1.length : Int) then some (false)
  else slices_EqualFunc_int_int_int_int__l1 k p0 p1 k (0 : Int)
theorem slices_EqualFunc_int_int_int_int__spec {k : Nat} {p0 : (List (List Int))} {p1 : (List (List Int))} {r : Bool} (h : slices_EqualFunc_int_int_int_int_ k p0 p1 = some r) : Spec Try.prog 55 [(.fz 1 (p0.map e43)), (.fz 1 (p1.map e43)), (.fl (.func (.func 54) #[] #[]))] (eBool r) := by
  rw [slices_EqualFunc_int_int_int_int_.eq_1] at h
  refine Spec.intro (res := [.tmp 6]) Try.func55 rfl rfl rfl (Nat.le_of_ble_eq_true rfl) ?_
  refine AW.seq ?_
  refine AW.reg ?_
  refine AO.calm rfl 6 rfl (by decide) (eBool false) (Calm.assign rfl rfl) ?_
  refine AO.nil (ρ' := [(0, (.fz 1 (p0.map e43))), (1, (.fz 1 (p1.map e43))), (2, (.fl (.func (.func 54) #[] #[])))]) (H' := []) ⟨rfl, rfl, rfl, trivial⟩ (Sub.refl _) ?_
  refine AW.seq ?_
  refine AW.seq ?_
  refine AW.reg ?_
  refine AO.calm rfl 10 rfl (by decide) (.fz 1 (p0.map e43)) (Calm.move rfl rfl) ?_
  refine AO.calm rfl 11 rfl (by decide) (eI64 (p0.length : Int)) (Calm.lenL rfl rfl Try.underlying48) ?_
  refine AO.calm rfl 12 rfl (by decide) (.fz 1 (p1.map e43)) (Calm.move rfl rfl) ?_
  refine AO.calm rfl 13 rfl (by decide) (eI64 (p1.length : Int)) (Calm.lenL rfl rfl Try.underlying48) ?_
  refine AO.calm rfl 14 rfl (by decide) (eBool (decide ((p0.length : Int) ≠ (p1.length : Int)))) (Calm.int rfl rfl rfl rfl) ?_
  refine AO.nil (ρ' := [(0, (.fz 1 (p0.map e43))), (1, (.fz 1 (p1.map e43))), (2, (.fl (.func (.func 54) #[] #[]))), (14, (eBool (decide ((p0.length : Int) ≠ (p1.length : Int)))))]) (H' := []) ⟨rfl, rfl, rfl, rfl, trivial⟩ (Sub.refl _) ?_
  by_cases hc4 : (p0.length : Int) ≠ (p1.length : Int)
  · have h := (if_pos hc4).symm.trans h
    refine AW.condP ((p0.length : Int) ≠ (p1.length : Int)) rfl hc4 ?_
    refine AW.seq ?_
    refine AW.reg ?_
    refine AO.calm rfl 6 rfl (by decide) (eBool false) (Calm.assign rfl rfl) ?_
    refine AO.nil (ρ' := [(6, (eBool false))]) (H' := []) ⟨rfl, trivial⟩ (Sub.refl _) ?_
    refine AW.ret (ρ' := [(6, (eBool false))]) (H' := []) ⟨rfl, trivial⟩ (Sub.refl _) ?_
    have hr := Option.some.inj h
    subst hr
    exact ⟨[(eBool false)], ⟨rfl, rfl, trivial⟩, rfl⟩
  · have h := (if_neg hc4).symm.trans h
    refine AW.condN ((p0.length : Int) ≠ (p1.length : Int)) rfl hc4 ?_
    refine AW.skip (ρ' := [(0, (.fz 1 (p0.map e43))), (1, (.fz 1 (p1.map e43))), (2, (.fl (.func (.func 54) #[] #[])))]) (H' := []) ⟨rfl, rfl, rfl, trivial⟩ (Sub.refl _) ?_
    refine AW.seq_mid (fun ρ H => ρ = [] ∧ H = [] ∧ slices_EqualFunc_int_int_int_int__c0 k = some r) ?_ ?_
    · refine AW.seq ?_
      refine AW.reg ?_
      refine AO.calm rfl 15 rfl (by decide) (.fz 1 (p0.map e43)) (Calm.move rfl rfl) ?_
      refine AO.calm rfl 16 rfl (by decide) (eI64 (p0.length : Int)) (Calm.lenL rfl rfl Try.underlying48) ?_
      refine AO.calm rfl 17 rfl (by decide) (eI64 (0 : Int)) (Calm.move rfl rfl) ?_
      refine AO.nil (ρ' := [(1, (.fz 1 (p1.map e43))), (2, (.fl (.func (.func 54) #[] #[]))), (15, (.fz 1 (p0.map e43))), (16, (eI64 (p0.length : Int))), (17, (eI64 (0 : Int)))]) (H' := []) ⟨rfl, rfl, rfl, rfl, rfl, trivial⟩ (Sub.refl _) ?_
      refine AW.block ?_
      refine AW.weak (ρ' := [(1, (.fz 1 (p1.map e43))), (2, (.fl (.func (.func 54) #[] #[]))), (15, (.fz 1 (p0.map e43))), (16, (eI64 (p0.length : Int))), (17, (eI64 (0 : Int)))]) (H' := []) ⟨rfl, rfl, rfl, rfl, rfl, trivial⟩ (Sub.refl _) ?_
      refine AW.loop (fun kq ρ H => ∃ (x5 : Int), ρ = [(1, (.fz 1 (p1.map e43))), (2, (.fl (.func (.func 54) #[] #[]))), (15, (.fz 1 (p0.map e43))), (16, (eI64 (p0.length : Int))), (17, (eI64 x5))] ∧ H = [] ∧ slices_EqualFunc_int_int_int_int__l1 k p0 p1 kq x5 = some r) k ⟨(0 : Int), rfl, rfl, h⟩ ?_
      rintro kq7 _ _ ⟨x5, rfl, rfl, h⟩
      cases kq7 with
      | zero => rw [slices_EqualFunc_int_int_int_int__l1.eq_1] at h; cases h
      | succ kq7 =>
      rw [slices_EqualFunc_int_int_int_int__l1.eq_2] at h
      generalize hrec6 : slices_EqualFunc_int_int_int_int__l1 k p0 p1 kq7 = rec6 at h
      refine AW.seq ?_
      refine AW.reg ?_
      refine AO.calm rfl 18 rfl (by decide) (eBool (decide (x5 < (p0.length : Int)))) (Calm.int rfl rfl rfl rfl) ?_
      refine AO.nil (ρ' := [(1, (.fz 1 (p1.map e43))), (2, (.fl (.func (.func 54) #[] #[]))), (15, (.fz 1 (p0.map e43))), (16, (eI64 (p0.length : Int))), (17, (eI64 x5)), (18, (eBool (decide (x5 < (p0.length : Int)))))]) (H' := []) ⟨rfl, rfl, rfl, rfl, rfl, rfl, trivial⟩ (Sub.refl _) ?_
      refine AW.seq ?_
      by_cases hc8 : x5 < (p0.length : Int)
      · have h := (if_pos hc8).symm.trans h
        refine AW.condP (x5 < (p0.length : Int)) rfl hc8 ?_
        refine AW.skip (ρ' := [(1, (.fz 1 (p1.map e43))), (2, (.fl (.func (.func 54) #[] #[]))), (15, (.fz 1 (p0.map e43))), (16, (eI64 (p0.length : Int))), (17, (eI64 x5))]) (H' := []) ⟨rfl, rfl, rfl, rfl, rfl, trivial⟩ (Sub.refl _) ?_
        refine AW.seq ?_
        refine AW.block ?_
        refine AW.seq ?_
        refine AW.reg ?_
        refine AO.calm rfl 19 rfl (by decide) (eI64 x5) (Calm.move rfl rfl) ?_
        obtain ⟨hg9, h⟩ := of_guard h
        refine AO.calm rfl 20 rfl (by decide) (.rp (.fz 1 ((lget p0 x5).map eI64))) (Calm.idxL (f := e43) rfl rfl rfl hg9 Try.underlying48 sz43) ?_
        refine AO.calm rfl 21 rfl (by decide) (.fz 1 ((lget p0 x5).map eI64)) (Calm.loadRp rfl rfl ag43 sz43) ?_
        refine AO.calm rfl 7 rfl (by decide) (eI64 x5) (Calm.assign rfl rfl) ?_
        refine AO.calm rfl 8 rfl (by decide) (.fz 1 ((lget p0 x5).map eI64)) (Calm.assign rfl rfl) ?_
        refine AO.nil (ρ' := [(1, (.fz 1 (p1.map e43))), (2, (.fl (.func (.func 54) #[] #[]))), (7, (eI64 x5)), (8, (.fz 1 ((lget p0 x5).map eI64))), (15, (.fz 1 (p0.map e43))), (16, (eI64 (p0.length : Int))), (17, (eI64 x5))]) (H' := []) ⟨rfl, rfl, rfl, rfl, rfl, rfl, rfl, trivial⟩ (Sub.refl _) ?_
        refine AW.seq ?_
        refine AW.reg ?_
        refine AO.calm rfl 22 rfl (by decide) (.fz 1 (p1.map e43)) (Calm.move rfl rfl) ?_
        refine AO.calm rfl 23 rfl (by decide) (eI64 x5) (Calm.move rfl rfl) ?_
        obtain ⟨hg10, h⟩ := of_guard h
        refine AO.calm rfl 24 rfl (by decide) (.rp (.fz 1 ((lget p1 x5).map eI64))) (Calm.idxL (f := e43) rfl rfl rfl hg10 Try.underlying48 sz43) ?_
        refine AO.calm rfl 25 rfl (by decide) (.fz 1 ((lget p1 x5).map eI64)) (Calm.loadRp rfl rfl ag43 sz43) ?_
        refine AO.calm rfl 9 rfl (by decide) (.fz 1 ((lget p1 x5).map eI64)) (Calm.assign rfl rfl) ?_
        refine AO.nil (ρ' := [(1, (.fz 1 (p1.map e43))), (2, (.fl (.func (.func 54) #[] #[]))), (8, (.fz 1 ((lget p0 x5).map eI64))), (9, (.fz 1 ((lget p1 x5).map eI64))), (15, (.fz 1 (p0.map e43))), (16, (eI64 (p0.length : Int))), (17, (eI64 x5))]) (H' := []) ⟨rfl, rfl, rfl, rfl, rfl, rfl, rfl, trivial⟩ (Sub.refl _) ?_
        refine AW.seq ?_
        refine AW.reg ?_
        refine AO.calm rfl 26 rfl (by decide) (.fl (.func (.func 54) #[] #[])) (Calm.move rfl rfl) ?_
        refine AO.calm rfl 27 rfl (by decide) (.fz 1 ((lget p0 x5).map eI64)) (Calm.move rfl rfl) ?_
        refine AO.calm rfl 28 rfl (by decide) (.fz 1 ((lget p1 x5).map eI64)) (Calm.move rfl rfl) ?_
        obtain ⟨t11, et11, h⟩ := of_bind h
        refine AO.callS [(.fz 1 ((lget p0 x5).map eI64)), (.fz 1 ((lget p1 x5).map eI64))] (eBool t11) 29 rfl (by decide) ok54 rfl rfl rfl ⟨rfl, rfl, rfl, rfl, trivial⟩ (slices_Equal_int_int__spec et11) ?_
        refine AO.calm rfl 30 rfl (by decide) (eBool (!t11)) (Calm.not rfl rfl) ?_
        refine AO.nil (ρ' := [(1, (.fz 1 (p1.map e43))), (2, (.fl (.func (.func 54) #[] #[]))), (15, (.fz 1 (p0.map e43))), (16, (eI64 (p0.length : Int))), (17, (eI64 x5)), (30, (eBool (!t11)))]) (H' := []) ⟨rfl, rfl, rfl, rfl, rfl, rfl, trivial⟩ (Sub.refl _) ?_
        by_cases hc12 : (!t11) = true
        · have h := (if_pos hc12).symm.trans h
          refine AW.condT' (!t11) rfl hc12 ?_
          refine AW.seq ?_
          refine AW.reg ?_
          refine AO.calm rfl 6 rfl (by decide) (eBool false) (Calm.assign rfl rfl) ?_
          refine AO.nil (ρ' := [(6, (eBool false))]) (H' := []) ⟨rfl, trivial⟩ (Sub.refl _) ?_
          refine AW.ret (ρ' := [(6, (eBool false))]) (H' := []) ⟨rfl, trivial⟩ (Sub.refl _) ?_
          have hr := Option.some.inj h
          subst hr
          exact ⟨[(eBool false)], ⟨rfl, rfl, trivial⟩, rfl⟩
        · have h := (if_neg hc12).symm.trans h
          refine AW.condF' (!t11) rfl hc12 ?_
          refine AW.skip (ρ' := [(1, (.fz 1 (p1.map e43))), (2, (.fl (.func (.func 54) #[] #[]))), (15, (.fz 1 (p0.map e43))), (16, (eI64 (p0.length : Int))), (17, (eI64 x5))]) (H' := []) ⟨rfl, rfl, rfl, rfl, rfl, trivial⟩ (Sub.refl _) ?_
          refine AW.reg ?_
          refine AO.calm rfl 31 rfl (by decide) (eI64 (w64 (x5 + (1 : Int)))) (Calm.int rfl rfl rfl rfl) ?_
          refine AO.calm rfl 17 rfl (by decide) (eI64 (w64 (x5 + (1 : Int)))) (Calm.move rfl rfl) ?_
          refine AO.nil (ρ' := [(1, (.fz 1 (p1.map e43))), (2, (.fl (.func (.func 54) #[] #[]))), (15, (.fz 1 (p0.map e43))), (16, (eI64 (p0.length : Int))), (17, (eI64 (w64 (x5 + (1 : Int)))))]) (H' := []) ⟨rfl, rfl, rfl, rfl, rfl, trivial⟩ (Sub.refl _) ?_
          exact ⟨kq7, Nat.lt_succ_self _, (w64 (x5 + (1 : Int))), rfl, rfl, by rw [hrec6]; exact h⟩
      · have h := (if_neg hc8).symm.trans h
        refine AW.condN (x5 < (p0.length : Int)) rfl hc8 ?_
        refine AW.exit (ρ' := []) (H' := []) trivial (Sub.refl _) ?_
        exact ⟨rfl, rfl, h⟩
    · rintro _ _ ⟨rfl, rfl, h⟩
      rw [slices_EqualFunc_int_int_int_int__c0.eq_1] at h
      refine AW.seq ?_
      refine AW.reg ?_
      refine AO.calm rfl 6 rfl (by decide) (eBool true) (Calm.assign rfl rfl) ?_
      refine AO.nil (ρ' := [(6, (eBool true))]) (H' := []) ⟨rfl, trivial⟩ (Sub.refl _) ?_
      refine AW.ret (ρ' := [(6, (eBool true))]) (H' := []) ⟨rfl, trivial⟩ (Sub.refl _) ?_
      have hr := Option.some.inj h
      subst hr
      exact ⟨[(eBool true)], ⟨rfl, rfl, trivial⟩, rfl⟩
end Go.Avl.T3
/- bosket/dfa.Same; printed by avmain.py. -/
namespace Go.Avl.T3
open Go Go.RowKit Go.Proofs Go.Avl
set_option linter.unusedVariables false
set_option maxRecDepth 100000
set_option maxHeartbeats 4000000
attribute [local irreducible] AW AO AQ Spec SpecH Calm

def dfa_Same (k : Nat) (p0 : S50) (p1 : S50) : Option Bool :=
  Option.bind (α := Bool) (if p0.f0 = p1.f0 then (slices_Equal_int_int_ k p0.f2 p1.f2).bind fun t8 =>
  if t8 = true then (slices_EqualFunc_int_int_int_int_ k p0.f1 p1.f1).bind fun t10 =>
  some (t10)
  else some (false)
  else some (false)) fun b5 =>
  some (b5)
theorem dfa_Same_spec {k : Nat} {p0 : S50} {p1 : S50} {r : Bool} (h : dfa_Same k p0 p1 = some r) : Spec Try.prog 29 [(e50 p0), (e50 p1)] (eBool r) := by
  rw [dfa_Same.eq_1] at h
  refine Spec.intro (res := [.tmp 4]) Try.func29 rfl rfl rfl (Nat.le_of_ble_eq_true rfl) ?_
  refine AW.seq ?_
  refine AW.reg ?_
  refine AO.box rfl 2 rfl (by decide) rfl rfl rfl fun n3 => ?_
  refine AO.box rfl 3 rfl (by decide) rfl rfl rfl fun n4 => ?_
  refine AO.calm rfl 4 rfl (by decide) (eBool false) (Calm.assign rfl rfl) ?_
  refine AO.nil (ρ' := [(2, (.ptr n3 0)), (3, (.ptr n4 0))]) (H' := [(n3, (.mem (e50 p0))), (n4, (.mem (e50 p1)))]) ⟨rfl, rfl, trivial⟩ (Sub.cons 1 rfl (Sub.cons 0 rfl (Sub.nil _))) ?_
  refine AW.seq ?_
  obtain ⟨b5, hq6, h⟩ := of_bind h
  refine AW.regM [(4, (eBool b5))] [] ?_ ?_
  · refine AO.calm rfl 5 rfl (by decide) (.ptr n3 0) (Calm.fldPtr rfl rfl Try.underlying50 rfl sz47 _ rfl) ?_
    refine AO.calm rfl 6 rfl (by decide) (.ar 1 (p0.f0.toList.map eU8)) (Calm.load 0 rfl rfl rfl (At.cast (At.fld0 At.here) rfl) ag47 (by rw [sz47]; simp [AV.size])) ?_
    refine AO.calm rfl 7 rfl (by decide) (.ptr n4 0) (Calm.fldPtr rfl rfl Try.underlying50 rfl sz47 _ rfl) ?_
    refine AO.calm rfl 8 rfl (by decide) (.ar 1 (p1.f0.toList.map eU8)) (Calm.load 1 rfl rfl rfl (At.cast (At.fld0 At.here) rfl) ag47 (by rw [sz47]; simp [AV.size])) ?_
    refine AO.calm rfl 9 rfl (by decide) (eBool (decide (p0.f0 = p1.f0))) (Calm.eqA rfl rfl rfl eg47 (eqa47 p0.f0 p1.f0) (by decide)) ?_
    refine AO.calm rfl 10 rfl (by decide) (eBool (decide (p0.f0 = p1.f0))) (Calm.move rfl rfl) ?_
    by_cases hc7 : p0.f0 = p1.f0
    · have hq6 := (if_pos hc7).symm.trans hq6
      refine AO.calmG 5 true 10 rfl rfl (congrArg (fun b => some (AV.fl (Value.bool b))) (decide_eq_true hc7)) 11 rfl (by decide) (.ptr n3 257) (Calm.fldPtr rfl rfl Try.underlying50 rfl sz43 _ rfl) ?_
      refine AO.calmG 5 true 10 rfl rfl (congrArg (fun b => some (AV.fl (Value.bool b))) (decide_eq_true hc7)) 12 rfl (by decide) (.fz 1 (p0.f2.map eI64)) (Calm.load 0 rfl rfl rfl (At.cast (At.fldS (At.fldS (At.fld0 At.here))) rfl) ag43 sz43) ?_
      refine AO.calmG 5 true 10 rfl rfl (congrArg (fun b => some (AV.fl (Value.bool b))) (decide_eq_true hc7)) 13 rfl (by decide) (.ptr n4 257) (Calm.fldPtr rfl rfl Try.underlying50 rfl sz43 _ rfl) ?_
      refine AO.calmG 5 true 10 rfl rfl (congrArg (fun b => some (AV.fl (Value.bool b))) (decide_eq_true hc7)) 14 rfl (by decide) (.fz 1 (p1.f2.map eI64)) (Calm.load 1 rfl rfl rfl (At.cast (At.fldS (At.fldS (At.fld0 At.here))) rfl) ag43 sz43) ?_
      obtain ⟨t8, et8, hq6⟩ := of_bind hq6
      refine AO.callG 5 true 10 [(.fz 1 (p0.f2.map eI64)), (.fz 1 (p1.f2.map eI64))] (eBool t8) 15 rfl (by decide) ok54 rfl rfl (congrArg (fun b => some (AV.fl (Value.bool b))) (decide_eq_true hc7)) rfl rfl ⟨rfl, rfl, rfl, rfl, trivial⟩ (slices_Equal_int_int__spec et8) ?_
      refine AO.calm rfl 16 rfl (by decide) (eBool t8) (Calm.pickT rfl (congrArg (fun b => some (AV.fl (Value.bool b))) (decide_eq_true hc7)) rfl) ?_
      refine AO.calm rfl 17 rfl (by decide) (eBool t8) (Calm.move rfl rfl) ?_
      by_cases hc9 : t8 = true
      · have hq6 := (if_pos hc9).symm.trans hq6
        refine AO.calmG 12 true 17 rfl rfl (congrArg (fun b => some (AV.fl (Value.bool b))) hc9) 18 rfl (by decide) (.ptr n3 256) (Calm.fldPtr rfl rfl Try.underlying50 rfl sz48 _ rfl) ?_
        refine AO.calmG 12 true 17 rfl rfl (congrArg (fun b => some (AV.fl (Value.bool b))) hc9) 19 rfl (by decide) (.fz 1 (p0.f1.map e43)) (Calm.load 0 rfl rfl rfl (At.cast (At.fldS (At.fld0 At.here)) rfl) ag48 sz48) ?_
        refine AO.calmG 12 true 17 rfl rfl (congrArg (fun b => some (AV.fl (Value.bool b))) hc9) 20 rfl (by decide) (.ptr n4 256) (Calm.fldPtr rfl rfl Try.underlying50 rfl sz48 _ rfl) ?_
        refine AO.calmG 12 true 17 rfl rfl (congrArg (fun b => some (AV.fl (Value.bool b))) hc9) 21 rfl (by decide) (.fz 1 (p1.f1.map e43)) (Calm.load 1 rfl rfl rfl (At.cast (At.fldS (At.fld0 At.here)) rfl) ag48 sz48) ?_
        obtain ⟨t10, et10, hq6⟩ := of_bind hq6
        refine AO.callG 12 true 17 [(.fz 1 (p0.f1.map e43)), (.fz 1 (p1.f1.map e43)), (.fl (.func (.func 54) #[] #[]))] (eBool t10) 22 rfl (by decide) ok55 rfl rfl (congrArg (fun b => some (AV.fl (Value.bool b))) hc9) rfl rfl ⟨rfl, rfl, rfl, rfl, rfl, rfl, trivial⟩ (slices_EqualFunc_int_int_int_int__spec et10) ?_
        refine AO.calm rfl 23 rfl (by decide) (eBool t10) (Calm.pickT rfl (congrArg (fun b => some (AV.fl (Value.bool b))) hc9) rfl) ?_
        refine AO.calm rfl 4 rfl (by decide) (eBool t10) (Calm.assign rfl rfl) ?_
        cases hq6
        refine AO.nilE ⟨rfl, rfl⟩ ?_ ?_
        · exact ⟨rfl, trivial⟩
        · exact (Sub.nil _)
      · have hq6 := (if_neg hc9).symm.trans hq6
        refine AO.skipG 12 false 17 rfl rfl (congrArg (fun b => some (AV.fl (Value.bool b))) (eq_false_of_ne_true hc9)) 18 rfl (by decide) ?_
        refine AO.skipG 12 false 17 rfl rfl (congrArg (fun b => some (AV.fl (Value.bool b))) (eq_false_of_ne_true hc9)) 19 rfl (by decide) ?_
        refine AO.skipG 12 false 17 rfl rfl (congrArg (fun b => some (AV.fl (Value.bool b))) (eq_false_of_ne_true hc9)) 20 rfl (by decide) ?_
        refine AO.skipG 12 false 17 rfl rfl (congrArg (fun b => some (AV.fl (Value.bool b))) (eq_false_of_ne_true hc9)) 21 rfl (by decide) ?_
        refine AO.skipG 12 false 17 rfl rfl (congrArg (fun b => some (AV.fl (Value.bool b))) (eq_false_of_ne_true hc9)) 22 rfl (by decide) ?_
        refine AO.calm rfl 23 rfl (by decide) (eBool false) (Calm.pickF rfl (congrArg (fun b => some (AV.fl (Value.bool b))) (eq_false_of_ne_true hc9)) rfl) ?_
        refine AO.calm rfl 4 rfl (by decide) (eBool false) (Calm.assign rfl rfl) ?_
        cases hq6
        refine AO.nilE ⟨rfl, rfl⟩ ?_ ?_
        · exact ⟨rfl, trivial⟩
        · exact (Sub.nil _)
    · have hq6 := (if_neg hc7).symm.trans hq6
      refine AO.skipG 5 false 10 rfl rfl (congrArg (fun b => some (AV.fl (Value.bool b))) (decide_eq_false hc7)) 11 rfl (by decide) ?_
      refine AO.skipG 5 false 10 rfl rfl (congrArg (fun b => some (AV.fl (Value.bool b))) (decide_eq_false hc7)) 12 rfl (by decide) ?_
      refine AO.skipG 5 false 10 rfl rfl (congrArg (fun b => some (AV.fl (Value.bool b))) (decide_eq_false hc7)) 13 rfl (by decide) ?_
      refine AO.skipG 5 false 10 rfl rfl (congrArg (fun b => some (AV.fl (Value.bool b))) (decide_eq_false hc7)) 14 rfl (by decide) ?_
      refine AO.skipG 5 false 10 rfl rfl (congrArg (fun b => some (AV.fl (Value.bool b))) (decide_eq_false hc7)) 15 rfl (by decide) ?_
      refine AO.calm rfl 16 rfl (by decide) (eBool false) (Calm.pickF rfl (congrArg (fun b => some (AV.fl (Value.bool b))) (decide_eq_false hc7)) rfl) ?_
      refine AO.calm rfl 17 rfl (by decide) (eBool false) (Calm.move rfl rfl) ?_
      refine AO.skipG 12 false 17 rfl rfl rfl 18 rfl (by decide) ?_
      refine AO.skipG 12 false 17 rfl rfl rfl 19 rfl (by decide) ?_
      refine AO.skipG 12 false 17 rfl rfl rfl 20 rfl (by decide) ?_
      refine AO.skipG 12 false 17 rfl rfl rfl 21 rfl (by decide) ?_
      refine AO.skipG 12 false 17 rfl rfl rfl 22 rfl (by decide) ?_
      refine AO.calm rfl 23 rfl (by decide) (eBool false) (Calm.pickF rfl rfl rfl) ?_
      refine AO.calm rfl 4 rfl (by decide) (eBool false) (Calm.assign rfl rfl) ?_
      cases hq6
      refine AO.nilE ⟨rfl, rfl⟩ ?_ ?_
      · exact ⟨rfl, trivial⟩
      · exact (Sub.nil _)
  · refine AW.ret (ρ' := [(4, (eBool b5))]) (H' := []) ⟨rfl, trivial⟩ (Sub.refl _) ?_
    have hr := Option.some.inj h
    subst hr
    exact ⟨[(eBool b5)], ⟨rfl, rfl, trivial⟩, rfl⟩
end Go.Avl.T3
