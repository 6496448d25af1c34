/- bosket/bosketref08.classes; printed by avmain.py. -/
import Derived.Test.YthfongdjcpmpfaaAB
namespace Go.Avl.T1
open Go Go.RowKit Go.Proofs Go.Avl
set_option linter.unusedVariables false
set_option maxRecDepth 100000
set_option maxHeartbeats 4000000
attribute [local irreducible] AW AO AQ Spec SpecH Calm

def bosketref08_classes_c0 (k : Nat) (x3 : Int) : Option Int :=
  some (x3)
def bosketref08_classes_l1 (k : Nat) (p0 : S26) : Nat → Int → Int → Option Int
  | 0, _, _ => none
  | j + 1, x4, x5 =>
    if x5 < (256 : Int) then if 0 ≤ x5 ∧ x5 < (256 : Int) then (bosketref08_classes_l1 k p0 j) (max x4 (w64 ((w64 (vget p0.f0 x5)) + (1 : Int)))) (w64 (x5 + (1 : Int)))
    else none
    else bosketref08_classes_c0 k x4
def bosketref08_classes (k : Nat) (p0 : S26) : Option Int :=
  bosketref08_classes_l1 k p0 k (0 : Int) (0 : Int)
theorem bosketref08_classes_spec {k : Nat} {p0 : S26} {r : Int} (h : bosketref08_classes k p0 = some r) : Spec Try.prog 54 [(e26 p0)] (eI64 r) := by
  rw [bosketref08_classes.eq_1] at h
  refine Spec.intro (res := [.tmp 2]) Try.func54 rfl rfl rfl (Nat.le_of_ble_eq_true rfl) ?_
  refine AW.seq ?_
  refine AW.reg ?_
  refine AO.box rfl 1 rfl (by decide) rfl rfl rfl fun n2 => ?_
  refine AO.calm rfl 2 rfl (by decide) (eI64 (0 : Int)) (Calm.assign rfl rfl) ?_
  refine AO.nil (ρ' := [(1, (.ptr n2 0))]) (H' := [(n2, .mem (e26 p0))]) ⟨rfl, trivial⟩ (Sub.refl _) ?_
  refine AW.seq ?_
  refine AW.reg ?_
  refine AO.calm rfl 3 rfl (by decide) (eI64 (0 : Int)) (Calm.assign rfl rfl) ?_
  refine AO.nil (ρ' := [(1, (.ptr n2 0)), (3, (eI64 (0 : Int)))]) (H' := [(n2, .mem (e26 p0))]) ⟨rfl, rfl, trivial⟩ (Sub.refl _) ?_
  refine AW.seq_mid (fun ρ H => ∃ (x3 : Int), ρ = [(3, (eI64 x3))] ∧ H = [] ∧ bosketref08_classes_c0 k x3 = some r) ?_ ?_
  · refine AW.seq ?_
    refine AW.reg ?_
    refine AO.calm rfl 4 rfl (by decide) (eI64 (0 : Int)) (Calm.assign rfl rfl) ?_
    refine AO.nil (ρ' := [(1, (.ptr n2 0)), (3, (eI64 (0 : Int))), (4, (eI64 (0 : Int)))]) (H' := [(n2, .mem (e26 p0))]) ⟨rfl, rfl, rfl, trivial⟩ (Sub.refl _) ?_
    refine AW.block ?_
    refine AW.weak (ρ' := [(1, (.ptr n2 0)), (3, (eI64 (0 : Int))), (4, (eI64 (0 : Int)))]) (H' := [(n2, .mem (e26 p0))]) ⟨rfl, rfl, rfl, trivial⟩ (Sub.refl _) ?_
    refine AW.loop (fun kq ρ H => ∃ (x4 : Int) (x5 : Int), ρ = [(1, (.ptr n2 0)), (3, (eI64 x4)), (4, (eI64 x5))] ∧ H = [(n2, .mem (e26 p0))] ∧ bosketref08_classes_l1 k p0 kq x4 x5 = some r) k ⟨(0 : Int), (0 : Int), rfl, rfl, h⟩ ?_
    rintro kq7 _ _ ⟨x4, x5, rfl, rfl, h⟩
    cases kq7 with
    | zero => rw [bosketref08_classes_l1.eq_1] at h; cases h
    | succ kq7 =>
    rw [bosketref08_classes_l1.eq_2] at h
    generalize hrec6 : bosketref08_classes_l1 k p0 kq7 = rec6 at h
    refine AW.seq ?_
    refine AW.seq ?_
    refine AW.reg ?_
    refine AO.calm rfl 5 rfl (by decide) (eI64 x5) (Calm.move rfl rfl) ?_
    refine AO.calm rfl 6 rfl (by decide) (eBool (decide (x5 < (256 : Int)))) (Calm.int rfl rfl rfl rfl) ?_
    refine AO.nil (ρ' := [(1, (.ptr n2 0)), (3, (eI64 x4)), (4, (eI64 x5)), (6, (eBool (decide (x5 < (256 : Int)))))]) (H' := [(n2, .mem (e26 p0))]) ⟨rfl, rfl, rfl, rfl, trivial⟩ (Sub.refl _) ?_
    by_cases hc8 : x5 < (256 : Int)
    · have h := (if_pos hc8).symm.trans h
      refine AW.condP (x5 < (256 : Int)) rfl hc8 ?_
      refine AW.skip (ρ' := [(1, (.ptr n2 0)), (3, (eI64 x4)), (4, (eI64 x5))]) (H' := [(n2, .mem (e26 p0))]) ⟨rfl, rfl, rfl, trivial⟩ (Sub.refl _) ?_
      refine AW.seq ?_
      refine AW.block ?_
      refine AW.reg ?_
      refine AO.calm rfl 9 rfl (by decide) (eI64 x4) (Calm.move rfl rfl) ?_
      refine AO.calm rfl 10 rfl (by decide) (eI64 x5) (Calm.move rfl rfl) ?_
      refine AO.calm rfl 11 rfl (by decide) (.ptr n2 0) (Calm.fldPtr rfl rfl Try.underlying26 rfl sz22 _ rfl) ?_
      obtain ⟨hg9, h⟩ := of_guard h
      refine AO.calm rfl 12 rfl (by decide) (.ptr n2 (0 + x5.toNat * 1)) (Calm.idxP rfl rfl rfl hg9 Try.underlying22 sz5) ?_
      refine AO.calm rfl 13 rfl (by decide) (eU8 (vget p0.f0 x5)) (Calm.load 0 rfl rfl rfl (At.cast (At.fld0 (At.vidx x5 hg9.1 hg9.2 At.here)) (by omega)) ag5 sz5) ?_
      refine AO.calm rfl 14 rfl (by decide) (eI64 (w64 (vget p0.f0 x5))) (Calm.conv rfl rfl Try.underlying5 Try.underlying3) ?_
      refine AO.calm rfl 15 rfl (by decide) (eI64 (w64 ((w64 (vget p0.f0 x5)) + (1 : Int)))) (Calm.int rfl rfl rfl rfl) ?_
      refine AO.calm rfl 16 rfl (by decide) (eI64 (max x4 (w64 ((w64 (vget p0.f0 x5)) + (1 : Int))))) (Calm.max2 rfl rfl rfl) ?_
      refine AO.calm rfl 3 rfl (by decide) (eI64 (max x4 (w64 ((w64 (vget p0.f0 x5)) + (1 : Int))))) (Calm.assign rfl rfl) ?_
      refine AO.nil (ρ' := [(1, (.ptr n2 0)), (3, (eI64 (max x4 (w64 ((w64 (vget p0.f0 x5)) + (1 : Int)))))), (4, (eI64 x5))]) (H' := [(n2, .mem (e26 p0))]) ⟨rfl, rfl, rfl, trivial⟩ (Sub.refl _) ?_
      refine AW.reg ?_
      refine AO.calm rfl 7 rfl (by decide) (eI64 x5) (Calm.move rfl rfl) ?_
      refine AO.calm rfl 8 rfl (by decide) (eI64 (w64 (x5 + (1 : Int)))) (Calm.int rfl rfl rfl rfl) ?_
      refine AO.calm rfl 4 rfl (by decide) (eI64 (w64 (x5 + (1 : Int)))) (Calm.assign rfl rfl) ?_
      refine AO.nil (ρ' := [(1, (.ptr n2 0)), (3, (eI64 (max x4 (w64 ((w64 (vget p0.f0 x5)) + (1 : Int)))))), (4, (eI64 (w64 (x5 + (1 : Int)))))]) (H' := [(n2, .mem (e26 p0))]) ⟨rfl, rfl, rfl, trivial⟩ (Sub.refl _) ?_
      exact ⟨kq7, Nat.lt_succ_self _, (max x4 (w64 ((w64 (vget p0.f0 x5)) + (1 : Int)))), (w64 (x5 + (1 : Int))), rfl, rfl, by rw [hrec6]; exact h⟩
    · have h := (if_neg hc8).symm.trans h
      refine AW.condN (x5 < (256 : Int)) rfl hc8 ?_
      refine AW.exit (ρ' := [(3, (eI64 x4))]) (H' := []) ⟨rfl, trivial⟩ (Sub.nil _) ?_
      exact ⟨x4, rfl, rfl, h⟩
  · rintro _ _ ⟨x3, rfl, rfl, h⟩
    rw [bosketref08_classes_c0.eq_1] at h
    refine AW.seq ?_
    refine AW.reg ?_
    refine AO.calm rfl 17 rfl (by decide) (eI64 x3) (Calm.move rfl rfl) ?_
    refine AO.calm rfl 2 rfl (by decide) (eI64 x3) (Calm.assign rfl rfl) ?_
    refine AO.nil (ρ' := [(2, (eI64 x3))]) (H' := []) ⟨rfl, trivial⟩ (Sub.refl _) ?_
    refine AW.ret (ρ' := [(2, (eI64 x3))]) (H' := []) ⟨rfl, trivial⟩ (Sub.refl _) ?_
    have hr := Option.some.inj h
    subst hr
    exact ⟨[(eI64 x3)], ⟨rfl, rfl, trivial⟩, rfl⟩
end Go.Avl.T1
