/- bosket/bosketref08.Run; printed by avmain.py. -/
import Derived.Test.YthfongdjcpmpfaaAB
import Derived.Test.YthfongdjcpmpfaaAf58
namespace Go.Avl.T1
open Go Go.RowKit Go.Proofs Go.Avl
set_option linter.unusedVariables false
set_option maxRecDepth 100000
set_option maxHeartbeats 4000000
attribute [local irreducible] AW AO AQ Spec SpecH Calm

def bosketref08_Run_c0 (k : Nat) (x5 : Int) : Option Int :=
  some (x5)
def bosketref08_Run_l1 (k : Nat) (p0 : S26) (p2 : ByteArray) : Nat → Int → Int → Option Int
  | 0, _, _ => none
  | j + 1, x6, x7 =>
    if x7 < (p2.size : Int) then if 0 ≤ x7 ∧ x7 < (p2.size : Int) then (bosketref08_Step k p0 x6 (w64 (byteAt p2 x7))).bind fun t12 =>
    (bosketref08_Run_l1 k p0 p2 j) t12 (w64 (x7 + (1 : Int)))
    else none
    else bosketref08_Run_c0 k x6
def bosketref08_Run (k : Nat) (p0 : S26) (p1 : Int) (p2 : ByteArray) : Option Int :=
  bosketref08_Run_l1 k p0 p2 k p1 (0 : Int)
theorem bosketref08_Run_spec {k : Nat} {p0 : S26} {p1 : Int} {p2 : ByteArray} {r : Int} (h : bosketref08_Run k p0 p1 p2 = some r) : Spec Try.prog 19 [(e26 p0), (eI64 p1), (eStr p2)] (eI64 r) := by
  rw [bosketref08_Run.eq_1] at h
  refine Spec.intro (res := [.tmp 6]) Try.func19 rfl rfl rfl (Nat.le_of_ble_eq_true rfl) ?_
  refine AW.seq ?_
  refine AW.reg ?_
  refine AO.box rfl 3 rfl (by decide) rfl rfl rfl fun n4 => ?_
  refine AO.calm rfl 6 rfl (by decide) (eI64 (0 : Int)) (Calm.assign rfl rfl) ?_
  refine AO.nil (ρ' := [(1, (eI64 p1)), (2, (eStr p2)), (3, (.ptr n4 0))]) (H' := [(n4, .mem (e26 p0))]) ⟨rfl, rfl, rfl, trivial⟩ (Sub.refl _) ?_
  refine AW.seq_mid (fun ρ H => ∃ (x5 : Int), ρ = [(1, (eI64 x5))] ∧ H = [] ∧ bosketref08_Run_c0 k x5 = some r) ?_ ?_
  · refine AW.seq ?_
    refine AW.reg ?_
    refine AO.calm rfl 7 rfl (by decide) (eI64 (0 : Int)) (Calm.assign rfl rfl) ?_
    refine AO.nil (ρ' := [(1, (eI64 p1)), (2, (eStr p2)), (3, (.ptr n4 0)), (7, (eI64 (0 : Int)))]) (H' := [(n4, .mem (e26 p0))]) ⟨rfl, rfl, rfl, rfl, trivial⟩ (Sub.refl _) ?_
    refine AW.block ?_
    refine AW.weak (ρ' := [(1, (eI64 p1)), (2, (eStr p2)), (3, (.ptr n4 0)), (7, (eI64 (0 : Int)))]) (H' := [(n4, .mem (e26 p0))]) ⟨rfl, rfl, rfl, rfl, trivial⟩ (Sub.refl _) ?_
    refine AW.loop (fun kq ρ H => ∃ (x6 : Int) (x7 : Int), ρ = [(1, (eI64 x6)), (2, (eStr p2)), (3, (.ptr n4 0)), (7, (eI64 x7))] ∧ H = [(n4, .mem (e26 p0))] ∧ bosketref08_Run_l1 k p0 p2 kq x6 x7 = some r) k ⟨p1, (0 : Int), rfl, rfl, h⟩ ?_
    rintro kq9 _ _ ⟨x6, x7, rfl, rfl, h⟩
    cases kq9 with
    | zero => rw [bosketref08_Run_l1.eq_1] at h; cases h
    | succ kq9 =>
    rw [bosketref08_Run_l1.eq_2] at h
    generalize hrec8 : bosketref08_Run_l1 k p0 p2 kq9 = rec8 at h
    refine AW.seq ?_
    refine AW.seq ?_
    refine AW.reg ?_
    refine AO.calm rfl 8 rfl (by decide) (eI64 x7) (Calm.move rfl rfl) ?_
    refine AO.calm rfl 9 rfl (by decide) (eStr p2) (Calm.move rfl rfl) ?_
    refine AO.calm rfl 10 rfl (by decide) (eI64 (p2.size : Int)) (Calm.lenStr rfl rfl Try.underlying9) ?_
    refine AO.calm rfl 11 rfl (by decide) (eBool (decide (x7 < (p2.size : Int)))) (Calm.int rfl rfl rfl rfl) ?_
    refine AO.nil (ρ' := [(1, (eI64 x6)), (2, (eStr p2)), (3, (.ptr n4 0)), (7, (eI64 x7)), (11, (eBool (decide (x7 < (p2.size : Int)))))]) (H' := [(n4, .mem (e26 p0))]) ⟨rfl, rfl, rfl, rfl, rfl, trivial⟩ (Sub.refl _) ?_
    by_cases hc10 : x7 < (p2.size : Int)
    · have h := (if_pos hc10).symm.trans h
      refine AW.condP (x7 < (p2.size : Int)) rfl hc10 ?_
      refine AW.skip (ρ' := [(1, (eI64 x6)), (2, (eStr p2)), (3, (.ptr n4 0)), (7, (eI64 x7))]) (H' := [(n4, .mem (e26 p0))]) ⟨rfl, rfl, rfl, rfl, trivial⟩ (Sub.refl _) ?_
      refine AW.seq ?_
      refine AW.block ?_
      refine AW.regQ (by rfl) (by decide +kernel) ?_
      refine AQ.calm rfl 14 rfl (by decide) (e26 p0) (Calm.load 0 rfl rfl rfl (At.cast At.here rfl) ag26 sz26) ?_
      refine AQ.calm rfl 15 rfl (by decide) (eI64 x6) (Calm.move rfl rfl) ?_
      refine AQ.calm rfl 16 rfl (by decide) (eStr p2) (Calm.move rfl rfl) ?_
      refine AQ.calm rfl 17 rfl (by decide) (eI64 x7) (Calm.move rfl rfl) ?_
      obtain ⟨hg11, h⟩ := of_guard h
      refine AQ.calm rfl 18 rfl (by decide) (eU8 (byteAt p2 x7)) (Calm.idxS rfl rfl rfl hg11 Try.underlying9) ?_
      refine AQ.calm rfl 19 rfl (by decide) (eI64 (w64 (byteAt p2 x7))) (Calm.conv rfl rfl Try.underlying5 Try.underlying3) ?_
      obtain ⟨t12, et12, h⟩ := of_bind h
      refine AQ.calm rfl 20 rfl (by decide) (eI64 t12) (Calm.call (args := [(e26 p0), (eI64 x6), (eI64 (w64 (byteAt p2 x7)))]) rfl rfl ok58 ⟨rfl, rfl, rfl, rfl, rfl, rfl, trivial⟩ rfl (bosketref08_Step_spec et12)) ?_
      refine AQ.calm rfl 1 rfl (by decide) (eI64 t12) (Calm.assign rfl rfl) ?_
      refine AQ.nil (ρ' := [(1, (eI64 t12)), (2, (eStr p2)), (3, (.ptr n4 0)), (7, (eI64 x7))]) ⟨rfl, rfl, rfl, rfl, trivial⟩ ?_
      refine AW.reg ?_
      refine AO.calm rfl 12 rfl (by decide) (eI64 x7) (Calm.move rfl rfl) ?_
      refine AO.calm rfl 13 rfl (by decide) (eI64 (w64 (x7 + (1 : Int)))) (Calm.int rfl rfl rfl rfl) ?_
      refine AO.calm rfl 7 rfl (by decide) (eI64 (w64 (x7 + (1 : Int)))) (Calm.assign rfl rfl) ?_
      refine AO.nil (ρ' := [(1, (eI64 t12)), (2, (eStr p2)), (3, (.ptr n4 0)), (7, (eI64 (w64 (x7 + (1 : Int)))))]) (H' := [(n4, .mem (e26 p0))]) ⟨rfl, rfl, rfl, rfl, trivial⟩ (Sub.refl _) ?_
      exact ⟨kq9, Nat.lt_succ_self _, t12, (w64 (x7 + (1 : Int))), rfl, rfl, by rw [hrec8]; exact h⟩
    · have h := (if_neg hc10).symm.trans h
      refine AW.condN (x7 < (p2.size : Int)) rfl hc10 ?_
      refine AW.exit (ρ' := [(1, (eI64 x6))]) (H' := []) ⟨rfl, trivial⟩ (Sub.nil _) ?_
      exact ⟨x6, rfl, rfl, h⟩
  · rintro _ _ ⟨x5, rfl, rfl, h⟩
    rw [bosketref08_Run_c0.eq_1] at h
    refine AW.seq ?_
    refine AW.reg ?_
    refine AO.calm rfl 21 rfl (by decide) (eI64 x5) (Calm.move rfl rfl) ?_
    refine AO.calm rfl 6 rfl (by decide) (eI64 x5) (Calm.assign rfl rfl) ?_
    refine AO.nil (ρ' := [(6, (eI64 x5))]) (H' := []) ⟨rfl, trivial⟩ (Sub.refl _) ?_
    refine AW.ret (ρ' := [(6, (eI64 x5))]) (H' := []) ⟨rfl, trivial⟩ (Sub.refl _) ?_
    have hr := Option.some.inj h
    subst hr
    exact ⟨[(eI64 x5)], ⟨rfl, rfl, trivial⟩, rfl⟩
end Go.Avl.T1
