/- bosket/bosketref12.Longest; printed by avmain.py. -/
import Derived.Test.YthfongdjcpmpfaaAB
import Derived.Test.YthfongdjcpmpfaaAf19
import Derived.Test.YthfongdjcpmpfaaAf57
namespace Go.Avl.T1
open Go Go.RowKit Go.Proofs Go.Avl
set_option linter.unusedVariables false
set_option maxRecDepth 100000
set_option maxHeartbeats 4000000
attribute [local irreducible] AW AO AQ Spec SpecH Calm

def bosketref12_Longest_c0 (k : Nat) : Option (Int × Int) :=
  some ((-1 : Int), (0 : Int))
def bosketref12_Longest_l1 (k : Nat) (p0 : S26) (p1 : ByteArray) (p2 : Int) : Nat → Int → Option (Int × Int)
  | 0, _ => none
  | j + 1, x6 =>
    if p2 < x6 then if 0 ≤ p2 ∧ p2 ≤ x6 ∧ x6 ≤ (p1.size : Int) then (bosketref08_Run k p0 (0 : Int) (p1.extract p2.toNat x6.toNat)).bind fun t11 =>
    (bosketref08_Mark k p0 t11).bind fun t12 =>
    if (0 : Int) ≤ t12 then some (t12, (w64 (x6 - p2)))
    else (bosketref12_Longest_l1 k p0 p1 p2 j) (w64 (x6 - (1 : Int)))
    else none
    else bosketref12_Longest_c0 k
def bosketref12_Longest (k : Nat) (p0 : S26) (p1 : ByteArray) (p2 : Int) : Option (Int × Int) :=
  if p2 < (0 : Int) then some ((-1 : Int), (0 : Int))
  else bosketref12_Longest_l1 k p0 p1 p2 k (p1.size : Int)
theorem bosketref12_Longest_spec {k : Nat} {p0 : S26} {p1 : ByteArray} {p2 : Int} {r : (Int × Int)} (h : bosketref12_Longest k p0 p1 p2 = some r) : Spec Try.prog 16 [(e26 p0), (eStr p1), (eI64 p2)] (.tup [(eI64 r.1), (eI64 r.2)]) := by
  rw [bosketref12_Longest.eq_1] at h
  refine Spec.intro (res := [.tmp 6, .tmp 7]) Try.func16 rfl rfl rfl (Nat.le_of_ble_eq_true rfl) ?_
  refine AW.seq ?_
  refine AW.reg ?_
  refine AO.box rfl 3 rfl (by decide) rfl rfl rfl fun n4 => ?_
  refine AO.calm rfl 6 rfl (by decide) (eI64 (0 : Int)) (Calm.assign rfl rfl) ?_
  refine AO.calm rfl 7 rfl (by decide) (eI64 (0 : Int)) (Calm.assign rfl rfl) ?_
  refine AO.nil (ρ' := [(1, (eStr p1)), (2, (eI64 p2)), (3, (.ptr n4 0))]) (H' := [(n4, .mem (e26 p0))]) ⟨rfl, rfl, rfl, trivial⟩ (Sub.refl _) ?_
  refine AW.seq ?_
  refine AW.seq ?_
  refine AW.reg ?_
  refine AO.calm rfl 10 rfl (by decide) (eI64 p2) (Calm.move rfl rfl) ?_
  refine AO.calm rfl 11 rfl (by decide) (eBool (decide (p2 < (0 : Int)))) (Calm.int rfl rfl rfl rfl) ?_
  refine AO.nil (ρ' := [(1, (eStr p1)), (2, (eI64 p2)), (3, (.ptr n4 0)), (11, (eBool (decide (p2 < (0 : Int)))))]) (H' := [(n4, .mem (e26 p0))]) ⟨rfl, rfl, rfl, rfl, trivial⟩ (Sub.refl _) ?_
  by_cases hc5 : p2 < (0 : Int)
  · have h := (if_pos hc5).symm.trans h
    refine AW.condP (p2 < (0 : Int)) rfl hc5 ?_
    refine AW.seq ?_
    refine AW.reg ?_
    refine AO.calm rfl 6 rfl (by decide) (eI64 (-1 : Int)) (Calm.assign rfl rfl) ?_
    refine AO.calm rfl 7 rfl (by decide) (eI64 (0 : Int)) (Calm.assign rfl rfl) ?_
    refine AO.nil (ρ' := [(6, (eI64 (-1 : Int))), (7, (eI64 (0 : Int)))]) (H' := []) ⟨rfl, rfl, trivial⟩ (Sub.nil _) ?_
    refine AW.ret (ρ' := [(6, (eI64 (-1 : Int))), (7, (eI64 (0 : Int)))]) (H' := []) ⟨rfl, rfl, trivial⟩ (Sub.refl _) ?_
    have hr := Option.some.inj h
    subst hr
    exact ⟨[(eI64 (-1 : Int)), (eI64 (0 : Int))], ⟨rfl, rfl, rfl, rfl, trivial⟩, rfl⟩
  · have h := (if_neg hc5).symm.trans h
    refine AW.condN (p2 < (0 : Int)) rfl hc5 ?_
    refine AW.skip (ρ' := [(1, (eStr p1)), (2, (eI64 p2)), (3, (.ptr n4 0))]) (H' := [(n4, .mem (e26 p0))]) ⟨rfl, rfl, rfl, trivial⟩ (Sub.refl _) ?_
    refine AW.seq_mid (fun ρ H => ρ = [] ∧ H = [] ∧ bosketref12_Longest_c0 k = some r) ?_ ?_
    · refine AW.seq ?_
      refine AW.reg ?_
      refine AO.calm rfl 12 rfl (by decide) (eStr p1) (Calm.move rfl rfl) ?_
      refine AO.calm rfl 13 rfl (by decide) (eI64 (p1.size : Int)) (Calm.lenStr rfl rfl Try.underlying9) ?_
      refine AO.calm rfl 8 rfl (by decide) (eI64 (p1.size : Int)) (Calm.assign rfl rfl) ?_
      refine AO.nil (ρ' := [(1, (eStr p1)), (2, (eI64 p2)), (3, (.ptr n4 0)), (8, (eI64 (p1.size : Int)))]) (H' := [(n4, .mem (e26 p0))]) ⟨rfl, rfl, rfl, rfl, trivial⟩ (Sub.refl _) ?_
      refine AW.block ?_
      refine AW.weak (ρ' := [(1, (eStr p1)), (2, (eI64 p2)), (3, (.ptr n4 0)), (8, (eI64 (p1.size : Int)))]) (H' := [(n4, .mem (e26 p0))]) ⟨rfl, rfl, rfl, rfl, trivial⟩ (Sub.refl _) ?_
      refine AW.loop (fun kq ρ H => ∃ (x6 : Int), ρ = [(1, (eStr p1)), (2, (eI64 p2)), (3, (.ptr n4 0)), (8, (eI64 x6))] ∧ H = [(n4, .mem (e26 p0))] ∧ bosketref12_Longest_l1 k p0 p1 p2 kq x6 = some r) k ⟨(p1.size : Int), rfl, rfl, h⟩ ?_
      rintro kq8 _ _ ⟨x6, rfl, rfl, h⟩
      cases kq8 with
      | zero => rw [bosketref12_Longest_l1.eq_1] at h; cases h
      | succ kq8 =>
      rw [bosketref12_Longest_l1.eq_2] at h
      generalize hrec7 : bosketref12_Longest_l1 k p0 p1 p2 kq8 = rec7 at h
      refine AW.seq ?_
      refine AW.seq ?_
      refine AW.reg ?_
      refine AO.calm rfl 14 rfl (by decide) (eI64 x6) (Calm.move rfl rfl) ?_
      refine AO.calm rfl 15 rfl (by decide) (eI64 p2) (Calm.move rfl rfl) ?_
      refine AO.calm rfl 16 rfl (by decide) (eBool (decide (p2 < x6))) (Calm.int rfl rfl rfl rfl) ?_
      refine AO.nil (ρ' := [(1, (eStr p1)), (2, (eI64 p2)), (3, (.ptr n4 0)), (8, (eI64 x6)), (16, (eBool (decide (p2 < x6))))]) (H' := [(n4, .mem (e26 p0))]) ⟨rfl, rfl, rfl, rfl, rfl, trivial⟩ (Sub.refl _) ?_
      by_cases hc9 : p2 < x6
      · have h := (if_pos hc9).symm.trans h
        refine AW.condP (p2 < x6) rfl hc9 ?_
        refine AW.skip (ρ' := [(1, (eStr p1)), (2, (eI64 p2)), (3, (.ptr n4 0)), (8, (eI64 x6))]) (H' := [(n4, .mem (e26 p0))]) ⟨rfl, rfl, rfl, rfl, trivial⟩ (Sub.refl _) ?_
        refine AW.seq ?_
        refine AW.block ?_
        refine AW.seq ?_
        refine AW.regQ (by rfl) (by decide +kernel) ?_
        refine AQ.calm rfl 19 rfl (by decide) (e26 p0) (Calm.load 0 rfl rfl rfl (At.cast At.here rfl) ag26 sz26) ?_
        refine AQ.calm rfl 20 rfl (by decide) (e26 p0) (Calm.load 0 rfl rfl rfl (At.cast At.here rfl) ag26 sz26) ?_
        refine AQ.calm rfl 21 rfl (by decide) (eStr p1) (Calm.move rfl rfl) ?_
        refine AQ.calm rfl 22 rfl (by decide) (eI64 p2) (Calm.move rfl rfl) ?_
        refine AQ.calm rfl 23 rfl (by decide) (eI64 x6) (Calm.move rfl rfl) ?_
        obtain ⟨hg10, h⟩ := of_guard h
        refine AQ.calm rfl 24 rfl (by decide) (eStr (p1.extract p2.toNat x6.toNat)) (Calm.sliceS rfl rfl rfl rfl hg10 Try.underlying9) ?_
        obtain ⟨t11, et11, h⟩ := of_bind h
        refine AQ.calm rfl 25 rfl (by decide) (eI64 t11) (Calm.call (args := [(e26 p0), (eI64 (0 : Int)), (eStr (p1.extract p2.toNat x6.toNat))]) rfl rfl ok19 ⟨rfl, rfl, rfl, rfl, rfl, rfl, trivial⟩ rfl (bosketref08_Run_spec et11)) ?_
        obtain ⟨t12, et12, h⟩ := of_bind h
        refine AQ.calm rfl 26 rfl (by decide) (eI64 t12) (Calm.call (args := [(e26 p0), (eI64 t11)]) rfl rfl ok57 ⟨rfl, rfl, rfl, rfl, trivial⟩ rfl (bosketref08_Mark_spec et12)) ?_
        refine AQ.calm rfl 9 rfl (by decide) (eI64 t12) (Calm.assign rfl rfl) ?_
        refine AQ.nil (ρ' := [(1, (eStr p1)), (2, (eI64 p2)), (3, (.ptr n4 0)), (8, (eI64 x6)), (9, (eI64 t12))]) ⟨rfl, rfl, rfl, rfl, rfl, trivial⟩ ?_
        refine AW.seq ?_
        refine AW.reg ?_
        refine AO.calm rfl 27 rfl (by decide) (eI64 t12) (Calm.move rfl rfl) ?_
        refine AO.calm rfl 28 rfl (by decide) (eBool (decide ((0 : Int) ≤ t12))) (Calm.int rfl rfl rfl rfl) ?_
        refine AO.nil (ρ' := [(1, (eStr p1)), (2, (eI64 p2)), (3, (.ptr n4 0)), (8, (eI64 x6)), (9, (eI64 t12)), (28, (eBool (decide ((0 : Int) ≤ t12))))]) (H' := [(n4, .mem (e26 p0))]) ⟨rfl, rfl, rfl, rfl, rfl, rfl, trivial⟩ (Sub.refl _) ?_
        by_cases hc13 : (0 : Int) ≤ t12
        · have h := (if_pos hc13).symm.trans h
          refine AW.condP ((0 : Int) ≤ t12) rfl hc13 ?_
          refine AW.seq ?_
          refine AW.reg ?_
          refine AO.calm rfl 29 rfl (by decide) (eI64 t12) (Calm.move rfl rfl) ?_
          refine AO.calm rfl 30 rfl (by decide) (eI64 x6) (Calm.move rfl rfl) ?_
          refine AO.calm rfl 31 rfl (by decide) (eI64 p2) (Calm.move rfl rfl) ?_
          refine AO.calm rfl 32 rfl (by decide) (eI64 (w64 (x6 - p2))) (Calm.int rfl rfl rfl rfl) ?_
          refine AO.calm rfl 6 rfl (by decide) (eI64 t12) (Calm.assign rfl rfl) ?_
          refine AO.calm rfl 7 rfl (by decide) (eI64 (w64 (x6 - p2))) (Calm.assign rfl rfl) ?_
          refine AO.nil (ρ' := [(6, (eI64 t12)), (7, (eI64 (w64 (x6 - p2))))]) (H' := []) ⟨rfl, rfl, trivial⟩ (Sub.nil _) ?_
          refine AW.ret (ρ' := [(6, (eI64 t12)), (7, (eI64 (w64 (x6 - p2))))]) (H' := []) ⟨rfl, rfl, trivial⟩ (Sub.refl _) ?_
          have hr := Option.some.inj h
          subst hr
          exact ⟨[(eI64 t12), (eI64 (w64 (x6 - p2)))], ⟨rfl, rfl, rfl, rfl, trivial⟩, rfl⟩
        · have h := (if_neg hc13).symm.trans h
          refine AW.condN ((0 : Int) ≤ t12) rfl hc13 ?_
          refine AW.skip (ρ' := [(1, (eStr p1)), (2, (eI64 p2)), (3, (.ptr n4 0)), (8, (eI64 x6))]) (H' := [(n4, .mem (e26 p0))]) ⟨rfl, rfl, rfl, rfl, trivial⟩ (Sub.refl _) ?_
          refine AW.reg ?_
          refine AO.calm rfl 17 rfl (by decide) (eI64 x6) (Calm.move rfl rfl) ?_
          refine AO.calm rfl 18 rfl (by decide) (eI64 (w64 (x6 - (1 : Int)))) (Calm.int rfl rfl rfl rfl) ?_
          refine AO.calm rfl 8 rfl (by decide) (eI64 (w64 (x6 - (1 : Int)))) (Calm.assign rfl rfl) ?_
          refine AO.nil (ρ' := [(1, (eStr p1)), (2, (eI64 p2)), (3, (.ptr n4 0)), (8, (eI64 (w64 (x6 - (1 : Int)))))]) (H' := [(n4, .mem (e26 p0))]) ⟨rfl, rfl, rfl, rfl, trivial⟩ (Sub.refl _) ?_
          exact ⟨kq8, Nat.lt_succ_self _, (w64 (x6 - (1 : Int))), rfl, rfl, by rw [hrec7]; exact h⟩
      · have h := (if_neg hc9).symm.trans h
        refine AW.condN (p2 < x6) rfl hc9 ?_
        refine AW.exit (ρ' := []) (H' := []) trivial (Sub.nil _) ?_
        exact ⟨rfl, rfl, h⟩
    · rintro _ _ ⟨rfl, rfl, h⟩
      rw [bosketref12_Longest_c0.eq_1] at h
      refine AW.seq ?_
      refine AW.reg ?_
      refine AO.calm rfl 6 rfl (by decide) (eI64 (-1 : Int)) (Calm.assign rfl rfl) ?_
      refine AO.calm rfl 7 rfl (by decide) (eI64 (0 : Int)) (Calm.assign rfl rfl) ?_
      refine AO.nil (ρ' := [(6, (eI64 (-1 : Int))), (7, (eI64 (0 : Int)))]) (H' := []) ⟨rfl, rfl, trivial⟩ (Sub.refl _) ?_
      refine AW.ret (ρ' := [(6, (eI64 (-1 : Int))), (7, (eI64 (0 : Int)))]) (H' := []) ⟨rfl, rfl, trivial⟩ (Sub.refl _) ?_
      have hr := Option.some.inj h
      subst hr
      exact ⟨[(eI64 (-1 : Int)), (eI64 (0 : Int))], ⟨rfl, rfl, rfl, rfl, trivial⟩, rfl⟩
end Go.Avl.T1
