/- bosket/munch.Sure; printed by avmain.py. -/
import Derived.Test.YthfongdjcpmpfaaAB
import Derived.Test.YthfongdjcpmpfaaAf55
namespace Go.Avl.T1
open Go Go.RowKit Go.Proofs Go.Avl
set_option linter.unusedVariables false
set_option maxRecDepth 100000
set_option maxHeartbeats 4000000
attribute [local irreducible] AW AO AQ Spec SpecH Calm

def munch_Sure_c0 (k : Nat) (p1 : ByteArray) : Option Int :=
  some ((p1.size : Int))
def munch_Sure_l1 (k : Nat) (p0 : S26) (p1 : ByteArray) : Nat → Int → Int → Option Int
  | 0, _, _ => none
  | j + 1, x5, x6 =>
    Option.bind (α := Bool) (if (0 : Int) ≤ x6 then some (decide (x6 < (p1.size : Int)))
    else some (false)) fun b9 =>
    if b9 = true then if 0 ≤ x6 ∧ x6 < (p1.size : Int) then (dfa_Step k p0 x5 (byteAt p1 x6)).bind fun t14 =>
    if t14 = (-1 : Int) then some ((w64 (x6 + (1 : Int))))
    else (munch_Sure_l1 k p0 p1 j) t14 (w64 (x6 + (1 : Int)))
    else none
    else munch_Sure_c0 k p1
def munch_Sure (k : Nat) (p0 : S26) (p1 : ByteArray) (p2 : Int) : Option Int :=
  munch_Sure_l1 k p0 p1 k (0 : Int) p2
theorem munch_Sure_spec {k : Nat} {p0 : S26} {p1 : ByteArray} {p2 : Int} {r : Int} (h : munch_Sure k p0 p1 p2 = some r) : Spec Try.prog 18 [(e26 p0), (eStr p1), (eI64 p2)] (eI64 r) := by
  rw [munch_Sure.eq_1] at h
  refine Spec.intro (res := [.tmp 6]) Try.func18 rfl rfl rfl (Nat.le_of_ble_eq_true rfl) ?_
  refine AW.seq ?_
  refine AW.reg ?_
  refine AO.box rfl 3 rfl (by decide) rfl rfl rfl fun n4 => ?_
  refine AO.calm rfl 6 rfl (by decide) (eI64 (0 : Int)) (Calm.assign rfl rfl) ?_
  refine AO.nil (ρ' := [(1, (eStr p1)), (2, (eI64 p2)), (3, (.ptr n4 0))]) (H' := [(n4, .mem (e26 p0))]) ⟨rfl, rfl, rfl, trivial⟩ (Sub.refl _) ?_
  refine AW.seq ?_
  refine AW.reg ?_
  refine AO.calm rfl 7 rfl (by decide) (eI64 (0 : Int)) (Calm.assign rfl rfl) ?_
  refine AO.nil (ρ' := [(1, (eStr p1)), (2, (eI64 p2)), (3, (.ptr n4 0)), (7, (eI64 (0 : Int)))]) (H' := [(n4, .mem (e26 p0))]) ⟨rfl, rfl, rfl, rfl, trivial⟩ (Sub.refl _) ?_
  refine AW.seq_mid (fun ρ H => ρ = [(1, (eStr p1))] ∧ H = [] ∧ munch_Sure_c0 k p1 = some r) ?_ ?_
  · refine AW.seq ?_
    refine AW.reg ?_
    refine AO.calm rfl 9 rfl (by decide) (eI64 p2) (Calm.move rfl rfl) ?_
    refine AO.calm rfl 8 rfl (by decide) (eI64 p2) (Calm.assign rfl rfl) ?_
    refine AO.nil (ρ' := [(1, (eStr p1)), (3, (.ptr n4 0)), (7, (eI64 (0 : Int))), (8, (eI64 p2))]) (H' := [(n4, .mem (e26 p0))]) ⟨rfl, rfl, rfl, rfl, trivial⟩ (Sub.refl _) ?_
    refine AW.block ?_
    refine AW.weak (ρ' := [(1, (eStr p1)), (3, (.ptr n4 0)), (7, (eI64 (0 : Int))), (8, (eI64 p2))]) (H' := [(n4, .mem (e26 p0))]) ⟨rfl, rfl, rfl, rfl, trivial⟩ (Sub.refl _) ?_
    refine AW.loop (fun kq ρ H => ∃ (x5 : Int) (x6 : Int), ρ = [(1, (eStr p1)), (3, (.ptr n4 0)), (7, (eI64 x5)), (8, (eI64 x6))] ∧ H = [(n4, .mem (e26 p0))] ∧ munch_Sure_l1 k p0 p1 kq x5 x6 = some r) k ⟨(0 : Int), p2, rfl, rfl, h⟩ ?_
    rintro kq8 _ _ ⟨x5, x6, rfl, rfl, h⟩
    cases kq8 with
    | zero => rw [munch_Sure_l1.eq_1] at h; cases h
    | succ kq8 =>
    rw [munch_Sure_l1.eq_2] at h
    generalize hrec7 : munch_Sure_l1 k p0 p1 kq8 = rec7 at h
    refine AW.seq ?_
    refine AW.seq ?_
    obtain ⟨b9, hq10, h⟩ := of_bind h
    refine AW.regM [(1, (eStr p1)), (3, (.ptr n4 0)), (7, (eI64 x5)), (8, (eI64 x6)), (17, (eBool b9))] [(n4, .mem (e26 p0))] ?_ ?_
    · refine AO.calm rfl 10 rfl (by decide) (eI64 x6) (Calm.move rfl rfl) ?_
      refine AO.calm rfl 11 rfl (by decide) (eBool (decide ((0 : Int) ≤ x6))) (Calm.int rfl rfl rfl rfl) ?_
      refine AO.calm rfl 12 rfl (by decide) (eBool (decide ((0 : Int) ≤ x6))) (Calm.move rfl rfl) ?_
      by_cases hc11 : (0 : Int) ≤ x6
      · have hq10 := (if_pos hc11).symm.trans hq10
        refine AO.calmG 2 true 12 rfl rfl (congrArg (fun b => some (AV.fl (Value.bool b))) (decide_eq_true hc11)) 13 rfl (by decide) (eI64 x6) (Calm.move rfl rfl) ?_
        refine AO.calmG 2 true 12 rfl rfl (congrArg (fun b => some (AV.fl (Value.bool b))) (decide_eq_true hc11)) 14 rfl (by decide) (eStr p1) (Calm.move rfl rfl) ?_
        refine AO.calmG 2 true 12 rfl rfl (congrArg (fun b => some (AV.fl (Value.bool b))) (decide_eq_true hc11)) 15 rfl (by decide) (eI64 (p1.size : Int)) (Calm.lenStr rfl rfl Try.underlying9) ?_
        refine AO.calmG 2 true 12 rfl rfl (congrArg (fun b => some (AV.fl (Value.bool b))) (decide_eq_true hc11)) 16 rfl (by decide) (eBool (decide (x6 < (p1.size : Int)))) (Calm.int rfl rfl rfl rfl) ?_
        refine AO.calm rfl 17 rfl (by decide) (eBool (decide (x6 < (p1.size : Int)))) (Calm.pickT rfl (congrArg (fun b => some (AV.fl (Value.bool b))) (decide_eq_true hc11)) rfl) ?_
        cases hq10
        refine AO.nilE ⟨rfl, rfl⟩ ?_ ?_
        · exact ⟨rfl, rfl, rfl, rfl, rfl, trivial⟩
        · exact (Sub.refl _)
      · have hq10 := (if_neg hc11).symm.trans hq10
        refine AO.skipG 2 false 12 rfl rfl (congrArg (fun b => some (AV.fl (Value.bool b))) (decide_eq_false hc11)) 13 rfl (by decide) ?_
        refine AO.skipG 2 false 12 rfl rfl (congrArg (fun b => some (AV.fl (Value.bool b))) (decide_eq_false hc11)) 14 rfl (by decide) ?_
        refine AO.skipG 2 false 12 rfl rfl (congrArg (fun b => some (AV.fl (Value.bool b))) (decide_eq_false hc11)) 15 rfl (by decide) ?_
        refine AO.skipG 2 false 12 rfl rfl (congrArg (fun b => some (AV.fl (Value.bool b))) (decide_eq_false hc11)) 16 rfl (by decide) ?_
        refine AO.calm rfl 17 rfl (by decide) (eBool false) (Calm.pickF rfl (congrArg (fun b => some (AV.fl (Value.bool b))) (decide_eq_false hc11)) rfl) ?_
        cases hq10
        refine AO.nilE ⟨rfl, rfl⟩ ?_ ?_
        · exact ⟨rfl, rfl, rfl, rfl, rfl, trivial⟩
        · exact (Sub.refl _)
    · by_cases hc12 : b9 = true
      · have h := (if_pos hc12).symm.trans h
        refine AW.condT' b9 rfl hc12 ?_
        refine AW.skip (ρ' := [(1, (eStr p1)), (3, (.ptr n4 0)), (7, (eI64 x5)), (8, (eI64 x6))]) (H' := [(n4, .mem (e26 p0))]) ⟨rfl, rfl, rfl, rfl, trivial⟩ (Sub.refl _) ?_
        refine AW.seq ?_
        refine AW.block ?_
        refine AW.seq ?_
        refine AW.regQ (by rfl) (by decide +kernel) ?_
        refine AQ.calm rfl 20 rfl (by decide) (e26 p0) (Calm.load 0 rfl rfl rfl (At.cast At.here rfl) ag26 sz26) ?_
        refine AQ.calm rfl 21 rfl (by decide) (eI64 x5) (Calm.move rfl rfl) ?_
        refine AQ.calm rfl 22 rfl (by decide) (eStr p1) (Calm.move rfl rfl) ?_
        refine AQ.calm rfl 23 rfl (by decide) (eI64 x6) (Calm.move rfl rfl) ?_
        obtain ⟨hg13, h⟩ := of_guard h
        refine AQ.calm rfl 24 rfl (by decide) (eU8 (byteAt p1 x6)) (Calm.idxS rfl rfl rfl hg13 Try.underlying9) ?_
        obtain ⟨t14, et14, h⟩ := of_bind h
        refine AQ.calm rfl 25 rfl (by decide) (eI64 t14) (Calm.call (args := [(e26 p0), (eI64 x5), (eU8 (byteAt p1 x6))]) rfl rfl ok55 ⟨rfl, rfl, rfl, rfl, rfl, rfl, trivial⟩ rfl (dfa_Step_spec et14)) ?_
        refine AQ.calm rfl 7 rfl (by decide) (eI64 t14) (Calm.assign rfl rfl) ?_
        refine AQ.nil (ρ' := [(1, (eStr p1)), (3, (.ptr n4 0)), (7, (eI64 t14)), (8, (eI64 x6))]) ⟨rfl, rfl, rfl, rfl, trivial⟩ ?_
        refine AW.seq ?_
        refine AW.reg ?_
        refine AO.calm rfl 26 rfl (by decide) (eI64 t14) (Calm.move rfl rfl) ?_
        refine AO.calm rfl 27 rfl (by decide) (eBool (decide (t14 = (-1 : Int)))) (Calm.int rfl rfl rfl rfl) ?_
        refine AO.nil (ρ' := [(1, (eStr p1)), (3, (.ptr n4 0)), (7, (eI64 t14)), (8, (eI64 x6)), (27, (eBool (decide (t14 = (-1 : Int)))))]) (H' := [(n4, .mem (e26 p0))]) ⟨rfl, rfl, rfl, rfl, rfl, trivial⟩ (Sub.refl _) ?_
        by_cases hc15 : t14 = (-1 : Int)
        · have h := (if_pos hc15).symm.trans h
          refine AW.condP (t14 = (-1 : Int)) rfl hc15 ?_
          refine AW.seq ?_
          refine AW.reg ?_
          refine AO.calm rfl 28 rfl (by decide) (eI64 x6) (Calm.move rfl rfl) ?_
          refine AO.calm rfl 29 rfl (by decide) (eI64 (w64 (x6 + (1 : Int)))) (Calm.int rfl rfl rfl rfl) ?_
          refine AO.calm rfl 6 rfl (by decide) (eI64 (w64 (x6 + (1 : Int)))) (Calm.assign rfl rfl) ?_
          refine AO.nil (ρ' := [(6, (eI64 (w64 (x6 + (1 : Int)))))]) (H' := []) ⟨rfl, trivial⟩ (Sub.nil _) ?_
          refine AW.ret (ρ' := [(6, (eI64 (w64 (x6 + (1 : Int)))))]) (H' := []) ⟨rfl, trivial⟩ (Sub.refl _) ?_
          have hr := Option.some.inj h
          subst hr
          exact ⟨[(eI64 (w64 (x6 + (1 : Int))))], ⟨rfl, rfl, trivial⟩, rfl⟩
        · have h := (if_neg hc15).symm.trans h
          refine AW.condN (t14 = (-1 : Int)) rfl hc15 ?_
          refine AW.skip (ρ' := [(1, (eStr p1)), (3, (.ptr n4 0)), (7, (eI64 t14)), (8, (eI64 x6))]) (H' := [(n4, .mem (e26 p0))]) ⟨rfl, rfl, rfl, rfl, trivial⟩ (Sub.refl _) ?_
          refine AW.reg ?_
          refine AO.calm rfl 18 rfl (by decide) (eI64 x6) (Calm.move rfl rfl) ?_
          refine AO.calm rfl 19 rfl (by decide) (eI64 (w64 (x6 + (1 : Int)))) (Calm.int rfl rfl rfl rfl) ?_
          refine AO.calm rfl 8 rfl (by decide) (eI64 (w64 (x6 + (1 : Int)))) (Calm.assign rfl rfl) ?_
          refine AO.nil (ρ' := [(1, (eStr p1)), (3, (.ptr n4 0)), (7, (eI64 t14)), (8, (eI64 (w64 (x6 + (1 : Int)))))]) (H' := [(n4, .mem (e26 p0))]) ⟨rfl, rfl, rfl, rfl, trivial⟩ (Sub.refl _) ?_
          exact ⟨kq8, Nat.lt_succ_self _, t14, (w64 (x6 + (1 : Int))), rfl, rfl, by rw [hrec7]; exact h⟩
      · have h := (if_neg hc12).symm.trans h
        refine AW.condF' b9 rfl hc12 ?_
        refine AW.exit (ρ' := [(1, (eStr p1))]) (H' := []) ⟨rfl, trivial⟩ (Sub.nil _) ?_
        exact ⟨rfl, rfl, h⟩
  · rintro _ _ ⟨rfl, rfl, h⟩
    rw [munch_Sure_c0.eq_1] at h
    refine AW.seq ?_
    refine AW.reg ?_
    refine AO.calm rfl 30 rfl (by decide) (eStr p1) (Calm.move rfl rfl) ?_
    refine AO.calm rfl 31 rfl (by decide) (eI64 (p1.size : Int)) (Calm.lenStr rfl rfl Try.underlying9) ?_
    refine AO.calm rfl 6 rfl (by decide) (eI64 (p1.size : Int)) (Calm.assign rfl rfl) ?_
    refine AO.nil (ρ' := [(6, (eI64 (p1.size : Int)))]) (H' := []) ⟨rfl, trivial⟩ (Sub.refl _) ?_
    refine AW.ret (ρ' := [(6, (eI64 (p1.size : Int)))]) (H' := []) ⟨rfl, trivial⟩ (Sub.refl _) ?_
    have hr := Option.some.inj h
    subst hr
    exact ⟨[(eI64 (p1.size : Int))], ⟨rfl, rfl, trivial⟩, rfl⟩
end Go.Avl.T1
