/- bosket/bosketref12.Same; printed by avmain.py. -/
import Derived.Test.YthfongdjcpmpfaaAB
namespace Go.Avl.T1
open Go Go.RowKit Go.Proofs Go.Avl
set_option linter.unusedVariables false
set_option maxRecDepth 100000
set_option maxHeartbeats 4000000
attribute [local irreducible] AW AO AQ Spec SpecH Calm

def bosketref12_Same_c0 (k : Nat) : Option Bool :=
  some (true)
def bosketref12_Same_l1 (k : Nat) (p0 : (List S61)) (p1 : (List S61)) : Nat → Int → Option Bool
  | 0, _ => none
  | j + 1, x4 =>
    if x4 < (p0.length : Int) then Option.bind (α := Bool) (if 0 ≤ x4 ∧ x4 < (p0.length : Int) then if 0 ≤ x4 ∧ x4 < (p1.length : Int) then if ((lget p0 x4).f0) ≠ ((lget p1 x4).f0) then some (true)
    else if 0 ≤ x4 ∧ x4 < (p0.length : Int) then if 0 ≤ x4 ∧ x4 < (p1.length : Int) then some (decide (((lget p0 x4).f1) ≠ ((lget p1 x4).f1)))
    else none
    else none
    else none
    else none) fun b8 =>
    if b8 = true then some (false)
    else (bosketref12_Same_l1 k p0 p1 j) (w64 (x4 + (1 : Int)))
    else bosketref12_Same_c0 k
def bosketref12_Same (k : Nat) (p0 : (List S61)) (p1 : (List S61)) : Option Bool :=
  if (p0.length : Int) ≠ (p1.length : Int) then some (false)
  else bosketref12_Same_l1 k p0 p1 k (0 : Int)
theorem bosketref12_Same_spec {k : Nat} {p0 : (List S61)} {p1 : (List S61)} {r : Bool} (h : bosketref12_Same k p0 p1 = some r) : Spec Try.prog 36 [(.fz 3 (p0.map e61)), (.fz 3 (p1.map e61))] (eBool r) := by
  rw [bosketref12_Same.eq_1] at h
  refine Spec.intro (res := [.tmp 4]) Try.func36 rfl rfl rfl (Nat.le_of_ble_eq_true rfl) ?_
  refine AW.seq ?_
  refine AW.reg ?_
  refine AO.calm rfl 4 rfl (by decide) (eBool false) (Calm.assign rfl rfl) ?_
  refine AO.nil (ρ' := [(0, (.fz 3 (p0.map e61))), (1, (.fz 3 (p1.map e61)))]) (H' := []) ⟨rfl, rfl, trivial⟩ (Sub.refl _) ?_
  refine AW.seq ?_
  refine AW.seq ?_
  refine AW.reg ?_
  refine AO.calm rfl 6 rfl (by decide) (.fz 3 (p0.map e61)) (Calm.move rfl rfl) ?_
  refine AO.calm rfl 7 rfl (by decide) (eI64 (p0.length : Int)) (Calm.lenL rfl rfl Try.underlying55) ?_
  refine AO.calm rfl 8 rfl (by decide) (.fz 3 (p1.map e61)) (Calm.move rfl rfl) ?_
  refine AO.calm rfl 9 rfl (by decide) (eI64 (p1.length : Int)) (Calm.lenL rfl rfl Try.underlying55) ?_
  refine AO.calm rfl 10 rfl (by decide) (eBool (decide ((p0.length : Int) ≠ (p1.length : Int)))) (Calm.int rfl rfl rfl rfl) ?_
  refine AO.nil (ρ' := [(0, (.fz 3 (p0.map e61))), (1, (.fz 3 (p1.map e61))), (10, (eBool (decide ((p0.length : Int) ≠ (p1.length : Int)))))]) (H' := []) ⟨rfl, rfl, rfl, trivial⟩ (Sub.refl _) ?_
  by_cases hc3 : (p0.length : Int) ≠ (p1.length : Int)
  · have h := (if_pos hc3).symm.trans h
    refine AW.condP ((p0.length : Int) ≠ (p1.length : Int)) rfl hc3 ?_
    refine AW.seq ?_
    refine AW.reg ?_
    refine AO.calm rfl 4 rfl (by decide) (eBool false) (Calm.assign rfl rfl) ?_
    refine AO.nil (ρ' := [(4, (eBool false))]) (H' := []) ⟨rfl, trivial⟩ (Sub.refl _) ?_
    refine AW.ret (ρ' := [(4, (eBool false))]) (H' := []) ⟨rfl, trivial⟩ (Sub.refl _) ?_
    have hr := Option.some.inj h
    subst hr
    exact ⟨[(eBool false)], ⟨rfl, rfl, trivial⟩, rfl⟩
  · have h := (if_neg hc3).symm.trans h
    refine AW.condN ((p0.length : Int) ≠ (p1.length : Int)) rfl hc3 ?_
    refine AW.skip (ρ' := [(0, (.fz 3 (p0.map e61))), (1, (.fz 3 (p1.map e61)))]) (H' := []) ⟨rfl, rfl, trivial⟩ (Sub.refl _) ?_
    refine AW.seq_mid (fun ρ H => ρ = [] ∧ H = [] ∧ bosketref12_Same_c0 k = some r) ?_ ?_
    · refine AW.seq ?_
      refine AW.reg ?_
      refine AO.calm rfl 5 rfl (by decide) (eI64 (0 : Int)) (Calm.assign rfl rfl) ?_
      refine AO.nil (ρ' := [(0, (.fz 3 (p0.map e61))), (1, (.fz 3 (p1.map e61))), (5, (eI64 (0 : Int)))]) (H' := []) ⟨rfl, rfl, rfl, trivial⟩ (Sub.refl _) ?_
      refine AW.block ?_
      refine AW.weak (ρ' := [(0, (.fz 3 (p0.map e61))), (1, (.fz 3 (p1.map e61))), (5, (eI64 (0 : Int)))]) (H' := []) ⟨rfl, rfl, rfl, trivial⟩ (Sub.refl _) ?_
      refine AW.loop (fun kq ρ H => ∃ (x4 : Int), ρ = [(0, (.fz 3 (p0.map e61))), (1, (.fz 3 (p1.map e61))), (5, (eI64 x4))] ∧ H = [] ∧ bosketref12_Same_l1 k p0 p1 kq x4 = some r) k ⟨(0 : Int), rfl, rfl, h⟩ ?_
      rintro kq6 _ _ ⟨x4, rfl, rfl, h⟩
      cases kq6 with
      | zero => rw [bosketref12_Same_l1.eq_1] at h; cases h
      | succ kq6 =>
      rw [bosketref12_Same_l1.eq_2] at h
      generalize hrec5 : bosketref12_Same_l1 k p0 p1 kq6 = rec5 at h
      refine AW.seq ?_
      refine AW.seq ?_
      refine AW.reg ?_
      refine AO.calm rfl 11 rfl (by decide) (eI64 x4) (Calm.move rfl rfl) ?_
      refine AO.calm rfl 12 rfl (by decide) (.fz 3 (p0.map e61)) (Calm.move rfl rfl) ?_
      refine AO.calm rfl 13 rfl (by decide) (eI64 (p0.length : Int)) (Calm.lenL rfl rfl Try.underlying55) ?_
      refine AO.calm rfl 14 rfl (by decide) (eBool (decide (x4 < (p0.length : Int)))) (Calm.int rfl rfl rfl rfl) ?_
      refine AO.nil (ρ' := [(0, (.fz 3 (p0.map e61))), (1, (.fz 3 (p1.map e61))), (5, (eI64 x4)), (14, (eBool (decide (x4 < (p0.length : Int)))))]) (H' := []) ⟨rfl, rfl, rfl, rfl, trivial⟩ (Sub.refl _) ?_
      by_cases hc7 : x4 < (p0.length : Int)
      · have h := (if_pos hc7).symm.trans h
        refine AW.condP (x4 < (p0.length : Int)) rfl hc7 ?_
        refine AW.skip (ρ' := [(0, (.fz 3 (p0.map e61))), (1, (.fz 3 (p1.map e61))), (5, (eI64 x4))]) (H' := []) ⟨rfl, rfl, rfl, trivial⟩ (Sub.refl _) ?_
        refine AW.seq ?_
        refine AW.block ?_
        refine AW.seq ?_
        obtain ⟨b8, hq9, h⟩ := of_bind h
        refine AW.regQM (by rfl) (by decide +kernel) [(0, (.fz 3 (p0.map e61))), (1, (.fz 3 (p1.map e61))), (5, (eI64 x4)), (40, (eBool b8))] ?_ ?_
        · refine AQ.calm rfl 17 rfl (by decide) (.fz 3 (p0.map e61)) (Calm.move rfl rfl) ?_
          refine AQ.calm rfl 18 rfl (by decide) (eI64 x4) (Calm.move rfl rfl) ?_
          obtain ⟨hg10, hq9⟩ := of_guard hq9
          refine AQ.calm rfl 19 rfl (by decide) (.rp (e61 (lget p0 x4))) (Calm.idxL (f := e61) rfl rfl rfl hg10 Try.underlying55 sz61) ?_
          refine AQ.calm rfl 20 rfl (by decide) (.rp (eI64 ((lget p0 x4).f0))) (Calm.fldRp rfl rfl Try.underlying61 rfl sz3 (At.cast (At.fld0 At.here) rfl)) ?_
          refine AQ.calm rfl 21 rfl (by decide) (eI64 ((lget p0 x4).f0)) (Calm.loadRp rfl rfl ag3 sz3) ?_
          refine AQ.calm rfl 22 rfl (by decide) (.fz 3 (p1.map e61)) (Calm.move rfl rfl) ?_
          refine AQ.calm rfl 23 rfl (by decide) (eI64 x4) (Calm.move rfl rfl) ?_
          obtain ⟨hg11, hq9⟩ := of_guard hq9
          refine AQ.calm rfl 24 rfl (by decide) (.rp (e61 (lget p1 x4))) (Calm.idxL (f := e61) rfl rfl rfl hg11 Try.underlying55 sz61) ?_
          refine AQ.calm rfl 25 rfl (by decide) (.rp (eI64 ((lget p1 x4).f0))) (Calm.fldRp rfl rfl Try.underlying61 rfl sz3 (At.cast (At.fld0 At.here) rfl)) ?_
          refine AQ.calm rfl 26 rfl (by decide) (eI64 ((lget p1 x4).f0)) (Calm.loadRp rfl rfl ag3 sz3) ?_
          refine AQ.calm rfl 27 rfl (by decide) (eBool (decide (((lget p0 x4).f0) ≠ ((lget p1 x4).f0)))) (Calm.int rfl rfl rfl rfl) ?_
          refine AQ.calm rfl 28 rfl (by decide) (eBool (decide (((lget p0 x4).f0) ≠ ((lget p1 x4).f0)))) (Calm.move rfl rfl) ?_
          by_cases hc12 : ((lget p0 x4).f0) ≠ ((lget p1 x4).f0)
          · have hq9 := (if_pos hc12).symm.trans hq9
            refine AQ.skipG 11 true 28 rfl rfl (congrArg (fun b => some (AV.fl (Value.bool b))) (decide_eq_true hc12)) 29 rfl (by decide) ?_
            refine AQ.skipG 11 true 28 rfl rfl (congrArg (fun b => some (AV.fl (Value.bool b))) (decide_eq_true hc12)) 30 rfl (by decide) ?_
            refine AQ.skipG 11 true 28 rfl rfl (congrArg (fun b => some (AV.fl (Value.bool b))) (decide_eq_true hc12)) 31 rfl (by decide) ?_
            refine AQ.skipG 11 true 28 rfl rfl (congrArg (fun b => some (AV.fl (Value.bool b))) (decide_eq_true hc12)) 32 rfl (by decide) ?_
            refine AQ.skipG 11 true 28 rfl rfl (congrArg (fun b => some (AV.fl (Value.bool b))) (decide_eq_true hc12)) 33 rfl (by decide) ?_
            refine AQ.skipG 11 true 28 rfl rfl (congrArg (fun b => some (AV.fl (Value.bool b))) (decide_eq_true hc12)) 34 rfl (by decide) ?_
            refine AQ.skipG 11 true 28 rfl rfl (congrArg (fun b => some (AV.fl (Value.bool b))) (decide_eq_true hc12)) 35 rfl (by decide) ?_
            refine AQ.skipG 11 true 28 rfl rfl (congrArg (fun b => some (AV.fl (Value.bool b))) (decide_eq_true hc12)) 36 rfl (by decide) ?_
            refine AQ.skipG 11 true 28 rfl rfl (congrArg (fun b => some (AV.fl (Value.bool b))) (decide_eq_true hc12)) 37 rfl (by decide) ?_
            refine AQ.skipG 11 true 28 rfl rfl (congrArg (fun b => some (AV.fl (Value.bool b))) (decide_eq_true hc12)) 38 rfl (by decide) ?_
            refine AQ.skipG 11 true 28 rfl rfl (congrArg (fun b => some (AV.fl (Value.bool b))) (decide_eq_true hc12)) 39 rfl (by decide) ?_
            refine AQ.calm rfl 40 rfl (by decide) (eBool true) (Calm.pickT rfl (congrArg (fun b => some (AV.fl (Value.bool b))) (decide_eq_true hc12)) rfl) ?_
            cases hq9
            refine AQ.nilE rfl ?_
            exact ⟨rfl, rfl, rfl, rfl, trivial⟩
          · have hq9 := (if_neg hc12).symm.trans hq9
            refine AQ.calmG 11 false 28 rfl rfl (congrArg (fun b => some (AV.fl (Value.bool b))) (decide_eq_false hc12)) 29 rfl (by decide) (.fz 3 (p0.map e61)) (Calm.move rfl rfl) ?_
            refine AQ.calmG 11 false 28 rfl rfl (congrArg (fun b => some (AV.fl (Value.bool b))) (decide_eq_false hc12)) 30 rfl (by decide) (eI64 x4) (Calm.move rfl rfl) ?_
            obtain ⟨hg13, hq9⟩ := of_guard hq9
            refine AQ.calmG 11 false 28 rfl rfl (congrArg (fun b => some (AV.fl (Value.bool b))) (decide_eq_false hc12)) 31 rfl (by decide) (.rp (e61 (lget p0 x4))) (Calm.idxL (f := e61) rfl rfl rfl hg13 Try.underlying55 sz61) ?_
            refine AQ.calmG 11 false 28 rfl rfl (congrArg (fun b => some (AV.fl (Value.bool b))) (decide_eq_false hc12)) 32 rfl (by decide) (.rp (eStr ((lget p0 x4).f1))) (Calm.fldRp rfl rfl Try.underlying61 rfl sz9 (At.cast (At.fldS (At.fld0 At.here)) rfl)) ?_
            refine AQ.calmG 11 false 28 rfl rfl (congrArg (fun b => some (AV.fl (Value.bool b))) (decide_eq_false hc12)) 33 rfl (by decide) (eStr ((lget p0 x4).f1)) (Calm.loadRp rfl rfl ag9 sz9) ?_
            refine AQ.calmG 11 false 28 rfl rfl (congrArg (fun b => some (AV.fl (Value.bool b))) (decide_eq_false hc12)) 34 rfl (by decide) (.fz 3 (p1.map e61)) (Calm.move rfl rfl) ?_
            refine AQ.calmG 11 false 28 rfl rfl (congrArg (fun b => some (AV.fl (Value.bool b))) (decide_eq_false hc12)) 35 rfl (by decide) (eI64 x4) (Calm.move rfl rfl) ?_
            obtain ⟨hg14, hq9⟩ := of_guard hq9
            refine AQ.calmG 11 false 28 rfl rfl (congrArg (fun b => some (AV.fl (Value.bool b))) (decide_eq_false hc12)) 36 rfl (by decide) (.rp (e61 (lget p1 x4))) (Calm.idxL (f := e61) rfl rfl rfl hg14 Try.underlying55 sz61) ?_
            refine AQ.calmG 11 false 28 rfl rfl (congrArg (fun b => some (AV.fl (Value.bool b))) (decide_eq_false hc12)) 37 rfl (by decide) (.rp (eStr ((lget p1 x4).f1))) (Calm.fldRp rfl rfl Try.underlying61 rfl sz9 (At.cast (At.fldS (At.fld0 At.here)) rfl)) ?_
            refine AQ.calmG 11 false 28 rfl rfl (congrArg (fun b => some (AV.fl (Value.bool b))) (decide_eq_false hc12)) 38 rfl (by decide) (eStr ((lget p1 x4).f1)) (Calm.loadRp rfl rfl ag9 sz9) ?_
            refine AQ.calmG 11 false 28 rfl rfl (congrArg (fun b => some (AV.fl (Value.bool b))) (decide_eq_false hc12)) 39 rfl (by decide) (eBool (decide (((lget p0 x4).f1) ≠ ((lget p1 x4).f1)))) (Calm.str rfl rfl rfl rfl) ?_
            refine AQ.calm rfl 40 rfl (by decide) (eBool (decide (((lget p0 x4).f1) ≠ ((lget p1 x4).f1)))) (Calm.pickF rfl (congrArg (fun b => some (AV.fl (Value.bool b))) (decide_eq_false hc12)) rfl) ?_
            cases hq9
            refine AQ.nilE rfl ?_
            exact ⟨rfl, rfl, rfl, rfl, trivial⟩
        · by_cases hc15 : b8 = true
          · have h := (if_pos hc15).symm.trans h
            refine AW.condT' b8 rfl hc15 ?_
            refine AW.seq ?_
            refine AW.reg ?_
            refine AO.calm rfl 4 rfl (by decide) (eBool false) (Calm.assign rfl rfl) ?_
            refine AO.nil (ρ' := [(4, (eBool false))]) (H' := []) ⟨rfl, trivial⟩ (Sub.refl _) ?_
            refine AW.ret (ρ' := [(4, (eBool false))]) (H' := []) ⟨rfl, trivial⟩ (Sub.refl _) ?_
            have hr := Option.some.inj h
            subst hr
            exact ⟨[(eBool false)], ⟨rfl, rfl, trivial⟩, rfl⟩
          · have h := (if_neg hc15).symm.trans h
            refine AW.condF' b8 rfl hc15 ?_
            refine AW.skip (ρ' := [(0, (.fz 3 (p0.map e61))), (1, (.fz 3 (p1.map e61))), (5, (eI64 x4))]) (H' := []) ⟨rfl, rfl, rfl, trivial⟩ (Sub.refl _) ?_
            refine AW.reg ?_
            refine AO.calm rfl 15 rfl (by decide) (eI64 x4) (Calm.move rfl rfl) ?_
            refine AO.calm rfl 16 rfl (by decide) (eI64 (w64 (x4 + (1 : Int)))) (Calm.int rfl rfl rfl rfl) ?_
            refine AO.calm rfl 5 rfl (by decide) (eI64 (w64 (x4 + (1 : Int)))) (Calm.assign rfl rfl) ?_
            refine AO.nil (ρ' := [(0, (.fz 3 (p0.map e61))), (1, (.fz 3 (p1.map e61))), (5, (eI64 (w64 (x4 + (1 : Int)))))]) (H' := []) ⟨rfl, rfl, rfl, trivial⟩ (Sub.refl _) ?_
            exact ⟨kq6, Nat.lt_succ_self _, (w64 (x4 + (1 : Int))), rfl, rfl, by rw [hrec5]; exact h⟩
      · have h := (if_neg hc7).symm.trans h
        refine AW.condN (x4 < (p0.length : Int)) rfl hc7 ?_
        refine AW.exit (ρ' := []) (H' := []) trivial (Sub.refl _) ?_
        exact ⟨rfl, rfl, h⟩
    · rintro _ _ ⟨rfl, rfl, h⟩
      rw [bosketref12_Same_c0.eq_1] at h
      refine AW.seq ?_
      refine AW.reg ?_
      refine AO.calm rfl 4 rfl (by decide) (eBool true) (Calm.assign rfl rfl) ?_
      refine AO.nil (ρ' := [(4, (eBool true))]) (H' := []) ⟨rfl, trivial⟩ (Sub.refl _) ?_
      refine AW.ret (ρ' := [(4, (eBool true))]) (H' := []) ⟨rfl, trivial⟩ (Sub.refl _) ?_
      have hr := Option.some.inj h
      subst hr
      exact ⟨[(eBool true)], ⟨rfl, rfl, trivial⟩, rfl⟩
end Go.Avl.T1
