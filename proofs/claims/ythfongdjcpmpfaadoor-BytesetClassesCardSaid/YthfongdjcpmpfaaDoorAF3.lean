/- Parts: TDf14, TDf15, TDf8, TDf11, TDf7, TDf5. -/
import Derived.Test.YthfongdjcpmpfaaDoorAF1
import Derived.Test.YthfongdjcpmpfaaDoorAF2
/- bosket/bosketref02.Class; printed by avmain.py. -/
namespace Go.Avl.TD
open Go Go.RowKit Go.Proofs Go.Avl
set_option linter.unusedVariables false
set_option maxRecDepth 100000
set_option maxHeartbeats 4000000
attribute [local irreducible] AW AO AQ Spec SpecH Calm

def bosketref02_Class_c0 (k : Nat) (p1 : Int) : Option Int :=
  some (p1)
def bosketref02_Class_c1 (k : Nat) (rec4 : (Int → Option Int)) (x3 : Int) : Option Int :=
  rec4 (w64 (x3 + (1 : Int)))
def bosketref02_Class_c2 (k : Nat) (rec4 : (Int → Option Int)) (x3 : Int) (b7 : Bool) : Option Int :=
  if b7 = true then some (x3)
  else bosketref02_Class_c1 k rec4 x3
def bosketref02_Class_l3 (k : Nat) (rec4 : (Int → Option Int)) (p0 : (List (Vector Int 4))) (p1 : Int) (x3 : Int) : Nat → Bool → Int → Option Int
  | 0, _, _ => none
  | j + 1, b9, x10 =>
    if x10 < (p0.length : Int) then Option.bind (α := Bool) (if b9 = true then if 0 ≤ x10 ∧ x10 < (p0.length : Int) then (bosketref02_Has k (lget p0 x10) p1).bind fun t18 =>
    if 0 ≤ x10 ∧ x10 < (p0.length : Int) then (bosketref02_Has k (lget p0 x10) x3).bind fun t20 =>
    some ((t18 == t20))
    else none
    else none
    else some (false)) fun b14 =>
    (bosketref02_Class_l3 k rec4 p0 p1 x3 j) b14 (w64 (x10 + (1 : Int)))
    else bosketref02_Class_c2 k rec4 x3 b9
def bosketref02_Class_l4 (k : Nat) (p0 : (List (Vector Int 4))) (p1 : Int) : Nat → Int → Option Int
  | 0, _ => none
  | j + 1, x3 =>
    if x3 < p1 then bosketref02_Class_l3 k (bosketref02_Class_l4 k p0 p1 j) p0 p1 x3 k true (0 : Int)
    else bosketref02_Class_c0 k p1
def bosketref02_Class (k : Nat) (p0 : (List (Vector Int 4))) (p1 : Int) : Option Int :=
  bosketref02_Class_l4 k p0 p1 k (0 : Int)
theorem bosketref02_Class_spec {k : Nat} {p0 : (List (Vector Int 4))} {p1 : Int} {r : Int} (h : bosketref02_Class k p0 p1 = some r) : Spec Tryd.prog 14 [(.fz 4 (p0.map e27)), (eI64 p1)] (eI64 r) := by
  rw [bosketref02_Class.eq_1] at h
  refine Spec.intro (res := [.tmp 4]) Tryd.func14 rfl rfl rfl (Nat.le_of_ble_eq_true rfl) ?_
  refine AW.seq ?_
  refine AW.reg ?_
  refine AO.calm rfl 4 rfl (by decide) (eI64 (0 : Int)) (Calm.assign rfl rfl) ?_
  refine AO.nil (ρ' := [(0, (.fz 4 (p0.map e27))), (1, (eI64 p1))]) (H' := []) ⟨rfl, rfl, trivial⟩ (Sub.refl _) ?_
  refine AW.seq_mid (fun ρ H => ρ = [(1, (eI64 p1))] ∧ H = [] ∧ bosketref02_Class_c0 k p1 = some r) ?_ ?_
  · refine AW.seq ?_
    refine AW.reg ?_
    refine AO.calm rfl 5 rfl (by decide) (eI64 (0 : Int)) (Calm.assign rfl rfl) ?_
    refine AO.nil (ρ' := [(0, (.fz 4 (p0.map e27))), (1, (eI64 p1)), (5, (eI64 (0 : Int)))]) (H' := []) ⟨rfl, rfl, rfl, trivial⟩ (Sub.refl _) ?_
    refine AW.block ?_
    refine AW.weak (ρ' := [(0, (.fz 4 (p0.map e27))), (1, (eI64 p1)), (5, (eI64 (0 : Int)))]) (H' := []) ⟨rfl, rfl, rfl, trivial⟩ (Sub.refl _) ?_
    refine AW.loop (fun kq ρ H => ∃ (x3 : Int), ρ = [(0, (.fz 4 (p0.map e27))), (1, (eI64 p1)), (5, (eI64 x3))] ∧ H = [] ∧ bosketref02_Class_l4 k p0 p1 kq x3 = some r) k ⟨(0 : Int), rfl, rfl, h⟩ ?_
    rintro kq5 _ _ ⟨x3, rfl, rfl, h⟩
    cases kq5 with
    | zero => rw [bosketref02_Class_l4.eq_1] at h; cases h
    | succ kq5 =>
    rw [bosketref02_Class_l4.eq_2] at h
    generalize hrec4 : bosketref02_Class_l4 k p0 p1 kq5 = rec4 at h
    refine AW.seq ?_
    refine AW.seq ?_
    refine AW.reg ?_
    refine AO.calm rfl 8 rfl (by decide) (eI64 x3) (Calm.move rfl rfl) ?_
    refine AO.calm rfl 9 rfl (by decide) (eI64 p1) (Calm.move rfl rfl) ?_
    refine AO.calm rfl 10 rfl (by decide) (eBool (decide (x3 < p1))) (Calm.int rfl rfl rfl rfl) ?_
    refine AO.nil (ρ' := [(0, (.fz 4 (p0.map e27))), (1, (eI64 p1)), (5, (eI64 x3)), (10, (eBool (decide (x3 < p1))))]) (H' := []) ⟨rfl, rfl, rfl, rfl, trivial⟩ (Sub.refl _) ?_
    by_cases hc6 : x3 < p1
    · have h := (if_pos hc6).symm.trans h
      refine AW.condP (x3 < p1) rfl hc6 ?_
      refine AW.skip (ρ' := [(0, (.fz 4 (p0.map e27))), (1, (eI64 p1)), (5, (eI64 x3))]) (H' := []) ⟨rfl, rfl, rfl, trivial⟩ (Sub.refl _) ?_
      refine AW.seq_mid (fun ρ H => ρ = [(0, (.fz 4 (p0.map e27))), (1, (eI64 p1)), (5, (eI64 x3))] ∧ H = [] ∧ bosketref02_Class_c1 k rec4 x3 = some r) ?_ ?_
      · refine AW.block ?_
        refine AW.seq ?_
        refine AW.reg ?_
        refine AO.calm rfl 6 rfl (by decide) (eBool true) (Calm.assign rfl rfl) ?_
        refine AO.nil (ρ' := [(0, (.fz 4 (p0.map e27))), (1, (eI64 p1)), (5, (eI64 x3)), (6, (eBool true))]) (H' := []) ⟨rfl, rfl, rfl, rfl, trivial⟩ (Sub.refl _) ?_
        refine AW.seq_mid (fun ρ H => ∃ (b7 : Bool), ρ = [(0, (.fz 4 (p0.map e27))), (1, (eI64 p1)), (5, (eI64 x3)), (6, (eBool b7))] ∧ H = [] ∧ bosketref02_Class_c2 k rec4 x3 b7 = some r) ?_ ?_
        · refine AW.seq ?_
          refine AW.reg ?_
          refine AO.calm rfl 7 rfl (by decide) (eI64 (0 : Int)) (Calm.assign rfl rfl) ?_
          refine AO.nil (ρ' := [(0, (.fz 4 (p0.map e27))), (1, (eI64 p1)), (5, (eI64 x3)), (6, (eBool true)), (7, (eI64 (0 : Int)))]) (H' := []) ⟨rfl, rfl, rfl, rfl, rfl, trivial⟩ (Sub.refl _) ?_
          refine AW.block ?_
          refine AW.weak (ρ' := [(0, (.fz 4 (p0.map e27))), (1, (eI64 p1)), (5, (eI64 x3)), (6, (eBool true)), (7, (eI64 (0 : Int)))]) (H' := []) ⟨rfl, rfl, rfl, rfl, rfl, trivial⟩ (Sub.refl _) ?_
          refine AW.loop (fun kq ρ H => ∃ (b9 : Bool) (x10 : Int), ρ = [(0, (.fz 4 (p0.map e27))), (1, (eI64 p1)), (5, (eI64 x3)), (6, (eBool b9)), (7, (eI64 x10))] ∧ H = [] ∧ bosketref02_Class_l3 k rec4 p0 p1 x3 kq b9 x10 = some r) k ⟨true, (0 : Int), rfl, rfl, h⟩ ?_
          rintro kq12 _ _ ⟨b9, x10, rfl, rfl, h⟩
          cases kq12 with
          | zero => rw [bosketref02_Class_l3.eq_1] at h; cases h
          | succ kq12 =>
          rw [bosketref02_Class_l3.eq_2] at h
          generalize hrec11 : bosketref02_Class_l3 k rec4 p0 p1 x3 kq12 = rec11 at h
          refine AW.seq ?_
          refine AW.seq ?_
          refine AW.reg ?_
          refine AO.calm rfl 13 rfl (by decide) (eI64 x10) (Calm.move rfl rfl) ?_
          refine AO.calm rfl 14 rfl (by decide) (.fz 4 (p0.map e27)) (Calm.move rfl rfl) ?_
          refine AO.calm rfl 15 rfl (by decide) (eI64 (p0.length : Int)) (Calm.lenL rfl rfl Tryd.underlying38) ?_
          refine AO.calm rfl 16 rfl (by decide) (eBool (decide (x10 < (p0.length : Int)))) (Calm.int rfl rfl rfl rfl) ?_
          refine AO.nil (ρ' := [(0, (.fz 4 (p0.map e27))), (1, (eI64 p1)), (5, (eI64 x3)), (6, (eBool b9)), (7, (eI64 x10)), (16, (eBool (decide (x10 < (p0.length : Int)))))]) (H' := []) ⟨rfl, rfl, rfl, rfl, rfl, rfl, trivial⟩ (Sub.refl _) ?_
          by_cases hc13 : x10 < (p0.length : Int)
          · have h := (if_pos hc13).symm.trans h
            refine AW.condP (x10 < (p0.length : Int)) rfl hc13 ?_
            refine AW.skip (ρ' := [(0, (.fz 4 (p0.map e27))), (1, (eI64 p1)), (5, (eI64 x3)), (6, (eBool b9)), (7, (eI64 x10))]) (H' := []) ⟨rfl, rfl, rfl, rfl, rfl, trivial⟩ (Sub.refl _) ?_
            refine AW.seq ?_
            refine AW.block ?_
            obtain ⟨b14, hq15, h⟩ := of_bind h
            refine AW.regQM (by rfl) (by decide +kernel) [(0, (.fz 4 (p0.map e27))), (1, (eI64 p1)), (5, (eI64 x3)), (6, (eBool b14)), (7, (eI64 x10))] ?_ ?_
            · refine AQ.calm rfl 19 rfl (by decide) (eBool b9) (Calm.move rfl rfl) ?_
              refine AQ.calm rfl 20 rfl (by decide) (eBool b9) (Calm.move rfl rfl) ?_
              by_cases hc16 : b9 = true
              · have hq15 := (if_pos hc16).symm.trans hq15
                refine AQ.calmG 1 true 20 rfl rfl (congrArg (fun b => some (AV.fl (Value.bool b))) hc16) 21 rfl (by decide) (.fz 4 (p0.map e27)) (Calm.move rfl rfl) ?_
                refine AQ.calmG 1 true 20 rfl rfl (congrArg (fun b => some (AV.fl (Value.bool b))) hc16) 22 rfl (by decide) (eI64 x10) (Calm.move rfl rfl) ?_
                obtain ⟨hg17, hq15⟩ := of_guard hq15
                refine AQ.calmG 1 true 20 rfl rfl (congrArg (fun b => some (AV.fl (Value.bool b))) hc16) 23 rfl (by decide) (.rp (.ar 1 ((lget p0 x10).toList.map eU64))) (Calm.idxL (f := e27) rfl rfl rfl hg17 Tryd.underlying38 sz27) ?_
                refine AQ.calmG 1 true 20 rfl rfl (congrArg (fun b => some (AV.fl (Value.bool b))) hc16) 24 rfl (by decide) (.ar 1 ((lget p0 x10).toList.map eU64)) (Calm.loadRp rfl rfl ag27 (by rw [sz27]; simp [AV.size])) ?_
                refine AQ.calmG 1 true 20 rfl rfl (congrArg (fun b => some (AV.fl (Value.bool b))) hc16) 25 rfl (by decide) (eI64 p1) (Calm.move rfl rfl) ?_
                obtain ⟨t18, et18, hq15⟩ := of_bind hq15
                refine AQ.calmG 1 true 20 rfl rfl (congrArg (fun b => some (AV.fl (Value.bool b))) hc16) 26 rfl (by decide) (eBool t18) (Calm.call (args := [(.ar 1 ((lget p0 x10).toList.map eU64)), (eI64 p1)]) rfl rfl ok22 ⟨rfl, rfl, rfl, rfl, trivial⟩ rfl (bosketref02_Has_spec et18)) ?_
                refine AQ.calmG 1 true 20 rfl rfl (congrArg (fun b => some (AV.fl (Value.bool b))) hc16) 27 rfl (by decide) (.fz 4 (p0.map e27)) (Calm.move rfl rfl) ?_
                refine AQ.calmG 1 true 20 rfl rfl (congrArg (fun b => some (AV.fl (Value.bool b))) hc16) 28 rfl (by decide) (eI64 x10) (Calm.move rfl rfl) ?_
                obtain ⟨hg19, hq15⟩ := of_guard hq15
                refine AQ.calmG 1 true 20 rfl rfl (congrArg (fun b => some (AV.fl (Value.bool b))) hc16) 29 rfl (by decide) (.rp (.ar 1 ((lget p0 x10).toList.map eU64))) (Calm.idxL (f := e27) rfl rfl rfl hg19 Tryd.underlying38 sz27) ?_
                refine AQ.calmG 1 true 20 rfl rfl (congrArg (fun b => some (AV.fl (Value.bool b))) hc16) 30 rfl (by decide) (.ar 1 ((lget p0 x10).toList.map eU64)) (Calm.loadRp rfl rfl ag27 (by rw [sz27]; simp [AV.size])) ?_
                refine AQ.calmG 1 true 20 rfl rfl (congrArg (fun b => some (AV.fl (Value.bool b))) hc16) 31 rfl (by decide) (eI64 x3) (Calm.move rfl rfl) ?_
                obtain ⟨t20, et20, hq15⟩ := of_bind hq15
                refine AQ.calmG 1 true 20 rfl rfl (congrArg (fun b => some (AV.fl (Value.bool b))) hc16) 32 rfl (by decide) (eBool t20) (Calm.call (args := [(.ar 1 ((lget p0 x10).toList.map eU64)), (eI64 x3)]) rfl rfl ok22 ⟨rfl, rfl, rfl, rfl, trivial⟩ rfl (bosketref02_Has_spec et20)) ?_
                refine AQ.calmG 1 true 20 rfl rfl (congrArg (fun b => some (AV.fl (Value.bool b))) hc16) 33 rfl (by decide) (eBool (t18 == t20)) (Calm.boolEq rfl rfl rfl Tryd.underlying4) ?_
                refine AQ.calm rfl 34 rfl (by decide) (eBool (t18 == t20)) (Calm.pickT rfl (congrArg (fun b => some (AV.fl (Value.bool b))) hc16) rfl) ?_
                refine AQ.calm rfl 6 rfl (by decide) (eBool (t18 == t20)) (Calm.assign rfl rfl) ?_
                cases hq15
                refine AQ.nilE rfl ?_
                exact ⟨rfl, rfl, rfl, rfl, rfl, trivial⟩
              · have hq15 := (if_neg hc16).symm.trans hq15
                refine AQ.skipG 1 false 20 rfl rfl (congrArg (fun b => some (AV.fl (Value.bool b))) (eq_false_of_ne_true hc16)) 21 rfl (by decide) ?_
                refine AQ.skipG 1 false 20 rfl rfl (congrArg (fun b => some (AV.fl (Value.bool b))) (eq_false_of_ne_true hc16)) 22 rfl (by decide) ?_
                refine AQ.skipG 1 false 20 rfl rfl (congrArg (fun b => some (AV.fl (Value.bool b))) (eq_false_of_ne_true hc16)) 23 rfl (by decide) ?_
                refine AQ.skipG 1 false 20 rfl rfl (congrArg (fun b => some (AV.fl (Value.bool b))) (eq_false_of_ne_true hc16)) 24 rfl (by decide) ?_
                refine AQ.skipG 1 false 20 rfl rfl (congrArg (fun b => some (AV.fl (Value.bool b))) (eq_false_of_ne_true hc16)) 25 rfl (by decide) ?_
                refine AQ.skipG 1 false 20 rfl rfl (congrArg (fun b => some (AV.fl (Value.bool b))) (eq_false_of_ne_true hc16)) 26 rfl (by decide) ?_
                refine AQ.skipG 1 false 20 rfl rfl (congrArg (fun b => some (AV.fl (Value.bool b))) (eq_false_of_ne_true hc16)) 27 rfl (by decide) ?_
                refine AQ.skipG 1 false 20 rfl rfl (congrArg (fun b => some (AV.fl (Value.bool b))) (eq_false_of_ne_true hc16)) 28 rfl (by decide) ?_
                refine AQ.skipG 1 false 20 rfl rfl (congrArg (fun b => some (AV.fl (Value.bool b))) (eq_false_of_ne_true hc16)) 29 rfl (by decide) ?_
                refine AQ.skipG 1 false 20 rfl rfl (congrArg (fun b => some (AV.fl (Value.bool b))) (eq_false_of_ne_true hc16)) 30 rfl (by decide) ?_
                refine AQ.skipG 1 false 20 rfl rfl (congrArg (fun b => some (AV.fl (Value.bool b))) (eq_false_of_ne_true hc16)) 31 rfl (by decide) ?_
                refine AQ.skipG 1 false 20 rfl rfl (congrArg (fun b => some (AV.fl (Value.bool b))) (eq_false_of_ne_true hc16)) 32 rfl (by decide) ?_
                refine AQ.skipG 1 false 20 rfl rfl (congrArg (fun b => some (AV.fl (Value.bool b))) (eq_false_of_ne_true hc16)) 33 rfl (by decide) ?_
                refine AQ.calm rfl 34 rfl (by decide) (eBool false) (Calm.pickF rfl (congrArg (fun b => some (AV.fl (Value.bool b))) (eq_false_of_ne_true hc16)) rfl) ?_
                refine AQ.calm rfl 6 rfl (by decide) (eBool false) (Calm.assign rfl rfl) ?_
                cases hq15
                refine AQ.nilE rfl ?_
                exact ⟨rfl, rfl, rfl, rfl, rfl, trivial⟩
            · refine AW.reg ?_
              refine AO.calm rfl 17 rfl (by decide) (eI64 x10) (Calm.move rfl rfl) ?_
              refine AO.calm rfl 18 rfl (by decide) (eI64 (w64 (x10 + (1 : Int)))) (Calm.int rfl rfl rfl rfl) ?_
              refine AO.calm rfl 7 rfl (by decide) (eI64 (w64 (x10 + (1 : Int)))) (Calm.assign rfl rfl) ?_
              refine AO.nil (ρ' := [(0, (.fz 4 (p0.map e27))), (1, (eI64 p1)), (5, (eI64 x3)), (6, (eBool b14)), (7, (eI64 (w64 (x10 + (1 : Int)))))]) (H' := []) ⟨rfl, rfl, rfl, rfl, rfl, trivial⟩ (Sub.refl _) ?_
              exact ⟨kq12, Nat.lt_succ_self _, b14, (w64 (x10 + (1 : Int))), rfl, rfl, by rw [hrec11]; exact h⟩
          · have h := (if_neg hc13).symm.trans h
            refine AW.condN (x10 < (p0.length : Int)) rfl hc13 ?_
            refine AW.exit (ρ' := [(0, (.fz 4 (p0.map e27))), (1, (eI64 p1)), (5, (eI64 x3)), (6, (eBool b9))]) (H' := []) ⟨rfl, rfl, rfl, rfl, trivial⟩ (Sub.refl _) ?_
            exact ⟨b9, rfl, rfl, h⟩
        · rintro _ _ ⟨b7, rfl, rfl, h⟩
          rw [bosketref02_Class_c2.eq_1] at h
          refine AW.seq ?_
          refine AW.reg ?_
          refine AO.calm rfl 35 rfl (by decide) (eBool b7) (Calm.move rfl rfl) ?_
          refine AO.nil (ρ' := [(0, (.fz 4 (p0.map e27))), (1, (eI64 p1)), (5, (eI64 x3)), (35, (eBool b7))]) (H' := []) ⟨rfl, rfl, rfl, rfl, trivial⟩ (Sub.refl _) ?_
          by_cases hc8 : b7 = true
          · have h := (if_pos hc8).symm.trans h
            refine AW.condT' b7 rfl hc8 ?_
            refine AW.seq ?_
            refine AW.reg ?_
            refine AO.calm rfl 36 rfl (by decide) (eI64 x3) (Calm.move rfl rfl) ?_
            refine AO.calm rfl 4 rfl (by decide) (eI64 x3) (Calm.assign rfl rfl) ?_
            refine AO.nil (ρ' := [(4, (eI64 x3))]) (H' := []) ⟨rfl, trivial⟩ (Sub.refl _) ?_
            refine AW.ret (ρ' := [(4, (eI64 x3))]) (H' := []) ⟨rfl, trivial⟩ (Sub.refl _) ?_
            have hr := Option.some.inj h
            subst hr
            exact ⟨[(eI64 x3)], ⟨rfl, rfl, trivial⟩, rfl⟩
          · have h := (if_neg hc8).symm.trans h
            refine AW.condF' b7 rfl hc8 ?_
            refine AW.skip (ρ' := [(0, (.fz 4 (p0.map e27))), (1, (eI64 p1)), (5, (eI64 x3))]) (H' := []) ⟨rfl, rfl, rfl, trivial⟩ (Sub.refl _) ?_
            exact ⟨rfl, rfl, h⟩
      · rintro _ _ ⟨rfl, rfl, h⟩
        rw [bosketref02_Class_c1.eq_1] at h
        refine AW.reg ?_
        refine AO.calm rfl 11 rfl (by decide) (eI64 x3) (Calm.move rfl rfl) ?_
        refine AO.calm rfl 12 rfl (by decide) (eI64 (w64 (x3 + (1 : Int)))) (Calm.int rfl rfl rfl rfl) ?_
        refine AO.calm rfl 5 rfl (by decide) (eI64 (w64 (x3 + (1 : Int)))) (Calm.assign rfl rfl) ?_
        refine AO.nil (ρ' := [(0, (.fz 4 (p0.map e27))), (1, (eI64 p1)), (5, (eI64 (w64 (x3 + (1 : Int)))))]) (H' := []) ⟨rfl, rfl, rfl, trivial⟩ (Sub.refl _) ?_
        exact ⟨kq5, Nat.lt_succ_self _, (w64 (x3 + (1 : Int))), rfl, rfl, by rw [hrec4]; exact h⟩
    · have h := (if_neg hc6).symm.trans h
      refine AW.condN (x3 < p1) rfl hc6 ?_
      refine AW.exit (ρ' := [(1, (eI64 p1))]) (H' := []) ⟨rfl, trivial⟩ (Sub.refl _) ?_
      exact ⟨rfl, rfl, h⟩
  · rintro _ _ ⟨rfl, rfl, h⟩
    rw [bosketref02_Class_c0.eq_1] at h
    refine AW.seq ?_
    refine AW.reg ?_
    refine AO.calm rfl 37 rfl (by decide) (eI64 p1) (Calm.move rfl rfl) ?_
    refine AO.calm rfl 4 rfl (by decide) (eI64 p1) (Calm.assign rfl rfl) ?_
    refine AO.nil (ρ' := [(4, (eI64 p1))]) (H' := []) ⟨rfl, trivial⟩ (Sub.refl _) ?_
    refine AW.ret (ρ' := [(4, (eI64 p1))]) (H' := []) ⟨rfl, trivial⟩ (Sub.refl _) ?_
    have hr := Option.some.inj h
    subst hr
    exact ⟨[(eI64 p1)], ⟨rfl, rfl, trivial⟩, rfl⟩
end Go.Avl.TD
/- bosket/byteset.Count; printed by avmain.py. -/
namespace Go.Avl.TD
open Go Go.RowKit Go.Proofs Go.Avl
set_option linter.unusedVariables false
set_option maxRecDepth 100000
set_option maxHeartbeats 4000000
attribute [local irreducible] AW AO AQ Spec SpecH Calm

def byteset_Count_c0 (k : Nat) (x3 : Int) : Option Int :=
  some (x3)
def byteset_Count_l1 (k : Nat) (p0 : (Vector Int 256)) : Nat → Int → Int → Option Int
  | 0, _, _ => none
  | j + 1, x4, x5 =>
    if x5 < (256 : Int) then if 0 ≤ x5 ∧ x5 < (256 : Int) then (byteset_Count_l1 k p0 j) (max x4 (w64 ((w64 (vget p0 x5)) + (1 : Int)))) (w64 (x5 + (1 : Int)))
    else none
    else byteset_Count_c0 k x4
def byteset_Count (k : Nat) (p0 : (Vector Int 256)) : Option Int :=
  byteset_Count_l1 k p0 k (0 : Int) (0 : Int)
theorem byteset_Count_spec {k : Nat} {p0 : (Vector Int 256)} {r : Int} (h : byteset_Count k p0 = some r) : Spec Tryd.prog 15 [(.ar 1 (p0.toList.map eU8))] (eI64 r) := by
  rw [byteset_Count.eq_1] at h
  refine Spec.intro (res := [.tmp 2]) Tryd.func15 rfl rfl rfl (Nat.le_of_ble_eq_true rfl) ?_
  refine AW.seq ?_
  refine AW.reg ?_
  refine AO.box rfl 1 rfl (by decide) rfl rfl rfl fun n2 => ?_
  refine AO.calm rfl 2 rfl (by decide) (eI64 (0 : Int)) (Calm.assign rfl rfl) ?_
  refine AO.nil (ρ' := [(1, (.ptr n2 0))]) (H' := [(n2, (.mem (.ar 1 (p0.toList.map eU8))))]) ⟨rfl, trivial⟩ (Sub.refl _) ?_
  refine AW.seq ?_
  refine AW.reg ?_
  refine AO.calm rfl 3 rfl (by decide) (eI64 (0 : Int)) (Calm.assign rfl rfl) ?_
  refine AO.nil (ρ' := [(1, (.ptr n2 0)), (3, (eI64 (0 : Int)))]) (H' := [(n2, (.mem (.ar 1 (p0.toList.map eU8))))]) ⟨rfl, rfl, trivial⟩ (Sub.refl _) ?_
  refine AW.seq_mid (fun ρ H => ∃ (x3 : Int), ρ = [(3, (eI64 x3))] ∧ H = [] ∧ byteset_Count_c0 k x3 = some r) ?_ ?_
  · refine AW.seq ?_
    refine AW.reg ?_
    refine AO.calm rfl 6 rfl (by decide) (.ar 1 (p0.toList.map eU8)) (Calm.load 0 rfl rfl rfl (At.cast At.here rfl) ag39 (by rw [sz39]; simp [AV.size])) ?_
    refine AO.calm rfl 7 rfl (by decide) (eI64 (0 : Int)) (Calm.move rfl rfl) ?_
    refine AO.nil (ρ' := [(3, (eI64 (0 : Int))), (6, (.ar 1 (p0.toList.map eU8))), (7, (eI64 (0 : Int)))]) (H' := []) ⟨rfl, rfl, rfl, trivial⟩ (Sub.nil _) ?_
    refine AW.block ?_
    refine AW.weak (ρ' := [(3, (eI64 (0 : Int))), (6, (.ar 1 (p0.toList.map eU8))), (7, (eI64 (0 : Int)))]) (H' := []) ⟨rfl, rfl, rfl, trivial⟩ (Sub.refl _) ?_
    refine AW.loop (fun kq ρ H => ∃ (x4 : Int) (x5 : Int), ρ = [(3, (eI64 x4)), (6, (.ar 1 (p0.toList.map eU8))), (7, (eI64 x5))] ∧ H = [] ∧ byteset_Count_l1 k p0 kq x4 x5 = some r) k ⟨(0 : Int), (0 : Int), rfl, rfl, h⟩ ?_
    rintro kq7 _ _ ⟨x4, x5, rfl, rfl, h⟩
    cases kq7 with
    | zero => rw [byteset_Count_l1.eq_1] at h; cases h
    | succ kq7 =>
    rw [byteset_Count_l1.eq_2] at h
    generalize hrec6 : byteset_Count_l1 k p0 kq7 = rec6 at h
    refine AW.seq ?_
    refine AW.reg ?_
    refine AO.calm rfl 8 rfl (by decide) (eBool (decide (x5 < (256 : Int)))) (Calm.int rfl rfl rfl rfl) ?_
    refine AO.nil (ρ' := [(3, (eI64 x4)), (6, (.ar 1 (p0.toList.map eU8))), (7, (eI64 x5)), (8, (eBool (decide (x5 < (256 : Int)))))]) (H' := []) ⟨rfl, rfl, rfl, rfl, trivial⟩ (Sub.refl _) ?_
    refine AW.seq ?_
    by_cases hc8 : x5 < (256 : Int)
    · have h := (if_pos hc8).symm.trans h
      refine AW.condP (x5 < (256 : Int)) rfl hc8 ?_
      refine AW.skip (ρ' := [(3, (eI64 x4)), (6, (.ar 1 (p0.toList.map eU8))), (7, (eI64 x5))]) (H' := []) ⟨rfl, rfl, rfl, trivial⟩ (Sub.refl _) ?_
      refine AW.seq ?_
      refine AW.block ?_
      refine AW.seq ?_
      refine AW.reg ?_
      obtain ⟨hg9, h⟩ := of_guard h
      refine AO.calm rfl 9 rfl (by decide) (eU8 (vget p0 x5)) (Calm.idxVv (f := eU8) rfl rfl rfl hg9 Tryd.underlying39 sz5 ag5 rfl) ?_
      refine AO.calm rfl 5 rfl (by decide) (eU8 (vget p0 x5)) (Calm.assign rfl rfl) ?_
      refine AO.nil (ρ' := [(3, (eI64 x4)), (5, (eU8 (vget p0 x5))), (6, (.ar 1 (p0.toList.map eU8))), (7, (eI64 x5))]) (H' := []) ⟨rfl, rfl, rfl, rfl, trivial⟩ (Sub.refl _) ?_
      refine AW.reg ?_
      refine AO.calm rfl 10 rfl (by decide) (eI64 x4) (Calm.move rfl rfl) ?_
      refine AO.calm rfl 11 rfl (by decide) (eU8 (vget p0 x5)) (Calm.move rfl rfl) ?_
      refine AO.calm rfl 12 rfl (by decide) (eI64 (w64 (vget p0 x5))) (Calm.conv rfl rfl Tryd.underlying5 Tryd.underlying3) ?_
      refine AO.calm rfl 13 rfl (by decide) (eI64 (w64 ((w64 (vget p0 x5)) + (1 : Int)))) (Calm.int rfl rfl rfl rfl) ?_
      refine AO.calm rfl 14 rfl (by decide) (eI64 (max x4 (w64 ((w64 (vget p0 x5)) + (1 : Int))))) (Calm.max2 rfl rfl rfl) ?_
      refine AO.calm rfl 3 rfl (by decide) (eI64 (max x4 (w64 ((w64 (vget p0 x5)) + (1 : Int))))) (Calm.assign rfl rfl) ?_
      refine AO.nil (ρ' := [(3, (eI64 (max x4 (w64 ((w64 (vget p0 x5)) + (1 : Int)))))), (6, (.ar 1 (p0.toList.map eU8))), (7, (eI64 x5))]) (H' := []) ⟨rfl, rfl, rfl, trivial⟩ (Sub.refl _) ?_
      refine AW.reg ?_
      refine AO.calm rfl 15 rfl (by decide) (eI64 (w64 (x5 + (1 : Int)))) (Calm.int rfl rfl rfl rfl) ?_
      refine AO.calm rfl 7 rfl (by decide) (eI64 (w64 (x5 + (1 : Int)))) (Calm.move rfl rfl) ?_
      refine AO.nil (ρ' := [(3, (eI64 (max x4 (w64 ((w64 (vget p0 x5)) + (1 : Int)))))), (6, (.ar 1 (p0.toList.map eU8))), (7, (eI64 (w64 (x5 + (1 : Int)))))]) (H' := []) ⟨rfl, rfl, rfl, trivial⟩ (Sub.refl _) ?_
      exact ⟨kq7, Nat.lt_succ_self _, (max x4 (w64 ((w64 (vget p0 x5)) + (1 : Int)))), (w64 (x5 + (1 : Int))), rfl, rfl, by rw [hrec6]; exact h⟩
    · have h := (if_neg hc8).symm.trans h
      refine AW.condN (x5 < (256 : Int)) rfl hc8 ?_
      refine AW.exit (ρ' := [(3, (eI64 x4))]) (H' := []) ⟨rfl, trivial⟩ (Sub.refl _) ?_
      exact ⟨x4, rfl, rfl, h⟩
  · rintro _ _ ⟨x3, rfl, rfl, h⟩
    rw [byteset_Count_c0.eq_1] at h
    refine AW.seq ?_
    refine AW.reg ?_
    refine AO.calm rfl 16 rfl (by decide) (eI64 x3) (Calm.move rfl rfl) ?_
    refine AO.calm rfl 2 rfl (by decide) (eI64 x3) (Calm.assign rfl rfl) ?_
    refine AO.nil (ρ' := [(2, (eI64 x3))]) (H' := []) ⟨rfl, trivial⟩ (Sub.refl _) ?_
    refine AW.ret (ρ' := [(2, (eI64 x3))]) (H' := []) ⟨rfl, trivial⟩ (Sub.refl _) ?_
    have hr := Option.some.inj h
    subst hr
    exact ⟨[(eI64 x3)], ⟨rfl, rfl, trivial⟩, rfl⟩
end Go.Avl.TD
/- bosket/byteset.Of; printed by avmain.py. -/
namespace Go.Avl.TD
open Go Go.RowKit Go.Proofs Go.Avl
set_option linter.unusedVariables false
set_option maxRecDepth 100000
set_option maxHeartbeats 4000000
attribute [local irreducible] AW AO AQ Spec SpecH Calm

def byteset_Of_c0 (k : Nat) (x4 : (Vector Int 4)) : Option (Vector Int 4) :=
  some (x4)
def byteset_Of_l1 (k : Nat) (p0 : (List Int)) : Nat → (Vector Int 4) → Int → Option (Vector Int 4)
  | 0, _, _ => none
  | j + 1, x5, x6 =>
    if x6 < (p0.length : Int) then if 0 ≤ x6 ∧ x6 < (p0.length : Int) then if 0 ≤ (IntKind.u8.wrap ((lget p0 x6).tdiv (64 : Int))) ∧ (IntKind.u8.wrap ((lget p0 x6).tdiv (64 : Int))) < (4 : Int) then if 0 ≤ ((lget p0 x6).tmod (64 : Int)) then if 0 ≤ (IntKind.u8.wrap ((lget p0 x6).tdiv (64 : Int))) ∧ (IntKind.u8.wrap ((lget p0 x6).tdiv (64 : Int))) < (4 : Int) then (byteset_Of_l1 k p0 j) (vset x5 (IntKind.u8.wrap ((lget p0 x6).tdiv (64 : Int))) (bits .or .u64 (vget x5 (IntKind.u8.wrap ((lget p0 x6).tdiv (64 : Int)))) (IntKind.u64.wrap ((1 : Int) * 2 ^ (min ((lget p0 x6).tmod (64 : Int)).toNat IntKind.u64.bits))))) (w64 (x6 + (1 : Int)))
    else none
    else none
    else none
    else none
    else byteset_Of_c0 k x5
def byteset_Of (k : Nat) (p0 : (List Int)) : Option (Vector Int 4) :=
  byteset_Of_l1 k p0 k (Vector.replicate 4 (0 : Int)) (0 : Int)
theorem byteset_Of_spec {k : Nat} {p0 : (List Int)} {r : (Vector Int 4)} (h : byteset_Of k p0 = some r) : Spec Tryd.prog 8 [(.fz 1 (p0.map eU8))] (e27 r) := by
  rw [byteset_Of.eq_1] at h
  refine Spec.intro (res := [.cell 2 27]) Tryd.func8 rfl rfl rfl (Nat.le_of_ble_eq_true rfl) ?_
  refine AW.seq ?_
  refine AW.reg ?_
  refine AO.alloc rfl 2 rfl (by decide) rfl zr27 lay27 fun n2 => ?_
  refine AO.nil (ρ' := [(0, (.fz 1 (p0.map eU8))), (2, (.ptr n2 0))]) (H' := [(n2, (.mem (.ar 1 ((Vector.replicate 4 (0 : Int)).toList.map eU64))))]) ⟨rfl, rfl, trivial⟩ (Sub.refl _) ?_
  refine AW.seq ?_
  refine AW.reg ?_
  refine AO.alloc rfl 3 rfl (by decide) rfl zr27 lay27 fun n3 => ?_
  refine AO.nil (ρ' := [(0, (.fz 1 (p0.map eU8))), (2, (.ptr n2 0)), (3, (.ptr n3 0))]) (H' := [(n2, (.mem (.ar 1 ((Vector.replicate 4 (0 : Int)).toList.map eU64)))), (n3, (.mem (.ar 1 ((Vector.replicate 4 (0 : Int)).toList.map eU64))))]) ⟨rfl, rfl, rfl, trivial⟩ (Sub.cons 1 rfl (Sub.cons 0 rfl (Sub.nil _))) ?_
  refine AW.seq_mid (fun ρ H => ∃ (x4 : (Vector Int 4)), ρ = [(2, (.ptr n2 0)), (3, (.ptr n3 0))] ∧ H = [(n2, (.mem (.ar 1 ((Vector.replicate 4 (0 : Int)).toList.map eU64)))), (n3, (.mem (.ar 1 (x4.toList.map eU64))))] ∧ byteset_Of_c0 k x4 = some r) ?_ ?_
  · refine AW.seq ?_
    refine AW.reg ?_
    refine AO.calm rfl 6 rfl (by decide) (.fz 1 (p0.map eU8)) (Calm.move rfl rfl) ?_
    refine AO.calm rfl 7 rfl (by decide) (eI64 (p0.length : Int)) (Calm.lenL rfl rfl Tryd.underlying22) ?_
    refine AO.calm rfl 8 rfl (by decide) (eI64 (0 : Int)) (Calm.move rfl rfl) ?_
    refine AO.nil (ρ' := [(2, (.ptr n2 0)), (3, (.ptr n3 0)), (6, (.fz 1 (p0.map eU8))), (7, (eI64 (p0.length : Int))), (8, (eI64 (0 : Int)))]) (H' := [(n2, (.mem (.ar 1 ((Vector.replicate 4 (0 : Int)).toList.map eU64)))), (n3, (.mem (.ar 1 ((Vector.replicate 4 (0 : Int)).toList.map eU64))))]) ⟨rfl, rfl, rfl, rfl, rfl, trivial⟩ (Sub.refl _) ?_
    refine AW.block ?_
    refine AW.weak (ρ' := [(2, (.ptr n2 0)), (3, (.ptr n3 0)), (6, (.fz 1 (p0.map eU8))), (7, (eI64 (p0.length : Int))), (8, (eI64 (0 : Int)))]) (H' := [(n2, (.mem (.ar 1 ((Vector.replicate 4 (0 : Int)).toList.map eU64)))), (n3, (.mem (.ar 1 ((Vector.replicate 4 (0 : Int)).toList.map eU64))))]) ⟨rfl, rfl, rfl, rfl, rfl, trivial⟩ (Sub.refl _) ?_
    refine AW.loop (fun kq ρ H => ∃ (x5 : (Vector Int 4)) (x6 : Int), ρ = [(2, (.ptr n2 0)), (3, (.ptr n3 0)), (6, (.fz 1 (p0.map eU8))), (7, (eI64 (p0.length : Int))), (8, (eI64 x6))] ∧ H = [(n2, (.mem (.ar 1 ((Vector.replicate 4 (0 : Int)).toList.map eU64)))), (n3, (.mem (.ar 1 (x5.toList.map eU64))))] ∧ byteset_Of_l1 k p0 kq x5 x6 = some r) k ⟨(Vector.replicate 4 (0 : Int)), (0 : Int), rfl, rfl, h⟩ ?_
    rintro kq8 _ _ ⟨x5, x6, rfl, rfl, h⟩
    cases kq8 with
    | zero => rw [byteset_Of_l1.eq_1] at h; cases h
    | succ kq8 =>
    rw [byteset_Of_l1.eq_2] at h
    generalize hrec7 : byteset_Of_l1 k p0 kq8 = rec7 at h
    refine AW.seq ?_
    refine AW.reg ?_
    refine AO.calm rfl 9 rfl (by decide) (eBool (decide (x6 < (p0.length : Int)))) (Calm.int rfl rfl rfl rfl) ?_
    refine AO.nil (ρ' := [(2, (.ptr n2 0)), (3, (.ptr n3 0)), (6, (.fz 1 (p0.map eU8))), (7, (eI64 (p0.length : Int))), (8, (eI64 x6)), (9, (eBool (decide (x6 < (p0.length : Int)))))]) (H' := [(n2, (.mem (.ar 1 ((Vector.replicate 4 (0 : Int)).toList.map eU64)))), (n3, (.mem (.ar 1 (x5.toList.map eU64))))]) ⟨rfl, rfl, rfl, rfl, rfl, rfl, trivial⟩ (Sub.refl _) ?_
    refine AW.seq ?_
    by_cases hc9 : x6 < (p0.length : Int)
    · have h := (if_pos hc9).symm.trans h
      refine AW.condP (x6 < (p0.length : Int)) rfl hc9 ?_
      refine AW.skip (ρ' := [(2, (.ptr n2 0)), (3, (.ptr n3 0)), (6, (.fz 1 (p0.map eU8))), (7, (eI64 (p0.length : Int))), (8, (eI64 x6))]) (H' := [(n2, (.mem (.ar 1 ((Vector.replicate 4 (0 : Int)).toList.map eU64)))), (n3, (.mem (.ar 1 (x5.toList.map eU64))))]) ⟨rfl, rfl, rfl, rfl, rfl, trivial⟩ (Sub.refl _) ?_
      refine AW.seq ?_
      refine AW.block ?_
      refine AW.seq ?_
      refine AW.reg ?_
      obtain ⟨hg10, h⟩ := of_guard h
      refine AO.calm rfl 10 rfl (by decide) (.rp (eU8 (lget p0 x6))) (Calm.idxL (f := eU8) rfl rfl rfl hg10 Tryd.underlying22 sz5) ?_
      refine AO.calm rfl 11 rfl (by decide) (eU8 (lget p0 x6)) (Calm.loadRp rfl rfl ag5 sz5) ?_
      refine AO.calm rfl 5 rfl (by decide) (eU8 (lget p0 x6)) (Calm.assign rfl rfl) ?_
      refine AO.nil (ρ' := [(2, (.ptr n2 0)), (3, (.ptr n3 0)), (5, (eU8 (lget p0 x6))), (6, (.fz 1 (p0.map eU8))), (7, (eI64 (p0.length : Int))), (8, (eI64 x6))]) (H' := [(n2, (.mem (.ar 1 ((Vector.replicate 4 (0 : Int)).toList.map eU64)))), (n3, (.mem (.ar 1 (x5.toList.map eU64))))]) ⟨rfl, rfl, rfl, rfl, rfl, rfl, trivial⟩ (Sub.refl _) ?_
      refine AW.reg ?_
      refine AO.calm rfl 12 rfl (by decide) (eU8 (lget p0 x6)) (Calm.move rfl rfl) ?_
      refine AO.calm rfl 13 rfl (by decide) (eU8 (IntKind.u8.wrap ((lget p0 x6).tdiv (64 : Int)))) (Calm.quo rfl rfl rfl (by decide)) ?_
      obtain ⟨hg11, h⟩ := of_guard h
      refine AO.calm rfl 14 rfl (by decide) (.ptr n3 (0 + (IntKind.u8.wrap ((lget p0 x6).tdiv (64 : Int))).toNat * 1)) (Calm.idxP rfl rfl rfl hg11 Tryd.underlying27 sz25) ?_
      refine AO.calm rfl 15 rfl (by decide) (eU64 (vget x5 (IntKind.u8.wrap ((lget p0 x6).tdiv (64 : Int))))) (Calm.load 1 rfl rfl rfl (At.cast (At.vidx (IntKind.u8.wrap ((lget p0 x6).tdiv (64 : Int))) hg11.1 hg11.2 At.here) (by omega)) ag25 sz25) ?_
      refine AO.calm rfl 16 rfl (by decide) (eU8 (lget p0 x6)) (Calm.move rfl rfl) ?_
      refine AO.calm rfl 17 rfl (by decide) (eU8 ((lget p0 x6).tmod (64 : Int))) (Calm.rem rfl rfl rfl (by decide)) ?_
      obtain ⟨hg12, h⟩ := of_guard h
      refine AO.calm rfl 18 rfl (by decide) (eU64 (IntKind.u64.wrap ((1 : Int) * 2 ^ (min ((lget p0 x6).tmod (64 : Int)).toNat IntKind.u64.bits)))) (Calm.shl rfl rfl rfl hg12) ?_
      refine AO.calm rfl 19 rfl (by decide) (eU64 (bits .or .u64 (vget x5 (IntKind.u8.wrap ((lget p0 x6).tdiv (64 : Int)))) (IntKind.u64.wrap ((1 : Int) * 2 ^ (min ((lget p0 x6).tmod (64 : Int)).toNat IntKind.u64.bits))))) (Calm.int rfl rfl rfl rfl) ?_
      obtain ⟨hg13, h⟩ := of_guard h
      refine AO.calm rfl 20 rfl (by decide) (.ptr n3 (0 + (IntKind.u8.wrap ((lget p0 x6).tdiv (64 : Int))).toNat * 1)) (Calm.idxP rfl rfl rfl hg13 Tryd.underlying27 sz25) ?_
      refine AO.store (X' := (.ar 1 ((vset x5 (IntKind.u8.wrap ((lget p0 x6).tdiv (64 : Int))) (bits .or .u64 (vget x5 (IntKind.u8.wrap ((lget p0 x6).tdiv (64 : Int)))) (IntKind.u64.wrap ((1 : Int) * 2 ^ (min ((lget p0 x6).tmod (64 : Int)).toNat IntKind.u64.bits))))).toList.map eU64))) 1 rfl rfl rfl rfl rfl rfl (Put.cast (Put.vidx (IntKind.u8.wrap ((lget p0 x6).tdiv (64 : Int))) (bits .or .u64 (vget x5 (IntKind.u8.wrap ((lget p0 x6).tdiv (64 : Int)))) (IntKind.u64.wrap ((1 : Int) * 2 ^ (min ((lget p0 x6).tmod (64 : Int)).toNat IntKind.u64.bits)))) hg13.1 hg13.2 Put.here) (by omega)) rfl rfl sz25 rfl ?_
      refine AO.nil (ρ' := [(2, (.ptr n2 0)), (3, (.ptr n3 0)), (6, (.fz 1 (p0.map eU8))), (7, (eI64 (p0.length : Int))), (8, (eI64 x6))]) (H' := [(n2, (.mem (.ar 1 ((Vector.replicate 4 (0 : Int)).toList.map eU64)))), (n3, (.mem (.ar 1 ((vset x5 (IntKind.u8.wrap ((lget p0 x6).tdiv (64 : Int))) (bits .or .u64 (vget x5 (IntKind.u8.wrap ((lget p0 x6).tdiv (64 : Int)))) (IntKind.u64.wrap ((1 : Int) * 2 ^ (min ((lget p0 x6).tmod (64 : Int)).toNat IntKind.u64.bits))))).toList.map eU64))))]) ⟨rfl, rfl, rfl, rfl, rfl, trivial⟩ (Sub.refl _) ?_
      refine AW.reg ?_
      refine AO.calm rfl 21 rfl (by decide) (eI64 (w64 (x6 + (1 : Int)))) (Calm.int rfl rfl rfl rfl) ?_
      refine AO.calm rfl 8 rfl (by decide) (eI64 (w64 (x6 + (1 : Int)))) (Calm.move rfl rfl) ?_
      refine AO.nil (ρ' := [(2, (.ptr n2 0)), (3, (.ptr n3 0)), (6, (.fz 1 (p0.map eU8))), (7, (eI64 (p0.length : Int))), (8, (eI64 (w64 (x6 + (1 : Int)))))]) (H' := [(n2, (.mem (.ar 1 ((Vector.replicate 4 (0 : Int)).toList.map eU64)))), (n3, (.mem (.ar 1 ((vset x5 (IntKind.u8.wrap ((lget p0 x6).tdiv (64 : Int))) (bits .or .u64 (vget x5 (IntKind.u8.wrap ((lget p0 x6).tdiv (64 : Int)))) (IntKind.u64.wrap ((1 : Int) * 2 ^ (min ((lget p0 x6).tmod (64 : Int)).toNat IntKind.u64.bits))))).toList.map eU64))))]) ⟨rfl, rfl, rfl, rfl, rfl, trivial⟩ (Sub.refl _) ?_
      exact ⟨kq8, Nat.lt_succ_self _, (vset x5 (IntKind.u8.wrap ((lget p0 x6).tdiv (64 : Int))) (bits .or .u64 (vget x5 (IntKind.u8.wrap ((lget p0 x6).tdiv (64 : Int)))) (IntKind.u64.wrap ((1 : Int) * 2 ^ (min ((lget p0 x6).tmod (64 : Int)).toNat IntKind.u64.bits))))), (w64 (x6 + (1 : Int))), rfl, rfl, by rw [hrec7]; exact h⟩
    · have h := (if_neg hc9).symm.trans h
      refine AW.condN (x6 < (p0.length : Int)) rfl hc9 ?_
      refine AW.exit (ρ' := [(2, (.ptr n2 0)), (3, (.ptr n3 0))]) (H' := [(n2, (.mem (.ar 1 ((Vector.replicate 4 (0 : Int)).toList.map eU64)))), (n3, (.mem (.ar 1 (x5.toList.map eU64))))]) ⟨rfl, rfl, trivial⟩ (Sub.refl _) ?_
      exact ⟨x5, rfl, rfl, h⟩
  · rintro _ _ ⟨x4, rfl, rfl, h⟩
    rw [byteset_Of_c0.eq_1] at h
    refine AW.seq ?_
    refine AW.reg ?_
    refine AO.calm rfl 22 rfl (by decide) (.ar 1 (x4.toList.map eU64)) (Calm.load 1 rfl rfl rfl (At.cast At.here rfl) ag27 (by rw [sz27]; simp [AV.size])) ?_
    refine AO.store (X' := (.ar 1 (x4.toList.map eU64))) 0 rfl rfl rfl rfl rfl rfl (Put.cast Put.here rfl) rfl (by simp [AV.size]) (by rw [sz27]; simp [AV.size]) rfl ?_
    refine AO.nil (ρ' := [(2, (.ptr n2 0))]) (H' := [(n2, (.mem (.ar 1 (x4.toList.map eU64))))]) ⟨rfl, trivial⟩ (Sub.cons 0 rfl (Sub.nil _)) ?_
    refine AW.ret (ρ' := [(2, (.ptr n2 0))]) (H' := [(n2, (.mem (.ar 1 (x4.toList.map eU64))))]) ⟨rfl, trivial⟩ (Sub.refl _) ?_
    have hr := Option.some.inj h
    subst hr
    exact ⟨[(.ar 1 (x4.toList.map eU64))], ⟨⟨_, 0, rfl, rfl, ag27, (by rw [sz27]; simp [AV.size])⟩, trivial⟩, rfl⟩
end Go.Avl.TD
/- bosket/byteset.Spans; printed by avmain.py. -/
namespace Go.Avl.TD
open Go Go.RowKit Go.Proofs Go.Avl
set_option linter.unusedVariables false
set_option maxRecDepth 100000
set_option maxHeartbeats 4000000
attribute [local irreducible] AW AO AQ Spec SpecH Calm

def byteset_Spans_c0 (k : Nat) (x4 : (List S35)) : Option (List S35) :=
  some (x4)
def byteset_Spans_c1 (k : Nat) (rec9 : ((List S35) → Int → Option (List S35))) (x8 : Int) (x13 : (List S35)) : Option (List S35) :=
  rec9 x13 (w64 (x8 + (1 : Int)))
def byteset_Spans_l2 (k : Nat) (t5 : (List Int)) : Nat → (List S35) → Int → Option (List S35)
  | 0, _, _ => none
  | j + 1, x7, x8 =>
    if x8 < (t5.length : Int) then if 0 ≤ x8 ∧ x8 < (t5.length : Int) then Option.bind (α := Bool) (if (0 : Int) < (x7.length : Int) then if 0 ≤ (w64 ((x7.length : Int) - (1 : Int))) ∧ (w64 ((x7.length : Int) - (1 : Int))) < (x7.length : Int) then some (decide ((w64 ((w64 ((lget x7 (w64 ((x7.length : Int) - (1 : Int)))).f1)) + (1 : Int))) = (w64 (lget t5 x8))))
    else none
    else some (false)) fun b15 =>
    if b15 = true then if 0 ≤ (w64 ((x7.length : Int) - (1 : Int))) ∧ (w64 ((x7.length : Int) - (1 : Int))) < (x7.length : Int) then byteset_Spans_c1 k (byteset_Spans_l2 k t5 j) x8 (lset x7 (w64 ((x7.length : Int) - (1 : Int))) (S35.mk ((lget x7 (w64 ((x7.length : Int) - (1 : Int)))).f0) (lget t5 x8)))
    else none
    else if (x7 ++ ([(S35.mk (lget t5 x8) (lget t5 x8))] : List S35)).length * 2 ≤ 140737488355328 then byteset_Spans_c1 k (byteset_Spans_l2 k t5 j) x8 (x7 ++ ([(S35.mk (lget t5 x8) (lget t5 x8))] : List S35))
    else none
    else none
    else byteset_Spans_c0 k x7
def byteset_Spans (k : Nat) (p0 : (Vector Int 4)) : Option (List S35) :=
  (byteset_List k p0).bind fun t5 =>
  byteset_Spans_l2 k t5 k ([] : List S35) (0 : Int)
theorem byteset_Spans_spec {k : Nat} {p0 : (Vector Int 4)} {r : (List S35)} (h : byteset_Spans k p0 = some r) : Spec Tryd.prog 11 [(.ar 1 (p0.toList.map eU64))] (e32 r) := by
  rw [byteset_Spans.eq_1] at h
  refine Spec.intro (res := [.tmp 2]) Tryd.func11 rfl rfl rfl (Nat.le_of_ble_eq_true rfl) ?_
  refine AW.seq ?_
  refine AW.reg ?_
  refine AO.box rfl 1 rfl (by decide) rfl rfl rfl fun n2 => ?_
  refine AO.calm rfl 2 rfl (by decide) (.fl (.slice none 0 0)) (Calm.assign rfl rfl) ?_
  refine AO.nil (ρ' := [(1, (.ptr n2 0))]) (H' := [(n2, (.mem (.ar 1 (p0.toList.map eU64))))]) ⟨rfl, trivial⟩ (Sub.refl _) ?_
  refine AW.seq ?_
  refine AW.reg ?_
  refine AO.calm rfl 3 rfl (by decide) (.fl (.slice none 0 0)) (Calm.assign rfl rfl) ?_
  refine AO.nil (ρ' := [(1, (.ptr n2 0)), (3, (.fl (.slice none 0 0)))]) (H' := [(n2, (.mem (.ar 1 (p0.toList.map eU64))))]) ⟨rfl, rfl, trivial⟩ (Sub.refl _) ?_
  refine AW.seq_mid (fun ρ H => ∃ (n3 : Nat) (x4 : (List S35)), ρ = [(3, (.own n3 0 x4.length))] ∧ H = [(n3, (.mem (.ar 2 (x4.map e35))))] ∧ byteset_Spans_c0 k x4 = some r) ?_ ?_
  · refine AW.seq ?_
    refine AW.reg ?_
    refine AO.calm rfl 7 rfl (by decide) (.ar 1 (p0.toList.map eU64)) (Calm.load 0 rfl rfl rfl (At.cast At.here rfl) ag27 (by rw [sz27]; simp [AV.size])) ?_
    obtain ⟨t5, et5, h⟩ := of_bind h
    refine AO.callS [(.ar 1 (p0.toList.map eU64))] (.fz 1 (t5.map eU8)) 8 rfl (by decide) ok17 rfl rfl rfl ⟨rfl, rfl, trivial⟩ (byteset_List_spec et5) ?_
    refine AO.calm rfl 9 rfl (by decide) (eI64 (t5.length : Int)) (Calm.lenL rfl rfl Tryd.underlying22) ?_
    refine AO.calm rfl 10 rfl (by decide) (eI64 (0 : Int)) (Calm.move rfl rfl) ?_
    refine AO.nil (ρ' := [(3, (.fl (.slice none 0 0))), (8, (.fz 1 (t5.map eU8))), (9, (eI64 (t5.length : Int))), (10, (eI64 (0 : Int)))]) (H' := []) ⟨rfl, rfl, rfl, rfl, trivial⟩ (Sub.nil _) ?_
    refine AW.block ?_
    refine AW.nilOwn 3 2 rfl fun n24 => ?_
    refine AW.weak (ρ' := [(3, (.own n24 0 ([] : List S35).length)), (8, (.fz 1 (t5.map eU8))), (9, (eI64 (t5.length : Int))), (10, (eI64 (0 : Int)))]) (H' := [(n24, (.mem (.ar 2 (([] : List S35).map e35))))]) ⟨rfl, rfl, rfl, rfl, trivial⟩ (Sub.refl _) ?_
    refine AW.loop (fun kq ρ H => ∃ (n6 : Nat) (x7 : (List S35)) (x8 : Int), ρ = [(3, (.own n6 0 x7.length)), (8, (.fz 1 (t5.map eU8))), (9, (eI64 (t5.length : Int))), (10, (eI64 x8))] ∧ H = [(n6, (.mem (.ar 2 (x7.map e35))))] ∧ byteset_Spans_l2 k t5 kq x7 x8 = some r) k ⟨n24, ([] : List S35), (0 : Int), rfl, rfl, h⟩ ?_
    rintro kq10 _ _ ⟨n6, x7, x8, rfl, rfl, h⟩
    cases kq10 with
    | zero => rw [byteset_Spans_l2.eq_1] at h; cases h
    | succ kq10 =>
    rw [byteset_Spans_l2.eq_2] at h
    generalize hrec9 : byteset_Spans_l2 k t5 kq10 = rec9 at h
    refine AW.seq ?_
    refine AW.reg ?_
    refine AO.calm rfl 11 rfl (by decide) (eBool (decide (x8 < (t5.length : Int)))) (Calm.int rfl rfl rfl rfl) ?_
    refine AO.nil (ρ' := [(3, (.own n6 0 x7.length)), (8, (.fz 1 (t5.map eU8))), (9, (eI64 (t5.length : Int))), (10, (eI64 x8)), (11, (eBool (decide (x8 < (t5.length : Int)))))]) (H' := [(n6, (.mem (.ar 2 (x7.map e35))))]) ⟨rfl, rfl, rfl, rfl, rfl, trivial⟩ (Sub.refl _) ?_
    refine AW.seq ?_
    by_cases hc11 : x8 < (t5.length : Int)
    · have h := (if_pos hc11).symm.trans h
      refine AW.condP (x8 < (t5.length : Int)) rfl hc11 ?_
      refine AW.skip (ρ' := [(3, (.own n6 0 x7.length)), (8, (.fz 1 (t5.map eU8))), (9, (eI64 (t5.length : Int))), (10, (eI64 x8))]) (H' := [(n6, (.mem (.ar 2 (x7.map e35))))]) ⟨rfl, rfl, rfl, rfl, trivial⟩ (Sub.refl _) ?_
      refine AW.seq_mid (fun ρ H => ∃ (n12 : Nat) (x13 : (List S35)), ρ = [(3, (.own n12 0 x13.length)), (8, (.fz 1 (t5.map eU8))), (9, (eI64 (t5.length : Int))), (10, (eI64 x8))] ∧ H = [(n12, (.mem (.ar 2 (x13.map e35))))] ∧ byteset_Spans_c1 k rec9 x8 x13 = some r) ?_ ?_
      · refine AW.block ?_
        refine AW.seq ?_
        refine AW.reg ?_
        obtain ⟨hg14, h⟩ := of_guard h
        refine AO.calm rfl 12 rfl (by decide) (.rp (eU8 (lget t5 x8))) (Calm.idxL (f := eU8) rfl rfl rfl hg14 Tryd.underlying22 sz5) ?_
        refine AO.calm rfl 13 rfl (by decide) (eU8 (lget t5 x8)) (Calm.loadRp rfl rfl ag5 sz5) ?_
        refine AO.calm rfl 5 rfl (by decide) (eU8 (lget t5 x8)) (Calm.assign rfl rfl) ?_
        refine AO.nil (ρ' := [(3, (.own n6 0 x7.length)), (5, (eU8 (lget t5 x8))), (8, (.fz 1 (t5.map eU8))), (9, (eI64 (t5.length : Int))), (10, (eI64 x8))]) (H' := [(n6, (.mem (.ar 2 (x7.map e35))))]) ⟨rfl, rfl, rfl, rfl, rfl, trivial⟩ (Sub.refl _) ?_
        refine AW.seq ?_
        refine AW.seq ?_
        refine AW.reg ?_
        refine AO.calm rfl 14 rfl (by decide) (.own n6 0 x7.length) (Calm.move rfl rfl) ?_
        refine AO.calm rfl 15 rfl (by decide) (eI64 (x7.length : Int)) (Calm.lenOwn rfl rfl Tryd.underlying32) ?_
        refine AO.calm rfl 6 rfl (by decide) (eI64 (x7.length : Int)) (Calm.assign rfl rfl) ?_
        refine AO.nil (ρ' := [(3, (.own n6 0 x7.length)), (5, (eU8 (lget t5 x8))), (6, (eI64 (x7.length : Int))), (8, (.fz 1 (t5.map eU8))), (9, (eI64 (t5.length : Int))), (10, (eI64 x8))]) (H' := [(n6, (.mem (.ar 2 (x7.map e35))))]) ⟨rfl, rfl, rfl, rfl, rfl, rfl, trivial⟩ (Sub.refl _) ?_
        refine AW.seq ?_
        obtain ⟨b15, hq16, h⟩ := of_bind h
        refine AW.regM [(3, (.own n6 0 x7.length)), (5, (eU8 (lget t5 x8))), (6, (eI64 (x7.length : Int))), (8, (.fz 1 (t5.map eU8))), (9, (eI64 (t5.length : Int))), (10, (eI64 x8)), (30, (eBool b15))] [(n6, (.mem (.ar 2 (x7.map e35))))] ?_ ?_
        · refine AO.calm rfl 16 rfl (by decide) (eI64 (x7.length : Int)) (Calm.move rfl rfl) ?_
          refine AO.calm rfl 17 rfl (by decide) (eBool (decide ((0 : Int) < (x7.length : Int)))) (Calm.int rfl rfl rfl rfl) ?_
          refine AO.calm rfl 18 rfl (by decide) (eBool (decide ((0 : Int) < (x7.length : Int)))) (Calm.move rfl rfl) ?_
          by_cases hc17 : (0 : Int) < (x7.length : Int)
          · have hq16 := (if_pos hc17).symm.trans hq16
            refine AO.calmG 2 true 18 rfl rfl (congrArg (fun b => some (AV.fl (Value.bool b))) (decide_eq_true hc17)) 19 rfl (by decide) (.own n6 0 x7.length) (Calm.move rfl rfl) ?_
            refine AO.calmG 2 true 18 rfl rfl (congrArg (fun b => some (AV.fl (Value.bool b))) (decide_eq_true hc17)) 20 rfl (by decide) (eI64 (x7.length : Int)) (Calm.move rfl rfl) ?_
            refine AO.calmG 2 true 18 rfl rfl (congrArg (fun b => some (AV.fl (Value.bool b))) (decide_eq_true hc17)) 21 rfl (by decide) (eI64 (w64 ((x7.length : Int) - (1 : Int)))) (Calm.int rfl rfl rfl rfl) ?_
            obtain ⟨hg18, hq16⟩ := of_guard hq16
            refine AO.calmG 2 true 18 rfl rfl (congrArg (fun b => some (AV.fl (Value.bool b))) (decide_eq_true hc17)) 22 rfl (by decide) (.ptr n6 ((w64 ((x7.length : Int) - (1 : Int))).toNat * 2 + 0)) (Calm.idxO 0 rfl rfl rfl rfl hg18 Tryd.underlying32 sz35) ?_
            refine AO.calmG 2 true 18 rfl rfl (congrArg (fun b => some (AV.fl (Value.bool b))) (decide_eq_true hc17)) 23 rfl (by decide) (.ptr n6 ((w64 ((x7.length : Int) - (1 : Int))).toNat * 2 + 0 + 1)) (Calm.fldPtr rfl rfl Tryd.underlying35 rfl sz5 _ rfl) ?_
            refine AO.calmG 2 true 18 rfl rfl (congrArg (fun b => some (AV.fl (Value.bool b))) (decide_eq_true hc17)) 24 rfl (by decide) (eU8 ((lget x7 (w64 ((x7.length : Int) - (1 : Int)))).f1)) (Calm.load 0 rfl rfl rfl (At.cast (At.lidx (w64 ((x7.length : Int) - (1 : Int))) hg18.1 hg18.2 (At.fldS (At.fld0 At.here))) (by omega)) ag5 sz5) ?_
            refine AO.calmG 2 true 18 rfl rfl (congrArg (fun b => some (AV.fl (Value.bool b))) (decide_eq_true hc17)) 25 rfl (by decide) (eI64 (w64 ((lget x7 (w64 ((x7.length : Int) - (1 : Int)))).f1))) (Calm.conv rfl rfl Tryd.underlying5 Tryd.underlying3) ?_
            refine AO.calmG 2 true 18 rfl rfl (congrArg (fun b => some (AV.fl (Value.bool b))) (decide_eq_true hc17)) 26 rfl (by decide) (eI64 (w64 ((w64 ((lget x7 (w64 ((x7.length : Int) - (1 : Int)))).f1)) + (1 : Int)))) (Calm.int rfl rfl rfl rfl) ?_
            refine AO.calmG 2 true 18 rfl rfl (congrArg (fun b => some (AV.fl (Value.bool b))) (decide_eq_true hc17)) 27 rfl (by decide) (eU8 (lget t5 x8)) (Calm.move rfl rfl) ?_
            refine AO.calmG 2 true 18 rfl rfl (congrArg (fun b => some (AV.fl (Value.bool b))) (decide_eq_true hc17)) 28 rfl (by decide) (eI64 (w64 (lget t5 x8))) (Calm.conv rfl rfl Tryd.underlying5 Tryd.underlying3) ?_
            refine AO.calmG 2 true 18 rfl rfl (congrArg (fun b => some (AV.fl (Value.bool b))) (decide_eq_true hc17)) 29 rfl (by decide) (eBool (decide ((w64 ((w64 ((lget x7 (w64 ((x7.length : Int) - (1 : Int)))).f1)) + (1 : Int))) = (w64 (lget t5 x8))))) (Calm.int rfl rfl rfl rfl) ?_
            refine AO.calm rfl 30 rfl (by decide) (eBool (decide ((w64 ((w64 ((lget x7 (w64 ((x7.length : Int) - (1 : Int)))).f1)) + (1 : Int))) = (w64 (lget t5 x8))))) (Calm.pickT rfl (congrArg (fun b => some (AV.fl (Value.bool b))) (decide_eq_true hc17)) rfl) ?_
            cases hq16
            refine AO.nilE ⟨rfl, rfl⟩ ?_ ?_
            · exact ⟨rfl, rfl, rfl, rfl, rfl, rfl, rfl, trivial⟩
            · exact (Sub.refl _)
          · have hq16 := (if_neg hc17).symm.trans hq16
            refine AO.skipG 2 false 18 rfl rfl (congrArg (fun b => some (AV.fl (Value.bool b))) (decide_eq_false hc17)) 19 rfl (by decide) ?_
            refine AO.skipG 2 false 18 rfl rfl (congrArg (fun b => some (AV.fl (Value.bool b))) (decide_eq_false hc17)) 20 rfl (by decide) ?_
            refine AO.skipG 2 false 18 rfl rfl (congrArg (fun b => some (AV.fl (Value.bool b))) (decide_eq_false hc17)) 21 rfl (by decide) ?_
            refine AO.skipG 2 false 18 rfl rfl (congrArg (fun b => some (AV.fl (Value.bool b))) (decide_eq_false hc17)) 22 rfl (by decide) ?_
            refine AO.skipG 2 false 18 rfl rfl (congrArg (fun b => some (AV.fl (Value.bool b))) (decide_eq_false hc17)) 23 rfl (by decide) ?_
            refine AO.skipG 2 false 18 rfl rfl (congrArg (fun b => some (AV.fl (Value.bool b))) (decide_eq_false hc17)) 24 rfl (by decide) ?_
            refine AO.skipG 2 false 18 rfl rfl (congrArg (fun b => some (AV.fl (Value.bool b))) (decide_eq_false hc17)) 25 rfl (by decide) ?_
            refine AO.skipG 2 false 18 rfl rfl (congrArg (fun b => some (AV.fl (Value.bool b))) (decide_eq_false hc17)) 26 rfl (by decide) ?_
            refine AO.skipG 2 false 18 rfl rfl (congrArg (fun b => some (AV.fl (Value.bool b))) (decide_eq_false hc17)) 27 rfl (by decide) ?_
            refine AO.skipG 2 false 18 rfl rfl (congrArg (fun b => some (AV.fl (Value.bool b))) (decide_eq_false hc17)) 28 rfl (by decide) ?_
            refine AO.skipG 2 false 18 rfl rfl (congrArg (fun b => some (AV.fl (Value.bool b))) (decide_eq_false hc17)) 29 rfl (by decide) ?_
            refine AO.calm rfl 30 rfl (by decide) (eBool false) (Calm.pickF rfl (congrArg (fun b => some (AV.fl (Value.bool b))) (decide_eq_false hc17)) rfl) ?_
            cases hq16
            refine AO.nilE ⟨rfl, rfl⟩ ?_ ?_
            · exact ⟨rfl, rfl, rfl, rfl, rfl, rfl, rfl, trivial⟩
            · exact (Sub.refl _)
        · by_cases hc19 : b15 = true
          · have h := (if_pos hc19).symm.trans h
            refine AW.condT' b15 rfl hc19 ?_
            refine AW.seq ?_
            refine AW.reg ?_
            refine AO.calm rfl 31 rfl (by decide) (.own n6 0 x7.length) (Calm.move rfl rfl) ?_
            refine AO.calm rfl 32 rfl (by decide) (eI64 (x7.length : Int)) (Calm.move rfl rfl) ?_
            refine AO.calm rfl 33 rfl (by decide) (eI64 (w64 ((x7.length : Int) - (1 : Int)))) (Calm.int rfl rfl rfl rfl) ?_
            refine AO.calm rfl 34 rfl (by decide) (eU8 (lget t5 x8)) (Calm.move rfl rfl) ?_
            obtain ⟨hg20, h⟩ := of_guard h
            refine AO.calm rfl 35 rfl (by decide) (.ptr n6 ((w64 ((x7.length : Int) - (1 : Int))).toNat * 2 + 0)) (Calm.idxO 0 rfl rfl rfl rfl hg20 Tryd.underlying32 sz35) ?_
            refine AO.calm rfl 36 rfl (by decide) (.ptr n6 ((w64 ((x7.length : Int) - (1 : Int))).toNat * 2 + 0 + 1)) (Calm.fldPtr rfl rfl Tryd.underlying35 rfl sz5 _ rfl) ?_
            refine AO.store (X' := (.ar 2 ((lset x7 (w64 ((x7.length : Int) - (1 : Int))) (S35.mk ((lget x7 (w64 ((x7.length : Int) - (1 : Int)))).f0) (lget t5 x8))).map e35))) 0 rfl rfl rfl rfl rfl rfl (Put.cast (Put.lidx (w64 ((x7.length : Int) - (1 : Int))) (S35.mk ((lget x7 (w64 ((x7.length : Int) - (1 : Int)))).f0) (lget t5 x8)) hg20.1 hg20.2 (Put.fldS (Put.fld0 Put.here))) (by omega)) rfl rfl sz5 rfl ?_
            refine AO.coe 3 (y' := (.own n6 0 (lset x7 (w64 ((x7.length : Int) - (1 : Int))) (S35.mk ((lget x7 (w64 ((x7.length : Int) - (1 : Int)))).f0) (lget t5 x8))).length)) rfl (fun _ _ h => lset_own h) ?_
            refine AO.coe 31 (y' := (.own n6 0 (lset x7 (w64 ((x7.length : Int) - (1 : Int))) (S35.mk ((lget x7 (w64 ((x7.length : Int) - (1 : Int)))).f0) (lget t5 x8))).length)) rfl (fun _ _ h => lset_own h) ?_
            refine AO.nil (ρ' := [(3, (.own n6 0 (lset x7 (w64 ((x7.length : Int) - (1 : Int))) (S35.mk ((lget x7 (w64 ((x7.length : Int) - (1 : Int)))).f0) (lget t5 x8))).length)), (8, (.fz 1 (t5.map eU8))), (9, (eI64 (t5.length : Int))), (10, (eI64 x8))]) (H' := [(n6, (.mem (.ar 2 ((lset x7 (w64 ((x7.length : Int) - (1 : Int))) (S35.mk ((lget x7 (w64 ((x7.length : Int) - (1 : Int)))).f0) (lget t5 x8))).map e35))))]) ⟨rfl, rfl, rfl, rfl, trivial⟩ (Sub.refl _) ?_
            refine AW.exit (ρ' := [(3, (.own n6 0 (lset x7 (w64 ((x7.length : Int) - (1 : Int))) (S35.mk ((lget x7 (w64 ((x7.length : Int) - (1 : Int)))).f0) (lget t5 x8))).length)), (8, (.fz 1 (t5.map eU8))), (9, (eI64 (t5.length : Int))), (10, (eI64 x8))]) (H' := [(n6, (.mem (.ar 2 ((lset x7 (w64 ((x7.length : Int) - (1 : Int))) (S35.mk ((lget x7 (w64 ((x7.length : Int) - (1 : Int)))).f0) (lget t5 x8))).map e35))))]) ⟨rfl, rfl, rfl, rfl, trivial⟩ (Sub.refl _) ?_
            exact ⟨n6, (lset x7 (w64 ((x7.length : Int) - (1 : Int))) (S35.mk ((lget x7 (w64 ((x7.length : Int) - (1 : Int)))).f0) (lget t5 x8))), rfl, rfl, h⟩
          · have h := (if_neg hc19).symm.trans h
            refine AW.condF' b15 rfl hc19 ?_
            refine AW.skip (ρ' := [(3, (.own n6 0 x7.length)), (5, (eU8 (lget t5 x8))), (8, (.fz 1 (t5.map eU8))), (9, (eI64 (t5.length : Int))), (10, (eI64 x8))]) (H' := [(n6, (.mem (.ar 2 (x7.map e35))))]) ⟨rfl, rfl, rfl, rfl, rfl, trivial⟩ (Sub.refl _) ?_
            refine AW.reg ?_
            refine AO.calm rfl 37 rfl (by decide) (.own n6 0 x7.length) (Calm.move rfl rfl) ?_
            refine AO.calm rfl 38 rfl (by decide) (eU8 (lget t5 x8)) (Calm.move rfl rfl) ?_
            refine AO.calm rfl 39 rfl (by decide) (eU8 (lget t5 x8)) (Calm.move rfl rfl) ?_
            refine AO.calm rfl 40 rfl (by decide) (.st [(1, (eU8 (lget t5 x8))), (1, (eU8 (lget t5 x8)))]) (Calm.build (qs := [(0, (eU8 (lget t5 x8))), (1, (eU8 (lget t5 x8)))]) rfl ⟨rfl, rfl, rfl, rfl, rfl, rfl, trivial⟩ Tryd.underlying35 rfl zr35 lay35 (.cons rfl rfl rfl rfl (Put.cast (Put.fld0 Put.here) rfl) (.cons rfl rfl rfl rfl (Put.cast (Put.fldS (Put.fld0 Put.here)) rfl) .nil)) rfl) ?_
            refine AO.lit (Z := (.st [(1, (eU8 (0 : Int))), (1, (eU8 (0 : Int)))])) (xs := (([(S35.mk (lget t5 x8) (lget t5 x8))] : List S35).map e35)) (qs := [(0, (e35 (S35.mk (lget t5 x8) (lget t5 x8))))]) rfl 41 rfl (by decide) rfl ⟨rfl, rfl, rfl, trivial⟩ Tryd.underlying32 sz35 zr35 lay35 rfl (by decide) (litOK (z := 2) [(e35 (S35.mk (lget t5 x8) (lget t5 x8)))] rfl ⟨⟨rfl, rfl⟩, trivial⟩) rfl fun n21 => ?_
            obtain ⟨hg23, h⟩ := of_guard h
            refine AO.appendL (l := x7) (m := ([(S35.mk (lget t5 x8) (lget t5 x8))] : List S35)) 1 42 rfl (by decide) rfl rfl rfl rfl rfl (Src.ownL (f := e35) (l := ([(S35.mk (lget t5 x8) (lget t5 x8))] : List S35)) 0 rfl) Tryd.underlying32 Tryd.underlying32 sz35 by35 zr35 rfl hg23 (by decide) fun n22 => ?_
            refine AO.calm rfl 3 rfl (by decide) (.own n22 0 (x7 ++ ([(S35.mk (lget t5 x8) (lget t5 x8))] : List S35)).length) (Calm.assign rfl rfl) ?_
            refine AO.nil (ρ' := [(3, (.own n22 0 (x7 ++ ([(S35.mk (lget t5 x8) (lget t5 x8))] : List S35)).length)), (8, (.fz 1 (t5.map eU8))), (9, (eI64 (t5.length : Int))), (10, (eI64 x8))]) (H' := [(n22, (.mem (.ar 2 ((x7 ++ ([(S35.mk (lget t5 x8) (lget t5 x8))] : List S35)).map e35))))]) ⟨rfl, rfl, rfl, rfl, trivial⟩ (Sub.cons 1 rfl (Sub.nil _)) ?_
            exact ⟨n22, (x7 ++ ([(S35.mk (lget t5 x8) (lget t5 x8))] : List S35)), rfl, rfl, h⟩
      · rintro _ _ ⟨n12, x13, rfl, rfl, h⟩
        rw [byteset_Spans_c1.eq_1] at h
        refine AW.reg ?_
        refine AO.calm rfl 43 rfl (by decide) (eI64 (w64 (x8 + (1 : Int)))) (Calm.int rfl rfl rfl rfl) ?_
        refine AO.calm rfl 10 rfl (by decide) (eI64 (w64 (x8 + (1 : Int)))) (Calm.move rfl rfl) ?_
        refine AO.nil (ρ' := [(3, (.own n12 0 x13.length)), (8, (.fz 1 (t5.map eU8))), (9, (eI64 (t5.length : Int))), (10, (eI64 (w64 (x8 + (1 : Int)))))]) (H' := [(n12, (.mem (.ar 2 (x13.map e35))))]) ⟨rfl, rfl, rfl, rfl, trivial⟩ (Sub.refl _) ?_
        exact ⟨kq10, Nat.lt_succ_self _, n12, x13, (w64 (x8 + (1 : Int))), rfl, rfl, by rw [hrec9]; exact h⟩
    · have h := (if_neg hc11).symm.trans h
      refine AW.condN (x8 < (t5.length : Int)) rfl hc11 ?_
      refine AW.exit (ρ' := [(3, (.own n6 0 x7.length))]) (H' := [(n6, (.mem (.ar 2 (x7.map e35))))]) ⟨rfl, trivial⟩ (Sub.refl _) ?_
      exact ⟨n6, x7, rfl, rfl, h⟩
  · rintro _ _ ⟨n3, x4, rfl, rfl, h⟩
    rw [byteset_Spans_c0.eq_1] at h
    refine AW.seq ?_
    refine AW.reg ?_
    refine AO.calm rfl 44 rfl (by decide) (.own n3 0 x4.length) (Calm.move rfl rfl) ?_
    refine AO.calm rfl 2 rfl (by decide) (.own n3 0 x4.length) (Calm.assign rfl rfl) ?_
    refine AO.nil (ρ' := [(2, (.own n3 0 x4.length))]) (H' := [(n3, (.mem (.ar 2 (x4.map e35))))]) ⟨rfl, trivial⟩ (Sub.refl _) ?_
    refine AW.freezeS 0 [(2, (.fz 2 (x4.map e35)))] rfl ⟨fz_all rfl, trivial⟩ ?_
    refine AW.ret (ρ' := [(2, (.fz 2 (x4.map e35)))]) (H' := []) ⟨rfl, trivial⟩ (Sub.refl _) ?_
    have hr := Option.some.inj h
    subst hr
    exact ⟨[(.fz 2 (x4.map e35))], ⟨rfl, rfl, trivial⟩, rfl⟩
end Go.Avl.TD
/- bosket/bosketlaw02.awake; printed by avmain.py. -/
namespace Go.Avl.TD
open Go Go.RowKit Go.Proofs Go.Avl
set_option linter.unusedVariables false
set_option maxRecDepth 100000
set_option maxHeartbeats 4000000
attribute [local irreducible] AW AO AQ Spec SpecH Calm

def bosketlaw02_awake (k : Nat) : Option Bool :=
  (byteset_Of k [(97 : Int), (98 : Int), (99 : Int), (120 : Int)]).bind fun t2 =>
  (byteset_Spans k t2).bind fun t3 =>
  Option.bind (α := Bool) (if (t3.length : Int) = (2 : Int) then if 0 ≤ (0 : Int) ∧ (0 : Int) < (t3.length : Int) then if (lget t3 (0 : Int)) = (S35.mk (97 : Int) (99 : Int)) then if 0 ≤ (1 : Int) ∧ (1 : Int) < (t3.length : Int) then some (decide ((lget t3 (1 : Int)) = (S35.mk (120 : Int) (120 : Int))))
  else none
  else some (false)
  else none
  else some (false)) fun b4 =>
  some (b4)
theorem bosketlaw02_awake_spec {k : Nat}  {r : Bool} (h : bosketlaw02_awake k = some r) : Spec Tryd.prog 7 [] (eBool r) := by
  rw [bosketlaw02_awake.eq_1] at h
  refine Spec.intro (res := [.tmp 0]) Tryd.func7 rfl rfl rfl (Nat.le_of_ble_eq_true rfl) ?_
  refine AW.seq ?_
  refine AW.reg ?_
  refine AO.calm rfl 0 rfl (by decide) (eBool false) (Calm.assign rfl rfl) ?_
  refine AO.nil (ρ' := []) (H' := []) trivial (Sub.refl _) ?_
  refine AW.seq ?_
  refine AW.reg ?_
  refine AO.lit (Z := (eU8 (0 : Int))) (xs := (([(97 : Int), (98 : Int), (99 : Int), (120 : Int)] : List Int).map eU8)) (qs := [(0, (eU8 (97 : Int))), (1, (eU8 (98 : Int))), (2, (eU8 (99 : Int))), (3, (eU8 (120 : Int)))]) rfl 2 rfl (by decide) rfl ⟨rfl, rfl, rfl, rfl, rfl, rfl, rfl, rfl, rfl, rfl, rfl, rfl, trivial⟩ Tryd.underlying22 sz5 zr5 lay5 rfl (by decide) (litOK (z := 1) [(eU8 (97 : Int)), (eU8 (98 : Int)), (eU8 (99 : Int)), (eU8 (120 : Int))] rfl ⟨⟨rfl, rfl⟩, ⟨rfl, rfl⟩, ⟨rfl, rfl⟩, ⟨rfl, rfl⟩, trivial⟩) rfl fun n1 => ?_
  obtain ⟨t2, et2, h⟩ := of_bind h
  refine AO.freezeS 0 [(2, (.fz 1 (([(97 : Int), (98 : Int), (99 : Int), (120 : Int)] : List Int).map eU8)))] rfl ⟨fz_all rfl, trivial⟩ ?_
  refine AO.callS [(.fz 1 (([(97 : Int), (98 : Int), (99 : Int), (120 : Int)] : List Int).map eU8))] (.ar 1 (t2.toList.map eU64)) 3 rfl (by decide) ok8 rfl rfl rfl ⟨rfl, rfl, trivial⟩ (byteset_Of_spec et2) ?_
  obtain ⟨t3, et3, h⟩ := of_bind h
  refine AO.callS [(.ar 1 (t2.toList.map eU64))] (.fz 2 (t3.map e35)) 4 rfl (by decide) ok11 rfl rfl rfl ⟨rfl, rfl, trivial⟩ (byteset_Spans_spec et3) ?_
  refine AO.calm rfl 1 rfl (by decide) (.fz 2 (t3.map e35)) (Calm.assign rfl rfl) ?_
  refine AO.nil (ρ' := [(1, (.fz 2 (t3.map e35)))]) (H' := []) ⟨rfl, trivial⟩ (Sub.refl _) ?_
  refine AW.seq ?_
  obtain ⟨b4, hq5, h⟩ := of_bind h
  refine AW.regM [(0, (eBool b4))] [] ?_ ?_
  · refine AO.calm rfl 5 rfl (by decide) (.fz 2 (t3.map e35)) (Calm.move rfl rfl) ?_
    refine AO.calm rfl 6 rfl (by decide) (eI64 (t3.length : Int)) (Calm.lenL rfl rfl Tryd.underlying32) ?_
    refine AO.calm rfl 7 rfl (by decide) (eBool (decide ((t3.length : Int) = (2 : Int)))) (Calm.int rfl rfl rfl rfl) ?_
    refine AO.calm rfl 8 rfl (by decide) (eBool (decide ((t3.length : Int) = (2 : Int)))) (Calm.move rfl rfl) ?_
    by_cases hc6 : (t3.length : Int) = (2 : Int)
    · have hq5 := (if_pos hc6).symm.trans hq5
      refine AO.calmG 3 true 8 rfl rfl (congrArg (fun b => some (AV.fl (Value.bool b))) (decide_eq_true hc6)) 9 rfl (by decide) (.fz 2 (t3.map e35)) (Calm.move rfl rfl) ?_
      obtain ⟨hg7, hq5⟩ := of_guard hq5
      refine AO.calmG 3 true 8 rfl rfl (congrArg (fun b => some (AV.fl (Value.bool b))) (decide_eq_true hc6)) 10 rfl (by decide) (.rp (e35 (lget t3 (0 : Int)))) (Calm.idxL (f := e35) rfl rfl rfl hg7 Tryd.underlying32 sz35) ?_
      refine AO.calmG 3 true 8 rfl rfl (congrArg (fun b => some (AV.fl (Value.bool b))) (decide_eq_true hc6)) 11 rfl (by decide) (e35 (lget t3 (0 : Int))) (Calm.loadRp rfl rfl ag35 sz35) ?_
      refine AO.calmG 3 true 8 rfl rfl (congrArg (fun b => some (AV.fl (Value.bool b))) (decide_eq_true hc6)) 12 rfl (by decide) (.st [(1, (eU8 (97 : Int))), (1, (eU8 (99 : Int)))]) (Calm.build (qs := [(0, (eU8 (97 : Int))), (1, (eU8 (99 : Int)))]) rfl ⟨rfl, rfl, rfl, rfl, rfl, rfl, trivial⟩ Tryd.underlying35 rfl zr35 lay35 (.cons rfl rfl rfl rfl (Put.cast (Put.fld0 Put.here) rfl) (.cons rfl rfl rfl rfl (Put.cast (Put.fldS (Put.fld0 Put.here)) rfl) .nil)) rfl) ?_
      refine AO.calmG 3 true 8 rfl rfl (congrArg (fun b => some (AV.fl (Value.bool b))) (decide_eq_true hc6)) 13 rfl (by decide) (eBool (decide ((lget t3 (0 : Int)) = (S35.mk (97 : Int) (99 : Int))))) (Calm.eqS rfl rfl rfl eg35 (eqk35 (lget t3 (0 : Int)) (S35.mk (97 : Int) (99 : Int))) (by decide)) ?_
      refine AO.calm rfl 14 rfl (by decide) (eBool (decide ((lget t3 (0 : Int)) = (S35.mk (97 : Int) (99 : Int))))) (Calm.pickT rfl (congrArg (fun b => some (AV.fl (Value.bool b))) (decide_eq_true hc6)) rfl) ?_
      refine AO.calm rfl 15 rfl (by decide) (eBool (decide ((lget t3 (0 : Int)) = (S35.mk (97 : Int) (99 : Int))))) (Calm.move rfl rfl) ?_
      by_cases hc8 : (lget t3 (0 : Int)) = (S35.mk (97 : Int) (99 : Int))
      · have hq5 := (if_pos hc8).symm.trans hq5
        refine AO.calmG 10 true 15 rfl rfl (congrArg (fun b => some (AV.fl (Value.bool b))) (decide_eq_true hc8)) 16 rfl (by decide) (.fz 2 (t3.map e35)) (Calm.move rfl rfl) ?_
        obtain ⟨hg9, hq5⟩ := of_guard hq5
        refine AO.calmG 10 true 15 rfl rfl (congrArg (fun b => some (AV.fl (Value.bool b))) (decide_eq_true hc8)) 17 rfl (by decide) (.rp (e35 (lget t3 (1 : Int)))) (Calm.idxL (f := e35) rfl rfl rfl hg9 Tryd.underlying32 sz35) ?_
        refine AO.calmG 10 true 15 rfl rfl (congrArg (fun b => some (AV.fl (Value.bool b))) (decide_eq_true hc8)) 18 rfl (by decide) (e35 (lget t3 (1 : Int))) (Calm.loadRp rfl rfl ag35 sz35) ?_
        refine AO.calmG 10 true 15 rfl rfl (congrArg (fun b => some (AV.fl (Value.bool b))) (decide_eq_true hc8)) 19 rfl (by decide) (.st [(1, (eU8 (120 : Int))), (1, (eU8 (120 : Int)))]) (Calm.build (qs := [(0, (eU8 (120 : Int))), (1, (eU8 (120 : Int)))]) rfl ⟨rfl, rfl, rfl, rfl, rfl, rfl, trivial⟩ Tryd.underlying35 rfl zr35 lay35 (.cons rfl rfl rfl rfl (Put.cast (Put.fld0 Put.here) rfl) (.cons rfl rfl rfl rfl (Put.cast (Put.fldS (Put.fld0 Put.here)) rfl) .nil)) rfl) ?_
        refine AO.calmG 10 true 15 rfl rfl (congrArg (fun b => some (AV.fl (Value.bool b))) (decide_eq_true hc8)) 20 rfl (by decide) (eBool (decide ((lget t3 (1 : Int)) = (S35.mk (120 : Int) (120 : Int))))) (Calm.eqS rfl rfl rfl eg35 (eqk35 (lget t3 (1 : Int)) (S35.mk (120 : Int) (120 : Int))) (by decide)) ?_
        refine AO.calm rfl 21 rfl (by decide) (eBool (decide ((lget t3 (1 : Int)) = (S35.mk (120 : Int) (120 : Int))))) (Calm.pickT rfl (congrArg (fun b => some (AV.fl (Value.bool b))) (decide_eq_true hc8)) rfl) ?_
        refine AO.calm rfl 0 rfl (by decide) (eBool (decide ((lget t3 (1 : Int)) = (S35.mk (120 : Int) (120 : Int))))) (Calm.assign rfl rfl) ?_
        cases hq5
        refine AO.nilE ⟨rfl, rfl⟩ ?_ ?_
        · exact ⟨rfl, trivial⟩
        · exact (Sub.refl _)
      · have hq5 := (if_neg hc8).symm.trans hq5
        refine AO.skipG 10 false 15 rfl rfl (congrArg (fun b => some (AV.fl (Value.bool b))) (decide_eq_false hc8)) 16 rfl (by decide) ?_
        refine AO.skipG 10 false 15 rfl rfl (congrArg (fun b => some (AV.fl (Value.bool b))) (decide_eq_false hc8)) 17 rfl (by decide) ?_
        refine AO.skipG 10 false 15 rfl rfl (congrArg (fun b => some (AV.fl (Value.bool b))) (decide_eq_false hc8)) 18 rfl (by decide) ?_
        refine AO.skipG 10 false 15 rfl rfl (congrArg (fun b => some (AV.fl (Value.bool b))) (decide_eq_false hc8)) 19 rfl (by decide) ?_
        refine AO.skipG 10 false 15 rfl rfl (congrArg (fun b => some (AV.fl (Value.bool b))) (decide_eq_false hc8)) 20 rfl (by decide) ?_
        refine AO.calm rfl 21 rfl (by decide) (eBool false) (Calm.pickF rfl (congrArg (fun b => some (AV.fl (Value.bool b))) (decide_eq_false hc8)) rfl) ?_
        refine AO.calm rfl 0 rfl (by decide) (eBool false) (Calm.assign rfl rfl) ?_
        cases hq5
        refine AO.nilE ⟨rfl, rfl⟩ ?_ ?_
        · exact ⟨rfl, trivial⟩
        · exact (Sub.refl _)
    · have hq5 := (if_neg hc6).symm.trans hq5
      refine AO.skipG 3 false 8 rfl rfl (congrArg (fun b => some (AV.fl (Value.bool b))) (decide_eq_false hc6)) 9 rfl (by decide) ?_
      refine AO.skipG 3 false 8 rfl rfl (congrArg (fun b => some (AV.fl (Value.bool b))) (decide_eq_false hc6)) 10 rfl (by decide) ?_
      refine AO.skipG 3 false 8 rfl rfl (congrArg (fun b => some (AV.fl (Value.bool b))) (decide_eq_false hc6)) 11 rfl (by decide) ?_
      refine AO.skipG 3 false 8 rfl rfl (congrArg (fun b => some (AV.fl (Value.bool b))) (decide_eq_false hc6)) 12 rfl (by decide) ?_
      refine AO.skipG 3 false 8 rfl rfl (congrArg (fun b => some (AV.fl (Value.bool b))) (decide_eq_false hc6)) 13 rfl (by decide) ?_
      refine AO.calm rfl 14 rfl (by decide) (eBool false) (Calm.pickF rfl (congrArg (fun b => some (AV.fl (Value.bool b))) (decide_eq_false hc6)) rfl) ?_
      refine AO.calm rfl 15 rfl (by decide) (eBool false) (Calm.move rfl rfl) ?_
      refine AO.skipG 10 false 15 rfl rfl rfl 16 rfl (by decide) ?_
      refine AO.skipG 10 false 15 rfl rfl rfl 17 rfl (by decide) ?_
      refine AO.skipG 10 false 15 rfl rfl rfl 18 rfl (by decide) ?_
      refine AO.skipG 10 false 15 rfl rfl rfl 19 rfl (by decide) ?_
      refine AO.skipG 10 false 15 rfl rfl rfl 20 rfl (by decide) ?_
      refine AO.calm rfl 21 rfl (by decide) (eBool false) (Calm.pickF rfl rfl rfl) ?_
      refine AO.calm rfl 0 rfl (by decide) (eBool false) (Calm.assign rfl rfl) ?_
      cases hq5
      refine AO.nilE ⟨rfl, rfl⟩ ?_ ?_
      · exact ⟨rfl, trivial⟩
      · exact (Sub.refl _)
  · refine AW.ret (ρ' := [(0, (eBool b4))]) (H' := []) ⟨rfl, trivial⟩ (Sub.refl _) ?_
    have hr := Option.some.inj h
    subst hr
    exact ⟨[(eBool b4)], ⟨rfl, rfl, trivial⟩, rfl⟩
end Go.Avl.TD
/- bosket/bosketlaw02.BytesetClasses; printed by avmain.py. -/
namespace Go.Avl.TD
open Go Go.RowKit Go.Proofs Go.Avl
set_option linter.unusedVariables false
set_option maxRecDepth 100000
set_option maxHeartbeats 4000000
attribute [local irreducible] AW AO AQ Spec SpecH Calm

def bosketlaw02_BytesetClasses_c0 (k : Nat) (t5 : (Vector Int 256)) (x7 : Int) : Option Bool :=
  (byteset_Count k t5).bind fun t8 =>
  some (decide (t8 = x7))
def bosketlaw02_BytesetClasses_c1 (k : Nat) (rec11 : (Int → Int → Option Bool)) (t5 : (Vector Int 256)) (x10 : Int) (t14 : Int) (x15 : Int) : Option Bool :=
  if 0 ≤ x10 ∧ x10 < (256 : Int) then if 0 ≤ t14 ∧ t14 < (256 : Int) then if (vget t5 x10) ≠ (vget t5 t14) then some (false)
  else rec11 x15 (w64 (x10 + (1 : Int)))
  else none
  else none
def bosketlaw02_BytesetClasses_l2 (k : Nat) (p0 : (List (Vector Int 4))) (t5 : (Vector Int 256)) : Nat → Int → Int → Option Bool
  | 0, _, _ => none
  | j + 1, x9, x10 =>
    if x10 < (256 : Int) then (bosketref02_Class k p0 x10).bind fun t14 =>
    if t14 = x10 then if 0 ≤ x10 ∧ x10 < (256 : Int) then if (w64 (vget t5 x10)) ≠ x9 then some (false)
    else bosketlaw02_BytesetClasses_c1 k (bosketlaw02_BytesetClasses_l2 k p0 t5 j) t5 x10 t14 (w64 (x9 + (1 : Int)))
    else none
    else bosketlaw02_BytesetClasses_c1 k (bosketlaw02_BytesetClasses_l2 k p0 t5 j) t5 x10 t14 x9
    else bosketlaw02_BytesetClasses_c0 k t5 x9
def bosketlaw02_BytesetClasses (k : Nat) (p0 : (List (Vector Int 4))) : Option Bool :=
  (bosketlaw02_awake k).bind fun t2 =>
  if (!t2) = true then some (false)
  else if (12 : Int) < (p0.length : Int) then some (true)
  else (byteset_Classes k p0).bind fun t5 =>
  bosketlaw02_BytesetClasses_l2 k p0 t5 k (0 : Int) (0 : Int)
theorem bosketlaw02_BytesetClasses_spec {k : Nat} {p0 : (List (Vector Int 4))} {r : Bool} (h : bosketlaw02_BytesetClasses k p0 = some r) : Spec Tryd.prog 5 [(.fz 4 (p0.map e27))] (eBool r) := by
  rw [bosketlaw02_BytesetClasses.eq_1] at h
  refine Spec.intro (res := [.tmp 2]) Tryd.func5 rfl rfl rfl (Nat.le_of_ble_eq_true rfl) ?_
  refine AW.seq ?_
  refine AW.reg ?_
  refine AO.calm rfl 2 rfl (by decide) (eBool false) (Calm.assign rfl rfl) ?_
  refine AO.nil (ρ' := [(0, (.fz 4 (p0.map e27)))]) (H' := []) ⟨rfl, trivial⟩ (Sub.refl _) ?_
  refine AW.seq ?_
  refine AW.seq ?_
  refine AW.reg ?_
  obtain ⟨t2, et2, h⟩ := of_bind h
  refine AO.callS [] (eBool t2) 7 rfl (by decide) ok7 rfl rfl rfl trivial (bosketlaw02_awake_spec et2) ?_
  refine AO.calm rfl 8 rfl (by decide) (eBool (!t2)) (Calm.not rfl rfl) ?_
  refine AO.nil (ρ' := [(0, (.fz 4 (p0.map e27))), (8, (eBool (!t2)))]) (H' := []) ⟨rfl, rfl, trivial⟩ (Sub.refl _) ?_
  by_cases hc3 : (!t2) = true
  · have h := (if_pos hc3).symm.trans h
    refine AW.condT' (!t2) rfl hc3 ?_
    refine AW.seq ?_
    refine AW.reg ?_
    refine AO.calm rfl 2 rfl (by decide) (eBool false) (Calm.assign rfl rfl) ?_
    refine AO.nil (ρ' := [(2, (eBool false))]) (H' := []) ⟨rfl, trivial⟩ (Sub.refl _) ?_
    refine AW.ret (ρ' := [(2, (eBool false))]) (H' := []) ⟨rfl, trivial⟩ (Sub.refl _) ?_
    have hr := Option.some.inj h
    subst hr
    exact ⟨[(eBool false)], ⟨rfl, rfl, trivial⟩, rfl⟩
  · have h := (if_neg hc3).symm.trans h
    refine AW.condF' (!t2) rfl hc3 ?_
    refine AW.skip (ρ' := [(0, (.fz 4 (p0.map e27)))]) (H' := []) ⟨rfl, trivial⟩ (Sub.refl _) ?_
    refine AW.seq ?_
    refine AW.seq ?_
    refine AW.reg ?_
    refine AO.calm rfl 9 rfl (by decide) (.fz 4 (p0.map e27)) (Calm.move rfl rfl) ?_
    refine AO.calm rfl 10 rfl (by decide) (eI64 (p0.length : Int)) (Calm.lenL rfl rfl Tryd.underlying38) ?_
    refine AO.calm rfl 11 rfl (by decide) (eBool (decide ((12 : Int) < (p0.length : Int)))) (Calm.int rfl rfl rfl rfl) ?_
    refine AO.nil (ρ' := [(0, (.fz 4 (p0.map e27))), (11, (eBool (decide ((12 : Int) < (p0.length : Int)))))]) (H' := []) ⟨rfl, rfl, trivial⟩ (Sub.refl _) ?_
    by_cases hc4 : (12 : Int) < (p0.length : Int)
    · have h := (if_pos hc4).symm.trans h
      refine AW.condP ((12 : Int) < (p0.length : Int)) rfl hc4 ?_
      refine AW.seq ?_
      refine AW.reg ?_
      refine AO.calm rfl 2 rfl (by decide) (eBool true) (Calm.assign rfl rfl) ?_
      refine AO.nil (ρ' := [(2, (eBool true))]) (H' := []) ⟨rfl, trivial⟩ (Sub.refl _) ?_
      refine AW.ret (ρ' := [(2, (eBool true))]) (H' := []) ⟨rfl, trivial⟩ (Sub.refl _) ?_
      have hr := Option.some.inj h
      subst hr
      exact ⟨[(eBool true)], ⟨rfl, rfl, trivial⟩, rfl⟩
    · have h := (if_neg hc4).symm.trans h
      refine AW.condN ((12 : Int) < (p0.length : Int)) rfl hc4 ?_
      refine AW.skip (ρ' := [(0, (.fz 4 (p0.map e27)))]) (H' := []) ⟨rfl, trivial⟩ (Sub.refl _) ?_
      refine AW.seq ?_
      refine AW.reg ?_
      refine AO.calm rfl 12 rfl (by decide) (.fz 4 (p0.map e27)) (Calm.move rfl rfl) ?_
      obtain ⟨t5, et5, h⟩ := of_bind h
      refine AO.callS [(.fz 4 (p0.map e27))] (.ar 1 (t5.toList.map eU8)) 13 rfl (by decide) ok13 rfl rfl rfl ⟨rfl, rfl, trivial⟩ (byteset_Classes_spec et5) ?_
      refine AO.alloc rfl 3 rfl (by decide) rfl zr39 lay39 fun n6 => ?_
      refine AO.store (X' := (.ar 1 (t5.toList.map eU8))) 0 rfl rfl rfl rfl rfl rfl (Put.cast Put.here rfl) rfl (by simp [AV.size]) (by rw [sz39]; simp [AV.size]) rfl ?_
      refine AO.nil (ρ' := [(0, (.fz 4 (p0.map e27))), (3, (.ptr n6 0))]) (H' := [(n6, (.mem (.ar 1 (t5.toList.map eU8))))]) ⟨rfl, rfl, trivial⟩ (Sub.refl _) ?_
      refine AW.seq ?_
      refine AW.reg ?_
      refine AO.calm rfl 4 rfl (by decide) (eI64 (0 : Int)) (Calm.assign rfl rfl) ?_
      refine AO.nil (ρ' := [(0, (.fz 4 (p0.map e27))), (3, (.ptr n6 0)), (4, (eI64 (0 : Int)))]) (H' := [(n6, (.mem (.ar 1 (t5.toList.map eU8))))]) ⟨rfl, rfl, rfl, trivial⟩ (Sub.refl _) ?_
      refine AW.seq_mid (fun ρ H => ∃ (x7 : Int), ρ = [(3, (.ptr n6 0)), (4, (eI64 x7))] ∧ H = [(n6, (.mem (.ar 1 (t5.toList.map eU8))))] ∧ bosketlaw02_BytesetClasses_c0 k t5 x7 = some r) ?_ ?_
      · refine AW.seq ?_
        refine AW.reg ?_
        refine AO.calm rfl 5 rfl (by decide) (eI64 (0 : Int)) (Calm.assign rfl rfl) ?_
        refine AO.nil (ρ' := [(0, (.fz 4 (p0.map e27))), (3, (.ptr n6 0)), (4, (eI64 (0 : Int))), (5, (eI64 (0 : Int)))]) (H' := [(n6, (.mem (.ar 1 (t5.toList.map eU8))))]) ⟨rfl, rfl, rfl, rfl, trivial⟩ (Sub.refl _) ?_
        refine AW.block ?_
        refine AW.weak (ρ' := [(0, (.fz 4 (p0.map e27))), (3, (.ptr n6 0)), (4, (eI64 (0 : Int))), (5, (eI64 (0 : Int)))]) (H' := [(n6, (.mem (.ar 1 (t5.toList.map eU8))))]) ⟨rfl, rfl, rfl, rfl, trivial⟩ (Sub.refl _) ?_
        refine AW.loop (fun kq ρ H => ∃ (x9 : Int) (x10 : Int), ρ = [(0, (.fz 4 (p0.map e27))), (3, (.ptr n6 0)), (4, (eI64 x9)), (5, (eI64 x10))] ∧ H = [(n6, (.mem (.ar 1 (t5.toList.map eU8))))] ∧ bosketlaw02_BytesetClasses_l2 k p0 t5 kq x9 x10 = some r) k ⟨(0 : Int), (0 : Int), rfl, rfl, h⟩ ?_
        rintro kq12 _ _ ⟨x9, x10, rfl, rfl, h⟩
        cases kq12 with
        | zero => rw [bosketlaw02_BytesetClasses_l2.eq_1] at h; cases h
        | succ kq12 =>
        rw [bosketlaw02_BytesetClasses_l2.eq_2] at h
        generalize hrec11 : bosketlaw02_BytesetClasses_l2 k p0 t5 kq12 = rec11 at h
        refine AW.seq ?_
        refine AW.seq ?_
        refine AW.reg ?_
        refine AO.calm rfl 14 rfl (by decide) (eI64 x10) (Calm.move rfl rfl) ?_
        refine AO.calm rfl 15 rfl (by decide) (eBool (decide (x10 < (256 : Int)))) (Calm.int rfl rfl rfl rfl) ?_
        refine AO.nil (ρ' := [(0, (.fz 4 (p0.map e27))), (3, (.ptr n6 0)), (4, (eI64 x9)), (5, (eI64 x10)), (15, (eBool (decide (x10 < (256 : Int)))))]) (H' := [(n6, (.mem (.ar 1 (t5.toList.map eU8))))]) ⟨rfl, rfl, rfl, rfl, rfl, trivial⟩ (Sub.refl _) ?_
        by_cases hc13 : x10 < (256 : Int)
        · have h := (if_pos hc13).symm.trans h
          refine AW.condP (x10 < (256 : Int)) rfl hc13 ?_
          refine AW.skip (ρ' := [(0, (.fz 4 (p0.map e27))), (3, (.ptr n6 0)), (4, (eI64 x9)), (5, (eI64 x10))]) (H' := [(n6, (.mem (.ar 1 (t5.toList.map eU8))))]) ⟨rfl, rfl, rfl, rfl, trivial⟩ (Sub.refl _) ?_
          refine AW.seq ?_
          refine AW.block ?_
          refine AW.seq ?_
          refine AW.reg ?_
          refine AO.calm rfl 18 rfl (by decide) (.fz 4 (p0.map e27)) (Calm.move rfl rfl) ?_
          refine AO.calm rfl 19 rfl (by decide) (eI64 x10) (Calm.move rfl rfl) ?_
          obtain ⟨t14, et14, h⟩ := of_bind h
          refine AO.callS [(.fz 4 (p0.map e27)), (eI64 x10)] (eI64 t14) 20 rfl (by decide) ok14 rfl rfl rfl ⟨rfl, rfl, rfl, rfl, trivial⟩ (bosketref02_Class_spec et14) ?_
          refine AO.calm rfl 6 rfl (by decide) (eI64 t14) (Calm.assign rfl rfl) ?_
          refine AO.nil (ρ' := [(0, (.fz 4 (p0.map e27))), (3, (.ptr n6 0)), (4, (eI64 x9)), (5, (eI64 x10)), (6, (eI64 t14))]) (H' := [(n6, (.mem (.ar 1 (t5.toList.map eU8))))]) ⟨rfl, rfl, rfl, rfl, rfl, trivial⟩ (Sub.refl _) ?_
          refine AW.seq_mid (fun ρ H => ∃ (x15 : Int), ρ = [(0, (.fz 4 (p0.map e27))), (3, (.ptr n6 0)), (4, (eI64 x15)), (5, (eI64 x10)), (6, (eI64 t14))] ∧ H = [(n6, (.mem (.ar 1 (t5.toList.map eU8))))] ∧ bosketlaw02_BytesetClasses_c1 k rec11 t5 x10 t14 x15 = some r) ?_ ?_
          · refine AW.seq ?_
            refine AW.reg ?_
            refine AO.calm rfl 21 rfl (by decide) (eI64 t14) (Calm.move rfl rfl) ?_
            refine AO.calm rfl 22 rfl (by decide) (eI64 x10) (Calm.move rfl rfl) ?_
            refine AO.calm rfl 23 rfl (by decide) (eBool (decide (t14 = x10))) (Calm.int rfl rfl rfl rfl) ?_
            refine AO.nil (ρ' := [(0, (.fz 4 (p0.map e27))), (3, (.ptr n6 0)), (4, (eI64 x9)), (5, (eI64 x10)), (6, (eI64 t14)), (23, (eBool (decide (t14 = x10))))]) (H' := [(n6, (.mem (.ar 1 (t5.toList.map eU8))))]) ⟨rfl, rfl, rfl, rfl, rfl, rfl, trivial⟩ (Sub.refl _) ?_
            by_cases hc19 : t14 = x10
            · have h := (if_pos hc19).symm.trans h
              refine AW.condP (t14 = x10) rfl hc19 ?_
              refine AW.seq ?_
              refine AW.seq ?_
              refine AW.reg ?_
              refine AO.calm rfl 24 rfl (by decide) (eI64 x10) (Calm.move rfl rfl) ?_
              obtain ⟨hg20, h⟩ := of_guard h
              refine AO.calm rfl 25 rfl (by decide) (.ptr n6 (0 + x10.toNat * 1)) (Calm.idxP rfl rfl rfl hg20 Tryd.underlying39 sz5) ?_
              refine AO.calm rfl 26 rfl (by decide) (eU8 (vget t5 x10)) (Calm.load 0 rfl rfl rfl (At.cast (At.vidx x10 hg20.1 hg20.2 At.here) (by omega)) ag5 sz5) ?_
              refine AO.calm rfl 27 rfl (by decide) (eI64 (w64 (vget t5 x10))) (Calm.conv rfl rfl Tryd.underlying5 Tryd.underlying3) ?_
              refine AO.calm rfl 28 rfl (by decide) (eI64 x9) (Calm.move rfl rfl) ?_
              refine AO.calm rfl 29 rfl (by decide) (eBool (decide ((w64 (vget t5 x10)) ≠ x9))) (Calm.int rfl rfl rfl rfl) ?_
              refine AO.nil (ρ' := [(0, (.fz 4 (p0.map e27))), (3, (.ptr n6 0)), (4, (eI64 x9)), (5, (eI64 x10)), (6, (eI64 t14)), (29, (eBool (decide ((w64 (vget t5 x10)) ≠ x9))))]) (H' := [(n6, (.mem (.ar 1 (t5.toList.map eU8))))]) ⟨rfl, rfl, rfl, rfl, rfl, rfl, trivial⟩ (Sub.refl _) ?_
              by_cases hc21 : (w64 (vget t5 x10)) ≠ x9
              · have h := (if_pos hc21).symm.trans h
                refine AW.condP ((w64 (vget t5 x10)) ≠ x9) rfl hc21 ?_
                refine AW.seq ?_
                refine AW.reg ?_
                refine AO.calm rfl 2 rfl (by decide) (eBool false) (Calm.assign rfl rfl) ?_
                refine AO.nil (ρ' := [(2, (eBool false))]) (H' := []) ⟨rfl, trivial⟩ (Sub.nil _) ?_
                refine AW.ret (ρ' := [(2, (eBool false))]) (H' := []) ⟨rfl, trivial⟩ (Sub.refl _) ?_
                have hr := Option.some.inj h
                subst hr
                exact ⟨[(eBool false)], ⟨rfl, rfl, trivial⟩, rfl⟩
              · have h := (if_neg hc21).symm.trans h
                refine AW.condN ((w64 (vget t5 x10)) ≠ x9) rfl hc21 ?_
                refine AW.skip (ρ' := [(0, (.fz 4 (p0.map e27))), (3, (.ptr n6 0)), (4, (eI64 x9)), (5, (eI64 x10)), (6, (eI64 t14))]) (H' := [(n6, (.mem (.ar 1 (t5.toList.map eU8))))]) ⟨rfl, rfl, rfl, rfl, rfl, trivial⟩ (Sub.refl _) ?_
                refine AW.reg ?_
                refine AO.calm rfl 30 rfl (by decide) (eI64 x9) (Calm.move rfl rfl) ?_
                refine AO.calm rfl 31 rfl (by decide) (eI64 (w64 (x9 + (1 : Int)))) (Calm.int rfl rfl rfl rfl) ?_
                refine AO.calm rfl 4 rfl (by decide) (eI64 (w64 (x9 + (1 : Int)))) (Calm.assign rfl rfl) ?_
                refine AO.nil (ρ' := [(0, (.fz 4 (p0.map e27))), (3, (.ptr n6 0)), (4, (eI64 (w64 (x9 + (1 : Int))))), (5, (eI64 x10)), (6, (eI64 t14))]) (H' := [(n6, (.mem (.ar 1 (t5.toList.map eU8))))]) ⟨rfl, rfl, rfl, rfl, rfl, trivial⟩ (Sub.refl _) ?_
                exact ⟨(w64 (x9 + (1 : Int))), rfl, rfl, h⟩
            · have h := (if_neg hc19).symm.trans h
              refine AW.condN (t14 = x10) rfl hc19 ?_
              refine AW.skip (ρ' := [(0, (.fz 4 (p0.map e27))), (3, (.ptr n6 0)), (4, (eI64 x9)), (5, (eI64 x10)), (6, (eI64 t14))]) (H' := [(n6, (.mem (.ar 1 (t5.toList.map eU8))))]) ⟨rfl, rfl, rfl, rfl, rfl, trivial⟩ (Sub.refl _) ?_
              exact ⟨x9, rfl, rfl, h⟩
          · rintro _ _ ⟨x15, rfl, rfl, h⟩
            rw [bosketlaw02_BytesetClasses_c1.eq_1] at h
            refine AW.seq ?_
            refine AW.regQ (by rfl) (by decide +kernel) ?_
            refine AQ.calm rfl 32 rfl (by decide) (eI64 x10) (Calm.move rfl rfl) ?_
            obtain ⟨hg16, h⟩ := of_guard h
            refine AQ.calm rfl 33 rfl (by decide) (.ptr n6 (0 + x10.toNat * 1)) (Calm.idxP rfl rfl rfl hg16 Tryd.underlying39 sz5) ?_
            refine AQ.calm rfl 34 rfl (by decide) (eU8 (vget t5 x10)) (Calm.load 0 rfl rfl rfl (At.cast (At.vidx x10 hg16.1 hg16.2 At.here) (by omega)) ag5 sz5) ?_
            refine AQ.calm rfl 35 rfl (by decide) (eI64 t14) (Calm.move rfl rfl) ?_
            obtain ⟨hg17, h⟩ := of_guard h
            refine AQ.calm rfl 36 rfl (by decide) (.ptr n6 (0 + t14.toNat * 1)) (Calm.idxP rfl rfl rfl hg17 Tryd.underlying39 sz5) ?_
            refine AQ.calm rfl 37 rfl (by decide) (eU8 (vget t5 t14)) (Calm.load 0 rfl rfl rfl (At.cast (At.vidx t14 hg17.1 hg17.2 At.here) (by omega)) ag5 sz5) ?_
            refine AQ.calm rfl 38 rfl (by decide) (eBool (decide ((vget t5 x10) ≠ (vget t5 t14)))) (Calm.int rfl rfl rfl rfl) ?_
            refine AQ.nil (ρ' := [(0, (.fz 4 (p0.map e27))), (3, (.ptr n6 0)), (4, (eI64 x15)), (5, (eI64 x10)), (38, (eBool (decide ((vget t5 x10) ≠ (vget t5 t14)))))]) ⟨rfl, rfl, rfl, rfl, rfl, trivial⟩ ?_
            by_cases hc18 : (vget t5 x10) ≠ (vget t5 t14)
            · have h := (if_pos hc18).symm.trans h
              refine AW.condP ((vget t5 x10) ≠ (vget t5 t14)) rfl hc18 ?_
              refine AW.seq ?_
              refine AW.reg ?_
              refine AO.calm rfl 2 rfl (by decide) (eBool false) (Calm.assign rfl rfl) ?_
              refine AO.nil (ρ' := [(2, (eBool false))]) (H' := []) ⟨rfl, trivial⟩ (Sub.nil _) ?_
              refine AW.ret (ρ' := [(2, (eBool false))]) (H' := []) ⟨rfl, trivial⟩ (Sub.refl _) ?_
              have hr := Option.some.inj h
              subst hr
              exact ⟨[(eBool false)], ⟨rfl, rfl, trivial⟩, rfl⟩
            · have h := (if_neg hc18).symm.trans h
              refine AW.condN ((vget t5 x10) ≠ (vget t5 t14)) rfl hc18 ?_
              refine AW.skip (ρ' := [(0, (.fz 4 (p0.map e27))), (3, (.ptr n6 0)), (4, (eI64 x15)), (5, (eI64 x10))]) (H' := [(n6, (.mem (.ar 1 (t5.toList.map eU8))))]) ⟨rfl, rfl, rfl, rfl, trivial⟩ (Sub.refl _) ?_
              refine AW.reg ?_
              refine AO.calm rfl 16 rfl (by decide) (eI64 x10) (Calm.move rfl rfl) ?_
              refine AO.calm rfl 17 rfl (by decide) (eI64 (w64 (x10 + (1 : Int)))) (Calm.int rfl rfl rfl rfl) ?_
              refine AO.calm rfl 5 rfl (by decide) (eI64 (w64 (x10 + (1 : Int)))) (Calm.assign rfl rfl) ?_
              refine AO.nil (ρ' := [(0, (.fz 4 (p0.map e27))), (3, (.ptr n6 0)), (4, (eI64 x15)), (5, (eI64 (w64 (x10 + (1 : Int)))))]) (H' := [(n6, (.mem (.ar 1 (t5.toList.map eU8))))]) ⟨rfl, rfl, rfl, rfl, trivial⟩ (Sub.refl _) ?_
              exact ⟨kq12, Nat.lt_succ_self _, x15, (w64 (x10 + (1 : Int))), rfl, rfl, by rw [hrec11]; exact h⟩
        · have h := (if_neg hc13).symm.trans h
          refine AW.condN (x10 < (256 : Int)) rfl hc13 ?_
          refine AW.exit (ρ' := [(3, (.ptr n6 0)), (4, (eI64 x9))]) (H' := [(n6, (.mem (.ar 1 (t5.toList.map eU8))))]) ⟨rfl, rfl, trivial⟩ (Sub.refl _) ?_
          exact ⟨x9, rfl, rfl, h⟩
      · rintro _ _ ⟨x7, rfl, rfl, h⟩
        rw [bosketlaw02_BytesetClasses_c0.eq_1] at h
        refine AW.seq ?_
        refine AW.reg ?_
        refine AO.calm rfl 39 rfl (by decide) (.ar 1 (t5.toList.map eU8)) (Calm.load 0 rfl rfl rfl (At.cast At.here rfl) ag39 (by rw [sz39]; simp [AV.size])) ?_
        obtain ⟨t8, et8, h⟩ := of_bind h
        refine AO.callS [(.ar 1 (t5.toList.map eU8))] (eI64 t8) 40 rfl (by decide) ok15 rfl rfl rfl ⟨rfl, rfl, trivial⟩ (byteset_Count_spec et8) ?_
        refine AO.calm rfl 41 rfl (by decide) (eI64 x7) (Calm.move rfl rfl) ?_
        refine AO.calm rfl 42 rfl (by decide) (eBool (decide (t8 = x7))) (Calm.int rfl rfl rfl rfl) ?_
        refine AO.calm rfl 2 rfl (by decide) (eBool (decide (t8 = x7))) (Calm.assign rfl rfl) ?_
        refine AO.nil (ρ' := [(2, (eBool (decide (t8 = x7))))]) (H' := []) ⟨rfl, trivial⟩ (Sub.nil _) ?_
        refine AW.ret (ρ' := [(2, (eBool (decide (t8 = x7))))]) (H' := []) ⟨rfl, trivial⟩ (Sub.refl _) ?_
        have hr := Option.some.inj h
        subst hr
        exact ⟨[(eBool (decide (t8 = x7)))], ⟨rfl, rfl, trivial⟩, rfl⟩
end Go.Avl.TD
