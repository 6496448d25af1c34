/- Parts: T2f31, T2f30, T2f80, T2f59, T2f18, T2f95, T2f96, T2f81, T2f60, T2f64, T2f33, T2f23. -/
import Derived.Test.YtmgiffbobkgcmaaAF1
/- bosket/ast.Size; printed by avmain.py. -/
namespace Go.Avl.T2
open Go Go.RowKit Go.Proofs Go.Avl
set_option linter.unusedVariables false
set_option maxRecDepth 100000
set_option maxHeartbeats 4000000
attribute [local irreducible] AW AO AQ Spec SpecH Calm

def ast_Size_c0 (k : Nat) : Option Int :=
  some ((0 : Int))
def ast_Size_l1 (k : Nat) (p0 : (List S43)) (p1 : Int) : Nat → Int → Int → Option Int
  | 0, _, _ => none
  | j + 1, x7, x8 =>
    if x8 < (p0.length : Int) then Option.bind (α := Bool) (if 0 ≤ x8 ∧ x8 < (p0.length : Int) then if ((lget p0 x8).f2) < (0 : Int) then some (true)
    else if 0 ≤ x8 ∧ x8 < (p0.length : Int) then if (12 : Int) < ((lget p0 x8).f2) then some (true)
    else if 0 ≤ x8 ∧ x8 < (p0.length : Int) then if ((lget p0 x8).f0) = true then if 0 ≤ x8 ∧ x8 < (p0.length : Int) then some (decide ((0 : Int) < ((lget p0 x8).f2)))
    else none
    else some (false)
    else none
    else none
    else none) fun b12 =>
    if b12 = true then some ((0 : Int))
    else if 0 ≤ x8 ∧ x8 < (p0.length : Int) then if (w64 (x7 + (w64 (((lget p0 x8).f2) - (1 : Int))))) = (0 : Int) then some ((w64 ((w64 (x8 + (1 : Int))) - p1)))
    else (ast_Size_l1 k p0 p1 j) (w64 (x7 + (w64 (((lget p0 x8).f2) - (1 : Int))))) (w64 (x8 + (1 : Int)))
    else none
    else ast_Size_c0 k
def ast_Size (k : Nat) (p0 : (List S43)) (p1 : Int) : Option Int :=
  Option.bind (α := Bool) (if p1 < (0 : Int) then some (true)
  else some (decide ((p0.length : Int) ≤ p1))) fun b3 =>
  if b3 = true then some ((0 : Int))
  else ast_Size_l1 k p0 p1 k (1 : Int) p1
theorem ast_Size_spec {k : Nat} {p0 : (List S43)} {p1 : Int} {r : Int} (h : ast_Size k p0 p1 = some r) : Spec Try.prog 31 [(.fz 4 (p0.map e43)), (eI64 p1)] (eI64 r) := by
  rw [ast_Size.eq_1] at h
  refine Spec.intro (res := [.tmp 4]) Try.func31 rfl rfl rfl (Nat.le_of_ble_eq_true rfl) ?_
  refine AW.seq ?_
  refine AW.reg ?_
  refine AO.calm rfl 4 rfl (by decide) (eI64 (0 : Int)) (Calm.assign rfl rfl) ?_
  refine AO.nil (ρ' := [(0, (.fz 4 (p0.map e43))), (1, (eI64 p1))]) (H' := []) ⟨rfl, rfl, trivial⟩ (Sub.refl _) ?_
  refine AW.seq ?_
  refine AW.seq ?_
  obtain ⟨b3, hq4, h⟩ := of_bind h
  refine AW.regM [(0, (.fz 4 (p0.map e43))), (1, (eI64 p1)), (14, (eBool b3))] [] ?_ ?_
  · refine AO.calm rfl 7 rfl (by decide) (eI64 p1) (Calm.move rfl rfl) ?_
    refine AO.calm rfl 8 rfl (by decide) (eBool (decide (p1 < (0 : Int)))) (Calm.int rfl rfl rfl rfl) ?_
    refine AO.calm rfl 9 rfl (by decide) (eBool (decide (p1 < (0 : Int)))) (Calm.move rfl rfl) ?_
    by_cases hc5 : p1 < (0 : Int)
    · have hq4 := (if_pos hc5).symm.trans hq4
      refine AO.skipG 2 true 9 rfl rfl (congrArg (fun b => some (AV.fl (Value.bool b))) (decide_eq_true hc5)) 10 rfl (by decide) ?_
      refine AO.skipG 2 true 9 rfl rfl (congrArg (fun b => some (AV.fl (Value.bool b))) (decide_eq_true hc5)) 11 rfl (by decide) ?_
      refine AO.skipG 2 true 9 rfl rfl (congrArg (fun b => some (AV.fl (Value.bool b))) (decide_eq_true hc5)) 12 rfl (by decide) ?_
      refine AO.skipG 2 true 9 rfl rfl (congrArg (fun b => some (AV.fl (Value.bool b))) (decide_eq_true hc5)) 13 rfl (by decide) ?_
      refine AO.calm rfl 14 rfl (by decide) (eBool true) (Calm.pickT rfl (congrArg (fun b => some (AV.fl (Value.bool b))) (decide_eq_true hc5)) rfl) ?_
      cases hq4
      refine AO.nilE ⟨rfl, rfl⟩ ?_ ?_
      · exact ⟨rfl, rfl, rfl, trivial⟩
      · exact (Sub.refl _)
    · have hq4 := (if_neg hc5).symm.trans hq4
      refine AO.calmG 2 false 9 rfl rfl (congrArg (fun b => some (AV.fl (Value.bool b))) (decide_eq_false hc5)) 10 rfl (by decide) (eI64 p1) (Calm.move rfl rfl) ?_
      refine AO.calmG 2 false 9 rfl rfl (congrArg (fun b => some (AV.fl (Value.bool b))) (decide_eq_false hc5)) 11 rfl (by decide) (.fz 4 (p0.map e43)) (Calm.move rfl rfl) ?_
      refine AO.calmG 2 false 9 rfl rfl (congrArg (fun b => some (AV.fl (Value.bool b))) (decide_eq_false hc5)) 12 rfl (by decide) (eI64 (p0.length : Int)) (Calm.lenL rfl rfl Try.underlying37) ?_
      refine AO.calmG 2 false 9 rfl rfl (congrArg (fun b => some (AV.fl (Value.bool b))) (decide_eq_false hc5)) 13 rfl (by decide) (eBool (decide ((p0.length : Int) ≤ p1))) (Calm.int rfl rfl rfl rfl) ?_
      refine AO.calm rfl 14 rfl (by decide) (eBool (decide ((p0.length : Int) ≤ p1))) (Calm.pickF rfl (congrArg (fun b => some (AV.fl (Value.bool b))) (decide_eq_false hc5)) rfl) ?_
      cases hq4
      refine AO.nilE ⟨rfl, rfl⟩ ?_ ?_
      · exact ⟨rfl, rfl, rfl, trivial⟩
      · exact (Sub.refl _)
  · by_cases hc6 : b3 = true
    · have h := (if_pos hc6).symm.trans h
      refine AW.condT' b3 rfl hc6 ?_
      refine AW.seq ?_
      refine AW.reg ?_
      refine AO.calm rfl 4 rfl (by decide) (eI64 (0 : Int)) (Calm.assign rfl rfl) ?_
      refine AO.nil (ρ' := [(4, (eI64 (0 : Int)))]) (H' := []) ⟨rfl, trivial⟩ (Sub.refl _) ?_
      refine AW.ret (ρ' := [(4, (eI64 (0 : Int)))]) (H' := []) ⟨rfl, trivial⟩ (Sub.refl _) ?_
      have hr := Option.some.inj h
      subst hr
      exact ⟨[(eI64 (0 : Int))], ⟨rfl, rfl, trivial⟩, rfl⟩
    · have h := (if_neg hc6).symm.trans h
      refine AW.condF' b3 rfl hc6 ?_
      refine AW.skip (ρ' := [(0, (.fz 4 (p0.map e43))), (1, (eI64 p1))]) (H' := []) ⟨rfl, rfl, trivial⟩ (Sub.refl _) ?_
      refine AW.seq ?_
      refine AW.reg ?_
      refine AO.calm rfl 5 rfl (by decide) (eI64 (1 : Int)) (Calm.assign rfl rfl) ?_
      refine AO.nil (ρ' := [(0, (.fz 4 (p0.map e43))), (1, (eI64 p1)), (5, (eI64 (1 : Int)))]) (H' := []) ⟨rfl, rfl, rfl, trivial⟩ (Sub.refl _) ?_
      refine AW.seq_mid (fun ρ H => ρ = [] ∧ H = [] ∧ ast_Size_c0 k = some r) ?_ ?_
      · refine AW.seq ?_
        refine AW.reg ?_
        refine AO.calm rfl 15 rfl (by decide) (eI64 p1) (Calm.move rfl rfl) ?_
        refine AO.calm rfl 6 rfl (by decide) (eI64 p1) (Calm.assign rfl rfl) ?_
        refine AO.nil (ρ' := [(0, (.fz 4 (p0.map e43))), (1, (eI64 p1)), (5, (eI64 (1 : Int))), (6, (eI64 p1))]) (H' := []) ⟨rfl, rfl, rfl, rfl, trivial⟩ (Sub.refl _) ?_
        refine AW.block ?_
        refine AW.weak (ρ' := [(0, (.fz 4 (p0.map e43))), (1, (eI64 p1)), (5, (eI64 (1 : Int))), (6, (eI64 p1))]) (H' := []) ⟨rfl, rfl, rfl, rfl, trivial⟩ (Sub.refl _) ?_
        refine AW.loop (fun kq ρ H => ∃ (x7 : Int) (x8 : Int), ρ = [(0, (.fz 4 (p0.map e43))), (1, (eI64 p1)), (5, (eI64 x7)), (6, (eI64 x8))] ∧ H = [] ∧ ast_Size_l1 k p0 p1 kq x7 x8 = some r) k ⟨(1 : Int), p1, rfl, rfl, h⟩ ?_
        rintro kq10 _ _ ⟨x7, x8, rfl, rfl, h⟩
        cases kq10 with
        | zero => rw [ast_Size_l1.eq_1] at h; cases h
        | succ kq10 =>
        rw [ast_Size_l1.eq_2] at h
        generalize hrec9 : ast_Size_l1 k p0 p1 kq10 = rec9 at h
        refine AW.seq ?_
        refine AW.seq ?_
        refine AW.reg ?_
        refine AO.calm rfl 16 rfl (by decide) (eI64 x8) (Calm.move rfl rfl) ?_
        refine AO.calm rfl 17 rfl (by decide) (.fz 4 (p0.map e43)) (Calm.move rfl rfl) ?_
        refine AO.calm rfl 18 rfl (by decide) (eI64 (p0.length : Int)) (Calm.lenL rfl rfl Try.underlying37) ?_
        refine AO.calm rfl 19 rfl (by decide) (eBool (decide (x8 < (p0.length : Int)))) (Calm.int rfl rfl rfl rfl) ?_
        refine AO.nil (ρ' := [(0, (.fz 4 (p0.map e43))), (1, (eI64 p1)), (5, (eI64 x7)), (6, (eI64 x8)), (19, (eBool (decide (x8 < (p0.length : Int)))))]) (H' := []) ⟨rfl, rfl, rfl, rfl, rfl, trivial⟩ (Sub.refl _) ?_
        by_cases hc11 : x8 < (p0.length : Int)
        · have h := (if_pos hc11).symm.trans h
          refine AW.condP (x8 < (p0.length : Int)) rfl hc11 ?_
          refine AW.skip (ρ' := [(0, (.fz 4 (p0.map e43))), (1, (eI64 p1)), (5, (eI64 x7)), (6, (eI64 x8))]) (H' := []) ⟨rfl, rfl, rfl, rfl, trivial⟩ (Sub.refl _) ?_
          refine AW.seq ?_
          refine AW.block ?_
          refine AW.seq ?_
          refine AW.seq ?_
          obtain ⟨b12, hq13, h⟩ := of_bind h
          refine AW.regM [(0, (.fz 4 (p0.map e43))), (1, (eI64 p1)), (5, (eI64 x7)), (6, (eI64 x8)), (50, (eBool b12))] [] ?_ ?_
          · refine AO.calm rfl 22 rfl (by decide) (.fz 4 (p0.map e43)) (Calm.move rfl rfl) ?_
            refine AO.calm rfl 23 rfl (by decide) (eI64 x8) (Calm.move rfl rfl) ?_
            obtain ⟨hg14, hq13⟩ := of_guard hq13
            refine AO.calm rfl 24 rfl (by decide) (.rp (e43 (lget p0 x8))) (Calm.idxL (f := e43) rfl rfl rfl hg14 Try.underlying37 sz43) ?_
            refine AO.calm rfl 25 rfl (by decide) (.rp (eI64 ((lget p0 x8).f2))) (Calm.fldRp rfl rfl Try.underlying43 rfl sz3 (At.cast (At.fldS (At.fldS (At.fld0 At.here))) rfl)) ?_
            refine AO.calm rfl 26 rfl (by decide) (eI64 ((lget p0 x8).f2)) (Calm.loadRp rfl rfl ag3 sz3) ?_
            refine AO.calm rfl 27 rfl (by decide) (eBool (decide (((lget p0 x8).f2) < (0 : Int)))) (Calm.int rfl rfl rfl rfl) ?_
            refine AO.calm rfl 28 rfl (by decide) (eBool (decide (((lget p0 x8).f2) < (0 : Int)))) (Calm.move rfl rfl) ?_
            by_cases hc15 : ((lget p0 x8).f2) < (0 : Int)
            · have hq13 := (if_pos hc15).symm.trans hq13
              refine AO.skipG 6 true 28 rfl rfl (congrArg (fun b => some (AV.fl (Value.bool b))) (decide_eq_true hc15)) 29 rfl (by decide) ?_
              refine AO.skipG 6 true 28 rfl rfl (congrArg (fun b => some (AV.fl (Value.bool b))) (decide_eq_true hc15)) 30 rfl (by decide) ?_
              refine AO.skipG 6 true 28 rfl rfl (congrArg (fun b => some (AV.fl (Value.bool b))) (decide_eq_true hc15)) 31 rfl (by decide) ?_
              refine AO.skipG 6 true 28 rfl rfl (congrArg (fun b => some (AV.fl (Value.bool b))) (decide_eq_true hc15)) 32 rfl (by decide) ?_
              refine AO.skipG 6 true 28 rfl rfl (congrArg (fun b => some (AV.fl (Value.bool b))) (decide_eq_true hc15)) 33 rfl (by decide) ?_
              refine AO.skipG 6 true 28 rfl rfl (congrArg (fun b => some (AV.fl (Value.bool b))) (decide_eq_true hc15)) 34 rfl (by decide) ?_
              refine AO.calm rfl 35 rfl (by decide) (eBool true) (Calm.pickT rfl (congrArg (fun b => some (AV.fl (Value.bool b))) (decide_eq_true hc15)) rfl) ?_
              refine AO.calm rfl 36 rfl (by decide) (eBool true) (Calm.move rfl rfl) ?_
              refine AO.skipG 14 true 36 rfl rfl rfl 37 rfl (by decide) ?_
              refine AO.skipG 14 true 36 rfl rfl rfl 38 rfl (by decide) ?_
              refine AO.skipG 14 true 36 rfl rfl rfl 39 rfl (by decide) ?_
              refine AO.skipG 14 true 36 rfl rfl rfl 40 rfl (by decide) ?_
              refine AO.skipG 14 true 36 rfl rfl rfl 41 rfl (by decide) ?_
              refine AO.skipG 14 true 36 rfl rfl rfl 42 rfl (by decide) ?_
              refine AO.skipU 20 true 42 rfl rfl rfl 43 rfl (by decide) ?_
              refine AO.skipU 20 true 42 rfl rfl rfl 44 rfl (by decide) ?_
              refine AO.skipU 20 true 42 rfl rfl rfl 45 rfl (by decide) ?_
              refine AO.skipU 20 true 42 rfl rfl rfl 46 rfl (by decide) ?_
              refine AO.skipU 20 true 42 rfl rfl rfl 47 rfl (by decide) ?_
              refine AO.skipU 20 true 42 rfl rfl rfl 48 rfl (by decide) ?_
              refine AO.skipG 14 true 36 rfl rfl rfl 49 rfl (by decide) ?_
              refine AO.calm rfl 50 rfl (by decide) (eBool true) (Calm.pickT rfl rfl rfl) ?_
              cases hq13
              refine AO.nilE ⟨rfl, rfl⟩ ?_ ?_
              · exact ⟨rfl, rfl, rfl, rfl, rfl, trivial⟩
              · exact (Sub.refl _)
            · have hq13 := (if_neg hc15).symm.trans hq13
              refine AO.calmG 6 false 28 rfl rfl (congrArg (fun b => some (AV.fl (Value.bool b))) (decide_eq_false hc15)) 29 rfl (by decide) (.fz 4 (p0.map e43)) (Calm.move rfl rfl) ?_
              refine AO.calmG 6 false 28 rfl rfl (congrArg (fun b => some (AV.fl (Value.bool b))) (decide_eq_false hc15)) 30 rfl (by decide) (eI64 x8) (Calm.move rfl rfl) ?_
              obtain ⟨hg16, hq13⟩ := of_guard hq13
              refine AO.calmG 6 false 28 rfl rfl (congrArg (fun b => some (AV.fl (Value.bool b))) (decide_eq_false hc15)) 31 rfl (by decide) (.rp (e43 (lget p0 x8))) (Calm.idxL (f := e43) rfl rfl rfl hg16 Try.underlying37 sz43) ?_
              refine AO.calmG 6 false 28 rfl rfl (congrArg (fun b => some (AV.fl (Value.bool b))) (decide_eq_false hc15)) 32 rfl (by decide) (.rp (eI64 ((lget p0 x8).f2))) (Calm.fldRp rfl rfl Try.underlying43 rfl sz3 (At.cast (At.fldS (At.fldS (At.fld0 At.here))) rfl)) ?_
              refine AO.calmG 6 false 28 rfl rfl (congrArg (fun b => some (AV.fl (Value.bool b))) (decide_eq_false hc15)) 33 rfl (by decide) (eI64 ((lget p0 x8).f2)) (Calm.loadRp rfl rfl ag3 sz3) ?_
              refine AO.calmG 6 false 28 rfl rfl (congrArg (fun b => some (AV.fl (Value.bool b))) (decide_eq_false hc15)) 34 rfl (by decide) (eBool (decide ((12 : Int) < ((lget p0 x8).f2)))) (Calm.int rfl rfl rfl rfl) ?_
              refine AO.calm rfl 35 rfl (by decide) (eBool (decide ((12 : Int) < ((lget p0 x8).f2)))) (Calm.pickF rfl (congrArg (fun b => some (AV.fl (Value.bool b))) (decide_eq_false hc15)) rfl) ?_
              refine AO.calm rfl 36 rfl (by decide) (eBool (decide ((12 : Int) < ((lget p0 x8).f2)))) (Calm.move rfl rfl) ?_
              by_cases hc17 : (12 : Int) < ((lget p0 x8).f2)
              · have hq13 := (if_pos hc17).symm.trans hq13
                refine AO.skipG 14 true 36 rfl rfl (congrArg (fun b => some (AV.fl (Value.bool b))) (decide_eq_true hc17)) 37 rfl (by decide) ?_
                refine AO.skipG 14 true 36 rfl rfl (congrArg (fun b => some (AV.fl (Value.bool b))) (decide_eq_true hc17)) 38 rfl (by decide) ?_
                refine AO.skipG 14 true 36 rfl rfl (congrArg (fun b => some (AV.fl (Value.bool b))) (decide_eq_true hc17)) 39 rfl (by decide) ?_
                refine AO.skipG 14 true 36 rfl rfl (congrArg (fun b => some (AV.fl (Value.bool b))) (decide_eq_true hc17)) 40 rfl (by decide) ?_
                refine AO.skipG 14 true 36 rfl rfl (congrArg (fun b => some (AV.fl (Value.bool b))) (decide_eq_true hc17)) 41 rfl (by decide) ?_
                refine AO.skipG 14 true 36 rfl rfl (congrArg (fun b => some (AV.fl (Value.bool b))) (decide_eq_true hc17)) 42 rfl (by decide) ?_
                refine AO.skipU 20 true 42 rfl rfl rfl 43 rfl (by decide) ?_
                refine AO.skipU 20 true 42 rfl rfl rfl 44 rfl (by decide) ?_
                refine AO.skipU 20 true 42 rfl rfl rfl 45 rfl (by decide) ?_
                refine AO.skipU 20 true 42 rfl rfl rfl 46 rfl (by decide) ?_
                refine AO.skipU 20 true 42 rfl rfl rfl 47 rfl (by decide) ?_
                refine AO.skipU 20 true 42 rfl rfl rfl 48 rfl (by decide) ?_
                refine AO.skipG 14 true 36 rfl rfl (congrArg (fun b => some (AV.fl (Value.bool b))) (decide_eq_true hc17)) 49 rfl (by decide) ?_
                refine AO.calm rfl 50 rfl (by decide) (eBool true) (Calm.pickT rfl (congrArg (fun b => some (AV.fl (Value.bool b))) (decide_eq_true hc17)) rfl) ?_
                cases hq13
                refine AO.nilE ⟨rfl, rfl⟩ ?_ ?_
                · exact ⟨rfl, rfl, rfl, rfl, rfl, trivial⟩
                · exact (Sub.refl _)
              · have hq13 := (if_neg hc17).symm.trans hq13
                refine AO.calmG 14 false 36 rfl rfl (congrArg (fun b => some (AV.fl (Value.bool b))) (decide_eq_false hc17)) 37 rfl (by decide) (.fz 4 (p0.map e43)) (Calm.move rfl rfl) ?_
                refine AO.calmG 14 false 36 rfl rfl (congrArg (fun b => some (AV.fl (Value.bool b))) (decide_eq_false hc17)) 38 rfl (by decide) (eI64 x8) (Calm.move rfl rfl) ?_
                obtain ⟨hg18, hq13⟩ := of_guard hq13
                refine AO.calmG 14 false 36 rfl rfl (congrArg (fun b => some (AV.fl (Value.bool b))) (decide_eq_false hc17)) 39 rfl (by decide) (.rp (e43 (lget p0 x8))) (Calm.idxL (f := e43) rfl rfl rfl hg18 Try.underlying37 sz43) ?_
                refine AO.calmG 14 false 36 rfl rfl (congrArg (fun b => some (AV.fl (Value.bool b))) (decide_eq_false hc17)) 40 rfl (by decide) (.rp (eBool ((lget p0 x8).f0))) (Calm.fldRp rfl rfl Try.underlying43 rfl sz4 (At.cast (At.fld0 At.here) rfl)) ?_
                refine AO.calmG 14 false 36 rfl rfl (congrArg (fun b => some (AV.fl (Value.bool b))) (decide_eq_false hc17)) 41 rfl (by decide) (eBool ((lget p0 x8).f0)) (Calm.loadRp rfl rfl ag4 sz4) ?_
                refine AO.calmG 14 false 36 rfl rfl (congrArg (fun b => some (AV.fl (Value.bool b))) (decide_eq_false hc17)) 42 rfl (by decide) (eBool ((lget p0 x8).f0)) (Calm.move rfl rfl) ?_
                by_cases hc19 : ((lget p0 x8).f0) = true
                · have hq13 := (if_pos hc19).symm.trans hq13
                  refine AO.calmG 20 true 42 rfl rfl (congrArg (fun b => some (AV.fl (Value.bool b))) hc19) 43 rfl (by decide) (.fz 4 (p0.map e43)) (Calm.move rfl rfl) ?_
                  refine AO.calmG 20 true 42 rfl rfl (congrArg (fun b => some (AV.fl (Value.bool b))) hc19) 44 rfl (by decide) (eI64 x8) (Calm.move rfl rfl) ?_
                  obtain ⟨hg20, hq13⟩ := of_guard hq13
                  refine AO.calmG 20 true 42 rfl rfl (congrArg (fun b => some (AV.fl (Value.bool b))) hc19) 45 rfl (by decide) (.rp (e43 (lget p0 x8))) (Calm.idxL (f := e43) rfl rfl rfl hg20 Try.underlying37 sz43) ?_
                  refine AO.calmG 20 true 42 rfl rfl (congrArg (fun b => some (AV.fl (Value.bool b))) hc19) 46 rfl (by decide) (.rp (eI64 ((lget p0 x8).f2))) (Calm.fldRp rfl rfl Try.underlying43 rfl sz3 (At.cast (At.fldS (At.fldS (At.fld0 At.here))) rfl)) ?_
                  refine AO.calmG 20 true 42 rfl rfl (congrArg (fun b => some (AV.fl (Value.bool b))) hc19) 47 rfl (by decide) (eI64 ((lget p0 x8).f2)) (Calm.loadRp rfl rfl ag3 sz3) ?_
                  refine AO.calmG 20 true 42 rfl rfl (congrArg (fun b => some (AV.fl (Value.bool b))) hc19) 48 rfl (by decide) (eBool (decide ((0 : Int) < ((lget p0 x8).f2)))) (Calm.int rfl rfl rfl rfl) ?_
                  refine AO.calmG 14 false 36 rfl rfl (congrArg (fun b => some (AV.fl (Value.bool b))) (decide_eq_false hc17)) 49 rfl (by decide) (eBool (decide ((0 : Int) < ((lget p0 x8).f2)))) (Calm.pickT rfl (congrArg (fun b => some (AV.fl (Value.bool b))) hc19) rfl) ?_
                  refine AO.calm rfl 50 rfl (by decide) (eBool (decide ((0 : Int) < ((lget p0 x8).f2)))) (Calm.pickF rfl (congrArg (fun b => some (AV.fl (Value.bool b))) (decide_eq_false hc17)) rfl) ?_
                  cases hq13
                  refine AO.nilE ⟨rfl, rfl⟩ ?_ ?_
                  · exact ⟨rfl, rfl, rfl, rfl, rfl, trivial⟩
                  · exact (Sub.refl _)
                · have hq13 := (if_neg hc19).symm.trans hq13
                  refine AO.skipG 20 false 42 rfl rfl (congrArg (fun b => some (AV.fl (Value.bool b))) (eq_false_of_ne_true hc19)) 43 rfl (by decide) ?_
                  refine AO.skipG 20 false 42 rfl rfl (congrArg (fun b => some (AV.fl (Value.bool b))) (eq_false_of_ne_true hc19)) 44 rfl (by decide) ?_
                  refine AO.skipG 20 false 42 rfl rfl (congrArg (fun b => some (AV.fl (Value.bool b))) (eq_false_of_ne_true hc19)) 45 rfl (by decide) ?_
                  refine AO.skipG 20 false 42 rfl rfl (congrArg (fun b => some (AV.fl (Value.bool b))) (eq_false_of_ne_true hc19)) 46 rfl (by decide) ?_
                  refine AO.skipG 20 false 42 rfl rfl (congrArg (fun b => some (AV.fl (Value.bool b))) (eq_false_of_ne_true hc19)) 47 rfl (by decide) ?_
                  refine AO.skipG 20 false 42 rfl rfl (congrArg (fun b => some (AV.fl (Value.bool b))) (eq_false_of_ne_true hc19)) 48 rfl (by decide) ?_
                  refine AO.calmG 14 false 36 rfl rfl (congrArg (fun b => some (AV.fl (Value.bool b))) (decide_eq_false hc17)) 49 rfl (by decide) (eBool false) (Calm.pickF rfl (congrArg (fun b => some (AV.fl (Value.bool b))) (eq_false_of_ne_true hc19)) rfl) ?_
                  refine AO.calm rfl 50 rfl (by decide) (eBool false) (Calm.pickF rfl (congrArg (fun b => some (AV.fl (Value.bool b))) (decide_eq_false hc17)) rfl) ?_
                  cases hq13
                  refine AO.nilE ⟨rfl, rfl⟩ ?_ ?_
                  · exact ⟨rfl, rfl, rfl, rfl, rfl, trivial⟩
                  · exact (Sub.refl _)
          · by_cases hc21 : b12 = true
            · have h := (if_pos hc21).symm.trans h
              refine AW.condT' b12 rfl hc21 ?_
              refine AW.seq ?_
              refine AW.reg ?_
              refine AO.calm rfl 4 rfl (by decide) (eI64 (0 : Int)) (Calm.assign rfl rfl) ?_
              refine AO.nil (ρ' := [(4, (eI64 (0 : Int)))]) (H' := []) ⟨rfl, trivial⟩ (Sub.refl _) ?_
              refine AW.ret (ρ' := [(4, (eI64 (0 : Int)))]) (H' := []) ⟨rfl, trivial⟩ (Sub.refl _) ?_
              have hr := Option.some.inj h
              subst hr
              exact ⟨[(eI64 (0 : Int))], ⟨rfl, rfl, trivial⟩, rfl⟩
            · have h := (if_neg hc21).symm.trans h
              refine AW.condF' b12 rfl hc21 ?_
              refine AW.skip (ρ' := [(0, (.fz 4 (p0.map e43))), (1, (eI64 p1)), (5, (eI64 x7)), (6, (eI64 x8))]) (H' := []) ⟨rfl, rfl, rfl, rfl, trivial⟩ (Sub.refl _) ?_
              refine AW.seq ?_
              refine AW.reg ?_
              refine AO.calm rfl 51 rfl (by decide) (eI64 x7) (Calm.move rfl rfl) ?_
              refine AO.calm rfl 52 rfl (by decide) (.fz 4 (p0.map e43)) (Calm.move rfl rfl) ?_
              refine AO.calm rfl 53 rfl (by decide) (eI64 x8) (Calm.move rfl rfl) ?_
              obtain ⟨hg22, h⟩ := of_guard h
              refine AO.calm rfl 54 rfl (by decide) (.rp (e43 (lget p0 x8))) (Calm.idxL (f := e43) rfl rfl rfl hg22 Try.underlying37 sz43) ?_
              refine AO.calm rfl 55 rfl (by decide) (.rp (eI64 ((lget p0 x8).f2))) (Calm.fldRp rfl rfl Try.underlying43 rfl sz3 (At.cast (At.fldS (At.fldS (At.fld0 At.here))) rfl)) ?_
              refine AO.calm rfl 56 rfl (by decide) (eI64 ((lget p0 x8).f2)) (Calm.loadRp rfl rfl ag3 sz3) ?_
              refine AO.calm rfl 57 rfl (by decide) (eI64 (w64 (((lget p0 x8).f2) - (1 : Int)))) (Calm.int rfl rfl rfl rfl) ?_
              refine AO.calm rfl 58 rfl (by decide) (eI64 (w64 (x7 + (w64 (((lget p0 x8).f2) - (1 : Int)))))) (Calm.int rfl rfl rfl rfl) ?_
              refine AO.calm rfl 5 rfl (by decide) (eI64 (w64 (x7 + (w64 (((lget p0 x8).f2) - (1 : Int)))))) (Calm.assign rfl rfl) ?_
              refine AO.nil (ρ' := [(0, (.fz 4 (p0.map e43))), (1, (eI64 p1)), (5, (eI64 (w64 (x7 + (w64 (((lget p0 x8).f2) - (1 : Int))))))), (6, (eI64 x8))]) (H' := []) ⟨rfl, rfl, rfl, rfl, trivial⟩ (Sub.refl _) ?_
              refine AW.seq ?_
              refine AW.reg ?_
              refine AO.calm rfl 59 rfl (by decide) (eI64 (w64 (x7 + (w64 (((lget p0 x8).f2) - (1 : Int)))))) (Calm.move rfl rfl) ?_
              refine AO.calm rfl 60 rfl (by decide) (eBool (decide ((w64 (x7 + (w64 (((lget p0 x8).f2) - (1 : Int))))) = (0 : Int)))) (Calm.int rfl rfl rfl rfl) ?_
              refine AO.nil (ρ' := [(0, (.fz 4 (p0.map e43))), (1, (eI64 p1)), (5, (eI64 (w64 (x7 + (w64 (((lget p0 x8).f2) - (1 : Int))))))), (6, (eI64 x8)), (60, (eBool (decide ((w64 (x7 + (w64 (((lget p0 x8).f2) - (1 : Int))))) = (0 : Int)))))]) (H' := []) ⟨rfl, rfl, rfl, rfl, rfl, trivial⟩ (Sub.refl _) ?_
              by_cases hc23 : (w64 (x7 + (w64 (((lget p0 x8).f2) - (1 : Int))))) = (0 : Int)
              · have h := (if_pos hc23).symm.trans h
                refine AW.condP ((w64 (x7 + (w64 (((lget p0 x8).f2) - (1 : Int))))) = (0 : Int)) rfl hc23 ?_
                refine AW.seq ?_
                refine AW.reg ?_
                refine AO.calm rfl 61 rfl (by decide) (eI64 x8) (Calm.move rfl rfl) ?_
                refine AO.calm rfl 62 rfl (by decide) (eI64 (w64 (x8 + (1 : Int)))) (Calm.int rfl rfl rfl rfl) ?_
                refine AO.calm rfl 63 rfl (by decide) (eI64 p1) (Calm.move rfl rfl) ?_
                refine AO.calm rfl 64 rfl (by decide) (eI64 (w64 ((w64 (x8 + (1 : Int))) - p1))) (Calm.int rfl rfl rfl rfl) ?_
                refine AO.calm rfl 4 rfl (by decide) (eI64 (w64 ((w64 (x8 + (1 : Int))) - p1))) (Calm.assign rfl rfl) ?_
                refine AO.nil (ρ' := [(4, (eI64 (w64 ((w64 (x8 + (1 : Int))) - p1))))]) (H' := []) ⟨rfl, trivial⟩ (Sub.refl _) ?_
                refine AW.ret (ρ' := [(4, (eI64 (w64 ((w64 (x8 + (1 : Int))) - p1))))]) (H' := []) ⟨rfl, trivial⟩ (Sub.refl _) ?_
                have hr := Option.some.inj h
                subst hr
                exact ⟨[(eI64 (w64 ((w64 (x8 + (1 : Int))) - p1)))], ⟨rfl, rfl, trivial⟩, rfl⟩
              · have h := (if_neg hc23).symm.trans h
                refine AW.condN ((w64 (x7 + (w64 (((lget p0 x8).f2) - (1 : Int))))) = (0 : Int)) rfl hc23 ?_
                refine AW.skip (ρ' := [(0, (.fz 4 (p0.map e43))), (1, (eI64 p1)), (5, (eI64 (w64 (x7 + (w64 (((lget p0 x8).f2) - (1 : Int))))))), (6, (eI64 x8))]) (H' := []) ⟨rfl, rfl, rfl, rfl, trivial⟩ (Sub.refl _) ?_
                refine AW.reg ?_
                refine AO.calm rfl 20 rfl (by decide) (eI64 x8) (Calm.move rfl rfl) ?_
                refine AO.calm rfl 21 rfl (by decide) (eI64 (w64 (x8 + (1 : Int)))) (Calm.int rfl rfl rfl rfl) ?_
                refine AO.calm rfl 6 rfl (by decide) (eI64 (w64 (x8 + (1 : Int)))) (Calm.assign rfl rfl) ?_
                refine AO.nil (ρ' := [(0, (.fz 4 (p0.map e43))), (1, (eI64 p1)), (5, (eI64 (w64 (x7 + (w64 (((lget p0 x8).f2) - (1 : Int))))))), (6, (eI64 (w64 (x8 + (1 : Int)))))]) (H' := []) ⟨rfl, rfl, rfl, rfl, trivial⟩ (Sub.refl _) ?_
                exact ⟨kq10, Nat.lt_succ_self _, (w64 (x7 + (w64 (((lget p0 x8).f2) - (1 : Int))))), (w64 (x8 + (1 : Int))), rfl, rfl, by rw [hrec9]; exact h⟩
        · have h := (if_neg hc11).symm.trans h
          refine AW.condN (x8 < (p0.length : Int)) rfl hc11 ?_
          refine AW.exit (ρ' := []) (H' := []) trivial (Sub.refl _) ?_
          exact ⟨rfl, rfl, h⟩
      · rintro _ _ ⟨rfl, rfl, h⟩
        rw [ast_Size_c0.eq_1] at h
        refine AW.seq ?_
        refine AW.reg ?_
        refine AO.calm rfl 4 rfl (by decide) (eI64 (0 : Int)) (Calm.assign rfl rfl) ?_
        refine AO.nil (ρ' := [(4, (eI64 (0 : Int)))]) (H' := []) ⟨rfl, trivial⟩ (Sub.refl _) ?_
        refine AW.ret (ρ' := [(4, (eI64 (0 : Int)))]) (H' := []) ⟨rfl, trivial⟩ (Sub.refl _) ?_
        have hr := Option.some.inj h
        subst hr
        exact ⟨[(eI64 (0 : Int))], ⟨rfl, rfl, trivial⟩, rfl⟩
end Go.Avl.T2
/- bosket/ast.Right; printed by avmain.py. -/
namespace Go.Avl.T2
open Go Go.RowKit Go.Proofs Go.Avl
set_option linter.unusedVariables false
set_option maxRecDepth 100000
set_option maxHeartbeats 4000000
attribute [local irreducible] AW AO AQ Spec SpecH Calm

def ast_Right (k : Nat) (p0 : (List S43)) : Option Bool :=
  Option.bind (α := Bool) (if (p0.length : Int) ≤ (2000 : Int) then if (0 : Int) < (p0.length : Int) then (ast_Size k p0 (0 : Int)).bind fun t6 =>
  some (decide (t6 = (p0.length : Int)))
  else some (false)
  else some (false)) fun b2 =>
  some (b2)
theorem ast_Right_spec {k : Nat} {p0 : (List S43)} {r : Bool} (h : ast_Right k p0 = some r) : Spec Try.prog 30 [(.fz 4 (p0.map e43))] (eBool r) := by
  rw [ast_Right.eq_1] at h
  refine Spec.intro (res := [.tmp 2]) Try.func30 rfl rfl rfl (Nat.le_of_ble_eq_true rfl) ?_
  refine AW.seq ?_
  refine AW.reg ?_
  refine AO.calm rfl 2 rfl (by decide) (eBool false) (Calm.assign rfl rfl) ?_
  refine AO.nil (ρ' := [(0, (.fz 4 (p0.map e43)))]) (H' := []) ⟨rfl, trivial⟩ (Sub.refl _) ?_
  refine AW.seq ?_
  obtain ⟨b2, hq3, h⟩ := of_bind h
  refine AW.regM [(2, (eBool b2))] [] ?_ ?_
  · refine AO.calm rfl 3 rfl (by decide) (.fz 4 (p0.map e43)) (Calm.move rfl rfl) ?_
    refine AO.calm rfl 4 rfl (by decide) (eI64 (p0.length : Int)) (Calm.lenL rfl rfl Try.underlying37) ?_
    refine AO.calm rfl 5 rfl (by decide) (eBool (decide ((p0.length : Int) ≤ (2000 : Int)))) (Calm.int rfl rfl rfl rfl) ?_
    refine AO.calm rfl 6 rfl (by decide) (eBool (decide ((p0.length : Int) ≤ (2000 : Int)))) (Calm.move rfl rfl) ?_
    by_cases hc4 : (p0.length : Int) ≤ (2000 : Int)
    · have hq3 := (if_pos hc4).symm.trans hq3
      refine AO.calmG 3 true 6 rfl rfl (congrArg (fun b => some (AV.fl (Value.bool b))) (decide_eq_true hc4)) 7 rfl (by decide) (.fz 4 (p0.map e43)) (Calm.move rfl rfl) ?_
      refine AO.calmG 3 true 6 rfl rfl (congrArg (fun b => some (AV.fl (Value.bool b))) (decide_eq_true hc4)) 8 rfl (by decide) (eI64 (p0.length : Int)) (Calm.lenL rfl rfl Try.underlying37) ?_
      refine AO.calmG 3 true 6 rfl rfl (congrArg (fun b => some (AV.fl (Value.bool b))) (decide_eq_true hc4)) 9 rfl (by decide) (eBool (decide ((0 : Int) < (p0.length : Int)))) (Calm.int rfl rfl rfl rfl) ?_
      refine AO.calm rfl 10 rfl (by decide) (eBool (decide ((0 : Int) < (p0.length : Int)))) (Calm.pickT rfl (congrArg (fun b => some (AV.fl (Value.bool b))) (decide_eq_true hc4)) rfl) ?_
      refine AO.calm rfl 11 rfl (by decide) (eBool (decide ((0 : Int) < (p0.length : Int)))) (Calm.move rfl rfl) ?_
      by_cases hc5 : (0 : Int) < (p0.length : Int)
      · have hq3 := (if_pos hc5).symm.trans hq3
        refine AO.calmG 8 true 11 rfl rfl (congrArg (fun b => some (AV.fl (Value.bool b))) (decide_eq_true hc5)) 12 rfl (by decide) (.fz 4 (p0.map e43)) (Calm.move rfl rfl) ?_
        obtain ⟨t6, et6, hq3⟩ := of_bind hq3
        refine AO.callG 8 true 11 [(.fz 4 (p0.map e43)), (eI64 (0 : Int))] (eI64 t6) 13 rfl (by decide) ok31 rfl rfl (congrArg (fun b => some (AV.fl (Value.bool b))) (decide_eq_true hc5)) rfl rfl ⟨rfl, rfl, rfl, rfl, trivial⟩ (ast_Size_spec et6) ?_
        refine AO.calmG 8 true 11 rfl rfl (congrArg (fun b => some (AV.fl (Value.bool b))) (decide_eq_true hc5)) 14 rfl (by decide) (.fz 4 (p0.map e43)) (Calm.move rfl rfl) ?_
        refine AO.calmG 8 true 11 rfl rfl (congrArg (fun b => some (AV.fl (Value.bool b))) (decide_eq_true hc5)) 15 rfl (by decide) (eI64 (p0.length : Int)) (Calm.lenL rfl rfl Try.underlying37) ?_
        refine AO.calmG 8 true 11 rfl rfl (congrArg (fun b => some (AV.fl (Value.bool b))) (decide_eq_true hc5)) 16 rfl (by decide) (eBool (decide (t6 = (p0.length : Int)))) (Calm.int rfl rfl rfl rfl) ?_
        refine AO.calm rfl 17 rfl (by decide) (eBool (decide (t6 = (p0.length : Int)))) (Calm.pickT rfl (congrArg (fun b => some (AV.fl (Value.bool b))) (decide_eq_true hc5)) rfl) ?_
        refine AO.calm rfl 2 rfl (by decide) (eBool (decide (t6 = (p0.length : Int)))) (Calm.assign rfl rfl) ?_
        cases hq3
        refine AO.nilE ⟨rfl, rfl⟩ ?_ ?_
        · exact ⟨rfl, trivial⟩
        · exact (Sub.refl _)
      · have hq3 := (if_neg hc5).symm.trans hq3
        refine AO.skipG 8 false 11 rfl rfl (congrArg (fun b => some (AV.fl (Value.bool b))) (decide_eq_false hc5)) 12 rfl (by decide) ?_
        refine AO.skipG 8 false 11 rfl rfl (congrArg (fun b => some (AV.fl (Value.bool b))) (decide_eq_false hc5)) 13 rfl (by decide) ?_
        refine AO.skipG 8 false 11 rfl rfl (congrArg (fun b => some (AV.fl (Value.bool b))) (decide_eq_false hc5)) 14 rfl (by decide) ?_
        refine AO.skipG 8 false 11 rfl rfl (congrArg (fun b => some (AV.fl (Value.bool b))) (decide_eq_false hc5)) 15 rfl (by decide) ?_
        refine AO.skipG 8 false 11 rfl rfl (congrArg (fun b => some (AV.fl (Value.bool b))) (decide_eq_false hc5)) 16 rfl (by decide) ?_
        refine AO.calm rfl 17 rfl (by decide) (eBool false) (Calm.pickF rfl (congrArg (fun b => some (AV.fl (Value.bool b))) (decide_eq_false hc5)) rfl) ?_
        refine AO.calm rfl 2 rfl (by decide) (eBool false) (Calm.assign rfl rfl) ?_
        cases hq3
        refine AO.nilE ⟨rfl, rfl⟩ ?_ ?_
        · exact ⟨rfl, trivial⟩
        · exact (Sub.refl _)
    · have hq3 := (if_neg hc4).symm.trans hq3
      refine AO.skipG 3 false 6 rfl rfl (congrArg (fun b => some (AV.fl (Value.bool b))) (decide_eq_false hc4)) 7 rfl (by decide) ?_
      refine AO.skipG 3 false 6 rfl rfl (congrArg (fun b => some (AV.fl (Value.bool b))) (decide_eq_false hc4)) 8 rfl (by decide) ?_
      refine AO.skipG 3 false 6 rfl rfl (congrArg (fun b => some (AV.fl (Value.bool b))) (decide_eq_false hc4)) 9 rfl (by decide) ?_
      refine AO.calm rfl 10 rfl (by decide) (eBool false) (Calm.pickF rfl (congrArg (fun b => some (AV.fl (Value.bool b))) (decide_eq_false hc4)) rfl) ?_
      refine AO.calm rfl 11 rfl (by decide) (eBool false) (Calm.move rfl rfl) ?_
      refine AO.skipG 8 false 11 rfl rfl rfl 12 rfl (by decide) ?_
      refine AO.skipG 8 false 11 rfl rfl rfl 13 rfl (by decide) ?_
      refine AO.skipG 8 false 11 rfl rfl rfl 14 rfl (by decide) ?_
      refine AO.skipG 8 false 11 rfl rfl rfl 15 rfl (by decide) ?_
      refine AO.skipG 8 false 11 rfl rfl rfl 16 rfl (by decide) ?_
      refine AO.calm rfl 17 rfl (by decide) (eBool false) (Calm.pickF rfl rfl rfl) ?_
      refine AO.calm rfl 2 rfl (by decide) (eBool false) (Calm.assign rfl rfl) ?_
      cases hq3
      refine AO.nilE ⟨rfl, rfl⟩ ?_ ?_
      · exact ⟨rfl, trivial⟩
      · exact (Sub.refl _)
  · refine AW.ret (ρ' := [(2, (eBool b2))]) (H' := []) ⟨rfl, trivial⟩ (Sub.refl _) ?_
    have hr := Option.some.inj h
    subst hr
    exact ⟨[(eBool b2)], ⟨rfl, rfl, trivial⟩, rfl⟩
end Go.Avl.T2
/- bosket/spot.natural; printed by avmain.py. -/
namespace Go.Avl.T2
open Go Go.RowKit Go.Proofs Go.Avl
set_option linter.unusedVariables false
set_option maxRecDepth 100000
set_option maxHeartbeats 4000000
attribute [local irreducible] AW AO AQ Spec SpecH Calm

def spot_natural : Nat → Int → Option ByteArray
  | 0, _ => none
  | k + 1, p0 =>
    if p0 < (10 : Int) then some ((strOfNums ([(w8 (u64 ((48 : Int) + p0)))] : List Int)))
    else ((spot_natural k) (IntKind.u64.wrap (p0.tdiv (10 : Int)))).bind fun t4 =>
    if t4.size + (strOfNums ([(w8 (u64 ((48 : Int) + (p0.tmod (10 : Int)))))] : List Int)).size ≤ 9223372036854775807 then some ((t4 ++ (strOfNums ([(w8 (u64 ((48 : Int) + (p0.tmod (10 : Int)))))] : List Int))))
    else none
theorem spot_natural_spec' : ∀ (k : Nat) (p0 : Int) (r : ByteArray), spot_natural k p0 = some r → Spec Try.prog 80 [(eU64 p0)] (eStr r) := by
  intro k
  induction k with
  | zero => intro p0 r h; rw [spot_natural.eq_1] at h; cases h
  | succ k hself =>
  intro p0 r h
  rw [spot_natural.eq_2] at h
  generalize hs : spot_natural k = self at h hself
  refine Spec.intro (res := [.tmp 2]) Try.func80 rfl rfl rfl (Nat.le_of_ble_eq_true rfl) ?_
  refine AW.seq ?_
  refine AW.reg ?_
  refine AO.calm rfl 2 rfl (by decide) (eStr (ByteArray.mk #[])) (Calm.assign rfl rfl) ?_
  refine AO.nil (ρ' := [(0, (eU64 p0))]) (H' := []) ⟨rfl, trivial⟩ (Sub.refl _) ?_
  refine AW.seq ?_
  refine AW.seq ?_
  refine AW.reg ?_
  refine AO.calm rfl 3 rfl (by decide) (eU64 p0) (Calm.move rfl rfl) ?_
  refine AO.calm rfl 4 rfl (by decide) (eBool (decide (p0 < (10 : Int)))) (Calm.int rfl rfl rfl rfl) ?_
  refine AO.nil (ρ' := [(0, (eU64 p0)), (4, (eBool (decide (p0 < (10 : Int)))))]) (H' := []) ⟨rfl, rfl, trivial⟩ (Sub.refl _) ?_
  by_cases hc2 : p0 < (10 : Int)
  · have h := (if_pos hc2).symm.trans h
    refine AW.condP (p0 < (10 : Int)) rfl hc2 ?_
    refine AW.seq ?_
    refine AW.reg ?_
    refine AO.calm rfl 5 rfl (by decide) (eU64 p0) (Calm.move rfl rfl) ?_
    refine AO.calm rfl 6 rfl (by decide) (eU64 (u64 ((48 : Int) + p0))) (Calm.int rfl rfl rfl rfl) ?_
    refine AO.calm rfl 7 rfl (by decide) (eU8 (w8 (u64 ((48 : Int) + p0)))) (Calm.conv rfl rfl Try.underlying83 Try.underlying5) ?_
    refine AO.lit (Z := (eU8 (0 : Int))) (xs := (([(w8 (u64 ((48 : Int) + p0)))] : List Int).map eU8)) (qs := [(0, (eU8 (w8 (u64 ((48 : Int) + p0)))))]) rfl 8 rfl (by decide) rfl ⟨rfl, rfl, rfl, trivial⟩ Try.underlying84 sz5 zr5 lay5 rfl (by decide) (litOK (z := 1) [(eU8 (w8 (u64 ((48 : Int) + p0))))] rfl ⟨⟨rfl, rfl⟩, trivial⟩) rfl fun n3 => ?_
    refine AO.calm rfl 9 rfl (by decide) (eStr (strOfNums ([(w8 (u64 ((48 : Int) + p0)))] : List Int))) (Calm.strO 0 rfl rfl rfl Try.underlying84 Try.underlying9 Try.underlying5) ?_
    refine AO.calm rfl 2 rfl (by decide) (eStr (strOfNums ([(w8 (u64 ((48 : Int) + p0)))] : List Int))) (Calm.assign rfl rfl) ?_
    refine AO.nil (ρ' := [(2, (eStr (strOfNums ([(w8 (u64 ((48 : Int) + p0)))] : List Int))))]) (H' := []) ⟨rfl, trivial⟩ (Sub.nil _) ?_
    refine AW.ret (ρ' := [(2, (eStr (strOfNums ([(w8 (u64 ((48 : Int) + p0)))] : List Int))))]) (H' := []) ⟨rfl, trivial⟩ (Sub.refl _) ?_
    have hr := Option.some.inj h
    subst hr
    exact ⟨[(eStr (strOfNums ([(w8 (u64 ((48 : Int) + p0)))] : List Int)))], ⟨rfl, rfl, trivial⟩, rfl⟩
  · have h := (if_neg hc2).symm.trans h
    refine AW.condN (p0 < (10 : Int)) rfl hc2 ?_
    refine AW.skip (ρ' := [(0, (eU64 p0))]) (H' := []) ⟨rfl, trivial⟩ (Sub.refl _) ?_
    refine AW.seq ?_
    obtain ⟨t4, et4, h⟩ := of_bind h
    obtain ⟨hg6, h⟩ := of_guard h
    refine AW.regAny (by rfl) (by decide +kernel) [(eU64 p0), (eU64 (IntKind.u64.wrap (p0.tdiv (10 : Int)))), (eStr t4), (eU64 p0), (eU64 (p0.tmod (10 : Int))), (eU64 (u64 ((48 : Int) + (p0.tmod (10 : Int))))), (eU8 (w8 (u64 ((48 : Int) + (p0.tmod (10 : Int)))))), (.fz 1 (([(w8 (u64 ((48 : Int) + (p0.tmod (10 : Int)))))] : List Int).map eU8)), (eStr (strOfNums ([(w8 (u64 ((48 : Int) + (p0.tmod (10 : Int)))))] : List Int))), (eStr (t4 ++ (strOfNums ([(w8 (u64 ((48 : Int) + (p0.tmod (10 : Int)))))] : List Int)))), (eStr (t4 ++ (strOfNums ([(w8 (u64 ((48 : Int) + (p0.tmod (10 : Int)))))] : List Int))))] [(0, (eU64 p0))] ⟨rfl, trivial⟩ rfl ?_ [(2, (eStr (t4 ++ (strOfNums ([(w8 (u64 ((48 : Int) + (p0.tmod (10 : Int)))))] : List Int)))))] [] ⟨rfl, trivial⟩ (Sub.refl _) ?_
    · refine ⟨?_, ?_, ?_, ?_, ?_, ?_, ?_, ?_, ?_, ?_, ?_, trivial⟩
      · refine AO.weak (ρ' := [(0, (eU64 p0))]) (H' := []) ⟨rfl, trivial⟩ (Sub.refl _) ?_
        refine AO.calm rfl 10 rfl (by decide) (eU64 p0) (Calm.move rfl rfl) ?_
        exact AO.nilE (ρ' := [(10, (eU64 p0))]) (H' := []) ⟨⟨_, rfl, rfl⟩, Sub.refl _⟩ ⟨rfl, trivial⟩ (Sub.refl _)
      · refine AO.weak (ρ' := [(10, (eU64 p0))]) (H' := []) ⟨rfl, trivial⟩ (Sub.refl _) ?_
        refine AO.calm rfl 11 rfl (by decide) (eU64 (IntKind.u64.wrap (p0.tdiv (10 : Int)))) (Calm.quo rfl rfl rfl (by decide)) ?_
        exact AO.nilE (ρ' := [(11, (eU64 (IntKind.u64.wrap (p0.tdiv (10 : Int)))))]) (H' := []) ⟨⟨_, rfl, rfl⟩, Sub.refl _⟩ ⟨rfl, trivial⟩ (Sub.refl _)
      · refine AO.weak (ρ' := [(11, (eU64 (IntKind.u64.wrap (p0.tdiv (10 : Int)))))]) (H' := []) ⟨rfl, trivial⟩ (Sub.refl _) ?_
        refine AO.callS [(eU64 (IntKind.u64.wrap (p0.tdiv (10 : Int))))] (eStr t4) 12 rfl (by decide) ok80 rfl rfl rfl ⟨rfl, rfl, trivial⟩ (hself _ _ et4) ?_
        exact AO.nilE (ρ' := [(12, (eStr t4))]) (H' := []) ⟨⟨_, rfl, rfl⟩, Sub.refl _⟩ ⟨rfl, trivial⟩ (Sub.refl _)
      · refine AO.weak (ρ' := [(0, (eU64 p0))]) (H' := []) ⟨rfl, trivial⟩ (Sub.refl _) ?_
        refine AO.calm rfl 13 rfl (by decide) (eU64 p0) (Calm.move rfl rfl) ?_
        exact AO.nilE (ρ' := [(13, (eU64 p0))]) (H' := []) ⟨⟨_, rfl, rfl⟩, Sub.refl _⟩ ⟨rfl, trivial⟩ (Sub.refl _)
      · refine AO.weak (ρ' := [(13, (eU64 p0))]) (H' := []) ⟨rfl, trivial⟩ (Sub.refl _) ?_
        refine AO.calm rfl 14 rfl (by decide) (eU64 (p0.tmod (10 : Int))) (Calm.rem rfl rfl rfl (by decide)) ?_
        exact AO.nilE (ρ' := [(14, (eU64 (p0.tmod (10 : Int))))]) (H' := []) ⟨⟨_, rfl, rfl⟩, Sub.refl _⟩ ⟨rfl, trivial⟩ (Sub.refl _)
      · refine AO.weak (ρ' := [(14, (eU64 (p0.tmod (10 : Int))))]) (H' := []) ⟨rfl, trivial⟩ (Sub.refl _) ?_
        refine AO.calm rfl 15 rfl (by decide) (eU64 (u64 ((48 : Int) + (p0.tmod (10 : Int))))) (Calm.int rfl rfl rfl rfl) ?_
        exact AO.nilE (ρ' := [(15, (eU64 (u64 ((48 : Int) + (p0.tmod (10 : Int))))))]) (H' := []) ⟨⟨_, rfl, rfl⟩, Sub.refl _⟩ ⟨rfl, trivial⟩ (Sub.refl _)
      · refine AO.weak (ρ' := [(15, (eU64 (u64 ((48 : Int) + (p0.tmod (10 : Int))))))]) (H' := []) ⟨rfl, trivial⟩ (Sub.refl _) ?_
        refine AO.calm rfl 16 rfl (by decide) (eU8 (w8 (u64 ((48 : Int) + (p0.tmod (10 : Int)))))) (Calm.conv rfl rfl Try.underlying83 Try.underlying5) ?_
        exact AO.nilE (ρ' := [(16, (eU8 (w8 (u64 ((48 : Int) + (p0.tmod (10 : Int)))))))]) (H' := []) ⟨⟨_, rfl, rfl⟩, Sub.refl _⟩ ⟨rfl, trivial⟩ (Sub.refl _)
      · refine AO.weak (ρ' := [(16, (eU8 (w8 (u64 ((48 : Int) + (p0.tmod (10 : Int)))))))]) (H' := []) ⟨rfl, trivial⟩ (Sub.refl _) ?_
        refine AO.lit (Z := (eU8 (0 : Int))) (xs := (([(w8 (u64 ((48 : Int) + (p0.tmod (10 : Int)))))] : List Int).map eU8)) (qs := [(0, (eU8 (w8 (u64 ((48 : Int) + (p0.tmod (10 : Int)))))))]) rfl 17 rfl (by decide) rfl ⟨rfl, rfl, rfl, trivial⟩ Try.underlying84 sz5 zr5 lay5 rfl (by decide) (litOK (z := 1) [(eU8 (w8 (u64 ((48 : Int) + (p0.tmod (10 : Int))))))] rfl ⟨⟨rfl, rfl⟩, trivial⟩) rfl fun n5 => ?_
        refine AO.freezeS 0 [(17, (.fz 1 (([(w8 (u64 ((48 : Int) + (p0.tmod (10 : Int)))))] : List Int).map eU8)))] rfl ⟨fz_all rfl, trivial⟩ ?_
        exact AO.nilE (ρ' := [(17, (.fz 1 (([(w8 (u64 ((48 : Int) + (p0.tmod (10 : Int)))))] : List Int).map eU8)))]) (H' := []) ⟨⟨_, rfl, rfl⟩, Sub.refl _⟩ ⟨rfl, trivial⟩ (Sub.refl _)
      · refine AO.weak (ρ' := [(17, (.fz 1 (([(w8 (u64 ((48 : Int) + (p0.tmod (10 : Int)))))] : List Int).map eU8)))]) (H' := []) ⟨rfl, trivial⟩ (Sub.refl _) ?_
        refine AO.calm rfl 18 rfl (by decide) (eStr (strOfNums ([(w8 (u64 ((48 : Int) + (p0.tmod (10 : Int)))))] : List Int))) (Calm.strL rfl rfl Try.underlying84 Try.underlying9 Try.underlying5) ?_
        exact AO.nilE (ρ' := [(18, (eStr (strOfNums ([(w8 (u64 ((48 : Int) + (p0.tmod (10 : Int)))))] : List Int))))]) (H' := []) ⟨⟨_, rfl, rfl⟩, Sub.refl _⟩ ⟨rfl, trivial⟩ (Sub.refl _)
      · refine AO.weak (ρ' := [(12, (eStr t4)), (18, (eStr (strOfNums ([(w8 (u64 ((48 : Int) + (p0.tmod (10 : Int)))))] : List Int))))]) (H' := []) ⟨rfl, rfl, trivial⟩ (Sub.refl _) ?_
        refine AO.calm rfl 19 rfl (by decide) (eStr (t4 ++ (strOfNums ([(w8 (u64 ((48 : Int) + (p0.tmod (10 : Int)))))] : List Int)))) (Calm.cat rfl rfl rfl hg6) ?_
        exact AO.nilE (ρ' := [(19, (eStr (t4 ++ (strOfNums ([(w8 (u64 ((48 : Int) + (p0.tmod (10 : Int)))))] : List Int)))))]) (H' := []) ⟨⟨_, rfl, rfl⟩, Sub.refl _⟩ ⟨rfl, trivial⟩ (Sub.refl _)
      · refine AO.weak (ρ' := [(19, (eStr (t4 ++ (strOfNums ([(w8 (u64 ((48 : Int) + (p0.tmod (10 : Int)))))] : List Int)))))]) (H' := []) ⟨rfl, trivial⟩ (Sub.refl _) ?_
        refine AO.calm rfl 2 rfl (by decide) (eStr (t4 ++ (strOfNums ([(w8 (u64 ((48 : Int) + (p0.tmod (10 : Int)))))] : List Int)))) (Calm.assign rfl rfl) ?_
        exact AO.nilE (ρ' := [(2, (eStr (t4 ++ (strOfNums ([(w8 (u64 ((48 : Int) + (p0.tmod (10 : Int)))))] : List Int)))))]) (H' := []) ⟨⟨_, rfl, rfl⟩, Sub.refl _⟩ ⟨rfl, trivial⟩ (Sub.refl _)
    · refine AW.ret (ρ' := [(2, (eStr (t4 ++ (strOfNums ([(w8 (u64 ((48 : Int) + (p0.tmod (10 : Int)))))] : List Int)))))]) (H' := []) ⟨rfl, trivial⟩ (Sub.refl _) ?_
      have hr := Option.some.inj h
      subst hr
      exact ⟨[(eStr (t4 ++ (strOfNums ([(w8 (u64 ((48 : Int) + (p0.tmod (10 : Int)))))] : List Int))))], ⟨rfl, rfl, trivial⟩, rfl⟩
theorem spot_natural_spec {k : Nat} {p0 : Int} {r : ByteArray} (h : spot_natural k p0 = some r) : Spec Try.prog 80 [(eU64 p0)] (eStr r) := spot_natural_spec' k p0 r h
end Go.Avl.T2
/- bosket/spot.digits; printed by avmain.py. -/
namespace Go.Avl.T2
open Go Go.RowKit Go.Proofs Go.Avl
set_option linter.unusedVariables false
set_option maxRecDepth 100000
set_option maxHeartbeats 4000000
attribute [local irreducible] AW AO AQ Spec SpecH Calm

def spot_digits (k : Nat) (p0 : Int) : Option ByteArray :=
  if p0 < (0 : Int) then (spot_natural k (u64 (IntKind.i64.wrap (0 - p0)))).bind fun t3 =>
  if (ByteArray.mk #[45]).size + t3.size ≤ 9223372036854775807 then some (((ByteArray.mk #[45]) ++ t3))
  else none
  else (spot_natural k (u64 p0)).bind fun t5 =>
  some (t5)
theorem spot_digits_spec {k : Nat} {p0 : Int} {r : ByteArray} (h : spot_digits k p0 = some r) : Spec Try.prog 59 [(eI64 p0)] (eStr r) := by
  rw [spot_digits.eq_1] at h
  refine Spec.intro (res := [.tmp 2]) Try.func59 rfl rfl rfl (Nat.le_of_ble_eq_true rfl) ?_
  refine AW.seq ?_
  refine AW.reg ?_
  refine AO.calm rfl 2 rfl (by decide) (eStr (ByteArray.mk #[])) (Calm.assign rfl rfl) ?_
  refine AO.nil (ρ' := [(0, (eI64 p0))]) (H' := []) ⟨rfl, trivial⟩ (Sub.refl _) ?_
  refine AW.seq ?_
  refine AW.seq ?_
  refine AW.reg ?_
  refine AO.calm rfl 3 rfl (by decide) (eI64 p0) (Calm.move rfl rfl) ?_
  refine AO.calm rfl 4 rfl (by decide) (eBool (decide (p0 < (0 : Int)))) (Calm.int rfl rfl rfl rfl) ?_
  refine AO.nil (ρ' := [(0, (eI64 p0)), (4, (eBool (decide (p0 < (0 : Int)))))]) (H' := []) ⟨rfl, rfl, trivial⟩ (Sub.refl _) ?_
  by_cases hc2 : p0 < (0 : Int)
  · have h := (if_pos hc2).symm.trans h
    refine AW.condP (p0 < (0 : Int)) rfl hc2 ?_
    refine AW.seq ?_
    refine AW.reg ?_
    refine AO.calm rfl 5 rfl (by decide) (eI64 p0) (Calm.move rfl rfl) ?_
    refine AO.calm rfl 6 rfl (by decide) (eI64 (IntKind.i64.wrap (0 - p0))) (Calm.neg rfl rfl) ?_
    refine AO.calm rfl 7 rfl (by decide) (eU64 (u64 (IntKind.i64.wrap (0 - p0)))) (Calm.conv rfl rfl Try.underlying3 Try.underlying83) ?_
    obtain ⟨t3, et3, h⟩ := of_bind h
    refine AO.callS [(eU64 (u64 (IntKind.i64.wrap (0 - p0))))] (eStr t3) 8 rfl (by decide) ok80 rfl rfl rfl ⟨rfl, rfl, trivial⟩ (spot_natural_spec et3) ?_
    obtain ⟨hg4, h⟩ := of_guard h
    refine AO.calm rfl 9 rfl (by decide) (eStr ((ByteArray.mk #[45]) ++ t3)) (Calm.cat rfl rfl rfl hg4) ?_
    refine AO.calm rfl 2 rfl (by decide) (eStr ((ByteArray.mk #[45]) ++ t3)) (Calm.assign rfl rfl) ?_
    refine AO.nil (ρ' := [(2, (eStr ((ByteArray.mk #[45]) ++ t3)))]) (H' := []) ⟨rfl, trivial⟩ (Sub.refl _) ?_
    refine AW.ret (ρ' := [(2, (eStr ((ByteArray.mk #[45]) ++ t3)))]) (H' := []) ⟨rfl, trivial⟩ (Sub.refl _) ?_
    have hr := Option.some.inj h
    subst hr
    exact ⟨[(eStr ((ByteArray.mk #[45]) ++ t3))], ⟨rfl, rfl, trivial⟩, rfl⟩
  · have h := (if_neg hc2).symm.trans h
    refine AW.condN (p0 < (0 : Int)) rfl hc2 ?_
    refine AW.skip (ρ' := [(0, (eI64 p0))]) (H' := []) ⟨rfl, trivial⟩ (Sub.refl _) ?_
    refine AW.seq ?_
    refine AW.reg ?_
    refine AO.calm rfl 10 rfl (by decide) (eI64 p0) (Calm.move rfl rfl) ?_
    refine AO.calm rfl 11 rfl (by decide) (eU64 (u64 p0)) (Calm.conv rfl rfl Try.underlying3 Try.underlying83) ?_
    obtain ⟨t5, et5, h⟩ := of_bind h
    refine AO.callS [(eU64 (u64 p0))] (eStr t5) 12 rfl (by decide) ok80 rfl rfl rfl ⟨rfl, rfl, trivial⟩ (spot_natural_spec et5) ?_
    refine AO.calm rfl 2 rfl (by decide) (eStr t5) (Calm.assign rfl rfl) ?_
    refine AO.nil (ρ' := [(2, (eStr t5))]) (H' := []) ⟨rfl, trivial⟩ (Sub.refl _) ?_
    refine AW.ret (ρ' := [(2, (eStr t5))]) (H' := []) ⟨rfl, trivial⟩ (Sub.refl _) ?_
    have hr := Option.some.inj h
    subst hr
    exact ⟨[(eStr t5)], ⟨rfl, rfl, trivial⟩, rfl⟩
end Go.Avl.T2
/- bosket/spot.Digits; printed by avmain.py. -/
namespace Go.Avl.T2
open Go Go.RowKit Go.Proofs Go.Avl
set_option linter.unusedVariables false
set_option maxRecDepth 100000
set_option maxHeartbeats 4000000
attribute [local irreducible] AW AO AQ Spec SpecH Calm

def spot_Digits (k : Nat) (p0 : Int) : Option ByteArray :=
  (spot_digits k p0).bind fun t2 =>
  some (t2)
theorem spot_Digits_spec {k : Nat} {p0 : Int} {r : ByteArray} (h : spot_Digits k p0 = some r) : Spec Try.prog 18 [(eI64 p0)] (eStr r) := by
  rw [spot_Digits.eq_1] at h
  refine Spec.intro (res := [.tmp 2]) Try.func18 rfl rfl rfl (Nat.le_of_ble_eq_true rfl) ?_
  refine AW.seq ?_
  refine AW.reg ?_
  refine AO.calm rfl 2 rfl (by decide) (eStr (ByteArray.mk #[])) (Calm.assign rfl rfl) ?_
  refine AO.nil (ρ' := [(0, (eI64 p0))]) (H' := []) ⟨rfl, trivial⟩ (Sub.refl _) ?_
  refine AW.seq ?_
  refine AW.reg ?_
  refine AO.calm rfl 3 rfl (by decide) (eI64 p0) (Calm.move rfl rfl) ?_
  obtain ⟨t2, et2, h⟩ := of_bind h
  refine AO.callS [(eI64 p0)] (eStr t2) 4 rfl (by decide) ok59 rfl rfl rfl ⟨rfl, rfl, trivial⟩ (spot_digits_spec et2) ?_
  refine AO.calm rfl 2 rfl (by decide) (eStr t2) (Calm.assign rfl rfl) ?_
  refine AO.nil (ρ' := [(2, (eStr t2))]) (H' := []) ⟨rfl, trivial⟩ (Sub.refl _) ?_
  refine AW.ret (ρ' := [(2, (eStr t2))]) (H' := []) ⟨rfl, trivial⟩ (Sub.refl _) ?_
  have hr := Option.some.inj h
  subst hr
  exact ⟨[(eStr t2)], ⟨rfl, rfl, trivial⟩, rfl⟩
end Go.Avl.T2
/- bosket/escape.letter; printed by avmain.py. -/
namespace Go.Avl.T2
open Go Go.RowKit Go.Proofs Go.Avl
set_option linter.unusedVariables false
set_option maxRecDepth 100000
set_option maxHeartbeats 4000000
attribute [local irreducible] AW AO AQ Spec SpecH Calm

def escape_letter (k : Nat) (p0 : Int) : Option Int :=
  if p0 = (10 : Int) then some ((110 : Int))
  else if p0 = (9 : Int) then some ((116 : Int))
  else if p0 = (13 : Int) then some ((114 : Int))
  else some ((0 : Int))
theorem escape_letter_spec {k : Nat} {p0 : Int} {r : Int} (h : escape_letter k p0 = some r) : Spec Try.prog 95 [(eU8 p0)] (eU8 r) := by
  rw [escape_letter.eq_1] at h
  refine Spec.intro (res := [.tmp 2]) Try.func95 rfl rfl rfl (Nat.le_of_ble_eq_true rfl) ?_
  refine AW.seq ?_
  refine AW.reg ?_
  refine AO.calm rfl 2 rfl (by decide) (eU8 (0 : Int)) (Calm.assign rfl rfl) ?_
  refine AO.nil (ρ' := [(0, (eU8 p0))]) (H' := []) ⟨rfl, trivial⟩ (Sub.refl _) ?_
  refine AW.seq ?_
  refine AW.seq ?_
  refine AW.reg ?_
  refine AO.calm rfl 3 rfl (by decide) (eU8 p0) (Calm.move rfl rfl) ?_
  refine AO.nil (ρ' := [(3, (eU8 p0))]) (H' := []) ⟨rfl, trivial⟩ (Sub.refl _) ?_
  refine AW.block ?_
  refine AW.seq ?_
  refine AW.reg ?_
  refine AO.calm rfl 5 rfl (by decide) (eBool (decide (p0 = (10 : Int)))) (Calm.int rfl rfl rfl rfl) ?_
  refine AO.calm rfl 4 rfl (by decide) (eBool (decide (p0 = (10 : Int)))) (Calm.assign rfl rfl) ?_
  refine AO.nil (ρ' := [(3, (eU8 p0)), (4, (eBool (decide (p0 = (10 : Int)))))]) (H' := []) ⟨rfl, rfl, trivial⟩ (Sub.refl _) ?_
  by_cases hc2 : p0 = (10 : Int)
  · have h := (if_pos hc2).symm.trans h
    refine AW.condP (p0 = (10 : Int)) rfl hc2 ?_
    refine AW.seq ?_
    refine AW.reg ?_
    refine AO.calm rfl 2 rfl (by decide) (eU8 (110 : Int)) (Calm.assign rfl rfl) ?_
    refine AO.nil (ρ' := [(2, (eU8 (110 : Int)))]) (H' := []) ⟨rfl, trivial⟩ (Sub.refl _) ?_
    refine AW.ret (ρ' := [(2, (eU8 (110 : Int)))]) (H' := []) ⟨rfl, trivial⟩ (Sub.refl _) ?_
    have hr := Option.some.inj h
    subst hr
    exact ⟨[(eU8 (110 : Int))], ⟨rfl, rfl, trivial⟩, rfl⟩
  · have h := (if_neg hc2).symm.trans h
    refine AW.condN (p0 = (10 : Int)) rfl hc2 ?_
    refine AW.seq ?_
    refine AW.reg ?_
    refine AO.calm rfl 7 rfl (by decide) (eBool (decide (p0 = (9 : Int)))) (Calm.int rfl rfl rfl rfl) ?_
    refine AO.calm rfl 6 rfl (by decide) (eBool (decide (p0 = (9 : Int)))) (Calm.assign rfl rfl) ?_
    refine AO.nil (ρ' := [(3, (eU8 p0)), (6, (eBool (decide (p0 = (9 : Int)))))]) (H' := []) ⟨rfl, rfl, trivial⟩ (Sub.refl _) ?_
    by_cases hc3 : p0 = (9 : Int)
    · have h := (if_pos hc3).symm.trans h
      refine AW.condP (p0 = (9 : Int)) rfl hc3 ?_
      refine AW.seq ?_
      refine AW.reg ?_
      refine AO.calm rfl 2 rfl (by decide) (eU8 (116 : Int)) (Calm.assign rfl rfl) ?_
      refine AO.nil (ρ' := [(2, (eU8 (116 : Int)))]) (H' := []) ⟨rfl, trivial⟩ (Sub.refl _) ?_
      refine AW.ret (ρ' := [(2, (eU8 (116 : Int)))]) (H' := []) ⟨rfl, trivial⟩ (Sub.refl _) ?_
      have hr := Option.some.inj h
      subst hr
      exact ⟨[(eU8 (116 : Int))], ⟨rfl, rfl, trivial⟩, rfl⟩
    · have h := (if_neg hc3).symm.trans h
      refine AW.condN (p0 = (9 : Int)) rfl hc3 ?_
      refine AW.seq ?_
      refine AW.reg ?_
      refine AO.calm rfl 9 rfl (by decide) (eBool (decide (p0 = (13 : Int)))) (Calm.int rfl rfl rfl rfl) ?_
      refine AO.calm rfl 8 rfl (by decide) (eBool (decide (p0 = (13 : Int)))) (Calm.assign rfl rfl) ?_
      refine AO.nil (ρ' := [(8, (eBool (decide (p0 = (13 : Int)))))]) (H' := []) ⟨rfl, trivial⟩ (Sub.refl _) ?_
      by_cases hc4 : p0 = (13 : Int)
      · have h := (if_pos hc4).symm.trans h
        refine AW.condP (p0 = (13 : Int)) rfl hc4 ?_
        refine AW.seq ?_
        refine AW.reg ?_
        refine AO.calm rfl 2 rfl (by decide) (eU8 (114 : Int)) (Calm.assign rfl rfl) ?_
        refine AO.nil (ρ' := [(2, (eU8 (114 : Int)))]) (H' := []) ⟨rfl, trivial⟩ (Sub.refl _) ?_
        refine AW.ret (ρ' := [(2, (eU8 (114 : Int)))]) (H' := []) ⟨rfl, trivial⟩ (Sub.refl _) ?_
        have hr := Option.some.inj h
        subst hr
        exact ⟨[(eU8 (114 : Int))], ⟨rfl, rfl, trivial⟩, rfl⟩
      · have h := (if_neg hc4).symm.trans h
        refine AW.condN (p0 = (13 : Int)) rfl hc4 ?_
        refine AW.skip (ρ' := []) (H' := []) trivial (Sub.refl _) ?_
        refine AW.seq ?_
        refine AW.reg ?_
        refine AO.calm rfl 2 rfl (by decide) (eU8 (0 : Int)) (Calm.assign rfl rfl) ?_
        refine AO.nil (ρ' := [(2, (eU8 (0 : Int)))]) (H' := []) ⟨rfl, trivial⟩ (Sub.refl _) ?_
        refine AW.ret (ρ' := [(2, (eU8 (0 : Int)))]) (H' := []) ⟨rfl, trivial⟩ (Sub.refl _) ?_
        have hr := Option.some.inj h
        subst hr
        exact ⟨[(eU8 (0 : Int))], ⟨rfl, rfl, trivial⟩, rfl⟩
end Go.Avl.T2
/- bosket/escape.digit; printed by avmain.py. -/
namespace Go.Avl.T2
open Go Go.RowKit Go.Proofs Go.Avl
set_option linter.unusedVariables false
set_option maxRecDepth 100000
set_option maxHeartbeats 4000000
attribute [local irreducible] AW AO AQ Spec SpecH Calm

def escape_digit (k : Nat) (p0 : Int) : Option Int :=
  if p0 < (10 : Int) then some ((w8 ((48 : Int) + p0)))
  else some ((w8 ((w8 ((97 : Int) + p0)) - (10 : Int))))
theorem escape_digit_spec {k : Nat} {p0 : Int} {r : Int} (h : escape_digit k p0 = some r) : Spec Try.prog 96 [(eU8 p0)] (eU8 r) := by
  rw [escape_digit.eq_1] at h
  refine Spec.intro (res := [.tmp 2]) Try.func96 rfl rfl rfl (Nat.le_of_ble_eq_true rfl) ?_
  refine AW.seq ?_
  refine AW.reg ?_
  refine AO.calm rfl 2 rfl (by decide) (eU8 (0 : Int)) (Calm.assign rfl rfl) ?_
  refine AO.nil (ρ' := [(0, (eU8 p0))]) (H' := []) ⟨rfl, trivial⟩ (Sub.refl _) ?_
  refine AW.seq ?_
  refine AW.seq ?_
  refine AW.reg ?_
  refine AO.calm rfl 3 rfl (by decide) (eU8 p0) (Calm.move rfl rfl) ?_
  refine AO.calm rfl 4 rfl (by decide) (eBool (decide (p0 < (10 : Int)))) (Calm.int rfl rfl rfl rfl) ?_
  refine AO.nil (ρ' := [(0, (eU8 p0)), (4, (eBool (decide (p0 < (10 : Int)))))]) (H' := []) ⟨rfl, rfl, trivial⟩ (Sub.refl _) ?_
  by_cases hc2 : p0 < (10 : Int)
  · have h := (if_pos hc2).symm.trans h
    refine AW.condP (p0 < (10 : Int)) rfl hc2 ?_
    refine AW.seq ?_
    refine AW.reg ?_
    refine AO.calm rfl 5 rfl (by decide) (eU8 p0) (Calm.move rfl rfl) ?_
    refine AO.calm rfl 6 rfl (by decide) (eU8 (w8 ((48 : Int) + p0))) (Calm.int rfl rfl rfl rfl) ?_
    refine AO.calm rfl 2 rfl (by decide) (eU8 (w8 ((48 : Int) + p0))) (Calm.assign rfl rfl) ?_
    refine AO.nil (ρ' := [(2, (eU8 (w8 ((48 : Int) + p0))))]) (H' := []) ⟨rfl, trivial⟩ (Sub.refl _) ?_
    refine AW.ret (ρ' := [(2, (eU8 (w8 ((48 : Int) + p0))))]) (H' := []) ⟨rfl, trivial⟩ (Sub.refl _) ?_
    have hr := Option.some.inj h
    subst hr
    exact ⟨[(eU8 (w8 ((48 : Int) + p0)))], ⟨rfl, rfl, trivial⟩, rfl⟩
  · have h := (if_neg hc2).symm.trans h
    refine AW.condN (p0 < (10 : Int)) rfl hc2 ?_
    refine AW.skip (ρ' := [(0, (eU8 p0))]) (H' := []) ⟨rfl, trivial⟩ (Sub.refl _) ?_
    refine AW.seq ?_
    refine AW.reg ?_
    refine AO.calm rfl 7 rfl (by decide) (eU8 p0) (Calm.move rfl rfl) ?_
    refine AO.calm rfl 8 rfl (by decide) (eU8 (w8 ((97 : Int) + p0))) (Calm.int rfl rfl rfl rfl) ?_
    refine AO.calm rfl 9 rfl (by decide) (eU8 (w8 ((w8 ((97 : Int) + p0)) - (10 : Int)))) (Calm.int rfl rfl rfl rfl) ?_
    refine AO.calm rfl 2 rfl (by decide) (eU8 (w8 ((w8 ((97 : Int) + p0)) - (10 : Int)))) (Calm.assign rfl rfl) ?_
    refine AO.nil (ρ' := [(2, (eU8 (w8 ((w8 ((97 : Int) + p0)) - (10 : Int)))))]) (H' := []) ⟨rfl, trivial⟩ (Sub.refl _) ?_
    refine AW.ret (ρ' := [(2, (eU8 (w8 ((w8 ((97 : Int) + p0)) - (10 : Int)))))]) (H' := []) ⟨rfl, trivial⟩ (Sub.refl _) ?_
    have hr := Option.some.inj h
    subst hr
    exact ⟨[(eU8 (w8 ((w8 ((97 : Int) + p0)) - (10 : Int))))], ⟨rfl, rfl, trivial⟩, rfl⟩
end Go.Avl.T2
/- bosket/escape.Byte; printed by avmain.py. -/
namespace Go.Avl.T2
open Go Go.RowKit Go.Proofs Go.Avl
set_option linter.unusedVariables false
set_option maxRecDepth 100000
set_option maxHeartbeats 4000000
attribute [local irreducible] AW AO AQ Spec SpecH Calm

def escape_Byte_c0 (k : Nat) (p0 : Int) : Option ByteArray :=
  some ((strOfNums ([p0] : List Int)))
def escape_Byte_l1 (k : Nat) (p0 : Int) (p1 : ByteArray) : Nat → Int → Option ByteArray
  | 0, _ => none
  | j + 1, x15 =>
    if x15 < (p1.size : Int) then if 0 ≤ x15 ∧ x15 < (p1.size : Int) then if (byteAt p1 x15) = p0 then some ((strOfNums ([(92 : Int), p0] : List Int)))
    else (escape_Byte_l1 k p0 p1 j) (w64 (x15 + (1 : Int)))
    else none
    else escape_Byte_c0 k p0
def escape_Byte (k : Nat) (p0 : Int) (p1 : ByteArray) : Option ByteArray :=
  (escape_letter k p0).bind fun t3 =>
  if t3 ≠ (0 : Int) then some ((strOfNums ([(92 : Int), t3] : List Int)))
  else Option.bind (α := Bool) (if p0 < (32 : Int) then some (true)
  else some (decide ((126 : Int) < p0))) fun b6 =>
  if b6 = true then (escape_digit k (Int.fdiv p0 (2 ^ (min (4 : Int).toNat IntKind.u8.bits)))).bind fun t10 =>
  (escape_digit k (bits .and .u8 p0 (15 : Int))).bind fun t11 =>
  some ((strOfNums ([(92 : Int), (120 : Int), t10, t11] : List Int)))
  else if p0 = (92 : Int) then some ((ByteArray.mk #[92, 92]))
  else escape_Byte_l1 k p0 p1 k (0 : Int)
theorem escape_Byte_spec {k : Nat} {p0 : Int} {p1 : ByteArray} {r : ByteArray} (h : escape_Byte k p0 p1 = some r) : Spec Try.prog 81 [(eU8 p0), (eStr p1)] (eStr r) := by
  rw [escape_Byte.eq_1] at h
  refine Spec.intro (res := [.tmp 4]) Try.func81 rfl rfl rfl (Nat.le_of_ble_eq_true rfl) ?_
  refine AW.seq ?_
  refine AW.reg ?_
  refine AO.calm rfl 4 rfl (by decide) (eStr (ByteArray.mk #[])) (Calm.assign rfl rfl) ?_
  refine AO.nil (ρ' := [(0, (eU8 p0)), (1, (eStr p1))]) (H' := []) ⟨rfl, rfl, trivial⟩ (Sub.refl _) ?_
  refine AW.seq ?_
  refine AW.seq ?_
  refine AW.reg ?_
  refine AO.calm rfl 7 rfl (by decide) (eU8 p0) (Calm.move rfl rfl) ?_
  obtain ⟨t3, et3, h⟩ := of_bind h
  refine AO.callS [(eU8 p0)] (eU8 t3) 8 rfl (by decide) ok95 rfl rfl rfl ⟨rfl, rfl, trivial⟩ (escape_letter_spec et3) ?_
  refine AO.calm rfl 5 rfl (by decide) (eU8 t3) (Calm.assign rfl rfl) ?_
  refine AO.nil (ρ' := [(0, (eU8 p0)), (1, (eStr p1)), (5, (eU8 t3))]) (H' := []) ⟨rfl, rfl, rfl, trivial⟩ (Sub.refl _) ?_
  refine AW.seq ?_
  refine AW.reg ?_
  refine AO.calm rfl 9 rfl (by decide) (eU8 t3) (Calm.move rfl rfl) ?_
  refine AO.calm rfl 10 rfl (by decide) (eBool (decide (t3 ≠ (0 : Int)))) (Calm.int rfl rfl rfl rfl) ?_
  refine AO.nil (ρ' := [(0, (eU8 p0)), (1, (eStr p1)), (5, (eU8 t3)), (10, (eBool (decide (t3 ≠ (0 : Int)))))]) (H' := []) ⟨rfl, rfl, rfl, rfl, trivial⟩ (Sub.refl _) ?_
  by_cases hc4 : t3 ≠ (0 : Int)
  · have h := (if_pos hc4).symm.trans h
    refine AW.condP (t3 ≠ (0 : Int)) rfl hc4 ?_
    refine AW.seq ?_
    refine AW.reg ?_
    refine AO.calm rfl 11 rfl (by decide) (eU8 t3) (Calm.move rfl rfl) ?_
    refine AO.lit (Z := (eU8 (0 : Int))) (xs := (([(92 : Int), t3] : List Int).map eU8)) (qs := [(0, (eU8 (92 : Int))), (1, (eU8 t3))]) rfl 12 rfl (by decide) rfl ⟨rfl, rfl, rfl, rfl, rfl, rfl, trivial⟩ Try.underlying84 sz5 zr5 lay5 rfl (by decide) (litOK (z := 1) [(eU8 (92 : Int)), (eU8 t3)] rfl ⟨⟨rfl, rfl⟩, ⟨rfl, rfl⟩, trivial⟩) rfl fun n5 => ?_
    refine AO.calm rfl 13 rfl (by decide) (eStr (strOfNums ([(92 : Int), t3] : List Int))) (Calm.strO 0 rfl rfl rfl Try.underlying84 Try.underlying9 Try.underlying5) ?_
    refine AO.calm rfl 4 rfl (by decide) (eStr (strOfNums ([(92 : Int), t3] : List Int))) (Calm.assign rfl rfl) ?_
    refine AO.nil (ρ' := [(4, (eStr (strOfNums ([(92 : Int), t3] : List Int))))]) (H' := []) ⟨rfl, trivial⟩ (Sub.nil _) ?_
    refine AW.ret (ρ' := [(4, (eStr (strOfNums ([(92 : Int), t3] : List Int))))]) (H' := []) ⟨rfl, trivial⟩ (Sub.refl _) ?_
    have hr := Option.some.inj h
    subst hr
    exact ⟨[(eStr (strOfNums ([(92 : Int), t3] : List Int)))], ⟨rfl, rfl, trivial⟩, rfl⟩
  · have h := (if_neg hc4).symm.trans h
    refine AW.condN (t3 ≠ (0 : Int)) rfl hc4 ?_
    refine AW.skip (ρ' := [(0, (eU8 p0)), (1, (eStr p1))]) (H' := []) ⟨rfl, rfl, trivial⟩ (Sub.refl _) ?_
    refine AW.seq ?_
    refine AW.seq ?_
    obtain ⟨b6, hq7, h⟩ := of_bind h
    refine AW.regM [(0, (eU8 p0)), (1, (eStr p1)), (19, (eBool b6))] [] ?_ ?_
    · refine AO.calm rfl 14 rfl (by decide) (eU8 p0) (Calm.move rfl rfl) ?_
      refine AO.calm rfl 15 rfl (by decide) (eBool (decide (p0 < (32 : Int)))) (Calm.int rfl rfl rfl rfl) ?_
      refine AO.calm rfl 16 rfl (by decide) (eBool (decide (p0 < (32 : Int)))) (Calm.move rfl rfl) ?_
      by_cases hc8 : p0 < (32 : Int)
      · have hq7 := (if_pos hc8).symm.trans hq7
        refine AO.skipG 2 true 16 rfl rfl (congrArg (fun b => some (AV.fl (Value.bool b))) (decide_eq_true hc8)) 17 rfl (by decide) ?_
        refine AO.skipG 2 true 16 rfl rfl (congrArg (fun b => some (AV.fl (Value.bool b))) (decide_eq_true hc8)) 18 rfl (by decide) ?_
        refine AO.calm rfl 19 rfl (by decide) (eBool true) (Calm.pickT rfl (congrArg (fun b => some (AV.fl (Value.bool b))) (decide_eq_true hc8)) rfl) ?_
        cases hq7
        refine AO.nilE ⟨rfl, rfl⟩ ?_ ?_
        · exact ⟨rfl, rfl, rfl, trivial⟩
        · exact (Sub.refl _)
      · have hq7 := (if_neg hc8).symm.trans hq7
        refine AO.calmG 2 false 16 rfl rfl (congrArg (fun b => some (AV.fl (Value.bool b))) (decide_eq_false hc8)) 17 rfl (by decide) (eU8 p0) (Calm.move rfl rfl) ?_
        refine AO.calmG 2 false 16 rfl rfl (congrArg (fun b => some (AV.fl (Value.bool b))) (decide_eq_false hc8)) 18 rfl (by decide) (eBool (decide ((126 : Int) < p0))) (Calm.int rfl rfl rfl rfl) ?_
        refine AO.calm rfl 19 rfl (by decide) (eBool (decide ((126 : Int) < p0))) (Calm.pickF rfl (congrArg (fun b => some (AV.fl (Value.bool b))) (decide_eq_false hc8)) rfl) ?_
        cases hq7
        refine AO.nilE ⟨rfl, rfl⟩ ?_ ?_
        · exact ⟨rfl, rfl, rfl, trivial⟩
        · exact (Sub.refl _)
    · by_cases hc9 : b6 = true
      · have h := (if_pos hc9).symm.trans h
        refine AW.condT' b6 rfl hc9 ?_
        refine AW.seq ?_
        refine AW.reg ?_
        refine AO.calm rfl 20 rfl (by decide) (eU8 p0) (Calm.move rfl rfl) ?_
        refine AO.calm rfl 21 rfl (by decide) (eU8 (Int.fdiv p0 (2 ^ (min (4 : Int).toNat IntKind.u8.bits)))) (Calm.shr rfl rfl rfl (by decide)) ?_
        obtain ⟨t10, et10, h⟩ := of_bind h
        refine AO.callS [(eU8 (Int.fdiv p0 (2 ^ (min (4 : Int).toNat IntKind.u8.bits))))] (eU8 t10) 22 rfl (by decide) ok96 rfl rfl rfl ⟨rfl, rfl, trivial⟩ (escape_digit_spec et10) ?_
        refine AO.calm rfl 23 rfl (by decide) (eU8 p0) (Calm.move rfl rfl) ?_
        refine AO.calm rfl 24 rfl (by decide) (eU8 (bits .and .u8 p0 (15 : Int))) (Calm.int rfl rfl rfl rfl) ?_
        obtain ⟨t11, et11, h⟩ := of_bind h
        refine AO.callS [(eU8 (bits .and .u8 p0 (15 : Int)))] (eU8 t11) 25 rfl (by decide) ok96 rfl rfl rfl ⟨rfl, rfl, trivial⟩ (escape_digit_spec et11) ?_
        refine AO.lit (Z := (eU8 (0 : Int))) (xs := (([(92 : Int), (120 : Int), t10, t11] : List Int).map eU8)) (qs := [(0, (eU8 (92 : Int))), (1, (eU8 (120 : Int))), (2, (eU8 t10)), (3, (eU8 t11))]) rfl 26 rfl (by decide) rfl ⟨rfl, rfl, rfl, rfl, rfl, rfl, rfl, rfl, rfl, rfl, rfl, rfl, trivial⟩ Try.underlying84 sz5 zr5 lay5 rfl (by decide) (litOK (z := 1) [(eU8 (92 : Int)), (eU8 (120 : Int)), (eU8 t10), (eU8 t11)] rfl ⟨⟨rfl, rfl⟩, ⟨rfl, rfl⟩, ⟨rfl, rfl⟩, ⟨rfl, rfl⟩, trivial⟩) rfl fun n12 => ?_
        refine AO.calm rfl 27 rfl (by decide) (eStr (strOfNums ([(92 : Int), (120 : Int), t10, t11] : List Int))) (Calm.strO 0 rfl rfl rfl Try.underlying84 Try.underlying9 Try.underlying5) ?_
        refine AO.calm rfl 4 rfl (by decide) (eStr (strOfNums ([(92 : Int), (120 : Int), t10, t11] : List Int))) (Calm.assign rfl rfl) ?_
        refine AO.nil (ρ' := [(4, (eStr (strOfNums ([(92 : Int), (120 : Int), t10, t11] : List Int))))]) (H' := []) ⟨rfl, trivial⟩ (Sub.nil _) ?_
        refine AW.ret (ρ' := [(4, (eStr (strOfNums ([(92 : Int), (120 : Int), t10, t11] : List Int))))]) (H' := []) ⟨rfl, trivial⟩ (Sub.refl _) ?_
        have hr := Option.some.inj h
        subst hr
        exact ⟨[(eStr (strOfNums ([(92 : Int), (120 : Int), t10, t11] : List Int)))], ⟨rfl, rfl, trivial⟩, rfl⟩
      · have h := (if_neg hc9).symm.trans h
        refine AW.condF' b6 rfl hc9 ?_
        refine AW.skip (ρ' := [(0, (eU8 p0)), (1, (eStr p1))]) (H' := []) ⟨rfl, rfl, trivial⟩ (Sub.refl _) ?_
        refine AW.seq ?_
        refine AW.seq ?_
        refine AW.reg ?_
        refine AO.calm rfl 28 rfl (by decide) (eU8 p0) (Calm.move rfl rfl) ?_
        refine AO.calm rfl 29 rfl (by decide) (eBool (decide (p0 = (92 : Int)))) (Calm.int rfl rfl rfl rfl) ?_
        refine AO.nil (ρ' := [(0, (eU8 p0)), (1, (eStr p1)), (29, (eBool (decide (p0 = (92 : Int)))))]) (H' := []) ⟨rfl, rfl, rfl, trivial⟩ (Sub.refl _) ?_
        by_cases hc13 : p0 = (92 : Int)
        · have h := (if_pos hc13).symm.trans h
          refine AW.condP (p0 = (92 : Int)) rfl hc13 ?_
          refine AW.seq ?_
          refine AW.reg ?_
          refine AO.calm rfl 4 rfl (by decide) (eStr (ByteArray.mk #[92, 92])) (Calm.assign rfl rfl) ?_
          refine AO.nil (ρ' := [(4, (eStr (ByteArray.mk #[92, 92])))]) (H' := []) ⟨rfl, trivial⟩ (Sub.refl _) ?_
          refine AW.ret (ρ' := [(4, (eStr (ByteArray.mk #[92, 92])))]) (H' := []) ⟨rfl, trivial⟩ (Sub.refl _) ?_
          have hr := Option.some.inj h
          subst hr
          exact ⟨[(eStr (ByteArray.mk #[92, 92]))], ⟨rfl, rfl, trivial⟩, rfl⟩
        · have h := (if_neg hc13).symm.trans h
          refine AW.condN (p0 = (92 : Int)) rfl hc13 ?_
          refine AW.skip (ρ' := [(0, (eU8 p0)), (1, (eStr p1))]) (H' := []) ⟨rfl, rfl, trivial⟩ (Sub.refl _) ?_
          refine AW.seq_mid (fun ρ H => ρ = [(0, (eU8 p0))] ∧ H = [] ∧ escape_Byte_c0 k p0 = some r) ?_ ?_
          · refine AW.seq ?_
            refine AW.reg ?_
            refine AO.calm rfl 30 rfl (by decide) (eStr p1) (Calm.move rfl rfl) ?_
            refine AO.calm rfl 31 rfl (by decide) (eI64 (p1.size : Int)) (Calm.lenStr rfl rfl Try.underlying9) ?_
            refine AO.calm rfl 32 rfl (by decide) (eI64 (0 : Int)) (Calm.move rfl rfl) ?_
            refine AO.nil (ρ' := [(0, (eU8 p0)), (1, (eStr p1)), (31, (eI64 (p1.size : Int))), (32, (eI64 (0 : Int)))]) (H' := []) ⟨rfl, rfl, rfl, rfl, trivial⟩ (Sub.refl _) ?_
            refine AW.block ?_
            refine AW.weak (ρ' := [(0, (eU8 p0)), (1, (eStr p1)), (31, (eI64 (p1.size : Int))), (32, (eI64 (0 : Int)))]) (H' := []) ⟨rfl, rfl, rfl, rfl, trivial⟩ (Sub.refl _) ?_
            refine AW.loop (fun kq ρ H => ∃ (x15 : Int), ρ = [(0, (eU8 p0)), (1, (eStr p1)), (31, (eI64 (p1.size : Int))), (32, (eI64 x15))] ∧ H = [] ∧ escape_Byte_l1 k p0 p1 kq x15 = some r) k ⟨(0 : Int), rfl, rfl, h⟩ ?_
            rintro kq17 _ _ ⟨x15, rfl, rfl, h⟩
            cases kq17 with
            | zero => rw [escape_Byte_l1.eq_1] at h; cases h
            | succ kq17 =>
            rw [escape_Byte_l1.eq_2] at h
            generalize hrec16 : escape_Byte_l1 k p0 p1 kq17 = rec16 at h
            refine AW.seq ?_
            refine AW.reg ?_
            refine AO.calm rfl 33 rfl (by decide) (eBool (decide (x15 < (p1.size : Int)))) (Calm.int rfl rfl rfl rfl) ?_
            refine AO.nil (ρ' := [(0, (eU8 p0)), (1, (eStr p1)), (31, (eI64 (p1.size : Int))), (32, (eI64 x15)), (33, (eBool (decide (x15 < (p1.size : Int)))))]) (H' := []) ⟨rfl, rfl, rfl, rfl, rfl, trivial⟩ (Sub.refl _) ?_
            refine AW.seq ?_
            by_cases hc18 : x15 < (p1.size : Int)
            · have h := (if_pos hc18).symm.trans h
              refine AW.condP (x15 < (p1.size : Int)) rfl hc18 ?_
              refine AW.skip (ρ' := [(0, (eU8 p0)), (1, (eStr p1)), (31, (eI64 (p1.size : Int))), (32, (eI64 x15))]) (H' := []) ⟨rfl, rfl, rfl, rfl, trivial⟩ (Sub.refl _) ?_
              refine AW.seq ?_
              refine AW.block ?_
              refine AW.seq ?_
              refine AW.reg ?_
              refine AO.calm rfl 34 rfl (by decide) (eI64 x15) (Calm.move rfl rfl) ?_
              refine AO.calm rfl 6 rfl (by decide) (eI64 x15) (Calm.assign rfl rfl) ?_
              refine AO.nil (ρ' := [(0, (eU8 p0)), (1, (eStr p1)), (6, (eI64 x15)), (31, (eI64 (p1.size : Int))), (32, (eI64 x15))]) (H' := []) ⟨rfl, rfl, rfl, rfl, rfl, trivial⟩ (Sub.refl _) ?_
              refine AW.seq ?_
              refine AW.reg ?_
              refine AO.calm rfl 35 rfl (by decide) (eStr p1) (Calm.move rfl rfl) ?_
              refine AO.calm rfl 36 rfl (by decide) (eI64 x15) (Calm.move rfl rfl) ?_
              obtain ⟨hg19, h⟩ := of_guard h
              refine AO.calm rfl 37 rfl (by decide) (eU8 (byteAt p1 x15)) (Calm.idxS rfl rfl rfl hg19 Try.underlying9) ?_
              refine AO.calm rfl 38 rfl (by decide) (eU8 p0) (Calm.move rfl rfl) ?_
              refine AO.calm rfl 39 rfl (by decide) (eBool (decide ((byteAt p1 x15) = p0))) (Calm.int rfl rfl rfl rfl) ?_
              refine AO.nil (ρ' := [(0, (eU8 p0)), (1, (eStr p1)), (31, (eI64 (p1.size : Int))), (32, (eI64 x15)), (39, (eBool (decide ((byteAt p1 x15) = p0))))]) (H' := []) ⟨rfl, rfl, rfl, rfl, rfl, trivial⟩ (Sub.refl _) ?_
              by_cases hc20 : (byteAt p1 x15) = p0
              · have h := (if_pos hc20).symm.trans h
                refine AW.condP ((byteAt p1 x15) = p0) rfl hc20 ?_
                refine AW.seq ?_
                refine AW.reg ?_
                refine AO.calm rfl 40 rfl (by decide) (eU8 p0) (Calm.move rfl rfl) ?_
                refine AO.lit (Z := (eU8 (0 : Int))) (xs := (([(92 : Int), p0] : List Int).map eU8)) (qs := [(0, (eU8 (92 : Int))), (1, (eU8 p0))]) rfl 41 rfl (by decide) rfl ⟨rfl, rfl, rfl, rfl, rfl, rfl, trivial⟩ Try.underlying84 sz5 zr5 lay5 rfl (by decide) (litOK (z := 1) [(eU8 (92 : Int)), (eU8 p0)] rfl ⟨⟨rfl, rfl⟩, ⟨rfl, rfl⟩, trivial⟩) rfl fun n21 => ?_
                refine AO.calm rfl 42 rfl (by decide) (eStr (strOfNums ([(92 : Int), p0] : List Int))) (Calm.strO 0 rfl rfl rfl Try.underlying84 Try.underlying9 Try.underlying5) ?_
                refine AO.calm rfl 4 rfl (by decide) (eStr (strOfNums ([(92 : Int), p0] : List Int))) (Calm.assign rfl rfl) ?_
                refine AO.nil (ρ' := [(4, (eStr (strOfNums ([(92 : Int), p0] : List Int))))]) (H' := []) ⟨rfl, trivial⟩ (Sub.nil _) ?_
                refine AW.ret (ρ' := [(4, (eStr (strOfNums ([(92 : Int), p0] : List Int))))]) (H' := []) ⟨rfl, trivial⟩ (Sub.refl _) ?_
                have hr := Option.some.inj h
                subst hr
                exact ⟨[(eStr (strOfNums ([(92 : Int), p0] : List Int)))], ⟨rfl, rfl, trivial⟩, rfl⟩
              · have h := (if_neg hc20).symm.trans h
                refine AW.condN ((byteAt p1 x15) = p0) rfl hc20 ?_
                refine AW.skip (ρ' := [(0, (eU8 p0)), (1, (eStr p1)), (31, (eI64 (p1.size : Int))), (32, (eI64 x15))]) (H' := []) ⟨rfl, rfl, rfl, rfl, trivial⟩ (Sub.refl _) ?_
                refine AW.reg ?_
                refine AO.calm rfl 43 rfl (by decide) (eI64 (w64 (x15 + (1 : Int)))) (Calm.int rfl rfl rfl rfl) ?_
                refine AO.calm rfl 32 rfl (by decide) (eI64 (w64 (x15 + (1 : Int)))) (Calm.move rfl rfl) ?_
                refine AO.nil (ρ' := [(0, (eU8 p0)), (1, (eStr p1)), (31, (eI64 (p1.size : Int))), (32, (eI64 (w64 (x15 + (1 : Int)))))]) (H' := []) ⟨rfl, rfl, rfl, rfl, trivial⟩ (Sub.refl _) ?_
                exact ⟨kq17, Nat.lt_succ_self _, (w64 (x15 + (1 : Int))), rfl, rfl, by rw [hrec16]; exact h⟩
            · have h := (if_neg hc18).symm.trans h
              refine AW.condN (x15 < (p1.size : Int)) rfl hc18 ?_
              refine AW.exit (ρ' := [(0, (eU8 p0))]) (H' := []) ⟨rfl, trivial⟩ (Sub.refl _) ?_
              exact ⟨rfl, rfl, h⟩
          · rintro _ _ ⟨rfl, rfl, h⟩
            rw [escape_Byte_c0.eq_1] at h
            refine AW.seq ?_
            refine AW.reg ?_
            refine AO.calm rfl 44 rfl (by decide) (eU8 p0) (Calm.move rfl rfl) ?_
            refine AO.lit (Z := (eU8 (0 : Int))) (xs := (([p0] : List Int).map eU8)) (qs := [(0, (eU8 p0))]) rfl 45 rfl (by decide) rfl ⟨rfl, rfl, rfl, trivial⟩ Try.underlying84 sz5 zr5 lay5 rfl (by decide) (litOK (z := 1) [(eU8 p0)] rfl ⟨⟨rfl, rfl⟩, trivial⟩) rfl fun n14 => ?_
            refine AO.calm rfl 46 rfl (by decide) (eStr (strOfNums ([p0] : List Int))) (Calm.strO 0 rfl rfl rfl Try.underlying84 Try.underlying9 Try.underlying5) ?_
            refine AO.calm rfl 4 rfl (by decide) (eStr (strOfNums ([p0] : List Int))) (Calm.assign rfl rfl) ?_
            refine AO.nil (ρ' := [(4, (eStr (strOfNums ([p0] : List Int))))]) (H' := []) ⟨rfl, trivial⟩ (Sub.nil _) ?_
            refine AW.ret (ρ' := [(4, (eStr (strOfNums ([p0] : List Int))))]) (H' := []) ⟨rfl, trivial⟩ (Sub.refl _) ?_
            have hr := Option.some.inj h
            subst hr
            exact ⟨[(eStr (strOfNums ([p0] : List Int)))], ⟨rfl, rfl, trivial⟩, rfl⟩
end Go.Avl.T2
/- bosket/escape.Quote; printed by avmain.py. -/
namespace Go.Avl.T2
open Go Go.RowKit Go.Proofs Go.Avl
set_option linter.unusedVariables false
set_option maxRecDepth 100000
set_option maxHeartbeats 4000000
attribute [local irreducible] AW AO AQ Spec SpecH Calm

def escape_Quote_c0 (k : Nat) (p1 : Int) (x4 : ByteArray) : Option ByteArray :=
  if x4.size + (strOfNums ([p1] : List Int)).size ≤ 9223372036854775807 then some ((x4 ++ (strOfNums ([p1] : List Int))))
  else none
def escape_Quote_l1 (k : Nat) (p0 : ByteArray) (p1 : Int) : Nat → ByteArray → Int → Option ByteArray
  | 0, _, _ => none
  | j + 1, x7, x8 =>
    if x8 < (p0.size : Int) then if 0 ≤ x8 ∧ x8 < (p0.size : Int) then (escape_Byte k (byteAt p0 x8) (strOfNums ([p1] : List Int))).bind fun t14 =>
    if x7.size + t14.size ≤ 9223372036854775807 then (escape_Quote_l1 k p0 p1 j) (x7 ++ t14) (w64 (x8 + (1 : Int)))
    else none
    else none
    else escape_Quote_c0 k p1 x7
def escape_Quote (k : Nat) (p0 : ByteArray) (p1 : Int) : Option ByteArray :=
  escape_Quote_l1 k p0 p1 k (strOfNums ([p1] : List Int)) (0 : Int)
theorem escape_Quote_spec {k : Nat} {p0 : ByteArray} {p1 : Int} {r : ByteArray} (h : escape_Quote k p0 p1 = some r) : Spec Try.prog 60 [(eStr p0), (eU8 p1)] (eStr r) := by
  rw [escape_Quote.eq_1] at h
  refine Spec.intro (res := [.tmp 4]) Try.func60 rfl rfl rfl (Nat.le_of_ble_eq_true rfl) ?_
  refine AW.seq ?_
  refine AW.reg ?_
  refine AO.calm rfl 4 rfl (by decide) (eStr (ByteArray.mk #[])) (Calm.assign rfl rfl) ?_
  refine AO.nil (ρ' := [(0, (eStr p0)), (1, (eU8 p1))]) (H' := []) ⟨rfl, rfl, trivial⟩ (Sub.refl _) ?_
  refine AW.seq ?_
  refine AW.reg ?_
  refine AO.calm rfl 7 rfl (by decide) (eU8 p1) (Calm.move rfl rfl) ?_
  refine AO.lit (Z := (eU8 (0 : Int))) (xs := (([p1] : List Int).map eU8)) (qs := [(0, (eU8 p1))]) rfl 8 rfl (by decide) rfl ⟨rfl, rfl, rfl, trivial⟩ Try.underlying84 sz5 zr5 lay5 rfl (by decide) (litOK (z := 1) [(eU8 p1)] rfl ⟨⟨rfl, rfl⟩, trivial⟩) rfl fun n3 => ?_
  refine AO.calm rfl 9 rfl (by decide) (eStr (strOfNums ([p1] : List Int))) (Calm.strO 0 rfl rfl rfl Try.underlying84 Try.underlying9 Try.underlying5) ?_
  refine AO.calm rfl 5 rfl (by decide) (eStr (strOfNums ([p1] : List Int))) (Calm.assign rfl rfl) ?_
  refine AO.nil (ρ' := [(0, (eStr p0)), (1, (eU8 p1)), (5, (eStr (strOfNums ([p1] : List Int))))]) (H' := []) ⟨rfl, rfl, rfl, trivial⟩ (Sub.nil _) ?_
  refine AW.seq_mid (fun ρ H => ∃ (x4 : ByteArray), ρ = [(1, (eU8 p1)), (5, (eStr x4))] ∧ H = [] ∧ escape_Quote_c0 k p1 x4 = some r) ?_ ?_
  · refine AW.seq ?_
    refine AW.reg ?_
    refine AO.calm rfl 10 rfl (by decide) (eStr p0) (Calm.move rfl rfl) ?_
    refine AO.calm rfl 11 rfl (by decide) (eI64 (p0.size : Int)) (Calm.lenStr rfl rfl Try.underlying9) ?_
    refine AO.calm rfl 12 rfl (by decide) (eI64 (0 : Int)) (Calm.move rfl rfl) ?_
    refine AO.nil (ρ' := [(0, (eStr p0)), (1, (eU8 p1)), (5, (eStr (strOfNums ([p1] : List Int)))), (11, (eI64 (p0.size : Int))), (12, (eI64 (0 : Int)))]) (H' := []) ⟨rfl, rfl, rfl, rfl, rfl, trivial⟩ (Sub.refl _) ?_
    refine AW.block ?_
    refine AW.weak (ρ' := [(0, (eStr p0)), (1, (eU8 p1)), (5, (eStr (strOfNums ([p1] : List Int)))), (11, (eI64 (p0.size : Int))), (12, (eI64 (0 : Int)))]) (H' := []) ⟨rfl, rfl, rfl, rfl, rfl, trivial⟩ (Sub.refl _) ?_
    refine AW.loop (fun kq ρ H => ∃ (x7 : ByteArray) (x8 : Int), ρ = [(0, (eStr p0)), (1, (eU8 p1)), (5, (eStr x7)), (11, (eI64 (p0.size : Int))), (12, (eI64 x8))] ∧ H = [] ∧ escape_Quote_l1 k p0 p1 kq x7 x8 = some r) k ⟨(strOfNums ([p1] : List Int)), (0 : Int), rfl, rfl, h⟩ ?_
    rintro kq10 _ _ ⟨x7, x8, rfl, rfl, h⟩
    cases kq10 with
    | zero => rw [escape_Quote_l1.eq_1] at h; cases h
    | succ kq10 =>
    rw [escape_Quote_l1.eq_2] at h
    generalize hrec9 : escape_Quote_l1 k p0 p1 kq10 = rec9 at h
    refine AW.seq ?_
    refine AW.reg ?_
    refine AO.calm rfl 13 rfl (by decide) (eBool (decide (x8 < (p0.size : Int)))) (Calm.int rfl rfl rfl rfl) ?_
    refine AO.nil (ρ' := [(0, (eStr p0)), (1, (eU8 p1)), (5, (eStr x7)), (11, (eI64 (p0.size : Int))), (12, (eI64 x8)), (13, (eBool (decide (x8 < (p0.size : Int)))))]) (H' := []) ⟨rfl, rfl, rfl, rfl, rfl, rfl, trivial⟩ (Sub.refl _) ?_
    refine AW.seq ?_
    by_cases hc11 : x8 < (p0.size : Int)
    · have h := (if_pos hc11).symm.trans h
      refine AW.condP (x8 < (p0.size : Int)) rfl hc11 ?_
      refine AW.skip (ρ' := [(0, (eStr p0)), (1, (eU8 p1)), (5, (eStr x7)), (11, (eI64 (p0.size : Int))), (12, (eI64 x8))]) (H' := []) ⟨rfl, rfl, rfl, rfl, rfl, trivial⟩ (Sub.refl _) ?_
      refine AW.seq ?_
      refine AW.block ?_
      refine AW.seq ?_
      refine AW.reg ?_
      refine AO.calm rfl 14 rfl (by decide) (eI64 x8) (Calm.move rfl rfl) ?_
      refine AO.calm rfl 6 rfl (by decide) (eI64 x8) (Calm.assign rfl rfl) ?_
      refine AO.nil (ρ' := [(0, (eStr p0)), (1, (eU8 p1)), (5, (eStr x7)), (6, (eI64 x8)), (11, (eI64 (p0.size : Int))), (12, (eI64 x8))]) (H' := []) ⟨rfl, rfl, rfl, rfl, rfl, rfl, trivial⟩ (Sub.refl _) ?_
      obtain ⟨hg12, h⟩ := of_guard h
      obtain ⟨t14, et14, h⟩ := of_bind h
      obtain ⟨hg15, h⟩ := of_guard h
      refine AW.regAny (by rfl) (by decide +kernel) [(eStr x7), (eStr p0), (eI64 x8), (eU8 (byteAt p0 x8)), (eU8 p1), (.fz 1 (([p1] : List Int).map eU8)), (eStr (strOfNums ([p1] : List Int))), (eStr t14), (eStr (x7 ++ t14)), (eStr (x7 ++ t14))] [(0, (eStr p0)), (1, (eU8 p1)), (5, (eStr x7)), (6, (eI64 x8)), (11, (eI64 (p0.size : Int))), (12, (eI64 x8))] ⟨rfl, rfl, rfl, rfl, rfl, rfl, trivial⟩ rfl ?_ [(0, (eStr p0)), (1, (eU8 p1)), (5, (eStr (x7 ++ t14))), (11, (eI64 (p0.size : Int))), (12, (eI64 x8))] [] ⟨rfl, rfl, rfl, rfl, rfl, trivial⟩ (Sub.refl _) ?_
      · refine ⟨?_, ?_, ?_, ?_, ?_, ?_, ?_, ?_, ?_, ?_, trivial⟩
        · refine AO.weak (ρ' := [(5, (eStr x7))]) (H' := []) ⟨rfl, trivial⟩ (Sub.refl _) ?_
          refine AO.calm rfl 15 rfl (by decide) (eStr x7) (Calm.move rfl rfl) ?_
          exact AO.nilE (ρ' := [(15, (eStr x7))]) (H' := []) ⟨⟨_, rfl, rfl⟩, Sub.refl _⟩ ⟨rfl, trivial⟩ (Sub.refl _)
        · refine AO.weak (ρ' := [(0, (eStr p0))]) (H' := []) ⟨rfl, trivial⟩ (Sub.refl _) ?_
          refine AO.calm rfl 16 rfl (by decide) (eStr p0) (Calm.move rfl rfl) ?_
          exact AO.nilE (ρ' := [(16, (eStr p0))]) (H' := []) ⟨⟨_, rfl, rfl⟩, Sub.refl _⟩ ⟨rfl, trivial⟩ (Sub.refl _)
        · refine AO.weak (ρ' := [(6, (eI64 x8))]) (H' := []) ⟨rfl, trivial⟩ (Sub.refl _) ?_
          refine AO.calm rfl 17 rfl (by decide) (eI64 x8) (Calm.move rfl rfl) ?_
          exact AO.nilE (ρ' := [(17, (eI64 x8))]) (H' := []) ⟨⟨_, rfl, rfl⟩, Sub.refl _⟩ ⟨rfl, trivial⟩ (Sub.refl _)
        · refine AO.weak (ρ' := [(16, (eStr p0)), (17, (eI64 x8))]) (H' := []) ⟨rfl, rfl, trivial⟩ (Sub.refl _) ?_
          refine AO.calm rfl 18 rfl (by decide) (eU8 (byteAt p0 x8)) (Calm.idxS rfl rfl rfl hg12 Try.underlying9) ?_
          exact AO.nilE (ρ' := [(18, (eU8 (byteAt p0 x8)))]) (H' := []) ⟨⟨_, rfl, rfl⟩, Sub.refl _⟩ ⟨rfl, trivial⟩ (Sub.refl _)
        · refine AO.weak (ρ' := [(1, (eU8 p1))]) (H' := []) ⟨rfl, trivial⟩ (Sub.refl _) ?_
          refine AO.calm rfl 19 rfl (by decide) (eU8 p1) (Calm.move rfl rfl) ?_
          exact AO.nilE (ρ' := [(19, (eU8 p1))]) (H' := []) ⟨⟨_, rfl, rfl⟩, Sub.refl _⟩ ⟨rfl, trivial⟩ (Sub.refl _)
        · refine AO.weak (ρ' := [(19, (eU8 p1))]) (H' := []) ⟨rfl, trivial⟩ (Sub.refl _) ?_
          refine AO.lit (Z := (eU8 (0 : Int))) (xs := (([p1] : List Int).map eU8)) (qs := [(0, (eU8 p1))]) rfl 20 rfl (by decide) rfl ⟨rfl, rfl, rfl, trivial⟩ Try.underlying84 sz5 zr5 lay5 rfl (by decide) (litOK (z := 1) [(eU8 p1)] rfl ⟨⟨rfl, rfl⟩, trivial⟩) rfl fun n13 => ?_
          refine AO.freezeS 0 [(20, (.fz 1 (([p1] : List Int).map eU8)))] rfl ⟨fz_all rfl, trivial⟩ ?_
          exact AO.nilE (ρ' := [(20, (.fz 1 (([p1] : List Int).map eU8)))]) (H' := []) ⟨⟨_, rfl, rfl⟩, Sub.refl _⟩ ⟨rfl, trivial⟩ (Sub.refl _)
        · refine AO.weak (ρ' := [(20, (.fz 1 (([p1] : List Int).map eU8)))]) (H' := []) ⟨rfl, trivial⟩ (Sub.refl _) ?_
          refine AO.calm rfl 21 rfl (by decide) (eStr (strOfNums ([p1] : List Int))) (Calm.strL rfl rfl Try.underlying84 Try.underlying9 Try.underlying5) ?_
          exact AO.nilE (ρ' := [(21, (eStr (strOfNums ([p1] : List Int))))]) (H' := []) ⟨⟨_, rfl, rfl⟩, Sub.refl _⟩ ⟨rfl, trivial⟩ (Sub.refl _)
        · refine AO.weak (ρ' := [(18, (eU8 (byteAt p0 x8))), (21, (eStr (strOfNums ([p1] : List Int))))]) (H' := []) ⟨rfl, rfl, trivial⟩ (Sub.refl _) ?_
          refine AO.callS [(eU8 (byteAt p0 x8)), (eStr (strOfNums ([p1] : List Int)))] (eStr t14) 22 rfl (by decide) ok81 rfl rfl rfl ⟨rfl, rfl, rfl, rfl, trivial⟩ (escape_Byte_spec et14) ?_
          exact AO.nilE (ρ' := [(22, (eStr t14))]) (H' := []) ⟨⟨_, rfl, rfl⟩, Sub.refl _⟩ ⟨rfl, trivial⟩ (Sub.refl _)
        · refine AO.weak (ρ' := [(15, (eStr x7)), (22, (eStr t14))]) (H' := []) ⟨rfl, rfl, trivial⟩ (Sub.refl _) ?_
          refine AO.calm rfl 23 rfl (by decide) (eStr (x7 ++ t14)) (Calm.cat rfl rfl rfl hg15) ?_
          exact AO.nilE (ρ' := [(23, (eStr (x7 ++ t14)))]) (H' := []) ⟨⟨_, rfl, rfl⟩, Sub.refl _⟩ ⟨rfl, trivial⟩ (Sub.refl _)
        · refine AO.weak (ρ' := [(23, (eStr (x7 ++ t14)))]) (H' := []) ⟨rfl, trivial⟩ (Sub.refl _) ?_
          refine AO.calm rfl 5 rfl (by decide) (eStr (x7 ++ t14)) (Calm.assign rfl rfl) ?_
          exact AO.nilE (ρ' := [(5, (eStr (x7 ++ t14)))]) (H' := []) ⟨⟨_, rfl, rfl⟩, Sub.refl _⟩ ⟨rfl, trivial⟩ (Sub.refl _)
      · refine AW.reg ?_
        refine AO.calm rfl 24 rfl (by decide) (eI64 (w64 (x8 + (1 : Int)))) (Calm.int rfl rfl rfl rfl) ?_
        refine AO.calm rfl 12 rfl (by decide) (eI64 (w64 (x8 + (1 : Int)))) (Calm.move rfl rfl) ?_
        refine AO.nil (ρ' := [(0, (eStr p0)), (1, (eU8 p1)), (5, (eStr (x7 ++ t14))), (11, (eI64 (p0.size : Int))), (12, (eI64 (w64 (x8 + (1 : Int)))))]) (H' := []) ⟨rfl, rfl, rfl, rfl, rfl, trivial⟩ (Sub.refl _) ?_
        exact ⟨kq10, Nat.lt_succ_self _, (x7 ++ t14), (w64 (x8 + (1 : Int))), rfl, rfl, by rw [hrec9]; exact h⟩
    · have h := (if_neg hc11).symm.trans h
      refine AW.condN (x8 < (p0.size : Int)) rfl hc11 ?_
      refine AW.exit (ρ' := [(1, (eU8 p1)), (5, (eStr x7))]) (H' := []) ⟨rfl, rfl, trivial⟩ (Sub.refl _) ?_
      exact ⟨x7, rfl, rfl, h⟩
  · rintro _ _ ⟨x4, rfl, rfl, h⟩
    rw [escape_Quote_c0.eq_1] at h
    refine AW.seq ?_
    refine AW.reg ?_
    refine AO.calm rfl 25 rfl (by decide) (eStr x4) (Calm.move rfl rfl) ?_
    refine AO.calm rfl 26 rfl (by decide) (eU8 p1) (Calm.move rfl rfl) ?_
    refine AO.lit (Z := (eU8 (0 : Int))) (xs := (([p1] : List Int).map eU8)) (qs := [(0, (eU8 p1))]) rfl 27 rfl (by decide) rfl ⟨rfl, rfl, rfl, trivial⟩ Try.underlying84 sz5 zr5 lay5 rfl (by decide) (litOK (z := 1) [(eU8 p1)] rfl ⟨⟨rfl, rfl⟩, trivial⟩) rfl fun n5 => ?_
    refine AO.calm rfl 28 rfl (by decide) (eStr (strOfNums ([p1] : List Int))) (Calm.strO 0 rfl rfl rfl Try.underlying84 Try.underlying9 Try.underlying5) ?_
    obtain ⟨hg6, h⟩ := of_guard h
    refine AO.calm rfl 29 rfl (by decide) (eStr (x4 ++ (strOfNums ([p1] : List Int)))) (Calm.cat rfl rfl rfl hg6) ?_
    refine AO.calm rfl 4 rfl (by decide) (eStr (x4 ++ (strOfNums ([p1] : List Int)))) (Calm.assign rfl rfl) ?_
    refine AO.nil (ρ' := [(4, (eStr (x4 ++ (strOfNums ([p1] : List Int)))))]) (H' := []) ⟨rfl, trivial⟩ (Sub.nil _) ?_
    refine AW.ret (ρ' := [(4, (eStr (x4 ++ (strOfNums ([p1] : List Int)))))]) (H' := []) ⟨rfl, trivial⟩ (Sub.refl _) ?_
    have hr := Option.some.inj h
    subst hr
    exact ⟨[(eStr (x4 ++ (strOfNums ([p1] : List Int))))], ⟨rfl, rfl, trivial⟩, rfl⟩
end Go.Avl.T2
/- slices.Clone[[]bosket/api.Node,bosket/api.Node]; printed by avmain.py. -/
namespace Go.Avl.T2
open Go Go.RowKit Go.Proofs Go.Avl
set_option linter.unusedVariables false
set_option maxRecDepth 100000
set_option maxHeartbeats 4000000
attribute [local irreducible] AW AO AQ Spec SpecH Calm

def slices_Clone_api_Node_api_Node_ (k : Nat) (p0 : (List S43)) : Option (List S43) :=
  if (([] : List S43) ++ p0).length * 40 ≤ 140737488355328 then some ((([] : List S43) ++ p0))
  else none
theorem slices_Clone_api_Node_api_Node__spec {k : Nat} {p0 : (List S43)} {r : (List S43)} (h : slices_Clone_api_Node_api_Node_ k p0 = some r) : Spec Try.prog 64 [(.fz 4 (p0.map e43))] (e37 r) := by
  rw [slices_Clone_api_Node_api_Node_.eq_1] at h
  refine Spec.intro (res := [.tmp 2]) Try.func64 rfl rfl rfl (Nat.le_of_ble_eq_true rfl) ?_
  refine AW.seq ?_
  refine AW.reg ?_
  refine AO.calm rfl 2 rfl (by decide) (.fl (.slice none 0 0)) (Calm.assign rfl rfl) ?_
  refine AO.nil (ρ' := [(0, (.fz 4 (p0.map e43)))]) (H' := []) ⟨rfl, trivial⟩ (Sub.refl _) ?_
  refine AW.seq ?_
  refine AW.seq ?_
  refine AW.reg ?_
  refine AO.calm rfl 3 rfl (by decide) (.fz 4 (p0.map e43)) (Calm.move rfl rfl) ?_
  refine AO.nilFz rfl 4 rfl (by decide) rfl rfl Try.underlying37 fun gb2 hgb2 => ?_
  refine AO.nil (ρ' := [(0, (.fz 4 (p0.map e43))), (4, (eBool gb2))]) (H' := []) ⟨rfl, rfl, trivial⟩ (Sub.refl _) ?_
  cases gb2
  · refine AW.condF rfl ?_
    refine AW.skip (ρ' := [(0, (.fz 4 (p0.map e43)))]) (H' := []) ⟨rfl, trivial⟩ (Sub.refl _) ?_
    refine AW.seq ?_
    refine AW.reg ?_
    refine AO.lit (Z := (.st [(1, (eBool false)), (1, (eI64 (0 : Int))), (1, (eI64 (0 : Int))), (1, (eStr ByteArray.empty))])) (xs := (([] : List S43).map e43)) (qs := []) rfl 5 rfl (by decide) rfl trivial Try.underlying37 sz43 zr43 lay43 rfl (by decide) (litOK (z := 4) [] rfl trivial) rfl fun n3 => ?_
    refine AO.calm rfl 6 rfl (by decide) (.fz 4 (p0.map e43)) (Calm.move rfl rfl) ?_
    obtain ⟨hg5, h⟩ := of_guard h
    refine AO.appendL (l := ([] : List S43)) (m := p0) 0 7 rfl (by decide) rfl rfl rfl rfl rfl Src.fz Try.underlying37 Try.underlying37 sz43 by43 zr43 rfl hg5 (by decide) fun n4 => ?_
    refine AO.calm rfl 2 rfl (by decide) (.own n4 0 (([] : List S43) ++ p0).length) (Calm.assign rfl rfl) ?_
    refine AO.nil (ρ' := [(2, (.own n4 0 (([] : List S43) ++ p0).length))]) (H' := [(n4, .mem (.ar 4 ((([] : List S43) ++ p0).map e43)))]) ⟨rfl, trivial⟩ (Sub.refl _) ?_
    refine AW.freezeS 0 [(2, (.fz 4 ((([] : List S43) ++ p0).map e43)))] rfl ⟨fz_all rfl, trivial⟩ ?_
    refine AW.ret (ρ' := [(2, (.fz 4 ((([] : List S43) ++ p0).map e43)))]) (H' := []) ⟨rfl, trivial⟩ (Sub.refl _) ?_
    have hr := Option.some.inj h
    subst hr
    exact ⟨[(.fz 4 ((([] : List S43) ++ p0).map e43))], ⟨rfl, rfl, trivial⟩, rfl⟩
  · have hn6 : p0 = [] := List.map_eq_nil_iff.1 (hgb2 rfl)
    have h : (some ([])) = some r := by simpa [hn6] using h
    refine AW.condT rfl ?_
    refine AW.seq ?_
    refine AW.reg ?_
    refine AO.calm rfl 2 rfl (by decide) (.fl (.slice none 0 0)) (Calm.assign rfl rfl) ?_
    refine AO.nil (ρ' := [(2, (.fl (.slice none 0 0)))]) (H' := []) ⟨rfl, trivial⟩ (Sub.refl _) ?_
    refine AW.coeC 2 (y' := (.fz 4 (([] : List S43).map e43))) rfl Coe.nil ?_
    refine AW.ret (ρ' := [(2, (.fz 4 (([] : List S43).map e43)))]) (H' := []) ⟨rfl, trivial⟩ (Sub.refl _) ?_
    have hr := Option.some.inj h
    subst hr
    exact ⟨[(.fz 4 (([] : List S43).map e43))], ⟨rfl, rfl, trivial⟩, rfl⟩
end Go.Avl.T2
/- bosket/ast.Kids; printed by avmain.py. -/
namespace Go.Avl.T2
open Go Go.RowKit Go.Proofs Go.Avl
set_option linter.unusedVariables false
set_option maxRecDepth 100000
set_option maxHeartbeats 4000000
attribute [local irreducible] AW AO AQ Spec SpecH Calm

def ast_Kids_c0 (k : Nat) (x5 : (List (List S43))) : Option (List (List S43)) :=
  some (x5)
def ast_Kids_l1 (k : Nat) (p0 : (List S43)) : Nat → (List (List S43)) → Int → Option (List (List S43))
  | 0, _, _ => none
  | j + 1, x7, x8 =>
    if x8 < (p0.length : Int) then (ast_Size k p0 x8).bind fun t12 =>
    if 0 ≤ x8 ∧ x8 ≤ (w64 (x8 + t12)) ∧ (w64 (x8 + t12)) ≤ (p0.length : Int) then (slices_Clone_api_Node_api_Node_ k (lcut p0 x8 (w64 (x8 + t12)))).bind fun t14 =>
    if (x7 ++ ([t14] : List (List S43))).length * 24 ≤ 140737488355328 then (ast_Kids_l1 k p0 j) (x7 ++ ([t14] : List (List S43))) (w64 (x8 + t12))
    else none
    else none
    else ast_Kids_c0 k x7
def ast_Kids (k : Nat) (p0 : (List S43)) : Option (List (List S43)) :=
  (ast_Right k p0).bind fun t2 =>
  if (!t2) = true then some ([])
  else ast_Kids_l1 k p0 k [] (1 : Int)
theorem ast_Kids_spec {k : Nat} {p0 : (List S43)} {r : (List (List S43))} (h : ast_Kids k p0 = some r) : Spec Try.prog 33 [(.fz 4 (p0.map e43))] (e49 r) := by
  rw [ast_Kids.eq_1] at h
  refine Spec.intro (res := [.tmp 2]) Try.func33 rfl rfl rfl (Nat.le_of_ble_eq_true rfl) ?_
  refine AW.seq ?_
  refine AW.reg ?_
  refine AO.calm rfl 2 rfl (by decide) (.fl (.slice none 0 0)) (Calm.assign rfl rfl) ?_
  refine AO.nil (ρ' := [(0, (.fz 4 (p0.map e43)))]) (H' := []) ⟨rfl, trivial⟩ (Sub.refl _) ?_
  refine AW.seq ?_
  refine AW.seq ?_
  refine AW.reg ?_
  refine AO.calm rfl 6 rfl (by decide) (.fz 4 (p0.map e43)) (Calm.move rfl rfl) ?_
  obtain ⟨t2, et2, h⟩ := of_bind h
  refine AO.callS [(.fz 4 (p0.map e43))] (eBool t2) 7 rfl (by decide) ok30 rfl rfl rfl ⟨rfl, rfl, trivial⟩ (ast_Right_spec et2) ?_
  refine AO.calm rfl 8 rfl (by decide) (eBool (!t2)) (Calm.not rfl rfl) ?_
  refine AO.nil (ρ' := [(0, (.fz 4 (p0.map e43))), (8, (eBool (!t2)))]) (H' := []) ⟨rfl, rfl, trivial⟩ (Sub.refl _) ?_
  by_cases hc3 : (!t2) = true
  · have h := (if_pos hc3).symm.trans h
    refine AW.condT' (!t2) rfl hc3 ?_
    refine AW.seq ?_
    refine AW.reg ?_
    refine AO.calm rfl 2 rfl (by decide) (.fl (.slice none 0 0)) (Calm.assign rfl rfl) ?_
    refine AO.nil (ρ' := [(2, (.fl (.slice none 0 0)))]) (H' := []) ⟨rfl, trivial⟩ (Sub.refl _) ?_
    refine AW.coeC 2 (y' := (.fz 1 (([] : List (List S43)).map e37))) rfl Coe.nil ?_
    refine AW.ret (ρ' := [(2, (.fz 1 (([] : List (List S43)).map e37)))]) (H' := []) ⟨rfl, trivial⟩ (Sub.refl _) ?_
    have hr := Option.some.inj h
    subst hr
    exact ⟨[(.fz 1 (([] : List (List S43)).map e37))], ⟨rfl, rfl, trivial⟩, rfl⟩
  · have h := (if_neg hc3).symm.trans h
    refine AW.condF' (!t2) rfl hc3 ?_
    refine AW.skip (ρ' := [(0, (.fz 4 (p0.map e43)))]) (H' := []) ⟨rfl, trivial⟩ (Sub.refl _) ?_
    refine AW.seq ?_
    refine AW.reg ?_
    refine AO.calm rfl 3 rfl (by decide) (.fl (.slice none 0 0)) (Calm.assign rfl rfl) ?_
    refine AO.nil (ρ' := [(0, (.fz 4 (p0.map e43))), (3, (.fl (.slice none 0 0)))]) (H' := []) ⟨rfl, rfl, trivial⟩ (Sub.refl _) ?_
    refine AW.seq_mid (fun ρ H => ∃ (n4 : Nat) (x5 : (List (List S43))), ρ = [(3, (.own n4 0 x5.length))] ∧ H = [(n4, .mem (.ar 1 (x5.map e37)))] ∧ ast_Kids_c0 k x5 = some r) ?_ ?_
    · refine AW.seq ?_
      refine AW.reg ?_
      refine AO.calm rfl 4 rfl (by decide) (eI64 (1 : Int)) (Calm.assign rfl rfl) ?_
      refine AO.nil (ρ' := [(0, (.fz 4 (p0.map e43))), (3, (.fl (.slice none 0 0))), (4, (eI64 (1 : Int)))]) (H' := []) ⟨rfl, rfl, rfl, trivial⟩ (Sub.refl _) ?_
      refine AW.block ?_
      refine AW.nilOwn 3 1 rfl fun n18 => ?_
      refine AW.weak (ρ' := [(0, (.fz 4 (p0.map e43))), (3, (.own n18 0 ([] : List (List S43)).length)), (4, (eI64 (1 : Int)))]) (H' := [(n18, .mem (.ar 1 (([] : List (List S43)).map e37)))]) ⟨rfl, rfl, rfl, trivial⟩ (Sub.refl _) ?_
      refine AW.loop (fun kq ρ H => ∃ (n6 : Nat) (x7 : (List (List S43))) (x8 : Int), ρ = [(0, (.fz 4 (p0.map e43))), (3, (.own n6 0 x7.length)), (4, (eI64 x8))] ∧ H = [(n6, .mem (.ar 1 (x7.map e37)))] ∧ ast_Kids_l1 k p0 kq x7 x8 = some r) k ⟨n18, [], (1 : Int), rfl, rfl, h⟩ ?_
      rintro kq10 _ _ ⟨n6, x7, x8, rfl, rfl, h⟩
      cases kq10 with
      | zero => rw [ast_Kids_l1.eq_1] at h; cases h
      | succ kq10 =>
      rw [ast_Kids_l1.eq_2] at h
      generalize hrec9 : ast_Kids_l1 k p0 kq10 = rec9 at h
      refine AW.seq ?_
      refine AW.seq ?_
      refine AW.reg ?_
      refine AO.calm rfl 9 rfl (by decide) (eI64 x8) (Calm.move rfl rfl) ?_
      refine AO.calm rfl 10 rfl (by decide) (.fz 4 (p0.map e43)) (Calm.move rfl rfl) ?_
      refine AO.calm rfl 11 rfl (by decide) (eI64 (p0.length : Int)) (Calm.lenL rfl rfl Try.underlying37) ?_
      refine AO.calm rfl 12 rfl (by decide) (eBool (decide (x8 < (p0.length : Int)))) (Calm.int rfl rfl rfl rfl) ?_
      refine AO.nil (ρ' := [(0, (.fz 4 (p0.map e43))), (3, (.own n6 0 x7.length)), (4, (eI64 x8)), (12, (eBool (decide (x8 < (p0.length : Int)))))]) (H' := [(n6, .mem (.ar 1 (x7.map e37)))]) ⟨rfl, rfl, rfl, rfl, trivial⟩ (Sub.refl _) ?_
      by_cases hc11 : x8 < (p0.length : Int)
      · have h := (if_pos hc11).symm.trans h
        refine AW.condP (x8 < (p0.length : Int)) rfl hc11 ?_
        refine AW.skip (ρ' := [(0, (.fz 4 (p0.map e43))), (3, (.own n6 0 x7.length)), (4, (eI64 x8))]) (H' := [(n6, .mem (.ar 1 (x7.map e37)))]) ⟨rfl, rfl, rfl, trivial⟩ (Sub.refl _) ?_
        refine AW.block ?_
        refine AW.seq ?_
        refine AW.reg ?_
        refine AO.calm rfl 13 rfl (by decide) (.fz 4 (p0.map e43)) (Calm.move rfl rfl) ?_
        refine AO.calm rfl 14 rfl (by decide) (eI64 x8) (Calm.move rfl rfl) ?_
        obtain ⟨t12, et12, h⟩ := of_bind h
        refine AO.callS [(.fz 4 (p0.map e43)), (eI64 x8)] (eI64 t12) 15 rfl (by decide) ok31 rfl rfl rfl ⟨rfl, rfl, rfl, rfl, trivial⟩ (ast_Size_spec et12) ?_
        refine AO.calm rfl 5 rfl (by decide) (eI64 t12) (Calm.assign rfl rfl) ?_
        refine AO.nil (ρ' := [(0, (.fz 4 (p0.map e43))), (3, (.own n6 0 x7.length)), (4, (eI64 x8)), (5, (eI64 t12))]) (H' := [(n6, .mem (.ar 1 (x7.map e37)))]) ⟨rfl, rfl, rfl, rfl, trivial⟩ (Sub.refl _) ?_
        refine AW.seq ?_
        refine AW.reg ?_
        refine AO.calm rfl 16 rfl (by decide) (.own n6 0 x7.length) (Calm.move rfl rfl) ?_
        refine AO.calm rfl 17 rfl (by decide) (.fz 4 (p0.map e43)) (Calm.move rfl rfl) ?_
        refine AO.calm rfl 18 rfl (by decide) (eI64 x8) (Calm.move rfl rfl) ?_
        refine AO.calm rfl 19 rfl (by decide) (eI64 x8) (Calm.move rfl rfl) ?_
        refine AO.calm rfl 20 rfl (by decide) (eI64 t12) (Calm.move rfl rfl) ?_
        refine AO.calm rfl 21 rfl (by decide) (eI64 (w64 (x8 + t12))) (Calm.int rfl rfl rfl rfl) ?_
        obtain ⟨hg13, h⟩ := of_guard h
        refine AO.calm rfl 22 rfl (by decide) (.fz 4 ((lcut p0 x8 (w64 (x8 + t12))).map e43)) (Calm.sliceL rfl rfl rfl rfl hg13 Try.underlying37 sz43) ?_
        obtain ⟨t14, et14, h⟩ := of_bind h
        refine AO.callS [(.fz 4 ((lcut p0 x8 (w64 (x8 + t12))).map e43))] (.fz 4 (t14.map e43)) 23 rfl (by decide) ok64 rfl rfl rfl ⟨rfl, rfl, trivial⟩ (slices_Clone_api_Node_api_Node__spec et14) ?_
        refine AO.lit (Z := (.fl (.slice none 0 0))) (xs := (([t14] : List (List S43)).map e37)) (qs := [(0, (.fz 4 (t14.map e43)))]) rfl 24 rfl (by decide) rfl ⟨rfl, rfl, rfl, trivial⟩ Try.underlying49 sz37 zr37 lay37 rfl (by decide) (litOK (z := 1) [(.fz 4 (t14.map e43))] rfl ⟨⟨rfl, rfl⟩, trivial⟩) rfl fun n15 => ?_
        obtain ⟨hg17, h⟩ := of_guard h
        refine AO.appendL (l := x7) (m := ([t14] : List (List S43))) 1 25 rfl (by decide) rfl rfl rfl rfl rfl (Src.ownL (f := e37) (l := ([t14] : List (List S43))) 0 rfl) Try.underlying49 Try.underlying49 sz37 by37 zr37 rfl hg17 (by decide) fun n16 => ?_
        refine AO.calm rfl 3 rfl (by decide) (.own n16 0 (x7 ++ ([t14] : List (List S43))).length) (Calm.assign rfl rfl) ?_
        refine AO.nil (ρ' := [(0, (.fz 4 (p0.map e43))), (3, (.own n16 0 (x7 ++ ([t14] : List (List S43))).length)), (4, (eI64 x8)), (5, (eI64 t12))]) (H' := [(n16, .mem (.ar 1 ((x7 ++ ([t14] : List (List S43))).map e37)))]) ⟨rfl, rfl, rfl, rfl, trivial⟩ (Sub.cons 1 rfl (Sub.nil _)) ?_
        refine AW.reg ?_
        refine AO.calm rfl 26 rfl (by decide) (eI64 x8) (Calm.move rfl rfl) ?_
        refine AO.calm rfl 27 rfl (by decide) (eI64 t12) (Calm.move rfl rfl) ?_
        refine AO.calm rfl 28 rfl (by decide) (eI64 (w64 (x8 + t12))) (Calm.int rfl rfl rfl rfl) ?_
        refine AO.calm rfl 4 rfl (by decide) (eI64 (w64 (x8 + t12))) (Calm.assign rfl rfl) ?_
        refine AO.nil (ρ' := [(0, (.fz 4 (p0.map e43))), (3, (.own n16 0 (x7 ++ ([t14] : List (List S43))).length)), (4, (eI64 (w64 (x8 + t12))))]) (H' := [(n16, .mem (.ar 1 ((x7 ++ ([t14] : List (List S43))).map e37)))]) ⟨rfl, rfl, rfl, trivial⟩ (Sub.refl _) ?_
        exact ⟨kq10, Nat.lt_succ_self _, n16, (x7 ++ ([t14] : List (List S43))), (w64 (x8 + t12)), rfl, rfl, by rw [hrec9]; exact h⟩
      · have h := (if_neg hc11).symm.trans h
        refine AW.condN (x8 < (p0.length : Int)) rfl hc11 ?_
        refine AW.exit (ρ' := [(3, (.own n6 0 x7.length))]) (H' := [(n6, .mem (.ar 1 (x7.map e37)))]) ⟨rfl, trivial⟩ (Sub.refl _) ?_
        exact ⟨n6, x7, rfl, rfl, h⟩
    · rintro _ _ ⟨n4, x5, rfl, rfl, h⟩
      rw [ast_Kids_c0.eq_1] at h
      refine AW.seq ?_
      refine AW.reg ?_
      refine AO.calm rfl 29 rfl (by decide) (.own n4 0 x5.length) (Calm.move rfl rfl) ?_
      refine AO.calm rfl 2 rfl (by decide) (.own n4 0 x5.length) (Calm.assign rfl rfl) ?_
      refine AO.nil (ρ' := [(2, (.own n4 0 x5.length))]) (H' := [(n4, .mem (.ar 1 (x5.map e37)))]) ⟨rfl, trivial⟩ (Sub.refl _) ?_
      refine AW.freezeS 0 [(2, (.fz 1 (x5.map e37)))] rfl ⟨fz_all rfl, trivial⟩ ?_
      refine AW.ret (ρ' := [(2, (.fz 1 (x5.map e37)))]) (H' := []) ⟨rfl, trivial⟩ (Sub.refl _) ?_
      have hr := Option.some.inj h
      subst hr
      exact ⟨[(.fz 1 (x5.map e37))], ⟨rfl, rfl, trivial⟩, rfl⟩
end Go.Avl.T2
/- bosket/ast.Show; printed by avmain.py. -/
namespace Go.Avl.T2
open Go Go.RowKit Go.Proofs Go.Avl
set_option linter.unusedVariables false
set_option maxRecDepth 100000
set_option maxHeartbeats 4000000
attribute [local irreducible] AW AO AQ Spec SpecH Calm

def ast_Show_c0 (k : Nat) (x15 : ByteArray) : Option ByteArray :=
  if x15.size + (ByteArray.mk #[41]).size ≤ 9223372036854775807 then some ((x15 ++ (ByteArray.mk #[41])))
  else none
def ast_Show_l1 (k : Nat) (self : ((List S43) → Option ByteArray)) (t17 : (List (List S43))) : Nat → ByteArray → Int → Option ByteArray
  | 0, _, _ => none
  | j + 1, x18, x19 =>
    if x19 < (t17.length : Int) then if 0 ≤ x19 ∧ x19 < (t17.length : Int) then (self (lget t17 x19)).bind fun t24 =>
    if (ByteArray.mk #[32]).size + t24.size ≤ 9223372036854775807 then if x18.size + ((ByteArray.mk #[32]) ++ t24).size ≤ 9223372036854775807 then (ast_Show_l1 k self t17 j) (x18 ++ ((ByteArray.mk #[32]) ++ t24)) (w64 (x19 + (1 : Int)))
    else none
    else none
    else none
    else ast_Show_c0 k x18
def ast_Show : Nat → (List S43) → Option ByteArray
  | 0, _ => none
  | k + 1, p0 =>
    (ast_Right k p0).bind fun t2 =>
    if (!t2) = true then some ((ByteArray.mk #[]))
    else if 0 ≤ (0 : Int) ∧ (0 : Int) < (p0.length : Int) then if ((lget p0 (0 : Int)).f0) = true then if 0 ≤ (0 : Int) ∧ (0 : Int) < (p0.length : Int) then (spot_Digits k ((lget p0 (0 : Int)).f1)).bind fun t7 =>
    if t7.size + (ByteArray.mk #[58]).size ≤ 9223372036854775807 then if 0 ≤ (0 : Int) ∧ (0 : Int) < (p0.length : Int) then (escape_Quote k ((lget p0 (0 : Int)).f3) (34 : Int)).bind fun t10 =>
    if (t7 ++ (ByteArray.mk #[58])).size + t10.size ≤ 9223372036854775807 then some (((t7 ++ (ByteArray.mk #[58])) ++ t10))
    else none
    else none
    else none
    else none
    else if 0 ≤ (0 : Int) ∧ (0 : Int) < (p0.length : Int) then (spot_Digits k ((lget p0 (0 : Int)).f1)).bind fun t13 =>
    if (ByteArray.mk #[40]).size + t13.size ≤ 9223372036854775807 then (ast_Kids k p0).bind fun t17 =>
    ast_Show_l1 k (ast_Show k) t17 k ((ByteArray.mk #[40]) ++ t13) (0 : Int)
    else none
    else none
    else none
theorem ast_Show_spec' : ∀ (k : Nat) (p0 : (List S43)) (r : ByteArray), ast_Show k p0 = some r → Spec Try.prog 23 [(.fz 4 (p0.map e43))] (eStr r) := by
  intro k
  induction k with
  | zero => intro p0 r h; rw [ast_Show.eq_1] at h; cases h
  | succ k hself =>
  intro p0 r h
  rw [ast_Show.eq_2] at h
  generalize hs : ast_Show k = self at h hself
  refine Spec.intro (res := [.tmp 2]) Try.func23 rfl rfl rfl (Nat.le_of_ble_eq_true rfl) ?_
  refine AW.seq ?_
  refine AW.reg ?_
  refine AO.calm rfl 2 rfl (by decide) (eStr (ByteArray.mk #[])) (Calm.assign rfl rfl) ?_
  refine AO.nil (ρ' := [(0, (.fz 4 (p0.map e43)))]) (H' := []) ⟨rfl, trivial⟩ (Sub.refl _) ?_
  refine AW.seq ?_
  refine AW.seq ?_
  refine AW.reg ?_
  refine AO.calm rfl 6 rfl (by decide) (.fz 4 (p0.map e43)) (Calm.move rfl rfl) ?_
  obtain ⟨t2, et2, h⟩ := of_bind h
  refine AO.callS [(.fz 4 (p0.map e43))] (eBool t2) 7 rfl (by decide) ok30 rfl rfl rfl ⟨rfl, rfl, trivial⟩ (ast_Right_spec et2) ?_
  refine AO.calm rfl 8 rfl (by decide) (eBool (!t2)) (Calm.not rfl rfl) ?_
  refine AO.nil (ρ' := [(0, (.fz 4 (p0.map e43))), (8, (eBool (!t2)))]) (H' := []) ⟨rfl, rfl, trivial⟩ (Sub.refl _) ?_
  by_cases hc3 : (!t2) = true
  · have h := (if_pos hc3).symm.trans h
    refine AW.condT' (!t2) rfl hc3 ?_
    refine AW.seq ?_
    refine AW.reg ?_
    refine AO.calm rfl 2 rfl (by decide) (eStr (ByteArray.mk #[])) (Calm.assign rfl rfl) ?_
    refine AO.nil (ρ' := [(2, (eStr (ByteArray.mk #[])))]) (H' := []) ⟨rfl, trivial⟩ (Sub.refl _) ?_
    refine AW.ret (ρ' := [(2, (eStr (ByteArray.mk #[])))]) (H' := []) ⟨rfl, trivial⟩ (Sub.refl _) ?_
    have hr := Option.some.inj h
    subst hr
    exact ⟨[(eStr (ByteArray.mk #[]))], ⟨rfl, rfl, trivial⟩, rfl⟩
  · have h := (if_neg hc3).symm.trans h
    refine AW.condF' (!t2) rfl hc3 ?_
    refine AW.skip (ρ' := [(0, (.fz 4 (p0.map e43)))]) (H' := []) ⟨rfl, trivial⟩ (Sub.refl _) ?_
    refine AW.seq ?_
    refine AW.seq ?_
    refine AW.reg ?_
    refine AO.calm rfl 9 rfl (by decide) (.fz 4 (p0.map e43)) (Calm.move rfl rfl) ?_
    obtain ⟨hg4, h⟩ := of_guard h
    refine AO.calm rfl 10 rfl (by decide) (.rp (e43 (lget p0 (0 : Int)))) (Calm.idxL (f := e43) rfl rfl rfl hg4 Try.underlying37 sz43) ?_
    refine AO.calm rfl 11 rfl (by decide) (.rp (eBool ((lget p0 (0 : Int)).f0))) (Calm.fldRp rfl rfl Try.underlying43 rfl sz4 (At.cast (At.fld0 At.here) rfl)) ?_
    refine AO.calm rfl 12 rfl (by decide) (eBool ((lget p0 (0 : Int)).f0)) (Calm.loadRp rfl rfl ag4 sz4) ?_
    refine AO.nil (ρ' := [(0, (.fz 4 (p0.map e43))), (12, (eBool ((lget p0 (0 : Int)).f0)))]) (H' := []) ⟨rfl, rfl, trivial⟩ (Sub.refl _) ?_
    by_cases hc5 : ((lget p0 (0 : Int)).f0) = true
    · have h := (if_pos hc5).symm.trans h
      refine AW.condT' ((lget p0 (0 : Int)).f0) rfl hc5 ?_
      refine AW.seq ?_
      refine AW.regQ (by rfl) (by decide +kernel) ?_
      refine AQ.calm rfl 13 rfl (by decide) (.fz 4 (p0.map e43)) (Calm.move rfl rfl) ?_
      obtain ⟨hg6, h⟩ := of_guard h
      refine AQ.calm rfl 14 rfl (by decide) (.rp (e43 (lget p0 (0 : Int)))) (Calm.idxL (f := e43) rfl rfl rfl hg6 Try.underlying37 sz43) ?_
      refine AQ.calm rfl 15 rfl (by decide) (.rp (eI64 ((lget p0 (0 : Int)).f1))) (Calm.fldRp rfl rfl Try.underlying43 rfl sz3 (At.cast (At.fldS (At.fld0 At.here)) rfl)) ?_
      refine AQ.calm rfl 16 rfl (by decide) (eI64 ((lget p0 (0 : Int)).f1)) (Calm.loadRp rfl rfl ag3 sz3) ?_
      obtain ⟨t7, et7, h⟩ := of_bind h
      refine AQ.calm rfl 17 rfl (by decide) (eStr t7) (Calm.call (args := [(eI64 ((lget p0 (0 : Int)).f1))]) rfl rfl ok18 ⟨rfl, rfl, trivial⟩ rfl (spot_Digits_spec et7)) ?_
      obtain ⟨hg8, h⟩ := of_guard h
      refine AQ.calm rfl 18 rfl (by decide) (eStr (t7 ++ (ByteArray.mk #[58]))) (Calm.cat rfl rfl rfl hg8) ?_
      refine AQ.calm rfl 19 rfl (by decide) (.fz 4 (p0.map e43)) (Calm.move rfl rfl) ?_
      obtain ⟨hg9, h⟩ := of_guard h
      refine AQ.calm rfl 20 rfl (by decide) (.rp (e43 (lget p0 (0 : Int)))) (Calm.idxL (f := e43) rfl rfl rfl hg9 Try.underlying37 sz43) ?_
      refine AQ.calm rfl 21 rfl (by decide) (.rp (eStr ((lget p0 (0 : Int)).f3))) (Calm.fldRp rfl rfl Try.underlying43 rfl sz9 (At.cast (At.fldS (At.fldS (At.fldS (At.fld0 At.here)))) rfl)) ?_
      refine AQ.calm rfl 22 rfl (by decide) (eStr ((lget p0 (0 : Int)).f3)) (Calm.loadRp rfl rfl ag9 sz9) ?_
      obtain ⟨t10, et10, h⟩ := of_bind h
      refine AQ.calm rfl 23 rfl (by decide) (eStr t10) (Calm.call (args := [(eStr ((lget p0 (0 : Int)).f3)), (eU8 (34 : Int))]) rfl rfl ok60 ⟨rfl, rfl, rfl, rfl, trivial⟩ rfl (escape_Quote_spec et10)) ?_
      obtain ⟨hg11, h⟩ := of_guard h
      refine AQ.calm rfl 24 rfl (by decide) (eStr ((t7 ++ (ByteArray.mk #[58])) ++ t10)) (Calm.cat rfl rfl rfl hg11) ?_
      refine AQ.calm rfl 2 rfl (by decide) (eStr ((t7 ++ (ByteArray.mk #[58])) ++ t10)) (Calm.assign rfl rfl) ?_
      refine AQ.nil (ρ' := [(2, (eStr ((t7 ++ (ByteArray.mk #[58])) ++ t10)))]) ⟨rfl, trivial⟩ ?_
      refine AW.ret (ρ' := [(2, (eStr ((t7 ++ (ByteArray.mk #[58])) ++ t10)))]) (H' := []) ⟨rfl, trivial⟩ (Sub.refl _) ?_
      have hr := Option.some.inj h
      subst hr
      exact ⟨[(eStr ((t7 ++ (ByteArray.mk #[58])) ++ t10))], ⟨rfl, rfl, trivial⟩, rfl⟩
    · have h := (if_neg hc5).symm.trans h
      refine AW.condF' ((lget p0 (0 : Int)).f0) rfl hc5 ?_
      refine AW.skip (ρ' := [(0, (.fz 4 (p0.map e43)))]) (H' := []) ⟨rfl, trivial⟩ (Sub.refl _) ?_
      refine AW.seq ?_
      refine AW.reg ?_
      refine AO.calm rfl 25 rfl (by decide) (.fz 4 (p0.map e43)) (Calm.move rfl rfl) ?_
      obtain ⟨hg12, h⟩ := of_guard h
      refine AO.calm rfl 26 rfl (by decide) (.rp (e43 (lget p0 (0 : Int)))) (Calm.idxL (f := e43) rfl rfl rfl hg12 Try.underlying37 sz43) ?_
      refine AO.calm rfl 27 rfl (by decide) (.rp (eI64 ((lget p0 (0 : Int)).f1))) (Calm.fldRp rfl rfl Try.underlying43 rfl sz3 (At.cast (At.fldS (At.fld0 At.here)) rfl)) ?_
      refine AO.calm rfl 28 rfl (by decide) (eI64 ((lget p0 (0 : Int)).f1)) (Calm.loadRp rfl rfl ag3 sz3) ?_
      obtain ⟨t13, et13, h⟩ := of_bind h
      refine AO.callS [(eI64 ((lget p0 (0 : Int)).f1))] (eStr t13) 29 rfl (by decide) ok18 rfl rfl rfl ⟨rfl, rfl, trivial⟩ (spot_Digits_spec et13) ?_
      obtain ⟨hg14, h⟩ := of_guard h
      refine AO.calm rfl 30 rfl (by decide) (eStr ((ByteArray.mk #[40]) ++ t13)) (Calm.cat rfl rfl rfl hg14) ?_
      refine AO.calm rfl 3 rfl (by decide) (eStr ((ByteArray.mk #[40]) ++ t13)) (Calm.assign rfl rfl) ?_
      refine AO.nil (ρ' := [(0, (.fz 4 (p0.map e43))), (3, (eStr ((ByteArray.mk #[40]) ++ t13)))]) (H' := []) ⟨rfl, rfl, trivial⟩ (Sub.refl _) ?_
      refine AW.seq_mid (fun ρ H => ∃ (x15 : ByteArray), ρ = [(3, (eStr x15))] ∧ H = [] ∧ ast_Show_c0 k x15 = some r) ?_ ?_
      · refine AW.seq ?_
        refine AW.reg ?_
        refine AO.calm rfl 31 rfl (by decide) (.fz 4 (p0.map e43)) (Calm.move rfl rfl) ?_
        obtain ⟨t17, et17, h⟩ := of_bind h
        refine AO.callS [(.fz 4 (p0.map e43))] (.fz 1 (t17.map e37)) 32 rfl (by decide) ok33 rfl rfl rfl ⟨rfl, rfl, trivial⟩ (ast_Kids_spec et17) ?_
        refine AO.calm rfl 33 rfl (by decide) (eI64 (t17.length : Int)) (Calm.lenL rfl rfl Try.underlying49) ?_
        refine AO.calm rfl 34 rfl (by decide) (eI64 (0 : Int)) (Calm.move rfl rfl) ?_
        refine AO.nil (ρ' := [(3, (eStr ((ByteArray.mk #[40]) ++ t13))), (32, (.fz 1 (t17.map e37))), (33, (eI64 (t17.length : Int))), (34, (eI64 (0 : Int)))]) (H' := []) ⟨rfl, rfl, rfl, rfl, trivial⟩ (Sub.refl _) ?_
        refine AW.block ?_
        refine AW.weak (ρ' := [(3, (eStr ((ByteArray.mk #[40]) ++ t13))), (32, (.fz 1 (t17.map e37))), (33, (eI64 (t17.length : Int))), (34, (eI64 (0 : Int)))]) (H' := []) ⟨rfl, rfl, rfl, rfl, trivial⟩ (Sub.refl _) ?_
        refine AW.loop (fun kq ρ H => ∃ (x18 : ByteArray) (x19 : Int), ρ = [(3, (eStr x18)), (32, (.fz 1 (t17.map e37))), (33, (eI64 (t17.length : Int))), (34, (eI64 x19))] ∧ H = [] ∧ ast_Show_l1 k self t17 kq x18 x19 = some r) k ⟨((ByteArray.mk #[40]) ++ t13), (0 : Int), rfl, rfl, h⟩ ?_
        rintro kq21 _ _ ⟨x18, x19, rfl, rfl, h⟩
        cases kq21 with
        | zero => rw [ast_Show_l1.eq_1] at h; cases h
        | succ kq21 =>
        rw [ast_Show_l1.eq_2] at h
        generalize hrec20 : ast_Show_l1 k self t17 kq21 = rec20 at h
        refine AW.seq ?_
        refine AW.reg ?_
        refine AO.calm rfl 35 rfl (by decide) (eBool (decide (x19 < (t17.length : Int)))) (Calm.int rfl rfl rfl rfl) ?_
        refine AO.nil (ρ' := [(3, (eStr x18)), (32, (.fz 1 (t17.map e37))), (33, (eI64 (t17.length : Int))), (34, (eI64 x19)), (35, (eBool (decide (x19 < (t17.length : Int)))))]) (H' := []) ⟨rfl, rfl, rfl, rfl, rfl, trivial⟩ (Sub.refl _) ?_
        refine AW.seq ?_
        by_cases hc22 : x19 < (t17.length : Int)
        · have h := (if_pos hc22).symm.trans h
          refine AW.condP (x19 < (t17.length : Int)) rfl hc22 ?_
          refine AW.skip (ρ' := [(3, (eStr x18)), (32, (.fz 1 (t17.map e37))), (33, (eI64 (t17.length : Int))), (34, (eI64 x19))]) (H' := []) ⟨rfl, rfl, rfl, rfl, trivial⟩ (Sub.refl _) ?_
          refine AW.seq ?_
          refine AW.block ?_
          refine AW.seq ?_
          refine AW.reg ?_
          obtain ⟨hg23, h⟩ := of_guard h
          refine AO.calm rfl 36 rfl (by decide) (.rp (.fz 4 ((lget t17 x19).map e43))) (Calm.idxL (f := e37) rfl rfl rfl hg23 Try.underlying49 sz37) ?_
          refine AO.calm rfl 37 rfl (by decide) (.fz 4 ((lget t17 x19).map e43)) (Calm.loadRp rfl rfl ag37 sz37) ?_
          refine AO.calm rfl 5 rfl (by decide) (.fz 4 ((lget t17 x19).map e43)) (Calm.assign rfl rfl) ?_
          refine AO.nil (ρ' := [(3, (eStr x18)), (5, (.fz 4 ((lget t17 x19).map e43))), (32, (.fz 1 (t17.map e37))), (33, (eI64 (t17.length : Int))), (34, (eI64 x19))]) (H' := []) ⟨rfl, rfl, rfl, rfl, rfl, trivial⟩ (Sub.refl _) ?_
          refine AW.reg ?_
          refine AO.calm rfl 38 rfl (by decide) (eStr x18) (Calm.move rfl rfl) ?_
          refine AO.calm rfl 39 rfl (by decide) (.fz 4 ((lget t17 x19).map e43)) (Calm.move rfl rfl) ?_
          obtain ⟨t24, et24, h⟩ := of_bind h
          refine AO.callS [(.fz 4 ((lget t17 x19).map e43))] (eStr t24) 40 rfl (by decide) ok23 rfl rfl rfl ⟨rfl, rfl, trivial⟩ (hself _ _ et24) ?_
          obtain ⟨hg25, h⟩ := of_guard h
          refine AO.calm rfl 41 rfl (by decide) (eStr ((ByteArray.mk #[32]) ++ t24)) (Calm.cat rfl rfl rfl hg25) ?_
          obtain ⟨hg26, h⟩ := of_guard h
          refine AO.calm rfl 42 rfl (by decide) (eStr (x18 ++ ((ByteArray.mk #[32]) ++ t24))) (Calm.cat rfl rfl rfl hg26) ?_
          refine AO.calm rfl 3 rfl (by decide) (eStr (x18 ++ ((ByteArray.mk #[32]) ++ t24))) (Calm.assign rfl rfl) ?_
          refine AO.nil (ρ' := [(3, (eStr (x18 ++ ((ByteArray.mk #[32]) ++ t24)))), (32, (.fz 1 (t17.map e37))), (33, (eI64 (t17.length : Int))), (34, (eI64 x19))]) (H' := []) ⟨rfl, rfl, rfl, rfl, trivial⟩ (Sub.refl _) ?_
          refine AW.reg ?_
          refine AO.calm rfl 43 rfl (by decide) (eI64 (w64 (x19 + (1 : Int)))) (Calm.int rfl rfl rfl rfl) ?_
          refine AO.calm rfl 34 rfl (by decide) (eI64 (w64 (x19 + (1 : Int)))) (Calm.move rfl rfl) ?_
          refine AO.nil (ρ' := [(3, (eStr (x18 ++ ((ByteArray.mk #[32]) ++ t24)))), (32, (.fz 1 (t17.map e37))), (33, (eI64 (t17.length : Int))), (34, (eI64 (w64 (x19 + (1 : Int)))))]) (H' := []) ⟨rfl, rfl, rfl, rfl, trivial⟩ (Sub.refl _) ?_
          exact ⟨kq21, Nat.lt_succ_self _, (x18 ++ ((ByteArray.mk #[32]) ++ t24)), (w64 (x19 + (1 : Int))), rfl, rfl, by rw [hrec20]; exact h⟩
        · have h := (if_neg hc22).symm.trans h
          refine AW.condN (x19 < (t17.length : Int)) rfl hc22 ?_
          refine AW.exit (ρ' := [(3, (eStr x18))]) (H' := []) ⟨rfl, trivial⟩ (Sub.refl _) ?_
          exact ⟨x18, rfl, rfl, h⟩
      · rintro _ _ ⟨x15, rfl, rfl, h⟩
        rw [ast_Show_c0.eq_1] at h
        refine AW.seq ?_
        refine AW.reg ?_
        refine AO.calm rfl 44 rfl (by decide) (eStr x15) (Calm.move rfl rfl) ?_
        obtain ⟨hg16, h⟩ := of_guard h
        refine AO.calm rfl 45 rfl (by decide) (eStr (x15 ++ (ByteArray.mk #[41]))) (Calm.cat rfl rfl rfl hg16) ?_
        refine AO.calm rfl 2 rfl (by decide) (eStr (x15 ++ (ByteArray.mk #[41]))) (Calm.assign rfl rfl) ?_
        refine AO.nil (ρ' := [(2, (eStr (x15 ++ (ByteArray.mk #[41]))))]) (H' := []) ⟨rfl, trivial⟩ (Sub.refl _) ?_
        refine AW.ret (ρ' := [(2, (eStr (x15 ++ (ByteArray.mk #[41]))))]) (H' := []) ⟨rfl, trivial⟩ (Sub.refl _) ?_
        have hr := Option.some.inj h
        subst hr
        exact ⟨[(eStr (x15 ++ (ByteArray.mk #[41])))], ⟨rfl, rfl, trivial⟩, rfl⟩
theorem ast_Show_spec {k : Nat} {p0 : (List S43)} {r : ByteArray} (h : ast_Show k p0 = some r) : Spec Try.prog 23 [(.fz 4 (p0.map e43))] (eStr r) := ast_Show_spec' k p0 r h
end Go.Avl.T2
