/- Parts: T2f65, T2f37, T2f7. -/
import Derived.Test.YtmgiffbobkgcmaaAF1
import Derived.Test.YtmgiffbobkgcmaaAF5
import Derived.Test.YtmgiffbobkgcmaaAF4
import Derived.Test.YtmgiffbobkgcmaaAF3
/- slices.Equal[[]bosket/api.Node,bosket/api.Node]; printed by avmain.py. -/
namespace Go.Avl.T2
open Go Go.RowKit Go.Proofs Go.Avl
set_option linter.unusedVariables false
set_option maxRecDepth 100000
set_option maxHeartbeats 4000000
attribute [local irreducible] AW AO AQ Spec SpecH Calm

def slices_Equal_api_Node_api_Node__c0 (k : Nat) : Option Bool :=
  some (true)
def slices_Equal_api_Node_api_Node__l1 (k : Nat) (p0 : (List S43)) (p1 : (List S43)) : Nat → Int → Option Bool
  | 0, _ => none
  | j + 1, x4 =>
    if x4 < (p0.length : Int) then if 0 ≤ x4 ∧ x4 < (p0.length : Int) then if 0 ≤ x4 ∧ x4 < (p1.length : Int) then if (!(decide ((lget p0 x4) = (lget p1 x4)))) = true then some (false)
    else (slices_Equal_api_Node_api_Node__l1 k p0 p1 j) (w64 (x4 + (1 : Int)))
    else none
    else none
    else slices_Equal_api_Node_api_Node__c0 k
def slices_Equal_api_Node_api_Node_ (k : Nat) (p0 : (List S43)) (p1 : (List S43)) : Option Bool :=
  if (p0.length : Int) ≠ (p1.length : Int) then some (false)
  else slices_Equal_api_Node_api_Node__l1 k p0 p1 k (0 : Int)
theorem slices_Equal_api_Node_api_Node__spec {k : Nat} {p0 : (List S43)} {p1 : (List S43)} {r : Bool} (h : slices_Equal_api_Node_api_Node_ k p0 p1 = some r) : Spec Try.prog 65 [(.fz 4 (p0.map e43)), (.fz 4 (p1.map e43))] (eBool r) := by
  rw [slices_Equal_api_Node_api_Node_.eq_1] at h
  refine Spec.intro (res := [.tmp 4]) Try.func65 rfl rfl rfl (Nat.le_of_ble_eq_true rfl) ?_
  refine AW.seq ?_
  refine AW.reg ?_
  refine AO.calm rfl 4 rfl (by decide) (eBool false) (Calm.assign rfl rfl) ?_
  refine AO.nil (ρ' := [(0, (.fz 4 (p0.map e43))), (1, (.fz 4 (p1.map e43)))]) (H' := []) ⟨rfl, rfl, trivial⟩ (Sub.refl _) ?_
  refine AW.seq ?_
  refine AW.seq ?_
  refine AW.reg ?_
  refine AO.calm rfl 6 rfl (by decide) (.fz 4 (p0.map e43)) (Calm.move rfl rfl) ?_
  refine AO.calm rfl 7 rfl (by decide) (eI64 (p0.length : Int)) (Calm.lenL rfl rfl Try.underlying37) ?_
  refine AO.calm rfl 8 rfl (by decide) (.fz 4 (p1.map e43)) (Calm.move rfl rfl) ?_
  refine AO.calm rfl 9 rfl (by decide) (eI64 (p1.length : Int)) (Calm.lenL rfl rfl Try.underlying37) ?_
  refine AO.calm rfl 10 rfl (by decide) (eBool (decide ((p0.length : Int) ≠ (p1.length : Int)))) (Calm.int rfl rfl rfl rfl) ?_
  refine AO.nil (ρ' := [(0, (.fz 4 (p0.map e43))), (1, (.fz 4 (p1.map e43))), (10, (eBool (decide ((p0.length : Int) ≠ (p1.length : Int)))))]) (H' := []) ⟨rfl, rfl, rfl, trivial⟩ (Sub.refl _) ?_
  by_cases hc3 : (p0.length : Int) ≠ (p1.length : Int)
  · have h := (if_pos hc3).symm.trans h
    refine AW.condP ((p0.length : Int) ≠ (p1.length : Int)) rfl hc3 ?_
    refine AW.seq ?_
    refine AW.reg ?_
    refine AO.calm rfl 4 rfl (by decide) (eBool false) (Calm.assign rfl rfl) ?_
    refine AO.nil (ρ' := [(4, (eBool false))]) (H' := []) ⟨rfl, trivial⟩ (Sub.refl _) ?_
    refine AW.ret (ρ' := [(4, (eBool false))]) (H' := []) ⟨rfl, trivial⟩ (Sub.refl _) ?_
    have hr := Option.some.inj h
    subst hr
    exact ⟨[(eBool false)], ⟨rfl, rfl, trivial⟩, rfl⟩
  · have h := (if_neg hc3).symm.trans h
    refine AW.condN ((p0.length : Int) ≠ (p1.length : Int)) rfl hc3 ?_
    refine AW.skip (ρ' := [(0, (.fz 4 (p0.map e43))), (1, (.fz 4 (p1.map e43)))]) (H' := []) ⟨rfl, rfl, trivial⟩ (Sub.refl _) ?_
    refine AW.seq_mid (fun ρ H => ρ = [] ∧ H = [] ∧ slices_Equal_api_Node_api_Node__c0 k = some r) ?_ ?_
    · refine AW.seq ?_
      refine AW.reg ?_
      refine AO.calm rfl 11 rfl (by decide) (.fz 4 (p0.map e43)) (Calm.move rfl rfl) ?_
      refine AO.calm rfl 12 rfl (by decide) (eI64 (p0.length : Int)) (Calm.lenL rfl rfl Try.underlying37) ?_
      refine AO.calm rfl 13 rfl (by decide) (eI64 (0 : Int)) (Calm.move rfl rfl) ?_
      refine AO.nil (ρ' := [(0, (.fz 4 (p0.map e43))), (1, (.fz 4 (p1.map e43))), (12, (eI64 (p0.length : Int))), (13, (eI64 (0 : Int)))]) (H' := []) ⟨rfl, rfl, rfl, rfl, trivial⟩ (Sub.refl _) ?_
      refine AW.block ?_
      refine AW.weak (ρ' := [(0, (.fz 4 (p0.map e43))), (1, (.fz 4 (p1.map e43))), (12, (eI64 (p0.length : Int))), (13, (eI64 (0 : Int)))]) (H' := []) ⟨rfl, rfl, rfl, rfl, trivial⟩ (Sub.refl _) ?_
      refine AW.loop (fun kq ρ H => ∃ (x4 : Int), ρ = [(0, (.fz 4 (p0.map e43))), (1, (.fz 4 (p1.map e43))), (12, (eI64 (p0.length : Int))), (13, (eI64 x4))] ∧ H = [] ∧ slices_Equal_api_Node_api_Node__l1 k p0 p1 kq x4 = some r) k ⟨(0 : Int), rfl, rfl, h⟩ ?_
      rintro kq6 _ _ ⟨x4, rfl, rfl, h⟩
      cases kq6 with
      | zero => rw [slices_Equal_api_Node_api_Node__l1.eq_1] at h; cases h
      | succ kq6 =>
      rw [slices_Equal_api_Node_api_Node__l1.eq_2] at h
      generalize hrec5 : slices_Equal_api_Node_api_Node__l1 k p0 p1 kq6 = rec5 at h
      refine AW.seq ?_
      refine AW.reg ?_
      refine AO.calm rfl 14 rfl (by decide) (eBool (decide (x4 < (p0.length : Int)))) (Calm.int rfl rfl rfl rfl) ?_
      refine AO.nil (ρ' := [(0, (.fz 4 (p0.map e43))), (1, (.fz 4 (p1.map e43))), (12, (eI64 (p0.length : Int))), (13, (eI64 x4)), (14, (eBool (decide (x4 < (p0.length : Int)))))]) (H' := []) ⟨rfl, rfl, rfl, rfl, rfl, trivial⟩ (Sub.refl _) ?_
      refine AW.seq ?_
      by_cases hc7 : x4 < (p0.length : Int)
      · have h := (if_pos hc7).symm.trans h
        refine AW.condP (x4 < (p0.length : Int)) rfl hc7 ?_
        refine AW.skip (ρ' := [(0, (.fz 4 (p0.map e43))), (1, (.fz 4 (p1.map e43))), (12, (eI64 (p0.length : Int))), (13, (eI64 x4))]) (H' := []) ⟨rfl, rfl, rfl, rfl, trivial⟩ (Sub.refl _) ?_
        refine AW.seq ?_
        refine AW.block ?_
        refine AW.seq ?_
        refine AW.reg ?_
        refine AO.calm rfl 15 rfl (by decide) (eI64 x4) (Calm.move rfl rfl) ?_
        refine AO.calm rfl 5 rfl (by decide) (eI64 x4) (Calm.assign rfl rfl) ?_
        refine AO.nil (ρ' := [(0, (.fz 4 (p0.map e43))), (1, (.fz 4 (p1.map e43))), (5, (eI64 x4)), (12, (eI64 (p0.length : Int))), (13, (eI64 x4))]) (H' := []) ⟨rfl, rfl, rfl, rfl, rfl, trivial⟩ (Sub.refl _) ?_
        refine AW.seq ?_
        refine AW.regQ (by rfl) (by decide +kernel) ?_
        refine AQ.calm rfl 16 rfl (by decide) (.fz 4 (p0.map e43)) (Calm.move rfl rfl) ?_
        refine AQ.calm rfl 17 rfl (by decide) (eI64 x4) (Calm.move rfl rfl) ?_
        obtain ⟨hg8, h⟩ := of_guard h
        refine AQ.calm rfl 18 rfl (by decide) (.rp (e43 (lget p0 x4))) (Calm.idxL (f := e43) rfl rfl rfl hg8 Try.underlying37 sz43) ?_
        refine AQ.calm rfl 19 rfl (by decide) (e43 (lget p0 x4)) (Calm.loadRp rfl rfl ag43 sz43) ?_
        refine AQ.calm rfl 20 rfl (by decide) (.fz 4 (p1.map e43)) (Calm.move rfl rfl) ?_
        refine AQ.calm rfl 21 rfl (by decide) (eI64 x4) (Calm.move rfl rfl) ?_
        obtain ⟨hg9, h⟩ := of_guard h
        refine AQ.calm rfl 22 rfl (by decide) (.rp (e43 (lget p1 x4))) (Calm.idxL (f := e43) rfl rfl rfl hg9 Try.underlying37 sz43) ?_
        refine AQ.calm rfl 23 rfl (by decide) (e43 (lget p1 x4)) (Calm.loadRp rfl rfl ag43 sz43) ?_
        refine AQ.calm rfl 24 rfl (by decide) (eBool (!(decide ((lget p0 x4) = (lget p1 x4))))) (Calm.neS rfl rfl rfl eg43 (eqk43 (lget p0 x4) (lget p1 x4)) (by decide)) ?_
        refine AQ.nil (ρ' := [(0, (.fz 4 (p0.map e43))), (1, (.fz 4 (p1.map e43))), (12, (eI64 (p0.length : Int))), (13, (eI64 x4)), (24, (eBool (!(decide ((lget p0 x4) = (lget p1 x4))))))]) ⟨rfl, rfl, rfl, rfl, rfl, trivial⟩ ?_
        by_cases hc10 : (!(decide ((lget p0 x4) = (lget p1 x4)))) = true
        · have h := (if_pos hc10).symm.trans h
          refine AW.condT' (!(decide ((lget p0 x4) = (lget p1 x4)))) rfl hc10 ?_
          refine AW.seq ?_
          refine AW.reg ?_
          refine AO.calm rfl 4 rfl (by decide) (eBool false) (Calm.assign rfl rfl) ?_
          refine AO.nil (ρ' := [(4, (eBool false))]) (H' := []) ⟨rfl, trivial⟩ (Sub.refl _) ?_
          refine AW.ret (ρ' := [(4, (eBool false))]) (H' := []) ⟨rfl, trivial⟩ (Sub.refl _) ?_
          have hr := Option.some.inj h
          subst hr
          exact ⟨[(eBool false)], ⟨rfl, rfl, trivial⟩, rfl⟩
        · have h := (if_neg hc10).symm.trans h
          refine AW.condF' (!(decide ((lget p0 x4) = (lget p1 x4)))) rfl hc10 ?_
          refine AW.skip (ρ' := [(0, (.fz 4 (p0.map e43))), (1, (.fz 4 (p1.map e43))), (12, (eI64 (p0.length : Int))), (13, (eI64 x4))]) (H' := []) ⟨rfl, rfl, rfl, rfl, trivial⟩ (Sub.refl _) ?_
          refine AW.reg ?_
          refine AO.calm rfl 25 rfl (by decide) (eI64 (w64 (x4 + (1 : Int)))) (Calm.int rfl rfl rfl rfl) ?_
          refine AO.calm rfl 13 rfl (by decide) (eI64 (w64 (x4 + (1 : Int)))) (Calm.move rfl rfl) ?_
          refine AO.nil (ρ' := [(0, (.fz 4 (p0.map e43))), (1, (.fz 4 (p1.map e43))), (12, (eI64 (p0.length : Int))), (13, (eI64 (w64 (x4 + (1 : Int)))))]) (H' := []) ⟨rfl, rfl, rfl, rfl, trivial⟩ (Sub.refl _) ?_
          exact ⟨kq6, Nat.lt_succ_self _, (w64 (x4 + (1 : Int))), rfl, rfl, by rw [hrec5]; exact h⟩
      · have h := (if_neg hc7).symm.trans h
        refine AW.condN (x4 < (p0.length : Int)) rfl hc7 ?_
        refine AW.exit (ρ' := []) (H' := []) trivial (Sub.refl _) ?_
        exact ⟨rfl, rfl, h⟩
    · rintro _ _ ⟨rfl, rfl, h⟩
      rw [slices_Equal_api_Node_api_Node__c0.eq_1] at h
      refine AW.seq ?_
      refine AW.reg ?_
      refine AO.calm rfl 4 rfl (by decide) (eBool true) (Calm.assign rfl rfl) ?_
      refine AO.nil (ρ' := [(4, (eBool true))]) (H' := []) ⟨rfl, trivial⟩ (Sub.refl _) ?_
      refine AW.ret (ρ' := [(4, (eBool true))]) (H' := []) ⟨rfl, trivial⟩ (Sub.refl _) ?_
      have hr := Option.some.inj h
      subst hr
      exact ⟨[(eBool true)], ⟨rfl, rfl, trivial⟩, rfl⟩
end Go.Avl.T2
/- bosket/ast.Same; printed by avmain.py. -/
namespace Go.Avl.T2
open Go Go.RowKit Go.Proofs Go.Avl
set_option linter.unusedVariables false
set_option maxRecDepth 100000
set_option maxHeartbeats 4000000
attribute [local irreducible] AW AO AQ Spec SpecH Calm

def ast_Same (k : Nat) (p0 : (List S43)) (p1 : (List S43)) : Option Bool :=
  (slices_Equal_api_Node_api_Node_ k p0 p1).bind fun t3 =>
  some (t3)
theorem ast_Same_spec {k : Nat} {p0 : (List S43)} {p1 : (List S43)} {r : Bool} (h : ast_Same k p0 p1 = some r) : Spec Try.prog 37 [(.fz 4 (p0.map e43)), (.fz 4 (p1.map e43))] (eBool r) := by
  rw [ast_Same.eq_1] at h
  refine Spec.intro (res := [.tmp 4]) Try.func37 rfl rfl rfl (Nat.le_of_ble_eq_true rfl) ?_
  refine AW.seq ?_
  refine AW.reg ?_
  refine AO.calm rfl 4 rfl (by decide) (eBool false) (Calm.assign rfl rfl) ?_
  refine AO.nil (ρ' := [(0, (.fz 4 (p0.map e43))), (1, (.fz 4 (p1.map e43)))]) (H' := []) ⟨rfl, rfl, trivial⟩ (Sub.refl _) ?_
  refine AW.seq ?_
  refine AW.reg ?_
  refine AO.calm rfl 5 rfl (by decide) (.fz 4 (p0.map e43)) (Calm.move rfl rfl) ?_
  refine AO.calm rfl 6 rfl (by decide) (.fz 4 (p1.map e43)) (Calm.move rfl rfl) ?_
  obtain ⟨t3, et3, h⟩ := of_bind h
  refine AO.callS [(.fz 4 (p0.map e43)), (.fz 4 (p1.map e43))] (eBool t3) 7 rfl (by decide) ok65 rfl rfl rfl ⟨rfl, rfl, rfl, rfl, trivial⟩ (slices_Equal_api_Node_api_Node__spec et3) ?_
  refine AO.calm rfl 4 rfl (by decide) (eBool t3) (Calm.assign rfl rfl) ?_
  refine AO.nil (ρ' := [(4, (eBool t3))]) (H' := []) ⟨rfl, trivial⟩ (Sub.refl _) ?_
  refine AW.ret (ρ' := [(4, (eBool t3))]) (H' := []) ⟨rfl, trivial⟩ (Sub.refl _) ?_
  have hr := Option.some.inj h
  subst hr
  exact ⟨[(eBool t3)], ⟨rfl, rfl, trivial⟩, rfl⟩
end Go.Avl.T2
/- bosket/bosketlaw31.AstTells; printed by avmain.py. -/
namespace Go.Avl.T2
open Go Go.RowKit Go.Proofs Go.Avl
set_option linter.unusedVariables false
set_option maxRecDepth 100000
set_option maxHeartbeats 4000000
attribute [local irreducible] AW AO AQ Spec SpecH Calm

def bosketlaw31_AstTells_c0 (k : Nat) (p0 : (List S43)) (t15 : (List (List S43))) : Option Bool :=
  if 0 ≤ (0 : Int) ∧ (0 : Int) < (p0.length : Int) then (ast_Join k (S43.mk ((lget p0 (0 : Int)).f0) ((lget p0 (0 : Int)).f1) (7 : Int) ((lget p0 (0 : Int)).f3)) t15).bind fun t30 =>
  (ast_Same k t30 p0).bind fun t31 =>
  some (t31)
  else none
def bosketlaw31_AstTells_l1 (k : Nat) (p0 : (List S43)) (t15 : (List (List S43))) (t21 : (List (List S43))) : Nat → Int → Option Bool
  | 0, _ => none
  | j + 1, x32 =>
    if x32 < (t21.length : Int) then if 0 ≤ x32 ∧ x32 < (t15.length : Int) then if 0 ≤ x32 ∧ x32 < (t21.length : Int) then (bosketref31_Same k (lget t15 x32) (lget t21 x32)).bind fun t38 =>
    if (!t38) = true then some (false)
    else (bosketlaw31_AstTells_l1 k p0 t15 t21 j) (w64 (x32 + (1 : Int)))
    else none
    else none
    else bosketlaw31_AstTells_c0 k p0 t15
def bosketlaw31_AstTells (k : Nat) (p0 : (List S43)) (p1 : Int) : Option Bool :=
  (bosketlaw31_awake k).bind fun t3 =>
  if (!t3) = true then some (false)
  else (bosketlaw31_Few k p0).bind fun t5 =>
  if (!t5) = true then some (true)
  else (bosketref31_Right k p0).bind fun t7 =>
  Option.bind (α := Bool) ((ast_Right k p0).bind fun t10 =>
  if (t10 != t7) = true then some (true)
  else (ast_Size k p0 p1).bind fun t12 =>
  (bosketref31_Size k p0 p1).bind fun t13 =>
  some (decide (t12 ≠ t13))) fun b8 =>
  if b8 = true then some (false)
  else (ast_Kids k p0).bind fun t15 =>
  if (!t7) = true then Option.bind (α := Bool) (if (t15.length : Int) = (0 : Int) then (ast_Depth k p0).bind fun t20 =>
  some (decide (t20 = (0 : Int)))
  else some (false)) fun b17 =>
  some (b17)
  else (bosketref31_Kids k p0).bind fun t21 =>
  Option.bind (α := Bool) (if (t15.length : Int) ≠ (t21.length : Int) then some (true)
  else (ast_Depth k p0).bind fun t25 =>
  (bosketref31_Depth k p0).bind fun t26 =>
  some (decide (t25 ≠ t26))) fun b22 =>
  if b22 = true then some (false)
  else bosketlaw31_AstTells_l1 k p0 t15 t21 k (0 : Int)
theorem bosketlaw31_AstTells_spec {k : Nat} {p0 : (List S43)} {p1 : Int} {r : Bool} (h : bosketlaw31_AstTells k p0 p1 = some r) : Spec Try.prog 7 [(.fz 4 (p0.map e43)), (eI64 p1)] (eBool r) := by
  rw [bosketlaw31_AstTells.eq_1] at h
  refine Spec.intro (res := [.tmp 4]) Try.func7 rfl rfl rfl (Nat.le_of_ble_eq_true rfl) ?_
  refine AW.seq ?_
  refine AW.reg ?_
  refine AO.calm rfl 4 rfl (by decide) (eBool false) (Calm.assign rfl rfl) ?_
  refine AO.nil (ρ' := [(0, (.fz 4 (p0.map e43))), (1, (eI64 p1))]) (H' := []) ⟨rfl, rfl, trivial⟩ (Sub.refl _) ?_
  refine AW.seq ?_
  refine AW.seq ?_
  refine AW.reg ?_
  obtain ⟨t3, et3, h⟩ := of_bind h
  refine AO.callS [] (eBool t3) 10 rfl (by decide) ok21 rfl rfl rfl trivial (bosketlaw31_awake_spec et3) ?_
  refine AO.calm rfl 11 rfl (by decide) (eBool (!t3)) (Calm.not rfl rfl) ?_
  refine AO.nil (ρ' := [(0, (.fz 4 (p0.map e43))), (1, (eI64 p1)), (11, (eBool (!t3)))]) (H' := []) ⟨rfl, rfl, rfl, trivial⟩ (Sub.refl _) ?_
  by_cases hc4 : (!t3) = true
  · have h := (if_pos hc4).symm.trans h
    refine AW.condT' (!t3) rfl hc4 ?_
    refine AW.seq ?_
    refine AW.reg ?_
    refine AO.calm rfl 4 rfl (by decide) (eBool false) (Calm.assign rfl rfl) ?_
    refine AO.nil (ρ' := [(4, (eBool false))]) (H' := []) ⟨rfl, trivial⟩ (Sub.refl _) ?_
    refine AW.ret (ρ' := [(4, (eBool false))]) (H' := []) ⟨rfl, trivial⟩ (Sub.refl _) ?_
    have hr := Option.some.inj h
    subst hr
    exact ⟨[(eBool false)], ⟨rfl, rfl, trivial⟩, rfl⟩
  · have h := (if_neg hc4).symm.trans h
    refine AW.condF' (!t3) rfl hc4 ?_
    refine AW.skip (ρ' := [(0, (.fz 4 (p0.map e43))), (1, (eI64 p1))]) (H' := []) ⟨rfl, rfl, trivial⟩ (Sub.refl _) ?_
    refine AW.seq ?_
    refine AW.seq ?_
    refine AW.reg ?_
    refine AO.calm rfl 12 rfl (by decide) (.fz 4 (p0.map e43)) (Calm.move rfl rfl) ?_
    obtain ⟨t5, et5, h⟩ := of_bind h
    refine AO.callS [(.fz 4 (p0.map e43))] (eBool t5) 13 rfl (by decide) ok22 rfl rfl rfl ⟨rfl, rfl, trivial⟩ (bosketlaw31_Few_spec et5) ?_
    refine AO.calm rfl 14 rfl (by decide) (eBool (!t5)) (Calm.not rfl rfl) ?_
    refine AO.nil (ρ' := [(0, (.fz 4 (p0.map e43))), (1, (eI64 p1)), (14, (eBool (!t5)))]) (H' := []) ⟨rfl, rfl, rfl, trivial⟩ (Sub.refl _) ?_
    by_cases hc6 : (!t5) = true
    · have h := (if_pos hc6).symm.trans h
      refine AW.condT' (!t5) rfl hc6 ?_
      refine AW.seq ?_
      refine AW.reg ?_
      refine AO.calm rfl 4 rfl (by decide) (eBool true) (Calm.assign rfl rfl) ?_
      refine AO.nil (ρ' := [(4, (eBool true))]) (H' := []) ⟨rfl, trivial⟩ (Sub.refl _) ?_
      refine AW.ret (ρ' := [(4, (eBool true))]) (H' := []) ⟨rfl, trivial⟩ (Sub.refl _) ?_
      have hr := Option.some.inj h
      subst hr
      exact ⟨[(eBool true)], ⟨rfl, rfl, trivial⟩, rfl⟩
    · have h := (if_neg hc6).symm.trans h
      refine AW.condF' (!t5) rfl hc6 ?_
      refine AW.skip (ρ' := [(0, (.fz 4 (p0.map e43))), (1, (eI64 p1))]) (H' := []) ⟨rfl, rfl, trivial⟩ (Sub.refl _) ?_
      refine AW.seq ?_
      refine AW.reg ?_
      refine AO.calm rfl 15 rfl (by decide) (.fz 4 (p0.map e43)) (Calm.move rfl rfl) ?_
      obtain ⟨t7, et7, h⟩ := of_bind h
      refine AO.callS [(.fz 4 (p0.map e43))] (eBool t7) 16 rfl (by decide) ok24 rfl rfl rfl ⟨rfl, rfl, trivial⟩ (bosketref31_Right_spec et7) ?_
      refine AO.calm rfl 5 rfl (by decide) (eBool t7) (Calm.assign rfl rfl) ?_
      refine AO.nil (ρ' := [(0, (.fz 4 (p0.map e43))), (1, (eI64 p1)), (5, (eBool t7))]) (H' := []) ⟨rfl, rfl, rfl, trivial⟩ (Sub.refl _) ?_
      refine AW.seq ?_
      refine AW.seq ?_
      obtain ⟨b8, hq9, h⟩ := of_bind h
      refine AW.regM [(0, (.fz 4 (p0.map e43))), (5, (eBool t7)), (29, (eBool b8))] [] ?_ ?_
      · refine AO.calm rfl 17 rfl (by decide) (.fz 4 (p0.map e43)) (Calm.move rfl rfl) ?_
        obtain ⟨t10, et10, hq9⟩ := of_bind hq9
        refine AO.callS [(.fz 4 (p0.map e43))] (eBool t10) 18 rfl (by decide) ok30 rfl rfl rfl ⟨rfl, rfl, trivial⟩ (ast_Right_spec et10) ?_
        refine AO.calm rfl 19 rfl (by decide) (eBool t7) (Calm.move rfl rfl) ?_
        refine AO.calm rfl 20 rfl (by decide) (eBool (t10 != t7)) (Calm.boolNe rfl rfl rfl Try.underlying4) ?_
        refine AO.calm rfl 21 rfl (by decide) (eBool (t10 != t7)) (Calm.move rfl rfl) ?_
        by_cases hc11 : (t10 != t7) = true
        · have hq9 := (if_pos hc11).symm.trans hq9
          refine AO.skipG 4 true 21 rfl rfl (congrArg (fun b => some (AV.fl (Value.bool b))) hc11) 22 rfl (by decide) ?_
          refine AO.skipG 4 true 21 rfl rfl (congrArg (fun b => some (AV.fl (Value.bool b))) hc11) 23 rfl (by decide) ?_
          refine AO.skipG 4 true 21 rfl rfl (congrArg (fun b => some (AV.fl (Value.bool b))) hc11) 24 rfl (by decide) ?_
          refine AO.skipG 4 true 21 rfl rfl (congrArg (fun b => some (AV.fl (Value.bool b))) hc11) 25 rfl (by decide) ?_
          refine AO.skipG 4 true 21 rfl rfl (congrArg (fun b => some (AV.fl (Value.bool b))) hc11) 26 rfl (by decide) ?_
          refine AO.skipG 4 true 21 rfl rfl (congrArg (fun b => some (AV.fl (Value.bool b))) hc11) 27 rfl (by decide) ?_
          refine AO.skipG 4 true 21 rfl rfl (congrArg (fun b => some (AV.fl (Value.bool b))) hc11) 28 rfl (by decide) ?_
          refine AO.calm rfl 29 rfl (by decide) (eBool true) (Calm.pickT rfl (congrArg (fun b => some (AV.fl (Value.bool b))) hc11) rfl) ?_
          cases hq9
          refine AO.nilE ⟨rfl, rfl⟩ ?_ ?_
          · exact ⟨rfl, rfl, rfl, trivial⟩
          · exact (Sub.refl _)
        · have hq9 := (if_neg hc11).symm.trans hq9
          refine AO.calmG 4 false 21 rfl rfl (congrArg (fun b => some (AV.fl (Value.bool b))) (eq_false_of_ne_true hc11)) 22 rfl (by decide) (.fz 4 (p0.map e43)) (Calm.move rfl rfl) ?_
          refine AO.calmG 4 false 21 rfl rfl (congrArg (fun b => some (AV.fl (Value.bool b))) (eq_false_of_ne_true hc11)) 23 rfl (by decide) (eI64 p1) (Calm.move rfl rfl) ?_
          obtain ⟨t12, et12, hq9⟩ := of_bind hq9
          refine AO.callG 4 false 21 [(.fz 4 (p0.map e43)), (eI64 p1)] (eI64 t12) 24 rfl (by decide) ok31 rfl rfl (congrArg (fun b => some (AV.fl (Value.bool b))) (eq_false_of_ne_true hc11)) rfl rfl ⟨rfl, rfl, rfl, rfl, trivial⟩ (ast_Size_spec et12) ?_
          refine AO.calmG 4 false 21 rfl rfl (congrArg (fun b => some (AV.fl (Value.bool b))) (eq_false_of_ne_true hc11)) 25 rfl (by decide) (.fz 4 (p0.map e43)) (Calm.move rfl rfl) ?_
          refine AO.calmG 4 false 21 rfl rfl (congrArg (fun b => some (AV.fl (Value.bool b))) (eq_false_of_ne_true hc11)) 26 rfl (by decide) (eI64 p1) (Calm.move rfl rfl) ?_
          obtain ⟨t13, et13, hq9⟩ := of_bind hq9
          refine AO.callG 4 false 21 [(.fz 4 (p0.map e43)), (eI64 p1)] (eI64 t13) 27 rfl (by decide) ok32 rfl rfl (congrArg (fun b => some (AV.fl (Value.bool b))) (eq_false_of_ne_true hc11)) rfl rfl ⟨rfl, rfl, rfl, rfl, trivial⟩ (bosketref31_Size_spec et13) ?_
          refine AO.calmG 4 false 21 rfl rfl (congrArg (fun b => some (AV.fl (Value.bool b))) (eq_false_of_ne_true hc11)) 28 rfl (by decide) (eBool (decide (t12 ≠ t13))) (Calm.int rfl rfl rfl rfl) ?_
          refine AO.calm rfl 29 rfl (by decide) (eBool (decide (t12 ≠ t13))) (Calm.pickF rfl (congrArg (fun b => some (AV.fl (Value.bool b))) (eq_false_of_ne_true hc11)) rfl) ?_
          cases hq9
          refine AO.nilE ⟨rfl, rfl⟩ ?_ ?_
          · exact ⟨rfl, rfl, rfl, trivial⟩
          · exact (Sub.refl _)
      · by_cases hc14 : b8 = true
        · have h := (if_pos hc14).symm.trans h
          refine AW.condT' b8 rfl hc14 ?_
          refine AW.seq ?_
          refine AW.reg ?_
          refine AO.calm rfl 4 rfl (by decide) (eBool false) (Calm.assign rfl rfl) ?_
          refine AO.nil (ρ' := [(4, (eBool false))]) (H' := []) ⟨rfl, trivial⟩ (Sub.refl _) ?_
          refine AW.ret (ρ' := [(4, (eBool false))]) (H' := []) ⟨rfl, trivial⟩ (Sub.refl _) ?_
          have hr := Option.some.inj h
          subst hr
          exact ⟨[(eBool false)], ⟨rfl, rfl, trivial⟩, rfl⟩
        · have h := (if_neg hc14).symm.trans h
          refine AW.condF' b8 rfl hc14 ?_
          refine AW.skip (ρ' := [(0, (.fz 4 (p0.map e43))), (5, (eBool t7))]) (H' := []) ⟨rfl, rfl, trivial⟩ (Sub.refl _) ?_
          refine AW.seq ?_
          refine AW.reg ?_
          refine AO.calm rfl 30 rfl (by decide) (.fz 4 (p0.map e43)) (Calm.move rfl rfl) ?_
          obtain ⟨t15, et15, h⟩ := of_bind h
          refine AO.callS [(.fz 4 (p0.map e43))] (.fz 1 (t15.map e37)) 31 rfl (by decide) ok33 rfl rfl rfl ⟨rfl, rfl, trivial⟩ (ast_Kids_spec et15) ?_
          refine AO.calm rfl 6 rfl (by decide) (.fz 1 (t15.map e37)) (Calm.assign rfl rfl) ?_
          refine AO.nil (ρ' := [(0, (.fz 4 (p0.map e43))), (5, (eBool t7)), (6, (.fz 1 (t15.map e37)))]) (H' := []) ⟨rfl, rfl, rfl, trivial⟩ (Sub.refl _) ?_
          refine AW.seq ?_
          refine AW.seq ?_
          refine AW.reg ?_
          refine AO.calm rfl 32 rfl (by decide) (eBool t7) (Calm.move rfl rfl) ?_
          refine AO.calm rfl 33 rfl (by decide) (eBool (!t7)) (Calm.not rfl rfl) ?_
          refine AO.nil (ρ' := [(0, (.fz 4 (p0.map e43))), (6, (.fz 1 (t15.map e37))), (33, (eBool (!t7)))]) (H' := []) ⟨rfl, rfl, rfl, trivial⟩ (Sub.refl _) ?_
          by_cases hc16 : (!t7) = true
          · have h := (if_pos hc16).symm.trans h
            refine AW.condT' (!t7) rfl hc16 ?_
            refine AW.seq ?_
            obtain ⟨b17, hq18, h⟩ := of_bind h
            refine AW.regM [(4, (eBool b17))] [] ?_ ?_
            · refine AO.calm rfl 34 rfl (by decide) (.fz 1 (t15.map e37)) (Calm.move rfl rfl) ?_
              refine AO.calm rfl 35 rfl (by decide) (eI64 (t15.length : Int)) (Calm.lenL rfl rfl Try.underlying49) ?_
              refine AO.calm rfl 36 rfl (by decide) (eBool (decide ((t15.length : Int) = (0 : Int)))) (Calm.int rfl rfl rfl rfl) ?_
              refine AO.calm rfl 37 rfl (by decide) (eBool (decide ((t15.length : Int) = (0 : Int)))) (Calm.move rfl rfl) ?_
              by_cases hc19 : (t15.length : Int) = (0 : Int)
              · have hq18 := (if_pos hc19).symm.trans hq18
                refine AO.calmG 3 true 37 rfl rfl (congrArg (fun b => some (AV.fl (Value.bool b))) (decide_eq_true hc19)) 38 rfl (by decide) (.fz 4 (p0.map e43)) (Calm.move rfl rfl) ?_
                obtain ⟨t20, et20, hq18⟩ := of_bind hq18
                refine AO.callG 3 true 37 [(.fz 4 (p0.map e43))] (eI64 t20) 39 rfl (by decide) ok34 rfl rfl (congrArg (fun b => some (AV.fl (Value.bool b))) (decide_eq_true hc19)) rfl rfl ⟨rfl, rfl, trivial⟩ (ast_Depth_spec et20) ?_
                refine AO.calmG 3 true 37 rfl rfl (congrArg (fun b => some (AV.fl (Value.bool b))) (decide_eq_true hc19)) 40 rfl (by decide) (eBool (decide (t20 = (0 : Int)))) (Calm.int rfl rfl rfl rfl) ?_
                refine AO.calm rfl 41 rfl (by decide) (eBool (decide (t20 = (0 : Int)))) (Calm.pickT rfl (congrArg (fun b => some (AV.fl (Value.bool b))) (decide_eq_true hc19)) rfl) ?_
                refine AO.calm rfl 4 rfl (by decide) (eBool (decide (t20 = (0 : Int)))) (Calm.assign rfl rfl) ?_
                cases hq18
                refine AO.nilE ⟨rfl, rfl⟩ ?_ ?_
                · exact ⟨rfl, trivial⟩
                · exact (Sub.refl _)
              · have hq18 := (if_neg hc19).symm.trans hq18
                refine AO.skipG 3 false 37 rfl rfl (congrArg (fun b => some (AV.fl (Value.bool b))) (decide_eq_false hc19)) 38 rfl (by decide) ?_
                refine AO.skipG 3 false 37 rfl rfl (congrArg (fun b => some (AV.fl (Value.bool b))) (decide_eq_false hc19)) 39 rfl (by decide) ?_
                refine AO.skipG 3 false 37 rfl rfl (congrArg (fun b => some (AV.fl (Value.bool b))) (decide_eq_false hc19)) 40 rfl (by decide) ?_
                refine AO.calm rfl 41 rfl (by decide) (eBool false) (Calm.pickF rfl (congrArg (fun b => some (AV.fl (Value.bool b))) (decide_eq_false hc19)) rfl) ?_
                refine AO.calm rfl 4 rfl (by decide) (eBool false) (Calm.assign rfl rfl) ?_
                cases hq18
                refine AO.nilE ⟨rfl, rfl⟩ ?_ ?_
                · exact ⟨rfl, trivial⟩
                · exact (Sub.refl _)
            · refine AW.ret (ρ' := [(4, (eBool b17))]) (H' := []) ⟨rfl, trivial⟩ (Sub.refl _) ?_
              have hr := Option.some.inj h
              subst hr
              exact ⟨[(eBool b17)], ⟨rfl, rfl, trivial⟩, rfl⟩
          · have h := (if_neg hc16).symm.trans h
            refine AW.condF' (!t7) rfl hc16 ?_
            refine AW.skip (ρ' := [(0, (.fz 4 (p0.map e43))), (6, (.fz 1 (t15.map e37)))]) (H' := []) ⟨rfl, rfl, trivial⟩ (Sub.refl _) ?_
            refine AW.seq ?_
            refine AW.reg ?_
            refine AO.calm rfl 42 rfl (by decide) (.fz 4 (p0.map e43)) (Calm.move rfl rfl) ?_
            obtain ⟨t21, et21, h⟩ := of_bind h
            refine AO.callS [(.fz 4 (p0.map e43))] (.fz 1 (t21.map e37)) 43 rfl (by decide) ok35 rfl rfl rfl ⟨rfl, rfl, trivial⟩ (bosketref31_Kids_spec et21) ?_
            refine AO.calm rfl 7 rfl (by decide) (.fz 1 (t21.map e37)) (Calm.assign rfl rfl) ?_
            refine AO.nil (ρ' := [(0, (.fz 4 (p0.map e43))), (6, (.fz 1 (t15.map e37))), (7, (.fz 1 (t21.map e37)))]) (H' := []) ⟨rfl, rfl, rfl, trivial⟩ (Sub.refl _) ?_
            refine AW.seq ?_
            refine AW.seq ?_
            obtain ⟨b22, hq23, h⟩ := of_bind h
            refine AW.regM [(0, (.fz 4 (p0.map e43))), (6, (.fz 1 (t15.map e37))), (7, (.fz 1 (t21.map e37))), (55, (eBool b22))] [] ?_ ?_
            · refine AO.calm rfl 44 rfl (by decide) (.fz 1 (t15.map e37)) (Calm.move rfl rfl) ?_
              refine AO.calm rfl 45 rfl (by decide) (eI64 (t15.length : Int)) (Calm.lenL rfl rfl Try.underlying49) ?_
              refine AO.calm rfl 46 rfl (by decide) (.fz 1 (t21.map e37)) (Calm.move rfl rfl) ?_
              refine AO.calm rfl 47 rfl (by decide) (eI64 (t21.length : Int)) (Calm.lenL rfl rfl Try.underlying49) ?_
              refine AO.calm rfl 48 rfl (by decide) (eBool (decide ((t15.length : Int) ≠ (t21.length : Int)))) (Calm.int rfl rfl rfl rfl) ?_
              refine AO.calm rfl 49 rfl (by decide) (eBool (decide ((t15.length : Int) ≠ (t21.length : Int)))) (Calm.move rfl rfl) ?_
              by_cases hc24 : (t15.length : Int) ≠ (t21.length : Int)
              · have hq23 := (if_pos hc24).symm.trans hq23
                refine AO.skipG 5 true 49 rfl rfl (congrArg (fun b => some (AV.fl (Value.bool b))) (decide_eq_true hc24)) 50 rfl (by decide) ?_
                refine AO.skipG 5 true 49 rfl rfl (congrArg (fun b => some (AV.fl (Value.bool b))) (decide_eq_true hc24)) 51 rfl (by decide) ?_
                refine AO.skipG 5 true 49 rfl rfl (congrArg (fun b => some (AV.fl (Value.bool b))) (decide_eq_true hc24)) 52 rfl (by decide) ?_
                refine AO.skipG 5 true 49 rfl rfl (congrArg (fun b => some (AV.fl (Value.bool b))) (decide_eq_true hc24)) 53 rfl (by decide) ?_
                refine AO.skipG 5 true 49 rfl rfl (congrArg (fun b => some (AV.fl (Value.bool b))) (decide_eq_true hc24)) 54 rfl (by decide) ?_
                refine AO.calm rfl 55 rfl (by decide) (eBool true) (Calm.pickT rfl (congrArg (fun b => some (AV.fl (Value.bool b))) (decide_eq_true hc24)) rfl) ?_
                cases hq23
                refine AO.nilE ⟨rfl, rfl⟩ ?_ ?_
                · exact ⟨rfl, rfl, rfl, rfl, trivial⟩
                · exact (Sub.refl _)
              · have hq23 := (if_neg hc24).symm.trans hq23
                refine AO.calmG 5 false 49 rfl rfl (congrArg (fun b => some (AV.fl (Value.bool b))) (decide_eq_false hc24)) 50 rfl (by decide) (.fz 4 (p0.map e43)) (Calm.move rfl rfl) ?_
                obtain ⟨t25, et25, hq23⟩ := of_bind hq23
                refine AO.callG 5 false 49 [(.fz 4 (p0.map e43))] (eI64 t25) 51 rfl (by decide) ok34 rfl rfl (congrArg (fun b => some (AV.fl (Value.bool b))) (decide_eq_false hc24)) rfl rfl ⟨rfl, rfl, trivial⟩ (ast_Depth_spec et25) ?_
                refine AO.calmG 5 false 49 rfl rfl (congrArg (fun b => some (AV.fl (Value.bool b))) (decide_eq_false hc24)) 52 rfl (by decide) (.fz 4 (p0.map e43)) (Calm.move rfl rfl) ?_
                obtain ⟨t26, et26, hq23⟩ := of_bind hq23
                refine AO.callG 5 false 49 [(.fz 4 (p0.map e43))] (eI64 t26) 53 rfl (by decide) ok36 rfl rfl (congrArg (fun b => some (AV.fl (Value.bool b))) (decide_eq_false hc24)) rfl rfl ⟨rfl, rfl, trivial⟩ (bosketref31_Depth_spec et26) ?_
                refine AO.calmG 5 false 49 rfl rfl (congrArg (fun b => some (AV.fl (Value.bool b))) (decide_eq_false hc24)) 54 rfl (by decide) (eBool (decide (t25 ≠ t26))) (Calm.int rfl rfl rfl rfl) ?_
                refine AO.calm rfl 55 rfl (by decide) (eBool (decide (t25 ≠ t26))) (Calm.pickF rfl (congrArg (fun b => some (AV.fl (Value.bool b))) (decide_eq_false hc24)) rfl) ?_
                cases hq23
                refine AO.nilE ⟨rfl, rfl⟩ ?_ ?_
                · exact ⟨rfl, rfl, rfl, rfl, trivial⟩
                · exact (Sub.refl _)
            · by_cases hc27 : b22 = true
              · have h := (if_pos hc27).symm.trans h
                refine AW.condT' b22 rfl hc27 ?_
                refine AW.seq ?_
                refine AW.reg ?_
                refine AO.calm rfl 4 rfl (by decide) (eBool false) (Calm.assign rfl rfl) ?_
                refine AO.nil (ρ' := [(4, (eBool false))]) (H' := []) ⟨rfl, trivial⟩ (Sub.refl _) ?_
                refine AW.ret (ρ' := [(4, (eBool false))]) (H' := []) ⟨rfl, trivial⟩ (Sub.refl _) ?_
                have hr := Option.some.inj h
                subst hr
                exact ⟨[(eBool false)], ⟨rfl, rfl, trivial⟩, rfl⟩
              · have h := (if_neg hc27).symm.trans h
                refine AW.condF' b22 rfl hc27 ?_
                refine AW.skip (ρ' := [(0, (.fz 4 (p0.map e43))), (6, (.fz 1 (t15.map e37))), (7, (.fz 1 (t21.map e37)))]) (H' := []) ⟨rfl, rfl, rfl, trivial⟩ (Sub.refl _) ?_
                refine AW.seq_mid (fun ρ H => ρ = [(0, (.fz 4 (p0.map e43))), (6, (.fz 1 (t15.map e37)))] ∧ H = [] ∧ bosketlaw31_AstTells_c0 k p0 t15 = some r) ?_ ?_
                · refine AW.seq ?_
                  refine AW.reg ?_
                  refine AO.calm rfl 8 rfl (by decide) (eI64 (0 : Int)) (Calm.assign rfl rfl) ?_
                  refine AO.nil (ρ' := [(0, (.fz 4 (p0.map e43))), (6, (.fz 1 (t15.map e37))), (7, (.fz 1 (t21.map e37))), (8, (eI64 (0 : Int)))]) (H' := []) ⟨rfl, rfl, rfl, rfl, trivial⟩ (Sub.refl _) ?_
                  refine AW.block ?_
                  refine AW.weak (ρ' := [(0, (.fz 4 (p0.map e43))), (6, (.fz 1 (t15.map e37))), (7, (.fz 1 (t21.map e37))), (8, (eI64 (0 : Int)))]) (H' := []) ⟨rfl, rfl, rfl, rfl, trivial⟩ (Sub.refl _) ?_
                  refine AW.loop (fun kq ρ H => ∃ (x32 : Int), ρ = [(0, (.fz 4 (p0.map e43))), (6, (.fz 1 (t15.map e37))), (7, (.fz 1 (t21.map e37))), (8, (eI64 x32))] ∧ H = [] ∧ bosketlaw31_AstTells_l1 k p0 t15 t21 kq x32 = some r) k ⟨(0 : Int), rfl, rfl, h⟩ ?_
                  rintro kq34 _ _ ⟨x32, rfl, rfl, h⟩
                  cases kq34 with
                  | zero => rw [bosketlaw31_AstTells_l1.eq_1] at h; cases h
                  | succ kq34 =>
                  rw [bosketlaw31_AstTells_l1.eq_2] at h
                  generalize hrec33 : bosketlaw31_AstTells_l1 k p0 t15 t21 kq34 = rec33 at h
                  refine AW.seq ?_
                  refine AW.seq ?_
                  refine AW.reg ?_
                  refine AO.calm rfl 56 rfl (by decide) (eI64 x32) (Calm.move rfl rfl) ?_
                  refine AO.calm rfl 57 rfl (by decide) (.fz 1 (t21.map e37)) (Calm.move rfl rfl) ?_
                  refine AO.calm rfl 58 rfl (by decide) (eI64 (t21.length : Int)) (Calm.lenL rfl rfl Try.underlying49) ?_
                  refine AO.calm rfl 59 rfl (by decide) (eBool (decide (x32 < (t21.length : Int)))) (Calm.int rfl rfl rfl rfl) ?_
                  refine AO.nil (ρ' := [(0, (.fz 4 (p0.map e43))), (6, (.fz 1 (t15.map e37))), (7, (.fz 1 (t21.map e37))), (8, (eI64 x32)), (59, (eBool (decide (x32 < (t21.length : Int)))))]) (H' := []) ⟨rfl, rfl, rfl, rfl, rfl, trivial⟩ (Sub.refl _) ?_
                  by_cases hc35 : x32 < (t21.length : Int)
                  · have h := (if_pos hc35).symm.trans h
                    refine AW.condP (x32 < (t21.length : Int)) rfl hc35 ?_
                    refine AW.skip (ρ' := [(0, (.fz 4 (p0.map e43))), (6, (.fz 1 (t15.map e37))), (7, (.fz 1 (t21.map e37))), (8, (eI64 x32))]) (H' := []) ⟨rfl, rfl, rfl, rfl, trivial⟩ (Sub.refl _) ?_
                    refine AW.seq ?_
                    refine AW.block ?_
                    refine AW.seq ?_
                    refine AW.regQ (by rfl) (by decide +kernel) ?_
                    refine AQ.calm rfl 62 rfl (by decide) (.fz 1 (t15.map e37)) (Calm.move rfl rfl) ?_
                    refine AQ.calm rfl 63 rfl (by decide) (eI64 x32) (Calm.move rfl rfl) ?_
                    obtain ⟨hg36, h⟩ := of_guard h
                    refine AQ.calm rfl 64 rfl (by decide) (.rp (.fz 4 ((lget t15 x32).map e43))) (Calm.idxL (f := e37) rfl rfl rfl hg36 Try.underlying49 sz37) ?_
                    refine AQ.calm rfl 65 rfl (by decide) (.fz 4 ((lget t15 x32).map e43)) (Calm.loadRp rfl rfl ag37 sz37) ?_
                    refine AQ.calm rfl 66 rfl (by decide) (.fz 1 (t21.map e37)) (Calm.move rfl rfl) ?_
                    refine AQ.calm rfl 67 rfl (by decide) (eI64 x32) (Calm.move rfl rfl) ?_
                    obtain ⟨hg37, h⟩ := of_guard h
                    refine AQ.calm rfl 68 rfl (by decide) (.rp (.fz 4 ((lget t21 x32).map e43))) (Calm.idxL (f := e37) rfl rfl rfl hg37 Try.underlying49 sz37) ?_
                    refine AQ.calm rfl 69 rfl (by decide) (.fz 4 ((lget t21 x32).map e43)) (Calm.loadRp rfl rfl ag37 sz37) ?_
                    obtain ⟨t38, et38, h⟩ := of_bind h
                    refine AQ.calm rfl 70 rfl (by decide) (eBool t38) (Calm.call (args := [(.fz 4 ((lget t15 x32).map e43)), (.fz 4 ((lget t21 x32).map e43))]) rfl rfl ok27 ⟨rfl, rfl, rfl, rfl, trivial⟩ rfl (bosketref31_Same_spec et38)) ?_
                    refine AQ.calm rfl 71 rfl (by decide) (eBool (!t38)) (Calm.not rfl rfl) ?_
                    refine AQ.nil (ρ' := [(0, (.fz 4 (p0.map e43))), (6, (.fz 1 (t15.map e37))), (7, (.fz 1 (t21.map e37))), (8, (eI64 x32)), (71, (eBool (!t38)))]) ⟨rfl, rfl, rfl, rfl, rfl, trivial⟩ ?_
                    by_cases hc39 : (!t38) = true
                    · have h := (if_pos hc39).symm.trans h
                      refine AW.condT' (!t38) rfl hc39 ?_
                      refine AW.seq ?_
                      refine AW.reg ?_
                      refine AO.calm rfl 4 rfl (by decide) (eBool false) (Calm.assign rfl rfl) ?_
                      refine AO.nil (ρ' := [(4, (eBool false))]) (H' := []) ⟨rfl, trivial⟩ (Sub.refl _) ?_
                      refine AW.ret (ρ' := [(4, (eBool false))]) (H' := []) ⟨rfl, trivial⟩ (Sub.refl _) ?_
                      have hr := Option.some.inj h
                      subst hr
                      exact ⟨[(eBool false)], ⟨rfl, rfl, trivial⟩, rfl⟩
                    · have h := (if_neg hc39).symm.trans h
                      refine AW.condF' (!t38) rfl hc39 ?_
                      refine AW.skip (ρ' := [(0, (.fz 4 (p0.map e43))), (6, (.fz 1 (t15.map e37))), (7, (.fz 1 (t21.map e37))), (8, (eI64 x32))]) (H' := []) ⟨rfl, rfl, rfl, rfl, trivial⟩ (Sub.refl _) ?_
                      refine AW.reg ?_
                      refine AO.calm rfl 60 rfl (by decide) (eI64 x32) (Calm.move rfl rfl) ?_
                      refine AO.calm rfl 61 rfl (by decide) (eI64 (w64 (x32 + (1 : Int)))) (Calm.int rfl rfl rfl rfl) ?_
                      refine AO.calm rfl 8 rfl (by decide) (eI64 (w64 (x32 + (1 : Int)))) (Calm.assign rfl rfl) ?_
                      refine AO.nil (ρ' := [(0, (.fz 4 (p0.map e43))), (6, (.fz 1 (t15.map e37))), (7, (.fz 1 (t21.map e37))), (8, (eI64 (w64 (x32 + (1 : Int)))))]) (H' := []) ⟨rfl, rfl, rfl, rfl, trivial⟩ (Sub.refl _) ?_
                      exact ⟨kq34, Nat.lt_succ_self _, (w64 (x32 + (1 : Int))), rfl, rfl, by rw [hrec33]; exact h⟩
                  · have h := (if_neg hc35).symm.trans h
                    refine AW.condN (x32 < (t21.length : Int)) rfl hc35 ?_
                    refine AW.exit (ρ' := [(0, (.fz 4 (p0.map e43))), (6, (.fz 1 (t15.map e37)))]) (H' := []) ⟨rfl, rfl, trivial⟩ (Sub.refl _) ?_
                    exact ⟨rfl, rfl, h⟩
                · rintro _ _ ⟨rfl, rfl, h⟩
                  rw [bosketlaw31_AstTells_c0.eq_1] at h
                  refine AW.seq ?_
                  refine AW.reg ?_
                  refine AO.calm rfl 72 rfl (by decide) (.fz 4 (p0.map e43)) (Calm.move rfl rfl) ?_
                  obtain ⟨hg28, h⟩ := of_guard h
                  refine AO.calm rfl 73 rfl (by decide) (.rp (e43 (lget p0 (0 : Int)))) (Calm.idxL (f := e43) rfl rfl rfl hg28 Try.underlying37 sz43) ?_
                  refine AO.calm rfl 74 rfl (by decide) (e43 (lget p0 (0 : Int))) (Calm.loadRp rfl rfl ag43 sz43) ?_
                  refine AO.alloc rfl 9 rfl (by decide) rfl zr43 lay43 fun n29 => ?_
                  refine AO.store (X' := (e43 (lget p0 (0 : Int)))) 0 rfl rfl rfl rfl rfl rfl (Put.cast Put.here rfl) rfl rfl sz43 rfl ?_
                  refine AO.nil (ρ' := [(0, (.fz 4 (p0.map e43))), (6, (.fz 1 (t15.map e37))), (9, (.ptr n29 0))]) (H' := [(n29, .mem (e43 (lget p0 (0 : Int))))]) ⟨rfl, rfl, rfl, trivial⟩ (Sub.refl _) ?_
                  refine AW.seq ?_
                  refine AW.reg ?_
                  refine AO.calm rfl 75 rfl (by decide) (.ptr n29 2) (Calm.fldPtr rfl rfl Try.underlying43 rfl sz3 _ rfl) ?_
                  refine AO.store (X' := (.st [(1, (eBool ((lget p0 (0 : Int)).f0))), (1, (eI64 ((lget p0 (0 : Int)).f1))), (1, (eI64 (7 : Int))), (1, (eStr ((lget p0 (0 : Int)).f3)))])) 0 rfl rfl rfl rfl rfl rfl (Put.cast (Put.fldS (Put.fldS (Put.fld0 Put.here))) rfl) rfl rfl sz3 rfl ?_
                  refine AO.nil (ρ' := [(0, (.fz 4 (p0.map e43))), (6, (.fz 1 (t15.map e37))), (9, (.ptr n29 0))]) (H' := [(n29, .mem (.st [(1, (eBool ((lget p0 (0 : Int)).f0))), (1, (eI64 ((lget p0 (0 : Int)).f1))), (1, (eI64 (7 : Int))), (1, (eStr ((lget p0 (0 : Int)).f3)))]))]) ⟨rfl, rfl, rfl, trivial⟩ (Sub.refl _) ?_
                  refine AW.seq ?_
                  refine AW.reg ?_
                  refine AO.calm rfl 76 rfl (by decide) (e43 (S43.mk ((lget p0 (0 : Int)).f0) ((lget p0 (0 : Int)).f1) (7 : Int) ((lget p0 (0 : Int)).f3))) (Calm.load 0 rfl rfl rfl (At.cast At.here rfl) ag43 sz43) ?_
                  refine AO.calm rfl 77 rfl (by decide) (.fz 1 (t15.map e37)) (Calm.move rfl rfl) ?_
                  obtain ⟨t30, et30, h⟩ := of_bind h
                  refine AO.callS [(e43 (S43.mk ((lget p0 (0 : Int)).f0) ((lget p0 (0 : Int)).f1) (7 : Int) ((lget p0 (0 : Int)).f3))), (.fz 1 (t15.map e37))] (.fz 4 (t30.map e43)) 78 rfl (by decide) ok38 rfl rfl rfl ⟨rfl, rfl, rfl, rfl, trivial⟩ (ast_Join_spec et30) ?_
                  refine AO.calm rfl 79 rfl (by decide) (.fz 4 (p0.map e43)) (Calm.move rfl rfl) ?_
                  obtain ⟨t31, et31, h⟩ := of_bind h
                  refine AO.callS [(.fz 4 (t30.map e43)), (.fz 4 (p0.map e43))] (eBool t31) 80 rfl (by decide) ok37 rfl rfl rfl ⟨rfl, rfl, rfl, rfl, trivial⟩ (ast_Same_spec et31) ?_
                  refine AO.calm rfl 4 rfl (by decide) (eBool t31) (Calm.assign rfl rfl) ?_
                  refine AO.nil (ρ' := [(4, (eBool t31))]) (H' := []) ⟨rfl, trivial⟩ (Sub.nil _) ?_
                  refine AW.ret (ρ' := [(4, (eBool t31))]) (H' := []) ⟨rfl, trivial⟩ (Sub.refl _) ?_
                  have hr := Option.some.inj h
                  subst hr
                  exact ⟨[(eBool t31)], ⟨rfl, rfl, trivial⟩, rfl⟩
end Go.Avl.T2
