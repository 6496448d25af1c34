/- Parts: T2f36, T2f22, T2f27, T2f65, T2f37, T2f85, T2f66, T2f38, T2f19, T2f80, T2f59, T2f94, T2f79, T2f58. -/
import Derived.Test.YtmgiffbobkgcmaaAF1
/- bosket/bosketref31.Depth; printed by avmain.py. -/
namespace Go.Avl.T2
open Go Go.RowKit Go.Proofs Go.Avl
set_option linter.unusedVariables false
set_option maxRecDepth 100000
set_option maxHeartbeats 4000000
attribute [local irreducible] AW AO AQ Spec SpecH Calm

def bosketref31_Depth_c0 (k : Nat) (x3 : Int) : Option Int :=
  some ((w64 (x3 + (1 : Int))))
def bosketref31_Depth_l1 (k : Nat) (self : ((List S43) → Option Int)) (t2 : (List (List S43))) : Nat → Int → Int → Option Int
  | 0, _, _ => none
  | j + 1, x4, x5 =>
    if x5 < (t2.length : Int) then if 0 ≤ x5 ∧ x5 < (t2.length : Int) then (self (lget t2 x5)).bind fun t10 =>
    (bosketref31_Depth_l1 k self t2 j) (max x4 t10) (w64 (x5 + (1 : Int)))
    else none
    else bosketref31_Depth_c0 k x4
def bosketref31_Depth_r (k : Nat) : Nat → (List S43) → Option Int
  | 0, _ => none
  | j + 1, p0 =>
    (bosketref31_Kids k p0).bind fun t2 =>
    bosketref31_Depth_l1 k (bosketref31_Depth_r k j) t2 k (0 : Int) (0 : Int)
def bosketref31_Depth (k : Nat) (p0 : (List S43)) : Option Int := bosketref31_Depth_r k k p0
theorem bosketref31_Depth_spec' (k : Nat) : ∀ (j : Nat) (p0 : (List S43)) (r : Int), bosketref31_Depth_r k j p0 = some r → Spec Try.prog 36 [(.fz 4 (p0.map e43))] (eI64 r) := by
  intro j
  induction j with
  | zero => intro p0 r h; rw [bosketref31_Depth_r.eq_1] at h; cases h
  | succ j hself =>
  intro p0 r h
  rw [bosketref31_Depth_r.eq_2] at h
  generalize hs : bosketref31_Depth_r k j = self at h hself
  refine Spec.intro (res := [.tmp 2]) Try.func36 rfl rfl rfl (Nat.le_of_ble_eq_true rfl) ?_
  refine AW.seq ?_
  refine AW.reg ?_
  refine AO.calm rfl 2 rfl (by decide) (eI64 (0 : Int)) (Calm.assign rfl rfl) ?_
  refine AO.nil (ρ' := [(0, (.fz 4 (p0.map e43)))]) (H' := []) ⟨rfl, trivial⟩ (Sub.refl _) ?_
  refine AW.seq ?_
  refine AW.reg ?_
  refine AO.calm rfl 3 rfl (by decide) (eI64 (0 : Int)) (Calm.assign rfl rfl) ?_
  refine AO.nil (ρ' := [(0, (.fz 4 (p0.map e43))), (3, (eI64 (0 : Int)))]) (H' := []) ⟨rfl, rfl, trivial⟩ (Sub.refl _) ?_
  refine AW.seq ?_
  refine AW.reg ?_
  refine AO.calm rfl 6 rfl (by decide) (.fz 4 (p0.map e43)) (Calm.move rfl rfl) ?_
  obtain ⟨t2, et2, h⟩ := of_bind h
  refine AO.callS [(.fz 4 (p0.map e43))] (.fz 1 (t2.map e37)) 7 rfl (by decide) ok35 rfl rfl rfl ⟨rfl, rfl, trivial⟩ (bosketref31_Kids_spec et2) ?_
  refine AO.calm rfl 4 rfl (by decide) (.fz 1 (t2.map e37)) (Calm.assign rfl rfl) ?_
  refine AO.nil (ρ' := [(3, (eI64 (0 : Int))), (4, (.fz 1 (t2.map e37)))]) (H' := []) ⟨rfl, rfl, trivial⟩ (Sub.refl _) ?_
  refine AW.seq_mid (fun ρ H => ∃ (x3 : Int), ρ = [(3, (eI64 x3))] ∧ H = [] ∧ bosketref31_Depth_c0 k x3 = some r) ?_ ?_
  · refine AW.seq ?_
    refine AW.reg ?_
    refine AO.calm rfl 5 rfl (by decide) (eI64 (0 : Int)) (Calm.assign rfl rfl) ?_
    refine AO.nil (ρ' := [(3, (eI64 (0 : Int))), (4, (.fz 1 (t2.map e37))), (5, (eI64 (0 : Int)))]) (H' := []) ⟨rfl, rfl, rfl, trivial⟩ (Sub.refl _) ?_
    refine AW.block ?_
    refine AW.weak (ρ' := [(3, (eI64 (0 : Int))), (4, (.fz 1 (t2.map e37))), (5, (eI64 (0 : Int)))]) (H' := []) ⟨rfl, rfl, rfl, trivial⟩ (Sub.refl _) ?_
    refine AW.loop (fun kq ρ H => ∃ (x4 : Int) (x5 : Int), ρ = [(3, (eI64 x4)), (4, (.fz 1 (t2.map e37))), (5, (eI64 x5))] ∧ H = [] ∧ bosketref31_Depth_l1 k self t2 kq x4 x5 = some r) k ⟨(0 : Int), (0 : Int), rfl, rfl, h⟩ ?_
    rintro kq7 _ _ ⟨x4, x5, rfl, rfl, h⟩
    cases kq7 with
    | zero => rw [bosketref31_Depth_l1.eq_1] at h; cases h
    | succ kq7 =>
    rw [bosketref31_Depth_l1.eq_2] at h
    generalize hrec6 : bosketref31_Depth_l1 k self t2 kq7 = rec6 at h
    refine AW.seq ?_
    refine AW.seq ?_
    refine AW.reg ?_
    refine AO.calm rfl 8 rfl (by decide) (eI64 x5) (Calm.move rfl rfl) ?_
    refine AO.calm rfl 9 rfl (by decide) (.fz 1 (t2.map e37)) (Calm.move rfl rfl) ?_
    refine AO.calm rfl 10 rfl (by decide) (eI64 (t2.length : Int)) (Calm.lenL rfl rfl Try.underlying49) ?_
    refine AO.calm rfl 11 rfl (by decide) (eBool (decide (x5 < (t2.length : Int)))) (Calm.int rfl rfl rfl rfl) ?_
    refine AO.nil (ρ' := [(3, (eI64 x4)), (4, (.fz 1 (t2.map e37))), (5, (eI64 x5)), (11, (eBool (decide (x5 < (t2.length : Int)))))]) (H' := []) ⟨rfl, rfl, rfl, rfl, trivial⟩ (Sub.refl _) ?_
    by_cases hc8 : x5 < (t2.length : Int)
    · have h := (if_pos hc8).symm.trans h
      refine AW.condP (x5 < (t2.length : Int)) rfl hc8 ?_
      refine AW.skip (ρ' := [(3, (eI64 x4)), (4, (.fz 1 (t2.map e37))), (5, (eI64 x5))]) (H' := []) ⟨rfl, rfl, rfl, trivial⟩ (Sub.refl _) ?_
      refine AW.seq ?_
      refine AW.block ?_
      refine AW.reg ?_
      refine AO.calm rfl 14 rfl (by decide) (eI64 x4) (Calm.move rfl rfl) ?_
      refine AO.calm rfl 15 rfl (by decide) (.fz 1 (t2.map e37)) (Calm.move rfl rfl) ?_
      refine AO.calm rfl 16 rfl (by decide) (eI64 x5) (Calm.move rfl rfl) ?_
      obtain ⟨hg9, h⟩ := of_guard h
      refine AO.calm rfl 17 rfl (by decide) (.rp (.fz 4 ((lget t2 x5).map e43))) (Calm.idxL (f := e37) rfl rfl rfl hg9 Try.underlying49 sz37) ?_
      refine AO.calm rfl 18 rfl (by decide) (.fz 4 ((lget t2 x5).map e43)) (Calm.loadRp rfl rfl ag37 sz37) ?_
      obtain ⟨t10, et10, h⟩ := of_bind h
      refine AO.callS [(.fz 4 ((lget t2 x5).map e43))] (eI64 t10) 19 rfl (by decide) ok36 rfl rfl rfl ⟨rfl, rfl, trivial⟩ (hself _ _ et10) ?_
      refine AO.calm rfl 20 rfl (by decide) (eI64 (max x4 t10)) (Calm.max2 rfl rfl rfl) ?_
      refine AO.calm rfl 3 rfl (by decide) (eI64 (max x4 t10)) (Calm.assign rfl rfl) ?_
      refine AO.nil (ρ' := [(3, (eI64 (max x4 t10))), (4, (.fz 1 (t2.map e37))), (5, (eI64 x5))]) (H' := []) ⟨rfl, rfl, rfl, trivial⟩ (Sub.refl _) ?_
      refine AW.reg ?_
      refine AO.calm rfl 12 rfl (by decide) (eI64 x5) (Calm.move rfl rfl) ?_
      refine AO.calm rfl 13 rfl (by decide) (eI64 (w64 (x5 + (1 : Int)))) (Calm.int rfl rfl rfl rfl) ?_
      refine AO.calm rfl 5 rfl (by decide) (eI64 (w64 (x5 + (1 : Int)))) (Calm.assign rfl rfl) ?_
      refine AO.nil (ρ' := [(3, (eI64 (max x4 t10))), (4, (.fz 1 (t2.map e37))), (5, (eI64 (w64 (x5 + (1 : Int)))))]) (H' := []) ⟨rfl, rfl, rfl, trivial⟩ (Sub.refl _) ?_
      exact ⟨kq7, Nat.lt_succ_self _, (max x4 t10), (w64 (x5 + (1 : Int))), rfl, rfl, by rw [hrec6]; exact h⟩
    · have h := (if_neg hc8).symm.trans h
      refine AW.condN (x5 < (t2.length : Int)) rfl hc8 ?_
      refine AW.exit (ρ' := [(3, (eI64 x4))]) (H' := []) ⟨rfl, trivial⟩ (Sub.refl _) ?_
      exact ⟨x4, rfl, rfl, h⟩
  · rintro _ _ ⟨x3, rfl, rfl, h⟩
    rw [bosketref31_Depth_c0.eq_1] at h
    refine AW.seq ?_
    refine AW.reg ?_
    refine AO.calm rfl 21 rfl (by decide) (eI64 x3) (Calm.move rfl rfl) ?_
    refine AO.calm rfl 22 rfl (by decide) (eI64 (w64 (x3 + (1 : Int)))) (Calm.int rfl rfl rfl rfl) ?_
    refine AO.calm rfl 2 rfl (by decide) (eI64 (w64 (x3 + (1 : Int)))) (Calm.assign rfl rfl) ?_
    refine AO.nil (ρ' := [(2, (eI64 (w64 (x3 + (1 : Int)))))]) (H' := []) ⟨rfl, trivial⟩ (Sub.refl _) ?_
    refine AW.ret (ρ' := [(2, (eI64 (w64 (x3 + (1 : Int)))))]) (H' := []) ⟨rfl, trivial⟩ (Sub.refl _) ?_
    have hr := Option.some.inj h
    subst hr
    exact ⟨[(eI64 (w64 (x3 + (1 : Int))))], ⟨rfl, rfl, trivial⟩, rfl⟩
theorem bosketref31_Depth_spec {k : Nat} {p0 : (List S43)} {r : Int} (h : bosketref31_Depth k p0 = some r) : Spec Try.prog 36 [(.fz 4 (p0.map e43))] (eI64 r) := bosketref31_Depth_spec' k k p0 r h
end Go.Avl.T2
/- bosket/bosketlaw31.Few; printed by avmain.py. -/
namespace Go.Avl.T2
open Go Go.RowKit Go.Proofs Go.Avl
set_option linter.unusedVariables false
set_option maxRecDepth 100000
set_option maxHeartbeats 4000000
attribute [local irreducible] AW AO AQ Spec SpecH Calm

def bosketlaw31_Few_c0 (k : Nat) : Option Bool :=
  some (true)
def bosketlaw31_Few_l1 (k : Nat) (p0 : (List S43)) : Nat → Int → Option Bool
  | 0, _ => none
  | j + 1, x3 =>
    if x3 < (p0.length : Int) then if 0 ≤ x3 ∧ x3 < (p0.length : Int) then if (40 : Int) < (((lget p0 x3).f3).size : Int) then some (false)
    else (bosketlaw31_Few_l1 k p0 j) (w64 (x3 + (1 : Int)))
    else none
    else bosketlaw31_Few_c0 k
def bosketlaw31_Few (k : Nat) (p0 : (List S43)) : Option Bool :=
  if (60 : Int) < (p0.length : Int) then some (false)
  else bosketlaw31_Few_l1 k p0 k (0 : Int)
theorem bosketlaw31_Few_spec {k : Nat} {p0 : (List S43)} {r : Bool} (h : bosketlaw31_Few k p0 = some r) : Spec Try.prog 22 [(.fz 4 (p0.map e43))] (eBool r) := by
  rw [bosketlaw31_Few.eq_1] at h
  refine Spec.intro (res := [.tmp 2]) Try.func22 rfl rfl rfl (Nat.le_of_ble_eq_true rfl) ?_
  refine AW.seq ?_
  refine AW.reg ?_
  refine AO.calm rfl 2 rfl (by decide) (eBool false) (Calm.assign rfl rfl) ?_
  refine AO.nil (ρ' := [(0, (.fz 4 (p0.map e43)))]) (H' := []) ⟨rfl, trivial⟩ (Sub.refl _) ?_
  refine AW.seq ?_
  refine AW.seq ?_
  refine AW.reg ?_
  refine AO.calm rfl 4 rfl (by decide) (.fz 4 (p0.map e43)) (Calm.move rfl rfl) ?_
  refine AO.calm rfl 5 rfl (by decide) (eI64 (p0.length : Int)) (Calm.lenL rfl rfl Try.underlying37) ?_
  refine AO.calm rfl 6 rfl (by decide) (eBool (decide ((60 : Int) < (p0.length : Int)))) (Calm.int rfl rfl rfl rfl) ?_
  refine AO.nil (ρ' := [(0, (.fz 4 (p0.map e43))), (6, (eBool (decide ((60 : Int) < (p0.length : Int)))))]) (H' := []) ⟨rfl, rfl, trivial⟩ (Sub.refl _) ?_
  by_cases hc2 : (60 : Int) < (p0.length : Int)
  · have h := (if_pos hc2).symm.trans h
    refine AW.condP ((60 : Int) < (p0.length : Int)) rfl hc2 ?_
    refine AW.seq ?_
    refine AW.reg ?_
    refine AO.calm rfl 2 rfl (by decide) (eBool false) (Calm.assign rfl rfl) ?_
    refine AO.nil (ρ' := [(2, (eBool false))]) (H' := []) ⟨rfl, trivial⟩ (Sub.refl _) ?_
    refine AW.ret (ρ' := [(2, (eBool false))]) (H' := []) ⟨rfl, trivial⟩ (Sub.refl _) ?_
    have hr := Option.some.inj h
    subst hr
    exact ⟨[(eBool false)], ⟨rfl, rfl, trivial⟩, rfl⟩
  · have h := (if_neg hc2).symm.trans h
    refine AW.condN ((60 : Int) < (p0.length : Int)) rfl hc2 ?_
    refine AW.skip (ρ' := [(0, (.fz 4 (p0.map e43)))]) (H' := []) ⟨rfl, trivial⟩ (Sub.refl _) ?_
    refine AW.seq_mid (fun ρ H => ρ = [] ∧ H = [] ∧ bosketlaw31_Few_c0 k = some r) ?_ ?_
    · refine AW.seq ?_
      refine AW.reg ?_
      refine AO.calm rfl 3 rfl (by decide) (eI64 (0 : Int)) (Calm.assign rfl rfl) ?_
      refine AO.nil (ρ' := [(0, (.fz 4 (p0.map e43))), (3, (eI64 (0 : Int)))]) (H' := []) ⟨rfl, rfl, trivial⟩ (Sub.refl _) ?_
      refine AW.block ?_
      refine AW.weak (ρ' := [(0, (.fz 4 (p0.map e43))), (3, (eI64 (0 : Int)))]) (H' := []) ⟨rfl, rfl, trivial⟩ (Sub.refl _) ?_
      refine AW.loop (fun kq ρ H => ∃ (x3 : Int), ρ = [(0, (.fz 4 (p0.map e43))), (3, (eI64 x3))] ∧ H = [] ∧ bosketlaw31_Few_l1 k p0 kq x3 = some r) k ⟨(0 : Int), rfl, rfl, h⟩ ?_
      rintro kq5 _ _ ⟨x3, rfl, rfl, h⟩
      cases kq5 with
      | zero => rw [bosketlaw31_Few_l1.eq_1] at h; cases h
      | succ kq5 =>
      rw [bosketlaw31_Few_l1.eq_2] at h
      generalize hrec4 : bosketlaw31_Few_l1 k p0 kq5 = rec4 at h
      refine AW.seq ?_
      refine AW.seq ?_
      refine AW.reg ?_
      refine AO.calm rfl 7 rfl (by decide) (eI64 x3) (Calm.move rfl rfl) ?_
      refine AO.calm rfl 8 rfl (by decide) (.fz 4 (p0.map e43)) (Calm.move rfl rfl) ?_
      refine AO.calm rfl 9 rfl (by decide) (eI64 (p0.length : Int)) (Calm.lenL rfl rfl Try.underlying37) ?_
      refine AO.calm rfl 10 rfl (by decide) (eBool (decide (x3 < (p0.length : Int)))) (Calm.int rfl rfl rfl rfl) ?_
      refine AO.nil (ρ' := [(0, (.fz 4 (p0.map e43))), (3, (eI64 x3)), (10, (eBool (decide (x3 < (p0.length : Int)))))]) (H' := []) ⟨rfl, rfl, rfl, trivial⟩ (Sub.refl _) ?_
      by_cases hc6 : x3 < (p0.length : Int)
      · have h := (if_pos hc6).symm.trans h
        refine AW.condP (x3 < (p0.length : Int)) rfl hc6 ?_
        refine AW.skip (ρ' := [(0, (.fz 4 (p0.map e43))), (3, (eI64 x3))]) (H' := []) ⟨rfl, rfl, trivial⟩ (Sub.refl _) ?_
        refine AW.seq ?_
        refine AW.block ?_
        refine AW.seq ?_
        refine AW.reg ?_
        refine AO.calm rfl 13 rfl (by decide) (.fz 4 (p0.map e43)) (Calm.move rfl rfl) ?_
        refine AO.calm rfl 14 rfl (by decide) (eI64 x3) (Calm.move rfl rfl) ?_
        obtain ⟨hg7, h⟩ := of_guard h
        refine AO.calm rfl 15 rfl (by decide) (.rp (e43 (lget p0 x3))) (Calm.idxL (f := e43) rfl rfl rfl hg7 Try.underlying37 sz43) ?_
        refine AO.calm rfl 16 rfl (by decide) (.rp (eStr ((lget p0 x3).f3))) (Calm.fldRp rfl rfl Try.underlying43 rfl sz9 (At.cast (At.fldS (At.fldS (At.fldS (At.fld0 At.here)))) rfl)) ?_
        refine AO.calm rfl 17 rfl (by decide) (eStr ((lget p0 x3).f3)) (Calm.loadRp rfl rfl ag9 sz9) ?_
        refine AO.calm rfl 18 rfl (by decide) (eI64 (((lget p0 x3).f3).size : Int)) (Calm.lenStr rfl rfl Try.underlying9) ?_
        refine AO.calm rfl 19 rfl (by decide) (eBool (decide ((40 : Int) < (((lget p0 x3).f3).size : Int)))) (Calm.int rfl rfl rfl rfl) ?_
        refine AO.nil (ρ' := [(0, (.fz 4 (p0.map e43))), (3, (eI64 x3)), (19, (eBool (decide ((40 : Int) < (((lget p0 x3).f3).size : Int)))))]) (H' := []) ⟨rfl, rfl, rfl, trivial⟩ (Sub.refl _) ?_
        by_cases hc8 : (40 : Int) < (((lget p0 x3).f3).size : Int)
        · have h := (if_pos hc8).symm.trans h
          refine AW.condP ((40 : Int) < (((lget p0 x3).f3).size : Int)) rfl hc8 ?_
          refine AW.seq ?_
          refine AW.reg ?_
          refine AO.calm rfl 2 rfl (by decide) (eBool false) (Calm.assign rfl rfl) ?_
          refine AO.nil (ρ' := [(2, (eBool false))]) (H' := []) ⟨rfl, trivial⟩ (Sub.refl _) ?_
          refine AW.ret (ρ' := [(2, (eBool false))]) (H' := []) ⟨rfl, trivial⟩ (Sub.refl _) ?_
          have hr := Option.some.inj h
          subst hr
          exact ⟨[(eBool false)], ⟨rfl, rfl, trivial⟩, rfl⟩
        · have h := (if_neg hc8).symm.trans h
          refine AW.condN ((40 : Int) < (((lget p0 x3).f3).size : Int)) rfl hc8 ?_
          refine AW.skip (ρ' := [(0, (.fz 4 (p0.map e43))), (3, (eI64 x3))]) (H' := []) ⟨rfl, rfl, trivial⟩ (Sub.refl _) ?_
          refine AW.reg ?_
          refine AO.calm rfl 11 rfl (by decide) (eI64 x3) (Calm.move rfl rfl) ?_
          refine AO.calm rfl 12 rfl (by decide) (eI64 (w64 (x3 + (1 : Int)))) (Calm.int rfl rfl rfl rfl) ?_
          refine AO.calm rfl 3 rfl (by decide) (eI64 (w64 (x3 + (1 : Int)))) (Calm.assign rfl rfl) ?_
          refine AO.nil (ρ' := [(0, (.fz 4 (p0.map e43))), (3, (eI64 (w64 (x3 + (1 : Int)))))]) (H' := []) ⟨rfl, rfl, trivial⟩ (Sub.refl _) ?_
          exact ⟨kq5, Nat.lt_succ_self _, (w64 (x3 + (1 : Int))), rfl, rfl, by rw [hrec4]; exact h⟩
      · have h := (if_neg hc6).symm.trans h
        refine AW.condN (x3 < (p0.length : Int)) rfl hc6 ?_
        refine AW.exit (ρ' := []) (H' := []) trivial (Sub.refl _) ?_
        exact ⟨rfl, rfl, h⟩
    · rintro _ _ ⟨rfl, rfl, h⟩
      rw [bosketlaw31_Few_c0.eq_1] at h
      refine AW.seq ?_
      refine AW.reg ?_
      refine AO.calm rfl 2 rfl (by decide) (eBool true) (Calm.assign rfl rfl) ?_
      refine AO.nil (ρ' := [(2, (eBool true))]) (H' := []) ⟨rfl, trivial⟩ (Sub.refl _) ?_
      refine AW.ret (ρ' := [(2, (eBool true))]) (H' := []) ⟨rfl, trivial⟩ (Sub.refl _) ?_
      have hr := Option.some.inj h
      subst hr
      exact ⟨[(eBool true)], ⟨rfl, rfl, trivial⟩, rfl⟩
end Go.Avl.T2
/- bosket/bosketref31.Same; printed by avmain.py. -/
namespace Go.Avl.T2
open Go Go.RowKit Go.Proofs Go.Avl
set_option linter.unusedVariables false
set_option maxRecDepth 100000
set_option maxHeartbeats 4000000
attribute [local irreducible] AW AO AQ Spec SpecH Calm

def bosketref31_Same_c0 (k : Nat) : Option Bool :=
  some (true)
def bosketref31_Same_l1 (k : Nat) (p0 : (List S43)) (p1 : (List S43)) : Nat → Int → Option Bool
  | 0, _ => none
  | j + 1, x4 =>
    if x4 < (p0.length : Int) then if 0 ≤ x4 ∧ x4 < (p0.length : Int) then if 0 ≤ x4 ∧ x4 < (p1.length : Int) then if (!(decide ((lget p0 x4) = (lget p1 x4)))) = true then some (false)
    else (bosketref31_Same_l1 k p0 p1 j) (w64 (x4 + (1 : Int)))
    else none
    else none
    else bosketref31_Same_c0 k
def bosketref31_Same (k : Nat) (p0 : (List S43)) (p1 : (List S43)) : Option Bool :=
  if (p0.length : Int) ≠ (p1.length : Int) then some (false)
  else bosketref31_Same_l1 k p0 p1 k (0 : Int)
theorem bosketref31_Same_spec {k : Nat} {p0 : (List S43)} {p1 : (List S43)} {r : Bool} (h : bosketref31_Same k p0 p1 = some r) : Spec Try.prog 27 [(.fz 4 (p0.map e43)), (.fz 4 (p1.map e43))] (eBool r) := by
  rw [bosketref31_Same.eq_1] at h
  refine Spec.intro (res := [.tmp 4]) Try.func27 rfl rfl rfl (Nat.le_of_ble_eq_true rfl) ?_
  refine AW.seq ?_
  refine AW.reg ?_
  refine AO.calm rfl 4 rfl (by decide) (eBool false) (Calm.assign rfl rfl) ?_
  refine AO.nil (ρ' := [(0, (.fz 4 (p0.map e43))), (1, (.fz 4 (p1.map e43)))]) (H' := []) ⟨rfl, rfl, trivial⟩ (Sub.refl _) ?_
  refine AW.seq ?_
  refine AW.seq ?_
  refine AW.reg ?_
  refine AO.calm rfl 6 rfl (by decide) (.fz 4 (p0.map e43)) (Calm.move rfl rfl) ?_
  refine AO.calm rfl 7 rfl (by decide) (eI64 (p0.length : Int)) (Calm.lenL rfl rfl Try.underlying37) ?_
  refine AO.calm rfl 8 rfl (by decide) (.fz 4 (p1.map e43)) (Calm.move rfl rfl) ?_
  refine AO.calm rfl 9 rfl (by decide) (eI64 (p1.length : Int)) (Calm.lenL rfl rfl Try.underlying37) ?_
  refine AO.calm rfl 10 rfl (by decide) (eBool (decide ((p0.length : Int) ≠ (p1.length : Int)))) (Calm.int rfl rfl rfl rfl) ?_
  refine AO.nil (ρ' := [(0, (.fz 4 (p0.map e43))), (1, (.fz 4 (p1.map e43))), (10, (eBool (decide ((p0.length : Int) ≠ (p1.length : Int)))))]) (H' := []) ⟨rfl, rfl, rfl, trivial⟩ (Sub.refl _) ?_
  by_cases hc3 : (p0.length : Int) ≠ (p1.length : Int)
  · have h := (if_pos hc3).symm.trans h
    refine AW.condP ((p0.length : Int) ≠ (p1.length : Int)) rfl hc3 ?_
    refine AW.seq ?_
    refine AW.reg ?_
    refine AO.calm rfl 4 rfl (by decide) (eBool false) (Calm.assign rfl rfl) ?_
    refine AO.nil (ρ' := [(4, (eBool false))]) (H' := []) ⟨rfl, trivial⟩ (Sub.refl _) ?_
    refine AW.ret (ρ' := [(4, (eBool false))]) (H' := []) ⟨rfl, trivial⟩ (Sub.refl _) ?_
    have hr := Option.some.inj h
    subst hr
    exact ⟨[(eBool false)], ⟨rfl, rfl, trivial⟩, rfl⟩
  · have h := (if_neg hc3).symm.trans h
    refine AW.condN ((p0.length : Int) ≠ (p1.length : Int)) rfl hc3 ?_
    refine AW.skip (ρ' := [(0, (.fz 4 (p0.map e43))), (1, (.fz 4 (p1.map e43)))]) (H' := []) ⟨rfl, rfl, trivial⟩ (Sub.refl _) ?_
    refine AW.seq_mid (fun ρ H => ρ = [] ∧ H = [] ∧ bosketref31_Same_c0 k = some r) ?_ ?_
    · refine AW.seq ?_
      refine AW.reg ?_
      refine AO.calm rfl 5 rfl (by decide) (eI64 (0 : Int)) (Calm.assign rfl rfl) ?_
      refine AO.nil (ρ' := [(0, (.fz 4 (p0.map e43))), (1, (.fz 4 (p1.map e43))), (5, (eI64 (0 : Int)))]) (H' := []) ⟨rfl, rfl, rfl, trivial⟩ (Sub.refl _) ?_
      refine AW.block ?_
      refine AW.weak (ρ' := [(0, (.fz 4 (p0.map e43))), (1, (.fz 4 (p1.map e43))), (5, (eI64 (0 : Int)))]) (H' := []) ⟨rfl, rfl, rfl, trivial⟩ (Sub.refl _) ?_
      refine AW.loop (fun kq ρ H => ∃ (x4 : Int), ρ = [(0, (.fz 4 (p0.map e43))), (1, (.fz 4 (p1.map e43))), (5, (eI64 x4))] ∧ H = [] ∧ bosketref31_Same_l1 k p0 p1 kq x4 = some r) k ⟨(0 : Int), rfl, rfl, h⟩ ?_
      rintro kq6 _ _ ⟨x4, rfl, rfl, h⟩
      cases kq6 with
      | zero => rw [bosketref31_Same_l1.eq_1] at h; cases h
      | succ kq6 =>
      rw [bosketref31_Same_l1.eq_2] at h
      generalize hrec5 : bosketref31_Same_l1 k p0 p1 kq6 = rec5 at h
      refine AW.seq ?_
      refine AW.seq ?_
      refine AW.reg ?_
      refine AO.calm rfl 11 rfl (by decide) (eI64 x4) (Calm.move rfl rfl) ?_
      refine AO.calm rfl 12 rfl (by decide) (.fz 4 (p0.map e43)) (Calm.move rfl rfl) ?_
      refine AO.calm rfl 13 rfl (by decide) (eI64 (p0.length : Int)) (Calm.lenL rfl rfl Try.underlying37) ?_
      refine AO.calm rfl 14 rfl (by decide) (eBool (decide (x4 < (p0.length : Int)))) (Calm.int rfl rfl rfl rfl) ?_
      refine AO.nil (ρ' := [(0, (.fz 4 (p0.map e43))), (1, (.fz 4 (p1.map e43))), (5, (eI64 x4)), (14, (eBool (decide (x4 < (p0.length : Int)))))]) (H' := []) ⟨rfl, rfl, rfl, rfl, trivial⟩ (Sub.refl _) ?_
      by_cases hc7 : x4 < (p0.length : Int)
      · have h := (if_pos hc7).symm.trans h
        refine AW.condP (x4 < (p0.length : Int)) rfl hc7 ?_
        refine AW.skip (ρ' := [(0, (.fz 4 (p0.map e43))), (1, (.fz 4 (p1.map e43))), (5, (eI64 x4))]) (H' := []) ⟨rfl, rfl, rfl, trivial⟩ (Sub.refl _) ?_
        refine AW.seq ?_
        refine AW.block ?_
        refine AW.seq ?_
        refine AW.regQ (by rfl) (by decide +kernel) ?_
        refine AQ.calm rfl 17 rfl (by decide) (.fz 4 (p0.map e43)) (Calm.move rfl rfl) ?_
        refine AQ.calm rfl 18 rfl (by decide) (eI64 x4) (Calm.move rfl rfl) ?_
        obtain ⟨hg8, h⟩ := of_guard h
        refine AQ.calm rfl 19 rfl (by decide) (.rp (e43 (lget p0 x4))) (Calm.idxL (f := e43) rfl rfl rfl hg8 Try.underlying37 sz43) ?_
        refine AQ.calm rfl 20 rfl (by decide) (e43 (lget p0 x4)) (Calm.loadRp rfl rfl ag43 sz43) ?_
        refine AQ.calm rfl 21 rfl (by decide) (.fz 4 (p1.map e43)) (Calm.move rfl rfl) ?_
        refine AQ.calm rfl 22 rfl (by decide) (eI64 x4) (Calm.move rfl rfl) ?_
        obtain ⟨hg9, h⟩ := of_guard h
        refine AQ.calm rfl 23 rfl (by decide) (.rp (e43 (lget p1 x4))) (Calm.idxL (f := e43) rfl rfl rfl hg9 Try.underlying37 sz43) ?_
        refine AQ.calm rfl 24 rfl (by decide) (e43 (lget p1 x4)) (Calm.loadRp rfl rfl ag43 sz43) ?_
        refine AQ.calm rfl 25 rfl (by decide) (eBool (!(decide ((lget p0 x4) = (lget p1 x4))))) (Calm.neS rfl rfl rfl eg43 (eqk43 (lget p0 x4) (lget p1 x4)) (by decide)) ?_
        refine AQ.nil (ρ' := [(0, (.fz 4 (p0.map e43))), (1, (.fz 4 (p1.map e43))), (5, (eI64 x4)), (25, (eBool (!(decide ((lget p0 x4) = (lget p1 x4))))))]) ⟨rfl, rfl, rfl, rfl, trivial⟩ ?_
        by_cases hc10 : (!(decide ((lget p0 x4) = (lget p1 x4)))) = true
        · have h := (if_pos hc10).symm.trans h
          refine AW.condT' (!(decide ((lget p0 x4) = (lget p1 x4)))) rfl hc10 ?_
          refine AW.seq ?_
          refine AW.reg ?_
          refine AO.calm rfl 4 rfl (by decide) (eBool false) (Calm.assign rfl rfl) ?_
          refine AO.nil (ρ' := [(4, (eBool false))]) (H' := []) ⟨rfl, trivial⟩ (Sub.refl _) ?_
          refine AW.ret (ρ' := [(4, (eBool false))]) (H' := []) ⟨rfl, trivial⟩ (Sub.refl _) ?_
          have hr := Option.some.inj h
          subst hr
          exact ⟨[(eBool false)], ⟨rfl, rfl, trivial⟩, rfl⟩
        · have h := (if_neg hc10).symm.trans h
          refine AW.condF' (!(decide ((lget p0 x4) = (lget p1 x4)))) rfl hc10 ?_
          refine AW.skip (ρ' := [(0, (.fz 4 (p0.map e43))), (1, (.fz 4 (p1.map e43))), (5, (eI64 x4))]) (H' := []) ⟨rfl, rfl, rfl, trivial⟩ (Sub.refl _) ?_
          refine AW.reg ?_
          refine AO.calm rfl 15 rfl (by decide) (eI64 x4) (Calm.move rfl rfl) ?_
          refine AO.calm rfl 16 rfl (by decide) (eI64 (w64 (x4 + (1 : Int)))) (Calm.int rfl rfl rfl rfl) ?_
          refine AO.calm rfl 5 rfl (by decide) (eI64 (w64 (x4 + (1 : Int)))) (Calm.assign rfl rfl) ?_
          refine AO.nil (ρ' := [(0, (.fz 4 (p0.map e43))), (1, (.fz 4 (p1.map e43))), (5, (eI64 (w64 (x4 + (1 : Int)))))]) (H' := []) ⟨rfl, rfl, rfl, trivial⟩ (Sub.refl _) ?_
          exact ⟨kq6, Nat.lt_succ_self _, (w64 (x4 + (1 : Int))), rfl, rfl, by rw [hrec5]; exact h⟩
      · have h := (if_neg hc7).symm.trans h
        refine AW.condN (x4 < (p0.length : Int)) rfl hc7 ?_
        refine AW.exit (ρ' := []) (H' := []) trivial (Sub.refl _) ?_
        exact ⟨rfl, rfl, h⟩
    · rintro _ _ ⟨rfl, rfl, h⟩
      rw [bosketref31_Same_c0.eq_1] at h
      refine AW.seq ?_
      refine AW.reg ?_
      refine AO.calm rfl 4 rfl (by decide) (eBool true) (Calm.assign rfl rfl) ?_
      refine AO.nil (ρ' := [(4, (eBool true))]) (H' := []) ⟨rfl, trivial⟩ (Sub.refl _) ?_
      refine AW.ret (ρ' := [(4, (eBool true))]) (H' := []) ⟨rfl, trivial⟩ (Sub.refl _) ?_
      have hr := Option.some.inj h
      subst hr
      exact ⟨[(eBool true)], ⟨rfl, rfl, trivial⟩, rfl⟩
end Go.Avl.T2
/- slices.Equal[[]bosket/api.Node,bosket/api.Node]; printed by avmain.py. -/
namespace Go.Avl.T2
open Go Go.RowKit Go.Proofs Go.Avl
set_option linter.unusedVariables false
set_option maxRecDepth 100000
set_option maxHeartbeats 4000000
attribute [local irreducible] AW AO AQ Spec SpecH Calm

def slices_Equal_api_Node_api_Node__c0 (k : Nat) : Option Bool :=
  some (true)
def slices_Equal_api_Node_api_Node__l1 (k : Nat) (p0 : (List S43)) (p1 : (List S43)) : Nat → Int → Option Bool
  | 0, _ => none
  | j + 1, x4 =>
    if x4 < (p0.length : Int) then if 0 ≤ x4 ∧ x4 < (p0.length : Int) then if 0 ≤ x4 ∧ x4 < (p1.length : Int) then if (!(decide ((lget p0 x4) = (lget p1 x4)))) = true then some (false)
    else (slices_Equal_api_Node_api_Node__l1 k p0 p1 j) (w64 (x4 + (1 : Int)))
    else none
    else none
    else slices_Equal_api_Node_api_Node__c0 k
def slices_Equal_api_Node_api_Node_ (k : Nat) (p0 : (List S43)) (p1 : (List S43)) : Option Bool :=
  if (p0.length : Int) ≠ (p1.length : Int) then some (false)
  else slices_Equal_api_Node_api_Node__l1 k p0 p1 k (0 : Int)
theorem slices_Equal_api_Node_api_Node__spec {k : Nat} {p0 : (List S43)} {p1 : (List S43)} {r : Bool} (h : slices_Equal_api_Node_api_Node_ k p0 p1 = some r) : Spec Try.prog 65 [(.fz 4 (p0.map e43)), (.fz 4 (p1.map e43))] (eBool r) := by
  rw [slices_Equal_api_Node_api_Node_.eq_1] at h
  refine Spec.intro (res := [.tmp 4]) Try.func65 rfl rfl rfl (Nat.le_of_ble_eq_true rfl) ?_
  refine AW.seq ?_
  refine AW.reg ?_
  refine AO.calm rfl 4 rfl (by decide) (eBool false) (Calm.assign rfl rfl) ?_
  refine AO.nil (ρ' := [(0, (.fz 4 (p0.map e43))), (1, (.fz 4 (p1.map e43)))]) (H' := []) ⟨rfl, rfl, trivial⟩ (Sub.refl _) ?_
  refine AW.seq ?_
  refine AW.seq ?_
  refine AW.reg ?_
  refine AO.calm rfl 6 rfl (by decide) (.fz 4 (p0.map e43)) (Calm.move rfl rfl) ?_
  refine AO.calm rfl 7 rfl (by decide) (eI64 (p0.length : Int)) (Calm.lenL rfl rfl Try.underlying37) ?_
  refine AO.calm rfl 8 rfl (by decide) (.fz 4 (p1.map e43)) (Calm.move rfl rfl) ?_
  refine AO.calm rfl 9 rfl (by decide) (eI64 (p1.length : Int)) (Calm.lenL rfl rfl Try.underlying37) ?_
  refine AO.calm rfl 10 rfl (by decide) (eBool (decide ((p0.length : Int) ≠ (p1.length : Int)))) (Calm.int rfl rfl rfl rfl) ?_
  refine AO.nil (ρ' := [(0, (.fz 4 (p0.map e43))), (1, (.fz 4 (p1.map e43))), (10, (eBool (decide ((p0.length : Int) ≠ (p1.length : Int)))))]) (H' := []) ⟨rfl, rfl, rfl, trivial⟩ (Sub.refl _) ?_
  by_cases hc3 : (p0.length : Int) ≠ (p1.length : Int)
  · have h := (if_pos hc3).symm.trans h
    refine AW.condP ((p0.length : Int) ≠ (p1.length : Int)) rfl hc3 ?_
    refine AW.seq ?_
    refine AW.reg ?_
    refine AO.calm rfl 4 rfl (by decide) (eBool false) (Calm.assign rfl rfl) ?_
    refine AO.nil (ρ' := [(4, (eBool false))]) (H' := []) ⟨rfl, trivial⟩ (Sub.refl _) ?_
    refine AW.ret (ρ' := [(4, (eBool false))]) (H' := []) ⟨rfl, trivial⟩ (Sub.refl _) ?_
    have hr := Option.some.inj h
    subst hr
    exact ⟨[(eBool false)], ⟨rfl, rfl, trivial⟩, rfl⟩
  · have h := (if_neg hc3).symm.trans h
    refine AW.condN ((p0.length : Int) ≠ (p1.length : Int)) rfl hc3 ?_
    refine AW.skip (ρ' := [(0, (.fz 4 (p0.map e43))), (1, (.fz 4 (p1.map e43)))]) (H' := []) ⟨rfl, rfl, trivial⟩ (Sub.refl _) ?_
    refine AW.seq_mid (fun ρ H => ρ = [] ∧ H = [] ∧ slices_Equal_api_Node_api_Node__c0 k = some r) ?_ ?_
    · refine AW.seq ?_
      refine AW.reg ?_
      refine AO.calm rfl 11 rfl (by decide) (.fz 4 (p0.map e43)) (Calm.move rfl rfl) ?_
      refine AO.calm rfl 12 rfl (by decide) (eI64 (p0.length : Int)) (Calm.lenL rfl rfl Try.underlying37) ?_
      refine AO.calm rfl 13 rfl (by decide) (eI64 (0 : Int)) (Calm.move rfl rfl) ?_
      refine AO.nil (ρ' := [(0, (.fz 4 (p0.map e43))), (1, (.fz 4 (p1.map e43))), (12, (eI64 (p0.length : Int))), (13, (eI64 (0 : Int)))]) (H' := []) ⟨rfl, rfl, rfl, rfl, trivial⟩ (Sub.refl _) ?_
      refine AW.block ?_
      refine AW.weak (ρ' := [(0, (.fz 4 (p0.map e43))), (1, (.fz 4 (p1.map e43))), (12, (eI64 (p0.length : Int))), (13, (eI64 (0 : Int)))]) (H' := []) ⟨rfl, rfl, rfl, rfl, trivial⟩ (Sub.refl _) ?_
      refine AW.loop (fun kq ρ H => ∃ (x4 : Int), ρ = [(0, (.fz 4 (p0.map e43))), (1, (.fz 4 (p1.map e43))), (12, (eI64 (p0.length : Int))), (13, (eI64 x4))] ∧ H = [] ∧ slices_Equal_api_Node_api_Node__l1 k p0 p1 kq x4 = some r) k ⟨(0 : Int), rfl, rfl, h⟩ ?_
      rintro kq6 _ _ ⟨x4, rfl, rfl, h⟩
      cases kq6 with
      | zero => rw [slices_Equal_api_Node_api_Node__l1.eq_1] at h; cases h
      | succ kq6 =>
      rw [slices_Equal_api_Node_api_Node__l1.eq_2] at h
      generalize hrec5 : slices_Equal_api_Node_api_Node__l1 k p0 p1 kq6 = rec5 at h
      refine AW.seq ?_
      refine AW.reg ?_
      refine AO.calm rfl 14 rfl (by decide) (eBool (decide (x4 < (p0.length : Int)))) (Calm.int rfl rfl rfl rfl) ?_
      refine AO.nil (ρ' := [(0, (.fz 4 (p0.map e43))), (1, (.fz 4 (p1.map e43))), (12, (eI64 (p0.length : Int))), (13, (eI64 x4)), (14, (eBool (decide (x4 < (p0.length : Int)))))]) (H' := []) ⟨rfl, rfl, rfl, rfl, rfl, trivial⟩ (Sub.refl _) ?_
      refine AW.seq ?_
      by_cases hc7 : x4 < (p0.length : Int)
      · have h := (if_pos hc7).symm.trans h
        refine AW.condP (x4 < (p0.length : Int)) rfl hc7 ?_
        refine AW.skip (ρ' := [(0, (.fz 4 (p0.map e43))), (1, (.fz 4 (p1.map e43))), (12, (eI64 (p0.length : Int))), (13, (eI64 x4))]) (H' := []) ⟨rfl, rfl, rfl, rfl, trivial⟩ (Sub.refl _) ?_
        refine AW.seq ?_
        refine AW.block ?_
        refine AW.seq ?_
        refine AW.reg ?_
        refine AO.calm rfl 15 rfl (by decide) (eI64 x4) (Calm.move rfl rfl) ?_
        refine AO.calm rfl 5 rfl (by decide) (eI64 x4) (Calm.assign rfl rfl) ?_
        refine AO.nil (ρ' := [(0, (.fz 4 (p0.map e43))), (1, (.fz 4 (p1.map e43))), (5, (eI64 x4)), (12, (eI64 (p0.length : Int))), (13, (eI64 x4))]) (H' := []) ⟨rfl, rfl, rfl, rfl, rfl, trivial⟩ (Sub.refl _) ?_
        refine AW.seq ?_
        refine AW.regQ (by rfl) (by decide +kernel) ?_
        refine AQ.calm rfl 16 rfl (by decide) (.fz 4 (p0.map e43)) (Calm.move rfl rfl) ?_
        refine AQ.calm rfl 17 rfl (by decide) (eI64 x4) (Calm.move rfl rfl) ?_
        obtain ⟨hg8, h⟩ := of_guard h
        refine AQ.calm rfl 18 rfl (by decide) (.rp (e43 (lget p0 x4))) (Calm.idxL (f := e43) rfl rfl rfl hg8 Try.underlying37 sz43) ?_
        refine AQ.calm rfl 19 rfl (by decide) (e43 (lget p0 x4)) (Calm.loadRp rfl rfl ag43 sz43) ?_
        refine AQ.calm rfl 20 rfl (by decide) (.fz 4 (p1.map e43)) (Calm.move rfl rfl) ?_
        refine AQ.calm rfl 21 rfl (by decide) (eI64 x4) (Calm.move rfl rfl) ?_
        obtain ⟨hg9, h⟩ := of_guard h
        refine AQ.calm rfl 22 rfl (by decide) (.rp (e43 (lget p1 x4))) (Calm.idxL (f := e43) rfl rfl rfl hg9 Try.underlying37 sz43) ?_
        refine AQ.calm rfl 23 rfl (by decide) (e43 (lget p1 x4)) (Calm.loadRp rfl rfl ag43 sz43) ?_
        refine AQ.calm rfl 24 rfl (by decide) (eBool (!(decide ((lget p0 x4) = (lget p1 x4))))) (Calm.neS rfl rfl rfl eg43 (eqk43 (lget p0 x4) (lget p1 x4)) (by decide)) ?_
        refine AQ.nil (ρ' := [(0, (.fz 4 (p0.map e43))), (1, (.fz 4 (p1.map e43))), (12, (eI64 (p0.length : Int))), (13, (eI64 x4)), (24, (eBool (!(decide ((lget p0 x4) = (lget p1 x4))))))]) ⟨rfl, rfl, rfl, rfl, rfl, trivial⟩ ?_
        by_cases hc10 : (!(decide ((lget p0 x4) = (lget p1 x4)))) = true
        · have h := (if_pos hc10).symm.trans h
          refine AW.condT' (!(decide ((lget p0 x4) = (lget p1 x4)))) rfl hc10 ?_
          refine AW.seq ?_
          refine AW.reg ?_
          refine AO.calm rfl 4 rfl (by decide) (eBool false) (Calm.assign rfl rfl) ?_
          refine AO.nil (ρ' := [(4, (eBool false))]) (H' := []) ⟨rfl, trivial⟩ (Sub.refl _) ?_
          refine AW.ret (ρ' := [(4, (eBool false))]) (H' := []) ⟨rfl, trivial⟩ (Sub.refl _) ?_
          have hr := Option.some.inj h
          subst hr
          exact ⟨[(eBool false)], ⟨rfl, rfl, trivial⟩, rfl⟩
        · have h := (if_neg hc10).symm.trans h
          refine AW.condF' (!(decide ((lget p0 x4) = (lget p1 x4)))) rfl hc10 ?_
          refine AW.skip (ρ' := [(0, (.fz 4 (p0.map e43))), (1, (.fz 4 (p1.map e43))), (12, (eI64 (p0.length : Int))), (13, (eI64 x4))]) (H' := []) ⟨rfl, rfl, rfl, rfl, trivial⟩ (Sub.refl _) ?_
          refine AW.reg ?_
          refine AO.calm rfl 25 rfl (by decide) (eI64 (w64 (x4 + (1 : Int)))) (Calm.int rfl rfl rfl rfl) ?_
          refine AO.calm rfl 13 rfl (by decide) (eI64 (w64 (x4 + (1 : Int)))) (Calm.move rfl rfl) ?_
          refine AO.nil (ρ' := [(0, (.fz 4 (p0.map e43))), (1, (.fz 4 (p1.map e43))), (12, (eI64 (p0.length : Int))), (13, (eI64 (w64 (x4 + (1 : Int)))))]) (H' := []) ⟨rfl, rfl, rfl, rfl, trivial⟩ (Sub.refl _) ?_
          exact ⟨kq6, Nat.lt_succ_self _, (w64 (x4 + (1 : Int))), rfl, rfl, by rw [hrec5]; exact h⟩
      · have h := (if_neg hc7).symm.trans h
        refine AW.condN (x4 < (p0.length : Int)) rfl hc7 ?_
        refine AW.exit (ρ' := []) (H' := []) trivial (Sub.refl _) ?_
        exact ⟨rfl, rfl, h⟩
    · rintro _ _ ⟨rfl, rfl, h⟩
      rw [slices_Equal_api_Node_api_Node__c0.eq_1] at h
      refine AW.seq ?_
      refine AW.reg ?_
      refine AO.calm rfl 4 rfl (by decide) (eBool true) (Calm.assign rfl rfl) ?_
      refine AO.nil (ρ' := [(4, (eBool true))]) (H' := []) ⟨rfl, trivial⟩ (Sub.refl _) ?_
      refine AW.ret (ρ' := [(4, (eBool true))]) (H' := []) ⟨rfl, trivial⟩ (Sub.refl _) ?_
      have hr := Option.some.inj h
      subst hr
      exact ⟨[(eBool true)], ⟨rfl, rfl, trivial⟩, rfl⟩
end Go.Avl.T2
/- bosket/ast.Same; printed by avmain.py. -/
namespace Go.Avl.T2
open Go Go.RowKit Go.Proofs Go.Avl
set_option linter.unusedVariables false
set_option maxRecDepth 100000
set_option maxHeartbeats 4000000
attribute [local irreducible] AW AO AQ Spec SpecH Calm

def ast_Same (k : Nat) (p0 : (List S43)) (p1 : (List S43)) : Option Bool :=
  (slices_Equal_api_Node_api_Node_ k p0 p1).bind fun t3 =>
  some (t3)
theorem ast_Same_spec {k : Nat} {p0 : (List S43)} {p1 : (List S43)} {r : Bool} (h : ast_Same k p0 p1 = some r) : Spec Try.prog 37 [(.fz 4 (p0.map e43)), (.fz 4 (p1.map e43))] (eBool r) := by
  rw [ast_Same.eq_1] at h
  refine Spec.intro (res := [.tmp 4]) Try.func37 rfl rfl rfl (Nat.le_of_ble_eq_true rfl) ?_
  refine AW.seq ?_
  refine AW.reg ?_
  refine AO.calm rfl 4 rfl (by decide) (eBool false) (Calm.assign rfl rfl) ?_
  refine AO.nil (ρ' := [(0, (.fz 4 (p0.map e43))), (1, (.fz 4 (p1.map e43)))]) (H' := []) ⟨rfl, rfl, trivial⟩ (Sub.refl _) ?_
  refine AW.seq ?_
  refine AW.reg ?_
  refine AO.calm rfl 5 rfl (by decide) (.fz 4 (p0.map e43)) (Calm.move rfl rfl) ?_
  refine AO.calm rfl 6 rfl (by decide) (.fz 4 (p1.map e43)) (Calm.move rfl rfl) ?_
  obtain ⟨t3, et3, h⟩ := of_bind h
  refine AO.callS [(.fz 4 (p0.map e43)), (.fz 4 (p1.map e43))] (eBool t3) 7 rfl (by decide) ok65 rfl rfl rfl ⟨rfl, rfl, rfl, rfl, trivial⟩ (slices_Equal_api_Node_api_Node__spec et3) ?_
  refine AO.calm rfl 4 rfl (by decide) (eBool t3) (Calm.assign rfl rfl) ?_
  refine AO.nil (ρ' := [(4, (eBool t3))]) (H' := []) ⟨rfl, trivial⟩ (Sub.refl _) ?_
  refine AW.ret (ρ' := [(4, (eBool t3))]) (H' := []) ⟨rfl, trivial⟩ (Sub.refl _) ?_
  have hr := Option.some.inj h
  subst hr
  exact ⟨[(eBool t3)], ⟨rfl, rfl, trivial⟩, rfl⟩
end Go.Avl.T2
/- slices.Grow[[]bosket/api.Node,bosket/api.Node]; printed by avmain.py. -/
namespace Go.Avl.T2
open Go Go.RowKit Go.Proofs Go.Avl
set_option linter.unusedVariables false
set_option maxRecDepth 100000
set_option maxHeartbeats 4000000
attribute [local irreducible] AW AO AQ Spec SpecH Calm

def slices_Grow_api_Node_api_Node__c0 (k : Nat) (x5 : (List S43)) : Option (List S43) :=
  some (x5)
def slices_Grow_api_Node_api_Node_ (k : Nat) (p1 : Int) : Option (List S43) :=
  if p1 < (0 : Int) then none
  else if (0 : Int) < (w64 (p1 - (w64 ((0 : Int) - (0 : Int))))) then if 0 < (w64 (p1 - (w64 ((0 : Int) - (0 : Int))))) ∧ (w64 (p1 - (w64 ((0 : Int) - (0 : Int))))) * (40 : Int) ≤ 140737488355328 ∧ (w64 (p1 - (w64 ((0 : Int) - (0 : Int))))) ≤ 9223372036854775807 then slices_Grow_api_Node_api_Node__c0 k []
  else none
  else slices_Grow_api_Node_api_Node__c0 k []
theorem slices_Grow_api_Node_api_Node__spec {k : Nat} {p1 : Int} {r : (List S43)} (h : slices_Grow_api_Node_api_Node_ k p1 = some r) {T0 : Heap} : SpecH Try.prog 85 [(.fl (.slice none 0 0)), (eI64 p1)] (T0) (fun x H' => ∃ m, x = .own m 0 r.length ∧ Sub ((m, .mem (.ar 4 (r.map e43))) :: T0) H') := by
  rw [slices_Grow_api_Node_api_Node_.eq_1] at h
  refine SpecH.intro (res := [.tmp 4]) Try.func85 rfl rfl rfl (Nat.le_of_ble_eq_true rfl) ?_
  refine AW.seq ?_
  refine AW.reg ?_
  refine AO.calm rfl 4 rfl (by decide) (.fl (.slice none 0 0)) (Calm.assign rfl rfl) ?_
  refine AO.nil (ρ' := [(0, (.fl (.slice none 0 0))), (1, (eI64 p1))]) (H' := (T0)) ⟨rfl, rfl, trivial⟩ (Sub.refl _) ?_
  refine AW.seq ?_
  refine AW.seq ?_
  refine AW.reg ?_
  refine AO.calm rfl 5 rfl (by decide) (eI64 p1) (Calm.move rfl rfl) ?_
  refine AO.calm rfl 6 rfl (by decide) (eBool (decide (p1 < (0 : Int)))) (Calm.int rfl rfl rfl rfl) ?_
  refine AO.nil (ρ' := [(0, (.fl (.slice none 0 0))), (1, (eI64 p1)), (6, (eBool (decide (p1 < (0 : Int)))))]) (H' := (T0)) ⟨rfl, rfl, rfl, trivial⟩ (Sub.refl _) ?_
  by_cases hc3 : p1 < (0 : Int)
  · have h := (if_pos hc3).symm.trans h
    cases h
  · have h := (if_neg hc3).symm.trans h
    refine AW.condN (p1 < (0 : Int)) rfl hc3 ?_
    refine AW.skip (ρ' := [(0, (.fl (.slice none 0 0))), (1, (eI64 p1))]) (H' := (T0)) ⟨rfl, rfl, trivial⟩ (Sub.refl _) ?_
    refine AW.seq_mid (fun ρ H => ∃ (n4 : Nat) (x5 : (List S43)), ρ = [(0, (.own n4 0 x5.length))] ∧ H = ((n4, .mem (.ar 4 (x5.map e43))) :: T0) ∧ slices_Grow_api_Node_api_Node__c0 k x5 = some r) ?_ ?_
    · refine AW.seq ?_
      refine AW.reg ?_
      refine AO.calm rfl 8 rfl (by decide) (eI64 p1) (Calm.move rfl rfl) ?_
      refine AO.calm rfl 9 rfl (by decide) (.fl (.slice none 0 0)) (Calm.move rfl rfl) ?_
      refine AO.calm rfl 10 rfl (by decide) (eI64 (0 : Int)) (Calm.capNil rfl rfl Try.underlying37) ?_
      refine AO.calm rfl 11 rfl (by decide) (.fl (.slice none 0 0)) (Calm.move rfl rfl) ?_
      refine AO.calm rfl 12 rfl (by decide) (eI64 (0 : Int)) (Calm.lenNil rfl rfl Try.underlying37) ?_
      refine AO.calm rfl 13 rfl (by decide) (eI64 (w64 ((0 : Int) - (0 : Int)))) (Calm.int rfl rfl rfl rfl) ?_
      refine AO.calm rfl 14 rfl (by decide) (eI64 (w64 (p1 - (w64 ((0 : Int) - (0 : Int)))))) (Calm.int rfl rfl rfl rfl) ?_
      refine AO.calm rfl 1 rfl (by decide) (eI64 (w64 (p1 - (w64 ((0 : Int) - (0 : Int)))))) (Calm.assign rfl rfl) ?_
      refine AO.nil (ρ' := [(0, (.fl (.slice none 0 0))), (1, (eI64 (w64 (p1 - (w64 ((0 : Int) - (0 : Int)))))))]) (H' := (T0)) ⟨rfl, rfl, trivial⟩ (Sub.refl _) ?_
      refine AW.seq ?_
      refine AW.reg ?_
      refine AO.calm rfl 15 rfl (by decide) (eI64 (w64 (p1 - (w64 ((0 : Int) - (0 : Int)))))) (Calm.move rfl rfl) ?_
      refine AO.calm rfl 16 rfl (by decide) (eBool (decide ((0 : Int) < (w64 (p1 - (w64 ((0 : Int) - (0 : Int)))))))) (Calm.int rfl rfl rfl rfl) ?_
      refine AO.nil (ρ' := [(0, (.fl (.slice none 0 0))), (1, (eI64 (w64 (p1 - (w64 ((0 : Int) - (0 : Int))))))), (16, (eBool (decide ((0 : Int) < (w64 (p1 - (w64 ((0 : Int) - (0 : Int)))))))))]) (H' := (T0)) ⟨rfl, rfl, rfl, trivial⟩ (Sub.refl _) ?_
      by_cases hc6 : (0 : Int) < (w64 (p1 - (w64 ((0 : Int) - (0 : Int)))))
      · have h := (if_pos hc6).symm.trans h
        refine AW.condP ((0 : Int) < (w64 (p1 - (w64 ((0 : Int) - (0 : Int)))))) rfl hc6 ?_
        refine AW.reg ?_
        refine AO.calm rfl 17 rfl (by decide) (.fl (.slice none 0 0)) (Calm.move rfl rfl) ?_
        refine AO.calm rfl 18 rfl (by decide) (.fl (.slice none 0 0)) (Calm.move rfl rfl) ?_
        refine AO.calm rfl 19 rfl (by decide) (eI64 (0 : Int)) (Calm.capNil rfl rfl Try.underlying37) ?_
        refine AO.calm rfl 20 rfl (by decide) (.fl (.slice none 0 0)) (Calm.sliceNil rfl rfl rfl Try.underlying37 sz43) ?_
        refine AO.calm rfl 21 rfl (by decide) (eI64 (w64 (p1 - (w64 ((0 : Int) - (0 : Int)))))) (Calm.move rfl rfl) ?_
        obtain ⟨hg8, h⟩ := of_guard h
        refine AO.growNil rfl 22 rfl (by decide) rfl rfl rfl Try.underlying37 Try.underlying3 sz43 by43 zr43 rfl (by decide) hg8 fun n7 => ?_
        refine AO.calm rfl 23 rfl (by decide) (.fl (.slice none 0 0)) (Calm.move rfl rfl) ?_
        refine AO.calm rfl 24 rfl (by decide) (eI64 (0 : Int)) (Calm.lenNil rfl rfl Try.underlying37) ?_
        refine AO.calm rfl 25 rfl (by decide) (.own n7 0 ([] : List S43).length) (Calm.sliceOwn (l := 0) (h := 0) 0 rfl rfl rfl rfl rfl (by omega) (by omega) (by omega) Try.underlying37 sz43) ?_
        refine AO.calm rfl 0 rfl (by decide) (.own n7 0 ([] : List S43).length) (Calm.assign rfl rfl) ?_
        refine AO.nil (ρ' := [(0, (.own n7 0 ([] : List S43).length))]) (H' := ((n7, .mem (.ar 4 (([] : List S43).map e43))) :: T0)) ⟨rfl, trivial⟩ (Sub.refl _) ?_
        exact ⟨n7, [], rfl, rfl, h⟩
      · have h := (if_neg hc6).symm.trans h
        refine AW.condN ((0 : Int) < (w64 (p1 - (w64 ((0 : Int) - (0 : Int)))))) rfl hc6 ?_
        refine AW.nilOwn 0 4 rfl fun n9 => ?_
        refine AW.skip (ρ' := [(0, (.own n9 0 ([] : List S43).length))]) (H' := ((n9, .mem (.ar 4 (([] : List S43).map e43))) :: T0)) ⟨rfl, trivial⟩ (Sub.refl _) ?_
        exact ⟨n9, [], rfl, rfl, h⟩
    · rintro _ _ ⟨n4, x5, rfl, rfl, h⟩
      rw [slices_Grow_api_Node_api_Node__c0.eq_1] at h
      refine AW.seq ?_
      refine AW.reg ?_
      refine AO.calm rfl 26 rfl (by decide) (.own n4 0 x5.length) (Calm.move rfl rfl) ?_
      refine AO.calm rfl 4 rfl (by decide) (.own n4 0 x5.length) (Calm.assign rfl rfl) ?_
      refine AO.nil (ρ' := [(4, (.own n4 0 x5.length))]) (H' := ((n4, .mem (.ar 4 (x5.map e43))) :: T0)) ⟨rfl, trivial⟩ (Sub.refl _) ?_
      refine AW.ret (ρ' := [(4, (.own n4 0 x5.length))]) (H' := ((n4, .mem (.ar 4 (x5.map e43))) :: T0)) ⟨rfl, trivial⟩ (Sub.refl _) ?_
      have hr := Option.some.inj h
      subst hr
      exact ⟨[(.own n4 0 x5.length)], ⟨rfl, rfl, trivial⟩, n4, rfl, (Sub.cons 0 rfl (Sub.refl _))⟩
end Go.Avl.T2
/- slices.Concat[[]bosket/api.Node,bosket/api.Node]; printed by avmain.py. -/
namespace Go.Avl.T2
open Go Go.RowKit Go.Proofs Go.Avl
set_option linter.unusedVariables false
set_option maxRecDepth 100000
set_option maxHeartbeats 4000000
attribute [local irreducible] AW AO AQ Spec SpecH Calm

def slices_Concat_api_Node_api_Node__c0 (k : Nat) (x7 : (List S43)) : Option (List S43) :=
  some (x7)
def slices_Concat_api_Node_api_Node__l1 (k : Nat) (p0 : (List (List S43))) : Nat → (List S43) → Int → Option (List S43)
  | 0, _, _ => none
  | j + 1, x9, x10 =>
    if x10 < (p0.length : Int) then if 0 ≤ x10 ∧ x10 < (p0.length : Int) then if (x9 ++ (lget p0 x10)).length * 40 ≤ 140737488355328 then (slices_Concat_api_Node_api_Node__l1 k p0 j) (x9 ++ (lget p0 x10)) (w64 (x10 + (1 : Int)))
    else none
    else none
    else slices_Concat_api_Node_api_Node__c0 k x9
def slices_Concat_api_Node_api_Node__c2 (k : Nat) (p0 : (List (List S43))) (x2 : Int) : Option (List S43) :=
  (slices_Grow_api_Node_api_Node_ k x2).bind fun t3 =>
  slices_Concat_api_Node_api_Node__l1 k p0 k t3 (0 : Int)
def slices_Concat_api_Node_api_Node__l3 (k : Nat) (p0 : (List (List S43))) : Nat → Int → Int → Option (List S43)
  | 0, _, _ => none
  | j + 1, x17, x18 =>
    if x18 < (p0.length : Int) then if 0 ≤ x18 ∧ x18 < (p0.length : Int) then if (w64 (x17 + ((lget p0 x18).length : Int))) < (0 : Int) then none
    else (slices_Concat_api_Node_api_Node__l3 k p0 j) (w64 (x17 + ((lget p0 x18).length : Int))) (w64 (x18 + (1 : Int)))
    else none
    else slices_Concat_api_Node_api_Node__c2 k p0 x17
def slices_Concat_api_Node_api_Node_ (k : Nat) (p0 : (List (List S43))) : Option (List S43) :=
  slices_Concat_api_Node_api_Node__l3 k p0 k (0 : Int) (0 : Int)
theorem slices_Concat_api_Node_api_Node__spec {k : Nat} {p0 : (List (List S43))} {r : (List S43)} (h : slices_Concat_api_Node_api_Node_ k p0 = some r) : Spec Try.prog 66 [(.fz 1 (p0.map e37))] (e37 r) := by
  rw [slices_Concat_api_Node_api_Node_.eq_1] at h
  refine Spec.intro (res := [.tmp 2]) Try.func66 rfl rfl rfl (Nat.le_of_ble_eq_true rfl) ?_
  refine AW.seq ?_
  refine AW.reg ?_
  refine AO.calm rfl 2 rfl (by decide) (.fl (.slice none 0 0)) (Calm.assign rfl rfl) ?_
  refine AO.nil (ρ' := [(0, (.fz 1 (p0.map e37)))]) (H' := []) ⟨rfl, trivial⟩ (Sub.refl _) ?_
  refine AW.seq ?_
  refine AW.reg ?_
  refine AO.calm rfl 3 rfl (by decide) (eI64 (0 : Int)) (Calm.assign rfl rfl) ?_
  refine AO.nil (ρ' := [(0, (.fz 1 (p0.map e37))), (3, (eI64 (0 : Int)))]) (H' := []) ⟨rfl, rfl, trivial⟩ (Sub.refl _) ?_
  refine AW.seq_mid (fun ρ H => ∃ (x2 : Int), ρ = [(0, (.fz 1 (p0.map e37))), (3, (eI64 x2))] ∧ H = [] ∧ slices_Concat_api_Node_api_Node__c2 k p0 x2 = some r) ?_ ?_
  · refine AW.seq ?_
    refine AW.reg ?_
    refine AO.calm rfl 9 rfl (by decide) (.fz 1 (p0.map e37)) (Calm.move rfl rfl) ?_
    refine AO.calm rfl 10 rfl (by decide) (eI64 (p0.length : Int)) (Calm.lenL rfl rfl Try.underlying49) ?_
    refine AO.calm rfl 11 rfl (by decide) (eI64 (0 : Int)) (Calm.move rfl rfl) ?_
    refine AO.nil (ρ' := [(0, (.fz 1 (p0.map e37))), (3, (eI64 (0 : Int))), (9, (.fz 1 (p0.map e37))), (10, (eI64 (p0.length : Int))), (11, (eI64 (0 : Int)))]) (H' := []) ⟨rfl, rfl, rfl, rfl, rfl, trivial⟩ (Sub.refl _) ?_
    refine AW.block ?_
    refine AW.weak (ρ' := [(0, (.fz 1 (p0.map e37))), (3, (eI64 (0 : Int))), (9, (.fz 1 (p0.map e37))), (10, (eI64 (p0.length : Int))), (11, (eI64 (0 : Int)))]) (H' := []) ⟨rfl, rfl, rfl, rfl, rfl, trivial⟩ (Sub.refl _) ?_
    refine AW.loop (fun kq ρ H => ∃ (x17 : Int) (x18 : Int), ρ = [(0, (.fz 1 (p0.map e37))), (3, (eI64 x17)), (9, (.fz 1 (p0.map e37))), (10, (eI64 (p0.length : Int))), (11, (eI64 x18))] ∧ H = [] ∧ slices_Concat_api_Node_api_Node__l3 k p0 kq x17 x18 = some r) k ⟨(0 : Int), (0 : Int), rfl, rfl, h⟩ ?_
    rintro kq20 _ _ ⟨x17, x18, rfl, rfl, h⟩
    cases kq20 with
    | zero => rw [slices_Concat_api_Node_api_Node__l3.eq_1] at h; cases h
    | succ kq20 =>
    rw [slices_Concat_api_Node_api_Node__l3.eq_2] at h
    generalize hrec19 : slices_Concat_api_Node_api_Node__l3 k p0 kq20 = rec19 at h
    refine AW.seq ?_
    refine AW.reg ?_
    refine AO.calm rfl 12 rfl (by decide) (eBool (decide (x18 < (p0.length : Int)))) (Calm.int rfl rfl rfl rfl) ?_
    refine AO.nil (ρ' := [(0, (.fz 1 (p0.map e37))), (3, (eI64 x17)), (9, (.fz 1 (p0.map e37))), (10, (eI64 (p0.length : Int))), (11, (eI64 x18)), (12, (eBool (decide (x18 < (p0.length : Int)))))]) (H' := []) ⟨rfl, rfl, rfl, rfl, rfl, rfl, trivial⟩ (Sub.refl _) ?_
    refine AW.seq ?_
    by_cases hc21 : x18 < (p0.length : Int)
    · have h := (if_pos hc21).symm.trans h
      refine AW.condP (x18 < (p0.length : Int)) rfl hc21 ?_
      refine AW.skip (ρ' := [(0, (.fz 1 (p0.map e37))), (3, (eI64 x17)), (9, (.fz 1 (p0.map e37))), (10, (eI64 (p0.length : Int))), (11, (eI64 x18))]) (H' := []) ⟨rfl, rfl, rfl, rfl, rfl, trivial⟩ (Sub.refl _) ?_
      refine AW.seq ?_
      refine AW.block ?_
      refine AW.seq ?_
      refine AW.reg ?_
      obtain ⟨hg22, h⟩ := of_guard h
      refine AO.calm rfl 13 rfl (by decide) (.rp (.fz 4 ((lget p0 x18).map e43))) (Calm.idxL (f := e37) rfl rfl rfl hg22 Try.underlying49 sz37) ?_
      refine AO.calm rfl 14 rfl (by decide) (.fz 4 ((lget p0 x18).map e43)) (Calm.loadRp rfl rfl ag37 sz37) ?_
      refine AO.calm rfl 5 rfl (by decide) (.fz 4 ((lget p0 x18).map e43)) (Calm.assign rfl rfl) ?_
      refine AO.nil (ρ' := [(0, (.fz 1 (p0.map e37))), (3, (eI64 x17)), (5, (.fz 4 ((lget p0 x18).map e43))), (9, (.fz 1 (p0.map e37))), (10, (eI64 (p0.length : Int))), (11, (eI64 x18))]) (H' := []) ⟨rfl, rfl, rfl, rfl, rfl, rfl, trivial⟩ (Sub.refl _) ?_
      refine AW.seq ?_
      refine AW.reg ?_
      refine AO.calm rfl 15 rfl (by decide) (eI64 x17) (Calm.move rfl rfl) ?_
      refine AO.calm rfl 16 rfl (by decide) (.fz 4 ((lget p0 x18).map e43)) (Calm.move rfl rfl) ?_
      refine AO.calm rfl 17 rfl (by decide) (eI64 ((lget p0 x18).length : Int)) (Calm.lenL rfl rfl Try.underlying37) ?_
      refine AO.calm rfl 18 rfl (by decide) (eI64 (w64 (x17 + ((lget p0 x18).length : Int)))) (Calm.int rfl rfl rfl rfl) ?_
      refine AO.calm rfl 3 rfl (by decide) (eI64 (w64 (x17 + ((lget p0 x18).length : Int)))) (Calm.assign rfl rfl) ?_
      refine AO.nil (ρ' := [(0, (.fz 1 (p0.map e37))), (3, (eI64 (w64 (x17 + ((lget p0 x18).length : Int))))), (9, (.fz 1 (p0.map e37))), (10, (eI64 (p0.length : Int))), (11, (eI64 x18))]) (H' := []) ⟨rfl, rfl, rfl, rfl, rfl, trivial⟩ (Sub.refl _) ?_
      refine AW.seq ?_
      refine AW.reg ?_
      refine AO.calm rfl 19 rfl (by decide) (eI64 (w64 (x17 + ((lget p0 x18).length : Int)))) (Calm.move rfl rfl) ?_
      refine AO.calm rfl 20 rfl (by decide) (eBool (decide ((w64 (x17 + ((lget p0 x18).length : Int))) < (0 : Int)))) (Calm.int rfl rfl rfl rfl) ?_
      refine AO.nil (ρ' := [(0, (.fz 1 (p0.map e37))), (3, (eI64 (w64 (x17 + ((lget p0 x18).length : Int))))), (9, (.fz 1 (p0.map e37))), (10, (eI64 (p0.length : Int))), (11, (eI64 x18)), (20, (eBool (decide ((w64 (x17 + ((lget p0 x18).length : Int))) < (0 : Int)))))]) (H' := []) ⟨rfl, rfl, rfl, rfl, rfl, rfl, trivial⟩ (Sub.refl _) ?_
      by_cases hc23 : (w64 (x17 + ((lget p0 x18).length : Int))) < (0 : Int)
      · have h := (if_pos hc23).symm.trans h
        cases h
      · have h := (if_neg hc23).symm.trans h
        refine AW.condN ((w64 (x17 + ((lget p0 x18).length : Int))) < (0 : Int)) rfl hc23 ?_
        refine AW.skip (ρ' := [(0, (.fz 1 (p0.map e37))), (3, (eI64 (w64 (x17 + ((lget p0 x18).length : Int))))), (9, (.fz 1 (p0.map e37))), (10, (eI64 (p0.length : Int))), (11, (eI64 x18))]) (H' := []) ⟨rfl, rfl, rfl, rfl, rfl, trivial⟩ (Sub.refl _) ?_
        refine AW.reg ?_
        refine AO.calm rfl 22 rfl (by decide) (eI64 (w64 (x18 + (1 : Int)))) (Calm.int rfl rfl rfl rfl) ?_
        refine AO.calm rfl 11 rfl (by decide) (eI64 (w64 (x18 + (1 : Int)))) (Calm.move rfl rfl) ?_
        refine AO.nil (ρ' := [(0, (.fz 1 (p0.map e37))), (3, (eI64 (w64 (x17 + ((lget p0 x18).length : Int))))), (9, (.fz 1 (p0.map e37))), (10, (eI64 (p0.length : Int))), (11, (eI64 (w64 (x18 + (1 : Int)))))]) (H' := []) ⟨rfl, rfl, rfl, rfl, rfl, trivial⟩ (Sub.refl _) ?_
        exact ⟨kq20, Nat.lt_succ_self _, (w64 (x17 + ((lget p0 x18).length : Int))), (w64 (x18 + (1 : Int))), rfl, rfl, by rw [hrec19]; exact h⟩
    · have h := (if_neg hc21).symm.trans h
      refine AW.condN (x18 < (p0.length : Int)) rfl hc21 ?_
      refine AW.exit (ρ' := [(0, (.fz 1 (p0.map e37))), (3, (eI64 x17))]) (H' := []) ⟨rfl, rfl, trivial⟩ (Sub.refl _) ?_
      exact ⟨x17, rfl, rfl, h⟩
  · rintro _ _ ⟨x2, rfl, rfl, h⟩
    rw [slices_Concat_api_Node_api_Node__c2.eq_1] at h
    refine AW.seq ?_
    refine AW.reg ?_
    refine AO.calm rfl 23 rfl (by decide) (eI64 x2) (Calm.move rfl rfl) ?_
    obtain ⟨t3, et3, h⟩ := of_bind h
    refine AO.callH [(.fl (.slice none 0 0)), (eI64 x2)] [] _ rfl rfl rfl 24 rfl (by decide) ok85 ⟨rfl, rfl, rfl, rfl, trivial⟩ (Sub.refl _) (slices_Grow_api_Node_api_Node__spec et3) ?_
    rintro _ _ ⟨n5, rfl, hs4⟩
    refine AO.weak (ρ' := [(0, (.fz 1 (p0.map e37))), (3, (eI64 x2)), (23, (eI64 x2)), (24, (.own n5 0 t3.length))]) (H' := [(n5, .mem (.ar 4 (t3.map e43)))]) ⟨rfl, rfl, rfl, rfl, trivial⟩ hs4 ?_
    refine AO.calm rfl 6 rfl (by decide) (.own n5 0 t3.length) (Calm.assign rfl rfl) ?_
    refine AO.nil (ρ' := [(0, (.fz 1 (p0.map e37))), (6, (.own n5 0 t3.length))]) (H' := [(n5, .mem (.ar 4 (t3.map e43)))]) ⟨rfl, rfl, trivial⟩ (Sub.refl _) ?_
    refine AW.seq_mid (fun ρ H => ∃ (n6 : Nat) (x7 : (List S43)), ρ = [(6, (.own n6 0 x7.length))] ∧ H = [(n6, .mem (.ar 4 (x7.map e43)))] ∧ slices_Concat_api_Node_api_Node__c0 k x7 = some r) ?_ ?_
    · refine AW.seq ?_
      refine AW.reg ?_
      refine AO.calm rfl 25 rfl (by decide) (.fz 1 (p0.map e37)) (Calm.move rfl rfl) ?_
      refine AO.calm rfl 26 rfl (by decide) (eI64 (p0.length : Int)) (Calm.lenL rfl rfl Try.underlying49) ?_
      refine AO.calm rfl 27 rfl (by decide) (eI64 (0 : Int)) (Calm.move rfl rfl) ?_
      refine AO.nil (ρ' := [(6, (.own n5 0 t3.length)), (25, (.fz 1 (p0.map e37))), (26, (eI64 (p0.length : Int))), (27, (eI64 (0 : Int)))]) (H' := [(n5, .mem (.ar 4 (t3.map e43)))]) ⟨rfl, rfl, rfl, rfl, trivial⟩ (Sub.refl _) ?_
      refine AW.block ?_
      refine AW.weak (ρ' := [(6, (.own n5 0 t3.length)), (25, (.fz 1 (p0.map e37))), (26, (eI64 (p0.length : Int))), (27, (eI64 (0 : Int)))]) (H' := [(n5, .mem (.ar 4 (t3.map e43)))]) ⟨rfl, rfl, rfl, rfl, trivial⟩ (Sub.refl _) ?_
      refine AW.loop (fun kq ρ H => ∃ (n8 : Nat) (x9 : (List S43)) (x10 : Int), ρ = [(6, (.own n8 0 x9.length)), (25, (.fz 1 (p0.map e37))), (26, (eI64 (p0.length : Int))), (27, (eI64 x10))] ∧ H = [(n8, .mem (.ar 4 (x9.map e43)))] ∧ slices_Concat_api_Node_api_Node__l1 k p0 kq x9 x10 = some r) k ⟨n5, t3, (0 : Int), rfl, rfl, h⟩ ?_
      rintro kq12 _ _ ⟨n8, x9, x10, rfl, rfl, h⟩
      cases kq12 with
      | zero => rw [slices_Concat_api_Node_api_Node__l1.eq_1] at h; cases h
      | succ kq12 =>
      rw [slices_Concat_api_Node_api_Node__l1.eq_2] at h
      generalize hrec11 : slices_Concat_api_Node_api_Node__l1 k p0 kq12 = rec11 at h
      refine AW.seq ?_
      refine AW.reg ?_
      refine AO.calm rfl 28 rfl (by decide) (eBool (decide (x10 < (p0.length : Int)))) (Calm.int rfl rfl rfl rfl) ?_
      refine AO.nil (ρ' := [(6, (.own n8 0 x9.length)), (25, (.fz 1 (p0.map e37))), (26, (eI64 (p0.length : Int))), (27, (eI64 x10)), (28, (eBool (decide (x10 < (p0.length : Int)))))]) (H' := [(n8, .mem (.ar 4 (x9.map e43)))]) ⟨rfl, rfl, rfl, rfl, rfl, trivial⟩ (Sub.refl _) ?_
      refine AW.seq ?_
      by_cases hc13 : x10 < (p0.length : Int)
      · have h := (if_pos hc13).symm.trans h
        refine AW.condP (x10 < (p0.length : Int)) rfl hc13 ?_
        refine AW.skip (ρ' := [(6, (.own n8 0 x9.length)), (25, (.fz 1 (p0.map e37))), (26, (eI64 (p0.length : Int))), (27, (eI64 x10))]) (H' := [(n8, .mem (.ar 4 (x9.map e43)))]) ⟨rfl, rfl, rfl, rfl, trivial⟩ (Sub.refl _) ?_
        refine AW.seq ?_
        refine AW.block ?_
        refine AW.seq ?_
        refine AW.reg ?_
        obtain ⟨hg14, h⟩ := of_guard h
        refine AO.calm rfl 29 rfl (by decide) (.rp (.fz 4 ((lget p0 x10).map e43))) (Calm.idxL (f := e37) rfl rfl rfl hg14 Try.underlying49 sz37) ?_
        refine AO.calm rfl 30 rfl (by decide) (.fz 4 ((lget p0 x10).map e43)) (Calm.loadRp rfl rfl ag37 sz37) ?_
        refine AO.calm rfl 8 rfl (by decide) (.fz 4 ((lget p0 x10).map e43)) (Calm.assign rfl rfl) ?_
        refine AO.nil (ρ' := [(6, (.own n8 0 x9.length)), (8, (.fz 4 ((lget p0 x10).map e43))), (25, (.fz 1 (p0.map e37))), (26, (eI64 (p0.length : Int))), (27, (eI64 x10))]) (H' := [(n8, .mem (.ar 4 (x9.map e43)))]) ⟨rfl, rfl, rfl, rfl, rfl, trivial⟩ (Sub.refl _) ?_
        refine AW.reg ?_
        refine AO.calm rfl 31 rfl (by decide) (.own n8 0 x9.length) (Calm.move rfl rfl) ?_
        refine AO.calm rfl 32 rfl (by decide) (.fz 4 ((lget p0 x10).map e43)) (Calm.move rfl rfl) ?_
        obtain ⟨hg16, h⟩ := of_guard h
        refine AO.appendL (l := x9) (m := (lget p0 x10)) 0 33 rfl (by decide) rfl rfl rfl rfl rfl Src.fz Try.underlying37 Try.underlying37 sz43 by43 zr43 rfl hg16 (by decide) fun n15 => ?_
        refine AO.calm rfl 6 rfl (by decide) (.own n15 0 (x9 ++ (lget p0 x10)).length) (Calm.assign rfl rfl) ?_
        refine AO.nil (ρ' := [(6, (.own n15 0 (x9 ++ (lget p0 x10)).length)), (25, (.fz 1 (p0.map e37))), (26, (eI64 (p0.length : Int))), (27, (eI64 x10))]) (H' := [(n15, .mem (.ar 4 ((x9 ++ (lget p0 x10)).map e43)))]) ⟨rfl, rfl, rfl, rfl, trivial⟩ (Sub.refl _) ?_
        refine AW.reg ?_
        refine AO.calm rfl 34 rfl (by decide) (eI64 (w64 (x10 + (1 : Int)))) (Calm.int rfl rfl rfl rfl) ?_
        refine AO.calm rfl 27 rfl (by decide) (eI64 (w64 (x10 + (1 : Int)))) (Calm.move rfl rfl) ?_
        refine AO.nil (ρ' := [(6, (.own n15 0 (x9 ++ (lget p0 x10)).length)), (25, (.fz 1 (p0.map e37))), (26, (eI64 (p0.length : Int))), (27, (eI64 (w64 (x10 + (1 : Int)))))]) (H' := [(n15, .mem (.ar 4 ((x9 ++ (lget p0 x10)).map e43)))]) ⟨rfl, rfl, rfl, rfl, trivial⟩ (Sub.refl _) ?_
        exact ⟨kq12, Nat.lt_succ_self _, n15, (x9 ++ (lget p0 x10)), (w64 (x10 + (1 : Int))), rfl, rfl, by rw [hrec11]; exact h⟩
      · have h := (if_neg hc13).symm.trans h
        refine AW.condN (x10 < (p0.length : Int)) rfl hc13 ?_
        refine AW.exit (ρ' := [(6, (.own n8 0 x9.length))]) (H' := [(n8, .mem (.ar 4 (x9.map e43)))]) ⟨rfl, trivial⟩ (Sub.refl _) ?_
        exact ⟨n8, x9, rfl, rfl, h⟩
    · rintro _ _ ⟨n6, x7, rfl, rfl, h⟩
      rw [slices_Concat_api_Node_api_Node__c0.eq_1] at h
      refine AW.seq ?_
      refine AW.reg ?_
      refine AO.calm rfl 35 rfl (by decide) (.own n6 0 x7.length) (Calm.move rfl rfl) ?_
      refine AO.calm rfl 2 rfl (by decide) (.own n6 0 x7.length) (Calm.assign rfl rfl) ?_
      refine AO.nil (ρ' := [(2, (.own n6 0 x7.length))]) (H' := [(n6, .mem (.ar 4 (x7.map e43)))]) ⟨rfl, trivial⟩ (Sub.refl _) ?_
      refine AW.freezeS 0 [(2, (.fz 4 (x7.map e43)))] rfl ⟨fz_all rfl, trivial⟩ ?_
      refine AW.ret (ρ' := [(2, (.fz 4 (x7.map e43)))]) (H' := []) ⟨rfl, trivial⟩ (Sub.refl _) ?_
      have hr := Option.some.inj h
      subst hr
      exact ⟨[(.fz 4 (x7.map e43))], ⟨rfl, rfl, trivial⟩, rfl⟩
end Go.Avl.T2
/- bosket/ast.Join; printed by avmain.py. -/
namespace Go.Avl.T2
open Go Go.RowKit Go.Proofs Go.Avl
set_option linter.unusedVariables false
set_option maxRecDepth 100000
set_option maxHeartbeats 4000000
attribute [local irreducible] AW AO AQ Spec SpecH Calm

def ast_Join (k : Nat) (p0 : S43) (p1 : (List (List S43))) : Option (List S43) :=
  (slices_Concat_api_Node_api_Node_ k p1).bind fun t5 =>
  (slices_Concat_api_Node_api_Node_ k [[(S43.mk p0.f0 p0.f1 (p1.length : Int) p0.f3)], t5]).bind fun t7 =>
  some (t7)
theorem ast_Join_spec {k : Nat} {p0 : S43} {p1 : (List (List S43))} {r : (List S43)} (h : ast_Join k p0 p1 = some r) : Spec Try.prog 38 [(e43 p0), (.fz 1 (p1.map e37))] (e37 r) := by
  rw [ast_Join.eq_1] at h
  refine Spec.intro (res := [.tmp 4]) Try.func38 rfl rfl rfl (Nat.le_of_ble_eq_true rfl) ?_
  refine AW.seq ?_
  refine AW.reg ?_
  refine AO.box rfl 2 rfl (by decide) rfl rfl rfl fun n3 => ?_
  refine AO.calm rfl 4 rfl (by decide) (.fl (.slice none 0 0)) (Calm.assign rfl rfl) ?_
  refine AO.nil (ρ' := [(1, (.fz 1 (p1.map e37))), (2, (.ptr n3 0))]) (H' := [(n3, .mem (e43 p0))]) ⟨rfl, rfl, trivial⟩ (Sub.refl _) ?_
  refine AW.seq ?_
  refine AW.reg ?_
  refine AO.calm rfl 5 rfl (by decide) (.fz 1 (p1.map e37)) (Calm.move rfl rfl) ?_
  refine AO.calm rfl 6 rfl (by decide) (eI64 (p1.length : Int)) (Calm.lenL rfl rfl Try.underlying49) ?_
  refine AO.calm rfl 7 rfl (by decide) (.ptr n3 2) (Calm.fldPtr rfl rfl Try.underlying43 rfl sz3 _ rfl) ?_
  refine AO.store (X' := (.st [(1, (eBool p0.f0)), (1, (eI64 p0.f1)), (1, (eI64 (p1.length : Int))), (1, (eStr p0.f3))])) 0 rfl rfl rfl rfl rfl rfl (Put.cast (Put.fldS (Put.fldS (Put.fld0 Put.here))) rfl) rfl rfl sz3 rfl ?_
  refine AO.nil (ρ' := [(1, (.fz 1 (p1.map e37))), (2, (.ptr n3 0))]) (H' := [(n3, .mem (.st [(1, (eBool p0.f0)), (1, (eI64 p0.f1)), (1, (eI64 (p1.length : Int))), (1, (eStr p0.f3))]))]) ⟨rfl, rfl, trivial⟩ (Sub.refl _) ?_
  refine AW.seq ?_
  obtain ⟨t5, et5, h⟩ := of_bind h
  obtain ⟨t7, et7, h⟩ := of_bind h
  refine AW.regAny (by rfl) (by decide +kernel) [(e43 (S43.mk p0.f0 p0.f1 (p1.length : Int) p0.f3)), (.fz 4 (([(S43.mk p0.f0 p0.f1 (p1.length : Int) p0.f3)] : List S43).map e43)), (.fz 1 (p1.map e37)), (.fz 4 (t5.map e43)), (.fz 1 (([[(S43.mk p0.f0 p0.f1 (p1.length : Int) p0.f3)], t5] : List (List S43)).map e37)), (.fz 4 (t7.map e43)), (.fz 4 (t7.map e43))] [(1, (.fz 1 (p1.map e37))), (2, (.ptr n3 0))] ⟨rfl, rfl, trivial⟩ rfl ?_ [(4, (.fz 4 (t7.map e43)))] [] ⟨rfl, trivial⟩ (Sub.nil _) ?_
  · refine ⟨?_, ?_, ?_, ?_, ?_, ?_, ?_, trivial⟩
    · refine AO.weak (ρ' := [(2, (.ptr n3 0))]) (H' := [(n3, .mem (.st [(1, (eBool p0.f0)), (1, (eI64 p0.f1)), (1, (eI64 (p1.length : Int))), (1, (eStr p0.f3))]))]) ⟨rfl, trivial⟩ (Sub.refl _) ?_
      refine AO.calm rfl 8 rfl (by decide) (e43 (S43.mk p0.f0 p0.f1 (p1.length : Int) p0.f3)) (Calm.load 0 rfl rfl rfl (At.cast At.here rfl) ag43 sz43) ?_
      exact AO.nilE (ρ' := [(8, (e43 (S43.mk p0.f0 p0.f1 (p1.length : Int) p0.f3)))]) (H' := [(n3, .mem (.st [(1, (eBool p0.f0)), (1, (eI64 p0.f1)), (1, (eI64 (p1.length : Int))), (1, (eStr p0.f3))]))]) ⟨⟨_, rfl, rfl⟩, Sub.refl _⟩ ⟨rfl, trivial⟩ (Sub.refl _)
    · refine AO.weak (ρ' := [(8, (e43 (S43.mk p0.f0 p0.f1 (p1.length : Int) p0.f3)))]) (H' := [(n3, .mem (.st [(1, (eBool p0.f0)), (1, (eI64 p0.f1)), (1, (eI64 (p1.length : Int))), (1, (eStr p0.f3))]))]) ⟨rfl, trivial⟩ (Sub.refl _) ?_
      refine AO.lit (Z := (.st [(1, (eBool false)), (1, (eI64 (0 : Int))), (1, (eI64 (0 : Int))), (1, (eStr ByteArray.empty))])) (xs := (([(S43.mk p0.f0 p0.f1 (p1.length : Int) p0.f3)] : List S43).map e43)) (qs := [(0, (e43 (S43.mk p0.f0 p0.f1 (p1.length : Int) p0.f3)))]) rfl 9 rfl (by decide) rfl ⟨rfl, rfl, rfl, trivial⟩ Try.underlying37 sz43 zr43 lay43 rfl (by decide) (litOK (z := 4) [(e43 (S43.mk p0.f0 p0.f1 (p1.length : Int) p0.f3))] rfl ⟨⟨rfl, rfl⟩, trivial⟩) rfl fun n4 => ?_
      refine AO.freezeS 0 [(9, (.fz 4 (([(S43.mk p0.f0 p0.f1 (p1.length : Int) p0.f3)] : List S43).map e43)))] rfl ⟨fz_all rfl, trivial⟩ ?_
      exact AO.nilE (ρ' := [(9, (.fz 4 (([(S43.mk p0.f0 p0.f1 (p1.length : Int) p0.f3)] : List S43).map e43)))]) (H' := [(n3, .mem (.st [(1, (eBool p0.f0)), (1, (eI64 p0.f1)), (1, (eI64 (p1.length : Int))), (1, (eStr p0.f3))]))]) ⟨⟨_, rfl, rfl⟩, Sub.refl _⟩ ⟨rfl, trivial⟩ (Sub.refl _)
    · refine AO.weak (ρ' := [(1, (.fz 1 (p1.map e37)))]) (H' := [(n3, .mem (.st [(1, (eBool p0.f0)), (1, (eI64 p0.f1)), (1, (eI64 (p1.length : Int))), (1, (eStr p0.f3))]))]) ⟨rfl, trivial⟩ (Sub.refl _) ?_
      refine AO.calm rfl 10 rfl (by decide) (.fz 1 (p1.map e37)) (Calm.move rfl rfl) ?_
      exact AO.nilE (ρ' := [(10, (.fz 1 (p1.map e37)))]) (H' := [(n3, .mem (.st [(1, (eBool p0.f0)), (1, (eI64 p0.f1)), (1, (eI64 (p1.length : Int))), (1, (eStr p0.f3))]))]) ⟨⟨_, rfl, rfl⟩, Sub.refl _⟩ ⟨rfl, trivial⟩ (Sub.refl _)
    · refine AO.weak (ρ' := [(10, (.fz 1 (p1.map e37)))]) (H' := [(n3, .mem (.st [(1, (eBool p0.f0)), (1, (eI64 p0.f1)), (1, (eI64 (p1.length : Int))), (1, (eStr p0.f3))]))]) ⟨rfl, trivial⟩ (Sub.refl _) ?_
      refine AO.callS [(.fz 1 (p1.map e37))] (.fz 4 (t5.map e43)) 11 rfl (by decide) ok66 rfl rfl rfl ⟨rfl, rfl, trivial⟩ (slices_Concat_api_Node_api_Node__spec et5) ?_
      exact AO.nilE (ρ' := [(11, (.fz 4 (t5.map e43)))]) (H' := [(n3, .mem (.st [(1, (eBool p0.f0)), (1, (eI64 p0.f1)), (1, (eI64 (p1.length : Int))), (1, (eStr p0.f3))]))]) ⟨⟨_, rfl, rfl⟩, Sub.refl _⟩ ⟨rfl, trivial⟩ (Sub.refl _)
    · refine AO.weak (ρ' := [(9, (.fz 4 (([(S43.mk p0.f0 p0.f1 (p1.length : Int) p0.f3)] : List S43).map e43))), (11, (.fz 4 (t5.map e43)))]) (H' := [(n3, .mem (.st [(1, (eBool p0.f0)), (1, (eI64 p0.f1)), (1, (eI64 (p1.length : Int))), (1, (eStr p0.f3))]))]) ⟨rfl, rfl, trivial⟩ (Sub.refl _) ?_
      refine AO.lit (Z := (.fl (.slice none 0 0))) (xs := (([[(S43.mk p0.f0 p0.f1 (p1.length : Int) p0.f3)], t5] : List (List S43)).map e37)) (qs := [(0, (.fz 4 (([(S43.mk p0.f0 p0.f1 (p1.length : Int) p0.f3)] : List S43).map e43))), (1, (.fz 4 (t5.map e43)))]) rfl 12 rfl (by decide) rfl ⟨rfl, rfl, rfl, rfl, rfl, rfl, trivial⟩ Try.underlying49 sz37 zr37 lay37 rfl (by decide) (litOK (z := 1) [(.fz 4 (([(S43.mk p0.f0 p0.f1 (p1.length : Int) p0.f3)] : List S43).map e43)), (.fz 4 (t5.map e43))] rfl ⟨⟨rfl, rfl⟩, ⟨rfl, rfl⟩, trivial⟩) rfl fun n6 => ?_
      refine AO.freezeS 0 [(12, (.fz 1 (([[(S43.mk p0.f0 p0.f1 (p1.length : Int) p0.f3)], t5] : List (List S43)).map e37)))] rfl ⟨fz_all rfl, trivial⟩ ?_
      exact AO.nilE (ρ' := [(12, (.fz 1 (([[(S43.mk p0.f0 p0.f1 (p1.length : Int) p0.f3)], t5] : List (List S43)).map e37)))]) (H' := [(n3, .mem (.st [(1, (eBool p0.f0)), (1, (eI64 p0.f1)), (1, (eI64 (p1.length : Int))), (1, (eStr p0.f3))]))]) ⟨⟨_, rfl, rfl⟩, Sub.refl _⟩ ⟨rfl, trivial⟩ (Sub.refl _)
    · refine AO.weak (ρ' := [(12, (.fz 1 (([[(S43.mk p0.f0 p0.f1 (p1.length : Int) p0.f3)], t5] : List (List S43)).map e37)))]) (H' := [(n3, .mem (.st [(1, (eBool p0.f0)), (1, (eI64 p0.f1)), (1, (eI64 (p1.length : Int))), (1, (eStr p0.f3))]))]) ⟨rfl, trivial⟩ (Sub.refl _) ?_
      refine AO.callS [(.fz 1 (([[(S43.mk p0.f0 p0.f1 (p1.length : Int) p0.f3)], t5] : List (List S43)).map e37))] (.fz 4 (t7.map e43)) 13 rfl (by decide) ok66 rfl rfl rfl ⟨rfl, rfl, trivial⟩ (slices_Concat_api_Node_api_Node__spec et7) ?_
      exact AO.nilE (ρ' := [(13, (.fz 4 (t7.map e43)))]) (H' := [(n3, .mem (.st [(1, (eBool p0.f0)), (1, (eI64 p0.f1)), (1, (eI64 (p1.length : Int))), (1, (eStr p0.f3))]))]) ⟨⟨_, rfl, rfl⟩, Sub.refl _⟩ ⟨rfl, trivial⟩ (Sub.refl _)
    · refine AO.weak (ρ' := [(13, (.fz 4 (t7.map e43)))]) (H' := [(n3, .mem (.st [(1, (eBool p0.f0)), (1, (eI64 p0.f1)), (1, (eI64 (p1.length : Int))), (1, (eStr p0.f3))]))]) ⟨rfl, trivial⟩ (Sub.refl _) ?_
      refine AO.calm rfl 4 rfl (by decide) (.fz 4 (t7.map e43)) (Calm.assign rfl rfl) ?_
      exact AO.nilE (ρ' := [(4, (.fz 4 (t7.map e43)))]) (H' := [(n3, .mem (.st [(1, (eBool p0.f0)), (1, (eI64 p0.f1)), (1, (eI64 (p1.length : Int))), (1, (eStr p0.f3))]))]) ⟨⟨_, rfl, rfl⟩, Sub.refl _⟩ ⟨rfl, trivial⟩ (Sub.refl _)
  · refine AW.ret (ρ' := [(4, (.fz 4 (t7.map e43)))]) (H' := []) ⟨rfl, trivial⟩ (Sub.refl _) ?_
    have hr := Option.some.inj h
    subst hr
    exact ⟨[(.fz 4 (t7.map e43))], ⟨rfl, rfl, trivial⟩, rfl⟩
end Go.Avl.T2
/- bosket/bosketref13.Digits; printed by avmain.py. -/
namespace Go.Avl.T2
open Go Go.RowKit Go.Proofs Go.Avl
set_option linter.unusedVariables false
set_option maxRecDepth 100000
set_option maxHeartbeats 4000000
attribute [local irreducible] AW AO AQ Spec SpecH Calm

def bosketref13_Digits_c0 (k : Nat) (p0 : Int) (x3 : ByteArray) : Option ByteArray :=
  if p0 < (0 : Int) then if (ByteArray.mk #[45]).size + x3.size ≤ 9223372036854775807 then some (((ByteArray.mk #[45]) ++ x3))
  else none
  else some (x3)
def bosketref13_Digits_c1 (k : Nat) (rec8 : (Int → ByteArray → Option ByteArray)) (x6 : Int) (x7 : ByteArray) (x11 : Int) : Option ByteArray :=
  if (strOfNums ([(w8 (w64 ((48 : Int) + x11)))] : List Int)).size + x7.size ≤ 9223372036854775807 then (some ((strOfNums ([(w8 (w64 ((48 : Int) + x11)))] : List Int)) ++ x7)).bind fun x14 =>
  rec8 (IntKind.i64.wrap (x6.tdiv (10 : Int))) x14
  else none
def bosketref13_Digits_l2 (k : Nat) (p0 : Int) : Nat → Int → ByteArray → Option ByteArray
  | 0, _, _ => none
  | j + 1, x6, x7 =>
    if x6 ≠ (0 : Int) then if (x6.tmod (10 : Int)) < (0 : Int) then bosketref13_Digits_c1 k (bosketref13_Digits_l2 k p0 j) x6 x7 (IntKind.i64.wrap (0 - (x6.tmod (10 : Int))))
    else bosketref13_Digits_c1 k (bosketref13_Digits_l2 k p0 j) x6 x7 (x6.tmod (10 : Int))
    else bosketref13_Digits_c0 k p0 x7
def bosketref13_Digits (k : Nat) (p0 : Int) : Option ByteArray :=
  if p0 = (0 : Int) then some ((ByteArray.mk #[48]))
  else bosketref13_Digits_l2 k p0 k p0 (ByteArray.mk #[])
theorem bosketref13_Digits_spec {k : Nat} {p0 : Int} {r : ByteArray} (h : bosketref13_Digits k p0 = some r) : Spec Try.prog 19 [(eI64 p0)] (eStr r) := by
  rw [bosketref13_Digits.eq_1] at h
  refine Spec.intro (res := [.tmp 2]) Try.func19 rfl rfl rfl (Nat.le_of_ble_eq_true rfl) ?_
  refine AW.seq ?_
  refine AW.reg ?_
  refine AO.calm rfl 2 rfl (by decide) (eStr (ByteArray.mk #[])) (Calm.assign rfl rfl) ?_
  refine AO.nil (ρ' := [(0, (eI64 p0))]) (H' := []) ⟨rfl, trivial⟩ (Sub.refl _) ?_
  refine AW.seq ?_
  refine AW.reg ?_
  refine AO.calm rfl 6 rfl (by decide) (eI64 p0) (Calm.move rfl rfl) ?_
  refine AO.calm rfl 7 rfl (by decide) (eBool (decide (p0 < (0 : Int)))) (Calm.int rfl rfl rfl rfl) ?_
  refine AO.calm rfl 3 rfl (by decide) (eStr (ByteArray.mk #[])) (Calm.assign rfl rfl) ?_
  refine AO.calm rfl 4 rfl (by decide) (eBool (decide (p0 < (0 : Int)))) (Calm.assign rfl rfl) ?_
  refine AO.nil (ρ' := [(0, (eI64 p0)), (3, (eStr (ByteArray.mk #[]))), (4, (eBool (decide (p0 < (0 : Int)))))]) (H' := []) ⟨rfl, rfl, rfl, trivial⟩ (Sub.refl _) ?_
  refine AW.seq ?_
  refine AW.seq ?_
  refine AW.reg ?_
  refine AO.calm rfl 8 rfl (by decide) (eI64 p0) (Calm.move rfl rfl) ?_
  refine AO.calm rfl 9 rfl (by decide) (eBool (decide (p0 = (0 : Int)))) (Calm.int rfl rfl rfl rfl) ?_
  refine AO.nil (ρ' := [(0, (eI64 p0)), (3, (eStr (ByteArray.mk #[]))), (4, (eBool (decide (p0 < (0 : Int))))), (9, (eBool (decide (p0 = (0 : Int)))))]) (H' := []) ⟨rfl, rfl, rfl, rfl, trivial⟩ (Sub.refl _) ?_
  by_cases hc2 : p0 = (0 : Int)
  · have h := (if_pos hc2).symm.trans h
    refine AW.condP (p0 = (0 : Int)) rfl hc2 ?_
    refine AW.seq ?_
    refine AW.reg ?_
    refine AO.calm rfl 2 rfl (by decide) (eStr (ByteArray.mk #[48])) (Calm.assign rfl rfl) ?_
    refine AO.nil (ρ' := [(2, (eStr (ByteArray.mk #[48])))]) (H' := []) ⟨rfl, trivial⟩ (Sub.refl _) ?_
    refine AW.ret (ρ' := [(2, (eStr (ByteArray.mk #[48])))]) (H' := []) ⟨rfl, trivial⟩ (Sub.refl _) ?_
    have hr := Option.some.inj h
    subst hr
    exact ⟨[(eStr (ByteArray.mk #[48]))], ⟨rfl, rfl, trivial⟩, rfl⟩
  · have h := (if_neg hc2).symm.trans h
    refine AW.condN (p0 = (0 : Int)) rfl hc2 ?_
    refine AW.skip (ρ' := [(0, (eI64 p0)), (3, (eStr (ByteArray.mk #[]))), (4, (eBool (decide (p0 < (0 : Int)))))]) (H' := []) ⟨rfl, rfl, rfl, trivial⟩ (Sub.refl _) ?_
    refine AW.seq_mid (fun ρ H => ∃ (x3 : ByteArray), ρ = [(3, (eStr x3)), (4, (eBool (decide (p0 < (0 : Int)))))] ∧ H = [] ∧ bosketref13_Digits_c0 k p0 x3 = some r) ?_ ?_
    · refine AW.block ?_
      refine AW.weak (ρ' := [(0, (eI64 p0)), (3, (eStr (ByteArray.mk #[]))), (4, (eBool (decide (p0 < (0 : Int)))))]) (H' := []) ⟨rfl, rfl, rfl, trivial⟩ (Sub.refl _) ?_
      refine AW.loop (fun kq ρ H => ∃ (x6 : Int) (x7 : ByteArray), ρ = [(0, (eI64 x6)), (3, (eStr x7)), (4, (eBool (decide (p0 < (0 : Int)))))] ∧ H = [] ∧ bosketref13_Digits_l2 k p0 kq x6 x7 = some r) k ⟨p0, (ByteArray.mk #[]), rfl, rfl, h⟩ ?_
      rintro kq9 _ _ ⟨x6, x7, rfl, rfl, h⟩
      cases kq9 with
      | zero => rw [bosketref13_Digits_l2.eq_1] at h; cases h
      | succ kq9 =>
      rw [bosketref13_Digits_l2.eq_2] at h
      generalize hrec8 : bosketref13_Digits_l2 k p0 kq9 = rec8 at h
      refine AW.seq ?_
      refine AW.seq ?_
      refine AW.reg ?_
      refine AO.calm rfl 10 rfl (by decide) (eI64 x6) (Calm.move rfl rfl) ?_
      refine AO.calm rfl 11 rfl (by decide) (eBool (decide (x6 ≠ (0 : Int)))) (Calm.int rfl rfl rfl rfl) ?_
      refine AO.nil (ρ' := [(0, (eI64 x6)), (3, (eStr x7)), (4, (eBool (decide (p0 < (0 : Int))))), (11, (eBool (decide (x6 ≠ (0 : Int)))))]) (H' := []) ⟨rfl, rfl, rfl, rfl, trivial⟩ (Sub.refl _) ?_
      by_cases hc10 : x6 ≠ (0 : Int)
      · have h := (if_pos hc10).symm.trans h
        refine AW.condP (x6 ≠ (0 : Int)) rfl hc10 ?_
        refine AW.skip (ρ' := [(0, (eI64 x6)), (3, (eStr x7)), (4, (eBool (decide (p0 < (0 : Int)))))]) (H' := []) ⟨rfl, rfl, rfl, trivial⟩ (Sub.refl _) ?_
        refine AW.block ?_
        refine AW.seq ?_
        refine AW.reg ?_
        refine AO.calm rfl 12 rfl (by decide) (eI64 x6) (Calm.move rfl rfl) ?_
        refine AO.calm rfl 13 rfl (by decide) (eI64 (x6.tmod (10 : Int))) (Calm.rem rfl rfl rfl (by decide)) ?_
        refine AO.calm rfl 5 rfl (by decide) (eI64 (x6.tmod (10 : Int))) (Calm.assign rfl rfl) ?_
        refine AO.nil (ρ' := [(0, (eI64 x6)), (3, (eStr x7)), (4, (eBool (decide (p0 < (0 : Int))))), (5, (eI64 (x6.tmod (10 : Int))))]) (H' := []) ⟨rfl, rfl, rfl, rfl, trivial⟩ (Sub.refl _) ?_
        refine AW.seq_mid (fun ρ H => ∃ (x11 : Int), ρ = [(0, (eI64 x6)), (3, (eStr x7)), (4, (eBool (decide (p0 < (0 : Int))))), (5, (eI64 x11))] ∧ H = [] ∧ bosketref13_Digits_c1 k rec8 x6 x7 x11 = some r) ?_ ?_
        · refine AW.seq ?_
          refine AW.reg ?_
          refine AO.calm rfl 14 rfl (by decide) (eI64 (x6.tmod (10 : Int))) (Calm.move rfl rfl) ?_
          refine AO.calm rfl 15 rfl (by decide) (eBool (decide ((x6.tmod (10 : Int)) < (0 : Int)))) (Calm.int rfl rfl rfl rfl) ?_
          refine AO.nil (ρ' := [(0, (eI64 x6)), (3, (eStr x7)), (4, (eBool (decide (p0 < (0 : Int))))), (5, (eI64 (x6.tmod (10 : Int)))), (15, (eBool (decide ((x6.tmod (10 : Int)) < (0 : Int)))))]) (H' := []) ⟨rfl, rfl, rfl, rfl, rfl, trivial⟩ (Sub.refl _) ?_
          by_cases hc15 : (x6.tmod (10 : Int)) < (0 : Int)
          · have h := (if_pos hc15).symm.trans h
            refine AW.condP ((x6.tmod (10 : Int)) < (0 : Int)) rfl hc15 ?_
            refine AW.reg ?_
            refine AO.calm rfl 16 rfl (by decide) (eI64 (x6.tmod (10 : Int))) (Calm.move rfl rfl) ?_
            refine AO.calm rfl 17 rfl (by decide) (eI64 (IntKind.i64.wrap (0 - (x6.tmod (10 : Int))))) (Calm.neg rfl rfl) ?_
            refine AO.calm rfl 5 rfl (by decide) (eI64 (IntKind.i64.wrap (0 - (x6.tmod (10 : Int))))) (Calm.assign rfl rfl) ?_
            refine AO.nil (ρ' := [(0, (eI64 x6)), (3, (eStr x7)), (4, (eBool (decide (p0 < (0 : Int))))), (5, (eI64 (IntKind.i64.wrap (0 - (x6.tmod (10 : Int))))))]) (H' := []) ⟨rfl, rfl, rfl, rfl, trivial⟩ (Sub.refl _) ?_
            exact ⟨(IntKind.i64.wrap (0 - (x6.tmod (10 : Int)))), rfl, rfl, h⟩
          · have h := (if_neg hc15).symm.trans h
            refine AW.condN ((x6.tmod (10 : Int)) < (0 : Int)) rfl hc15 ?_
            refine AW.skip (ρ' := [(0, (eI64 x6)), (3, (eStr x7)), (4, (eBool (decide (p0 < (0 : Int))))), (5, (eI64 (x6.tmod (10 : Int))))]) (H' := []) ⟨rfl, rfl, rfl, rfl, trivial⟩ (Sub.refl _) ?_
            exact ⟨(x6.tmod (10 : Int)), rfl, rfl, h⟩
        · rintro _ _ ⟨x11, rfl, rfl, h⟩
          rw [bosketref13_Digits_c1.eq_1] at h
          refine AW.seq ?_
          refine AW.reg ?_
          refine AO.calm rfl 18 rfl (by decide) (eI64 x11) (Calm.move rfl rfl) ?_
          refine AO.calm rfl 19 rfl (by decide) (eI64 (w64 ((48 : Int) + x11))) (Calm.int rfl rfl rfl rfl) ?_
          refine AO.calm rfl 20 rfl (by decide) (eU8 (w8 (w64 ((48 : Int) + x11)))) (Calm.conv rfl rfl Try.underlying3 Try.underlying5) ?_
          refine AO.lit (Z := (eU8 (0 : Int))) (xs := (([(w8 (w64 ((48 : Int) + x11)))] : List Int).map eU8)) (qs := [(0, (eU8 (w8 (w64 ((48 : Int) + x11)))))]) rfl 21 rfl (by decide) rfl ⟨rfl, rfl, rfl, trivial⟩ Try.underlying84 sz5 zr5 lay5 rfl (by decide) (litOK (z := 1) [(eU8 (w8 (w64 ((48 : Int) + x11))))] rfl ⟨⟨rfl, rfl⟩, trivial⟩) rfl fun n12 => ?_
          refine AO.calm rfl 22 rfl (by decide) (eStr (strOfNums ([(w8 (w64 ((48 : Int) + x11)))] : List Int))) (Calm.strO 0 rfl rfl rfl Try.underlying84 Try.underlying9 Try.underlying5) ?_
          refine AO.calm rfl 23 rfl (by decide) (eStr x7) (Calm.move rfl rfl) ?_
          obtain ⟨hg13, h⟩ := of_guard h
          refine AO.calm rfl 24 rfl (by decide) (eStr ((strOfNums ([(w8 (w64 ((48 : Int) + x11)))] : List Int)) ++ x7)) (Calm.cat rfl rfl rfl hg13) ?_
          obtain ⟨x14, ex14, h⟩ := of_bind h
          refine AO.calm rfl 3 rfl (by decide) (eStr x14) (Calm.assign rfl (congrArg (fun x => some (eStr x)) (Option.some.inj ex14))) ?_
          refine AO.nil (ρ' := [(0, (eI64 x6)), (3, (eStr x14)), (4, (eBool (decide (p0 < (0 : Int)))))]) (H' := []) ⟨rfl, rfl, rfl, trivial⟩ (Sub.nil _) ?_
          refine AW.reg ?_
          refine AO.calm rfl 25 rfl (by decide) (eI64 x6) (Calm.move rfl rfl) ?_
          refine AO.calm rfl 26 rfl (by decide) (eI64 (IntKind.i64.wrap (x6.tdiv (10 : Int)))) (Calm.quo rfl rfl rfl (by decide)) ?_
          refine AO.calm rfl 0 rfl (by decide) (eI64 (IntKind.i64.wrap (x6.tdiv (10 : Int)))) (Calm.assign rfl rfl) ?_
          refine AO.nil (ρ' := [(0, (eI64 (IntKind.i64.wrap (x6.tdiv (10 : Int))))), (3, (eStr x14)), (4, (eBool (decide (p0 < (0 : Int)))))]) (H' := []) ⟨rfl, rfl, rfl, trivial⟩ (Sub.refl _) ?_
          exact ⟨kq9, Nat.lt_succ_self _, (IntKind.i64.wrap (x6.tdiv (10 : Int))), x14, rfl, rfl, by rw [hrec8]; exact h⟩
      · have h := (if_neg hc10).symm.trans h
        refine AW.condN (x6 ≠ (0 : Int)) rfl hc10 ?_
        refine AW.exit (ρ' := [(3, (eStr x7)), (4, (eBool (decide (p0 < (0 : Int)))))]) (H' := []) ⟨rfl, rfl, trivial⟩ (Sub.refl _) ?_
        exact ⟨x7, rfl, rfl, h⟩
    · rintro _ _ ⟨x3, rfl, rfl, h⟩
      rw [bosketref13_Digits_c0.eq_1] at h
      refine AW.seq ?_
      refine AW.seq ?_
      refine AW.reg ?_
      refine AO.calm rfl 27 rfl (by decide) (eBool (decide (p0 < (0 : Int)))) (Calm.move rfl rfl) ?_
      refine AO.nil (ρ' := [(3, (eStr x3)), (27, (eBool (decide (p0 < (0 : Int)))))]) (H' := []) ⟨rfl, rfl, trivial⟩ (Sub.refl _) ?_
      by_cases hc4 : p0 < (0 : Int)
      · have h := (if_pos hc4).symm.trans h
        refine AW.condP (p0 < (0 : Int)) rfl hc4 ?_
        refine AW.seq ?_
        refine AW.reg ?_
        refine AO.calm rfl 28 rfl (by decide) (eStr x3) (Calm.move rfl rfl) ?_
        obtain ⟨hg5, h⟩ := of_guard h
        refine AO.calm rfl 29 rfl (by decide) (eStr ((ByteArray.mk #[45]) ++ x3)) (Calm.cat rfl rfl rfl hg5) ?_
        refine AO.calm rfl 2 rfl (by decide) (eStr ((ByteArray.mk #[45]) ++ x3)) (Calm.assign rfl rfl) ?_
        refine AO.nil (ρ' := [(2, (eStr ((ByteArray.mk #[45]) ++ x3)))]) (H' := []) ⟨rfl, trivial⟩ (Sub.refl _) ?_
        refine AW.ret (ρ' := [(2, (eStr ((ByteArray.mk #[45]) ++ x3)))]) (H' := []) ⟨rfl, trivial⟩ (Sub.refl _) ?_
        have hr := Option.some.inj h
        subst hr
        exact ⟨[(eStr ((ByteArray.mk #[45]) ++ x3))], ⟨rfl, rfl, trivial⟩, rfl⟩
      · have h := (if_neg hc4).symm.trans h
        refine AW.condN (p0 < (0 : Int)) rfl hc4 ?_
        refine AW.skip (ρ' := [(3, (eStr x3))]) (H' := []) ⟨rfl, trivial⟩ (Sub.refl _) ?_
        refine AW.seq ?_
        refine AW.reg ?_
        refine AO.calm rfl 30 rfl (by decide) (eStr x3) (Calm.move rfl rfl) ?_
        refine AO.calm rfl 2 rfl (by decide) (eStr x3) (Calm.assign rfl rfl) ?_
        refine AO.nil (ρ' := [(2, (eStr x3))]) (H' := []) ⟨rfl, trivial⟩ (Sub.refl _) ?_
        refine AW.ret (ρ' := [(2, (eStr x3))]) (H' := []) ⟨rfl, trivial⟩ (Sub.refl _) ?_
        have hr := Option.some.inj h
        subst hr
        exact ⟨[(eStr x3)], ⟨rfl, rfl, trivial⟩, rfl⟩
end Go.Avl.T2
/- bosket/spot.natural; printed by avmain.py. -/
namespace Go.Avl.T2
open Go Go.RowKit Go.Proofs Go.Avl
set_option linter.unusedVariables false
set_option maxRecDepth 100000
set_option maxHeartbeats 4000000
attribute [local irreducible] AW AO AQ Spec SpecH Calm

def spot_natural_r (k : Nat) : Nat → Int → Option ByteArray
  | 0, _ => none
  | j + 1, p0 =>
    if p0 < (10 : Int) then some ((strOfNums ([(w8 (u64 ((48 : Int) + p0)))] : List Int)))
    else ((spot_natural_r k j) (IntKind.u64.wrap (p0.tdiv (10 : Int)))).bind fun t4 =>
    if t4.size + (strOfNums ([(w8 (u64 ((48 : Int) + (p0.tmod (10 : Int)))))] : List Int)).size ≤ 9223372036854775807 then some ((t4 ++ (strOfNums ([(w8 (u64 ((48 : Int) + (p0.tmod (10 : Int)))))] : List Int))))
    else none
def spot_natural (k : Nat) (p0 : Int) : Option ByteArray := spot_natural_r k k p0
theorem spot_natural_spec' (k : Nat) : ∀ (j : Nat) (p0 : Int) (r : ByteArray), spot_natural_r k j p0 = some r → Spec Try.prog 80 [(eU64 p0)] (eStr r) := by
  intro j
  induction j with
  | zero => intro p0 r h; rw [spot_natural_r.eq_1] at h; cases h
  | succ j hself =>
  intro p0 r h
  rw [spot_natural_r.eq_2] at h
  generalize hs : spot_natural_r k j = self at h hself
  refine Spec.intro (res := [.tmp 2]) Try.func80 rfl rfl rfl (Nat.le_of_ble_eq_true rfl) ?_
  refine AW.seq ?_
  refine AW.reg ?_
  refine AO.calm rfl 2 rfl (by decide) (eStr (ByteArray.mk #[])) (Calm.assign rfl rfl) ?_
  refine AO.nil (ρ' := [(0, (eU64 p0))]) (H' := []) ⟨rfl, trivial⟩ (Sub.refl _) ?_
  refine AW.seq ?_
  refine AW.seq ?_
  refine AW.reg ?_
  refine AO.calm rfl 3 rfl (by decide) (eU64 p0) (Calm.move rfl rfl) ?_
  refine AO.calm rfl 4 rfl (by decide) (eBool (decide (p0 < (10 : Int)))) (Calm.int rfl rfl rfl rfl) ?_
  refine AO.nil (ρ' := [(0, (eU64 p0)), (4, (eBool (decide (p0 < (10 : Int)))))]) (H' := []) ⟨rfl, rfl, trivial⟩ (Sub.refl _) ?_
  by_cases hc2 : p0 < (10 : Int)
  · have h := (if_pos hc2).symm.trans h
    refine AW.condP (p0 < (10 : Int)) rfl hc2 ?_
    refine AW.seq ?_
    refine AW.reg ?_
    refine AO.calm rfl 5 rfl (by decide) (eU64 p0) (Calm.move rfl rfl) ?_
    refine AO.calm rfl 6 rfl (by decide) (eU64 (u64 ((48 : Int) + p0))) (Calm.int rfl rfl rfl rfl) ?_
    refine AO.calm rfl 7 rfl (by decide) (eU8 (w8 (u64 ((48 : Int) + p0)))) (Calm.conv rfl rfl Try.underlying83 Try.underlying5) ?_
    refine AO.lit (Z := (eU8 (0 : Int))) (xs := (([(w8 (u64 ((48 : Int) + p0)))] : List Int).map eU8)) (qs := [(0, (eU8 (w8 (u64 ((48 : Int) + p0)))))]) rfl 8 rfl (by decide) rfl ⟨rfl, rfl, rfl, trivial⟩ Try.underlying84 sz5 zr5 lay5 rfl (by decide) (litOK (z := 1) [(eU8 (w8 (u64 ((48 : Int) + p0))))] rfl ⟨⟨rfl, rfl⟩, trivial⟩) rfl fun n3 => ?_
    refine AO.calm rfl 9 rfl (by decide) (eStr (strOfNums ([(w8 (u64 ((48 : Int) + p0)))] : List Int))) (Calm.strO 0 rfl rfl rfl Try.underlying84 Try.underlying9 Try.underlying5) ?_
    refine AO.calm rfl 2 rfl (by decide) (eStr (strOfNums ([(w8 (u64 ((48 : Int) + p0)))] : List Int))) (Calm.assign rfl rfl) ?_
    refine AO.nil (ρ' := [(2, (eStr (strOfNums ([(w8 (u64 ((48 : Int) + p0)))] : List Int))))]) (H' := []) ⟨rfl, trivial⟩ (Sub.nil _) ?_
    refine AW.ret (ρ' := [(2, (eStr (strOfNums ([(w8 (u64 ((48 : Int) + p0)))] : List Int))))]) (H' := []) ⟨rfl, trivial⟩ (Sub.refl _) ?_
    have hr := Option.some.inj h
    subst hr
    exact ⟨[(eStr (strOfNums ([(w8 (u64 ((48 : Int) + p0)))] : List Int)))], ⟨rfl, rfl, trivial⟩, rfl⟩
  · have h := (if_neg hc2).symm.trans h
    refine AW.condN (p0 < (10 : Int)) rfl hc2 ?_
    refine AW.skip (ρ' := [(0, (eU64 p0))]) (H' := []) ⟨rfl, trivial⟩ (Sub.refl _) ?_
    refine AW.seq ?_
    obtain ⟨t4, et4, h⟩ := of_bind h
    obtain ⟨hg6, h⟩ := of_guard h
    refine AW.regAny (by rfl) (by decide +kernel) [(eU64 p0), (eU64 (IntKind.u64.wrap (p0.tdiv (10 : Int)))), (eStr t4), (eU64 p0), (eU64 (p0.tmod (10 : Int))), (eU64 (u64 ((48 : Int) + (p0.tmod (10 : Int))))), (eU8 (w8 (u64 ((48 : Int) + (p0.tmod (10 : Int)))))), (.fz 1 (([(w8 (u64 ((48 : Int) + (p0.tmod (10 : Int)))))] : List Int).map eU8)), (eStr (strOfNums ([(w8 (u64 ((48 : Int) + (p0.tmod (10 : Int)))))] : List Int))), (eStr (t4 ++ (strOfNums ([(w8 (u64 ((48 : Int) + (p0.tmod (10 : Int)))))] : List Int)))), (eStr (t4 ++ (strOfNums ([(w8 (u64 ((48 : Int) + (p0.tmod (10 : Int)))))] : List Int))))] [(0, (eU64 p0))] ⟨rfl, trivial⟩ rfl ?_ [(2, (eStr (t4 ++ (strOfNums ([(w8 (u64 ((48 : Int) + (p0.tmod (10 : Int)))))] : List Int)))))] [] ⟨rfl, trivial⟩ (Sub.refl _) ?_
    · refine ⟨?_, ?_, ?_, ?_, ?_, ?_, ?_, ?_, ?_, ?_, ?_, trivial⟩
      · refine AO.weak (ρ' := [(0, (eU64 p0))]) (H' := []) ⟨rfl, trivial⟩ (Sub.refl _) ?_
        refine AO.calm rfl 10 rfl (by decide) (eU64 p0) (Calm.move rfl rfl) ?_
        exact AO.nilE (ρ' := [(10, (eU64 p0))]) (H' := []) ⟨⟨_, rfl, rfl⟩, Sub.refl _⟩ ⟨rfl, trivial⟩ (Sub.refl _)
      · refine AO.weak (ρ' := [(10, (eU64 p0))]) (H' := []) ⟨rfl, trivial⟩ (Sub.refl _) ?_
        refine AO.calm rfl 11 rfl (by decide) (eU64 (IntKind.u64.wrap (p0.tdiv (10 : Int)))) (Calm.quo rfl rfl rfl (by decide)) ?_
        exact AO.nilE (ρ' := [(11, (eU64 (IntKind.u64.wrap (p0.tdiv (10 : Int)))))]) (H' := []) ⟨⟨_, rfl, rfl⟩, Sub.refl _⟩ ⟨rfl, trivial⟩ (Sub.refl _)
      · refine AO.weak (ρ' := [(11, (eU64 (IntKind.u64.wrap (p0.tdiv (10 : Int)))))]) (H' := []) ⟨rfl, trivial⟩ (Sub.refl _) ?_
        refine AO.callS [(eU64 (IntKind.u64.wrap (p0.tdiv (10 : Int))))] (eStr t4) 12 rfl (by decide) ok80 rfl rfl rfl ⟨rfl, rfl, trivial⟩ (hself _ _ et4) ?_
        exact AO.nilE (ρ' := [(12, (eStr t4))]) (H' := []) ⟨⟨_, rfl, rfl⟩, Sub.refl _⟩ ⟨rfl, trivial⟩ (Sub.refl _)
      · refine AO.weak (ρ' := [(0, (eU64 p0))]) (H' := []) ⟨rfl, trivial⟩ (Sub.refl _) ?_
        refine AO.calm rfl 13 rfl (by decide) (eU64 p0) (Calm.move rfl rfl) ?_
        exact AO.nilE (ρ' := [(13, (eU64 p0))]) (H' := []) ⟨⟨_, rfl, rfl⟩, Sub.refl _⟩ ⟨rfl, trivial⟩ (Sub.refl _)
      · refine AO.weak (ρ' := [(13, (eU64 p0))]) (H' := []) ⟨rfl, trivial⟩ (Sub.refl _) ?_
        refine AO.calm rfl 14 rfl (by decide) (eU64 (p0.tmod (10 : Int))) (Calm.rem rfl rfl rfl (by decide)) ?_
        exact AO.nilE (ρ' := [(14, (eU64 (p0.tmod (10 : Int))))]) (H' := []) ⟨⟨_, rfl, rfl⟩, Sub.refl _⟩ ⟨rfl, trivial⟩ (Sub.refl _)
      · refine AO.weak (ρ' := [(14, (eU64 (p0.tmod (10 : Int))))]) (H' := []) ⟨rfl, trivial⟩ (Sub.refl _) ?_
        refine AO.calm rfl 15 rfl (by decide) (eU64 (u64 ((48 : Int) + (p0.tmod (10 : Int))))) (Calm.int rfl rfl rfl rfl) ?_
        exact AO.nilE (ρ' := [(15, (eU64 (u64 ((48 : Int) + (p0.tmod (10 : Int))))))]) (H' := []) ⟨⟨_, rfl, rfl⟩, Sub.refl _⟩ ⟨rfl, trivial⟩ (Sub.refl _)
      · refine AO.weak (ρ' := [(15, (eU64 (u64 ((48 : Int) + (p0.tmod (10 : Int))))))]) (H' := []) ⟨rfl, trivial⟩ (Sub.refl _) ?_
        refine AO.calm rfl 16 rfl (by decide) (eU8 (w8 (u64 ((48 : Int) + (p0.tmod (10 : Int)))))) (Calm.conv rfl rfl Try.underlying83 Try.underlying5) ?_
        exact AO.nilE (ρ' := [(16, (eU8 (w8 (u64 ((48 : Int) + (p0.tmod (10 : Int)))))))]) (H' := []) ⟨⟨_, rfl, rfl⟩, Sub.refl _⟩ ⟨rfl, trivial⟩ (Sub.refl _)
      · refine AO.weak (ρ' := [(16, (eU8 (w8 (u64 ((48 : Int) + (p0.tmod (10 : Int)))))))]) (H' := []) ⟨rfl, trivial⟩ (Sub.refl _) ?_
        refine AO.lit (Z := (eU8 (0 : Int))) (xs := (([(w8 (u64 ((48 : Int) + (p0.tmod (10 : Int)))))] : List Int).map eU8)) (qs := [(0, (eU8 (w8 (u64 ((48 : Int) + (p0.tmod (10 : Int)))))))]) rfl 17 rfl (by decide) rfl ⟨rfl, rfl, rfl, trivial⟩ Try.underlying84 sz5 zr5 lay5 rfl (by decide) (litOK (z := 1) [(eU8 (w8 (u64 ((48 : Int) + (p0.tmod (10 : Int))))))] rfl ⟨⟨rfl, rfl⟩, trivial⟩) rfl fun n5 => ?_
        refine AO.freezeS 0 [(17, (.fz 1 (([(w8 (u64 ((48 : Int) + (p0.tmod (10 : Int)))))] : List Int).map eU8)))] rfl ⟨fz_all rfl, trivial⟩ ?_
        exact AO.nilE (ρ' := [(17, (.fz 1 (([(w8 (u64 ((48 : Int) + (p0.tmod (10 : Int)))))] : List Int).map eU8)))]) (H' := []) ⟨⟨_, rfl, rfl⟩, Sub.refl _⟩ ⟨rfl, trivial⟩ (Sub.refl _)
      · refine AO.weak (ρ' := [(17, (.fz 1 (([(w8 (u64 ((48 : Int) + (p0.tmod (10 : Int)))))] : List Int).map eU8)))]) (H' := []) ⟨rfl, trivial⟩ (Sub.refl _) ?_
        refine AO.calm rfl 18 rfl (by decide) (eStr (strOfNums ([(w8 (u64 ((48 : Int) + (p0.tmod (10 : Int)))))] : List Int))) (Calm.strL rfl rfl Try.underlying84 Try.underlying9 Try.underlying5) ?_
        exact AO.nilE (ρ' := [(18, (eStr (strOfNums ([(w8 (u64 ((48 : Int) + (p0.tmod (10 : Int)))))] : List Int))))]) (H' := []) ⟨⟨_, rfl, rfl⟩, Sub.refl _⟩ ⟨rfl, trivial⟩ (Sub.refl _)
      · refine AO.weak (ρ' := [(12, (eStr t4)), (18, (eStr (strOfNums ([(w8 (u64 ((48 : Int) + (p0.tmod (10 : Int)))))] : List Int))))]) (H' := []) ⟨rfl, rfl, trivial⟩ (Sub.refl _) ?_
        refine AO.calm rfl 19 rfl (by decide) (eStr (t4 ++ (strOfNums ([(w8 (u64 ((48 : Int) + (p0.tmod (10 : Int)))))] : List Int)))) (Calm.cat rfl rfl rfl hg6) ?_
        exact AO.nilE (ρ' := [(19, (eStr (t4 ++ (strOfNums ([(w8 (u64 ((48 : Int) + (p0.tmod (10 : Int)))))] : List Int)))))]) (H' := []) ⟨⟨_, rfl, rfl⟩, Sub.refl _⟩ ⟨rfl, trivial⟩ (Sub.refl _)
      · refine AO.weak (ρ' := [(19, (eStr (t4 ++ (strOfNums ([(w8 (u64 ((48 : Int) + (p0.tmod (10 : Int)))))] : List Int)))))]) (H' := []) ⟨rfl, trivial⟩ (Sub.refl _) ?_
        refine AO.calm rfl 2 rfl (by decide) (eStr (t4 ++ (strOfNums ([(w8 (u64 ((48 : Int) + (p0.tmod (10 : Int)))))] : List Int)))) (Calm.assign rfl rfl) ?_
        exact AO.nilE (ρ' := [(2, (eStr (t4 ++ (strOfNums ([(w8 (u64 ((48 : Int) + (p0.tmod (10 : Int)))))] : List Int)))))]) (H' := []) ⟨⟨_, rfl, rfl⟩, Sub.refl _⟩ ⟨rfl, trivial⟩ (Sub.refl _)
    · refine AW.ret (ρ' := [(2, (eStr (t4 ++ (strOfNums ([(w8 (u64 ((48 : Int) + (p0.tmod (10 : Int)))))] : List Int)))))]) (H' := []) ⟨rfl, trivial⟩ (Sub.refl _) ?_
      have hr := Option.some.inj h
      subst hr
      exact ⟨[(eStr (t4 ++ (strOfNums ([(w8 (u64 ((48 : Int) + (p0.tmod (10 : Int)))))] : List Int))))], ⟨rfl, rfl, trivial⟩, rfl⟩
theorem spot_natural_spec {k : Nat} {p0 : Int} {r : ByteArray} (h : spot_natural k p0 = some r) : Spec Try.prog 80 [(eU64 p0)] (eStr r) := spot_natural_spec' k k p0 r h
end Go.Avl.T2
/- bosket/spot.digits; printed by avmain.py. -/
namespace Go.Avl.T2
open Go Go.RowKit Go.Proofs Go.Avl
set_option linter.unusedVariables false
set_option maxRecDepth 100000
set_option maxHeartbeats 4000000
attribute [local irreducible] AW AO AQ Spec SpecH Calm

def spot_digits (k : Nat) (p0 : Int) : Option ByteArray :=
  if p0 < (0 : Int) then (spot_natural k (u64 (IntKind.i64.wrap (0 - p0)))).bind fun t3 =>
  if (ByteArray.mk #[45]).size + t3.size ≤ 9223372036854775807 then some (((ByteArray.mk #[45]) ++ t3))
  else none
  else (spot_natural k (u64 p0)).bind fun t5 =>
  some (t5)
theorem spot_digits_spec {k : Nat} {p0 : Int} {r : ByteArray} (h : spot_digits k p0 = some r) : Spec Try.prog 59 [(eI64 p0)] (eStr r) := by
  rw [spot_digits.eq_1] at h
  refine Spec.intro (res := [.tmp 2]) Try.func59 rfl rfl rfl (Nat.le_of_ble_eq_true rfl) ?_
  refine AW.seq ?_
  refine AW.reg ?_
  refine AO.calm rfl 2 rfl (by decide) (eStr (ByteArray.mk #[])) (Calm.assign rfl rfl) ?_
  refine AO.nil (ρ' := [(0, (eI64 p0))]) (H' := []) ⟨rfl, trivial⟩ (Sub.refl _) ?_
  refine AW.seq ?_
  refine AW.seq ?_
  refine AW.reg ?_
  refine AO.calm rfl 3 rfl (by decide) (eI64 p0) (Calm.move rfl rfl) ?_
  refine AO.calm rfl 4 rfl (by decide) (eBool (decide (p0 < (0 : Int)))) (Calm.int rfl rfl rfl rfl) ?_
  refine AO.nil (ρ' := [(0, (eI64 p0)), (4, (eBool (decide (p0 < (0 : Int)))))]) (H' := []) ⟨rfl, rfl, trivial⟩ (Sub.refl _) ?_
  by_cases hc2 : p0 < (0 : Int)
  · have h := (if_pos hc2).symm.trans h
    refine AW.condP (p0 < (0 : Int)) rfl hc2 ?_
    refine AW.seq ?_
    refine AW.reg ?_
    refine AO.calm rfl 5 rfl (by decide) (eI64 p0) (Calm.move rfl rfl) ?_
    refine AO.calm rfl 6 rfl (by decide) (eI64 (IntKind.i64.wrap (0 - p0))) (Calm.neg rfl rfl) ?_
    refine AO.calm rfl 7 rfl (by decide) (eU64 (u64 (IntKind.i64.wrap (0 - p0)))) (Calm.conv rfl rfl Try.underlying3 Try.underlying83) ?_
    obtain ⟨t3, et3, h⟩ := of_bind h
    refine AO.callS [(eU64 (u64 (IntKind.i64.wrap (0 - p0))))] (eStr t3) 8 rfl (by decide) ok80 rfl rfl rfl ⟨rfl, rfl, trivial⟩ (spot_natural_spec et3) ?_
    obtain ⟨hg4, h⟩ := of_guard h
    refine AO.calm rfl 9 rfl (by decide) (eStr ((ByteArray.mk #[45]) ++ t3)) (Calm.cat rfl rfl rfl hg4) ?_
    refine AO.calm rfl 2 rfl (by decide) (eStr ((ByteArray.mk #[45]) ++ t3)) (Calm.assign rfl rfl) ?_
    refine AO.nil (ρ' := [(2, (eStr ((ByteArray.mk #[45]) ++ t3)))]) (H' := []) ⟨rfl, trivial⟩ (Sub.refl _) ?_
    refine AW.ret (ρ' := [(2, (eStr ((ByteArray.mk #[45]) ++ t3)))]) (H' := []) ⟨rfl, trivial⟩ (Sub.refl _) ?_
    have hr := Option.some.inj h
    subst hr
    exact ⟨[(eStr ((ByteArray.mk #[45]) ++ t3))], ⟨rfl, rfl, trivial⟩, rfl⟩
  · have h := (if_neg hc2).symm.trans h
    refine AW.condN (p0 < (0 : Int)) rfl hc2 ?_
    refine AW.skip (ρ' := [(0, (eI64 p0))]) (H' := []) ⟨rfl, trivial⟩ (Sub.refl _) ?_
    refine AW.seq ?_
    refine AW.reg ?_
    refine AO.calm rfl 10 rfl (by decide) (eI64 p0) (Calm.move rfl rfl) ?_
    refine AO.calm rfl 11 rfl (by decide) (eU64 (u64 p0)) (Calm.conv rfl rfl Try.underlying3 Try.underlying83) ?_
    obtain ⟨t5, et5, h⟩ := of_bind h
    refine AO.callS [(eU64 (u64 p0))] (eStr t5) 12 rfl (by decide) ok80 rfl rfl rfl ⟨rfl, rfl, trivial⟩ (spot_natural_spec et5) ?_
    refine AO.calm rfl 2 rfl (by decide) (eStr t5) (Calm.assign rfl rfl) ?_
    refine AO.nil (ρ' := [(2, (eStr t5))]) (H' := []) ⟨rfl, trivial⟩ (Sub.refl _) ?_
    refine AW.ret (ρ' := [(2, (eStr t5))]) (H' := []) ⟨rfl, trivial⟩ (Sub.refl _) ?_
    have hr := Option.some.inj h
    subst hr
    exact ⟨[(eStr t5)], ⟨rfl, rfl, trivial⟩, rfl⟩
end Go.Avl.T2
/- internal/stringslite.HasPrefix; printed by avmain.py. -/
namespace Go.Avl.T2
open Go Go.RowKit Go.Proofs Go.Avl
set_option linter.unusedVariables false
set_option maxRecDepth 100000
set_option maxHeartbeats 4000000
attribute [local irreducible] AW AO AQ Spec SpecH Calm

def internal_stringslite_HasPrefix (k : Nat) (p0 : ByteArray) (p1 : ByteArray) : Option Bool :=
  Option.bind (α := Bool) (if (p1.size : Int) ≤ (p0.size : Int) then if 0 ≤ (0 : Int) ∧ (0 : Int) ≤ (p1.size : Int) ∧ (p1.size : Int) ≤ (p0.size : Int) then some (decide ((p0.extract (0 : Int).toNat (p1.size : Int).toNat) = p1))
  else none
  else some (false)) fun b3 =>
  some (b3)
theorem internal_stringslite_HasPrefix_spec {k : Nat} {p0 : ByteArray} {p1 : ByteArray} {r : Bool} (h : internal_stringslite_HasPrefix k p0 p1 = some r) : Spec Try.prog 94 [(eStr p0), (eStr p1)] (eBool r) := by
  rw [internal_stringslite_HasPrefix.eq_1] at h
  refine Spec.intro (res := [.tmp 4]) Try.func94 rfl rfl rfl (Nat.le_of_ble_eq_true rfl) ?_
  refine AW.seq ?_
  refine AW.reg ?_
  refine AO.calm rfl 4 rfl (by decide) (eBool false) (Calm.assign rfl rfl) ?_
  refine AO.nil (ρ' := [(0, (eStr p0)), (1, (eStr p1))]) (H' := []) ⟨rfl, rfl, trivial⟩ (Sub.refl _) ?_
  refine AW.seq ?_
  obtain ⟨b3, hq4, h⟩ := of_bind h
  refine AW.regM [(4, (eBool b3))] [] ?_ ?_
  · refine AO.calm rfl 5 rfl (by decide) (eStr p0) (Calm.move rfl rfl) ?_
    refine AO.calm rfl 6 rfl (by decide) (eI64 (p0.size : Int)) (Calm.lenStr rfl rfl Try.underlying9) ?_
    refine AO.calm rfl 7 rfl (by decide) (eStr p1) (Calm.move rfl rfl) ?_
    refine AO.calm rfl 8 rfl (by decide) (eI64 (p1.size : Int)) (Calm.lenStr rfl rfl Try.underlying9) ?_
    refine AO.calm rfl 9 rfl (by decide) (eBool (decide ((p1.size : Int) ≤ (p0.size : Int)))) (Calm.int rfl rfl rfl rfl) ?_
    refine AO.calm rfl 10 rfl (by decide) (eBool (decide ((p1.size : Int) ≤ (p0.size : Int)))) (Calm.move rfl rfl) ?_
    by_cases hc5 : (p1.size : Int) ≤ (p0.size : Int)
    · have hq4 := (if_pos hc5).symm.trans hq4
      refine AO.calmG 5 true 10 rfl rfl (congrArg (fun b => some (AV.fl (Value.bool b))) (decide_eq_true hc5)) 11 rfl (by decide) (eStr p0) (Calm.move rfl rfl) ?_
      refine AO.calmG 5 true 10 rfl rfl (congrArg (fun b => some (AV.fl (Value.bool b))) (decide_eq_true hc5)) 12 rfl (by decide) (eStr p1) (Calm.move rfl rfl) ?_
      refine AO.calmG 5 true 10 rfl rfl (congrArg (fun b => some (AV.fl (Value.bool b))) (decide_eq_true hc5)) 13 rfl (by decide) (eI64 (p1.size : Int)) (Calm.lenStr rfl rfl Try.underlying9) ?_
      obtain ⟨hg6, hq4⟩ := of_guard hq4
      refine AO.calmG 5 true 10 rfl rfl (congrArg (fun b => some (AV.fl (Value.bool b))) (decide_eq_true hc5)) 14 rfl (by decide) (eStr (p0.extract (0 : Int).toNat (p1.size : Int).toNat)) (Calm.sliceS rfl rfl rfl rfl hg6 Try.underlying9) ?_
      refine AO.calmG 5 true 10 rfl rfl (congrArg (fun b => some (AV.fl (Value.bool b))) (decide_eq_true hc5)) 15 rfl (by decide) (eStr p1) (Calm.move rfl rfl) ?_
      refine AO.calmG 5 true 10 rfl rfl (congrArg (fun b => some (AV.fl (Value.bool b))) (decide_eq_true hc5)) 16 rfl (by decide) (eBool (decide ((p0.extract (0 : Int).toNat (p1.size : Int).toNat) = p1))) (Calm.str rfl rfl rfl rfl) ?_
      refine AO.calm rfl 17 rfl (by decide) (eBool (decide ((p0.extract (0 : Int).toNat (p1.size : Int).toNat) = p1))) (Calm.pickT rfl (congrArg (fun b => some (AV.fl (Value.bool b))) (decide_eq_true hc5)) rfl) ?_
      refine AO.calm rfl 4 rfl (by decide) (eBool (decide ((p0.extract (0 : Int).toNat (p1.size : Int).toNat) = p1))) (Calm.assign rfl rfl) ?_
      cases hq4
      refine AO.nilE ⟨rfl, rfl⟩ ?_ ?_
      · exact ⟨rfl, trivial⟩
      · exact (Sub.refl _)
    · have hq4 := (if_neg hc5).symm.trans hq4
      refine AO.skipG 5 false 10 rfl rfl (congrArg (fun b => some (AV.fl (Value.bool b))) (decide_eq_false hc5)) 11 rfl (by decide) ?_
      refine AO.skipG 5 false 10 rfl rfl (congrArg (fun b => some (AV.fl (Value.bool b))) (decide_eq_false hc5)) 12 rfl (by decide) ?_
      refine AO.skipG 5 false 10 rfl rfl (congrArg (fun b => some (AV.fl (Value.bool b))) (decide_eq_false hc5)) 13 rfl (by decide) ?_
      refine AO.skipG 5 false 10 rfl rfl (congrArg (fun b => some (AV.fl (Value.bool b))) (decide_eq_false hc5)) 14 rfl (by decide) ?_
      refine AO.skipG 5 false 10 rfl rfl (congrArg (fun b => some (AV.fl (Value.bool b))) (decide_eq_false hc5)) 15 rfl (by decide) ?_
      refine AO.skipG 5 false 10 rfl rfl (congrArg (fun b => some (AV.fl (Value.bool b))) (decide_eq_false hc5)) 16 rfl (by decide) ?_
      refine AO.calm rfl 17 rfl (by decide) (eBool false) (Calm.pickF rfl (congrArg (fun b => some (AV.fl (Value.bool b))) (decide_eq_false hc5)) rfl) ?_
      refine AO.calm rfl 4 rfl (by decide) (eBool false) (Calm.assign rfl rfl) ?_
      cases hq4
      refine AO.nilE ⟨rfl, rfl⟩ ?_ ?_
      · exact ⟨rfl, trivial⟩
      · exact (Sub.refl _)
  · refine AW.ret (ρ' := [(4, (eBool b3))]) (H' := []) ⟨rfl, trivial⟩ (Sub.refl _) ?_
    have hr := Option.some.inj h
    subst hr
    exact ⟨[(eBool b3)], ⟨rfl, rfl, trivial⟩, rfl⟩
end Go.Avl.T2
/- internal/stringslite.CutPrefix; printed by avmain.py. -/
namespace Go.Avl.T2
open Go Go.RowKit Go.Proofs Go.Avl
set_option linter.unusedVariables false
set_option maxRecDepth 100000
set_option maxHeartbeats 4000000
attribute [local irreducible] AW AO AQ Spec SpecH Calm

def internal_stringslite_CutPrefix (k : Nat) (p0 : ByteArray) (p1 : ByteArray) : Option (ByteArray × Bool) :=
  (internal_stringslite_HasPrefix k p0 p1).bind fun t3 =>
  if (!t3) = true then some (p0, false)
  else if 0 ≤ (p1.size : Int) ∧ (p1.size : Int) ≤ (p0.size : Int) ∧ (p0.size : Int) ≤ (p0.size : Int) then some ((p0.extract (p1.size : Int).toNat (p0.size : Int).toNat), true)
  else none
theorem internal_stringslite_CutPrefix_spec {k : Nat} {p0 : ByteArray} {p1 : ByteArray} {r : (ByteArray × Bool)} (h : internal_stringslite_CutPrefix k p0 p1 = some r) : Spec Try.prog 79 [(eStr p0), (eStr p1)] (.tup [(eStr r.1), (eBool r.2)]) := by
  rw [internal_stringslite_CutPrefix.eq_1] at h
  refine Spec.intro (res := [.tmp 4, .tmp 5]) Try.func79 rfl rfl rfl (Nat.le_of_ble_eq_true rfl) ?_
  refine AW.seq ?_
  refine AW.reg ?_
  refine AO.calm rfl 4 rfl (by decide) (eStr (ByteArray.mk #[])) (Calm.assign rfl rfl) ?_
  refine AO.calm rfl 5 rfl (by decide) (eBool false) (Calm.assign rfl rfl) ?_
  refine AO.nil (ρ' := [(0, (eStr p0)), (1, (eStr p1))]) (H' := []) ⟨rfl, rfl, trivial⟩ (Sub.refl _) ?_
  refine AW.seq ?_
  refine AW.seq ?_
  refine AW.reg ?_
  refine AO.calm rfl 6 rfl (by decide) (eStr p0) (Calm.move rfl rfl) ?_
  refine AO.calm rfl 7 rfl (by decide) (eStr p1) (Calm.move rfl rfl) ?_
  obtain ⟨t3, et3, h⟩ := of_bind h
  refine AO.callS [(eStr p0), (eStr p1)] (eBool t3) 8 rfl (by decide) ok94 rfl rfl rfl ⟨rfl, rfl, rfl, rfl, trivial⟩ (internal_stringslite_HasPrefix_spec et3) ?_
  refine AO.calm rfl 9 rfl (by decide) (eBool (!t3)) (Calm.not rfl rfl) ?_
  refine AO.nil (ρ' := [(0, (eStr p0)), (1, (eStr p1)), (9, (eBool (!t3)))]) (H' := []) ⟨rfl, rfl, rfl, trivial⟩ (Sub.refl _) ?_
  by_cases hc4 : (!t3) = true
  · have h := (if_pos hc4).symm.trans h
    refine AW.condT' (!t3) rfl hc4 ?_
    refine AW.seq ?_
    refine AW.reg ?_
    refine AO.calm rfl 10 rfl (by decide) (eStr p0) (Calm.move rfl rfl) ?_
    refine AO.calm rfl 4 rfl (by decide) (eStr p0) (Calm.assign rfl rfl) ?_
    refine AO.calm rfl 5 rfl (by decide) (eBool false) (Calm.assign rfl rfl) ?_
    refine AO.nil (ρ' := [(4, (eStr p0)), (5, (eBool false))]) (H' := []) ⟨rfl, rfl, trivial⟩ (Sub.refl _) ?_
    refine AW.ret (ρ' := [(4, (eStr p0)), (5, (eBool false))]) (H' := []) ⟨rfl, rfl, trivial⟩ (Sub.refl _) ?_
    have hr := Option.some.inj h
    subst hr
    exact ⟨[(eStr p0), (eBool false)], ⟨rfl, rfl, rfl, rfl, trivial⟩, rfl⟩
  · have h := (if_neg hc4).symm.trans h
    refine AW.condF' (!t3) rfl hc4 ?_
    refine AW.skip (ρ' := [(0, (eStr p0)), (1, (eStr p1))]) (H' := []) ⟨rfl, rfl, trivial⟩ (Sub.refl _) ?_
    refine AW.seq ?_
    refine AW.reg ?_
    refine AO.calm rfl 11 rfl (by decide) (eStr p0) (Calm.move rfl rfl) ?_
    refine AO.calm rfl 12 rfl (by decide) (eStr p1) (Calm.move rfl rfl) ?_
    refine AO.calm rfl 13 rfl (by decide) (eI64 (p1.size : Int)) (Calm.lenStr rfl rfl Try.underlying9) ?_
    obtain ⟨hg5, h⟩ := of_guard h
    refine AO.calm rfl 14 rfl (by decide) (eStr (p0.extract (p1.size : Int).toNat (p0.size : Int).toNat)) (Calm.sliceS rfl rfl rfl rfl hg5 Try.underlying9) ?_
    refine AO.calm rfl 4 rfl (by decide) (eStr (p0.extract (p1.size : Int).toNat (p0.size : Int).toNat)) (Calm.assign rfl rfl) ?_
    refine AO.calm rfl 5 rfl (by decide) (eBool true) (Calm.assign rfl rfl) ?_
    refine AO.nil (ρ' := [(4, (eStr (p0.extract (p1.size : Int).toNat (p0.size : Int).toNat))), (5, (eBool true))]) (H' := []) ⟨rfl, rfl, trivial⟩ (Sub.refl _) ?_
    refine AW.ret (ρ' := [(4, (eStr (p0.extract (p1.size : Int).toNat (p0.size : Int).toNat))), (5, (eBool true))]) (H' := []) ⟨rfl, rfl, trivial⟩ (Sub.refl _) ?_
    have hr := Option.some.inj h
    subst hr
    exact ⟨[(eStr (p0.extract (p1.size : Int).toNat (p0.size : Int).toNat)), (eBool true)], ⟨rfl, rfl, rfl, rfl, trivial⟩, rfl⟩
end Go.Avl.T2
/- strings.CutPrefix; printed by avmain.py. -/
namespace Go.Avl.T2
open Go Go.RowKit Go.Proofs Go.Avl
set_option linter.unusedVariables false
set_option maxRecDepth 100000
set_option maxHeartbeats 4000000
attribute [local irreducible] AW AO AQ Spec SpecH Calm

def strings_CutPrefix (k : Nat) (p0 : ByteArray) (p1 : ByteArray) : Option (ByteArray × Bool) :=
  (internal_stringslite_CutPrefix k p0 p1).bind fun t3 =>
  some (t3.1, t3.2)
theorem strings_CutPrefix_spec {k : Nat} {p0 : ByteArray} {p1 : ByteArray} {r : (ByteArray × Bool)} (h : strings_CutPrefix k p0 p1 = some r) : Spec Try.prog 58 [(eStr p0), (eStr p1)] (.tup [(eStr r.1), (eBool r.2)]) := by
  rw [strings_CutPrefix.eq_1] at h
  refine Spec.intro (res := [.tmp 4, .tmp 5]) Try.func58 rfl rfl rfl (Nat.le_of_ble_eq_true rfl) ?_
  refine AW.seq ?_
  refine AW.reg ?_
  refine AO.calm rfl 4 rfl (by decide) (eStr (ByteArray.mk #[])) (Calm.assign rfl rfl) ?_
  refine AO.calm rfl 5 rfl (by decide) (eBool false) (Calm.assign rfl rfl) ?_
  refine AO.nil (ρ' := [(0, (eStr p0)), (1, (eStr p1))]) (H' := []) ⟨rfl, rfl, trivial⟩ (Sub.refl _) ?_
  refine AW.seq ?_
  refine AW.reg ?_
  refine AO.calm rfl 6 rfl (by decide) (eStr p0) (Calm.move rfl rfl) ?_
  refine AO.calm rfl 7 rfl (by decide) (eStr p1) (Calm.move rfl rfl) ?_
  obtain ⟨t3, et3, h⟩ := of_bind h
  refine AO.callS [(eStr p0), (eStr p1)] (.tup [(eStr t3.1), (eBool t3.2)]) 8 rfl (by decide) ok79 rfl rfl rfl ⟨rfl, rfl, rfl, rfl, trivial⟩ (internal_stringslite_CutPrefix_spec et3) ?_
  refine AO.calm rfl 9 rfl (by decide) (eStr t3.1) (Calm.extract rfl rfl rfl) ?_
  refine AO.calm rfl 10 rfl (by decide) (eBool t3.2) (Calm.extract rfl rfl rfl) ?_
  refine AO.calm rfl 4 rfl (by decide) (eStr t3.1) (Calm.assign rfl rfl) ?_
  refine AO.calm rfl 5 rfl (by decide) (eBool t3.2) (Calm.assign rfl rfl) ?_
  refine AO.nil (ρ' := [(4, (eStr t3.1)), (5, (eBool t3.2))]) (H' := []) ⟨rfl, rfl, trivial⟩ (Sub.refl _) ?_
  refine AW.ret (ρ' := [(4, (eStr t3.1)), (5, (eBool t3.2))]) (H' := []) ⟨rfl, rfl, trivial⟩ (Sub.refl _) ?_
  have hr := Option.some.inj h
  subst hr
  exact ⟨[(eStr t3.1), (eBool t3.2)], ⟨rfl, rfl, rfl, rfl, trivial⟩, rfl⟩
end Go.Avl.T2
