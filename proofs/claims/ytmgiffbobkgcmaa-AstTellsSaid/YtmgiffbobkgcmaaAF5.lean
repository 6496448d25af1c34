/- Parts: T2f26, T2f21, T2f22, T2f32, T2f24, T2f34, T2f35, T2f36, T2f27. -/
import Derived.Test.YtmgiffbobkgcmaaAF1
import Derived.Test.YtmgiffbobkgcmaaAF3
import Derived.Test.YtmgiffbobkgcmaaAF4
/- bosket/ast.Read; printed by avmain.py. -/
namespace Go.Avl.T2
open Go Go.RowKit Go.Proofs Go.Avl
set_option linter.unusedVariables false
set_option maxRecDepth 100000
set_option maxHeartbeats 4000000
attribute [local irreducible] AW AO AQ Spec SpecH Calm

def ast_Read (k : Nat) (p0 : ByteArray) : Option ((List S43) × Bool) :=
  (ast_reader_tree k (S88.mk p0 (0 : Int) (0 : Int))).bind fun t3 =>
  Option.bind (α := Bool) (if (!t3.2.1) = true then some (true)
  else if t3.2.2.f1 ≠ (p0.size : Int) then some (true)
  else (ast_Show k t3.1).bind fun t9 =>
  some (decide (t9 ≠ p0))) fun b5 =>
  if b5 = true then some ([], false)
  else some (t3.1, true)
theorem ast_Read_spec {k : Nat} {p0 : ByteArray} {r : ((List S43) × Bool)} (h : ast_Read k p0 = some r) : Spec Try.prog 26 [(eStr p0)] (.tup [(.fz 4 (r.1.map e43)), (eBool r.2)]) := by
  rw [ast_Read.eq_1] at h
  refine Spec.intro (res := [.tmp 2, .tmp 3]) Try.func26 rfl rfl rfl (Nat.le_of_ble_eq_true rfl) ?_
  refine AW.seq ?_
  refine AW.reg ?_
  refine AO.calm rfl 2 rfl (by decide) (.fl (.slice none 0 0)) (Calm.assign rfl rfl) ?_
  refine AO.calm rfl 3 rfl (by decide) (eBool false) (Calm.assign rfl rfl) ?_
  refine AO.nil (ρ' := [(0, (eStr p0))]) (H' := []) ⟨rfl, trivial⟩ (Sub.refl _) ?_
  refine AW.seq ?_
  refine AW.reg ?_
  refine AO.calm rfl 7 rfl (by decide) (eStr p0) (Calm.move rfl rfl) ?_
  refine AO.calm rfl 8 rfl (by decide) (.st [(1, (eStr p0)), (1, (eI64 (0 : Int))), (1, (eI64 (0 : Int)))]) (Calm.build (qs := [(0, (eStr p0))]) rfl ⟨rfl, rfl, rfl, trivial⟩ Try.underlying88 rfl zr88 lay88 (.cons rfl rfl rfl rfl (Put.cast (Put.fld0 Put.here) rfl) .nil) rfl) ?_
  refine AO.box rfl 9 rfl (by decide) rfl rfl rfl fun n2 => ?_
  refine AO.calm rfl 4 rfl (by decide) (.ptr n2 0) (Calm.assign rfl rfl) ?_
  refine AO.nil (ρ' := [(0, (eStr p0)), (4, (.ptr n2 0))]) (H' := [(n2, .mem (e88 (S88.mk p0 (0 : Int) (0 : Int))))]) ⟨rfl, rfl, trivial⟩ (Sub.refl _) ?_
  refine AW.seq ?_
  refine AW.reg ?_
  refine AO.calm rfl 11 rfl (by decide) (.ptr n2 0) (Calm.move rfl rfl) ?_
  obtain ⟨t3, et3, h⟩ := of_bind h
  refine AO.callH [(.ptr n2 0)] [(n2, .mem (e88 (S88.mk p0 (0 : Int) (0 : Int))))] _ rfl rfl rfl 12 rfl (by decide) ok62 ⟨rfl, rfl, trivial⟩ (Sub.cons 0 rfl (Sub.refl _)) (ast_reader_tree_spec et3) ?_
  rintro _ _ ⟨rfl, hs4⟩
  refine AO.weak (ρ' := [(0, (eStr p0)), (4, (.ptr n2 0)), (11, (.ptr n2 0)), (12, (.tup [(.fz 4 (t3.1.map e43)), (eBool t3.2.1)]))]) (H' := [(n2, .mem (e88 t3.2.2))]) ⟨rfl, rfl, rfl, rfl, trivial⟩ hs4 ?_
  refine AO.calm rfl 10 rfl (by decide) (.tup [(.fz 4 (t3.1.map e43)), (eBool t3.2.1)]) (Calm.move rfl rfl) ?_
  refine AO.calm rfl 13 rfl (by decide) (.fz 4 (t3.1.map e43)) (Calm.extract rfl rfl rfl) ?_
  refine AO.calm rfl 14 rfl (by decide) (eBool t3.2.1) (Calm.extract rfl rfl rfl) ?_
  refine AO.calm rfl 5 rfl (by decide) (.fz 4 (t3.1.map e43)) (Calm.assign rfl rfl) ?_
  refine AO.calm rfl 6 rfl (by decide) (eBool t3.2.1) (Calm.assign rfl rfl) ?_
  refine AO.nil (ρ' := [(0, (eStr p0)), (4, (.ptr n2 0)), (5, (.fz 4 (t3.1.map e43))), (6, (eBool t3.2.1))]) (H' := [(n2, .mem (e88 t3.2.2))]) ⟨rfl, rfl, rfl, rfl, trivial⟩ (Sub.refl _) ?_
  refine AW.seq ?_
  refine AW.seq ?_
  obtain ⟨b5, hq6, h⟩ := of_bind h
  refine AW.regM [(5, (.fz 4 (t3.1.map e43))), (31, (eBool b5))] [] ?_ ?_
  · refine AO.calm rfl 15 rfl (by decide) (eBool t3.2.1) (Calm.move rfl rfl) ?_
    refine AO.calm rfl 16 rfl (by decide) (eBool (!t3.2.1)) (Calm.not rfl rfl) ?_
    refine AO.calm rfl 17 rfl (by decide) (eBool (!t3.2.1)) (Calm.move rfl rfl) ?_
    by_cases hc7 : (!t3.2.1) = true
    · have hq6 := (if_pos hc7).symm.trans hq6
      refine AO.skipG 2 true 17 rfl rfl (congrArg (fun b => some (AV.fl (Value.bool b))) hc7) 18 rfl (by decide) ?_
      refine AO.skipG 2 true 17 rfl rfl (congrArg (fun b => some (AV.fl (Value.bool b))) hc7) 19 rfl (by decide) ?_
      refine AO.skipG 2 true 17 rfl rfl (congrArg (fun b => some (AV.fl (Value.bool b))) hc7) 20 rfl (by decide) ?_
      refine AO.skipG 2 true 17 rfl rfl (congrArg (fun b => some (AV.fl (Value.bool b))) hc7) 21 rfl (by decide) ?_
      refine AO.skipG 2 true 17 rfl rfl (congrArg (fun b => some (AV.fl (Value.bool b))) hc7) 22 rfl (by decide) ?_
      refine AO.skipG 2 true 17 rfl rfl (congrArg (fun b => some (AV.fl (Value.bool b))) hc7) 23 rfl (by decide) ?_
      refine AO.skipG 2 true 17 rfl rfl (congrArg (fun b => some (AV.fl (Value.bool b))) hc7) 24 rfl (by decide) ?_
      refine AO.calm rfl 25 rfl (by decide) (eBool true) (Calm.pickT rfl (congrArg (fun b => some (AV.fl (Value.bool b))) hc7) rfl) ?_
      refine AO.calm rfl 26 rfl (by decide) (eBool true) (Calm.move rfl rfl) ?_
      refine AO.skipG 11 true 26 rfl rfl rfl 27 rfl (by decide) ?_
      refine AO.skipG 11 true 26 rfl rfl rfl 28 rfl (by decide) ?_
      refine AO.skipG 11 true 26 rfl rfl rfl 29 rfl (by decide) ?_
      refine AO.skipG 11 true 26 rfl rfl rfl 30 rfl (by decide) ?_
      refine AO.calm rfl 31 rfl (by decide) (eBool true) (Calm.pickT rfl rfl rfl) ?_
      cases hq6
      refine AO.nilE ⟨rfl, rfl⟩ ?_ ?_
      · exact ⟨rfl, rfl, trivial⟩
      · exact (Sub.nil _)
    · have hq6 := (if_neg hc7).symm.trans hq6
      refine AO.calmG 2 false 17 rfl rfl (congrArg (fun b => some (AV.fl (Value.bool b))) (eq_false_of_ne_true hc7)) 18 rfl (by decide) (.ptr n2 0) (Calm.move rfl rfl) ?_
      refine AO.calmG 2 false 17 rfl rfl (congrArg (fun b => some (AV.fl (Value.bool b))) (eq_false_of_ne_true hc7)) 19 rfl (by decide) (.ptr n2 0) (Calm.nilCheck rfl rfl) ?_
      refine AO.calmG 2 false 17 rfl rfl (congrArg (fun b => some (AV.fl (Value.bool b))) (eq_false_of_ne_true hc7)) 20 rfl (by decide) (.ptr n2 1) (Calm.fldPtr rfl rfl Try.underlying88 rfl sz3 _ rfl) ?_
      refine AO.calmG 2 false 17 rfl rfl (congrArg (fun b => some (AV.fl (Value.bool b))) (eq_false_of_ne_true hc7)) 21 rfl (by decide) (eI64 t3.2.2.f1) (Calm.load 0 rfl rfl rfl (At.cast (At.fldS (At.fld0 At.here)) rfl) ag3 sz3) ?_
      refine AO.calmG 2 false 17 rfl rfl (congrArg (fun b => some (AV.fl (Value.bool b))) (eq_false_of_ne_true hc7)) 22 rfl (by decide) (eStr p0) (Calm.move rfl rfl) ?_
      refine AO.calmG 2 false 17 rfl rfl (congrArg (fun b => some (AV.fl (Value.bool b))) (eq_false_of_ne_true hc7)) 23 rfl (by decide) (eI64 (p0.size : Int)) (Calm.lenStr rfl rfl Try.underlying9) ?_
      refine AO.calmG 2 false 17 rfl rfl (congrArg (fun b => some (AV.fl (Value.bool b))) (eq_false_of_ne_true hc7)) 24 rfl (by decide) (eBool (decide (t3.2.2.f1 ≠ (p0.size : Int)))) (Calm.int rfl rfl rfl rfl) ?_
      refine AO.calm rfl 25 rfl (by decide) (eBool (decide (t3.2.2.f1 ≠ (p0.size : Int)))) (Calm.pickF rfl (congrArg (fun b => some (AV.fl (Value.bool b))) (eq_false_of_ne_true hc7)) rfl) ?_
      refine AO.calm rfl 26 rfl (by decide) (eBool (decide (t3.2.2.f1 ≠ (p0.size : Int)))) (Calm.move rfl rfl) ?_
      by_cases hc8 : t3.2.2.f1 ≠ (p0.size : Int)
      · have hq6 := (if_pos hc8).symm.trans hq6
        refine AO.skipG 11 true 26 rfl rfl (congrArg (fun b => some (AV.fl (Value.bool b))) (decide_eq_true hc8)) 27 rfl (by decide) ?_
        refine AO.skipG 11 true 26 rfl rfl (congrArg (fun b => some (AV.fl (Value.bool b))) (decide_eq_true hc8)) 28 rfl (by decide) ?_
        refine AO.skipG 11 true 26 rfl rfl (congrArg (fun b => some (AV.fl (Value.bool b))) (decide_eq_true hc8)) 29 rfl (by decide) ?_
        refine AO.skipG 11 true 26 rfl rfl (congrArg (fun b => some (AV.fl (Value.bool b))) (decide_eq_true hc8)) 30 rfl (by decide) ?_
        refine AO.calm rfl 31 rfl (by decide) (eBool true) (Calm.pickT rfl (congrArg (fun b => some (AV.fl (Value.bool b))) (decide_eq_true hc8)) rfl) ?_
        cases hq6
        refine AO.nilE ⟨rfl, rfl⟩ ?_ ?_
        · exact ⟨rfl, rfl, trivial⟩
        · exact (Sub.nil _)
      · have hq6 := (if_neg hc8).symm.trans hq6
        refine AO.calmG 11 false 26 rfl rfl (congrArg (fun b => some (AV.fl (Value.bool b))) (decide_eq_false hc8)) 27 rfl (by decide) (.fz 4 (t3.1.map e43)) (Calm.move rfl rfl) ?_
        obtain ⟨t9, et9, hq6⟩ := of_bind hq6
        refine AO.callG 11 false 26 [(.fz 4 (t3.1.map e43))] (eStr t9) 28 rfl (by decide) ok23 rfl rfl (congrArg (fun b => some (AV.fl (Value.bool b))) (decide_eq_false hc8)) rfl rfl ⟨rfl, rfl, trivial⟩ (ast_Show_spec et9) ?_
        refine AO.calmG 11 false 26 rfl rfl (congrArg (fun b => some (AV.fl (Value.bool b))) (decide_eq_false hc8)) 29 rfl (by decide) (eStr p0) (Calm.move rfl rfl) ?_
        refine AO.calmG 11 false 26 rfl rfl (congrArg (fun b => some (AV.fl (Value.bool b))) (decide_eq_false hc8)) 30 rfl (by decide) (eBool (decide (t9 ≠ p0))) (Calm.str rfl rfl rfl rfl) ?_
        refine AO.calm rfl 31 rfl (by decide) (eBool (decide (t9 ≠ p0))) (Calm.pickF rfl (congrArg (fun b => some (AV.fl (Value.bool b))) (decide_eq_false hc8)) rfl) ?_
        cases hq6
        refine AO.nilE ⟨rfl, rfl⟩ ?_ ?_
        · exact ⟨rfl, rfl, trivial⟩
        · exact (Sub.nil _)
  · by_cases hc10 : b5 = true
    · have h := (if_pos hc10).symm.trans h
      refine AW.condT' b5 rfl hc10 ?_
      refine AW.seq ?_
      refine AW.reg ?_
      refine AO.calm rfl 2 rfl (by decide) (.fl (.slice none 0 0)) (Calm.assign rfl rfl) ?_
      refine AO.calm rfl 3 rfl (by decide) (eBool false) (Calm.assign rfl rfl) ?_
      refine AO.nil (ρ' := [(2, (.fl (.slice none 0 0))), (3, (eBool false))]) (H' := []) ⟨rfl, rfl, trivial⟩ (Sub.refl _) ?_
      refine AW.coeC 2 (y' := (.fz 4 (([] : List S43).map e43))) rfl Coe.nil ?_
      refine AW.ret (ρ' := [(2, (.fz 4 (([] : List S43).map e43))), (3, (eBool false))]) (H' := []) ⟨rfl, rfl, trivial⟩ (Sub.refl _) ?_
      have hr := Option.some.inj h
      subst hr
      exact ⟨[(.fz 4 (([] : List S43).map e43)), (eBool false)], ⟨rfl, rfl, rfl, rfl, trivial⟩, rfl⟩
    · have h := (if_neg hc10).symm.trans h
      refine AW.condF' b5 rfl hc10 ?_
      refine AW.skip (ρ' := [(5, (.fz 4 (t3.1.map e43)))]) (H' := []) ⟨rfl, trivial⟩ (Sub.refl _) ?_
      refine AW.seq ?_
      refine AW.reg ?_
      refine AO.calm rfl 32 rfl (by decide) (.fz 4 (t3.1.map e43)) (Calm.move rfl rfl) ?_
      refine AO.calm rfl 2 rfl (by decide) (.fz 4 (t3.1.map e43)) (Calm.assign rfl rfl) ?_
      refine AO.calm rfl 3 rfl (by decide) (eBool true) (Calm.assign rfl rfl) ?_
      refine AO.nil (ρ' := [(2, (.fz 4 (t3.1.map e43))), (3, (eBool true))]) (H' := []) ⟨rfl, rfl, trivial⟩ (Sub.refl _) ?_
      refine AW.ret (ρ' := [(2, (.fz 4 (t3.1.map e43))), (3, (eBool true))]) (H' := []) ⟨rfl, rfl, trivial⟩ (Sub.refl _) ?_
      have hr := Option.some.inj h
      subst hr
      exact ⟨[(.fz 4 (t3.1.map e43)), (eBool true)], ⟨rfl, rfl, rfl, rfl, trivial⟩, rfl⟩
end Go.Avl.T2
/- bosket/bosketlaw31.awake; printed by avmain.py. -/
namespace Go.Avl.T2
open Go Go.RowKit Go.Proofs Go.Avl
set_option linter.unusedVariables false
set_option maxRecDepth 100000
set_option maxHeartbeats 4000000
attribute [local irreducible] AW AO AQ Spec SpecH Calm

def bosketlaw31_awake (k : Nat) : Option Bool :=
  (ast_Read k (ByteArray.mk #[40, 49, 32, 48, 58, 34, 97, 34, 32, 40, 50, 41, 41])).bind fun t1 =>
  Option.bind (α := Bool) (if t1.2 = true then if (t1.1.length : Int) = (3 : Int) then if 0 ≤ (0 : Int) ∧ (0 : Int) < (t1.1.length : Int) then if ((lget t1.1 (0 : Int)).f2) = (2 : Int) then if 0 ≤ (1 : Int) ∧ (1 : Int) < (t1.1.length : Int) then if ((lget t1.1 (1 : Int)).f0) = true then if 0 ≤ (1 : Int) ∧ (1 : Int) < (t1.1.length : Int) then if ((lget t1.1 (1 : Int)).f3) = (ByteArray.mk #[97]) then if 0 ≤ (2 : Int) ∧ (2 : Int) < (t1.1.length : Int) then some (decide (((lget t1.1 (2 : Int)).f1) = (2 : Int)))
  else none
  else some (false)
  else none
  else some (false)
  else none
  else some (false)
  else none
  else some (false)
  else some (false)) fun b2 =>
  some (b2)
theorem bosketlaw31_awake_spec {k : Nat}  {r : Bool} (h : bosketlaw31_awake k = some r) : Spec Try.prog 21 [] (eBool r) := by
  rw [bosketlaw31_awake.eq_1] at h
  refine Spec.intro (res := [.tmp 0]) Try.func21 rfl rfl rfl (Nat.le_of_ble_eq_true rfl) ?_
  refine AW.seq ?_
  refine AW.reg ?_
  refine AO.calm rfl 0 rfl (by decide) (eBool false) (Calm.assign rfl rfl) ?_
  refine AO.nil (ρ' := []) (H' := []) trivial (Sub.refl _) ?_
  refine AW.seq ?_
  refine AW.reg ?_
  obtain ⟨t1, et1, h⟩ := of_bind h
  refine AO.callS [(eStr (ByteArray.mk #[40, 49, 32, 48, 58, 34, 97, 34, 32, 40, 50, 41, 41]))] (.tup [(.fz 4 (t1.1.map e43)), (eBool t1.2)]) 4 rfl (by decide) ok26 rfl rfl rfl ⟨rfl, rfl, trivial⟩ (ast_Read_spec et1) ?_
  refine AO.calm rfl 3 rfl (by decide) (.tup [(.fz 4 (t1.1.map e43)), (eBool t1.2)]) (Calm.move rfl rfl) ?_
  refine AO.calm rfl 5 rfl (by decide) (.fz 4 (t1.1.map e43)) (Calm.extract rfl rfl rfl) ?_
  refine AO.calm rfl 6 rfl (by decide) (eBool t1.2) (Calm.extract rfl rfl rfl) ?_
  refine AO.calm rfl 1 rfl (by decide) (.fz 4 (t1.1.map e43)) (Calm.assign rfl rfl) ?_
  refine AO.calm rfl 2 rfl (by decide) (eBool t1.2) (Calm.assign rfl rfl) ?_
  refine AO.nil (ρ' := [(1, (.fz 4 (t1.1.map e43))), (2, (eBool t1.2))]) (H' := []) ⟨rfl, rfl, trivial⟩ (Sub.refl _) ?_
  refine AW.seq ?_
  obtain ⟨b2, hq3, h⟩ := of_bind h
  refine AW.regM [(0, (eBool b2))] [] ?_ ?_
  · refine AO.calm rfl 7 rfl (by decide) (eBool t1.2) (Calm.move rfl rfl) ?_
    refine AO.calm rfl 8 rfl (by decide) (eBool t1.2) (Calm.move rfl rfl) ?_
    by_cases hc4 : t1.2 = true
    · have hq3 := (if_pos hc4).symm.trans hq3
      refine AO.calmG 1 true 8 rfl rfl (congrArg (fun b => some (AV.fl (Value.bool b))) hc4) 9 rfl (by decide) (.fz 4 (t1.1.map e43)) (Calm.move rfl rfl) ?_
      refine AO.calmG 1 true 8 rfl rfl (congrArg (fun b => some (AV.fl (Value.bool b))) hc4) 10 rfl (by decide) (eI64 (t1.1.length : Int)) (Calm.lenL rfl rfl Try.underlying37) ?_
      refine AO.calmG 1 true 8 rfl rfl (congrArg (fun b => some (AV.fl (Value.bool b))) hc4) 11 rfl (by decide) (eBool (decide ((t1.1.length : Int) = (3 : Int)))) (Calm.int rfl rfl rfl rfl) ?_
      refine AO.calm rfl 12 rfl (by decide) (eBool (decide ((t1.1.length : Int) = (3 : Int)))) (Calm.pickT rfl (congrArg (fun b => some (AV.fl (Value.bool b))) hc4) rfl) ?_
      refine AO.calm rfl 13 rfl (by decide) (eBool (decide ((t1.1.length : Int) = (3 : Int)))) (Calm.move rfl rfl) ?_
      by_cases hc5 : (t1.1.length : Int) = (3 : Int)
      · have hq3 := (if_pos hc5).symm.trans hq3
        refine AO.calmG 6 true 13 rfl rfl (congrArg (fun b => some (AV.fl (Value.bool b))) (decide_eq_true hc5)) 14 rfl (by decide) (.fz 4 (t1.1.map e43)) (Calm.move rfl rfl) ?_
        obtain ⟨hg6, hq3⟩ := of_guard hq3
        refine AO.calmG 6 true 13 rfl rfl (congrArg (fun b => some (AV.fl (Value.bool b))) (decide_eq_true hc5)) 15 rfl (by decide) (.rp (e43 (lget t1.1 (0 : Int)))) (Calm.idxL (f := e43) rfl rfl rfl hg6 Try.underlying37 sz43) ?_
        refine AO.calmG 6 true 13 rfl rfl (congrArg (fun b => some (AV.fl (Value.bool b))) (decide_eq_true hc5)) 16 rfl (by decide) (.rp (eI64 ((lget t1.1 (0 : Int)).f2))) (Calm.fldRp rfl rfl Try.underlying43 rfl sz3 (At.cast (At.fldS (At.fldS (At.fld0 At.here))) rfl)) ?_
        refine AO.calmG 6 true 13 rfl rfl (congrArg (fun b => some (AV.fl (Value.bool b))) (decide_eq_true hc5)) 17 rfl (by decide) (eI64 ((lget t1.1 (0 : Int)).f2)) (Calm.loadRp rfl rfl ag3 sz3) ?_
        refine AO.calmG 6 true 13 rfl rfl (congrArg (fun b => some (AV.fl (Value.bool b))) (decide_eq_true hc5)) 18 rfl (by decide) (eBool (decide (((lget t1.1 (0 : Int)).f2) = (2 : Int)))) (Calm.int rfl rfl rfl rfl) ?_
        refine AO.calm rfl 19 rfl (by decide) (eBool (decide (((lget t1.1 (0 : Int)).f2) = (2 : Int)))) (Calm.pickT rfl (congrArg (fun b => some (AV.fl (Value.bool b))) (decide_eq_true hc5)) rfl) ?_
        refine AO.calm rfl 20 rfl (by decide) (eBool (decide (((lget t1.1 (0 : Int)).f2) = (2 : Int)))) (Calm.move rfl rfl) ?_
        by_cases hc7 : ((lget t1.1 (0 : Int)).f2) = (2 : Int)
        · have hq3 := (if_pos hc7).symm.trans hq3
          refine AO.calmG 13 true 20 rfl rfl (congrArg (fun b => some (AV.fl (Value.bool b))) (decide_eq_true hc7)) 21 rfl (by decide) (.fz 4 (t1.1.map e43)) (Calm.move rfl rfl) ?_
          obtain ⟨hg8, hq3⟩ := of_guard hq3
          refine AO.calmG 13 true 20 rfl rfl (congrArg (fun b => some (AV.fl (Value.bool b))) (decide_eq_true hc7)) 22 rfl (by decide) (.rp (e43 (lget t1.1 (1 : Int)))) (Calm.idxL (f := e43) rfl rfl rfl hg8 Try.underlying37 sz43) ?_
          refine AO.calmG 13 true 20 rfl rfl (congrArg (fun b => some (AV.fl (Value.bool b))) (decide_eq_true hc7)) 23 rfl (by decide) (.rp (eBool ((lget t1.1 (1 : Int)).f0))) (Calm.fldRp rfl rfl Try.underlying43 rfl sz4 (At.cast (At.fld0 At.here) rfl)) ?_
          refine AO.calmG 13 true 20 rfl rfl (congrArg (fun b => some (AV.fl (Value.bool b))) (decide_eq_true hc7)) 24 rfl (by decide) (eBool ((lget t1.1 (1 : Int)).f0)) (Calm.loadRp rfl rfl ag4 sz4) ?_
          refine AO.calm rfl 25 rfl (by decide) (eBool ((lget t1.1 (1 : Int)).f0)) (Calm.pickT rfl (congrArg (fun b => some (AV.fl (Value.bool b))) (decide_eq_true hc7)) rfl) ?_
          refine AO.calm rfl 26 rfl (by decide) (eBool ((lget t1.1 (1 : Int)).f0)) (Calm.move rfl rfl) ?_
          by_cases hc9 : ((lget t1.1 (1 : Int)).f0) = true
          · have hq3 := (if_pos hc9).symm.trans hq3
            refine AO.calmG 19 true 26 rfl rfl (congrArg (fun b => some (AV.fl (Value.bool b))) hc9) 27 rfl (by decide) (.fz 4 (t1.1.map e43)) (Calm.move rfl rfl) ?_
            obtain ⟨hg10, hq3⟩ := of_guard hq3
            refine AO.calmG 19 true 26 rfl rfl (congrArg (fun b => some (AV.fl (Value.bool b))) hc9) 28 rfl (by decide) (.rp (e43 (lget t1.1 (1 : Int)))) (Calm.idxL (f := e43) rfl rfl rfl hg10 Try.underlying37 sz43) ?_
            refine AO.calmG 19 true 26 rfl rfl (congrArg (fun b => some (AV.fl (Value.bool b))) hc9) 29 rfl (by decide) (.rp (eStr ((lget t1.1 (1 : Int)).f3))) (Calm.fldRp rfl rfl Try.underlying43 rfl sz9 (At.cast (At.fldS (At.fldS (At.fldS (At.fld0 At.here)))) rfl)) ?_
            refine AO.calmG 19 true 26 rfl rfl (congrArg (fun b => some (AV.fl (Value.bool b))) hc9) 30 rfl (by decide) (eStr ((lget t1.1 (1 : Int)).f3)) (Calm.loadRp rfl rfl ag9 sz9) ?_
            refine AO.calmG 19 true 26 rfl rfl (congrArg (fun b => some (AV.fl (Value.bool b))) hc9) 31 rfl (by decide) (eBool (decide (((lget t1.1 (1 : Int)).f3) = (ByteArray.mk #[97])))) (Calm.str rfl rfl rfl rfl) ?_
            refine AO.calm rfl 32 rfl (by decide) (eBool (decide (((lget t1.1 (1 : Int)).f3) = (ByteArray.mk #[97])))) (Calm.pickT rfl (congrArg (fun b => some (AV.fl (Value.bool b))) hc9) rfl) ?_
            refine AO.calm rfl 33 rfl (by decide) (eBool (decide (((lget t1.1 (1 : Int)).f3) = (ByteArray.mk #[97])))) (Calm.move rfl rfl) ?_
            by_cases hc11 : ((lget t1.1 (1 : Int)).f3) = (ByteArray.mk #[97])
            · have hq3 := (if_pos hc11).symm.trans hq3
              refine AO.calmG 26 true 33 rfl rfl (congrArg (fun b => some (AV.fl (Value.bool b))) (decide_eq_true hc11)) 34 rfl (by decide) (.fz 4 (t1.1.map e43)) (Calm.move rfl rfl) ?_
              obtain ⟨hg12, hq3⟩ := of_guard hq3
              refine AO.calmG 26 true 33 rfl rfl (congrArg (fun b => some (AV.fl (Value.bool b))) (decide_eq_true hc11)) 35 rfl (by decide) (.rp (e43 (lget t1.1 (2 : Int)))) (Calm.idxL (f := e43) rfl rfl rfl hg12 Try.underlying37 sz43) ?_
              refine AO.calmG 26 true 33 rfl rfl (congrArg (fun b => some (AV.fl (Value.bool b))) (decide_eq_true hc11)) 36 rfl (by decide) (.rp (eI64 ((lget t1.1 (2 : Int)).f1))) (Calm.fldRp rfl rfl Try.underlying43 rfl sz3 (At.cast (At.fldS (At.fld0 At.here)) rfl)) ?_
              refine AO.calmG 26 true 33 rfl rfl (congrArg (fun b => some (AV.fl (Value.bool b))) (decide_eq_true hc11)) 37 rfl (by decide) (eI64 ((lget t1.1 (2 : Int)).f1)) (Calm.loadRp rfl rfl ag3 sz3) ?_
              refine AO.calmG 26 true 33 rfl rfl (congrArg (fun b => some (AV.fl (Value.bool b))) (decide_eq_true hc11)) 38 rfl (by decide) (eBool (decide (((lget t1.1 (2 : Int)).f1) = (2 : Int)))) (Calm.int rfl rfl rfl rfl) ?_
              refine AO.calm rfl 39 rfl (by decide) (eBool (decide (((lget t1.1 (2 : Int)).f1) = (2 : Int)))) (Calm.pickT rfl (congrArg (fun b => some (AV.fl (Value.bool b))) (decide_eq_true hc11)) rfl) ?_
              refine AO.calm rfl 0 rfl (by decide) (eBool (decide (((lget t1.1 (2 : Int)).f1) = (2 : Int)))) (Calm.assign rfl rfl) ?_
              cases hq3
              refine AO.nilE ⟨rfl, rfl⟩ ?_ ?_
              · exact ⟨rfl, trivial⟩
              · exact (Sub.refl _)
            · have hq3 := (if_neg hc11).symm.trans hq3
              refine AO.skipG 26 false 33 rfl rfl (congrArg (fun b => some (AV.fl (Value.bool b))) (decide_eq_false hc11)) 34 rfl (by decide) ?_
              refine AO.skipG 26 false 33 rfl rfl (congrArg (fun b => some (AV.fl (Value.bool b))) (decide_eq_false hc11)) 35 rfl (by decide) ?_
              refine AO.skipG 26 false 33 rfl rfl (congrArg (fun b => some (AV.fl (Value.bool b))) (decide_eq_false hc11)) 36 rfl (by decide) ?_
              refine AO.skipG 26 false 33 rfl rfl (congrArg (fun b => some (AV.fl (Value.bool b))) (decide_eq_false hc11)) 37 rfl (by decide) ?_
              refine AO.skipG 26 false 33 rfl rfl (congrArg (fun b => some (AV.fl (Value.bool b))) (decide_eq_false hc11)) 38 rfl (by decide) ?_
              refine AO.calm rfl 39 rfl (by decide) (eBool false) (Calm.pickF rfl (congrArg (fun b => some (AV.fl (Value.bool b))) (decide_eq_false hc11)) rfl) ?_
              refine AO.calm rfl 0 rfl (by decide) (eBool false) (Calm.assign rfl rfl) ?_
              cases hq3
              refine AO.nilE ⟨rfl, rfl⟩ ?_ ?_
              · exact ⟨rfl, trivial⟩
              · exact (Sub.refl _)
          · have hq3 := (if_neg hc9).symm.trans hq3
            refine AO.skipG 19 false 26 rfl rfl (congrArg (fun b => some (AV.fl (Value.bool b))) (eq_false_of_ne_true hc9)) 27 rfl (by decide) ?_
            refine AO.skipG 19 false 26 rfl rfl (congrArg (fun b => some (AV.fl (Value.bool b))) (eq_false_of_ne_true hc9)) 28 rfl (by decide) ?_
            refine AO.skipG 19 false 26 rfl rfl (congrArg (fun b => some (AV.fl (Value.bool b))) (eq_false_of_ne_true hc9)) 29 rfl (by decide) ?_
            refine AO.skipG 19 false 26 rfl rfl (congrArg (fun b => some (AV.fl (Value.bool b))) (eq_false_of_ne_true hc9)) 30 rfl (by decide) ?_
            refine AO.skipG 19 false 26 rfl rfl (congrArg (fun b => some (AV.fl (Value.bool b))) (eq_false_of_ne_true hc9)) 31 rfl (by decide) ?_
            refine AO.calm rfl 32 rfl (by decide) (eBool false) (Calm.pickF rfl (congrArg (fun b => some (AV.fl (Value.bool b))) (eq_false_of_ne_true hc9)) rfl) ?_
            refine AO.calm rfl 33 rfl (by decide) (eBool false) (Calm.move rfl rfl) ?_
            refine AO.skipG 26 false 33 rfl rfl rfl 34 rfl (by decide) ?_
            refine AO.skipG 26 false 33 rfl rfl rfl 35 rfl (by decide) ?_
            refine AO.skipG 26 false 33 rfl rfl rfl 36 rfl (by decide) ?_
            refine AO.skipG 26 false 33 rfl rfl rfl 37 rfl (by decide) ?_
            refine AO.skipG 26 false 33 rfl rfl rfl 38 rfl (by decide) ?_
            refine AO.calm rfl 39 rfl (by decide) (eBool false) (Calm.pickF rfl rfl rfl) ?_
            refine AO.calm rfl 0 rfl (by decide) (eBool false) (Calm.assign rfl rfl) ?_
            cases hq3
            refine AO.nilE ⟨rfl, rfl⟩ ?_ ?_
            · exact ⟨rfl, trivial⟩
            · exact (Sub.refl _)
        · have hq3 := (if_neg hc7).symm.trans hq3
          refine AO.skipG 13 false 20 rfl rfl (congrArg (fun b => some (AV.fl (Value.bool b))) (decide_eq_false hc7)) 21 rfl (by decide) ?_
          refine AO.skipG 13 false 20 rfl rfl (congrArg (fun b => some (AV.fl (Value.bool b))) (decide_eq_false hc7)) 22 rfl (by decide) ?_
          refine AO.skipG 13 false 20 rfl rfl (congrArg (fun b => some (AV.fl (Value.bool b))) (decide_eq_false hc7)) 23 rfl (by decide) ?_
          refine AO.skipG 13 false 20 rfl rfl (congrArg (fun b => some (AV.fl (Value.bool b))) (decide_eq_false hc7)) 24 rfl (by decide) ?_
          refine AO.calm rfl 25 rfl (by decide) (eBool false) (Calm.pickF rfl (congrArg (fun b => some (AV.fl (Value.bool b))) (decide_eq_false hc7)) rfl) ?_
          refine AO.calm rfl 26 rfl (by decide) (eBool false) (Calm.move rfl rfl) ?_
          refine AO.skipG 19 false 26 rfl rfl rfl 27 rfl (by decide) ?_
          refine AO.skipG 19 false 26 rfl rfl rfl 28 rfl (by decide) ?_
          refine AO.skipG 19 false 26 rfl rfl rfl 29 rfl (by decide) ?_
          refine AO.skipG 19 false 26 rfl rfl rfl 30 rfl (by decide) ?_
          refine AO.skipG 19 false 26 rfl rfl rfl 31 rfl (by decide) ?_
          refine AO.calm rfl 32 rfl (by decide) (eBool false) (Calm.pickF rfl rfl rfl) ?_
          refine AO.calm rfl 33 rfl (by decide) (eBool false) (Calm.move rfl rfl) ?_
          refine AO.skipG 26 false 33 rfl rfl rfl 34 rfl (by decide) ?_
          refine AO.skipG 26 false 33 rfl rfl rfl 35 rfl (by decide) ?_
          refine AO.skipG 26 false 33 rfl rfl rfl 36 rfl (by decide) ?_
          refine AO.skipG 26 false 33 rfl rfl rfl 37 rfl (by decide) ?_
          refine AO.skipG 26 false 33 rfl rfl rfl 38 rfl (by decide) ?_
          refine AO.calm rfl 39 rfl (by decide) (eBool false) (Calm.pickF rfl rfl rfl) ?_
          refine AO.calm rfl 0 rfl (by decide) (eBool false) (Calm.assign rfl rfl) ?_
          cases hq3
          refine AO.nilE ⟨rfl, rfl⟩ ?_ ?_
          · exact ⟨rfl, trivial⟩
          · exact (Sub.refl _)
      · have hq3 := (if_neg hc5).symm.trans hq3
        refine AO.skipG 6 false 13 rfl rfl (congrArg (fun b => some (AV.fl (Value.bool b))) (decide_eq_false hc5)) 14 rfl (by decide) ?_
        refine AO.skipG 6 false 13 rfl rfl (congrArg (fun b => some (AV.fl (Value.bool b))) (decide_eq_false hc5)) 15 rfl (by decide) ?_
        refine AO.skipG 6 false 13 rfl rfl (congrArg (fun b => some (AV.fl (Value.bool b))) (decide_eq_false hc5)) 16 rfl (by decide) ?_
        refine AO.skipG 6 false 13 rfl rfl (congrArg (fun b => some (AV.fl (Value.bool b))) (decide_eq_false hc5)) 17 rfl (by decide) ?_
        refine AO.skipG 6 false 13 rfl rfl (congrArg (fun b => some (AV.fl (Value.bool b))) (decide_eq_false hc5)) 18 rfl (by decide) ?_
        refine AO.calm rfl 19 rfl (by decide) (eBool false) (Calm.pickF rfl (congrArg (fun b => some (AV.fl (Value.bool b))) (decide_eq_false hc5)) rfl) ?_
        refine AO.calm rfl 20 rfl (by decide) (eBool false) (Calm.move rfl rfl) ?_
        refine AO.skipG 13 false 20 rfl rfl rfl 21 rfl (by decide) ?_
        refine AO.skipG 13 false 20 rfl rfl rfl 22 rfl (by decide) ?_
        refine AO.skipG 13 false 20 rfl rfl rfl 23 rfl (by decide) ?_
        refine AO.skipG 13 false 20 rfl rfl rfl 24 rfl (by decide) ?_
        refine AO.calm rfl 25 rfl (by decide) (eBool false) (Calm.pickF rfl rfl rfl) ?_
        refine AO.calm rfl 26 rfl (by decide) (eBool false) (Calm.move rfl rfl) ?_
        refine AO.skipG 19 false 26 rfl rfl rfl 27 rfl (by decide) ?_
        refine AO.skipG 19 false 26 rfl rfl rfl 28 rfl (by decide) ?_
        refine AO.skipG 19 false 26 rfl rfl rfl 29 rfl (by decide) ?_
        refine AO.skipG 19 false 26 rfl rfl rfl 30 rfl (by decide) ?_
        refine AO.skipG 19 false 26 rfl rfl rfl 31 rfl (by decide) ?_
        refine AO.calm rfl 32 rfl (by decide) (eBool false) (Calm.pickF rfl rfl rfl) ?_
        refine AO.calm rfl 33 rfl (by decide) (eBool false) (Calm.move rfl rfl) ?_
        refine AO.skipG 26 false 33 rfl rfl rfl 34 rfl (by decide) ?_
        refine AO.skipG 26 false 33 rfl rfl rfl 35 rfl (by decide) ?_
        refine AO.skipG 26 false 33 rfl rfl rfl 36 rfl (by decide) ?_
        refine AO.skipG 26 false 33 rfl rfl rfl 37 rfl (by decide) ?_
        refine AO.skipG 26 false 33 rfl rfl rfl 38 rfl (by decide) ?_
        refine AO.calm rfl 39 rfl (by decide) (eBool false) (Calm.pickF rfl rfl rfl) ?_
        refine AO.calm rfl 0 rfl (by decide) (eBool false) (Calm.assign rfl rfl) ?_
        cases hq3
        refine AO.nilE ⟨rfl, rfl⟩ ?_ ?_
        · exact ⟨rfl, trivial⟩
        · exact (Sub.refl _)
    · have hq3 := (if_neg hc4).symm.trans hq3
      refine AO.skipG 1 false 8 rfl rfl (congrArg (fun b => some (AV.fl (Value.bool b))) (eq_false_of_ne_true hc4)) 9 rfl (by decide) ?_
      refine AO.skipG 1 false 8 rfl rfl (congrArg (fun b => some (AV.fl (Value.bool b))) (eq_false_of_ne_true hc4)) 10 rfl (by decide) ?_
      refine AO.skipG 1 false 8 rfl rfl (congrArg (fun b => some (AV.fl (Value.bool b))) (eq_false_of_ne_true hc4)) 11 rfl (by decide) ?_
      refine AO.calm rfl 12 rfl (by decide) (eBool false) (Calm.pickF rfl (congrArg (fun b => some (AV.fl (Value.bool b))) (eq_false_of_ne_true hc4)) rfl) ?_
      refine AO.calm rfl 13 rfl (by decide) (eBool false) (Calm.move rfl rfl) ?_
      refine AO.skipG 6 false 13 rfl rfl rfl 14 rfl (by decide) ?_
      refine AO.skipG 6 false 13 rfl rfl rfl 15 rfl (by decide) ?_
      refine AO.skipG 6 false 13 rfl rfl rfl 16 rfl (by decide) ?_
      refine AO.skipG 6 false 13 rfl rfl rfl 17 rfl (by decide) ?_
      refine AO.skipG 6 false 13 rfl rfl rfl 18 rfl (by decide) ?_
      refine AO.calm rfl 19 rfl (by decide) (eBool false) (Calm.pickF rfl rfl rfl) ?_
      refine AO.calm rfl 20 rfl (by decide) (eBool false) (Calm.move rfl rfl) ?_
      refine AO.skipG 13 false 20 rfl rfl rfl 21 rfl (by decide) ?_
      refine AO.skipG 13 false 20 rfl rfl rfl 22 rfl (by decide) ?_
      refine AO.skipG 13 false 20 rfl rfl rfl 23 rfl (by decide) ?_
      refine AO.skipG 13 false 20 rfl rfl rfl 24 rfl (by decide) ?_
      refine AO.calm rfl 25 rfl (by decide) (eBool false) (Calm.pickF rfl rfl rfl) ?_
      refine AO.calm rfl 26 rfl (by decide) (eBool false) (Calm.move rfl rfl) ?_
      refine AO.skipG 19 false 26 rfl rfl rfl 27 rfl (by decide) ?_
      refine AO.skipG 19 false 26 rfl rfl rfl 28 rfl (by decide) ?_
      refine AO.skipG 19 false 26 rfl rfl rfl 29 rfl (by decide) ?_
      refine AO.skipG 19 false 26 rfl rfl rfl 30 rfl (by decide) ?_
      refine AO.skipG 19 false 26 rfl rfl rfl 31 rfl (by decide) ?_
      refine AO.calm rfl 32 rfl (by decide) (eBool false) (Calm.pickF rfl rfl rfl) ?_
      refine AO.calm rfl 33 rfl (by decide) (eBool false) (Calm.move rfl rfl) ?_
      refine AO.skipG 26 false 33 rfl rfl rfl 34 rfl (by decide) ?_
      refine AO.skipG 26 false 33 rfl rfl rfl 35 rfl (by decide) ?_
      refine AO.skipG 26 false 33 rfl rfl rfl 36 rfl (by decide) ?_
      refine AO.skipG 26 false 33 rfl rfl rfl 37 rfl (by decide) ?_
      refine AO.skipG 26 false 33 rfl rfl rfl 38 rfl (by decide) ?_
      refine AO.calm rfl 39 rfl (by decide) (eBool false) (Calm.pickF rfl rfl rfl) ?_
      refine AO.calm rfl 0 rfl (by decide) (eBool false) (Calm.assign rfl rfl) ?_
      cases hq3
      refine AO.nilE ⟨rfl, rfl⟩ ?_ ?_
      · exact ⟨rfl, trivial⟩
      · exact (Sub.refl _)
  · refine AW.ret (ρ' := [(0, (eBool b2))]) (H' := []) ⟨rfl, trivial⟩ (Sub.refl _) ?_
    have hr := Option.some.inj h
    subst hr
    exact ⟨[(eBool b2)], ⟨rfl, rfl, trivial⟩, rfl⟩
end Go.Avl.T2
/- bosket/bosketlaw31.Few; printed by avmain.py. -/
namespace Go.Avl.T2
open Go Go.RowKit Go.Proofs Go.Avl
set_option linter.unusedVariables false
set_option maxRecDepth 100000
set_option maxHeartbeats 4000000
attribute [local irreducible] AW AO AQ Spec SpecH Calm

def bosketlaw31_Few_c0 (k : Nat) : Option Bool :=
  some (true)
def bosketlaw31_Few_l1 (k : Nat) (p0 : (List S43)) : Nat → Int → Option Bool
  | 0, _ => none
  | j + 1, x3 =>
    if x3 < (p0.length : Int) then if 0 ≤ x3 ∧ x3 < (p0.length : Int) then if (40 : Int) < (((lget p0 x3).f3).size : Int) then some (false)
    else (bosketlaw31_Few_l1 k p0 j) (w64 (x3 + (1 : Int)))
    else none
    else bosketlaw31_Few_c0 k
def bosketlaw31_Few (k : Nat) (p0 : (List S43)) : Option Bool :=
  if (60 : Int) < (p0.length : Int) then some (false)
  else bosketlaw31_Few_l1 k p0 k (0 : Int)
theorem bosketlaw31_Few_spec {k : Nat} {p0 : (List S43)} {r : Bool} (h : bosketlaw31_Few k p0 = some r) : Spec Try.prog 22 [(.fz 4 (p0.map e43))] (eBool r) := by
  rw [bosketlaw31_Few.eq_1] at h
  refine Spec.intro (res := [.tmp 2]) Try.func22 rfl rfl rfl (Nat.le_of_ble_eq_true rfl) ?_
  refine AW.seq ?_
  refine AW.reg ?_
  refine AO.calm rfl 2 rfl (by decide) (eBool false) (Calm.assign rfl rfl) ?_
  refine AO.nil (ρ' := [(0, (.fz 4 (p0.map e43)))]) (H' := []) ⟨rfl, trivial⟩ (Sub.refl _) ?_
  refine AW.seq ?_
  refine AW.seq ?_
  refine AW.reg ?_
  refine AO.calm rfl 4 rfl (by decide) (.fz 4 (p0.map e43)) (Calm.move rfl rfl) ?_
  refine AO.calm rfl 5 rfl (by decide) (eI64 (p0.length : Int)) (Calm.lenL rfl rfl Try.underlying37) ?_
  refine AO.calm rfl 6 rfl (by decide) (eBool (decide ((60 : Int) < (p0.length : Int)))) (Calm.int rfl rfl rfl rfl) ?_
  refine AO.nil (ρ' := [(0, (.fz 4 (p0.map e43))), (6, (eBool (decide ((60 : Int) < (p0.length : Int)))))]) (H' := []) ⟨rfl, rfl, trivial⟩ (Sub.refl _) ?_
  by_cases hc2 : (60 : Int) < (p0.length : Int)
  · have h := (if_pos hc2).symm.trans h
    refine AW.condP ((60 : Int) < (p0.length : Int)) rfl hc2 ?_
    refine AW.seq ?_
    refine AW.reg ?_
    refine AO.calm rfl 2 rfl (by decide) (eBool false) (Calm.assign rfl rfl) ?_
    refine AO.nil (ρ' := [(2, (eBool false))]) (H' := []) ⟨rfl, trivial⟩ (Sub.refl _) ?_
    refine AW.ret (ρ' := [(2, (eBool false))]) (H' := []) ⟨rfl, trivial⟩ (Sub.refl _) ?_
    have hr := Option.some.inj h
    subst hr
    exact ⟨[(eBool false)], ⟨rfl, rfl, trivial⟩, rfl⟩
  · have h := (if_neg hc2).symm.trans h
    refine AW.condN ((60 : Int) < (p0.length : Int)) rfl hc2 ?_
    refine AW.skip (ρ' := [(0, (.fz 4 (p0.map e43)))]) (H' := []) ⟨rfl, trivial⟩ (Sub.refl _) ?_
    refine AW.seq_mid (fun ρ H => ρ = [] ∧ H = [] ∧ bosketlaw31_Few_c0 k = some r) ?_ ?_
    · refine AW.seq ?_
      refine AW.reg ?_
      refine AO.calm rfl 3 rfl (by decide) (eI64 (0 : Int)) (Calm.assign rfl rfl) ?_
      refine AO.nil (ρ' := [(0, (.fz 4 (p0.map e43))), (3, (eI64 (0 : Int)))]) (H' := []) ⟨rfl, rfl, trivial⟩ (Sub.refl _) ?_
      refine AW.block ?_
      refine AW.weak (ρ' := [(0, (.fz 4 (p0.map e43))), (3, (eI64 (0 : Int)))]) (H' := []) ⟨rfl, rfl, trivial⟩ (Sub.refl _) ?_
      refine AW.loop (fun kq ρ H => ∃ (x3 : Int), ρ = [(0, (.fz 4 (p0.map e43))), (3, (eI64 x3))] ∧ H = [] ∧ bosketlaw31_Few_l1 k p0 kq x3 = some r) k ⟨(0 : Int), rfl, rfl, h⟩ ?_
      rintro kq5 _ _ ⟨x3, rfl, rfl, h⟩
      cases kq5 with
      | zero => rw [bosketlaw31_Few_l1.eq_1] at h; cases h
      | succ kq5 =>
      rw [bosketlaw31_Few_l1.eq_2] at h
      generalize hrec4 : bosketlaw31_Few_l1 k p0 kq5 = rec4 at h
      refine AW.seq ?_
      refine AW.seq ?_
      refine AW.reg ?_
      refine AO.calm rfl 7 rfl (by decide) (eI64 x3) (Calm.move rfl rfl) ?_
      refine AO.calm rfl 8 rfl (by decide) (.fz 4 (p0.map e43)) (Calm.move rfl rfl) ?_
      refine AO.calm rfl 9 rfl (by decide) (eI64 (p0.length : Int)) (Calm.lenL rfl rfl Try.underlying37) ?_
      refine AO.calm rfl 10 rfl (by decide) (eBool (decide (x3 < (p0.length : Int)))) (Calm.int rfl rfl rfl rfl) ?_
      refine AO.nil (ρ' := [(0, (.fz 4 (p0.map e43))), (3, (eI64 x3)), (10, (eBool (decide (x3 < (p0.length : Int)))))]) (H' := []) ⟨rfl, rfl, rfl, trivial⟩ (Sub.refl _) ?_
      by_cases hc6 : x3 < (p0.length : Int)
      · have h := (if_pos hc6).symm.trans h
        refine AW.condP (x3 < (p0.length : Int)) rfl hc6 ?_
        refine AW.skip (ρ' := [(0, (.fz 4 (p0.map e43))), (3, (eI64 x3))]) (H' := []) ⟨rfl, rfl, trivial⟩ (Sub.refl _) ?_
        refine AW.seq ?_
        refine AW.block ?_
        refine AW.seq ?_
        refine AW.reg ?_
        refine AO.calm rfl 13 rfl (by decide) (.fz 4 (p0.map e43)) (Calm.move rfl rfl) ?_
        refine AO.calm rfl 14 rfl (by decide) (eI64 x3) (Calm.move rfl rfl) ?_
        obtain ⟨hg7, h⟩ := of_guard h
        refine AO.calm rfl 15 rfl (by decide) (.rp (e43 (lget p0 x3))) (Calm.idxL (f := e43) rfl rfl rfl hg7 Try.underlying37 sz43) ?_
        refine AO.calm rfl 16 rfl (by decide) (.rp (eStr ((lget p0 x3).f3))) (Calm.fldRp rfl rfl Try.underlying43 rfl sz9 (At.cast (At.fldS (At.fldS (At.fldS (At.fld0 At.here)))) rfl)) ?_
        refine AO.calm rfl 17 rfl (by decide) (eStr ((lget p0 x3).f3)) (Calm.loadRp rfl rfl ag9 sz9) ?_
        refine AO.calm rfl 18 rfl (by decide) (eI64 (((lget p0 x3).f3).size : Int)) (Calm.lenStr rfl rfl Try.underlying9) ?_
        refine AO.calm rfl 19 rfl (by decide) (eBool (decide ((40 : Int) < (((lget p0 x3).f3).size : Int)))) (Calm.int rfl rfl rfl rfl) ?_
        refine AO.nil (ρ' := [(0, (.fz 4 (p0.map e43))), (3, (eI64 x3)), (19, (eBool (decide ((40 : Int) < (((lget p0 x3).f3).size : Int)))))]) (H' := []) ⟨rfl, rfl, rfl, trivial⟩ (Sub.refl _) ?_
        by_cases hc8 : (40 : Int) < (((lget p0 x3).f3).size : Int)
        · have h := (if_pos hc8).symm.trans h
          refine AW.condP ((40 : Int) < (((lget p0 x3).f3).size : Int)) rfl hc8 ?_
          refine AW.seq ?_
          refine AW.reg ?_
          refine AO.calm rfl 2 rfl (by decide) (eBool false) (Calm.assign rfl rfl) ?_
          refine AO.nil (ρ' := [(2, (eBool false))]) (H' := []) ⟨rfl, trivial⟩ (Sub.refl _) ?_
          refine AW.ret (ρ' := [(2, (eBool false))]) (H' := []) ⟨rfl, trivial⟩ (Sub.refl _) ?_
          have hr := Option.some.inj h
          subst hr
          exact ⟨[(eBool false)], ⟨rfl, rfl, trivial⟩, rfl⟩
        · have h := (if_neg hc8).symm.trans h
          refine AW.condN ((40 : Int) < (((lget p0 x3).f3).size : Int)) rfl hc8 ?_
          refine AW.skip (ρ' := [(0, (.fz 4 (p0.map e43))), (3, (eI64 x3))]) (H' := []) ⟨rfl, rfl, trivial⟩ (Sub.refl _) ?_
          refine AW.reg ?_
          refine AO.calm rfl 11 rfl (by decide) (eI64 x3) (Calm.move rfl rfl) ?_
          refine AO.calm rfl 12 rfl (by decide) (eI64 (w64 (x3 + (1 : Int)))) (Calm.int rfl rfl rfl rfl) ?_
          refine AO.calm rfl 3 rfl (by decide) (eI64 (w64 (x3 + (1 : Int)))) (Calm.assign rfl rfl) ?_
          refine AO.nil (ρ' := [(0, (.fz 4 (p0.map e43))), (3, (eI64 (w64 (x3 + (1 : Int)))))]) (H' := []) ⟨rfl, rfl, trivial⟩ (Sub.refl _) ?_
          exact ⟨kq5, Nat.lt_succ_self _, (w64 (x3 + (1 : Int))), rfl, rfl, by rw [hrec4]; exact h⟩
      · have h := (if_neg hc6).symm.trans h
        refine AW.condN (x3 < (p0.length : Int)) rfl hc6 ?_
        refine AW.exit (ρ' := []) (H' := []) trivial (Sub.refl _) ?_
        exact ⟨rfl, rfl, h⟩
    · rintro _ _ ⟨rfl, rfl, h⟩
      rw [bosketlaw31_Few_c0.eq_1] at h
      refine AW.seq ?_
      refine AW.reg ?_
      refine AO.calm rfl 2 rfl (by decide) (eBool true) (Calm.assign rfl rfl) ?_
      refine AO.nil (ρ' := [(2, (eBool true))]) (H' := []) ⟨rfl, trivial⟩ (Sub.refl _) ?_
      refine AW.ret (ρ' := [(2, (eBool true))]) (H' := []) ⟨rfl, trivial⟩ (Sub.refl _) ?_
      have hr := Option.some.inj h
      subst hr
      exact ⟨[(eBool true)], ⟨rfl, rfl, trivial⟩, rfl⟩
end Go.Avl.T2
/- bosket/bosketref31.Size; printed by avmain.py. -/
namespace Go.Avl.T2
open Go Go.RowKit Go.Proofs Go.Avl
set_option linter.unusedVariables false
set_option maxRecDepth 100000
set_option maxHeartbeats 4000000
attribute [local irreducible] AW AO AQ Spec SpecH Calm

def bosketref31_Size_c0 (k : Nat) (x15 : Int) : Option Int :=
  some (x15)
def bosketref31_Size_l1 (k : Nat) (self : ((List S43) → Int → Option Int)) (p0 : (List S43)) (p1 : Int) : Nat → Int → Int → Option Int
  | 0, _, _ => none
  | j + 1, x16, x17 =>
    if 0 ≤ p1 ∧ p1 < (p0.length : Int) then if x17 < ((lget p0 p1).f2) then (self p0 (w64 (p1 + x16))).bind fun t22 =>
    if t22 = (0 : Int) then some ((0 : Int))
    else (bosketref31_Size_l1 k self p0 p1 j) (w64 (x16 + t22)) (w64 (x17 + (1 : Int)))
    else bosketref31_Size_c0 k x16
    else none
def bosketref31_Size : Nat → (List S43) → Int → Option Int
  | 0, _, _ => none
  | k + 1, p0, p1 =>
    Option.bind (α := Bool) (if p1 < (0 : Int) then some (true)
    else if (p0.length : Int) ≤ p1 then some (true)
    else if 0 ≤ p1 ∧ p1 < (p0.length : Int) then if ((lget p0 p1).f2) < (0 : Int) then some (true)
    else if 0 ≤ p1 ∧ p1 < (p0.length : Int) then if (12 : Int) < ((lget p0 p1).f2) then some (true)
    else if 0 ≤ p1 ∧ p1 < (p0.length : Int) then if ((lget p0 p1).f0) = true then if 0 ≤ p1 ∧ p1 < (p0.length : Int) then some (decide (((lget p0 p1).f2) ≠ (0 : Int)))
    else none
    else some (false)
    else none
    else none
    else none) fun b3 =>
    if b3 = true then some ((0 : Int))
    else bosketref31_Size_l1 k (bosketref31_Size k) p0 p1 k (1 : Int) (0 : Int)
theorem bosketref31_Size_spec' : ∀ (k : Nat) (p0 : (List S43)) (p1 : Int) (r : Int), bosketref31_Size k p0 p1 = some r → Spec Try.prog 32 [(.fz 4 (p0.map e43)), (eI64 p1)] (eI64 r) := by
  intro k
  induction k with
  | zero => intro p0 p1 r h; rw [bosketref31_Size.eq_1] at h; cases h
  | succ k hself =>
  intro p0 p1 r h
  rw [bosketref31_Size.eq_2] at h
  generalize hs : bosketref31_Size k = self at h hself
  refine Spec.intro (res := [.tmp 4]) Try.func32 rfl rfl rfl (Nat.le_of_ble_eq_true rfl) ?_
  refine AW.seq ?_
  refine AW.reg ?_
  refine AO.calm rfl 4 rfl (by decide) (eI64 (0 : Int)) (Calm.assign rfl rfl) ?_
  refine AO.nil (ρ' := [(0, (.fz 4 (p0.map e43))), (1, (eI64 p1))]) (H' := []) ⟨rfl, rfl, trivial⟩ (Sub.refl _) ?_
  refine AW.seq ?_
  refine AW.seq ?_
  obtain ⟨b3, hq4, h⟩ := of_bind h
  refine AW.regM [(0, (.fz 4 (p0.map e43))), (1, (eI64 p1)), (46, (eBool b3))] [] ?_ ?_
  · refine AO.calm rfl 8 rfl (by decide) (eI64 p1) (Calm.move rfl rfl) ?_
    refine AO.calm rfl 9 rfl (by decide) (eBool (decide (p1 < (0 : Int)))) (Calm.int rfl rfl rfl rfl) ?_
    refine AO.calm rfl 10 rfl (by decide) (eBool (decide (p1 < (0 : Int)))) (Calm.move rfl rfl) ?_
    by_cases hc5 : p1 < (0 : Int)
    · have hq4 := (if_pos hc5).symm.trans hq4
      refine AO.skipG 2 true 10 rfl rfl (congrArg (fun b => some (AV.fl (Value.bool b))) (decide_eq_true hc5)) 11 rfl (by decide) ?_
      refine AO.skipG 2 true 10 rfl rfl (congrArg (fun b => some (AV.fl (Value.bool b))) (decide_eq_true hc5)) 12 rfl (by decide) ?_
      refine AO.skipG 2 true 10 rfl rfl (congrArg (fun b => some (AV.fl (Value.bool b))) (decide_eq_true hc5)) 13 rfl (by decide) ?_
      refine AO.skipG 2 true 10 rfl rfl (congrArg (fun b => some (AV.fl (Value.bool b))) (decide_eq_true hc5)) 14 rfl (by decide) ?_
      refine AO.calm rfl 15 rfl (by decide) (eBool true) (Calm.pickT rfl (congrArg (fun b => some (AV.fl (Value.bool b))) (decide_eq_true hc5)) rfl) ?_
      refine AO.calm rfl 16 rfl (by decide) (eBool true) (Calm.move rfl rfl) ?_
      refine AO.skipG 8 true 16 rfl rfl rfl 17 rfl (by decide) ?_
      refine AO.skipG 8 true 16 rfl rfl rfl 18 rfl (by decide) ?_
      refine AO.skipG 8 true 16 rfl rfl rfl 19 rfl (by decide) ?_
      refine AO.skipG 8 true 16 rfl rfl rfl 20 rfl (by decide) ?_
      refine AO.skipG 8 true 16 rfl rfl rfl 21 rfl (by decide) ?_
      refine AO.skipG 8 true 16 rfl rfl rfl 22 rfl (by decide) ?_
      refine AO.calm rfl 23 rfl (by decide) (eBool true) (Calm.pickT rfl rfl rfl) ?_
      refine AO.calm rfl 24 rfl (by decide) (eBool true) (Calm.move rfl rfl) ?_
      refine AO.skipG 16 true 24 rfl rfl rfl 25 rfl (by decide) ?_
      refine AO.skipG 16 true 24 rfl rfl rfl 26 rfl (by decide) ?_
      refine AO.skipG 16 true 24 rfl rfl rfl 27 rfl (by decide) ?_
      refine AO.skipG 16 true 24 rfl rfl rfl 28 rfl (by decide) ?_
      refine AO.skipG 16 true 24 rfl rfl rfl 29 rfl (by decide) ?_
      refine AO.skipG 16 true 24 rfl rfl rfl 30 rfl (by decide) ?_
      refine AO.calm rfl 31 rfl (by decide) (eBool true) (Calm.pickT rfl rfl rfl) ?_
      refine AO.calm rfl 32 rfl (by decide) (eBool true) (Calm.move rfl rfl) ?_
      refine AO.skipG 24 true 32 rfl rfl rfl 33 rfl (by decide) ?_
      refine AO.skipG 24 true 32 rfl rfl rfl 34 rfl (by decide) ?_
      refine AO.skipG 24 true 32 rfl rfl rfl 35 rfl (by decide) ?_
      refine AO.skipG 24 true 32 rfl rfl rfl 36 rfl (by decide) ?_
      refine AO.skipG 24 true 32 rfl rfl rfl 37 rfl (by decide) ?_
      refine AO.skipG 24 true 32 rfl rfl rfl 38 rfl (by decide) ?_
      refine AO.skipU 30 true 38 rfl rfl rfl 39 rfl (by decide) ?_
      refine AO.skipU 30 true 38 rfl rfl rfl 40 rfl (by decide) ?_
      refine AO.skipU 30 true 38 rfl rfl rfl 41 rfl (by decide) ?_
      refine AO.skipU 30 true 38 rfl rfl rfl 42 rfl (by decide) ?_
      refine AO.skipU 30 true 38 rfl rfl rfl 43 rfl (by decide) ?_
      refine AO.skipU 30 true 38 rfl rfl rfl 44 rfl (by decide) ?_
      refine AO.skipG 24 true 32 rfl rfl rfl 45 rfl (by decide) ?_
      refine AO.calm rfl 46 rfl (by decide) (eBool true) (Calm.pickT rfl rfl rfl) ?_
      cases hq4
      refine AO.nilE ⟨rfl, rfl⟩ ?_ ?_
      · exact ⟨rfl, rfl, rfl, trivial⟩
      · exact (Sub.refl _)
    · have hq4 := (if_neg hc5).symm.trans hq4
      refine AO.calmG 2 false 10 rfl rfl (congrArg (fun b => some (AV.fl (Value.bool b))) (decide_eq_false hc5)) 11 rfl (by decide) (eI64 p1) (Calm.move rfl rfl) ?_
      refine AO.calmG 2 false 10 rfl rfl (congrArg (fun b => some (AV.fl (Value.bool b))) (decide_eq_false hc5)) 12 rfl (by decide) (.fz 4 (p0.map e43)) (Calm.move rfl rfl) ?_
      refine AO.calmG 2 false 10 rfl rfl (congrArg (fun b => some (AV.fl (Value.bool b))) (decide_eq_false hc5)) 13 rfl (by decide) (eI64 (p0.length : Int)) (Calm.lenL rfl rfl Try.underlying37) ?_
      refine AO.calmG 2 false 10 rfl rfl (congrArg (fun b => some (AV.fl (Value.bool b))) (decide_eq_false hc5)) 14 rfl (by decide) (eBool (decide ((p0.length : Int) ≤ p1))) (Calm.int rfl rfl rfl rfl) ?_
      refine AO.calm rfl 15 rfl (by decide) (eBool (decide ((p0.length : Int) ≤ p1))) (Calm.pickF rfl (congrArg (fun b => some (AV.fl (Value.bool b))) (decide_eq_false hc5)) rfl) ?_
      refine AO.calm rfl 16 rfl (by decide) (eBool (decide ((p0.length : Int) ≤ p1))) (Calm.move rfl rfl) ?_
      by_cases hc6 : (p0.length : Int) ≤ p1
      · have hq4 := (if_pos hc6).symm.trans hq4
        refine AO.skipG 8 true 16 rfl rfl (congrArg (fun b => some (AV.fl (Value.bool b))) (decide_eq_true hc6)) 17 rfl (by decide) ?_
        refine AO.skipG 8 true 16 rfl rfl (congrArg (fun b => some (AV.fl (Value.bool b))) (decide_eq_true hc6)) 18 rfl (by decide) ?_
        refine AO.skipG 8 true 16 rfl rfl (congrArg (fun b => some (AV.fl (Value.bool b))) (decide_eq_true hc6)) 19 rfl (by decide) ?_
        refine AO.skipG 8 true 16 rfl rfl (congrArg (fun b => some (AV.fl (Value.bool b))) (decide_eq_true hc6)) 20 rfl (by decide) ?_
        refine AO.skipG 8 true 16 rfl rfl (congrArg (fun b => some (AV.fl (Value.bool b))) (decide_eq_true hc6)) 21 rfl (by decide) ?_
        refine AO.skipG 8 true 16 rfl rfl (congrArg (fun b => some (AV.fl (Value.bool b))) (decide_eq_true hc6)) 22 rfl (by decide) ?_
        refine AO.calm rfl 23 rfl (by decide) (eBool true) (Calm.pickT rfl (congrArg (fun b => some (AV.fl (Value.bool b))) (decide_eq_true hc6)) rfl) ?_
        refine AO.calm rfl 24 rfl (by decide) (eBool true) (Calm.move rfl rfl) ?_
        refine AO.skipG 16 true 24 rfl rfl rfl 25 rfl (by decide) ?_
        refine AO.skipG 16 true 24 rfl rfl rfl 26 rfl (by decide) ?_
        refine AO.skipG 16 true 24 rfl rfl rfl 27 rfl (by decide) ?_
        refine AO.skipG 16 true 24 rfl rfl rfl 28 rfl (by decide) ?_
        refine AO.skipG 16 true 24 rfl rfl rfl 29 rfl (by decide) ?_
        refine AO.skipG 16 true 24 rfl rfl rfl 30 rfl (by decide) ?_
        refine AO.calm rfl 31 rfl (by decide) (eBool true) (Calm.pickT rfl rfl rfl) ?_
        refine AO.calm rfl 32 rfl (by decide) (eBool true) (Calm.move rfl rfl) ?_
        refine AO.skipG 24 true 32 rfl rfl rfl 33 rfl (by decide) ?_
        refine AO.skipG 24 true 32 rfl rfl rfl 34 rfl (by decide) ?_
        refine AO.skipG 24 true 32 rfl rfl rfl 35 rfl (by decide) ?_
        refine AO.skipG 24 true 32 rfl rfl rfl 36 rfl (by decide) ?_
        refine AO.skipG 24 true 32 rfl rfl rfl 37 rfl (by decide) ?_
        refine AO.skipG 24 true 32 rfl rfl rfl 38 rfl (by decide) ?_
        refine AO.skipU 30 true 38 rfl rfl rfl 39 rfl (by decide) ?_
        refine AO.skipU 30 true 38 rfl rfl rfl 40 rfl (by decide) ?_
        refine AO.skipU 30 true 38 rfl rfl rfl 41 rfl (by decide) ?_
        refine AO.skipU 30 true 38 rfl rfl rfl 42 rfl (by decide) ?_
        refine AO.skipU 30 true 38 rfl rfl rfl 43 rfl (by decide) ?_
        refine AO.skipU 30 true 38 rfl rfl rfl 44 rfl (by decide) ?_
        refine AO.skipG 24 true 32 rfl rfl rfl 45 rfl (by decide) ?_
        refine AO.calm rfl 46 rfl (by decide) (eBool true) (Calm.pickT rfl rfl rfl) ?_
        cases hq4
        refine AO.nilE ⟨rfl, rfl⟩ ?_ ?_
        · exact ⟨rfl, rfl, rfl, trivial⟩
        · exact (Sub.refl _)
      · have hq4 := (if_neg hc6).symm.trans hq4
        refine AO.calmG 8 false 16 rfl rfl (congrArg (fun b => some (AV.fl (Value.bool b))) (decide_eq_false hc6)) 17 rfl (by decide) (.fz 4 (p0.map e43)) (Calm.move rfl rfl) ?_
        refine AO.calmG 8 false 16 rfl rfl (congrArg (fun b => some (AV.fl (Value.bool b))) (decide_eq_false hc6)) 18 rfl (by decide) (eI64 p1) (Calm.move rfl rfl) ?_
        obtain ⟨hg7, hq4⟩ := of_guard hq4
        refine AO.calmG 8 false 16 rfl rfl (congrArg (fun b => some (AV.fl (Value.bool b))) (decide_eq_false hc6)) 19 rfl (by decide) (.rp (e43 (lget p0 p1))) (Calm.idxL (f := e43) rfl rfl rfl hg7 Try.underlying37 sz43) ?_
        refine AO.calmG 8 false 16 rfl rfl (congrArg (fun b => some (AV.fl (Value.bool b))) (decide_eq_false hc6)) 20 rfl (by decide) (.rp (eI64 ((lget p0 p1).f2))) (Calm.fldRp rfl rfl Try.underlying43 rfl sz3 (At.cast (At.fldS (At.fldS (At.fld0 At.here))) rfl)) ?_
        refine AO.calmG 8 false 16 rfl rfl (congrArg (fun b => some (AV.fl (Value.bool b))) (decide_eq_false hc6)) 21 rfl (by decide) (eI64 ((lget p0 p1).f2)) (Calm.loadRp rfl rfl ag3 sz3) ?_
        refine AO.calmG 8 false 16 rfl rfl (congrArg (fun b => some (AV.fl (Value.bool b))) (decide_eq_false hc6)) 22 rfl (by decide) (eBool (decide (((lget p0 p1).f2) < (0 : Int)))) (Calm.int rfl rfl rfl rfl) ?_
        refine AO.calm rfl 23 rfl (by decide) (eBool (decide (((lget p0 p1).f2) < (0 : Int)))) (Calm.pickF rfl (congrArg (fun b => some (AV.fl (Value.bool b))) (decide_eq_false hc6)) rfl) ?_
        refine AO.calm rfl 24 rfl (by decide) (eBool (decide (((lget p0 p1).f2) < (0 : Int)))) (Calm.move rfl rfl) ?_
        by_cases hc8 : ((lget p0 p1).f2) < (0 : Int)
        · have hq4 := (if_pos hc8).symm.trans hq4
          refine AO.skipG 16 true 24 rfl rfl (congrArg (fun b => some (AV.fl (Value.bool b))) (decide_eq_true hc8)) 25 rfl (by decide) ?_
          refine AO.skipG 16 true 24 rfl rfl (congrArg (fun b => some (AV.fl (Value.bool b))) (decide_eq_true hc8)) 26 rfl (by decide) ?_
          refine AO.skipG 16 true 24 rfl rfl (congrArg (fun b => some (AV.fl (Value.bool b))) (decide_eq_true hc8)) 27 rfl (by decide) ?_
          refine AO.skipG 16 true 24 rfl rfl (congrArg (fun b => some (AV.fl (Value.bool b))) (decide_eq_true hc8)) 28 rfl (by decide) ?_
          refine AO.skipG 16 true 24 rfl rfl (congrArg (fun b => some (AV.fl (Value.bool b))) (decide_eq_true hc8)) 29 rfl (by decide) ?_
          refine AO.skipG 16 true 24 rfl rfl (congrArg (fun b => some (AV.fl (Value.bool b))) (decide_eq_true hc8)) 30 rfl (by decide) ?_
          refine AO.calm rfl 31 rfl (by decide) (eBool true) (Calm.pickT rfl (congrArg (fun b => some (AV.fl (Value.bool b))) (decide_eq_true hc8)) rfl) ?_
          refine AO.calm rfl 32 rfl (by decide) (eBool true) (Calm.move rfl rfl) ?_
          refine AO.skipG 24 true 32 rfl rfl rfl 33 rfl (by decide) ?_
          refine AO.skipG 24 true 32 rfl rfl rfl 34 rfl (by decide) ?_
          refine AO.skipG 24 true 32 rfl rfl rfl 35 rfl (by decide) ?_
          refine AO.skipG 24 true 32 rfl rfl rfl 36 rfl (by decide) ?_
          refine AO.skipG 24 true 32 rfl rfl rfl 37 rfl (by decide) ?_
          refine AO.skipG 24 true 32 rfl rfl rfl 38 rfl (by decide) ?_
          refine AO.skipU 30 true 38 rfl rfl rfl 39 rfl (by decide) ?_
          refine AO.skipU 30 true 38 rfl rfl rfl 40 rfl (by decide) ?_
          refine AO.skipU 30 true 38 rfl rfl rfl 41 rfl (by decide) ?_
          refine AO.skipU 30 true 38 rfl rfl rfl 42 rfl (by decide) ?_
          refine AO.skipU 30 true 38 rfl rfl rfl 43 rfl (by decide) ?_
          refine AO.skipU 30 true 38 rfl rfl rfl 44 rfl (by decide) ?_
          refine AO.skipG 24 true 32 rfl rfl rfl 45 rfl (by decide) ?_
          refine AO.calm rfl 46 rfl (by decide) (eBool true) (Calm.pickT rfl rfl rfl) ?_
          cases hq4
          refine AO.nilE ⟨rfl, rfl⟩ ?_ ?_
          · exact ⟨rfl, rfl, rfl, trivial⟩
          · exact (Sub.refl _)
        · have hq4 := (if_neg hc8).symm.trans hq4
          refine AO.calmG 16 false 24 rfl rfl (congrArg (fun b => some (AV.fl (Value.bool b))) (decide_eq_false hc8)) 25 rfl (by decide) (.fz 4 (p0.map e43)) (Calm.move rfl rfl) ?_
          refine AO.calmG 16 false 24 rfl rfl (congrArg (fun b => some (AV.fl (Value.bool b))) (decide_eq_false hc8)) 26 rfl (by decide) (eI64 p1) (Calm.move rfl rfl) ?_
          obtain ⟨hg9, hq4⟩ := of_guard hq4
          refine AO.calmG 16 false 24 rfl rfl (congrArg (fun b => some (AV.fl (Value.bool b))) (decide_eq_false hc8)) 27 rfl (by decide) (.rp (e43 (lget p0 p1))) (Calm.idxL (f := e43) rfl rfl rfl hg9 Try.underlying37 sz43) ?_
          refine AO.calmG 16 false 24 rfl rfl (congrArg (fun b => some (AV.fl (Value.bool b))) (decide_eq_false hc8)) 28 rfl (by decide) (.rp (eI64 ((lget p0 p1).f2))) (Calm.fldRp rfl rfl Try.underlying43 rfl sz3 (At.cast (At.fldS (At.fldS (At.fld0 At.here))) rfl)) ?_
          refine AO.calmG 16 false 24 rfl rfl (congrArg (fun b => some (AV.fl (Value.bool b))) (decide_eq_false hc8)) 29 rfl (by decide) (eI64 ((lget p0 p1).f2)) (Calm.loadRp rfl rfl ag3 sz3) ?_
          refine AO.calmG 16 false 24 rfl rfl (congrArg (fun b => some (AV.fl (Value.bool b))) (decide_eq_false hc8)) 30 rfl (by decide) (eBool (decide ((12 : Int) < ((lget p0 p1).f2)))) (Calm.int rfl rfl rfl rfl) ?_
          refine AO.calm rfl 31 rfl (by decide) (eBool (decide ((12 : Int) < ((lget p0 p1).f2)))) (Calm.pickF rfl (congrArg (fun b => some (AV.fl (Value.bool b))) (decide_eq_false hc8)) rfl) ?_
          refine AO.calm rfl 32 rfl (by decide) (eBool (decide ((12 : Int) < ((lget p0 p1).f2)))) (Calm.move rfl rfl) ?_
          by_cases hc10 : (12 : Int) < ((lget p0 p1).f2)
          · have hq4 := (if_pos hc10).symm.trans hq4
            refine AO.skipG 24 true 32 rfl rfl (congrArg (fun b => some (AV.fl (Value.bool b))) (decide_eq_true hc10)) 33 rfl (by decide) ?_
            refine AO.skipG 24 true 32 rfl rfl (congrArg (fun b => some (AV.fl (Value.bool b))) (decide_eq_true hc10)) 34 rfl (by decide) ?_
            refine AO.skipG 24 true 32 rfl rfl (congrArg (fun b => some (AV.fl (Value.bool b))) (decide_eq_true hc10)) 35 rfl (by decide) ?_
            refine AO.skipG 24 true 32 rfl rfl (congrArg (fun b => some (AV.fl (Value.bool b))) (decide_eq_true hc10)) 36 rfl (by decide) ?_
            refine AO.skipG 24 true 32 rfl rfl (congrArg (fun b => some (AV.fl (Value.bool b))) (decide_eq_true hc10)) 37 rfl (by decide) ?_
            refine AO.skipG 24 true 32 rfl rfl (congrArg (fun b => some (AV.fl (Value.bool b))) (decide_eq_true hc10)) 38 rfl (by decide) ?_
            refine AO.skipU 30 true 38 rfl rfl rfl 39 rfl (by decide) ?_
            refine AO.skipU 30 true 38 rfl rfl rfl 40 rfl (by decide) ?_
            refine AO.skipU 30 true 38 rfl rfl rfl 41 rfl (by decide) ?_
            refine AO.skipU 30 true 38 rfl rfl rfl 42 rfl (by decide) ?_
            refine AO.skipU 30 true 38 rfl rfl rfl 43 rfl (by decide) ?_
            refine AO.skipU 30 true 38 rfl rfl rfl 44 rfl (by decide) ?_
            refine AO.skipG 24 true 32 rfl rfl (congrArg (fun b => some (AV.fl (Value.bool b))) (decide_eq_true hc10)) 45 rfl (by decide) ?_
            refine AO.calm rfl 46 rfl (by decide) (eBool true) (Calm.pickT rfl (congrArg (fun b => some (AV.fl (Value.bool b))) (decide_eq_true hc10)) rfl) ?_
            cases hq4
            refine AO.nilE ⟨rfl, rfl⟩ ?_ ?_
            · exact ⟨rfl, rfl, rfl, trivial⟩
            · exact (Sub.refl _)
          · have hq4 := (if_neg hc10).symm.trans hq4
            refine AO.calmG 24 false 32 rfl rfl (congrArg (fun b => some (AV.fl (Value.bool b))) (decide_eq_false hc10)) 33 rfl (by decide) (.fz 4 (p0.map e43)) (Calm.move rfl rfl) ?_
            refine AO.calmG 24 false 32 rfl rfl (congrArg (fun b => some (AV.fl (Value.bool b))) (decide_eq_false hc10)) 34 rfl (by decide) (eI64 p1) (Calm.move rfl rfl) ?_
            obtain ⟨hg11, hq4⟩ := of_guard hq4
            refine AO.calmG 24 false 32 rfl rfl (congrArg (fun b => some (AV.fl (Value.bool b))) (decide_eq_false hc10)) 35 rfl (by decide) (.rp (e43 (lget p0 p1))) (Calm.idxL (f := e43) rfl rfl rfl hg11 Try.underlying37 sz43) ?_
            refine AO.calmG 24 false 32 rfl rfl (congrArg (fun b => some (AV.fl (Value.bool b))) (decide_eq_false hc10)) 36 rfl (by decide) (.rp (eBool ((lget p0 p1).f0))) (Calm.fldRp rfl rfl Try.underlying43 rfl sz4 (At.cast (At.fld0 At.here) rfl)) ?_
            refine AO.calmG 24 false 32 rfl rfl (congrArg (fun b => some (AV.fl (Value.bool b))) (decide_eq_false hc10)) 37 rfl (by decide) (eBool ((lget p0 p1).f0)) (Calm.loadRp rfl rfl ag4 sz4) ?_
            refine AO.calmG 24 false 32 rfl rfl (congrArg (fun b => some (AV.fl (Value.bool b))) (decide_eq_false hc10)) 38 rfl (by decide) (eBool ((lget p0 p1).f0)) (Calm.move rfl rfl) ?_
            by_cases hc12 : ((lget p0 p1).f0) = true
            · have hq4 := (if_pos hc12).symm.trans hq4
              refine AO.calmG 30 true 38 rfl rfl (congrArg (fun b => some (AV.fl (Value.bool b))) hc12) 39 rfl (by decide) (.fz 4 (p0.map e43)) (Calm.move rfl rfl) ?_
              refine AO.calmG 30 true 38 rfl rfl (congrArg (fun b => some (AV.fl (Value.bool b))) hc12) 40 rfl (by decide) (eI64 p1) (Calm.move rfl rfl) ?_
              obtain ⟨hg13, hq4⟩ := of_guard hq4
              refine AO.calmG 30 true 38 rfl rfl (congrArg (fun b => some (AV.fl (Value.bool b))) hc12) 41 rfl (by decide) (.rp (e43 (lget p0 p1))) (Calm.idxL (f := e43) rfl rfl rfl hg13 Try.underlying37 sz43) ?_
              refine AO.calmG 30 true 38 rfl rfl (congrArg (fun b => some (AV.fl (Value.bool b))) hc12) 42 rfl (by decide) (.rp (eI64 ((lget p0 p1).f2))) (Calm.fldRp rfl rfl Try.underlying43 rfl sz3 (At.cast (At.fldS (At.fldS (At.fld0 At.here))) rfl)) ?_
              refine AO.calmG 30 true 38 rfl rfl (congrArg (fun b => some (AV.fl (Value.bool b))) hc12) 43 rfl (by decide) (eI64 ((lget p0 p1).f2)) (Calm.loadRp rfl rfl ag3 sz3) ?_
              refine AO.calmG 30 true 38 rfl rfl (congrArg (fun b => some (AV.fl (Value.bool b))) hc12) 44 rfl (by decide) (eBool (decide (((lget p0 p1).f2) ≠ (0 : Int)))) (Calm.int rfl rfl rfl rfl) ?_
              refine AO.calmG 24 false 32 rfl rfl (congrArg (fun b => some (AV.fl (Value.bool b))) (decide_eq_false hc10)) 45 rfl (by decide) (eBool (decide (((lget p0 p1).f2) ≠ (0 : Int)))) (Calm.pickT rfl (congrArg (fun b => some (AV.fl (Value.bool b))) hc12) rfl) ?_
              refine AO.calm rfl 46 rfl (by decide) (eBool (decide (((lget p0 p1).f2) ≠ (0 : Int)))) (Calm.pickF rfl (congrArg (fun b => some (AV.fl (Value.bool b))) (decide_eq_false hc10)) rfl) ?_
              cases hq4
              refine AO.nilE ⟨rfl, rfl⟩ ?_ ?_
              · exact ⟨rfl, rfl, rfl, trivial⟩
              · exact (Sub.refl _)
            · have hq4 := (if_neg hc12).symm.trans hq4
              refine AO.skipG 30 false 38 rfl rfl (congrArg (fun b => some (AV.fl (Value.bool b))) (eq_false_of_ne_true hc12)) 39 rfl (by decide) ?_
              refine AO.skipG 30 false 38 rfl rfl (congrArg (fun b => some (AV.fl (Value.bool b))) (eq_false_of_ne_true hc12)) 40 rfl (by decide) ?_
              refine AO.skipG 30 false 38 rfl rfl (congrArg (fun b => some (AV.fl (Value.bool b))) (eq_false_of_ne_true hc12)) 41 rfl (by decide) ?_
              refine AO.skipG 30 false 38 rfl rfl (congrArg (fun b => some (AV.fl (Value.bool b))) (eq_false_of_ne_true hc12)) 42 rfl (by decide) ?_
              refine AO.skipG 30 false 38 rfl rfl (congrArg (fun b => some (AV.fl (Value.bool b))) (eq_false_of_ne_true hc12)) 43 rfl (by decide) ?_
              refine AO.skipG 30 false 38 rfl rfl (congrArg (fun b => some (AV.fl (Value.bool b))) (eq_false_of_ne_true hc12)) 44 rfl (by decide) ?_
              refine AO.calmG 24 false 32 rfl rfl (congrArg (fun b => some (AV.fl (Value.bool b))) (decide_eq_false hc10)) 45 rfl (by decide) (eBool false) (Calm.pickF rfl (congrArg (fun b => some (AV.fl (Value.bool b))) (eq_false_of_ne_true hc12)) rfl) ?_
              refine AO.calm rfl 46 rfl (by decide) (eBool false) (Calm.pickF rfl (congrArg (fun b => some (AV.fl (Value.bool b))) (decide_eq_false hc10)) rfl) ?_
              cases hq4
              refine AO.nilE ⟨rfl, rfl⟩ ?_ ?_
              · exact ⟨rfl, rfl, rfl, trivial⟩
              · exact (Sub.refl _)
  · by_cases hc14 : b3 = true
    · have h := (if_pos hc14).symm.trans h
      refine AW.condT' b3 rfl hc14 ?_
      refine AW.seq ?_
      refine AW.reg ?_
      refine AO.calm rfl 4 rfl (by decide) (eI64 (0 : Int)) (Calm.assign rfl rfl) ?_
      refine AO.nil (ρ' := [(4, (eI64 (0 : Int)))]) (H' := []) ⟨rfl, trivial⟩ (Sub.refl _) ?_
      refine AW.ret (ρ' := [(4, (eI64 (0 : Int)))]) (H' := []) ⟨rfl, trivial⟩ (Sub.refl _) ?_
      have hr := Option.some.inj h
      subst hr
      exact ⟨[(eI64 (0 : Int))], ⟨rfl, rfl, trivial⟩, rfl⟩
    · have h := (if_neg hc14).symm.trans h
      refine AW.condF' b3 rfl hc14 ?_
      refine AW.skip (ρ' := [(0, (.fz 4 (p0.map e43))), (1, (eI64 p1))]) (H' := []) ⟨rfl, rfl, trivial⟩ (Sub.refl _) ?_
      refine AW.seq ?_
      refine AW.reg ?_
      refine AO.calm rfl 5 rfl (by decide) (eI64 (1 : Int)) (Calm.assign rfl rfl) ?_
      refine AO.nil (ρ' := [(0, (.fz 4 (p0.map e43))), (1, (eI64 p1)), (5, (eI64 (1 : Int)))]) (H' := []) ⟨rfl, rfl, rfl, trivial⟩ (Sub.refl _) ?_
      refine AW.seq_mid (fun ρ H => ∃ (x15 : Int), ρ = [(5, (eI64 x15))] ∧ H = [] ∧ bosketref31_Size_c0 k x15 = some r) ?_ ?_
      · refine AW.seq ?_
        refine AW.reg ?_
        refine AO.calm rfl 6 rfl (by decide) (eI64 (0 : Int)) (Calm.assign rfl rfl) ?_
        refine AO.nil (ρ' := [(0, (.fz 4 (p0.map e43))), (1, (eI64 p1)), (5, (eI64 (1 : Int))), (6, (eI64 (0 : Int)))]) (H' := []) ⟨rfl, rfl, rfl, rfl, trivial⟩ (Sub.refl _) ?_
        refine AW.block ?_
        refine AW.weak (ρ' := [(0, (.fz 4 (p0.map e43))), (1, (eI64 p1)), (5, (eI64 (1 : Int))), (6, (eI64 (0 : Int)))]) (H' := []) ⟨rfl, rfl, rfl, rfl, trivial⟩ (Sub.refl _) ?_
        refine AW.loop (fun kq ρ H => ∃ (x16 : Int) (x17 : Int), ρ = [(0, (.fz 4 (p0.map e43))), (1, (eI64 p1)), (5, (eI64 x16)), (6, (eI64 x17))] ∧ H = [] ∧ bosketref31_Size_l1 k self p0 p1 kq x16 x17 = some r) k ⟨(1 : Int), (0 : Int), rfl, rfl, h⟩ ?_
        rintro kq19 _ _ ⟨x16, x17, rfl, rfl, h⟩
        cases kq19 with
        | zero => rw [bosketref31_Size_l1.eq_1] at h; cases h
        | succ kq19 =>
        rw [bosketref31_Size_l1.eq_2] at h
        generalize hrec18 : bosketref31_Size_l1 k self p0 p1 kq19 = rec18 at h
        refine AW.seq ?_
        refine AW.seq ?_
        refine AW.reg ?_
        refine AO.calm rfl 47 rfl (by decide) (eI64 x17) (Calm.move rfl rfl) ?_
        refine AO.calm rfl 48 rfl (by decide) (.fz 4 (p0.map e43)) (Calm.move rfl rfl) ?_
        refine AO.calm rfl 49 rfl (by decide) (eI64 p1) (Calm.move rfl rfl) ?_
        obtain ⟨hg20, h⟩ := of_guard h
        refine AO.calm rfl 50 rfl (by decide) (.rp (e43 (lget p0 p1))) (Calm.idxL (f := e43) rfl rfl rfl hg20 Try.underlying37 sz43) ?_
        refine AO.calm rfl 51 rfl (by decide) (.rp (eI64 ((lget p0 p1).f2))) (Calm.fldRp rfl rfl Try.underlying43 rfl sz3 (At.cast (At.fldS (At.fldS (At.fld0 At.here))) rfl)) ?_
        refine AO.calm rfl 52 rfl (by decide) (eI64 ((lget p0 p1).f2)) (Calm.loadRp rfl rfl ag3 sz3) ?_
        refine AO.calm rfl 53 rfl (by decide) (eBool (decide (x17 < ((lget p0 p1).f2)))) (Calm.int rfl rfl rfl rfl) ?_
        refine AO.nil (ρ' := [(0, (.fz 4 (p0.map e43))), (1, (eI64 p1)), (5, (eI64 x16)), (6, (eI64 x17)), (53, (eBool (decide (x17 < ((lget p0 p1).f2)))))]) (H' := []) ⟨rfl, rfl, rfl, rfl, rfl, trivial⟩ (Sub.refl _) ?_
        by_cases hc21 : x17 < ((lget p0 p1).f2)
        · have h := (if_pos hc21).symm.trans h
          refine AW.condP (x17 < ((lget p0 p1).f2)) rfl hc21 ?_
          refine AW.skip (ρ' := [(0, (.fz 4 (p0.map e43))), (1, (eI64 p1)), (5, (eI64 x16)), (6, (eI64 x17))]) (H' := []) ⟨rfl, rfl, rfl, rfl, trivial⟩ (Sub.refl _) ?_
          refine AW.seq ?_
          refine AW.block ?_
          refine AW.seq ?_
          refine AW.reg ?_
          refine AO.calm rfl 56 rfl (by decide) (.fz 4 (p0.map e43)) (Calm.move rfl rfl) ?_
          refine AO.calm rfl 57 rfl (by decide) (eI64 p1) (Calm.move rfl rfl) ?_
          refine AO.calm rfl 58 rfl (by decide) (eI64 x16) (Calm.move rfl rfl) ?_
          refine AO.calm rfl 59 rfl (by decide) (eI64 (w64 (p1 + x16))) (Calm.int rfl rfl rfl rfl) ?_
          obtain ⟨t22, et22, h⟩ := of_bind h
          refine AO.callS [(.fz 4 (p0.map e43)), (eI64 (w64 (p1 + x16)))] (eI64 t22) 60 rfl (by decide) ok32 rfl rfl rfl ⟨rfl, rfl, rfl, rfl, trivial⟩ (hself _ _ _ et22) ?_
          refine AO.calm rfl 7 rfl (by decide) (eI64 t22) (Calm.assign rfl rfl) ?_
          refine AO.nil (ρ' := [(0, (.fz 4 (p0.map e43))), (1, (eI64 p1)), (5, (eI64 x16)), (6, (eI64 x17)), (7, (eI64 t22))]) (H' := []) ⟨rfl, rfl, rfl, rfl, rfl, trivial⟩ (Sub.refl _) ?_
          refine AW.seq ?_
          refine AW.seq ?_
          refine AW.reg ?_
          refine AO.calm rfl 61 rfl (by decide) (eI64 t22) (Calm.move rfl rfl) ?_
          refine AO.calm rfl 62 rfl (by decide) (eBool (decide (t22 = (0 : Int)))) (Calm.int rfl rfl rfl rfl) ?_
          refine AO.nil (ρ' := [(0, (.fz 4 (p0.map e43))), (1, (eI64 p1)), (5, (eI64 x16)), (6, (eI64 x17)), (7, (eI64 t22)), (62, (eBool (decide (t22 = (0 : Int)))))]) (H' := []) ⟨rfl, rfl, rfl, rfl, rfl, rfl, trivial⟩ (Sub.refl _) ?_
          by_cases hc23 : t22 = (0 : Int)
          · have h := (if_pos hc23).symm.trans h
            refine AW.condP (t22 = (0 : Int)) rfl hc23 ?_
            refine AW.seq ?_
            refine AW.reg ?_
            refine AO.calm rfl 4 rfl (by decide) (eI64 (0 : Int)) (Calm.assign rfl rfl) ?_
            refine AO.nil (ρ' := [(4, (eI64 (0 : Int)))]) (H' := []) ⟨rfl, trivial⟩ (Sub.refl _) ?_
            refine AW.ret (ρ' := [(4, (eI64 (0 : Int)))]) (H' := []) ⟨rfl, trivial⟩ (Sub.refl _) ?_
            have hr := Option.some.inj h
            subst hr
            exact ⟨[(eI64 (0 : Int))], ⟨rfl, rfl, trivial⟩, rfl⟩
          · have h := (if_neg hc23).symm.trans h
            refine AW.condN (t22 = (0 : Int)) rfl hc23 ?_
            refine AW.skip (ρ' := [(0, (.fz 4 (p0.map e43))), (1, (eI64 p1)), (5, (eI64 x16)), (6, (eI64 x17)), (7, (eI64 t22))]) (H' := []) ⟨rfl, rfl, rfl, rfl, rfl, trivial⟩ (Sub.refl _) ?_
            refine AW.reg ?_
            refine AO.calm rfl 63 rfl (by decide) (eI64 x16) (Calm.move rfl rfl) ?_
            refine AO.calm rfl 64 rfl (by decide) (eI64 t22) (Calm.move rfl rfl) ?_
            refine AO.calm rfl 65 rfl (by decide) (eI64 (w64 (x16 + t22))) (Calm.int rfl rfl rfl rfl) ?_
            refine AO.calm rfl 5 rfl (by decide) (eI64 (w64 (x16 + t22))) (Calm.assign rfl rfl) ?_
            refine AO.nil (ρ' := [(0, (.fz 4 (p0.map e43))), (1, (eI64 p1)), (5, (eI64 (w64 (x16 + t22)))), (6, (eI64 x17))]) (H' := []) ⟨rfl, rfl, rfl, rfl, trivial⟩ (Sub.refl _) ?_
            refine AW.reg ?_
            refine AO.calm rfl 54 rfl (by decide) (eI64 x17) (Calm.move rfl rfl) ?_
            refine AO.calm rfl 55 rfl (by decide) (eI64 (w64 (x17 + (1 : Int)))) (Calm.int rfl rfl rfl rfl) ?_
            refine AO.calm rfl 6 rfl (by decide) (eI64 (w64 (x17 + (1 : Int)))) (Calm.assign rfl rfl) ?_
            refine AO.nil (ρ' := [(0, (.fz 4 (p0.map e43))), (1, (eI64 p1)), (5, (eI64 (w64 (x16 + t22)))), (6, (eI64 (w64 (x17 + (1 : Int)))))]) (H' := []) ⟨rfl, rfl, rfl, rfl, trivial⟩ (Sub.refl _) ?_
            exact ⟨kq19, Nat.lt_succ_self _, (w64 (x16 + t22)), (w64 (x17 + (1 : Int))), rfl, rfl, by rw [hrec18]; exact h⟩
        · have h := (if_neg hc21).symm.trans h
          refine AW.condN (x17 < ((lget p0 p1).f2)) rfl hc21 ?_
          refine AW.exit (ρ' := [(5, (eI64 x16))]) (H' := []) ⟨rfl, trivial⟩ (Sub.refl _) ?_
          exact ⟨x16, rfl, rfl, h⟩
      · rintro _ _ ⟨x15, rfl, rfl, h⟩
        rw [bosketref31_Size_c0.eq_1] at h
        refine AW.seq ?_
        refine AW.reg ?_
        refine AO.calm rfl 66 rfl (by decide) (eI64 x15) (Calm.move rfl rfl) ?_
        refine AO.calm rfl 4 rfl (by decide) (eI64 x15) (Calm.assign rfl rfl) ?_
        refine AO.nil (ρ' := [(4, (eI64 x15))]) (H' := []) ⟨rfl, trivial⟩ (Sub.refl _) ?_
        refine AW.ret (ρ' := [(4, (eI64 x15))]) (H' := []) ⟨rfl, trivial⟩ (Sub.refl _) ?_
        have hr := Option.some.inj h
        subst hr
        exact ⟨[(eI64 x15)], ⟨rfl, rfl, trivial⟩, rfl⟩
theorem bosketref31_Size_spec {k : Nat} {p0 : (List S43)} {p1 : Int} {r : Int} (h : bosketref31_Size k p0 p1 = some r) : Spec Try.prog 32 [(.fz 4 (p0.map e43)), (eI64 p1)] (eI64 r) := bosketref31_Size_spec' k p0 p1 r h
end Go.Avl.T2
/- bosket/bosketref31.Right; printed by avmain.py. -/
namespace Go.Avl.T2
open Go Go.RowKit Go.Proofs Go.Avl
set_option linter.unusedVariables false
set_option maxRecDepth 100000
set_option maxHeartbeats 4000000
attribute [local irreducible] AW AO AQ Spec SpecH Calm

def bosketref31_Right (k : Nat) (p0 : (List S43)) : Option Bool :=
  Option.bind (α := Bool) (if (1 : Int) ≤ (p0.length : Int) then if (p0.length : Int) ≤ (2000 : Int) then (bosketref31_Size k p0 (0 : Int)).bind fun t6 =>
  some (decide (t6 = (p0.length : Int)))
  else some (false)
  else some (false)) fun b2 =>
  some (b2)
theorem bosketref31_Right_spec {k : Nat} {p0 : (List S43)} {r : Bool} (h : bosketref31_Right k p0 = some r) : Spec Try.prog 24 [(.fz 4 (p0.map e43))] (eBool r) := by
  rw [bosketref31_Right.eq_1] at h
  refine Spec.intro (res := [.tmp 2]) Try.func24 rfl rfl rfl (Nat.le_of_ble_eq_true rfl) ?_
  refine AW.seq ?_
  refine AW.reg ?_
  refine AO.calm rfl 2 rfl (by decide) (eBool false) (Calm.assign rfl rfl) ?_
  refine AO.nil (ρ' := [(0, (.fz 4 (p0.map e43)))]) (H' := []) ⟨rfl, trivial⟩ (Sub.refl _) ?_
  refine AW.seq ?_
  obtain ⟨b2, hq3, h⟩ := of_bind h
  refine AW.regM [(2, (eBool b2))] [] ?_ ?_
  · refine AO.calm rfl 3 rfl (by decide) (.fz 4 (p0.map e43)) (Calm.move rfl rfl) ?_
    refine AO.calm rfl 4 rfl (by decide) (eI64 (p0.length : Int)) (Calm.lenL rfl rfl Try.underlying37) ?_
    refine AO.calm rfl 5 rfl (by decide) (eBool (decide ((1 : Int) ≤ (p0.length : Int)))) (Calm.int rfl rfl rfl rfl) ?_
    refine AO.calm rfl 6 rfl (by decide) (eBool (decide ((1 : Int) ≤ (p0.length : Int)))) (Calm.move rfl rfl) ?_
    by_cases hc4 : (1 : Int) ≤ (p0.length : Int)
    · have hq3 := (if_pos hc4).symm.trans hq3
      refine AO.calmG 3 true 6 rfl rfl (congrArg (fun b => some (AV.fl (Value.bool b))) (decide_eq_true hc4)) 7 rfl (by decide) (.fz 4 (p0.map e43)) (Calm.move rfl rfl) ?_
      refine AO.calmG 3 true 6 rfl rfl (congrArg (fun b => some (AV.fl (Value.bool b))) (decide_eq_true hc4)) 8 rfl (by decide) (eI64 (p0.length : Int)) (Calm.lenL rfl rfl Try.underlying37) ?_
      refine AO.calmG 3 true 6 rfl rfl (congrArg (fun b => some (AV.fl (Value.bool b))) (decide_eq_true hc4)) 9 rfl (by decide) (eBool (decide ((p0.length : Int) ≤ (2000 : Int)))) (Calm.int rfl rfl rfl rfl) ?_
      refine AO.calm rfl 10 rfl (by decide) (eBool (decide ((p0.length : Int) ≤ (2000 : Int)))) (Calm.pickT rfl (congrArg (fun b => some (AV.fl (Value.bool b))) (decide_eq_true hc4)) rfl) ?_
      refine AO.calm rfl 11 rfl (by decide) (eBool (decide ((p0.length : Int) ≤ (2000 : Int)))) (Calm.move rfl rfl) ?_
      by_cases hc5 : (p0.length : Int) ≤ (2000 : Int)
      · have hq3 := (if_pos hc5).symm.trans hq3
        refine AO.calmG 8 true 11 rfl rfl (congrArg (fun b => some (AV.fl (Value.bool b))) (decide_eq_true hc5)) 12 rfl (by decide) (.fz 4 (p0.map e43)) (Calm.move rfl rfl) ?_
        obtain ⟨t6, et6, hq3⟩ := of_bind hq3
        refine AO.callG 8 true 11 [(.fz 4 (p0.map e43)), (eI64 (0 : Int))] (eI64 t6) 13 rfl (by decide) ok32 rfl rfl (congrArg (fun b => some (AV.fl (Value.bool b))) (decide_eq_true hc5)) rfl rfl ⟨rfl, rfl, rfl, rfl, trivial⟩ (bosketref31_Size_spec et6) ?_
        refine AO.calmG 8 true 11 rfl rfl (congrArg (fun b => some (AV.fl (Value.bool b))) (decide_eq_true hc5)) 14 rfl (by decide) (.fz 4 (p0.map e43)) (Calm.move rfl rfl) ?_
        refine AO.calmG 8 true 11 rfl rfl (congrArg (fun b => some (AV.fl (Value.bool b))) (decide_eq_true hc5)) 15 rfl (by decide) (eI64 (p0.length : Int)) (Calm.lenL rfl rfl Try.underlying37) ?_
        refine AO.calmG 8 true 11 rfl rfl (congrArg (fun b => some (AV.fl (Value.bool b))) (decide_eq_true hc5)) 16 rfl (by decide) (eBool (decide (t6 = (p0.length : Int)))) (Calm.int rfl rfl rfl rfl) ?_
        refine AO.calm rfl 17 rfl (by decide) (eBool (decide (t6 = (p0.length : Int)))) (Calm.pickT rfl (congrArg (fun b => some (AV.fl (Value.bool b))) (decide_eq_true hc5)) rfl) ?_
        refine AO.calm rfl 2 rfl (by decide) (eBool (decide (t6 = (p0.length : Int)))) (Calm.assign rfl rfl) ?_
        cases hq3
        refine AO.nilE ⟨rfl, rfl⟩ ?_ ?_
        · exact ⟨rfl, trivial⟩
        · exact (Sub.refl _)
      · have hq3 := (if_neg hc5).symm.trans hq3
        refine AO.skipG 8 false 11 rfl rfl (congrArg (fun b => some (AV.fl (Value.bool b))) (decide_eq_false hc5)) 12 rfl (by decide) ?_
        refine AO.skipG 8 false 11 rfl rfl (congrArg (fun b => some (AV.fl (Value.bool b))) (decide_eq_false hc5)) 13 rfl (by decide) ?_
        refine AO.skipG 8 false 11 rfl rfl (congrArg (fun b => some (AV.fl (Value.bool b))) (decide_eq_false hc5)) 14 rfl (by decide) ?_
        refine AO.skipG 8 false 11 rfl rfl (congrArg (fun b => some (AV.fl (Value.bool b))) (decide_eq_false hc5)) 15 rfl (by decide) ?_
        refine AO.skipG 8 false 11 rfl rfl (congrArg (fun b => some (AV.fl (Value.bool b))) (decide_eq_false hc5)) 16 rfl (by decide) ?_
        refine AO.calm rfl 17 rfl (by decide) (eBool false) (Calm.pickF rfl (congrArg (fun b => some (AV.fl (Value.bool b))) (decide_eq_false hc5)) rfl) ?_
        refine AO.calm rfl 2 rfl (by decide) (eBool false) (Calm.assign rfl rfl) ?_
        cases hq3
        refine AO.nilE ⟨rfl, rfl⟩ ?_ ?_
        · exact ⟨rfl, trivial⟩
        · exact (Sub.refl _)
    · have hq3 := (if_neg hc4).symm.trans hq3
      refine AO.skipG 3 false 6 rfl rfl (congrArg (fun b => some (AV.fl (Value.bool b))) (decide_eq_false hc4)) 7 rfl (by decide) ?_
      refine AO.skipG 3 false 6 rfl rfl (congrArg (fun b => some (AV.fl (Value.bool b))) (decide_eq_false hc4)) 8 rfl (by decide) ?_
      refine AO.skipG 3 false 6 rfl rfl (congrArg (fun b => some (AV.fl (Value.bool b))) (decide_eq_false hc4)) 9 rfl (by decide) ?_
      refine AO.calm rfl 10 rfl (by decide) (eBool false) (Calm.pickF rfl (congrArg (fun b => some (AV.fl (Value.bool b))) (decide_eq_false hc4)) rfl) ?_
      refine AO.calm rfl 11 rfl (by decide) (eBool false) (Calm.move rfl rfl) ?_
      refine AO.skipG 8 false 11 rfl rfl rfl 12 rfl (by decide) ?_
      refine AO.skipG 8 false 11 rfl rfl rfl 13 rfl (by decide) ?_
      refine AO.skipG 8 false 11 rfl rfl rfl 14 rfl (by decide) ?_
      refine AO.skipG 8 false 11 rfl rfl rfl 15 rfl (by decide) ?_
      refine AO.skipG 8 false 11 rfl rfl rfl 16 rfl (by decide) ?_
      refine AO.calm rfl 17 rfl (by decide) (eBool false) (Calm.pickF rfl rfl rfl) ?_
      refine AO.calm rfl 2 rfl (by decide) (eBool false) (Calm.assign rfl rfl) ?_
      cases hq3
      refine AO.nilE ⟨rfl, rfl⟩ ?_ ?_
      · exact ⟨rfl, trivial⟩
      · exact (Sub.refl _)
  · refine AW.ret (ρ' := [(2, (eBool b2))]) (H' := []) ⟨rfl, trivial⟩ (Sub.refl _) ?_
    have hr := Option.some.inj h
    subst hr
    exact ⟨[(eBool b2)], ⟨rfl, rfl, trivial⟩, rfl⟩
end Go.Avl.T2
/- bosket/ast.Depth; printed by avmain.py. -/
namespace Go.Avl.T2
open Go Go.RowKit Go.Proofs Go.Avl
set_option linter.unusedVariables false
set_option maxRecDepth 100000
set_option maxHeartbeats 4000000
attribute [local irreducible] AW AO AQ Spec SpecH Calm

def ast_Depth_c0 (k : Nat) (p0 : (List S43)) (x2 : Int) : Option Int :=
  (ast_Right k p0).bind fun t3 =>
  if (!t3) = true then some ((0 : Int))
  else some ((w64 (x2 + (1 : Int))))
def ast_Depth_l1 (k : Nat) (self : ((List S43) → Option Int)) (p0 : (List S43)) (t5 : (List (List S43))) : Nat → Int → Int → Option Int
  | 0, _, _ => none
  | j + 1, x6, x7 =>
    if x7 < (t5.length : Int) then if 0 ≤ x7 ∧ x7 < (t5.length : Int) then (self (lget t5 x7)).bind fun t12 =>
    (ast_Depth_l1 k self p0 t5 j) (max x6 t12) (w64 (x7 + (1 : Int)))
    else none
    else ast_Depth_c0 k p0 x6
def ast_Depth : Nat → (List S43) → Option Int
  | 0, _ => none
  | k + 1, p0 =>
    (ast_Kids k p0).bind fun t5 =>
    ast_Depth_l1 k (ast_Depth k) p0 t5 k (0 : Int) (0 : Int)
theorem ast_Depth_spec' : ∀ (k : Nat) (p0 : (List S43)) (r : Int), ast_Depth k p0 = some r → Spec Try.prog 34 [(.fz 4 (p0.map e43))] (eI64 r) := by
  intro k
  induction k with
  | zero => intro p0 r h; rw [ast_Depth.eq_1] at h; cases h
  | succ k hself =>
  intro p0 r h
  rw [ast_Depth.eq_2] at h
  generalize hs : ast_Depth k = self at h hself
  refine Spec.intro (res := [.tmp 2]) Try.func34 rfl rfl rfl (Nat.le_of_ble_eq_true rfl) ?_
  refine AW.seq ?_
  refine AW.reg ?_
  refine AO.calm rfl 2 rfl (by decide) (eI64 (0 : Int)) (Calm.assign rfl rfl) ?_
  refine AO.nil (ρ' := [(0, (.fz 4 (p0.map e43)))]) (H' := []) ⟨rfl, trivial⟩ (Sub.refl _) ?_
  refine AW.seq ?_
  refine AW.reg ?_
  refine AO.calm rfl 3 rfl (by decide) (eI64 (0 : Int)) (Calm.assign rfl rfl) ?_
  refine AO.nil (ρ' := [(0, (.fz 4 (p0.map e43))), (3, (eI64 (0 : Int)))]) (H' := []) ⟨rfl, rfl, trivial⟩ (Sub.refl _) ?_
  refine AW.seq_mid (fun ρ H => ∃ (x2 : Int), ρ = [(0, (.fz 4 (p0.map e43))), (3, (eI64 x2))] ∧ H = [] ∧ ast_Depth_c0 k p0 x2 = some r) ?_ ?_
  · refine AW.seq ?_
    refine AW.reg ?_
    refine AO.calm rfl 6 rfl (by decide) (.fz 4 (p0.map e43)) (Calm.move rfl rfl) ?_
    obtain ⟨t5, et5, h⟩ := of_bind h
    refine AO.callS [(.fz 4 (p0.map e43))] (.fz 1 (t5.map e37)) 7 rfl (by decide) ok33 rfl rfl rfl ⟨rfl, rfl, trivial⟩ (ast_Kids_spec et5) ?_
    refine AO.calm rfl 8 rfl (by decide) (eI64 (t5.length : Int)) (Calm.lenL rfl rfl Try.underlying49) ?_
    refine AO.calm rfl 9 rfl (by decide) (eI64 (0 : Int)) (Calm.move rfl rfl) ?_
    refine AO.nil (ρ' := [(0, (.fz 4 (p0.map e43))), (3, (eI64 (0 : Int))), (7, (.fz 1 (t5.map e37))), (8, (eI64 (t5.length : Int))), (9, (eI64 (0 : Int)))]) (H' := []) ⟨rfl, rfl, rfl, rfl, rfl, trivial⟩ (Sub.refl _) ?_
    refine AW.block ?_
    refine AW.weak (ρ' := [(0, (.fz 4 (p0.map e43))), (3, (eI64 (0 : Int))), (7, (.fz 1 (t5.map e37))), (8, (eI64 (t5.length : Int))), (9, (eI64 (0 : Int)))]) (H' := []) ⟨rfl, rfl, rfl, rfl, rfl, trivial⟩ (Sub.refl _) ?_
    refine AW.loop (fun kq ρ H => ∃ (x6 : Int) (x7 : Int), ρ = [(0, (.fz 4 (p0.map e43))), (3, (eI64 x6)), (7, (.fz 1 (t5.map e37))), (8, (eI64 (t5.length : Int))), (9, (eI64 x7))] ∧ H = [] ∧ ast_Depth_l1 k self p0 t5 kq x6 x7 = some r) k ⟨(0 : Int), (0 : Int), rfl, rfl, h⟩ ?_
    rintro kq9 _ _ ⟨x6, x7, rfl, rfl, h⟩
    cases kq9 with
    | zero => rw [ast_Depth_l1.eq_1] at h; cases h
    | succ kq9 =>
    rw [ast_Depth_l1.eq_2] at h
    generalize hrec8 : ast_Depth_l1 k self p0 t5 kq9 = rec8 at h
    refine AW.seq ?_
    refine AW.reg ?_
    refine AO.calm rfl 10 rfl (by decide) (eBool (decide (x7 < (t5.length : Int)))) (Calm.int rfl rfl rfl rfl) ?_
    refine AO.nil (ρ' := [(0, (.fz 4 (p0.map e43))), (3, (eI64 x6)), (7, (.fz 1 (t5.map e37))), (8, (eI64 (t5.length : Int))), (9, (eI64 x7)), (10, (eBool (decide (x7 < (t5.length : Int)))))]) (H' := []) ⟨rfl, rfl, rfl, rfl, rfl, rfl, trivial⟩ (Sub.refl _) ?_
    refine AW.seq ?_
    by_cases hc10 : x7 < (t5.length : Int)
    · have h := (if_pos hc10).symm.trans h
      refine AW.condP (x7 < (t5.length : Int)) rfl hc10 ?_
      refine AW.skip (ρ' := [(0, (.fz 4 (p0.map e43))), (3, (eI64 x6)), (7, (.fz 1 (t5.map e37))), (8, (eI64 (t5.length : Int))), (9, (eI64 x7))]) (H' := []) ⟨rfl, rfl, rfl, rfl, rfl, trivial⟩ (Sub.refl _) ?_
      refine AW.seq ?_
      refine AW.block ?_
      refine AW.seq ?_
      refine AW.reg ?_
      obtain ⟨hg11, h⟩ := of_guard h
      refine AO.calm rfl 11 rfl (by decide) (.rp (.fz 4 ((lget t5 x7).map e43))) (Calm.idxL (f := e37) rfl rfl rfl hg11 Try.underlying49 sz37) ?_
      refine AO.calm rfl 12 rfl (by decide) (.fz 4 ((lget t5 x7).map e43)) (Calm.loadRp rfl rfl ag37 sz37) ?_
      refine AO.calm rfl 5 rfl (by decide) (.fz 4 ((lget t5 x7).map e43)) (Calm.assign rfl rfl) ?_
      refine AO.nil (ρ' := [(0, (.fz 4 (p0.map e43))), (3, (eI64 x6)), (5, (.fz 4 ((lget t5 x7).map e43))), (7, (.fz 1 (t5.map e37))), (8, (eI64 (t5.length : Int))), (9, (eI64 x7))]) (H' := []) ⟨rfl, rfl, rfl, rfl, rfl, rfl, trivial⟩ (Sub.refl _) ?_
      refine AW.reg ?_
      refine AO.calm rfl 13 rfl (by decide) (eI64 x6) (Calm.move rfl rfl) ?_
      refine AO.calm rfl 14 rfl (by decide) (.fz 4 ((lget t5 x7).map e43)) (Calm.move rfl rfl) ?_
      obtain ⟨t12, et12, h⟩ := of_bind h
      refine AO.callS [(.fz 4 ((lget t5 x7).map e43))] (eI64 t12) 15 rfl (by decide) ok34 rfl rfl rfl ⟨rfl, rfl, trivial⟩ (hself _ _ et12) ?_
      refine AO.calm rfl 16 rfl (by decide) (eI64 (max x6 t12)) (Calm.max2 rfl rfl rfl) ?_
      refine AO.calm rfl 3 rfl (by decide) (eI64 (max x6 t12)) (Calm.assign rfl rfl) ?_
      refine AO.nil (ρ' := [(0, (.fz 4 (p0.map e43))), (3, (eI64 (max x6 t12))), (7, (.fz 1 (t5.map e37))), (8, (eI64 (t5.length : Int))), (9, (eI64 x7))]) (H' := []) ⟨rfl, rfl, rfl, rfl, rfl, trivial⟩ (Sub.refl _) ?_
      refine AW.reg ?_
      refine AO.calm rfl 17 rfl (by decide) (eI64 (w64 (x7 + (1 : Int)))) (Calm.int rfl rfl rfl rfl) ?_
      refine AO.calm rfl 9 rfl (by decide) (eI64 (w64 (x7 + (1 : Int)))) (Calm.move rfl rfl) ?_
      refine AO.nil (ρ' := [(0, (.fz 4 (p0.map e43))), (3, (eI64 (max x6 t12))), (7, (.fz 1 (t5.map e37))), (8, (eI64 (t5.length : Int))), (9, (eI64 (w64 (x7 + (1 : Int)))))]) (H' := []) ⟨rfl, rfl, rfl, rfl, rfl, trivial⟩ (Sub.refl _) ?_
      exact ⟨kq9, Nat.lt_succ_self _, (max x6 t12), (w64 (x7 + (1 : Int))), rfl, rfl, by rw [hrec8]; exact h⟩
    · have h := (if_neg hc10).symm.trans h
      refine AW.condN (x7 < (t5.length : Int)) rfl hc10 ?_
      refine AW.exit (ρ' := [(0, (.fz 4 (p0.map e43))), (3, (eI64 x6))]) (H' := []) ⟨rfl, rfl, trivial⟩ (Sub.refl _) ?_
      exact ⟨x6, rfl, rfl, h⟩
  · rintro _ _ ⟨x2, rfl, rfl, h⟩
    rw [ast_Depth_c0.eq_1] at h
    refine AW.seq ?_
    refine AW.seq ?_
    refine AW.reg ?_
    refine AO.calm rfl 18 rfl (by decide) (.fz 4 (p0.map e43)) (Calm.move rfl rfl) ?_
    obtain ⟨t3, et3, h⟩ := of_bind h
    refine AO.callS [(.fz 4 (p0.map e43))] (eBool t3) 19 rfl (by decide) ok30 rfl rfl rfl ⟨rfl, rfl, trivial⟩ (ast_Right_spec et3) ?_
    refine AO.calm rfl 20 rfl (by decide) (eBool (!t3)) (Calm.not rfl rfl) ?_
    refine AO.nil (ρ' := [(3, (eI64 x2)), (20, (eBool (!t3)))]) (H' := []) ⟨rfl, rfl, trivial⟩ (Sub.refl _) ?_
    by_cases hc4 : (!t3) = true
    · have h := (if_pos hc4).symm.trans h
      refine AW.condT' (!t3) rfl hc4 ?_
      refine AW.seq ?_
      refine AW.reg ?_
      refine AO.calm rfl 2 rfl (by decide) (eI64 (0 : Int)) (Calm.assign rfl rfl) ?_
      refine AO.nil (ρ' := [(2, (eI64 (0 : Int)))]) (H' := []) ⟨rfl, trivial⟩ (Sub.refl _) ?_
      refine AW.ret (ρ' := [(2, (eI64 (0 : Int)))]) (H' := []) ⟨rfl, trivial⟩ (Sub.refl _) ?_
      have hr := Option.some.inj h
      subst hr
      exact ⟨[(eI64 (0 : Int))], ⟨rfl, rfl, trivial⟩, rfl⟩
    · have h := (if_neg hc4).symm.trans h
      refine AW.condF' (!t3) rfl hc4 ?_
      refine AW.skip (ρ' := [(3, (eI64 x2))]) (H' := []) ⟨rfl, trivial⟩ (Sub.refl _) ?_
      refine AW.seq ?_
      refine AW.reg ?_
      refine AO.calm rfl 21 rfl (by decide) (eI64 x2) (Calm.move rfl rfl) ?_
      refine AO.calm rfl 22 rfl (by decide) (eI64 (w64 (x2 + (1 : Int)))) (Calm.int rfl rfl rfl rfl) ?_
      refine AO.calm rfl 2 rfl (by decide) (eI64 (w64 (x2 + (1 : Int)))) (Calm.assign rfl rfl) ?_
      refine AO.nil (ρ' := [(2, (eI64 (w64 (x2 + (1 : Int)))))]) (H' := []) ⟨rfl, trivial⟩ (Sub.refl _) ?_
      refine AW.ret (ρ' := [(2, (eI64 (w64 (x2 + (1 : Int)))))]) (H' := []) ⟨rfl, trivial⟩ (Sub.refl _) ?_
      have hr := Option.some.inj h
      subst hr
      exact ⟨[(eI64 (w64 (x2 + (1 : Int))))], ⟨rfl, rfl, trivial⟩, rfl⟩
theorem ast_Depth_spec {k : Nat} {p0 : (List S43)} {r : Int} (h : ast_Depth k p0 = some r) : Spec Try.prog 34 [(.fz 4 (p0.map e43))] (eI64 r) := ast_Depth_spec' k p0 r h
end Go.Avl.T2
/- bosket/bosketref31.Kids; printed by avmain.py. -/
namespace Go.Avl.T2
open Go Go.RowKit Go.Proofs Go.Avl
set_option linter.unusedVariables false
set_option maxRecDepth 100000
set_option maxHeartbeats 4000000
attribute [local irreducible] AW AO AQ Spec SpecH Calm

def bosketref31_Kids_c0 (k : Nat) (x3 : (List (List S43))) : Option (List (List S43)) :=
  some (x3)
def bosketref31_Kids_l1 (k : Nat) (p0 : (List S43)) : Nat → (List (List S43)) → Int → Int → Option (List (List S43))
  | 0, _, _, _ => none
  | j + 1, x5, x6, x7 =>
    if 0 ≤ (0 : Int) ∧ (0 : Int) < (p0.length : Int) then if x7 < ((lget p0 (0 : Int)).f2) then (bosketref31_Size k p0 x6).bind fun t12 =>
    if 0 ≤ x6 ∧ x6 ≤ (w64 (x6 + t12)) ∧ (w64 (x6 + t12)) ≤ (p0.length : Int) then if (x5 ++ ([(lcut p0 x6 (w64 (x6 + t12)))] : List (List S43))).length * 24 ≤ 140737488355328 then (bosketref31_Kids_l1 k p0 j) (x5 ++ ([(lcut p0 x6 (w64 (x6 + t12)))] : List (List S43))) (w64 (x6 + t12)) (w64 (x7 + (1 : Int)))
    else none
    else none
    else bosketref31_Kids_c0 k x5
    else none
def bosketref31_Kids (k : Nat) (p0 : (List S43)) : Option (List (List S43)) :=
  bosketref31_Kids_l1 k p0 k [] (1 : Int) (0 : Int)
theorem bosketref31_Kids_spec {k : Nat} {p0 : (List S43)} {r : (List (List S43))} (h : bosketref31_Kids k p0 = some r) : Spec Try.prog 35 [(.fz 4 (p0.map e43))] (e49 r) := by
  rw [bosketref31_Kids.eq_1] at h
  refine Spec.intro (res := [.tmp 2]) Try.func35 rfl rfl rfl (Nat.le_of_ble_eq_true rfl) ?_
  refine AW.seq ?_
  refine AW.reg ?_
  refine AO.calm rfl 2 rfl (by decide) (.fl (.slice none 0 0)) (Calm.assign rfl rfl) ?_
  refine AO.nil (ρ' := [(0, (.fz 4 (p0.map e43)))]) (H' := []) ⟨rfl, trivial⟩ (Sub.refl _) ?_
  refine AW.seq ?_
  refine AW.reg ?_
  refine AO.calm rfl 3 rfl (by decide) (.fl (.slice none 0 0)) (Calm.assign rfl rfl) ?_
  refine AO.nil (ρ' := [(0, (.fz 4 (p0.map e43))), (3, (.fl (.slice none 0 0)))]) (H' := []) ⟨rfl, rfl, trivial⟩ (Sub.refl _) ?_
  refine AW.seq ?_
  refine AW.reg ?_
  refine AO.calm rfl 4 rfl (by decide) (eI64 (1 : Int)) (Calm.assign rfl rfl) ?_
  refine AO.nil (ρ' := [(0, (.fz 4 (p0.map e43))), (3, (.fl (.slice none 0 0))), (4, (eI64 (1 : Int)))]) (H' := []) ⟨rfl, rfl, rfl, trivial⟩ (Sub.refl _) ?_
  refine AW.seq_mid (fun ρ H => ∃ (n2 : Nat) (x3 : (List (List S43))), ρ = [(3, (.own n2 0 x3.length))] ∧ H = [(n2, .mem (.ar 1 (x3.map e37)))] ∧ bosketref31_Kids_c0 k x3 = some r) ?_ ?_
  · refine AW.seq ?_
    refine AW.reg ?_
    refine AO.calm rfl 5 rfl (by decide) (eI64 (0 : Int)) (Calm.assign rfl rfl) ?_
    refine AO.nil (ρ' := [(0, (.fz 4 (p0.map e43))), (3, (.fl (.slice none 0 0))), (4, (eI64 (1 : Int))), (5, (eI64 (0 : Int)))]) (H' := []) ⟨rfl, rfl, rfl, rfl, trivial⟩ (Sub.refl _) ?_
    refine AW.block ?_
    refine AW.nilOwn 3 1 rfl fun n17 => ?_
    refine AW.weak (ρ' := [(0, (.fz 4 (p0.map e43))), (3, (.own n17 0 ([] : List (List S43)).length)), (4, (eI64 (1 : Int))), (5, (eI64 (0 : Int)))]) (H' := [(n17, .mem (.ar 1 (([] : List (List S43)).map e37)))]) ⟨rfl, rfl, rfl, rfl, trivial⟩ (Sub.refl _) ?_
    refine AW.loop (fun kq ρ H => ∃ (n4 : Nat) (x5 : (List (List S43))) (x6 : Int) (x7 : Int), ρ = [(0, (.fz 4 (p0.map e43))), (3, (.own n4 0 x5.length)), (4, (eI64 x6)), (5, (eI64 x7))] ∧ H = [(n4, .mem (.ar 1 (x5.map e37)))] ∧ bosketref31_Kids_l1 k p0 kq x5 x6 x7 = some r) k ⟨n17, [], (1 : Int), (0 : Int), rfl, rfl, h⟩ ?_
    rintro kq9 _ _ ⟨n4, x5, x6, x7, rfl, rfl, h⟩
    cases kq9 with
    | zero => rw [bosketref31_Kids_l1.eq_1] at h; cases h
    | succ kq9 =>
    rw [bosketref31_Kids_l1.eq_2] at h
    generalize hrec8 : bosketref31_Kids_l1 k p0 kq9 = rec8 at h
    refine AW.seq ?_
    refine AW.seq ?_
    refine AW.reg ?_
    refine AO.calm rfl 7 rfl (by decide) (eI64 x7) (Calm.move rfl rfl) ?_
    refine AO.calm rfl 8 rfl (by decide) (.fz 4 (p0.map e43)) (Calm.move rfl rfl) ?_
    obtain ⟨hg10, h⟩ := of_guard h
    refine AO.calm rfl 9 rfl (by decide) (.rp (e43 (lget p0 (0 : Int)))) (Calm.idxL (f := e43) rfl rfl rfl hg10 Try.underlying37 sz43) ?_
    refine AO.calm rfl 10 rfl (by decide) (.rp (eI64 ((lget p0 (0 : Int)).f2))) (Calm.fldRp rfl rfl Try.underlying43 rfl sz3 (At.cast (At.fldS (At.fldS (At.fld0 At.here))) rfl)) ?_
    refine AO.calm rfl 11 rfl (by decide) (eI64 ((lget p0 (0 : Int)).f2)) (Calm.loadRp rfl rfl ag3 sz3) ?_
    refine AO.calm rfl 12 rfl (by decide) (eBool (decide (x7 < ((lget p0 (0 : Int)).f2)))) (Calm.int rfl rfl rfl rfl) ?_
    refine AO.nil (ρ' := [(0, (.fz 4 (p0.map e43))), (3, (.own n4 0 x5.length)), (4, (eI64 x6)), (5, (eI64 x7)), (12, (eBool (decide (x7 < ((lget p0 (0 : Int)).f2)))))]) (H' := [(n4, .mem (.ar 1 (x5.map e37)))]) ⟨rfl, rfl, rfl, rfl, rfl, trivial⟩ (Sub.refl _) ?_
    by_cases hc11 : x7 < ((lget p0 (0 : Int)).f2)
    · have h := (if_pos hc11).symm.trans h
      refine AW.condP (x7 < ((lget p0 (0 : Int)).f2)) rfl hc11 ?_
      refine AW.skip (ρ' := [(0, (.fz 4 (p0.map e43))), (3, (.own n4 0 x5.length)), (4, (eI64 x6)), (5, (eI64 x7))]) (H' := [(n4, .mem (.ar 1 (x5.map e37)))]) ⟨rfl, rfl, rfl, rfl, trivial⟩ (Sub.refl _) ?_
      refine AW.seq ?_
      refine AW.block ?_
      refine AW.seq ?_
      refine AW.reg ?_
      refine AO.calm rfl 15 rfl (by decide) (.fz 4 (p0.map e43)) (Calm.move rfl rfl) ?_
      refine AO.calm rfl 16 rfl (by decide) (eI64 x6) (Calm.move rfl rfl) ?_
      obtain ⟨t12, et12, h⟩ := of_bind h
      refine AO.callS [(.fz 4 (p0.map e43)), (eI64 x6)] (eI64 t12) 17 rfl (by decide) ok32 rfl rfl rfl ⟨rfl, rfl, rfl, rfl, trivial⟩ (bosketref31_Size_spec et12) ?_
      refine AO.calm rfl 6 rfl (by decide) (eI64 t12) (Calm.assign rfl rfl) ?_
      refine AO.nil (ρ' := [(0, (.fz 4 (p0.map e43))), (3, (.own n4 0 x5.length)), (4, (eI64 x6)), (5, (eI64 x7)), (6, (eI64 t12))]) (H' := [(n4, .mem (.ar 1 (x5.map e37)))]) ⟨rfl, rfl, rfl, rfl, rfl, trivial⟩ (Sub.refl _) ?_
      refine AW.seq ?_
      refine AW.reg ?_
      refine AO.calm rfl 18 rfl (by decide) (.own n4 0 x5.length) (Calm.move rfl rfl) ?_
      refine AO.calm rfl 19 rfl (by decide) (.fz 4 (p0.map e43)) (Calm.move rfl rfl) ?_
      refine AO.calm rfl 20 rfl (by decide) (eI64 x6) (Calm.move rfl rfl) ?_
      refine AO.calm rfl 21 rfl (by decide) (eI64 x6) (Calm.move rfl rfl) ?_
      refine AO.calm rfl 22 rfl (by decide) (eI64 t12) (Calm.move rfl rfl) ?_
      refine AO.calm rfl 23 rfl (by decide) (eI64 (w64 (x6 + t12))) (Calm.int rfl rfl rfl rfl) ?_
      obtain ⟨hg13, h⟩ := of_guard h
      refine AO.calm rfl 24 rfl (by decide) (.fz 4 ((lcut p0 x6 (w64 (x6 + t12))).map e43)) (Calm.sliceL rfl rfl rfl rfl hg13 Try.underlying37 sz43) ?_
      refine AO.lit (Z := (.fl (.slice none 0 0))) (xs := (([(lcut p0 x6 (w64 (x6 + t12)))] : List (List S43)).map e37)) (qs := [(0, (.fz 4 ((lcut p0 x6 (w64 (x6 + t12))).map e43)))]) rfl 25 rfl (by decide) rfl ⟨rfl, rfl, rfl, trivial⟩ Try.underlying49 sz37 zr37 lay37 rfl (by decide) (litOK (z := 1) [(.fz 4 ((lcut p0 x6 (w64 (x6 + t12))).map e43))] rfl ⟨⟨rfl, rfl⟩, trivial⟩) rfl fun n14 => ?_
      obtain ⟨hg16, h⟩ := of_guard h
      refine AO.appendL (l := x5) (m := ([(lcut p0 x6 (w64 (x6 + t12)))] : List (List S43))) 1 26 rfl (by decide) rfl rfl rfl rfl rfl (Src.ownL (f := e37) (l := ([(lcut p0 x6 (w64 (x6 + t12)))] : List (List S43))) 0 rfl) Try.underlying49 Try.underlying49 sz37 by37 zr37 rfl hg16 (by decide) fun n15 => ?_
      refine AO.calm rfl 3 rfl (by decide) (.own n15 0 (x5 ++ ([(lcut p0 x6 (w64 (x6 + t12)))] : List (List S43))).length) (Calm.assign rfl rfl) ?_
      refine AO.nil (ρ' := [(0, (.fz 4 (p0.map e43))), (3, (.own n15 0 (x5 ++ ([(lcut p0 x6 (w64 (x6 + t12)))] : List (List S43))).length)), (4, (eI64 x6)), (5, (eI64 x7)), (6, (eI64 t12))]) (H' := [(n15, .mem (.ar 1 ((x5 ++ ([(lcut p0 x6 (w64 (x6 + t12)))] : List (List S43))).map e37)))]) ⟨rfl, rfl, rfl, rfl, rfl, trivial⟩ (Sub.cons 1 rfl (Sub.nil _)) ?_
      refine AW.reg ?_
      refine AO.calm rfl 27 rfl (by decide) (eI64 x6) (Calm.move rfl rfl) ?_
      refine AO.calm rfl 28 rfl (by decide) (eI64 t12) (Calm.move rfl rfl) ?_
      refine AO.calm rfl 29 rfl (by decide) (eI64 (w64 (x6 + t12))) (Calm.int rfl rfl rfl rfl) ?_
      refine AO.calm rfl 4 rfl (by decide) (eI64 (w64 (x6 + t12))) (Calm.assign rfl rfl) ?_
      refine AO.nil (ρ' := [(0, (.fz 4 (p0.map e43))), (3, (.own n15 0 (x5 ++ ([(lcut p0 x6 (w64 (x6 + t12)))] : List (List S43))).length)), (4, (eI64 (w64 (x6 + t12)))), (5, (eI64 x7))]) (H' := [(n15, .mem (.ar 1 ((x5 ++ ([(lcut p0 x6 (w64 (x6 + t12)))] : List (List S43))).map e37)))]) ⟨rfl, rfl, rfl, rfl, trivial⟩ (Sub.refl _) ?_
      refine AW.reg ?_
      refine AO.calm rfl 13 rfl (by decide) (eI64 x7) (Calm.move rfl rfl) ?_
      refine AO.calm rfl 14 rfl (by decide) (eI64 (w64 (x7 + (1 : Int)))) (Calm.int rfl rfl rfl rfl) ?_
      refine AO.calm rfl 5 rfl (by decide) (eI64 (w64 (x7 + (1 : Int)))) (Calm.assign rfl rfl) ?_
      refine AO.nil (ρ' := [(0, (.fz 4 (p0.map e43))), (3, (.own n15 0 (x5 ++ ([(lcut p0 x6 (w64 (x6 + t12)))] : List (List S43))).length)), (4, (eI64 (w64 (x6 + t12)))), (5, (eI64 (w64 (x7 + (1 : Int)))))]) (H' := [(n15, .mem (.ar 1 ((x5 ++ ([(lcut p0 x6 (w64 (x6 + t12)))] : List (List S43))).map e37)))]) ⟨rfl, rfl, rfl, rfl, trivial⟩ (Sub.refl _) ?_
      exact ⟨kq9, Nat.lt_succ_self _, n15, (x5 ++ ([(lcut p0 x6 (w64 (x6 + t12)))] : List (List S43))), (w64 (x6 + t12)), (w64 (x7 + (1 : Int))), rfl, rfl, by rw [hrec8]; exact h⟩
    · have h := (if_neg hc11).symm.trans h
      refine AW.condN (x7 < ((lget p0 (0 : Int)).f2)) rfl hc11 ?_
      refine AW.exit (ρ' := [(3, (.own n4 0 x5.length))]) (H' := [(n4, .mem (.ar 1 (x5.map e37)))]) ⟨rfl, trivial⟩ (Sub.refl _) ?_
      exact ⟨n4, x5, rfl, rfl, h⟩
  · rintro _ _ ⟨n2, x3, rfl, rfl, h⟩
    rw [bosketref31_Kids_c0.eq_1] at h
    refine AW.seq ?_
    refine AW.reg ?_
    refine AO.calm rfl 30 rfl (by decide) (.own n2 0 x3.length) (Calm.move rfl rfl) ?_
    refine AO.calm rfl 2 rfl (by decide) (.own n2 0 x3.length) (Calm.assign rfl rfl) ?_
    refine AO.nil (ρ' := [(2, (.own n2 0 x3.length))]) (H' := [(n2, .mem (.ar 1 (x3.map e37)))]) ⟨rfl, trivial⟩ (Sub.refl _) ?_
    refine AW.freezeS 0 [(2, (.fz 1 (x3.map e37)))] rfl ⟨fz_all rfl, trivial⟩ ?_
    refine AW.ret (ρ' := [(2, (.fz 1 (x3.map e37)))]) (H' := []) ⟨rfl, trivial⟩ (Sub.refl _) ?_
    have hr := Option.some.inj h
    subst hr
    exact ⟨[(.fz 1 (x3.map e37))], ⟨rfl, rfl, trivial⟩, rfl⟩
end Go.Avl.T2
/- bosket/bosketref31.Depth; printed by avmain.py. -/
namespace Go.Avl.T2
open Go Go.RowKit Go.Proofs Go.Avl
set_option linter.unusedVariables false
set_option maxRecDepth 100000
set_option maxHeartbeats 4000000
attribute [local irreducible] AW AO AQ Spec SpecH Calm

def bosketref31_Depth_c0 (k : Nat) (x3 : Int) : Option Int :=
  some ((w64 (x3 + (1 : Int))))
def bosketref31_Depth_l1 (k : Nat) (self : ((List S43) → Option Int)) (t2 : (List (List S43))) : Nat → Int → Int → Option Int
  | 0, _, _ => none
  | j + 1, x4, x5 =>
    if x5 < (t2.length : Int) then if 0 ≤ x5 ∧ x5 < (t2.length : Int) then (self (lget t2 x5)).bind fun t10 =>
    (bosketref31_Depth_l1 k self t2 j) (max x4 t10) (w64 (x5 + (1 : Int)))
    else none
    else bosketref31_Depth_c0 k x4
def bosketref31_Depth : Nat → (List S43) → Option Int
  | 0, _ => none
  | k + 1, p0 =>
    (bosketref31_Kids k p0).bind fun t2 =>
    bosketref31_Depth_l1 k (bosketref31_Depth k) t2 k (0 : Int) (0 : Int)
theorem bosketref31_Depth_spec' : ∀ (k : Nat) (p0 : (List S43)) (r : Int), bosketref31_Depth k p0 = some r → Spec Try.prog 36 [(.fz 4 (p0.map e43))] (eI64 r) := by
  intro k
  induction k with
  | zero => intro p0 r h; rw [bosketref31_Depth.eq_1] at h; cases h
  | succ k hself =>
  intro p0 r h
  rw [bosketref31_Depth.eq_2] at h
  generalize hs : bosketref31_Depth k = self at h hself
  refine Spec.intro (res := [.tmp 2]) Try.func36 rfl rfl rfl (Nat.le_of_ble_eq_true rfl) ?_
  refine AW.seq ?_
  refine AW.reg ?_
  refine AO.calm rfl 2 rfl (by decide) (eI64 (0 : Int)) (Calm.assign rfl rfl) ?_
  refine AO.nil (ρ' := [(0, (.fz 4 (p0.map e43)))]) (H' := []) ⟨rfl, trivial⟩ (Sub.refl _) ?_
  refine AW.seq ?_
  refine AW.reg ?_
  refine AO.calm rfl 3 rfl (by decide) (eI64 (0 : Int)) (Calm.assign rfl rfl) ?_
  refine AO.nil (ρ' := [(0, (.fz 4 (p0.map e43))), (3, (eI64 (0 : Int)))]) (H' := []) ⟨rfl, rfl, trivial⟩ (Sub.refl _) ?_
  refine AW.seq ?_
  refine AW.reg ?_
  refine AO.calm rfl 6 rfl (by decide) (.fz 4 (p0.map e43)) (Calm.move rfl rfl) ?_
  obtain ⟨t2, et2, h⟩ := of_bind h
  refine AO.callS [(.fz 4 (p0.map e43))] (.fz 1 (t2.map e37)) 7 rfl (by decide) ok35 rfl rfl rfl ⟨rfl, rfl, trivial⟩ (bosketref31_Kids_spec et2) ?_
  refine AO.calm rfl 4 rfl (by decide) (.fz 1 (t2.map e37)) (Calm.assign rfl rfl) ?_
  refine AO.nil (ρ' := [(3, (eI64 (0 : Int))), (4, (.fz 1 (t2.map e37)))]) (H' := []) ⟨rfl, rfl, trivial⟩ (Sub.refl _) ?_
  refine AW.seq_mid (fun ρ H => ∃ (x3 : Int), ρ = [(3, (eI64 x3))] ∧ H = [] ∧ bosketref31_Depth_c0 k x3 = some r) ?_ ?_
  · refine AW.seq ?_
    refine AW.reg ?_
    refine AO.calm rfl 5 rfl (by decide) (eI64 (0 : Int)) (Calm.assign rfl rfl) ?_
    refine AO.nil (ρ' := [(3, (eI64 (0 : Int))), (4, (.fz 1 (t2.map e37))), (5, (eI64 (0 : Int)))]) (H' := []) ⟨rfl, rfl, rfl, trivial⟩ (Sub.refl _) ?_
    refine AW.block ?_
    refine AW.weak (ρ' := [(3, (eI64 (0 : Int))), (4, (.fz 1 (t2.map e37))), (5, (eI64 (0 : Int)))]) (H' := []) ⟨rfl, rfl, rfl, trivial⟩ (Sub.refl _) ?_
    refine AW.loop (fun kq ρ H => ∃ (x4 : Int) (x5 : Int), ρ = [(3, (eI64 x4)), (4, (.fz 1 (t2.map e37))), (5, (eI64 x5))] ∧ H = [] ∧ bosketref31_Depth_l1 k self t2 kq x4 x5 = some r) k ⟨(0 : Int), (0 : Int), rfl, rfl, h⟩ ?_
    rintro kq7 _ _ ⟨x4, x5, rfl, rfl, h⟩
    cases kq7 with
    | zero => rw [bosketref31_Depth_l1.eq_1] at h; cases h
    | succ kq7 =>
    rw [bosketref31_Depth_l1.eq_2] at h
    generalize hrec6 : bosketref31_Depth_l1 k self t2 kq7 = rec6 at h
    refine AW.seq ?_
    refine AW.seq ?_
    refine AW.reg ?_
    refine AO.calm rfl 8 rfl (by decide) (eI64 x5) (Calm.move rfl rfl) ?_
    refine AO.calm rfl 9 rfl (by decide) (.fz 1 (t2.map e37)) (Calm.move rfl rfl) ?_
    refine AO.calm rfl 10 rfl (by decide) (eI64 (t2.length : Int)) (Calm.lenL rfl rfl Try.underlying49) ?_
    refine AO.calm rfl 11 rfl (by decide) (eBool (decide (x5 < (t2.length : Int)))) (Calm.int rfl rfl rfl rfl) ?_
    refine AO.nil (ρ' := [(3, (eI64 x4)), (4, (.fz 1 (t2.map e37))), (5, (eI64 x5)), (11, (eBool (decide (x5 < (t2.length : Int)))))]) (H' := []) ⟨rfl, rfl, rfl, rfl, trivial⟩ (Sub.refl _) ?_
    by_cases hc8 : x5 < (t2.length : Int)
    · have h := (if_pos hc8).symm.trans h
      refine AW.condP (x5 < (t2.length : Int)) rfl hc8 ?_
      refine AW.skip (ρ' := [(3, (eI64 x4)), (4, (.fz 1 (t2.map e37))), (5, (eI64 x5))]) (H' := []) ⟨rfl, rfl, rfl, trivial⟩ (Sub.refl _) ?_
      refine AW.seq ?_
      refine AW.block ?_
      refine AW.reg ?_
      refine AO.calm rfl 14 rfl (by decide) (eI64 x4) (Calm.move rfl rfl) ?_
      refine AO.calm rfl 15 rfl (by decide) (.fz 1 (t2.map e37)) (Calm.move rfl rfl) ?_
      refine AO.calm rfl 16 rfl (by decide) (eI64 x5) (Calm.move rfl rfl) ?_
      obtain ⟨hg9, h⟩ := of_guard h
      refine AO.calm rfl 17 rfl (by decide) (.rp (.fz 4 ((lget t2 x5).map e43))) (Calm.idxL (f := e37) rfl rfl rfl hg9 Try.underlying49 sz37) ?_
      refine AO.calm rfl 18 rfl (by decide) (.fz 4 ((lget t2 x5).map e43)) (Calm.loadRp rfl rfl ag37 sz37) ?_
      obtain ⟨t10, et10, h⟩ := of_bind h
      refine AO.callS [(.fz 4 ((lget t2 x5).map e43))] (eI64 t10) 19 rfl (by decide) ok36 rfl rfl rfl ⟨rfl, rfl, trivial⟩ (hself _ _ et10) ?_
      refine AO.calm rfl 20 rfl (by decide) (eI64 (max x4 t10)) (Calm.max2 rfl rfl rfl) ?_
      refine AO.calm rfl 3 rfl (by decide) (eI64 (max x4 t10)) (Calm.assign rfl rfl) ?_
      refine AO.nil (ρ' := [(3, (eI64 (max x4 t10))), (4, (.fz 1 (t2.map e37))), (5, (eI64 x5))]) (H' := []) ⟨rfl, rfl, rfl, trivial⟩ (Sub.refl _) ?_
      refine AW.reg ?_
      refine AO.calm rfl 12 rfl (by decide) (eI64 x5) (Calm.move rfl rfl) ?_
      refine AO.calm rfl 13 rfl (by decide) (eI64 (w64 (x5 + (1 : Int)))) (Calm.int rfl rfl rfl rfl) ?_
      refine AO.calm rfl 5 rfl (by decide) (eI64 (w64 (x5 + (1 : Int)))) (Calm.assign rfl rfl) ?_
      refine AO.nil (ρ' := [(3, (eI64 (max x4 t10))), (4, (.fz 1 (t2.map e37))), (5, (eI64 (w64 (x5 + (1 : Int)))))]) (H' := []) ⟨rfl, rfl, rfl, trivial⟩ (Sub.refl _) ?_
      exact ⟨kq7, Nat.lt_succ_self _, (max x4 t10), (w64 (x5 + (1 : Int))), rfl, rfl, by rw [hrec6]; exact h⟩
    · have h := (if_neg hc8).symm.trans h
      refine AW.condN (x5 < (t2.length : Int)) rfl hc8 ?_
      refine AW.exit (ρ' := [(3, (eI64 x4))]) (H' := []) ⟨rfl, trivial⟩ (Sub.refl _) ?_
      exact ⟨x4, rfl, rfl, h⟩
  · rintro _ _ ⟨x3, rfl, rfl, h⟩
    rw [bosketref31_Depth_c0.eq_1] at h
    refine AW.seq ?_
    refine AW.reg ?_
    refine AO.calm rfl 21 rfl (by decide) (eI64 x3) (Calm.move rfl rfl) ?_
    refine AO.calm rfl 22 rfl (by decide) (eI64 (w64 (x3 + (1 : Int)))) (Calm.int rfl rfl rfl rfl) ?_
    refine AO.calm rfl 2 rfl (by decide) (eI64 (w64 (x3 + (1 : Int)))) (Calm.assign rfl rfl) ?_
    refine AO.nil (ρ' := [(2, (eI64 (w64 (x3 + (1 : Int)))))]) (H' := []) ⟨rfl, trivial⟩ (Sub.refl _) ?_
    refine AW.ret (ρ' := [(2, (eI64 (w64 (x3 + (1 : Int)))))]) (H' := []) ⟨rfl, trivial⟩ (Sub.refl _) ?_
    have hr := Option.some.inj h
    subst hr
    exact ⟨[(eI64 (w64 (x3 + (1 : Int))))], ⟨rfl, rfl, trivial⟩, rfl⟩
theorem bosketref31_Depth_spec {k : Nat} {p0 : (List S43)} {r : Int} (h : bosketref31_Depth k p0 = some r) : Spec Try.prog 36 [(.fz 4 (p0.map e43))] (eI64 r) := bosketref31_Depth_spec' k p0 r h
end Go.Avl.T2
/- bosket/bosketref31.Same; printed by avmain.py. -/
namespace Go.Avl.T2
open Go Go.RowKit Go.Proofs Go.Avl
set_option linter.unusedVariables false
set_option maxRecDepth 100000
set_option maxHeartbeats 4000000
attribute [local irreducible] AW AO AQ Spec SpecH Calm

def bosketref31_Same_c0 (k : Nat) : Option Bool :=
  some (true)
def bosketref31_Same_l1 (k : Nat) (p0 : (List S43)) (p1 : (List S43)) : Nat → Int → Option Bool
  | 0, _ => none
  | j + 1, x4 =>
    if x4 < (p0.length : Int) then if 0 ≤ x4 ∧ x4 < (p0.length : Int) then if 0 ≤ x4 ∧ x4 < (p1.length : Int) then if (!(decide ((lget p0 x4) = (lget p1 x4)))) = true then some (false)
    else (bosketref31_Same_l1 k p0 p1 j) (w64 (x4 + (1 : Int)))
    else none
    else none
    else bosketref31_Same_c0 k
def bosketref31_Same (k : Nat) (p0 : (List S43)) (p1 : (List S43)) : Option Bool :=
  if (p0.length : Int) ≠ (p1.length : Int) then some (false)
  else bosketref31_Same_l1 k p0 p1 k (0 : Int)
theorem bosketref31_Same_spec {k : Nat} {p0 : (List S43)} {p1 : (List S43)} {r : Bool} (h : bosketref31_Same k p0 p1 = some r) : Spec Try.prog 27 [(.fz 4 (p0.map e43)), (.fz 4 (p1.map e43))] (eBool r) := by
  rw [bosketref31_Same.eq_1] at h
  refine Spec.intro (res := [.tmp 4]) Try.func27 rfl rfl rfl (Nat.le_of_ble_eq_true rfl) ?_
  refine AW.seq ?_
  refine AW.reg ?_
  refine AO.calm rfl 4 rfl (by decide) (eBool false) (Calm.assign rfl rfl) ?_
  refine AO.nil (ρ' := [(0, (.fz 4 (p0.map e43))), (1, (.fz 4 (p1.map e43)))]) (H' := []) ⟨rfl, rfl, trivial⟩ (Sub.refl _) ?_
  refine AW.seq ?_
  refine AW.seq ?_
  refine AW.reg ?_
  refine AO.calm rfl 6 rfl (by decide) (.fz 4 (p0.map e43)) (Calm.move rfl rfl) ?_
  refine AO.calm rfl 7 rfl (by decide) (eI64 (p0.length : Int)) (Calm.lenL rfl rfl Try.underlying37) ?_
  refine AO.calm rfl 8 rfl (by decide) (.fz 4 (p1.map e43)) (Calm.move rfl rfl) ?_
  refine AO.calm rfl 9 rfl (by decide) (eI64 (p1.length : Int)) (Calm.lenL rfl rfl Try.underlying37) ?_
  refine AO.calm rfl 10 rfl (by decide) (eBool (decide ((p0.length : Int) ≠ (p1.length : Int)))) (Calm.int rfl rfl rfl rfl) ?_
  refine AO.nil (ρ' := [(0, (.fz 4 (p0.map e43))), (1, (.fz 4 (p1.map e43))), (10, (eBool (decide ((p0.length : Int) ≠ (p1.length : Int)))))]) (H' := []) ⟨rfl, rfl, rfl, trivial⟩ (Sub.refl _) ?_
  by_cases hc3 : (p0.length : Int) ≠ (p1.length : Int)
  · have h := (if_pos hc3).symm.trans h
    refine AW.condP ((p0.length : Int) ≠ (p1.length : Int)) rfl hc3 ?_
    refine AW.seq ?_
    refine AW.reg ?_
    refine AO.calm rfl 4 rfl (by decide) (eBool false) (Calm.assign rfl rfl) ?_
    refine AO.nil (ρ' := [(4, (eBool false))]) (H' := []) ⟨rfl, trivial⟩ (Sub.refl _) ?_
    refine AW.ret (ρ' := [(4, (eBool false))]) (H' := []) ⟨rfl, trivial⟩ (Sub.refl _) ?_
    have hr := Option.some.inj h
    subst hr
    exact ⟨[(eBool false)], ⟨rfl, rfl, trivial⟩, rfl⟩
  · have h := (if_neg hc3).symm.trans h
    refine AW.condN ((p0.length : Int) ≠ (p1.length : Int)) rfl hc3 ?_
    refine AW.skip (ρ' := [(0, (.fz 4 (p0.map e43))), (1, (.fz 4 (p1.map e43)))]) (H' := []) ⟨rfl, rfl, trivial⟩ (Sub.refl _) ?_
    refine AW.seq_mid (fun ρ H => ρ = [] ∧ H = [] ∧ bosketref31_Same_c0 k = some r) ?_ ?_
    · refine AW.seq ?_
      refine AW.reg ?_
      refine AO.calm rfl 5 rfl (by decide) (eI64 (0 : Int)) (Calm.assign rfl rfl) ?_
      refine AO.nil (ρ' := [(0, (.fz 4 (p0.map e43))), (1, (.fz 4 (p1.map e43))), (5, (eI64 (0 : Int)))]) (H' := []) ⟨rfl, rfl, rfl, trivial⟩ (Sub.refl _) ?_
      refine AW.block ?_
      refine AW.weak (ρ' := [(0, (.fz 4 (p0.map e43))), (1, (.fz 4 (p1.map e43))), (5, (eI64 (0 : Int)))]) (H' := []) ⟨rfl, rfl, rfl, trivial⟩ (Sub.refl _) ?_
      refine AW.loop (fun kq ρ H => ∃ (x4 : Int), ρ = [(0, (.fz 4 (p0.map e43))), (1, (.fz 4 (p1.map e43))), (5, (eI64 x4))] ∧ H = [] ∧ bosketref31_Same_l1 k p0 p1 kq x4 = some r) k ⟨(0 : Int), rfl, rfl, h⟩ ?_
      rintro kq6 _ _ ⟨x4, rfl, rfl, h⟩
      cases kq6 with
      | zero => rw [bosketref31_Same_l1.eq_1] at h; cases h
      | succ kq6 =>
      rw [bosketref31_Same_l1.eq_2] at h
      generalize hrec5 : bosketref31_Same_l1 k p0 p1 kq6 = rec5 at h
      refine AW.seq ?_
      refine AW.seq ?_
      refine AW.reg ?_
      refine AO.calm rfl 11 rfl (by decide) (eI64 x4) (Calm.move rfl rfl) ?_
      refine AO.calm rfl 12 rfl (by decide) (.fz 4 (p0.map e43)) (Calm.move rfl rfl) ?_
      refine AO.calm rfl 13 rfl (by decide) (eI64 (p0.length : Int)) (Calm.lenL rfl rfl Try.underlying37) ?_
      refine AO.calm rfl 14 rfl (by decide) (eBool (decide (x4 < (p0.length : Int)))) (Calm.int rfl rfl rfl rfl) ?_
      refine AO.nil (ρ' := [(0, (.fz 4 (p0.map e43))), (1, (.fz 4 (p1.map e43))), (5, (eI64 x4)), (14, (eBool (decide (x4 < (p0.length : Int)))))]) (H' := []) ⟨rfl, rfl, rfl, rfl, trivial⟩ (Sub.refl _) ?_
      by_cases hc7 : x4 < (p0.length : Int)
      · have h := (if_pos hc7).symm.trans h
        refine AW.condP (x4 < (p0.length : Int)) rfl hc7 ?_
        refine AW.skip (ρ' := [(0, (.fz 4 (p0.map e43))), (1, (.fz 4 (p1.map e43))), (5, (eI64 x4))]) (H' := []) ⟨rfl, rfl, rfl, trivial⟩ (Sub.refl _) ?_
        refine AW.seq ?_
        refine AW.block ?_
        refine AW.seq ?_
        refine AW.regQ (by rfl) (by decide +kernel) ?_
        refine AQ.calm rfl 17 rfl (by decide) (.fz 4 (p0.map e43)) (Calm.move rfl rfl) ?_
        refine AQ.calm rfl 18 rfl (by decide) (eI64 x4) (Calm.move rfl rfl) ?_
        obtain ⟨hg8, h⟩ := of_guard h
        refine AQ.calm rfl 19 rfl (by decide) (.rp (e43 (lget p0 x4))) (Calm.idxL (f := e43) rfl rfl rfl hg8 Try.underlying37 sz43) ?_
        refine AQ.calm rfl 20 rfl (by decide) (e43 (lget p0 x4)) (Calm.loadRp rfl rfl ag43 sz43) ?_
        refine AQ.calm rfl 21 rfl (by decide) (.fz 4 (p1.map e43)) (Calm.move rfl rfl) ?_
        refine AQ.calm rfl 22 rfl (by decide) (eI64 x4) (Calm.move rfl rfl) ?_
        obtain ⟨hg9, h⟩ := of_guard h
        refine AQ.calm rfl 23 rfl (by decide) (.rp (e43 (lget p1 x4))) (Calm.idxL (f := e43) rfl rfl rfl hg9 Try.underlying37 sz43) ?_
        refine AQ.calm rfl 24 rfl (by decide) (e43 (lget p1 x4)) (Calm.loadRp rfl rfl ag43 sz43) ?_
        refine AQ.calm rfl 25 rfl (by decide) (eBool (!(decide ((lget p0 x4) = (lget p1 x4))))) (Calm.neS rfl rfl rfl eg43 (eqk43 (lget p0 x4) (lget p1 x4)) (by decide)) ?_
        refine AQ.nil (ρ' := [(0, (.fz 4 (p0.map e43))), (1, (.fz 4 (p1.map e43))), (5, (eI64 x4)), (25, (eBool (!(decide ((lget p0 x4) = (lget p1 x4))))))]) ⟨rfl, rfl, rfl, rfl, trivial⟩ ?_
        by_cases hc10 : (!(decide ((lget p0 x4) = (lget p1 x4)))) = true
        · have h := (if_pos hc10).symm.trans h
          refine AW.condT' (!(decide ((lget p0 x4) = (lget p1 x4)))) rfl hc10 ?_
          refine AW.seq ?_
          refine AW.reg ?_
          refine AO.calm rfl 4 rfl (by decide) (eBool false) (Calm.assign rfl rfl) ?_
          refine AO.nil (ρ' := [(4, (eBool false))]) (H' := []) ⟨rfl, trivial⟩ (Sub.refl _) ?_
          refine AW.ret (ρ' := [(4, (eBool false))]) (H' := []) ⟨rfl, trivial⟩ (Sub.refl _) ?_
          have hr := Option.some.inj h
          subst hr
          exact ⟨[(eBool false)], ⟨rfl, rfl, trivial⟩, rfl⟩
        · have h := (if_neg hc10).symm.trans h
          refine AW.condF' (!(decide ((lget p0 x4) = (lget p1 x4)))) rfl hc10 ?_
          refine AW.skip (ρ' := [(0, (.fz 4 (p0.map e43))), (1, (.fz 4 (p1.map e43))), (5, (eI64 x4))]) (H' := []) ⟨rfl, rfl, rfl, trivial⟩ (Sub.refl _) ?_
          refine AW.reg ?_
          refine AO.calm rfl 15 rfl (by decide) (eI64 x4) (Calm.move rfl rfl) ?_
          refine AO.calm rfl 16 rfl (by decide) (eI64 (w64 (x4 + (1 : Int)))) (Calm.int rfl rfl rfl rfl) ?_
          refine AO.calm rfl 5 rfl (by decide) (eI64 (w64 (x4 + (1 : Int)))) (Calm.assign rfl rfl) ?_
          refine AO.nil (ρ' := [(0, (.fz 4 (p0.map e43))), (1, (.fz 4 (p1.map e43))), (5, (eI64 (w64 (x4 + (1 : Int)))))]) (H' := []) ⟨rfl, rfl, rfl, trivial⟩ (Sub.refl _) ?_
          exact ⟨kq6, Nat.lt_succ_self _, (w64 (x4 + (1 : Int))), rfl, rfl, by rw [hrec5]; exact h⟩
      · have h := (if_neg hc7).symm.trans h
        refine AW.condN (x4 < (p0.length : Int)) rfl hc7 ?_
        refine AW.exit (ρ' := []) (H' := []) trivial (Sub.refl _) ?_
        exact ⟨rfl, rfl, h⟩
    · rintro _ _ ⟨rfl, rfl, h⟩
      rw [bosketref31_Same_c0.eq_1] at h
      refine AW.seq ?_
      refine AW.reg ?_
      refine AO.calm rfl 4 rfl (by decide) (eBool true) (Calm.assign rfl rfl) ?_
      refine AO.nil (ρ' := [(4, (eBool true))]) (H' := []) ⟨rfl, trivial⟩ (Sub.refl _) ?_
      refine AW.ret (ρ' := [(4, (eBool true))]) (H' := []) ⟨rfl, trivial⟩ (Sub.refl _) ?_
      have hr := Option.some.inj h
      subst hr
      exact ⟨[(eBool true)], ⟨rfl, rfl, trivial⟩, rfl⟩
end Go.Avl.T2
