/- Parts: T2f8. -/
import Derived.Test.YtmgiffbobkgcmaaAF1
import Derived.Test.YtmgiffbobkgcmaaAF7
import Derived.Test.YtmgiffbobkgcmaaAF6
/- bosket/bosketlaw47.OpLines; printed by avmain.py. -/
namespace Go.Avl.T2
open Go Go.RowKit Go.Proofs Go.Avl
set_option linter.unusedVariables false
set_option maxRecDepth 100000
set_option maxHeartbeats 4000000
attribute [local irreducible] AW AO AQ Spec SpecH Calm

def bosketlaw47_OpLines (k : Nat) (p0 : S55) : Option Bool :=
  (bosketlaw47_awake k).bind fun t3 =>
  if (!t3) = true then some (false)
  else if (600 : Int) < (p0.f2.size : Int) then some (true)
  else (op_Form k p0.f0).bind fun t6 =>
  (bosketref47_Form k p0.f0).bind fun t7 =>
  (_op_Op_Line k p0).bind fun t8 =>
  Option.bind (α := Bool) (if t6.1 ≠ t7.1 then some (true)
  else if (t6.2.1 != t7.2.1) = true then some (true)
  else if (t6.2.2 != t7.2.2) = true then some (true)
  else (_op_Op_Right k p0).bind fun t14 =>
  (bosketlaw47_Ref k p0).bind fun t15 =>
  (bosketref47_Right k t15).bind fun t16 =>
  if (t14 != t16) = true then some (true)
  else (bosketlaw47_Ref k p0).bind fun t18 =>
  (bosketref47_Line k t18).bind fun t19 =>
  some (decide (t8 ≠ t19))) fun b9 =>
  if b9 = true then some (false)
  else (_op_Op_Right k p0).bind fun t21 =>
  if (!t21) = true then some (decide (t8 = (ByteArray.mk #[])))
  else (op_Read k t8).bind fun t23 =>
  Option.bind (α := Bool) (if t23.2 = (0 : Int) then if t23.1 = p0 then (op_Kind k t6.1).bind fun t29 =>
  some (decide (t29 = p0.f0))
  else some (false)
  else some (false)) fun b25 =>
  some (b25)
theorem bosketlaw47_OpLines_spec {k : Nat} {p0 : S55} {r : Bool} (h : bosketlaw47_OpLines k p0 = some r) : Spec Try.prog 8 [(e55 p0)] (eBool r) := by
  rw [bosketlaw47_OpLines.eq_1] at h
  refine Spec.intro (res := [.tmp 2]) Try.func8 rfl rfl rfl (Nat.le_of_ble_eq_true rfl) ?_
  refine AW.seq ?_
  refine AW.reg ?_
  refine AO.box rfl 1 rfl (by decide) rfl rfl rfl fun n2 => ?_
  refine AO.calm rfl 2 rfl (by decide) (eBool false) (Calm.assign rfl rfl) ?_
  refine AO.nil (ρ' := [(1, (.ptr n2 0))]) (H' := [(n2, .mem (e55 p0))]) ⟨rfl, trivial⟩ (Sub.refl _) ?_
  refine AW.seq ?_
  refine AW.seq ?_
  refine AW.reg ?_
  obtain ⟨t3, et3, h⟩ := of_bind h
  refine AO.callS [] (eBool t3) 12 rfl (by decide) ok39 rfl rfl rfl trivial (bosketlaw47_awake_spec et3) ?_
  refine AO.calm rfl 13 rfl (by decide) (eBool (!t3)) (Calm.not rfl rfl) ?_
  refine AO.nil (ρ' := [(1, (.ptr n2 0)), (13, (eBool (!t3)))]) (H' := [(n2, .mem (e55 p0))]) ⟨rfl, rfl, trivial⟩ (Sub.refl _) ?_
  by_cases hc4 : (!t3) = true
  · have h := (if_pos hc4).symm.trans h
    refine AW.condT' (!t3) rfl hc4 ?_
    refine AW.seq ?_
    refine AW.reg ?_
    refine AO.calm rfl 2 rfl (by decide) (eBool false) (Calm.assign rfl rfl) ?_
    refine AO.nil (ρ' := [(2, (eBool false))]) (H' := []) ⟨rfl, trivial⟩ (Sub.nil _) ?_
    refine AW.ret (ρ' := [(2, (eBool false))]) (H' := []) ⟨rfl, trivial⟩ (Sub.refl _) ?_
    have hr := Option.some.inj h
    subst hr
    exact ⟨[(eBool false)], ⟨rfl, rfl, trivial⟩, rfl⟩
  · have h := (if_neg hc4).symm.trans h
    refine AW.condF' (!t3) rfl hc4 ?_
    refine AW.skip (ρ' := [(1, (.ptr n2 0))]) (H' := [(n2, .mem (e55 p0))]) ⟨rfl, trivial⟩ (Sub.refl _) ?_
    refine AW.seq ?_
    refine AW.seq ?_
    refine AW.reg ?_
    refine AO.calm rfl 14 rfl (by decide) (.ptr n2 2) (Calm.fldPtr rfl rfl Try.underlying55 rfl sz9 _ rfl) ?_
    refine AO.calm rfl 15 rfl (by decide) (eStr p0.f2) (Calm.load 0 rfl rfl rfl (At.cast (At.fldS (At.fldS (At.fld0 At.here))) rfl) ag9 sz9) ?_
    refine AO.calm rfl 16 rfl (by decide) (eI64 (p0.f2.size : Int)) (Calm.lenStr rfl rfl Try.underlying9) ?_
    refine AO.calm rfl 17 rfl (by decide) (eBool (decide ((600 : Int) < (p0.f2.size : Int)))) (Calm.int rfl rfl rfl rfl) ?_
    refine AO.nil (ρ' := [(1, (.ptr n2 0)), (17, (eBool (decide ((600 : Int) < (p0.f2.size : Int)))))]) (H' := [(n2, .mem (e55 p0))]) ⟨rfl, rfl, trivial⟩ (Sub.refl _) ?_
    by_cases hc5 : (600 : Int) < (p0.f2.size : Int)
    · have h := (if_pos hc5).symm.trans h
      refine AW.condP ((600 : Int) < (p0.f2.size : Int)) rfl hc5 ?_
      refine AW.seq ?_
      refine AW.reg ?_
      refine AO.calm rfl 2 rfl (by decide) (eBool true) (Calm.assign rfl rfl) ?_
      refine AO.nil (ρ' := [(2, (eBool true))]) (H' := []) ⟨rfl, trivial⟩ (Sub.nil _) ?_
      refine AW.ret (ρ' := [(2, (eBool true))]) (H' := []) ⟨rfl, trivial⟩ (Sub.refl _) ?_
      have hr := Option.some.inj h
      subst hr
      exact ⟨[(eBool true)], ⟨rfl, rfl, trivial⟩, rfl⟩
    · have h := (if_neg hc5).symm.trans h
      refine AW.condN ((600 : Int) < (p0.f2.size : Int)) rfl hc5 ?_
      refine AW.skip (ρ' := [(1, (.ptr n2 0))]) (H' := [(n2, .mem (e55 p0))]) ⟨rfl, trivial⟩ (Sub.refl _) ?_
      refine AW.seq ?_
      refine AW.reg ?_
      refine AO.calm rfl 19 rfl (by decide) (.ptr n2 0) (Calm.fldPtr rfl rfl Try.underlying55 rfl sz3 _ rfl) ?_
      refine AO.calm rfl 20 rfl (by decide) (eI64 p0.f0) (Calm.load 0 rfl rfl rfl (At.cast (At.fld0 At.here) rfl) ag3 sz3) ?_
      obtain ⟨t6, et6, h⟩ := of_bind h
      refine AO.callS [(eI64 p0.f0)] (.tup [(eStr t6.1), (eBool t6.2.1), (eBool t6.2.2)]) 21 rfl (by decide) ok40 rfl rfl rfl ⟨rfl, rfl, trivial⟩ (op_Form_spec et6) ?_
      refine AO.calm rfl 18 rfl (by decide) (.tup [(eStr t6.1), (eBool t6.2.1), (eBool t6.2.2)]) (Calm.move rfl rfl) ?_
      refine AO.calm rfl 22 rfl (by decide) (eStr t6.1) (Calm.extract rfl rfl rfl) ?_
      refine AO.calm rfl 23 rfl (by decide) (eBool t6.2.1) (Calm.extract rfl rfl rfl) ?_
      refine AO.calm rfl 24 rfl (by decide) (eBool t6.2.2) (Calm.extract rfl rfl rfl) ?_
      refine AO.calm rfl 3 rfl (by decide) (eStr t6.1) (Calm.assign rfl rfl) ?_
      refine AO.calm rfl 4 rfl (by decide) (eBool t6.2.1) (Calm.assign rfl rfl) ?_
      refine AO.calm rfl 5 rfl (by decide) (eBool t6.2.2) (Calm.assign rfl rfl) ?_
      refine AO.nil (ρ' := [(1, (.ptr n2 0)), (3, (eStr t6.1)), (4, (eBool t6.2.1)), (5, (eBool t6.2.2))]) (H' := [(n2, .mem (e55 p0))]) ⟨rfl, rfl, rfl, rfl, trivial⟩ (Sub.refl _) ?_
      refine AW.seq ?_
      refine AW.reg ?_
      refine AO.calm rfl 26 rfl (by decide) (.ptr n2 0) (Calm.fldPtr rfl rfl Try.underlying55 rfl sz3 _ rfl) ?_
      refine AO.calm rfl 27 rfl (by decide) (eI64 p0.f0) (Calm.load 0 rfl rfl rfl (At.cast (At.fld0 At.here) rfl) ag3 sz3) ?_
      obtain ⟨t7, et7, h⟩ := of_bind h
      refine AO.callS [(eI64 p0.f0)] (.tup [(eStr t7.1), (eBool t7.2.1), (eBool t7.2.2)]) 28 rfl (by decide) ok41 rfl rfl rfl ⟨rfl, rfl, trivial⟩ (bosketref47_Form_spec et7) ?_
      refine AO.calm rfl 25 rfl (by decide) (.tup [(eStr t7.1), (eBool t7.2.1), (eBool t7.2.2)]) (Calm.move rfl rfl) ?_
      refine AO.calm rfl 29 rfl (by decide) (eStr t7.1) (Calm.extract rfl rfl rfl) ?_
      refine AO.calm rfl 30 rfl (by decide) (eBool t7.2.1) (Calm.extract rfl rfl rfl) ?_
      refine AO.calm rfl 31 rfl (by decide) (eBool t7.2.2) (Calm.extract rfl rfl rfl) ?_
      refine AO.calm rfl 6 rfl (by decide) (eStr t7.1) (Calm.assign rfl rfl) ?_
      refine AO.calm rfl 7 rfl (by decide) (eBool t7.2.1) (Calm.assign rfl rfl) ?_
      refine AO.calm rfl 8 rfl (by decide) (eBool t7.2.2) (Calm.assign rfl rfl) ?_
      refine AO.nil (ρ' := [(1, (.ptr n2 0)), (3, (eStr t6.1)), (4, (eBool t6.2.1)), (5, (eBool t6.2.2)), (6, (eStr t7.1)), (7, (eBool t7.2.1)), (8, (eBool t7.2.2))]) (H' := [(n2, .mem (e55 p0))]) ⟨rfl, rfl, rfl, rfl, rfl, rfl, rfl, trivial⟩ (Sub.refl _) ?_
      refine AW.seq ?_
      refine AW.reg ?_
      refine AO.calm rfl 32 rfl (by decide) (e55 p0) (Calm.load 0 rfl rfl rfl (At.cast At.here rfl) ag55 sz55) ?_
      obtain ⟨t8, et8, h⟩ := of_bind h
      refine AO.callS [(e55 p0)] (eStr t8) 33 rfl (by decide) ok42 rfl rfl rfl ⟨rfl, rfl, trivial⟩ (_op_Op_Line_spec et8) ?_
      refine AO.calm rfl 9 rfl (by decide) (eStr t8) (Calm.assign rfl rfl) ?_
      refine AO.nil (ρ' := [(1, (.ptr n2 0)), (3, (eStr t6.1)), (4, (eBool t6.2.1)), (5, (eBool t6.2.2)), (6, (eStr t7.1)), (7, (eBool t7.2.1)), (8, (eBool t7.2.2)), (9, (eStr t8))]) (H' := [(n2, .mem (e55 p0))]) ⟨rfl, rfl, rfl, rfl, rfl, rfl, rfl, rfl, trivial⟩ (Sub.refl _) ?_
      refine AW.seq ?_
      refine AW.seq ?_
      obtain ⟨b9, hq10, h⟩ := of_bind h
      refine AW.toM [(1, (.ptr n2 0)), (3, (eStr t6.1)), (9, (eStr t8)), (61, (eBool b9))] [(n2, .mem (e55 p0))] ?_ ?_
      · by_cases hc11 : t6.1 ≠ t7.1
        · have hq10 := (if_pos hc11).symm.trans hq10
          refine AW.regAny (by rfl) (by decide +kernel) [(eStr t6.1), (eStr t7.1), (eBool (decide (t6.1 ≠ t7.1))), (eBool (decide (t6.1 ≠ t7.1))), (.fl undef), (.fl undef), (.fl undef), (eBool true), (eBool true), (.fl undef), (.fl undef), (.fl undef), (eBool true), (eBool true), (.fl undef), (.fl undef), (.fl undef), (.fl undef), (.fl undef), (.fl undef), (eBool true), (eBool true), (.fl undef), (.fl undef), (.fl undef), (.fl undef), (.fl undef), (eBool true)] [(1, (.ptr n2 0)), (3, (eStr t6.1)), (4, (eBool t6.2.1)), (5, (eBool t6.2.2)), (6, (eStr t7.1)), (7, (eBool t7.2.1)), (8, (eBool t7.2.2)), (9, (eStr t8))] ⟨rfl, rfl, rfl, rfl, rfl, rfl, rfl, rfl, trivial⟩ rfl ?_ [(1, (.ptr n2 0)), (3, (eStr t6.1)), (9, (eStr t8)), (61, (eBool true))] [(n2, .mem (e55 p0))] ⟨rfl, rfl, rfl, rfl, trivial⟩ (Sub.refl _) ?_
          · refine ⟨?_, ?_, ?_, ?_, ?_, ?_, ?_, ?_, ?_, ?_, ?_, ?_, ?_, ?_, ?_, ?_, ?_, ?_, ?_, ?_, ?_, ?_, ?_, ?_, ?_, ?_, ?_, ?_, trivial⟩
            · refine AO.weak (ρ' := [(3, (eStr t6.1))]) (H' := [(n2, .mem (e55 p0))]) ⟨rfl, trivial⟩ (Sub.refl _) ?_
              refine AO.calm rfl 34 rfl (by decide) (eStr t6.1) (Calm.move rfl rfl) ?_
              exact AO.nilE (ρ' := [(34, (eStr t6.1))]) (H' := [(n2, .mem (e55 p0))]) ⟨⟨_, rfl, rfl⟩, Sub.refl _⟩ ⟨rfl, trivial⟩ (Sub.refl _)
            · refine AO.weak (ρ' := [(6, (eStr t7.1))]) (H' := [(n2, .mem (e55 p0))]) ⟨rfl, trivial⟩ (Sub.refl _) ?_
              refine AO.calm rfl 35 rfl (by decide) (eStr t7.1) (Calm.move rfl rfl) ?_
              exact AO.nilE (ρ' := [(35, (eStr t7.1))]) (H' := [(n2, .mem (e55 p0))]) ⟨⟨_, rfl, rfl⟩, Sub.refl _⟩ ⟨rfl, trivial⟩ (Sub.refl _)
            · refine AO.weak (ρ' := [(34, (eStr t6.1)), (35, (eStr t7.1))]) (H' := [(n2, .mem (e55 p0))]) ⟨rfl, rfl, trivial⟩ (Sub.refl _) ?_
              refine AO.calm rfl 36 rfl (by decide) (eBool (decide (t6.1 ≠ t7.1))) (Calm.str rfl rfl rfl rfl) ?_
              exact AO.nilE (ρ' := [(36, (eBool (decide (t6.1 ≠ t7.1))))]) (H' := [(n2, .mem (e55 p0))]) ⟨⟨_, rfl, rfl⟩, Sub.refl _⟩ ⟨rfl, trivial⟩ (Sub.refl _)
            · refine AO.weak (ρ' := [(36, (eBool (decide (t6.1 ≠ t7.1))))]) (H' := [(n2, .mem (e55 p0))]) ⟨rfl, trivial⟩ (Sub.refl _) ?_
              refine AO.calm rfl 37 rfl (by decide) (eBool (decide (t6.1 ≠ t7.1))) (Calm.move rfl rfl) ?_
              exact AO.nilE (ρ' := [(37, (eBool (decide (t6.1 ≠ t7.1))))]) (H' := [(n2, .mem (e55 p0))]) ⟨⟨_, rfl, rfl⟩, Sub.refl _⟩ ⟨rfl, trivial⟩ (Sub.refl _)
            · refine AO.weak (ρ' := [(37, (eBool (decide (t6.1 ≠ t7.1))))]) (H' := [(n2, .mem (e55 p0))]) ⟨rfl, trivial⟩ (Sub.refl _) ?_
              refine AO.skipG 3 true 37 rfl rfl (congrArg (fun b => some (AV.fl (Value.bool b))) (decide_eq_true hc11)) 38 rfl (by decide) ?_
              exact AO.nilE (ρ' := [(38, (.fl undef))]) (H' := [(n2, .mem (e55 p0))]) ⟨⟨_, rfl, rfl⟩, Sub.refl _⟩ ⟨rfl, trivial⟩ (Sub.refl _)
            · refine AO.weak (ρ' := [(37, (eBool (decide (t6.1 ≠ t7.1))))]) (H' := [(n2, .mem (e55 p0))]) ⟨rfl, trivial⟩ (Sub.refl _) ?_
              refine AO.skipG 3 true 37 rfl rfl (congrArg (fun b => some (AV.fl (Value.bool b))) (decide_eq_true hc11)) 39 rfl (by decide) ?_
              exact AO.nilE (ρ' := [(39, (.fl undef))]) (H' := [(n2, .mem (e55 p0))]) ⟨⟨_, rfl, rfl⟩, Sub.refl _⟩ ⟨rfl, trivial⟩ (Sub.refl _)
            · refine AO.weak (ρ' := [(37, (eBool (decide (t6.1 ≠ t7.1))))]) (H' := [(n2, .mem (e55 p0))]) ⟨rfl, trivial⟩ (Sub.refl _) ?_
              refine AO.skipG 3 true 37 rfl rfl (congrArg (fun b => some (AV.fl (Value.bool b))) (decide_eq_true hc11)) 40 rfl (by decide) ?_
              exact AO.nilE (ρ' := [(40, (.fl undef))]) (H' := [(n2, .mem (e55 p0))]) ⟨⟨_, rfl, rfl⟩, Sub.refl _⟩ ⟨rfl, trivial⟩ (Sub.refl _)
            · refine AO.weak (ρ' := [(37, (eBool (decide (t6.1 ≠ t7.1)))), (40, (.fl undef))]) (H' := [(n2, .mem (e55 p0))]) ⟨rfl, rfl, trivial⟩ (Sub.refl _) ?_
              refine AO.calm rfl 41 rfl (by decide) (eBool true) (Calm.pickT rfl (congrArg (fun b => some (AV.fl (Value.bool b))) (decide_eq_true hc11)) rfl) ?_
              exact AO.nilE (ρ' := [(41, (eBool true))]) (H' := [(n2, .mem (e55 p0))]) ⟨⟨_, rfl, rfl⟩, Sub.refl _⟩ ⟨rfl, trivial⟩ (Sub.refl _)
            · refine AO.weak (ρ' := [(41, (eBool true))]) (H' := [(n2, .mem (e55 p0))]) ⟨rfl, trivial⟩ (Sub.refl _) ?_
              refine AO.calm rfl 42 rfl (by decide) (eBool true) (Calm.move rfl rfl) ?_
              exact AO.nilE (ρ' := [(42, (eBool true))]) (H' := [(n2, .mem (e55 p0))]) ⟨⟨_, rfl, rfl⟩, Sub.refl _⟩ ⟨rfl, trivial⟩ (Sub.refl _)
            · refine AO.weak (ρ' := [(42, (eBool true))]) (H' := [(n2, .mem (e55 p0))]) ⟨rfl, trivial⟩ (Sub.refl _) ?_
              refine AO.skipG 8 true 42 rfl rfl rfl 43 rfl (by decide) ?_
              exact AO.nilE (ρ' := [(43, (.fl undef))]) (H' := [(n2, .mem (e55 p0))]) ⟨⟨_, rfl, rfl⟩, Sub.refl _⟩ ⟨rfl, trivial⟩ (Sub.refl _)
            · refine AO.weak (ρ' := [(42, (eBool true))]) (H' := [(n2, .mem (e55 p0))]) ⟨rfl, trivial⟩ (Sub.refl _) ?_
              refine AO.skipG 8 true 42 rfl rfl rfl 44 rfl (by decide) ?_
              exact AO.nilE (ρ' := [(44, (.fl undef))]) (H' := [(n2, .mem (e55 p0))]) ⟨⟨_, rfl, rfl⟩, Sub.refl _⟩ ⟨rfl, trivial⟩ (Sub.refl _)
            · refine AO.weak (ρ' := [(42, (eBool true))]) (H' := [(n2, .mem (e55 p0))]) ⟨rfl, trivial⟩ (Sub.refl _) ?_
              refine AO.skipG 8 true 42 rfl rfl rfl 45 rfl (by decide) ?_
              exact AO.nilE (ρ' := [(45, (.fl undef))]) (H' := [(n2, .mem (e55 p0))]) ⟨⟨_, rfl, rfl⟩, Sub.refl _⟩ ⟨rfl, trivial⟩ (Sub.refl _)
            · refine AO.weak (ρ' := [(42, (eBool true)), (45, (.fl undef))]) (H' := [(n2, .mem (e55 p0))]) ⟨rfl, rfl, trivial⟩ (Sub.refl _) ?_
              refine AO.calm rfl 46 rfl (by decide) (eBool true) (Calm.pickT rfl rfl rfl) ?_
              exact AO.nilE (ρ' := [(46, (eBool true))]) (H' := [(n2, .mem (e55 p0))]) ⟨⟨_, rfl, rfl⟩, Sub.refl _⟩ ⟨rfl, trivial⟩ (Sub.refl _)
            · refine AO.weak (ρ' := [(46, (eBool true))]) (H' := [(n2, .mem (e55 p0))]) ⟨rfl, trivial⟩ (Sub.refl _) ?_
              refine AO.calm rfl 47 rfl (by decide) (eBool true) (Calm.move rfl rfl) ?_
              exact AO.nilE (ρ' := [(47, (eBool true))]) (H' := [(n2, .mem (e55 p0))]) ⟨⟨_, rfl, rfl⟩, Sub.refl _⟩ ⟨rfl, trivial⟩ (Sub.refl _)
            · refine AO.weak (ρ' := [(47, (eBool true))]) (H' := [(n2, .mem (e55 p0))]) ⟨rfl, trivial⟩ (Sub.refl _) ?_
              refine AO.skipG 13 true 47 rfl rfl rfl 48 rfl (by decide) ?_
              exact AO.nilE (ρ' := [(48, (.fl undef))]) (H' := [(n2, .mem (e55 p0))]) ⟨⟨_, rfl, rfl⟩, Sub.refl _⟩ ⟨rfl, trivial⟩ (Sub.refl _)
            · refine AO.weak (ρ' := [(47, (eBool true))]) (H' := [(n2, .mem (e55 p0))]) ⟨rfl, trivial⟩ (Sub.refl _) ?_
              refine AO.skipG 13 true 47 rfl rfl rfl 49 rfl (by decide) ?_
              exact AO.nilE (ρ' := [(49, (.fl undef))]) (H' := [(n2, .mem (e55 p0))]) ⟨⟨_, rfl, rfl⟩, Sub.refl _⟩ ⟨rfl, trivial⟩ (Sub.refl _)
            · refine AO.weak (ρ' := [(47, (eBool true))]) (H' := [(n2, .mem (e55 p0))]) ⟨rfl, trivial⟩ (Sub.refl _) ?_
              refine AO.skipG 13 true 47 rfl rfl rfl 50 rfl (by decide) ?_
              exact AO.nilE (ρ' := [(50, (.fl undef))]) (H' := [(n2, .mem (e55 p0))]) ⟨⟨_, rfl, rfl⟩, Sub.refl _⟩ ⟨rfl, trivial⟩ (Sub.refl _)
            · refine AO.weak (ρ' := [(47, (eBool true))]) (H' := [(n2, .mem (e55 p0))]) ⟨rfl, trivial⟩ (Sub.refl _) ?_
              refine AO.skipG 13 true 47 rfl rfl rfl 51 rfl (by decide) ?_
              exact AO.nilE (ρ' := [(51, (.fl undef))]) (H' := [(n2, .mem (e55 p0))]) ⟨⟨_, rfl, rfl⟩, Sub.refl _⟩ ⟨rfl, trivial⟩ (Sub.refl _)
            · refine AO.weak (ρ' := [(47, (eBool true))]) (H' := [(n2, .mem (e55 p0))]) ⟨rfl, trivial⟩ (Sub.refl _) ?_
              refine AO.skipG 13 true 47 rfl rfl rfl 52 rfl (by decide) ?_
              exact AO.nilE (ρ' := [(52, (.fl undef))]) (H' := [(n2, .mem (e55 p0))]) ⟨⟨_, rfl, rfl⟩, Sub.refl _⟩ ⟨rfl, trivial⟩ (Sub.refl _)
            · refine AO.weak (ρ' := [(47, (eBool true))]) (H' := [(n2, .mem (e55 p0))]) ⟨rfl, trivial⟩ (Sub.refl _) ?_
              refine AO.skipG 13 true 47 rfl rfl rfl 53 rfl (by decide) ?_
              exact AO.nilE (ρ' := [(53, (.fl undef))]) (H' := [(n2, .mem (e55 p0))]) ⟨⟨_, rfl, rfl⟩, Sub.refl _⟩ ⟨rfl, trivial⟩ (Sub.refl _)
            · refine AO.weak (ρ' := [(47, (eBool true)), (53, (.fl undef))]) (H' := [(n2, .mem (e55 p0))]) ⟨rfl, rfl, trivial⟩ (Sub.refl _) ?_
              refine AO.calm rfl 54 rfl (by decide) (eBool true) (Calm.pickT rfl rfl rfl) ?_
              exact AO.nilE (ρ' := [(54, (eBool true))]) (H' := [(n2, .mem (e55 p0))]) ⟨⟨_, rfl, rfl⟩, Sub.refl _⟩ ⟨rfl, trivial⟩ (Sub.refl _)
            · refine AO.weak (ρ' := [(54, (eBool true))]) (H' := [(n2, .mem (e55 p0))]) ⟨rfl, trivial⟩ (Sub.refl _) ?_
              refine AO.calm rfl 55 rfl (by decide) (eBool true) (Calm.move rfl rfl) ?_
              exact AO.nilE (ρ' := [(55, (eBool true))]) (H' := [(n2, .mem (e55 p0))]) ⟨⟨_, rfl, rfl⟩, Sub.refl _⟩ ⟨rfl, trivial⟩ (Sub.refl _)
            · refine AO.weak (ρ' := [(55, (eBool true))]) (H' := [(n2, .mem (e55 p0))]) ⟨rfl, trivial⟩ (Sub.refl _) ?_
              refine AO.skipG 21 true 55 rfl rfl rfl 56 rfl (by decide) ?_
              exact AO.nilE (ρ' := [(56, (.fl undef))]) (H' := [(n2, .mem (e55 p0))]) ⟨⟨_, rfl, rfl⟩, Sub.refl _⟩ ⟨rfl, trivial⟩ (Sub.refl _)
            · refine AO.weak (ρ' := [(55, (eBool true))]) (H' := [(n2, .mem (e55 p0))]) ⟨rfl, trivial⟩ (Sub.refl _) ?_
              refine AO.skipG 21 true 55 rfl rfl rfl 57 rfl (by decide) ?_
              exact AO.nilE (ρ' := [(57, (.fl undef))]) (H' := [(n2, .mem (e55 p0))]) ⟨⟨_, rfl, rfl⟩, Sub.refl _⟩ ⟨rfl, trivial⟩ (Sub.refl _)
            · refine AO.weak (ρ' := [(55, (eBool true))]) (H' := [(n2, .mem (e55 p0))]) ⟨rfl, trivial⟩ (Sub.refl _) ?_
              refine AO.skipG 21 true 55 rfl rfl rfl 58 rfl (by decide) ?_
              exact AO.nilE (ρ' := [(58, (.fl undef))]) (H' := [(n2, .mem (e55 p0))]) ⟨⟨_, rfl, rfl⟩, Sub.refl _⟩ ⟨rfl, trivial⟩ (Sub.refl _)
            · refine AO.weak (ρ' := [(55, (eBool true))]) (H' := [(n2, .mem (e55 p0))]) ⟨rfl, trivial⟩ (Sub.refl _) ?_
              refine AO.skipG 21 true 55 rfl rfl rfl 59 rfl (by decide) ?_
              exact AO.nilE (ρ' := [(59, (.fl undef))]) (H' := [(n2, .mem (e55 p0))]) ⟨⟨_, rfl, rfl⟩, Sub.refl _⟩ ⟨rfl, trivial⟩ (Sub.refl _)
            · refine AO.weak (ρ' := [(55, (eBool true))]) (H' := [(n2, .mem (e55 p0))]) ⟨rfl, trivial⟩ (Sub.refl _) ?_
              refine AO.skipG 21 true 55 rfl rfl rfl 60 rfl (by decide) ?_
              exact AO.nilE (ρ' := [(60, (.fl undef))]) (H' := [(n2, .mem (e55 p0))]) ⟨⟨_, rfl, rfl⟩, Sub.refl _⟩ ⟨rfl, trivial⟩ (Sub.refl _)
            · refine AO.weak (ρ' := [(55, (eBool true)), (60, (.fl undef))]) (H' := [(n2, .mem (e55 p0))]) ⟨rfl, rfl, trivial⟩ (Sub.refl _) ?_
              refine AO.calm rfl 61 rfl (by decide) (eBool true) (Calm.pickT rfl rfl rfl) ?_
              exact AO.nilE (ρ' := [(61, (eBool true))]) (H' := [(n2, .mem (e55 p0))]) ⟨⟨_, rfl, rfl⟩, Sub.refl _⟩ ⟨rfl, trivial⟩ (Sub.refl _)
          · cases hq10
            exact ⟨rfl, rfl, rfl⟩
        · have hq10 := (if_neg hc11).symm.trans hq10
          by_cases hc12 : (t6.2.1 != t7.2.1) = true
          · have hq10 := (if_pos hc12).symm.trans hq10
            refine AW.regAny (by rfl) (by decide +kernel) [(eStr t6.1), (eStr t7.1), (eBool (decide (t6.1 ≠ t7.1))), (eBool (decide (t6.1 ≠ t7.1))), (eBool t6.2.1), (eBool t7.2.1), (eBool (t6.2.1 != t7.2.1)), (eBool (t6.2.1 != t7.2.1)), (eBool (t6.2.1 != t7.2.1)), (.fl undef), (.fl undef), (.fl undef), (eBool true), (eBool true), (.fl undef), (.fl undef), (.fl undef), (.fl undef), (.fl undef), (.fl undef), (eBool true), (eBool true), (.fl undef), (.fl undef), (.fl undef), (.fl undef), (.fl undef), (eBool true)] [(1, (.ptr n2 0)), (3, (eStr t6.1)), (4, (eBool t6.2.1)), (5, (eBool t6.2.2)), (6, (eStr t7.1)), (7, (eBool t7.2.1)), (8, (eBool t7.2.2)), (9, (eStr t8))] ⟨rfl, rfl, rfl, rfl, rfl, rfl, rfl, rfl, trivial⟩ rfl ?_ [(1, (.ptr n2 0)), (3, (eStr t6.1)), (9, (eStr t8)), (61, (eBool true))] [(n2, .mem (e55 p0))] ⟨rfl, rfl, rfl, rfl, trivial⟩ (Sub.refl _) ?_
            · refine ⟨?_, ?_, ?_, ?_, ?_, ?_, ?_, ?_, ?_, ?_, ?_, ?_, ?_, ?_, ?_, ?_, ?_, ?_, ?_, ?_, ?_, ?_, ?_, ?_, ?_, ?_, ?_, ?_, trivial⟩
              · refine AO.weak (ρ' := [(3, (eStr t6.1))]) (H' := [(n2, .mem (e55 p0))]) ⟨rfl, trivial⟩ (Sub.refl _) ?_
                refine AO.calm rfl 34 rfl (by decide) (eStr t6.1) (Calm.move rfl rfl) ?_
                exact AO.nilE (ρ' := [(34, (eStr t6.1))]) (H' := [(n2, .mem (e55 p0))]) ⟨⟨_, rfl, rfl⟩, Sub.refl _⟩ ⟨rfl, trivial⟩ (Sub.refl _)
              · refine AO.weak (ρ' := [(6, (eStr t7.1))]) (H' := [(n2, .mem (e55 p0))]) ⟨rfl, trivial⟩ (Sub.refl _) ?_
                refine AO.calm rfl 35 rfl (by decide) (eStr t7.1) (Calm.move rfl rfl) ?_
                exact AO.nilE (ρ' := [(35, (eStr t7.1))]) (H' := [(n2, .mem (e55 p0))]) ⟨⟨_, rfl, rfl⟩, Sub.refl _⟩ ⟨rfl, trivial⟩ (Sub.refl _)
              · refine AO.weak (ρ' := [(34, (eStr t6.1)), (35, (eStr t7.1))]) (H' := [(n2, .mem (e55 p0))]) ⟨rfl, rfl, trivial⟩ (Sub.refl _) ?_
                refine AO.calm rfl 36 rfl (by decide) (eBool (decide (t6.1 ≠ t7.1))) (Calm.str rfl rfl rfl rfl) ?_
                exact AO.nilE (ρ' := [(36, (eBool (decide (t6.1 ≠ t7.1))))]) (H' := [(n2, .mem (e55 p0))]) ⟨⟨_, rfl, rfl⟩, Sub.refl _⟩ ⟨rfl, trivial⟩ (Sub.refl _)
              · refine AO.weak (ρ' := [(36, (eBool (decide (t6.1 ≠ t7.1))))]) (H' := [(n2, .mem (e55 p0))]) ⟨rfl, trivial⟩ (Sub.refl _) ?_
                refine AO.calm rfl 37 rfl (by decide) (eBool (decide (t6.1 ≠ t7.1))) (Calm.move rfl rfl) ?_
                exact AO.nilE (ρ' := [(37, (eBool (decide (t6.1 ≠ t7.1))))]) (H' := [(n2, .mem (e55 p0))]) ⟨⟨_, rfl, rfl⟩, Sub.refl _⟩ ⟨rfl, trivial⟩ (Sub.refl _)
              · refine AO.weak (ρ' := [(4, (eBool t6.2.1)), (37, (eBool (decide (t6.1 ≠ t7.1))))]) (H' := [(n2, .mem (e55 p0))]) ⟨rfl, rfl, trivial⟩ (Sub.refl _) ?_
                refine AO.calmG 3 false 37 rfl rfl (congrArg (fun b => some (AV.fl (Value.bool b))) (decide_eq_false hc11)) 38 rfl (by decide) (eBool t6.2.1) (Calm.move rfl rfl) ?_
                exact AO.nilE (ρ' := [(38, (eBool t6.2.1))]) (H' := [(n2, .mem (e55 p0))]) ⟨⟨_, rfl, rfl⟩, Sub.refl _⟩ ⟨rfl, trivial⟩ (Sub.refl _)
              · refine AO.weak (ρ' := [(7, (eBool t7.2.1)), (37, (eBool (decide (t6.1 ≠ t7.1))))]) (H' := [(n2, .mem (e55 p0))]) ⟨rfl, rfl, trivial⟩ (Sub.refl _) ?_
                refine AO.calmG 3 false 37 rfl rfl (congrArg (fun b => some (AV.fl (Value.bool b))) (decide_eq_false hc11)) 39 rfl (by decide) (eBool t7.2.1) (Calm.move rfl rfl) ?_
                exact AO.nilE (ρ' := [(39, (eBool t7.2.1))]) (H' := [(n2, .mem (e55 p0))]) ⟨⟨_, rfl, rfl⟩, Sub.refl _⟩ ⟨rfl, trivial⟩ (Sub.refl _)
              · refine AO.weak (ρ' := [(37, (eBool (decide (t6.1 ≠ t7.1)))), (38, (eBool t6.2.1)), (39, (eBool t7.2.1))]) (H' := [(n2, .mem (e55 p0))]) ⟨rfl, rfl, rfl, trivial⟩ (Sub.refl _) ?_
                refine AO.calmG 3 false 37 rfl rfl (congrArg (fun b => some (AV.fl (Value.bool b))) (decide_eq_false hc11)) 40 rfl (by decide) (eBool (t6.2.1 != t7.2.1)) (Calm.boolNe rfl rfl rfl Try.underlying4) ?_
                exact AO.nilE (ρ' := [(40, (eBool (t6.2.1 != t7.2.1)))]) (H' := [(n2, .mem (e55 p0))]) ⟨⟨_, rfl, rfl⟩, Sub.refl _⟩ ⟨rfl, trivial⟩ (Sub.refl _)
              · refine AO.weak (ρ' := [(37, (eBool (decide (t6.1 ≠ t7.1)))), (40, (eBool (t6.2.1 != t7.2.1)))]) (H' := [(n2, .mem (e55 p0))]) ⟨rfl, rfl, trivial⟩ (Sub.refl _) ?_
                refine AO.calm rfl 41 rfl (by decide) (eBool (t6.2.1 != t7.2.1)) (Calm.pickF rfl (congrArg (fun b => some (AV.fl (Value.bool b))) (decide_eq_false hc11)) rfl) ?_
                exact AO.nilE (ρ' := [(41, (eBool (t6.2.1 != t7.2.1)))]) (H' := [(n2, .mem (e55 p0))]) ⟨⟨_, rfl, rfl⟩, Sub.refl _⟩ ⟨rfl, trivial⟩ (Sub.refl _)
              · refine AO.weak (ρ' := [(41, (eBool (t6.2.1 != t7.2.1)))]) (H' := [(n2, .mem (e55 p0))]) ⟨rfl, trivial⟩ (Sub.refl _) ?_
                refine AO.calm rfl 42 rfl (by decide) (eBool (t6.2.1 != t7.2.1)) (Calm.move rfl rfl) ?_
                exact AO.nilE (ρ' := [(42, (eBool (t6.2.1 != t7.2.1)))]) (H' := [(n2, .mem (e55 p0))]) ⟨⟨_, rfl, rfl⟩, Sub.refl _⟩ ⟨rfl, trivial⟩ (Sub.refl _)
              · refine AO.weak (ρ' := [(42, (eBool (t6.2.1 != t7.2.1)))]) (H' := [(n2, .mem (e55 p0))]) ⟨rfl, trivial⟩ (Sub.refl _) ?_
                refine AO.skipG 8 true 42 rfl rfl (congrArg (fun b => some (AV.fl (Value.bool b))) hc12) 43 rfl (by decide) ?_
                exact AO.nilE (ρ' := [(43, (.fl undef))]) (H' := [(n2, .mem (e55 p0))]) ⟨⟨_, rfl, rfl⟩, Sub.refl _⟩ ⟨rfl, trivial⟩ (Sub.refl _)
              · refine AO.weak (ρ' := [(42, (eBool (t6.2.1 != t7.2.1)))]) (H' := [(n2, .mem (e55 p0))]) ⟨rfl, trivial⟩ (Sub.refl _) ?_
                refine AO.skipG 8 true 42 rfl rfl (congrArg (fun b => some (AV.fl (Value.bool b))) hc12) 44 rfl (by decide) ?_
                exact AO.nilE (ρ' := [(44, (.fl undef))]) (H' := [(n2, .mem (e55 p0))]) ⟨⟨_, rfl, rfl⟩, Sub.refl _⟩ ⟨rfl, trivial⟩ (Sub.refl _)
              · refine AO.weak (ρ' := [(42, (eBool (t6.2.1 != t7.2.1)))]) (H' := [(n2, .mem (e55 p0))]) ⟨rfl, trivial⟩ (Sub.refl _) ?_
                refine AO.skipG 8 true 42 rfl rfl (congrArg (fun b => some (AV.fl (Value.bool b))) hc12) 45 rfl (by decide) ?_
                exact AO.nilE (ρ' := [(45, (.fl undef))]) (H' := [(n2, .mem (e55 p0))]) ⟨⟨_, rfl, rfl⟩, Sub.refl _⟩ ⟨rfl, trivial⟩ (Sub.refl _)
              · refine AO.weak (ρ' := [(42, (eBool (t6.2.1 != t7.2.1))), (45, (.fl undef))]) (H' := [(n2, .mem (e55 p0))]) ⟨rfl, rfl, trivial⟩ (Sub.refl _) ?_
                refine AO.calm rfl 46 rfl (by decide) (eBool true) (Calm.pickT rfl (congrArg (fun b => some (AV.fl (Value.bool b))) hc12) rfl) ?_
                exact AO.nilE (ρ' := [(46, (eBool true))]) (H' := [(n2, .mem (e55 p0))]) ⟨⟨_, rfl, rfl⟩, Sub.refl _⟩ ⟨rfl, trivial⟩ (Sub.refl _)
              · refine AO.weak (ρ' := [(46, (eBool true))]) (H' := [(n2, .mem (e55 p0))]) ⟨rfl, trivial⟩ (Sub.refl _) ?_
                refine AO.calm rfl 47 rfl (by decide) (eBool true) (Calm.move rfl rfl) ?_
                exact AO.nilE (ρ' := [(47, (eBool true))]) (H' := [(n2, .mem (e55 p0))]) ⟨⟨_, rfl, rfl⟩, Sub.refl _⟩ ⟨rfl, trivial⟩ (Sub.refl _)
              · refine AO.weak (ρ' := [(47, (eBool true))]) (H' := [(n2, .mem (e55 p0))]) ⟨rfl, trivial⟩ (Sub.refl _) ?_
                refine AO.skipG 13 true 47 rfl rfl rfl 48 rfl (by decide) ?_
                exact AO.nilE (ρ' := [(48, (.fl undef))]) (H' := [(n2, .mem (e55 p0))]) ⟨⟨_, rfl, rfl⟩, Sub.refl _⟩ ⟨rfl, trivial⟩ (Sub.refl _)
              · refine AO.weak (ρ' := [(47, (eBool true))]) (H' := [(n2, .mem (e55 p0))]) ⟨rfl, trivial⟩ (Sub.refl _) ?_
                refine AO.skipG 13 true 47 rfl rfl rfl 49 rfl (by decide) ?_
                exact AO.nilE (ρ' := [(49, (.fl undef))]) (H' := [(n2, .mem (e55 p0))]) ⟨⟨_, rfl, rfl⟩, Sub.refl _⟩ ⟨rfl, trivial⟩ (Sub.refl _)
              · refine AO.weak (ρ' := [(47, (eBool true))]) (H' := [(n2, .mem (e55 p0))]) ⟨rfl, trivial⟩ (Sub.refl _) ?_
                refine AO.skipG 13 true 47 rfl rfl rfl 50 rfl (by decide) ?_
                exact AO.nilE (ρ' := [(50, (.fl undef))]) (H' := [(n2, .mem (e55 p0))]) ⟨⟨_, rfl, rfl⟩, Sub.refl _⟩ ⟨rfl, trivial⟩ (Sub.refl _)
              · refine AO.weak (ρ' := [(47, (eBool true))]) (H' := [(n2, .mem (e55 p0))]) ⟨rfl, trivial⟩ (Sub.refl _) ?_
                refine AO.skipG 13 true 47 rfl rfl rfl 51 rfl (by decide) ?_
                exact AO.nilE (ρ' := [(51, (.fl undef))]) (H' := [(n2, .mem (e55 p0))]) ⟨⟨_, rfl, rfl⟩, Sub.refl _⟩ ⟨rfl, trivial⟩ (Sub.refl _)
              · refine AO.weak (ρ' := [(47, (eBool true))]) (H' := [(n2, .mem (e55 p0))]) ⟨rfl, trivial⟩ (Sub.refl _) ?_
                refine AO.skipG 13 true 47 rfl rfl rfl 52 rfl (by decide) ?_
                exact AO.nilE (ρ' := [(52, (.fl undef))]) (H' := [(n2, .mem (e55 p0))]) ⟨⟨_, rfl, rfl⟩, Sub.refl _⟩ ⟨rfl, trivial⟩ (Sub.refl _)
              · refine AO.weak (ρ' := [(47, (eBool true))]) (H' := [(n2, .mem (e55 p0))]) ⟨rfl, trivial⟩ (Sub.refl _) ?_
                refine AO.skipG 13 true 47 rfl rfl rfl 53 rfl (by decide) ?_
                exact AO.nilE (ρ' := [(53, (.fl undef))]) (H' := [(n2, .mem (e55 p0))]) ⟨⟨_, rfl, rfl⟩, Sub.refl _⟩ ⟨rfl, trivial⟩ (Sub.refl _)
              · refine AO.weak (ρ' := [(47, (eBool true)), (53, (.fl undef))]) (H' := [(n2, .mem (e55 p0))]) ⟨rfl, rfl, trivial⟩ (Sub.refl _) ?_
                refine AO.calm rfl 54 rfl (by decide) (eBool true) (Calm.pickT rfl rfl rfl) ?_
                exact AO.nilE (ρ' := [(54, (eBool true))]) (H' := [(n2, .mem (e55 p0))]) ⟨⟨_, rfl, rfl⟩, Sub.refl _⟩ ⟨rfl, trivial⟩ (Sub.refl _)
              · refine AO.weak (ρ' := [(54, (eBool true))]) (H' := [(n2, .mem (e55 p0))]) ⟨rfl, trivial⟩ (Sub.refl _) ?_
                refine AO.calm rfl 55 rfl (by decide) (eBool true) (Calm.move rfl rfl) ?_
                exact AO.nilE (ρ' := [(55, (eBool true))]) (H' := [(n2, .mem (e55 p0))]) ⟨⟨_, rfl, rfl⟩, Sub.refl _⟩ ⟨rfl, trivial⟩ (Sub.refl _)
              · refine AO.weak (ρ' := [(55, (eBool true))]) (H' := [(n2, .mem (e55 p0))]) ⟨rfl, trivial⟩ (Sub.refl _) ?_
                refine AO.skipG 21 true 55 rfl rfl rfl 56 rfl (by decide) ?_
                exact AO.nilE (ρ' := [(56, (.fl undef))]) (H' := [(n2, .mem (e55 p0))]) ⟨⟨_, rfl, rfl⟩, Sub.refl _⟩ ⟨rfl, trivial⟩ (Sub.refl _)
              · refine AO.weak (ρ' := [(55, (eBool true))]) (H' := [(n2, .mem (e55 p0))]) ⟨rfl, trivial⟩ (Sub.refl _) ?_
                refine AO.skipG 21 true 55 rfl rfl rfl 57 rfl (by decide) ?_
                exact AO.nilE (ρ' := [(57, (.fl undef))]) (H' := [(n2, .mem (e55 p0))]) ⟨⟨_, rfl, rfl⟩, Sub.refl _⟩ ⟨rfl, trivial⟩ (Sub.refl _)
              · refine AO.weak (ρ' := [(55, (eBool true))]) (H' := [(n2, .mem (e55 p0))]) ⟨rfl, trivial⟩ (Sub.refl _) ?_
                refine AO.skipG 21 true 55 rfl rfl rfl 58 rfl (by decide) ?_
                exact AO.nilE (ρ' := [(58, (.fl undef))]) (H' := [(n2, .mem (e55 p0))]) ⟨⟨_, rfl, rfl⟩, Sub.refl _⟩ ⟨rfl, trivial⟩ (Sub.refl _)
              · refine AO.weak (ρ' := [(55, (eBool true))]) (H' := [(n2, .mem (e55 p0))]) ⟨rfl, trivial⟩ (Sub.refl _) ?_
                refine AO.skipG 21 true 55 rfl rfl rfl 59 rfl (by decide) ?_
                exact AO.nilE (ρ' := [(59, (.fl undef))]) (H' := [(n2, .mem (e55 p0))]) ⟨⟨_, rfl, rfl⟩, Sub.refl _⟩ ⟨rfl, trivial⟩ (Sub.refl _)
              · refine AO.weak (ρ' := [(55, (eBool true))]) (H' := [(n2, .mem (e55 p0))]) ⟨rfl, trivial⟩ (Sub.refl _) ?_
                refine AO.skipG 21 true 55 rfl rfl rfl 60 rfl (by decide) ?_
                exact AO.nilE (ρ' := [(60, (.fl undef))]) (H' := [(n2, .mem (e55 p0))]) ⟨⟨_, rfl, rfl⟩, Sub.refl _⟩ ⟨rfl, trivial⟩ (Sub.refl _)
              · refine AO.weak (ρ' := [(55, (eBool true)), (60, (.fl undef))]) (H' := [(n2, .mem (e55 p0))]) ⟨rfl, rfl, trivial⟩ (Sub.refl _) ?_
                refine AO.calm rfl 61 rfl (by decide) (eBool true) (Calm.pickT rfl rfl rfl) ?_
                exact AO.nilE (ρ' := [(61, (eBool true))]) (H' := [(n2, .mem (e55 p0))]) ⟨⟨_, rfl, rfl⟩, Sub.refl _⟩ ⟨rfl, trivial⟩ (Sub.refl _)
            · cases hq10
              exact ⟨rfl, rfl, rfl⟩
          · have hq10 := (if_neg hc12).symm.trans hq10
            by_cases hc13 : (t6.2.2 != t7.2.2) = true
            · have hq10 := (if_pos hc13).symm.trans hq10
              refine AW.regAny (by rfl) (by decide +kernel) [(eStr t6.1), (eStr t7.1), (eBool (decide (t6.1 ≠ t7.1))), (eBool (decide (t6.1 ≠ t7.1))), (eBool t6.2.1), (eBool t7.2.1), (eBool (t6.2.1 != t7.2.1)), (eBool (t6.2.1 != t7.2.1)), (eBool (t6.2.1 != t7.2.1)), (eBool t6.2.2), (eBool t7.2.2), (eBool (t6.2.2 != t7.2.2)), (eBool (t6.2.2 != t7.2.2)), (eBool (t6.2.2 != t7.2.2)), (.fl undef), (.fl undef), (.fl undef), (.fl undef), (.fl undef), (.fl undef), (eBool true), (eBool true), (.fl undef), (.fl undef), (.fl undef), (.fl undef), (.fl undef), (eBool true)] [(1, (.ptr n2 0)), (3, (eStr t6.1)), (4, (eBool t6.2.1)), (5, (eBool t6.2.2)), (6, (eStr t7.1)), (7, (eBool t7.2.1)), (8, (eBool t7.2.2)), (9, (eStr t8))] ⟨rfl, rfl, rfl, rfl, rfl, rfl, rfl, rfl, trivial⟩ rfl ?_ [(1, (.ptr n2 0)), (3, (eStr t6.1)), (9, (eStr t8)), (61, (eBool true))] [(n2, .mem (e55 p0))] ⟨rfl, rfl, rfl, rfl, trivial⟩ (Sub.refl _) ?_
              · refine ⟨?_, ?_, ?_, ?_, ?_, ?_, ?_, ?_, ?_, ?_, ?_, ?_, ?_, ?_, ?_, ?_, ?_, ?_, ?_, ?_, ?_, ?_, ?_, ?_, ?_, ?_, ?_, ?_, trivial⟩
                · refine AO.weak (ρ' := [(3, (eStr t6.1))]) (H' := [(n2, .mem (e55 p0))]) ⟨rfl, trivial⟩ (Sub.refl _) ?_
                  refine AO.calm rfl 34 rfl (by decide) (eStr t6.1) (Calm.move rfl rfl) ?_
                  exact AO.nilE (ρ' := [(34, (eStr t6.1))]) (H' := [(n2, .mem (e55 p0))]) ⟨⟨_, rfl, rfl⟩, Sub.refl _⟩ ⟨rfl, trivial⟩ (Sub.refl _)
                · refine AO.weak (ρ' := [(6, (eStr t7.1))]) (H' := [(n2, .mem (e55 p0))]) ⟨rfl, trivial⟩ (Sub.refl _) ?_
                  refine AO.calm rfl 35 rfl (by decide) (eStr t7.1) (Calm.move rfl rfl) ?_
                  exact AO.nilE (ρ' := [(35, (eStr t7.1))]) (H' := [(n2, .mem (e55 p0))]) ⟨⟨_, rfl, rfl⟩, Sub.refl _⟩ ⟨rfl, trivial⟩ (Sub.refl _)
                · refine AO.weak (ρ' := [(34, (eStr t6.1)), (35, (eStr t7.1))]) (H' := [(n2, .mem (e55 p0))]) ⟨rfl, rfl, trivial⟩ (Sub.refl _) ?_
                  refine AO.calm rfl 36 rfl (by decide) (eBool (decide (t6.1 ≠ t7.1))) (Calm.str rfl rfl rfl rfl) ?_
                  exact AO.nilE (ρ' := [(36, (eBool (decide (t6.1 ≠ t7.1))))]) (H' := [(n2, .mem (e55 p0))]) ⟨⟨_, rfl, rfl⟩, Sub.refl _⟩ ⟨rfl, trivial⟩ (Sub.refl _)
                · refine AO.weak (ρ' := [(36, (eBool (decide (t6.1 ≠ t7.1))))]) (H' := [(n2, .mem (e55 p0))]) ⟨rfl, trivial⟩ (Sub.refl _) ?_
                  refine AO.calm rfl 37 rfl (by decide) (eBool (decide (t6.1 ≠ t7.1))) (Calm.move rfl rfl) ?_
                  exact AO.nilE (ρ' := [(37, (eBool (decide (t6.1 ≠ t7.1))))]) (H' := [(n2, .mem (e55 p0))]) ⟨⟨_, rfl, rfl⟩, Sub.refl _⟩ ⟨rfl, trivial⟩ (Sub.refl _)
                · refine AO.weak (ρ' := [(4, (eBool t6.2.1)), (37, (eBool (decide (t6.1 ≠ t7.1))))]) (H' := [(n2, .mem (e55 p0))]) ⟨rfl, rfl, trivial⟩ (Sub.refl _) ?_
                  refine AO.calmG 3 false 37 rfl rfl (congrArg (fun b => some (AV.fl (Value.bool b))) (decide_eq_false hc11)) 38 rfl (by decide) (eBool t6.2.1) (Calm.move rfl rfl) ?_
                  exact AO.nilE (ρ' := [(38, (eBool t6.2.1))]) (H' := [(n2, .mem (e55 p0))]) ⟨⟨_, rfl, rfl⟩, Sub.refl _⟩ ⟨rfl, trivial⟩ (Sub.refl _)
                · refine AO.weak (ρ' := [(7, (eBool t7.2.1)), (37, (eBool (decide (t6.1 ≠ t7.1))))]) (H' := [(n2, .mem (e55 p0))]) ⟨rfl, rfl, trivial⟩ (Sub.refl _) ?_
                  refine AO.calmG 3 false 37 rfl rfl (congrArg (fun b => some (AV.fl (Value.bool b))) (decide_eq_false hc11)) 39 rfl (by decide) (eBool t7.2.1) (Calm.move rfl rfl) ?_
                  exact AO.nilE (ρ' := [(39, (eBool t7.2.1))]) (H' := [(n2, .mem (e55 p0))]) ⟨⟨_, rfl, rfl⟩, Sub.refl _⟩ ⟨rfl, trivial⟩ (Sub.refl _)
                · refine AO.weak (ρ' := [(37, (eBool (decide (t6.1 ≠ t7.1)))), (38, (eBool t6.2.1)), (39, (eBool t7.2.1))]) (H' := [(n2, .mem (e55 p0))]) ⟨rfl, rfl, rfl, trivial⟩ (Sub.refl _) ?_
                  refine AO.calmG 3 false 37 rfl rfl (congrArg (fun b => some (AV.fl (Value.bool b))) (decide_eq_false hc11)) 40 rfl (by decide) (eBool (t6.2.1 != t7.2.1)) (Calm.boolNe rfl rfl rfl Try.underlying4) ?_
                  exact AO.nilE (ρ' := [(40, (eBool (t6.2.1 != t7.2.1)))]) (H' := [(n2, .mem (e55 p0))]) ⟨⟨_, rfl, rfl⟩, Sub.refl _⟩ ⟨rfl, trivial⟩ (Sub.refl _)
                · refine AO.weak (ρ' := [(37, (eBool (decide (t6.1 ≠ t7.1)))), (40, (eBool (t6.2.1 != t7.2.1)))]) (H' := [(n2, .mem (e55 p0))]) ⟨rfl, rfl, trivial⟩ (Sub.refl _) ?_
                  refine AO.calm rfl 41 rfl (by decide) (eBool (t6.2.1 != t7.2.1)) (Calm.pickF rfl (congrArg (fun b => some (AV.fl (Value.bool b))) (decide_eq_false hc11)) rfl) ?_
                  exact AO.nilE (ρ' := [(41, (eBool (t6.2.1 != t7.2.1)))]) (H' := [(n2, .mem (e55 p0))]) ⟨⟨_, rfl, rfl⟩, Sub.refl _⟩ ⟨rfl, trivial⟩ (Sub.refl _)
                · refine AO.weak (ρ' := [(41, (eBool (t6.2.1 != t7.2.1)))]) (H' := [(n2, .mem (e55 p0))]) ⟨rfl, trivial⟩ (Sub.refl _) ?_
                  refine AO.calm rfl 42 rfl (by decide) (eBool (t6.2.1 != t7.2.1)) (Calm.move rfl rfl) ?_
                  exact AO.nilE (ρ' := [(42, (eBool (t6.2.1 != t7.2.1)))]) (H' := [(n2, .mem (e55 p0))]) ⟨⟨_, rfl, rfl⟩, Sub.refl _⟩ ⟨rfl, trivial⟩ (Sub.refl _)
                · refine AO.weak (ρ' := [(5, (eBool t6.2.2)), (42, (eBool (t6.2.1 != t7.2.1)))]) (H' := [(n2, .mem (e55 p0))]) ⟨rfl, rfl, trivial⟩ (Sub.refl _) ?_
                  refine AO.calmG 8 false 42 rfl rfl (congrArg (fun b => some (AV.fl (Value.bool b))) (eq_false_of_ne_true hc12)) 43 rfl (by decide) (eBool t6.2.2) (Calm.move rfl rfl) ?_
                  exact AO.nilE (ρ' := [(43, (eBool t6.2.2))]) (H' := [(n2, .mem (e55 p0))]) ⟨⟨_, rfl, rfl⟩, Sub.refl _⟩ ⟨rfl, trivial⟩ (Sub.refl _)
                · refine AO.weak (ρ' := [(8, (eBool t7.2.2)), (42, (eBool (t6.2.1 != t7.2.1)))]) (H' := [(n2, .mem (e55 p0))]) ⟨rfl, rfl, trivial⟩ (Sub.refl _) ?_
                  refine AO.calmG 8 false 42 rfl rfl (congrArg (fun b => some (AV.fl (Value.bool b))) (eq_false_of_ne_true hc12)) 44 rfl (by decide) (eBool t7.2.2) (Calm.move rfl rfl) ?_
                  exact AO.nilE (ρ' := [(44, (eBool t7.2.2))]) (H' := [(n2, .mem (e55 p0))]) ⟨⟨_, rfl, rfl⟩, Sub.refl _⟩ ⟨rfl, trivial⟩ (Sub.refl _)
                · refine AO.weak (ρ' := [(42, (eBool (t6.2.1 != t7.2.1))), (43, (eBool t6.2.2)), (44, (eBool t7.2.2))]) (H' := [(n2, .mem (e55 p0))]) ⟨rfl, rfl, rfl, trivial⟩ (Sub.refl _) ?_
                  refine AO.calmG 8 false 42 rfl rfl (congrArg (fun b => some (AV.fl (Value.bool b))) (eq_false_of_ne_true hc12)) 45 rfl (by decide) (eBool (t6.2.2 != t7.2.2)) (Calm.boolNe rfl rfl rfl Try.underlying4) ?_
                  exact AO.nilE (ρ' := [(45, (eBool (t6.2.2 != t7.2.2)))]) (H' := [(n2, .mem (e55 p0))]) ⟨⟨_, rfl, rfl⟩, Sub.refl _⟩ ⟨rfl, trivial⟩ (Sub.refl _)
                · refine AO.weak (ρ' := [(42, (eBool (t6.2.1 != t7.2.1))), (45, (eBool (t6.2.2 != t7.2.2)))]) (H' := [(n2, .mem (e55 p0))]) ⟨rfl, rfl, trivial⟩ (Sub.refl _) ?_
                  refine AO.calm rfl 46 rfl (by decide) (eBool (t6.2.2 != t7.2.2)) (Calm.pickF rfl (congrArg (fun b => some (AV.fl (Value.bool b))) (eq_false_of_ne_true hc12)) rfl) ?_
                  exact AO.nilE (ρ' := [(46, (eBool (t6.2.2 != t7.2.2)))]) (H' := [(n2, .mem (e55 p0))]) ⟨⟨_, rfl, rfl⟩, Sub.refl _⟩ ⟨rfl, trivial⟩ (Sub.refl _)
                · refine AO.weak (ρ' := [(46, (eBool (t6.2.2 != t7.2.2)))]) (H' := [(n2, .mem (e55 p0))]) ⟨rfl, trivial⟩ (Sub.refl _) ?_
                  refine AO.calm rfl 47 rfl (by decide) (eBool (t6.2.2 != t7.2.2)) (Calm.move rfl rfl) ?_
                  exact AO.nilE (ρ' := [(47, (eBool (t6.2.2 != t7.2.2)))]) (H' := [(n2, .mem (e55 p0))]) ⟨⟨_, rfl, rfl⟩, Sub.refl _⟩ ⟨rfl, trivial⟩ (Sub.refl _)
                · refine AO.weak (ρ' := [(47, (eBool (t6.2.2 != t7.2.2)))]) (H' := [(n2, .mem (e55 p0))]) ⟨rfl, trivial⟩ (Sub.refl _) ?_
                  refine AO.skipG 13 true 47 rfl rfl (congrArg (fun b => some (AV.fl (Value.bool b))) hc13) 48 rfl (by decide) ?_
                  exact AO.nilE (ρ' := [(48, (.fl undef))]) (H' := [(n2, .mem (e55 p0))]) ⟨⟨_, rfl, rfl⟩, Sub.refl _⟩ ⟨rfl, trivial⟩ (Sub.refl _)
                · refine AO.weak (ρ' := [(47, (eBool (t6.2.2 != t7.2.2)))]) (H' := [(n2, .mem (e55 p0))]) ⟨rfl, trivial⟩ (Sub.refl _) ?_
                  refine AO.skipG 13 true 47 rfl rfl (congrArg (fun b => some (AV.fl (Value.bool b))) hc13) 49 rfl (by decide) ?_
                  exact AO.nilE (ρ' := [(49, (.fl undef))]) (H' := [(n2, .mem (e55 p0))]) ⟨⟨_, rfl, rfl⟩, Sub.refl _⟩ ⟨rfl, trivial⟩ (Sub.refl _)
                · refine AO.weak (ρ' := [(47, (eBool (t6.2.2 != t7.2.2)))]) (H' := [(n2, .mem (e55 p0))]) ⟨rfl, trivial⟩ (Sub.refl _) ?_
                  refine AO.skipG 13 true 47 rfl rfl (congrArg (fun b => some (AV.fl (Value.bool b))) hc13) 50 rfl (by decide) ?_
                  exact AO.nilE (ρ' := [(50, (.fl undef))]) (H' := [(n2, .mem (e55 p0))]) ⟨⟨_, rfl, rfl⟩, Sub.refl _⟩ ⟨rfl, trivial⟩ (Sub.refl _)
                · refine AO.weak (ρ' := [(47, (eBool (t6.2.2 != t7.2.2)))]) (H' := [(n2, .mem (e55 p0))]) ⟨rfl, trivial⟩ (Sub.refl _) ?_
                  refine AO.skipG 13 true 47 rfl rfl (congrArg (fun b => some (AV.fl (Value.bool b))) hc13) 51 rfl (by decide) ?_
                  exact AO.nilE (ρ' := [(51, (.fl undef))]) (H' := [(n2, .mem (e55 p0))]) ⟨⟨_, rfl, rfl⟩, Sub.refl _⟩ ⟨rfl, trivial⟩ (Sub.refl _)
                · refine AO.weak (ρ' := [(47, (eBool (t6.2.2 != t7.2.2)))]) (H' := [(n2, .mem (e55 p0))]) ⟨rfl, trivial⟩ (Sub.refl _) ?_
                  refine AO.skipG 13 true 47 rfl rfl (congrArg (fun b => some (AV.fl (Value.bool b))) hc13) 52 rfl (by decide) ?_
                  exact AO.nilE (ρ' := [(52, (.fl undef))]) (H' := [(n2, .mem (e55 p0))]) ⟨⟨_, rfl, rfl⟩, Sub.refl _⟩ ⟨rfl, trivial⟩ (Sub.refl _)
                · refine AO.weak (ρ' := [(47, (eBool (t6.2.2 != t7.2.2)))]) (H' := [(n2, .mem (e55 p0))]) ⟨rfl, trivial⟩ (Sub.refl _) ?_
                  refine AO.skipG 13 true 47 rfl rfl (congrArg (fun b => some (AV.fl (Value.bool b))) hc13) 53 rfl (by decide) ?_
                  exact AO.nilE (ρ' := [(53, (.fl undef))]) (H' := [(n2, .mem (e55 p0))]) ⟨⟨_, rfl, rfl⟩, Sub.refl _⟩ ⟨rfl, trivial⟩ (Sub.refl _)
                · refine AO.weak (ρ' := [(47, (eBool (t6.2.2 != t7.2.2))), (53, (.fl undef))]) (H' := [(n2, .mem (e55 p0))]) ⟨rfl, rfl, trivial⟩ (Sub.refl _) ?_
                  refine AO.calm rfl 54 rfl (by decide) (eBool true) (Calm.pickT rfl (congrArg (fun b => some (AV.fl (Value.bool b))) hc13) rfl) ?_
                  exact AO.nilE (ρ' := [(54, (eBool true))]) (H' := [(n2, .mem (e55 p0))]) ⟨⟨_, rfl, rfl⟩, Sub.refl _⟩ ⟨rfl, trivial⟩ (Sub.refl _)
                · refine AO.weak (ρ' := [(54, (eBool true))]) (H' := [(n2, .mem (e55 p0))]) ⟨rfl, trivial⟩ (Sub.refl _) ?_
                  refine AO.calm rfl 55 rfl (by decide) (eBool true) (Calm.move rfl rfl) ?_
                  exact AO.nilE (ρ' := [(55, (eBool true))]) (H' := [(n2, .mem (e55 p0))]) ⟨⟨_, rfl, rfl⟩, Sub.refl _⟩ ⟨rfl, trivial⟩ (Sub.refl _)
                · refine AO.weak (ρ' := [(55, (eBool true))]) (H' := [(n2, .mem (e55 p0))]) ⟨rfl, trivial⟩ (Sub.refl _) ?_
                  refine AO.skipG 21 true 55 rfl rfl rfl 56 rfl (by decide) ?_
                  exact AO.nilE (ρ' := [(56, (.fl undef))]) (H' := [(n2, .mem (e55 p0))]) ⟨⟨_, rfl, rfl⟩, Sub.refl _⟩ ⟨rfl, trivial⟩ (Sub.refl _)
                · refine AO.weak (ρ' := [(55, (eBool true))]) (H' := [(n2, .mem (e55 p0))]) ⟨rfl, trivial⟩ (Sub.refl _) ?_
                  refine AO.skipG 21 true 55 rfl rfl rfl 57 rfl (by decide) ?_
                  exact AO.nilE (ρ' := [(57, (.fl undef))]) (H' := [(n2, .mem (e55 p0))]) ⟨⟨_, rfl, rfl⟩, Sub.refl _⟩ ⟨rfl, trivial⟩ (Sub.refl _)
                · refine AO.weak (ρ' := [(55, (eBool true))]) (H' := [(n2, .mem (e55 p0))]) ⟨rfl, trivial⟩ (Sub.refl _) ?_
                  refine AO.skipG 21 true 55 rfl rfl rfl 58 rfl (by decide) ?_
                  exact AO.nilE (ρ' := [(58, (.fl undef))]) (H' := [(n2, .mem (e55 p0))]) ⟨⟨_, rfl, rfl⟩, Sub.refl _⟩ ⟨rfl, trivial⟩ (Sub.refl _)
                · refine AO.weak (ρ' := [(55, (eBool true))]) (H' := [(n2, .mem (e55 p0))]) ⟨rfl, trivial⟩ (Sub.refl _) ?_
                  refine AO.skipG 21 true 55 rfl rfl rfl 59 rfl (by decide) ?_
                  exact AO.nilE (ρ' := [(59, (.fl undef))]) (H' := [(n2, .mem (e55 p0))]) ⟨⟨_, rfl, rfl⟩, Sub.refl _⟩ ⟨rfl, trivial⟩ (Sub.refl _)
                · refine AO.weak (ρ' := [(55, (eBool true))]) (H' := [(n2, .mem (e55 p0))]) ⟨rfl, trivial⟩ (Sub.refl _) ?_
                  refine AO.skipG 21 true 55 rfl rfl rfl 60 rfl (by decide) ?_
                  exact AO.nilE (ρ' := [(60, (.fl undef))]) (H' := [(n2, .mem (e55 p0))]) ⟨⟨_, rfl, rfl⟩, Sub.refl _⟩ ⟨rfl, trivial⟩ (Sub.refl _)
                · refine AO.weak (ρ' := [(55, (eBool true)), (60, (.fl undef))]) (H' := [(n2, .mem (e55 p0))]) ⟨rfl, rfl, trivial⟩ (Sub.refl _) ?_
                  refine AO.calm rfl 61 rfl (by decide) (eBool true) (Calm.pickT rfl rfl rfl) ?_
                  exact AO.nilE (ρ' := [(61, (eBool true))]) (H' := [(n2, .mem (e55 p0))]) ⟨⟨_, rfl, rfl⟩, Sub.refl _⟩ ⟨rfl, trivial⟩ (Sub.refl _)
              · cases hq10
                exact ⟨rfl, rfl, rfl⟩
            · have hq10 := (if_neg hc13).symm.trans hq10
              obtain ⟨t14, et14, hq10⟩ := of_bind hq10
              obtain ⟨t15, et15, hq10⟩ := of_bind hq10
              obtain ⟨t16, et16, hq10⟩ := of_bind hq10
              by_cases hc17 : (t14 != t16) = true
              · have hq10 := (if_pos hc17).symm.trans hq10
                refine AW.regAny (by rfl) (by decide +kernel) [(eStr t6.1), (eStr t7.1), (eBool (decide (t6.1 ≠ t7.1))), (eBool (decide (t6.1 ≠ t7.1))), (eBool t6.2.1), (eBool t7.2.1), (eBool (t6.2.1 != t7.2.1)), (eBool (t6.2.1 != t7.2.1)), (eBool (t6.2.1 != t7.2.1)), (eBool t6.2.2), (eBool t7.2.2), (eBool (t6.2.2 != t7.2.2)), (eBool (t6.2.2 != t7.2.2)), (eBool (t6.2.2 != t7.2.2)), (e55 p0), (eBool t14), (e55 p0), (e60 t15), (eBool t16), (eBool (t14 != t16)), (eBool (t14 != t16)), (eBool (t14 != t16)), (.fl undef), (.fl undef), (.fl undef), (.fl undef), (.fl undef), (eBool true)] [(1, (.ptr n2 0)), (3, (eStr t6.1)), (4, (eBool t6.2.1)), (5, (eBool t6.2.2)), (6, (eStr t7.1)), (7, (eBool t7.2.1)), (8, (eBool t7.2.2)), (9, (eStr t8))] ⟨rfl, rfl, rfl, rfl, rfl, rfl, rfl, rfl, trivial⟩ rfl ?_ [(1, (.ptr n2 0)), (3, (eStr t6.1)), (9, (eStr t8)), (61, (eBool true))] [(n2, .mem (e55 p0))] ⟨rfl, rfl, rfl, rfl, trivial⟩ (Sub.refl _) ?_
                · refine ⟨?_, ?_, ?_, ?_, ?_, ?_, ?_, ?_, ?_, ?_, ?_, ?_, ?_, ?_, ?_, ?_, ?_, ?_, ?_, ?_, ?_, ?_, ?_, ?_, ?_, ?_, ?_, ?_, trivial⟩
                  · refine AO.weak (ρ' := [(3, (eStr t6.1))]) (H' := [(n2, .mem (e55 p0))]) ⟨rfl, trivial⟩ (Sub.refl _) ?_
                    refine AO.calm rfl 34 rfl (by decide) (eStr t6.1) (Calm.move rfl rfl) ?_
                    exact AO.nilE (ρ' := [(34, (eStr t6.1))]) (H' := [(n2, .mem (e55 p0))]) ⟨⟨_, rfl, rfl⟩, Sub.refl _⟩ ⟨rfl, trivial⟩ (Sub.refl _)
                  · refine AO.weak (ρ' := [(6, (eStr t7.1))]) (H' := [(n2, .mem (e55 p0))]) ⟨rfl, trivial⟩ (Sub.refl _) ?_
                    refine AO.calm rfl 35 rfl (by decide) (eStr t7.1) (Calm.move rfl rfl) ?_
                    exact AO.nilE (ρ' := [(35, (eStr t7.1))]) (H' := [(n2, .mem (e55 p0))]) ⟨⟨_, rfl, rfl⟩, Sub.refl _⟩ ⟨rfl, trivial⟩ (Sub.refl _)
                  · refine AO.weak (ρ' := [(34, (eStr t6.1)), (35, (eStr t7.1))]) (H' := [(n2, .mem (e55 p0))]) ⟨rfl, rfl, trivial⟩ (Sub.refl _) ?_
                    refine AO.calm rfl 36 rfl (by decide) (eBool (decide (t6.1 ≠ t7.1))) (Calm.str rfl rfl rfl rfl) ?_
                    exact AO.nilE (ρ' := [(36, (eBool (decide (t6.1 ≠ t7.1))))]) (H' := [(n2, .mem (e55 p0))]) ⟨⟨_, rfl, rfl⟩, Sub.refl _⟩ ⟨rfl, trivial⟩ (Sub.refl _)
                  · refine AO.weak (ρ' := [(36, (eBool (decide (t6.1 ≠ t7.1))))]) (H' := [(n2, .mem (e55 p0))]) ⟨rfl, trivial⟩ (Sub.refl _) ?_
                    refine AO.calm rfl 37 rfl (by decide) (eBool (decide (t6.1 ≠ t7.1))) (Calm.move rfl rfl) ?_
                    exact AO.nilE (ρ' := [(37, (eBool (decide (t6.1 ≠ t7.1))))]) (H' := [(n2, .mem (e55 p0))]) ⟨⟨_, rfl, rfl⟩, Sub.refl _⟩ ⟨rfl, trivial⟩ (Sub.refl _)
                  · refine AO.weak (ρ' := [(4, (eBool t6.2.1)), (37, (eBool (decide (t6.1 ≠ t7.1))))]) (H' := [(n2, .mem (e55 p0))]) ⟨rfl, rfl, trivial⟩ (Sub.refl _) ?_
                    refine AO.calmG 3 false 37 rfl rfl (congrArg (fun b => some (AV.fl (Value.bool b))) (decide_eq_false hc11)) 38 rfl (by decide) (eBool t6.2.1) (Calm.move rfl rfl) ?_
                    exact AO.nilE (ρ' := [(38, (eBool t6.2.1))]) (H' := [(n2, .mem (e55 p0))]) ⟨⟨_, rfl, rfl⟩, Sub.refl _⟩ ⟨rfl, trivial⟩ (Sub.refl _)
                  · refine AO.weak (ρ' := [(7, (eBool t7.2.1)), (37, (eBool (decide (t6.1 ≠ t7.1))))]) (H' := [(n2, .mem (e55 p0))]) ⟨rfl, rfl, trivial⟩ (Sub.refl _) ?_
                    refine AO.calmG 3 false 37 rfl rfl (congrArg (fun b => some (AV.fl (Value.bool b))) (decide_eq_false hc11)) 39 rfl (by decide) (eBool t7.2.1) (Calm.move rfl rfl) ?_
                    exact AO.nilE (ρ' := [(39, (eBool t7.2.1))]) (H' := [(n2, .mem (e55 p0))]) ⟨⟨_, rfl, rfl⟩, Sub.refl _⟩ ⟨rfl, trivial⟩ (Sub.refl _)
                  · refine AO.weak (ρ' := [(37, (eBool (decide (t6.1 ≠ t7.1)))), (38, (eBool t6.2.1)), (39, (eBool t7.2.1))]) (H' := [(n2, .mem (e55 p0))]) ⟨rfl, rfl, rfl, trivial⟩ (Sub.refl _) ?_
                    refine AO.calmG 3 false 37 rfl rfl (congrArg (fun b => some (AV.fl (Value.bool b))) (decide_eq_false hc11)) 40 rfl (by decide) (eBool (t6.2.1 != t7.2.1)) (Calm.boolNe rfl rfl rfl Try.underlying4) ?_
                    exact AO.nilE (ρ' := [(40, (eBool (t6.2.1 != t7.2.1)))]) (H' := [(n2, .mem (e55 p0))]) ⟨⟨_, rfl, rfl⟩, Sub.refl _⟩ ⟨rfl, trivial⟩ (Sub.refl _)
                  · refine AO.weak (ρ' := [(37, (eBool (decide (t6.1 ≠ t7.1)))), (40, (eBool (t6.2.1 != t7.2.1)))]) (H' := [(n2, .mem (e55 p0))]) ⟨rfl, rfl, trivial⟩ (Sub.refl _) ?_
                    refine AO.calm rfl 41 rfl (by decide) (eBool (t6.2.1 != t7.2.1)) (Calm.pickF rfl (congrArg (fun b => some (AV.fl (Value.bool b))) (decide_eq_false hc11)) rfl) ?_
                    exact AO.nilE (ρ' := [(41, (eBool (t6.2.1 != t7.2.1)))]) (H' := [(n2, .mem (e55 p0))]) ⟨⟨_, rfl, rfl⟩, Sub.refl _⟩ ⟨rfl, trivial⟩ (Sub.refl _)
                  · refine AO.weak (ρ' := [(41, (eBool (t6.2.1 != t7.2.1)))]) (H' := [(n2, .mem (e55 p0))]) ⟨rfl, trivial⟩ (Sub.refl _) ?_
                    refine AO.calm rfl 42 rfl (by decide) (eBool (t6.2.1 != t7.2.1)) (Calm.move rfl rfl) ?_
                    exact AO.nilE (ρ' := [(42, (eBool (t6.2.1 != t7.2.1)))]) (H' := [(n2, .mem (e55 p0))]) ⟨⟨_, rfl, rfl⟩, Sub.refl _⟩ ⟨rfl, trivial⟩ (Sub.refl _)
                  · refine AO.weak (ρ' := [(5, (eBool t6.2.2)), (42, (eBool (t6.2.1 != t7.2.1)))]) (H' := [(n2, .mem (e55 p0))]) ⟨rfl, rfl, trivial⟩ (Sub.refl _) ?_
                    refine AO.calmG 8 false 42 rfl rfl (congrArg (fun b => some (AV.fl (Value.bool b))) (eq_false_of_ne_true hc12)) 43 rfl (by decide) (eBool t6.2.2) (Calm.move rfl rfl) ?_
                    exact AO.nilE (ρ' := [(43, (eBool t6.2.2))]) (H' := [(n2, .mem (e55 p0))]) ⟨⟨_, rfl, rfl⟩, Sub.refl _⟩ ⟨rfl, trivial⟩ (Sub.refl _)
                  · refine AO.weak (ρ' := [(8, (eBool t7.2.2)), (42, (eBool (t6.2.1 != t7.2.1)))]) (H' := [(n2, .mem (e55 p0))]) ⟨rfl, rfl, trivial⟩ (Sub.refl _) ?_
                    refine AO.calmG 8 false 42 rfl rfl (congrArg (fun b => some (AV.fl (Value.bool b))) (eq_false_of_ne_true hc12)) 44 rfl (by decide) (eBool t7.2.2) (Calm.move rfl rfl) ?_
                    exact AO.nilE (ρ' := [(44, (eBool t7.2.2))]) (H' := [(n2, .mem (e55 p0))]) ⟨⟨_, rfl, rfl⟩, Sub.refl _⟩ ⟨rfl, trivial⟩ (Sub.refl _)
                  · refine AO.weak (ρ' := [(42, (eBool (t6.2.1 != t7.2.1))), (43, (eBool t6.2.2)), (44, (eBool t7.2.2))]) (H' := [(n2, .mem (e55 p0))]) ⟨rfl, rfl, rfl, trivial⟩ (Sub.refl _) ?_
                    refine AO.calmG 8 false 42 rfl rfl (congrArg (fun b => some (AV.fl (Value.bool b))) (eq_false_of_ne_true hc12)) 45 rfl (by decide) (eBool (t6.2.2 != t7.2.2)) (Calm.boolNe rfl rfl rfl Try.underlying4) ?_
                    exact AO.nilE (ρ' := [(45, (eBool (t6.2.2 != t7.2.2)))]) (H' := [(n2, .mem (e55 p0))]) ⟨⟨_, rfl, rfl⟩, Sub.refl _⟩ ⟨rfl, trivial⟩ (Sub.refl _)
                  · refine AO.weak (ρ' := [(42, (eBool (t6.2.1 != t7.2.1))), (45, (eBool (t6.2.2 != t7.2.2)))]) (H' := [(n2, .mem (e55 p0))]) ⟨rfl, rfl, trivial⟩ (Sub.refl _) ?_
                    refine AO.calm rfl 46 rfl (by decide) (eBool (t6.2.2 != t7.2.2)) (Calm.pickF rfl (congrArg (fun b => some (AV.fl (Value.bool b))) (eq_false_of_ne_true hc12)) rfl) ?_
                    exact AO.nilE (ρ' := [(46, (eBool (t6.2.2 != t7.2.2)))]) (H' := [(n2, .mem (e55 p0))]) ⟨⟨_, rfl, rfl⟩, Sub.refl _⟩ ⟨rfl, trivial⟩ (Sub.refl _)
                  · refine AO.weak (ρ' := [(46, (eBool (t6.2.2 != t7.2.2)))]) (H' := [(n2, .mem (e55 p0))]) ⟨rfl, trivial⟩ (Sub.refl _) ?_
                    refine AO.calm rfl 47 rfl (by decide) (eBool (t6.2.2 != t7.2.2)) (Calm.move rfl rfl) ?_
                    exact AO.nilE (ρ' := [(47, (eBool (t6.2.2 != t7.2.2)))]) (H' := [(n2, .mem (e55 p0))]) ⟨⟨_, rfl, rfl⟩, Sub.refl _⟩ ⟨rfl, trivial⟩ (Sub.refl _)
                  · refine AO.weak (ρ' := [(1, (.ptr n2 0)), (47, (eBool (t6.2.2 != t7.2.2)))]) (H' := [(n2, .mem (e55 p0))]) ⟨rfl, rfl, trivial⟩ (Sub.refl _) ?_
                    refine AO.calmG 13 false 47 rfl rfl (congrArg (fun b => some (AV.fl (Value.bool b))) (eq_false_of_ne_true hc13)) 48 rfl (by decide) (e55 p0) (Calm.load 0 rfl rfl rfl (At.cast At.here rfl) ag55 sz55) ?_
                    exact AO.nilE (ρ' := [(48, (e55 p0))]) (H' := [(n2, .mem (e55 p0))]) ⟨⟨_, rfl, rfl⟩, Sub.refl _⟩ ⟨rfl, trivial⟩ (Sub.refl _)
                  · refine AO.weak (ρ' := [(47, (eBool (t6.2.2 != t7.2.2))), (48, (e55 p0))]) (H' := [(n2, .mem (e55 p0))]) ⟨rfl, rfl, trivial⟩ (Sub.refl _) ?_
                    refine AO.callG 13 false 47 [(e55 p0)] (eBool t14) 49 rfl (by decide) ok43 rfl rfl (congrArg (fun b => some (AV.fl (Value.bool b))) (eq_false_of_ne_true hc13)) rfl rfl ⟨rfl, rfl, trivial⟩ (_op_Op_Right_spec et14) ?_
                    exact AO.nilE (ρ' := [(49, (eBool t14))]) (H' := [(n2, .mem (e55 p0))]) ⟨⟨_, rfl, rfl⟩, Sub.refl _⟩ ⟨rfl, trivial⟩ (Sub.refl _)
                  · refine AO.weak (ρ' := [(1, (.ptr n2 0)), (47, (eBool (t6.2.2 != t7.2.2)))]) (H' := [(n2, .mem (e55 p0))]) ⟨rfl, rfl, trivial⟩ (Sub.refl _) ?_
                    refine AO.calmG 13 false 47 rfl rfl (congrArg (fun b => some (AV.fl (Value.bool b))) (eq_false_of_ne_true hc13)) 50 rfl (by decide) (e55 p0) (Calm.load 0 rfl rfl rfl (At.cast At.here rfl) ag55 sz55) ?_
                    exact AO.nilE (ρ' := [(50, (e55 p0))]) (H' := [(n2, .mem (e55 p0))]) ⟨⟨_, rfl, rfl⟩, Sub.refl _⟩ ⟨rfl, trivial⟩ (Sub.refl _)
                  · refine AO.weak (ρ' := [(47, (eBool (t6.2.2 != t7.2.2))), (50, (e55 p0))]) (H' := [(n2, .mem (e55 p0))]) ⟨rfl, rfl, trivial⟩ (Sub.refl _) ?_
                    refine AO.callG 13 false 47 [(e55 p0)] (e60 t15) 51 rfl (by decide) ok45 rfl rfl (congrArg (fun b => some (AV.fl (Value.bool b))) (eq_false_of_ne_true hc13)) rfl rfl ⟨rfl, rfl, trivial⟩ (bosketlaw47_Ref_spec et15) ?_
                    exact AO.nilE (ρ' := [(51, (e60 t15))]) (H' := [(n2, .mem (e55 p0))]) ⟨⟨_, rfl, rfl⟩, Sub.refl _⟩ ⟨rfl, trivial⟩ (Sub.refl _)
                  · refine AO.weak (ρ' := [(47, (eBool (t6.2.2 != t7.2.2))), (51, (e60 t15))]) (H' := [(n2, .mem (e55 p0))]) ⟨rfl, rfl, trivial⟩ (Sub.refl _) ?_
                    refine AO.callG 13 false 47 [(e60 t15)] (eBool t16) 52 rfl (by decide) ok44 rfl rfl (congrArg (fun b => some (AV.fl (Value.bool b))) (eq_false_of_ne_true hc13)) rfl rfl ⟨rfl, rfl, trivial⟩ (bosketref47_Right_spec et16) ?_
                    exact AO.nilE (ρ' := [(52, (eBool t16))]) (H' := [(n2, .mem (e55 p0))]) ⟨⟨_, rfl, rfl⟩, Sub.refl _⟩ ⟨rfl, trivial⟩ (Sub.refl _)
                  · refine AO.weak (ρ' := [(47, (eBool (t6.2.2 != t7.2.2))), (49, (eBool t14)), (52, (eBool t16))]) (H' := [(n2, .mem (e55 p0))]) ⟨rfl, rfl, rfl, trivial⟩ (Sub.refl _) ?_
                    refine AO.calmG 13 false 47 rfl rfl (congrArg (fun b => some (AV.fl (Value.bool b))) (eq_false_of_ne_true hc13)) 53 rfl (by decide) (eBool (t14 != t16)) (Calm.boolNe rfl rfl rfl Try.underlying4) ?_
                    exact AO.nilE (ρ' := [(53, (eBool (t14 != t16)))]) (H' := [(n2, .mem (e55 p0))]) ⟨⟨_, rfl, rfl⟩, Sub.refl _⟩ ⟨rfl, trivial⟩ (Sub.refl _)
                  · refine AO.weak (ρ' := [(47, (eBool (t6.2.2 != t7.2.2))), (53, (eBool (t14 != t16)))]) (H' := [(n2, .mem (e55 p0))]) ⟨rfl, rfl, trivial⟩ (Sub.refl _) ?_
                    refine AO.calm rfl 54 rfl (by decide) (eBool (t14 != t16)) (Calm.pickF rfl (congrArg (fun b => some (AV.fl (Value.bool b))) (eq_false_of_ne_true hc13)) rfl) ?_
                    exact AO.nilE (ρ' := [(54, (eBool (t14 != t16)))]) (H' := [(n2, .mem (e55 p0))]) ⟨⟨_, rfl, rfl⟩, Sub.refl _⟩ ⟨rfl, trivial⟩ (Sub.refl _)
                  · refine AO.weak (ρ' := [(54, (eBool (t14 != t16)))]) (H' := [(n2, .mem (e55 p0))]) ⟨rfl, trivial⟩ (Sub.refl _) ?_
                    refine AO.calm rfl 55 rfl (by decide) (eBool (t14 != t16)) (Calm.move rfl rfl) ?_
                    exact AO.nilE (ρ' := [(55, (eBool (t14 != t16)))]) (H' := [(n2, .mem (e55 p0))]) ⟨⟨_, rfl, rfl⟩, Sub.refl _⟩ ⟨rfl, trivial⟩ (Sub.refl _)
                  · refine AO.weak (ρ' := [(55, (eBool (t14 != t16)))]) (H' := [(n2, .mem (e55 p0))]) ⟨rfl, trivial⟩ (Sub.refl _) ?_
                    refine AO.skipG 21 true 55 rfl rfl (congrArg (fun b => some (AV.fl (Value.bool b))) hc17) 56 rfl (by decide) ?_
                    exact AO.nilE (ρ' := [(56, (.fl undef))]) (H' := [(n2, .mem (e55 p0))]) ⟨⟨_, rfl, rfl⟩, Sub.refl _⟩ ⟨rfl, trivial⟩ (Sub.refl _)
                  · refine AO.weak (ρ' := [(55, (eBool (t14 != t16)))]) (H' := [(n2, .mem (e55 p0))]) ⟨rfl, trivial⟩ (Sub.refl _) ?_
                    refine AO.skipG 21 true 55 rfl rfl (congrArg (fun b => some (AV.fl (Value.bool b))) hc17) 57 rfl (by decide) ?_
                    exact AO.nilE (ρ' := [(57, (.fl undef))]) (H' := [(n2, .mem (e55 p0))]) ⟨⟨_, rfl, rfl⟩, Sub.refl _⟩ ⟨rfl, trivial⟩ (Sub.refl _)
                  · refine AO.weak (ρ' := [(55, (eBool (t14 != t16)))]) (H' := [(n2, .mem (e55 p0))]) ⟨rfl, trivial⟩ (Sub.refl _) ?_
                    refine AO.skipG 21 true 55 rfl rfl (congrArg (fun b => some (AV.fl (Value.bool b))) hc17) 58 rfl (by decide) ?_
                    exact AO.nilE (ρ' := [(58, (.fl undef))]) (H' := [(n2, .mem (e55 p0))]) ⟨⟨_, rfl, rfl⟩, Sub.refl _⟩ ⟨rfl, trivial⟩ (Sub.refl _)
                  · refine AO.weak (ρ' := [(55, (eBool (t14 != t16)))]) (H' := [(n2, .mem (e55 p0))]) ⟨rfl, trivial⟩ (Sub.refl _) ?_
                    refine AO.skipG 21 true 55 rfl rfl (congrArg (fun b => some (AV.fl (Value.bool b))) hc17) 59 rfl (by decide) ?_
                    exact AO.nilE (ρ' := [(59, (.fl undef))]) (H' := [(n2, .mem (e55 p0))]) ⟨⟨_, rfl, rfl⟩, Sub.refl _⟩ ⟨rfl, trivial⟩ (Sub.refl _)
                  · refine AO.weak (ρ' := [(55, (eBool (t14 != t16)))]) (H' := [(n2, .mem (e55 p0))]) ⟨rfl, trivial⟩ (Sub.refl _) ?_
                    refine AO.skipG 21 true 55 rfl rfl (congrArg (fun b => some (AV.fl (Value.bool b))) hc17) 60 rfl (by decide) ?_
                    exact AO.nilE (ρ' := [(60, (.fl undef))]) (H' := [(n2, .mem (e55 p0))]) ⟨⟨_, rfl, rfl⟩, Sub.refl _⟩ ⟨rfl, trivial⟩ (Sub.refl _)
                  · refine AO.weak (ρ' := [(55, (eBool (t14 != t16))), (60, (.fl undef))]) (H' := [(n2, .mem (e55 p0))]) ⟨rfl, rfl, trivial⟩ (Sub.refl _) ?_
                    refine AO.calm rfl 61 rfl (by decide) (eBool true) (Calm.pickT rfl (congrArg (fun b => some (AV.fl (Value.bool b))) hc17) rfl) ?_
                    exact AO.nilE (ρ' := [(61, (eBool true))]) (H' := [(n2, .mem (e55 p0))]) ⟨⟨_, rfl, rfl⟩, Sub.refl _⟩ ⟨rfl, trivial⟩ (Sub.refl _)
                · cases hq10
                  exact ⟨rfl, rfl, rfl⟩
              · have hq10 := (if_neg hc17).symm.trans hq10
                obtain ⟨t18, et18, hq10⟩ := of_bind hq10
                obtain ⟨t19, et19, hq10⟩ := of_bind hq10
                refine AW.regAny (by rfl) (by decide +kernel) [(eStr t6.1), (eStr t7.1), (eBool (decide (t6.1 ≠ t7.1))), (eBool (decide (t6.1 ≠ t7.1))), (eBool t6.2.1), (eBool t7.2.1), (eBool (t6.2.1 != t7.2.1)), (eBool (t6.2.1 != t7.2.1)), (eBool (t6.2.1 != t7.2.1)), (eBool t6.2.2), (eBool t7.2.2), (eBool (t6.2.2 != t7.2.2)), (eBool (t6.2.2 != t7.2.2)), (eBool (t6.2.2 != t7.2.2)), (e55 p0), (eBool t14), (e55 p0), (e60 t15), (eBool t16), (eBool (t14 != t16)), (eBool (t14 != t16)), (eBool (t14 != t16)), (eStr t8), (e55 p0), (e60 t18), (eStr t19), (eBool (decide (t8 ≠ t19))), (eBool (decide (t8 ≠ t19)))] [(1, (.ptr n2 0)), (3, (eStr t6.1)), (4, (eBool t6.2.1)), (5, (eBool t6.2.2)), (6, (eStr t7.1)), (7, (eBool t7.2.1)), (8, (eBool t7.2.2)), (9, (eStr t8))] ⟨rfl, rfl, rfl, rfl, rfl, rfl, rfl, rfl, trivial⟩ rfl ?_ [(1, (.ptr n2 0)), (3, (eStr t6.1)), (9, (eStr t8)), (61, (eBool (decide (t8 ≠ t19))))] [(n2, .mem (e55 p0))] ⟨rfl, rfl, rfl, rfl, trivial⟩ (Sub.refl _) ?_
                · refine ⟨?_, ?_, ?_, ?_, ?_, ?_, ?_, ?_, ?_, ?_, ?_, ?_, ?_, ?_, ?_, ?_, ?_, ?_, ?_, ?_, ?_, ?_, ?_, ?_, ?_, ?_, ?_, ?_, trivial⟩
                  · refine AO.weak (ρ' := [(3, (eStr t6.1))]) (H' := [(n2, .mem (e55 p0))]) ⟨rfl, trivial⟩ (Sub.refl _) ?_
                    refine AO.calm rfl 34 rfl (by decide) (eStr t6.1) (Calm.move rfl rfl) ?_
                    exact AO.nilE (ρ' := [(34, (eStr t6.1))]) (H' := [(n2, .mem (e55 p0))]) ⟨⟨_, rfl, rfl⟩, Sub.refl _⟩ ⟨rfl, trivial⟩ (Sub.refl _)
                  · refine AO.weak (ρ' := [(6, (eStr t7.1))]) (H' := [(n2, .mem (e55 p0))]) ⟨rfl, trivial⟩ (Sub.refl _) ?_
                    refine AO.calm rfl 35 rfl (by decide) (eStr t7.1) (Calm.move rfl rfl) ?_
                    exact AO.nilE (ρ' := [(35, (eStr t7.1))]) (H' := [(n2, .mem (e55 p0))]) ⟨⟨_, rfl, rfl⟩, Sub.refl _⟩ ⟨rfl, trivial⟩ (Sub.refl _)
                  · refine AO.weak (ρ' := [(34, (eStr t6.1)), (35, (eStr t7.1))]) (H' := [(n2, .mem (e55 p0))]) ⟨rfl, rfl, trivial⟩ (Sub.refl _) ?_
                    refine AO.calm rfl 36 rfl (by decide) (eBool (decide (t6.1 ≠ t7.1))) (Calm.str rfl rfl rfl rfl) ?_
                    exact AO.nilE (ρ' := [(36, (eBool (decide (t6.1 ≠ t7.1))))]) (H' := [(n2, .mem (e55 p0))]) ⟨⟨_, rfl, rfl⟩, Sub.refl _⟩ ⟨rfl, trivial⟩ (Sub.refl _)
                  · refine AO.weak (ρ' := [(36, (eBool (decide (t6.1 ≠ t7.1))))]) (H' := [(n2, .mem (e55 p0))]) ⟨rfl, trivial⟩ (Sub.refl _) ?_
                    refine AO.calm rfl 37 rfl (by decide) (eBool (decide (t6.1 ≠ t7.1))) (Calm.move rfl rfl) ?_
                    exact AO.nilE (ρ' := [(37, (eBool (decide (t6.1 ≠ t7.1))))]) (H' := [(n2, .mem (e55 p0))]) ⟨⟨_, rfl, rfl⟩, Sub.refl _⟩ ⟨rfl, trivial⟩ (Sub.refl _)
                  · refine AO.weak (ρ' := [(4, (eBool t6.2.1)), (37, (eBool (decide (t6.1 ≠ t7.1))))]) (H' := [(n2, .mem (e55 p0))]) ⟨rfl, rfl, trivial⟩ (Sub.refl _) ?_
                    refine AO.calmG 3 false 37 rfl rfl (congrArg (fun b => some (AV.fl (Value.bool b))) (decide_eq_false hc11)) 38 rfl (by decide) (eBool t6.2.1) (Calm.move rfl rfl) ?_
                    exact AO.nilE (ρ' := [(38, (eBool t6.2.1))]) (H' := [(n2, .mem (e55 p0))]) ⟨⟨_, rfl, rfl⟩, Sub.refl _⟩ ⟨rfl, trivial⟩ (Sub.refl _)
                  · refine AO.weak (ρ' := [(7, (eBool t7.2.1)), (37, (eBool (decide (t6.1 ≠ t7.1))))]) (H' := [(n2, .mem (e55 p0))]) ⟨rfl, rfl, trivial⟩ (Sub.refl _) ?_
                    refine AO.calmG 3 false 37 rfl rfl (congrArg (fun b => some (AV.fl (Value.bool b))) (decide_eq_false hc11)) 39 rfl (by decide) (eBool t7.2.1) (Calm.move rfl rfl) ?_
                    exact AO.nilE (ρ' := [(39, (eBool t7.2.1))]) (H' := [(n2, .mem (e55 p0))]) ⟨⟨_, rfl, rfl⟩, Sub.refl _⟩ ⟨rfl, trivial⟩ (Sub.refl _)
                  · refine AO.weak (ρ' := [(37, (eBool (decide (t6.1 ≠ t7.1)))), (38, (eBool t6.2.1)), (39, (eBool t7.2.1))]) (H' := [(n2, .mem (e55 p0))]) ⟨rfl, rfl, rfl, trivial⟩ (Sub.refl _) ?_
                    refine AO.calmG 3 false 37 rfl rfl (congrArg (fun b => some (AV.fl (Value.bool b))) (decide_eq_false hc11)) 40 rfl (by decide) (eBool (t6.2.1 != t7.2.1)) (Calm.boolNe rfl rfl rfl Try.underlying4) ?_
                    exact AO.nilE (ρ' := [(40, (eBool (t6.2.1 != t7.2.1)))]) (H' := [(n2, .mem (e55 p0))]) ⟨⟨_, rfl, rfl⟩, Sub.refl _⟩ ⟨rfl, trivial⟩ (Sub.refl _)
                  · refine AO.weak (ρ' := [(37, (eBool (decide (t6.1 ≠ t7.1)))), (40, (eBool (t6.2.1 != t7.2.1)))]) (H' := [(n2, .mem (e55 p0))]) ⟨rfl, rfl, trivial⟩ (Sub.refl _) ?_
                    refine AO.calm rfl 41 rfl (by decide) (eBool (t6.2.1 != t7.2.1)) (Calm.pickF rfl (congrArg (fun b => some (AV.fl (Value.bool b))) (decide_eq_false hc11)) rfl) ?_
                    exact AO.nilE (ρ' := [(41, (eBool (t6.2.1 != t7.2.1)))]) (H' := [(n2, .mem (e55 p0))]) ⟨⟨_, rfl, rfl⟩, Sub.refl _⟩ ⟨rfl, trivial⟩ (Sub.refl _)
                  · refine AO.weak (ρ' := [(41, (eBool (t6.2.1 != t7.2.1)))]) (H' := [(n2, .mem (e55 p0))]) ⟨rfl, trivial⟩ (Sub.refl _) ?_
                    refine AO.calm rfl 42 rfl (by decide) (eBool (t6.2.1 != t7.2.1)) (Calm.move rfl rfl) ?_
                    exact AO.nilE (ρ' := [(42, (eBool (t6.2.1 != t7.2.1)))]) (H' := [(n2, .mem (e55 p0))]) ⟨⟨_, rfl, rfl⟩, Sub.refl _⟩ ⟨rfl, trivial⟩ (Sub.refl _)
                  · refine AO.weak (ρ' := [(5, (eBool t6.2.2)), (42, (eBool (t6.2.1 != t7.2.1)))]) (H' := [(n2, .mem (e55 p0))]) ⟨rfl, rfl, trivial⟩ (Sub.refl _) ?_
                    refine AO.calmG 8 false 42 rfl rfl (congrArg (fun b => some (AV.fl (Value.bool b))) (eq_false_of_ne_true hc12)) 43 rfl (by decide) (eBool t6.2.2) (Calm.move rfl rfl) ?_
                    exact AO.nilE (ρ' := [(43, (eBool t6.2.2))]) (H' := [(n2, .mem (e55 p0))]) ⟨⟨_, rfl, rfl⟩, Sub.refl _⟩ ⟨rfl, trivial⟩ (Sub.refl _)
                  · refine AO.weak (ρ' := [(8, (eBool t7.2.2)), (42, (eBool (t6.2.1 != t7.2.1)))]) (H' := [(n2, .mem (e55 p0))]) ⟨rfl, rfl, trivial⟩ (Sub.refl _) ?_
                    refine AO.calmG 8 false 42 rfl rfl (congrArg (fun b => some (AV.fl (Value.bool b))) (eq_false_of_ne_true hc12)) 44 rfl (by decide) (eBool t7.2.2) (Calm.move rfl rfl) ?_
                    exact AO.nilE (ρ' := [(44, (eBool t7.2.2))]) (H' := [(n2, .mem (e55 p0))]) ⟨⟨_, rfl, rfl⟩, Sub.refl _⟩ ⟨rfl, trivial⟩ (Sub.refl _)
                  · refine AO.weak (ρ' := [(42, (eBool (t6.2.1 != t7.2.1))), (43, (eBool t6.2.2)), (44, (eBool t7.2.2))]) (H' := [(n2, .mem (e55 p0))]) ⟨rfl, rfl, rfl, trivial⟩ (Sub.refl _) ?_
                    refine AO.calmG 8 false 42 rfl rfl (congrArg (fun b => some (AV.fl (Value.bool b))) (eq_false_of_ne_true hc12)) 45 rfl (by decide) (eBool (t6.2.2 != t7.2.2)) (Calm.boolNe rfl rfl rfl Try.underlying4) ?_
                    exact AO.nilE (ρ' := [(45, (eBool (t6.2.2 != t7.2.2)))]) (H' := [(n2, .mem (e55 p0))]) ⟨⟨_, rfl, rfl⟩, Sub.refl _⟩ ⟨rfl, trivial⟩ (Sub.refl _)
                  · refine AO.weak (ρ' := [(42, (eBool (t6.2.1 != t7.2.1))), (45, (eBool (t6.2.2 != t7.2.2)))]) (H' := [(n2, .mem (e55 p0))]) ⟨rfl, rfl, trivial⟩ (Sub.refl _) ?_
                    refine AO.calm rfl 46 rfl (by decide) (eBool (t6.2.2 != t7.2.2)) (Calm.pickF rfl (congrArg (fun b => some (AV.fl (Value.bool b))) (eq_false_of_ne_true hc12)) rfl) ?_
                    exact AO.nilE (ρ' := [(46, (eBool (t6.2.2 != t7.2.2)))]) (H' := [(n2, .mem (e55 p0))]) ⟨⟨_, rfl, rfl⟩, Sub.refl _⟩ ⟨rfl, trivial⟩ (Sub.refl _)
                  · refine AO.weak (ρ' := [(46, (eBool (t6.2.2 != t7.2.2)))]) (H' := [(n2, .mem (e55 p0))]) ⟨rfl, trivial⟩ (Sub.refl _) ?_
                    refine AO.calm rfl 47 rfl (by decide) (eBool (t6.2.2 != t7.2.2)) (Calm.move rfl rfl) ?_
                    exact AO.nilE (ρ' := [(47, (eBool (t6.2.2 != t7.2.2)))]) (H' := [(n2, .mem (e55 p0))]) ⟨⟨_, rfl, rfl⟩, Sub.refl _⟩ ⟨rfl, trivial⟩ (Sub.refl _)
                  · refine AO.weak (ρ' := [(1, (.ptr n2 0)), (47, (eBool (t6.2.2 != t7.2.2)))]) (H' := [(n2, .mem (e55 p0))]) ⟨rfl, rfl, trivial⟩ (Sub.refl _) ?_
                    refine AO.calmG 13 false 47 rfl rfl (congrArg (fun b => some (AV.fl (Value.bool b))) (eq_false_of_ne_true hc13)) 48 rfl (by decide) (e55 p0) (Calm.load 0 rfl rfl rfl (At.cast At.here rfl) ag55 sz55) ?_
                    exact AO.nilE (ρ' := [(48, (e55 p0))]) (H' := [(n2, .mem (e55 p0))]) ⟨⟨_, rfl, rfl⟩, Sub.refl _⟩ ⟨rfl, trivial⟩ (Sub.refl _)
                  · refine AO.weak (ρ' := [(47, (eBool (t6.2.2 != t7.2.2))), (48, (e55 p0))]) (H' := [(n2, .mem (e55 p0))]) ⟨rfl, rfl, trivial⟩ (Sub.refl _) ?_
                    refine AO.callG 13 false 47 [(e55 p0)] (eBool t14) 49 rfl (by decide) ok43 rfl rfl (congrArg (fun b => some (AV.fl (Value.bool b))) (eq_false_of_ne_true hc13)) rfl rfl ⟨rfl, rfl, trivial⟩ (_op_Op_Right_spec et14) ?_
                    exact AO.nilE (ρ' := [(49, (eBool t14))]) (H' := [(n2, .mem (e55 p0))]) ⟨⟨_, rfl, rfl⟩, Sub.refl _⟩ ⟨rfl, trivial⟩ (Sub.refl _)
                  · refine AO.weak (ρ' := [(1, (.ptr n2 0)), (47, (eBool (t6.2.2 != t7.2.2)))]) (H' := [(n2, .mem (e55 p0))]) ⟨rfl, rfl, trivial⟩ (Sub.refl _) ?_
                    refine AO.calmG 13 false 47 rfl rfl (congrArg (fun b => some (AV.fl (Value.bool b))) (eq_false_of_ne_true hc13)) 50 rfl (by decide) (e55 p0) (Calm.load 0 rfl rfl rfl (At.cast At.here rfl) ag55 sz55) ?_
                    exact AO.nilE (ρ' := [(50, (e55 p0))]) (H' := [(n2, .mem (e55 p0))]) ⟨⟨_, rfl, rfl⟩, Sub.refl _⟩ ⟨rfl, trivial⟩ (Sub.refl _)
                  · refine AO.weak (ρ' := [(47, (eBool (t6.2.2 != t7.2.2))), (50, (e55 p0))]) (H' := [(n2, .mem (e55 p0))]) ⟨rfl, rfl, trivial⟩ (Sub.refl _) ?_
                    refine AO.callG 13 false 47 [(e55 p0)] (e60 t15) 51 rfl (by decide) ok45 rfl rfl (congrArg (fun b => some (AV.fl (Value.bool b))) (eq_false_of_ne_true hc13)) rfl rfl ⟨rfl, rfl, trivial⟩ (bosketlaw47_Ref_spec et15) ?_
                    exact AO.nilE (ρ' := [(51, (e60 t15))]) (H' := [(n2, .mem (e55 p0))]) ⟨⟨_, rfl, rfl⟩, Sub.refl _⟩ ⟨rfl, trivial⟩ (Sub.refl _)
                  · refine AO.weak (ρ' := [(47, (eBool (t6.2.2 != t7.2.2))), (51, (e60 t15))]) (H' := [(n2, .mem (e55 p0))]) ⟨rfl, rfl, trivial⟩ (Sub.refl _) ?_
                    refine AO.callG 13 false 47 [(e60 t15)] (eBool t16) 52 rfl (by decide) ok44 rfl rfl (congrArg (fun b => some (AV.fl (Value.bool b))) (eq_false_of_ne_true hc13)) rfl rfl ⟨rfl, rfl, trivial⟩ (bosketref47_Right_spec et16) ?_
                    exact AO.nilE (ρ' := [(52, (eBool t16))]) (H' := [(n2, .mem (e55 p0))]) ⟨⟨_, rfl, rfl⟩, Sub.refl _⟩ ⟨rfl, trivial⟩ (Sub.refl _)
                  · refine AO.weak (ρ' := [(47, (eBool (t6.2.2 != t7.2.2))), (49, (eBool t14)), (52, (eBool t16))]) (H' := [(n2, .mem (e55 p0))]) ⟨rfl, rfl, rfl, trivial⟩ (Sub.refl _) ?_
                    refine AO.calmG 13 false 47 rfl rfl (congrArg (fun b => some (AV.fl (Value.bool b))) (eq_false_of_ne_true hc13)) 53 rfl (by decide) (eBool (t14 != t16)) (Calm.boolNe rfl rfl rfl Try.underlying4) ?_
                    exact AO.nilE (ρ' := [(53, (eBool (t14 != t16)))]) (H' := [(n2, .mem (e55 p0))]) ⟨⟨_, rfl, rfl⟩, Sub.refl _⟩ ⟨rfl, trivial⟩ (Sub.refl _)
                  · refine AO.weak (ρ' := [(47, (eBool (t6.2.2 != t7.2.2))), (53, (eBool (t14 != t16)))]) (H' := [(n2, .mem (e55 p0))]) ⟨rfl, rfl, trivial⟩ (Sub.refl _) ?_
                    refine AO.calm rfl 54 rfl (by decide) (eBool (t14 != t16)) (Calm.pickF rfl (congrArg (fun b => some (AV.fl (Value.bool b))) (eq_false_of_ne_true hc13)) rfl) ?_
                    exact AO.nilE (ρ' := [(54, (eBool (t14 != t16)))]) (H' := [(n2, .mem (e55 p0))]) ⟨⟨_, rfl, rfl⟩, Sub.refl _⟩ ⟨rfl, trivial⟩ (Sub.refl _)
                  · refine AO.weak (ρ' := [(54, (eBool (t14 != t16)))]) (H' := [(n2, .mem (e55 p0))]) ⟨rfl, trivial⟩ (Sub.refl _) ?_
                    refine AO.calm rfl 55 rfl (by decide) (eBool (t14 != t16)) (Calm.move rfl rfl) ?_
                    exact AO.nilE (ρ' := [(55, (eBool (t14 != t16)))]) (H' := [(n2, .mem (e55 p0))]) ⟨⟨_, rfl, rfl⟩, Sub.refl _⟩ ⟨rfl, trivial⟩ (Sub.refl _)
                  · refine AO.weak (ρ' := [(9, (eStr t8)), (55, (eBool (t14 != t16)))]) (H' := [(n2, .mem (e55 p0))]) ⟨rfl, rfl, trivial⟩ (Sub.refl _) ?_
                    refine AO.calmG 21 false 55 rfl rfl (congrArg (fun b => some (AV.fl (Value.bool b))) (eq_false_of_ne_true hc17)) 56 rfl (by decide) (eStr t8) (Calm.move rfl rfl) ?_
                    exact AO.nilE (ρ' := [(56, (eStr t8))]) (H' := [(n2, .mem (e55 p0))]) ⟨⟨_, rfl, rfl⟩, Sub.refl _⟩ ⟨rfl, trivial⟩ (Sub.refl _)
                  · refine AO.weak (ρ' := [(1, (.ptr n2 0)), (55, (eBool (t14 != t16)))]) (H' := [(n2, .mem (e55 p0))]) ⟨rfl, rfl, trivial⟩ (Sub.refl _) ?_
                    refine AO.calmG 21 false 55 rfl rfl (congrArg (fun b => some (AV.fl (Value.bool b))) (eq_false_of_ne_true hc17)) 57 rfl (by decide) (e55 p0) (Calm.load 0 rfl rfl rfl (At.cast At.here rfl) ag55 sz55) ?_
                    exact AO.nilE (ρ' := [(57, (e55 p0))]) (H' := [(n2, .mem (e55 p0))]) ⟨⟨_, rfl, rfl⟩, Sub.refl _⟩ ⟨rfl, trivial⟩ (Sub.refl _)
                  · refine AO.weak (ρ' := [(55, (eBool (t14 != t16))), (57, (e55 p0))]) (H' := [(n2, .mem (e55 p0))]) ⟨rfl, rfl, trivial⟩ (Sub.refl _) ?_
                    refine AO.callG 21 false 55 [(e55 p0)] (e60 t18) 58 rfl (by decide) ok45 rfl rfl (congrArg (fun b => some (AV.fl (Value.bool b))) (eq_false_of_ne_true hc17)) rfl rfl ⟨rfl, rfl, trivial⟩ (bosketlaw47_Ref_spec et18) ?_
                    exact AO.nilE (ρ' := [(58, (e60 t18))]) (H' := [(n2, .mem (e55 p0))]) ⟨⟨_, rfl, rfl⟩, Sub.refl _⟩ ⟨rfl, trivial⟩ (Sub.refl _)
                  · refine AO.weak (ρ' := [(55, (eBool (t14 != t16))), (58, (e60 t18))]) (H' := [(n2, .mem (e55 p0))]) ⟨rfl, rfl, trivial⟩ (Sub.refl _) ?_
                    refine AO.callG 21 false 55 [(e60 t18)] (eStr t19) 59 rfl (by decide) ok46 rfl rfl (congrArg (fun b => some (AV.fl (Value.bool b))) (eq_false_of_ne_true hc17)) rfl rfl ⟨rfl, rfl, trivial⟩ (bosketref47_Line_spec et19) ?_
                    exact AO.nilE (ρ' := [(59, (eStr t19))]) (H' := [(n2, .mem (e55 p0))]) ⟨⟨_, rfl, rfl⟩, Sub.refl _⟩ ⟨rfl, trivial⟩ (Sub.refl _)
                  · refine AO.weak (ρ' := [(55, (eBool (t14 != t16))), (56, (eStr t8)), (59, (eStr t19))]) (H' := [(n2, .mem (e55 p0))]) ⟨rfl, rfl, rfl, trivial⟩ (Sub.refl _) ?_
                    refine AO.calmG 21 false 55 rfl rfl (congrArg (fun b => some (AV.fl (Value.bool b))) (eq_false_of_ne_true hc17)) 60 rfl (by decide) (eBool (decide (t8 ≠ t19))) (Calm.str rfl rfl rfl rfl) ?_
                    exact AO.nilE (ρ' := [(60, (eBool (decide (t8 ≠ t19))))]) (H' := [(n2, .mem (e55 p0))]) ⟨⟨_, rfl, rfl⟩, Sub.refl _⟩ ⟨rfl, trivial⟩ (Sub.refl _)
                  · refine AO.weak (ρ' := [(55, (eBool (t14 != t16))), (60, (eBool (decide (t8 ≠ t19))))]) (H' := [(n2, .mem (e55 p0))]) ⟨rfl, rfl, trivial⟩ (Sub.refl _) ?_
                    refine AO.calm rfl 61 rfl (by decide) (eBool (decide (t8 ≠ t19))) (Calm.pickF rfl (congrArg (fun b => some (AV.fl (Value.bool b))) (eq_false_of_ne_true hc17)) rfl) ?_
                    exact AO.nilE (ρ' := [(61, (eBool (decide (t8 ≠ t19))))]) (H' := [(n2, .mem (e55 p0))]) ⟨⟨_, rfl, rfl⟩, Sub.refl _⟩ ⟨rfl, trivial⟩ (Sub.refl _)
                · cases hq10
                  exact ⟨rfl, rfl, rfl⟩
      · by_cases hc20 : b9 = true
        · have h := (if_pos hc20).symm.trans h
          refine AW.condT' b9 rfl hc20 ?_
          refine AW.seq ?_
          refine AW.reg ?_
          refine AO.calm rfl 2 rfl (by decide) (eBool false) (Calm.assign rfl rfl) ?_
          refine AO.nil (ρ' := [(2, (eBool false))]) (H' := []) ⟨rfl, trivial⟩ (Sub.nil _) ?_
          refine AW.ret (ρ' := [(2, (eBool false))]) (H' := []) ⟨rfl, trivial⟩ (Sub.refl _) ?_
          have hr := Option.some.inj h
          subst hr
          exact ⟨[(eBool false)], ⟨rfl, rfl, trivial⟩, rfl⟩
        · have h := (if_neg hc20).symm.trans h
          refine AW.condF' b9 rfl hc20 ?_
          refine AW.skip (ρ' := [(1, (.ptr n2 0)), (3, (eStr t6.1)), (9, (eStr t8))]) (H' := [(n2, .mem (e55 p0))]) ⟨rfl, rfl, rfl, trivial⟩ (Sub.refl _) ?_
          refine AW.seq ?_
          refine AW.seq ?_
          refine AW.reg ?_
          refine AO.calm rfl 62 rfl (by decide) (e55 p0) (Calm.load 0 rfl rfl rfl (At.cast At.here rfl) ag55 sz55) ?_
          obtain ⟨t21, et21, h⟩ := of_bind h
          refine AO.callS [(e55 p0)] (eBool t21) 63 rfl (by decide) ok43 rfl rfl rfl ⟨rfl, rfl, trivial⟩ (_op_Op_Right_spec et21) ?_
          refine AO.calm rfl 64 rfl (by decide) (eBool (!t21)) (Calm.not rfl rfl) ?_
          refine AO.nil (ρ' := [(1, (.ptr n2 0)), (3, (eStr t6.1)), (9, (eStr t8)), (64, (eBool (!t21)))]) (H' := [(n2, .mem (e55 p0))]) ⟨rfl, rfl, rfl, rfl, trivial⟩ (Sub.refl _) ?_
          by_cases hc22 : (!t21) = true
          · have h := (if_pos hc22).symm.trans h
            refine AW.condT' (!t21) rfl hc22 ?_
            refine AW.seq ?_
            refine AW.reg ?_
            refine AO.calm rfl 65 rfl (by decide) (eStr t8) (Calm.move rfl rfl) ?_
            refine AO.calm rfl 66 rfl (by decide) (eBool (decide (t8 = (ByteArray.mk #[])))) (Calm.str rfl rfl rfl rfl) ?_
            refine AO.calm rfl 2 rfl (by decide) (eBool (decide (t8 = (ByteArray.mk #[])))) (Calm.assign rfl rfl) ?_
            refine AO.nil (ρ' := [(2, (eBool (decide (t8 = (ByteArray.mk #[])))))]) (H' := []) ⟨rfl, trivial⟩ (Sub.nil _) ?_
            refine AW.ret (ρ' := [(2, (eBool (decide (t8 = (ByteArray.mk #[])))))]) (H' := []) ⟨rfl, trivial⟩ (Sub.refl _) ?_
            have hr := Option.some.inj h
            subst hr
            exact ⟨[(eBool (decide (t8 = (ByteArray.mk #[]))))], ⟨rfl, rfl, trivial⟩, rfl⟩
          · have h := (if_neg hc22).symm.trans h
            refine AW.condF' (!t21) rfl hc22 ?_
            refine AW.skip (ρ' := [(1, (.ptr n2 0)), (3, (eStr t6.1)), (9, (eStr t8))]) (H' := [(n2, .mem (e55 p0))]) ⟨rfl, rfl, rfl, trivial⟩ (Sub.refl _) ?_
            refine AW.seq ?_
            refine AW.reg ?_
            refine AO.calm rfl 68 rfl (by decide) (eStr t8) (Calm.move rfl rfl) ?_
            obtain ⟨t23, et23, h⟩ := of_bind h
            refine AO.callS [(eStr t8)] (.tup [(e55 t23.1), (eI64 t23.2)]) 69 rfl (by decide) ok47 rfl rfl rfl ⟨rfl, rfl, trivial⟩ (op_Read_spec et23) ?_
            refine AO.calm rfl 67 rfl (by decide) (.tup [(e55 t23.1), (eI64 t23.2)]) (Calm.move rfl rfl) ?_
            refine AO.calm rfl 70 rfl (by decide) (e55 t23.1) (Calm.extract rfl rfl rfl) ?_
            refine AO.calm rfl 71 rfl (by decide) (eI64 t23.2) (Calm.extract rfl rfl rfl) ?_
            refine AO.alloc rfl 10 rfl (by decide) rfl zr55 lay55 fun n24 => ?_
            refine AO.store (X' := (e55 t23.1)) 0 rfl rfl rfl rfl rfl rfl (Put.cast Put.here rfl) rfl rfl sz55 rfl ?_
            refine AO.calm rfl 11 rfl (by decide) (eI64 t23.2) (Calm.assign rfl rfl) ?_
            refine AO.nil (ρ' := [(1, (.ptr n2 0)), (3, (eStr t6.1)), (10, (.ptr n24 0)), (11, (eI64 t23.2))]) (H' := [(n2, .mem (e55 p0)), (n24, .mem (e55 t23.1))]) ⟨rfl, rfl, rfl, rfl, trivial⟩ (Sub.cons 1 rfl (Sub.cons 0 rfl (Sub.nil _))) ?_
            refine AW.seq ?_
            obtain ⟨b25, hq26, h⟩ := of_bind h
            refine AW.regQM (by rfl) (by decide +kernel) [(2, (eBool b25))] ?_ ?_
            · refine AQ.calm rfl 72 rfl (by decide) (eI64 t23.2) (Calm.move rfl rfl) ?_
              refine AQ.calm rfl 73 rfl (by decide) (eBool (decide (t23.2 = (0 : Int)))) (Calm.int rfl rfl rfl rfl) ?_
              refine AQ.calm rfl 74 rfl (by decide) (eBool (decide (t23.2 = (0 : Int)))) (Calm.move rfl rfl) ?_
              by_cases hc27 : t23.2 = (0 : Int)
              · have hq26 := (if_pos hc27).symm.trans hq26
                refine AQ.calmG 2 true 74 rfl rfl (congrArg (fun b => some (AV.fl (Value.bool b))) (decide_eq_true hc27)) 75 rfl (by decide) (e55 t23.1) (Calm.load 1 rfl rfl rfl (At.cast At.here rfl) ag55 sz55) ?_
                refine AQ.calmG 2 true 74 rfl rfl (congrArg (fun b => some (AV.fl (Value.bool b))) (decide_eq_true hc27)) 76 rfl (by decide) (e55 p0) (Calm.load 0 rfl rfl rfl (At.cast At.here rfl) ag55 sz55) ?_
                refine AQ.calmG 2 true 74 rfl rfl (congrArg (fun b => some (AV.fl (Value.bool b))) (decide_eq_true hc27)) 77 rfl (by decide) (eBool (decide (t23.1 = p0))) (Calm.eqS rfl rfl rfl eg55 (eqk55 t23.1 p0) (by decide)) ?_
                refine AQ.calm rfl 78 rfl (by decide) (eBool (decide (t23.1 = p0))) (Calm.pickT rfl (congrArg (fun b => some (AV.fl (Value.bool b))) (decide_eq_true hc27)) rfl) ?_
                refine AQ.calm rfl 79 rfl (by decide) (eBool (decide (t23.1 = p0))) (Calm.move rfl rfl) ?_
                by_cases hc28 : t23.1 = p0
                · have hq26 := (if_pos hc28).symm.trans hq26
                  refine AQ.calmG 7 true 79 rfl rfl (congrArg (fun b => some (AV.fl (Value.bool b))) (decide_eq_true hc28)) 80 rfl (by decide) (eStr t6.1) (Calm.move rfl rfl) ?_
                  obtain ⟨t29, et29, hq26⟩ := of_bind hq26
                  refine AQ.calmG 7 true 79 rfl rfl (congrArg (fun b => some (AV.fl (Value.bool b))) (decide_eq_true hc28)) 81 rfl (by decide) (eI64 t29) (Calm.call (args := [(eStr t6.1)]) rfl rfl ok48 ⟨rfl, rfl, trivial⟩ rfl (op_Kind_spec et29)) ?_
                  refine AQ.calmG 7 true 79 rfl rfl (congrArg (fun b => some (AV.fl (Value.bool b))) (decide_eq_true hc28)) 82 rfl (by decide) (.ptr n2 0) (Calm.fldPtr rfl rfl Try.underlying55 rfl sz3 _ rfl) ?_
                  refine AQ.calmG 7 true 79 rfl rfl (congrArg (fun b => some (AV.fl (Value.bool b))) (decide_eq_true hc28)) 83 rfl (by decide) (eI64 p0.f0) (Calm.load 0 rfl rfl rfl (At.cast (At.fld0 At.here) rfl) ag3 sz3) ?_
                  refine AQ.calmG 7 true 79 rfl rfl (congrArg (fun b => some (AV.fl (Value.bool b))) (decide_eq_true hc28)) 84 rfl (by decide) (eBool (decide (t29 = p0.f0))) (Calm.int rfl rfl rfl rfl) ?_
                  refine AQ.calm rfl 85 rfl (by decide) (eBool (decide (t29 = p0.f0))) (Calm.pickT rfl (congrArg (fun b => some (AV.fl (Value.bool b))) (decide_eq_true hc28)) rfl) ?_
                  refine AQ.calm rfl 2 rfl (by decide) (eBool (decide (t29 = p0.f0))) (Calm.assign rfl rfl) ?_
                  cases hq26
                  refine AQ.nilE rfl ?_
                  exact ⟨rfl, trivial⟩
                · have hq26 := (if_neg hc28).symm.trans hq26
                  refine AQ.skipG 7 false 79 rfl rfl (congrArg (fun b => some (AV.fl (Value.bool b))) (decide_eq_false hc28)) 80 rfl (by decide) ?_
                  refine AQ.skipG 7 false 79 rfl rfl (congrArg (fun b => some (AV.fl (Value.bool b))) (decide_eq_false hc28)) 81 rfl (by decide) ?_
                  refine AQ.skipG 7 false 79 rfl rfl (congrArg (fun b => some (AV.fl (Value.bool b))) (decide_eq_false hc28)) 82 rfl (by decide) ?_
                  refine AQ.skipG 7 false 79 rfl rfl (congrArg (fun b => some (AV.fl (Value.bool b))) (decide_eq_false hc28)) 83 rfl (by decide) ?_
                  refine AQ.skipG 7 false 79 rfl rfl (congrArg (fun b => some (AV.fl (Value.bool b))) (decide_eq_false hc28)) 84 rfl (by decide) ?_
                  refine AQ.calm rfl 85 rfl (by decide) (eBool false) (Calm.pickF rfl (congrArg (fun b => some (AV.fl (Value.bool b))) (decide_eq_false hc28)) rfl) ?_
                  refine AQ.calm rfl 2 rfl (by decide) (eBool false) (Calm.assign rfl rfl) ?_
                  cases hq26
                  refine AQ.nilE rfl ?_
                  exact ⟨rfl, trivial⟩
              · have hq26 := (if_neg hc27).symm.trans hq26
                refine AQ.skipG 2 false 74 rfl rfl (congrArg (fun b => some (AV.fl (Value.bool b))) (decide_eq_false hc27)) 75 rfl (by decide) ?_
                refine AQ.skipG 2 false 74 rfl rfl (congrArg (fun b => some (AV.fl (Value.bool b))) (decide_eq_false hc27)) 76 rfl (by decide) ?_
                refine AQ.skipG 2 false 74 rfl rfl (congrArg (fun b => some (AV.fl (Value.bool b))) (decide_eq_false hc27)) 77 rfl (by decide) ?_
                refine AQ.calm rfl 78 rfl (by decide) (eBool false) (Calm.pickF rfl (congrArg (fun b => some (AV.fl (Value.bool b))) (decide_eq_false hc27)) rfl) ?_
                refine AQ.calm rfl 79 rfl (by decide) (eBool false) (Calm.move rfl rfl) ?_
                refine AQ.skipG 7 false 79 rfl rfl rfl 80 rfl (by decide) ?_
                refine AQ.skipG 7 false 79 rfl rfl rfl 81 rfl (by decide) ?_
                refine AQ.skipG 7 false 79 rfl rfl rfl 82 rfl (by decide) ?_
                refine AQ.skipG 7 false 79 rfl rfl rfl 83 rfl (by decide) ?_
                refine AQ.skipG 7 false 79 rfl rfl rfl 84 rfl (by decide) ?_
                refine AQ.calm rfl 85 rfl (by decide) (eBool false) (Calm.pickF rfl rfl rfl) ?_
                refine AQ.calm rfl 2 rfl (by decide) (eBool false) (Calm.assign rfl rfl) ?_
                cases hq26
                refine AQ.nilE rfl ?_
                exact ⟨rfl, trivial⟩
            · refine AW.ret (ρ' := [(2, (eBool b25))]) (H' := []) ⟨rfl, trivial⟩ (Sub.nil _) ?_
              have hr := Option.some.inj h
              subst hr
              exact ⟨[(eBool b25)], ⟨rfl, rfl, trivial⟩, rfl⟩
end Go.Avl.T2
