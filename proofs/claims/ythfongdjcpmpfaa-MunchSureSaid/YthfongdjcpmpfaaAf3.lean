/- bosket/bosketlaw12.MunchLongest; printed by avmain.py. -/
import Derived.Test.YthfongdjcpmpfaaAB
import Derived.Test.YthfongdjcpmpfaaAf12
import Derived.Test.YthfongdjcpmpfaaAf13
import Derived.Test.YthfongdjcpmpfaaAf14
import Derived.Test.YthfongdjcpmpfaaAf15
import Derived.Test.YthfongdjcpmpfaaAf16
import Derived.Test.YthfongdjcpmpfaaAf17
namespace Go.Avl.T1
open Go Go.RowKit Go.Proofs Go.Avl
set_option linter.unusedVariables false
set_option maxRecDepth 100000
set_option maxHeartbeats 4000000
attribute [local irreducible] AW AO AQ Spec SpecH Calm

def bosketlaw12_MunchLongest_c0 (k : Nat) (p0 : S26) (p1 : ByteArray) (t14 : (Int × Int)) (t15 : (Int × Int)) (x17 : Int) : Option Bool :=
  Option.bind (α := Bool) (if t14.1 = t15.1 then if t14.2 = t15.2 then (munch_Alone k p0 p1).bind fun t22 =>
  some (decide (t22 = x17))
  else some (false)
  else some (false)) fun b18 =>
  some (b18)
def bosketlaw12_MunchLongest (k : Nat) (p0 : S26) (p1 : ByteArray) (p2 : Int) : Option Bool :=
  (bosketlaw12_awake k).bind fun t5 =>
  if (!t5) = true then some (false)
  else Option.bind (α := Bool) ((bosketlaw08_Small k p0).bind fun t9 =>
  if (!t9) = true then some (true)
  else (bosketref08_Right k p0).bind fun t11 =>
  if (!t11) = true then some (true)
  else some (decide ((60 : Int) < (p1.size : Int)))) fun b7 =>
  if b7 = true then some (true)
  else (munch_Longest k p0 p1 p2).bind fun t14 =>
  (bosketref12_Longest k p0 p1 p2).bind fun t15 =>
  (bosketref12_Longest k p0 p1 (0 : Int)).bind fun t16 =>
  Option.bind (α := Bool) (if p1 = (ByteArray.mk #[]) then some (true)
  else some (decide (t16.2 ≠ (p1.size : Int)))) fun b23 =>
  if b23 = true then bosketlaw12_MunchLongest_c0 k p0 p1 t14 t15 (-1 : Int)
  else bosketlaw12_MunchLongest_c0 k p0 p1 t14 t15 t16.1
theorem bosketlaw12_MunchLongest_spec {k : Nat} {p0 : S26} {p1 : ByteArray} {p2 : Int} {r : Bool} (h : bosketlaw12_MunchLongest k p0 p1 p2 = some r) : Spec Try.prog 3 [(e26 p0), (eStr p1), (eI64 p2)] (eBool r) := by
  rw [bosketlaw12_MunchLongest.eq_1] at h
  refine Spec.intro (res := [.tmp 6]) Try.func3 rfl rfl rfl (Nat.le_of_ble_eq_true rfl) ?_
  refine AW.seq ?_
  refine AW.reg ?_
  refine AO.box rfl 3 rfl (by decide) rfl rfl rfl fun n4 => ?_
  refine AO.calm rfl 6 rfl (by decide) (eBool false) (Calm.assign rfl rfl) ?_
  refine AO.nil (ρ' := [(1, (eStr p1)), (2, (eI64 p2)), (3, (.ptr n4 0))]) (H' := [(n4, .mem (e26 p0))]) ⟨rfl, rfl, rfl, trivial⟩ (Sub.refl _) ?_
  refine AW.seq ?_
  refine AW.seq ?_
  refine AW.reg ?_
  obtain ⟨t5, et5, h⟩ := of_bind h
  refine AO.callS [] (eBool t5) 13 rfl (by decide) ok12 rfl rfl rfl trivial (bosketlaw12_awake_spec et5) ?_
  refine AO.calm rfl 14 rfl (by decide) (eBool (!t5)) (Calm.not rfl rfl) ?_
  refine AO.nil (ρ' := [(1, (eStr p1)), (2, (eI64 p2)), (3, (.ptr n4 0)), (14, (eBool (!t5)))]) (H' := [(n4, .mem (e26 p0))]) ⟨rfl, rfl, rfl, rfl, trivial⟩ (Sub.refl _) ?_
  by_cases hc6 : (!t5) = true
  · have h := (if_pos hc6).symm.trans h
    refine AW.condT' (!t5) rfl hc6 ?_
    refine AW.seq ?_
    refine AW.reg ?_
    refine AO.calm rfl 6 rfl (by decide) (eBool false) (Calm.assign rfl rfl) ?_
    refine AO.nil (ρ' := [(6, (eBool false))]) (H' := []) ⟨rfl, trivial⟩ (Sub.nil _) ?_
    refine AW.ret (ρ' := [(6, (eBool false))]) (H' := []) ⟨rfl, trivial⟩ (Sub.refl _) ?_
    have hr := Option.some.inj h
    subst hr
    exact ⟨[(eBool false)], ⟨rfl, rfl, trivial⟩, rfl⟩
  · have h := (if_neg hc6).symm.trans h
    refine AW.condF' (!t5) rfl hc6 ?_
    refine AW.skip (ρ' := [(1, (eStr p1)), (2, (eI64 p2)), (3, (.ptr n4 0))]) (H' := [(n4, .mem (e26 p0))]) ⟨rfl, rfl, rfl, trivial⟩ (Sub.refl _) ?_
    refine AW.seq ?_
    refine AW.seq ?_
    obtain ⟨b7, hq8, h⟩ := of_bind h
    refine AW.regM [(1, (eStr p1)), (2, (eI64 p2)), (3, (.ptr n4 0)), (27, (eBool b7))] [(n4, .mem (e26 p0))] ?_ ?_
    · refine AO.calm rfl 15 rfl (by decide) (e26 p0) (Calm.load 0 rfl rfl rfl (At.cast At.here rfl) ag26 sz26) ?_
      obtain ⟨t9, et9, hq8⟩ := of_bind hq8
      refine AO.callS [(e26 p0)] (eBool t9) 16 rfl (by decide) ok13 rfl rfl rfl ⟨rfl, rfl, trivial⟩ (bosketlaw08_Small_spec et9) ?_
      refine AO.calm rfl 17 rfl (by decide) (eBool (!t9)) (Calm.not rfl rfl) ?_
      refine AO.calm rfl 18 rfl (by decide) (eBool (!t9)) (Calm.move rfl rfl) ?_
      by_cases hc10 : (!t9) = true
      · have hq8 := (if_pos hc10).symm.trans hq8
        refine AO.skipG 3 true 18 rfl rfl (congrArg (fun b => some (AV.fl (Value.bool b))) hc10) 19 rfl (by decide) ?_
        refine AO.skipG 3 true 18 rfl rfl (congrArg (fun b => some (AV.fl (Value.bool b))) hc10) 20 rfl (by decide) ?_
        refine AO.skipG 3 true 18 rfl rfl (congrArg (fun b => some (AV.fl (Value.bool b))) hc10) 21 rfl (by decide) ?_
        refine AO.calm rfl 22 rfl (by decide) (eBool true) (Calm.pickT rfl (congrArg (fun b => some (AV.fl (Value.bool b))) hc10) rfl) ?_
        refine AO.calm rfl 23 rfl (by decide) (eBool true) (Calm.move rfl rfl) ?_
        refine AO.skipG 8 true 23 rfl rfl rfl 24 rfl (by decide) ?_
        refine AO.skipG 8 true 23 rfl rfl rfl 25 rfl (by decide) ?_
        refine AO.skipG 8 true 23 rfl rfl rfl 26 rfl (by decide) ?_
        refine AO.calm rfl 27 rfl (by decide) (eBool true) (Calm.pickT rfl rfl rfl) ?_
        cases hq8
        refine AO.nilE ⟨rfl, rfl⟩ ?_ ?_
        · exact ⟨rfl, rfl, rfl, rfl, trivial⟩
        · exact (Sub.refl _)
      · have hq8 := (if_neg hc10).symm.trans hq8
        refine AO.calmG 3 false 18 rfl rfl (congrArg (fun b => some (AV.fl (Value.bool b))) (eq_false_of_ne_true hc10)) 19 rfl (by decide) (e26 p0) (Calm.load 0 rfl rfl rfl (At.cast At.here rfl) ag26 sz26) ?_
        obtain ⟨t11, et11, hq8⟩ := of_bind hq8
        refine AO.callG 3 false 18 [(e26 p0)] (eBool t11) 20 rfl (by decide) ok14 rfl rfl (congrArg (fun b => some (AV.fl (Value.bool b))) (eq_false_of_ne_true hc10)) rfl rfl ⟨rfl, rfl, trivial⟩ (bosketref08_Right_spec et11) ?_
        refine AO.calmG 3 false 18 rfl rfl (congrArg (fun b => some (AV.fl (Value.bool b))) (eq_false_of_ne_true hc10)) 21 rfl (by decide) (eBool (!t11)) (Calm.not rfl rfl) ?_
        refine AO.calm rfl 22 rfl (by decide) (eBool (!t11)) (Calm.pickF rfl (congrArg (fun b => some (AV.fl (Value.bool b))) (eq_false_of_ne_true hc10)) rfl) ?_
        refine AO.calm rfl 23 rfl (by decide) (eBool (!t11)) (Calm.move rfl rfl) ?_
        by_cases hc12 : (!t11) = true
        · have hq8 := (if_pos hc12).symm.trans hq8
          refine AO.skipG 8 true 23 rfl rfl (congrArg (fun b => some (AV.fl (Value.bool b))) hc12) 24 rfl (by decide) ?_
          refine AO.skipG 8 true 23 rfl rfl (congrArg (fun b => some (AV.fl (Value.bool b))) hc12) 25 rfl (by decide) ?_
          refine AO.skipG 8 true 23 rfl rfl (congrArg (fun b => some (AV.fl (Value.bool b))) hc12) 26 rfl (by decide) ?_
          refine AO.calm rfl 27 rfl (by decide) (eBool true) (Calm.pickT rfl (congrArg (fun b => some (AV.fl (Value.bool b))) hc12) rfl) ?_
          cases hq8
          refine AO.nilE ⟨rfl, rfl⟩ ?_ ?_
          · exact ⟨rfl, rfl, rfl, rfl, trivial⟩
          · exact (Sub.refl _)
        · have hq8 := (if_neg hc12).symm.trans hq8
          refine AO.calmG 8 false 23 rfl rfl (congrArg (fun b => some (AV.fl (Value.bool b))) (eq_false_of_ne_true hc12)) 24 rfl (by decide) (eStr p1) (Calm.move rfl rfl) ?_
          refine AO.calmG 8 false 23 rfl rfl (congrArg (fun b => some (AV.fl (Value.bool b))) (eq_false_of_ne_true hc12)) 25 rfl (by decide) (eI64 (p1.size : Int)) (Calm.lenStr rfl rfl Try.underlying9) ?_
          refine AO.calmG 8 false 23 rfl rfl (congrArg (fun b => some (AV.fl (Value.bool b))) (eq_false_of_ne_true hc12)) 26 rfl (by decide) (eBool (decide ((60 : Int) < (p1.size : Int)))) (Calm.int rfl rfl rfl rfl) ?_
          refine AO.calm rfl 27 rfl (by decide) (eBool (decide ((60 : Int) < (p1.size : Int)))) (Calm.pickF rfl (congrArg (fun b => some (AV.fl (Value.bool b))) (eq_false_of_ne_true hc12)) rfl) ?_
          cases hq8
          refine AO.nilE ⟨rfl, rfl⟩ ?_ ?_
          · exact ⟨rfl, rfl, rfl, rfl, trivial⟩
          · exact (Sub.refl _)
    · by_cases hc13 : b7 = true
      · have h := (if_pos hc13).symm.trans h
        refine AW.condT' b7 rfl hc13 ?_
        refine AW.seq ?_
        refine AW.reg ?_
        refine AO.calm rfl 6 rfl (by decide) (eBool true) (Calm.assign rfl rfl) ?_
        refine AO.nil (ρ' := [(6, (eBool true))]) (H' := []) ⟨rfl, trivial⟩ (Sub.nil _) ?_
        refine AW.ret (ρ' := [(6, (eBool true))]) (H' := []) ⟨rfl, trivial⟩ (Sub.refl _) ?_
        have hr := Option.some.inj h
        subst hr
        exact ⟨[(eBool true)], ⟨rfl, rfl, trivial⟩, rfl⟩
      · have h := (if_neg hc13).symm.trans h
        refine AW.condF' b7 rfl hc13 ?_
        refine AW.skip (ρ' := [(1, (eStr p1)), (2, (eI64 p2)), (3, (.ptr n4 0))]) (H' := [(n4, .mem (e26 p0))]) ⟨rfl, rfl, rfl, trivial⟩ (Sub.refl _) ?_
        refine AW.seq ?_
        refine AW.reg ?_
        refine AO.calm rfl 29 rfl (by decide) (e26 p0) (Calm.load 0 rfl rfl rfl (At.cast At.here rfl) ag26 sz26) ?_
        refine AO.calm rfl 30 rfl (by decide) (eStr p1) (Calm.move rfl rfl) ?_
        refine AO.calm rfl 31 rfl (by decide) (eI64 p2) (Calm.move rfl rfl) ?_
        obtain ⟨t14, et14, h⟩ := of_bind h
        refine AO.callS [(e26 p0), (eStr p1), (eI64 p2)] (.tup [(eI64 t14.1), (eI64 t14.2)]) 32 rfl (by decide) ok15 rfl rfl rfl ⟨rfl, rfl, rfl, rfl, rfl, rfl, trivial⟩ (munch_Longest_spec et14) ?_
        refine AO.calm rfl 28 rfl (by decide) (.tup [(eI64 t14.1), (eI64 t14.2)]) (Calm.move rfl rfl) ?_
        refine AO.calm rfl 33 rfl (by decide) (eI64 t14.1) (Calm.extract rfl rfl rfl) ?_
        refine AO.calm rfl 34 rfl (by decide) (eI64 t14.2) (Calm.extract rfl rfl rfl) ?_
        refine AO.calm rfl 7 rfl (by decide) (eI64 t14.1) (Calm.assign rfl rfl) ?_
        refine AO.calm rfl 8 rfl (by decide) (eI64 t14.2) (Calm.assign rfl rfl) ?_
        refine AO.nil (ρ' := [(1, (eStr p1)), (2, (eI64 p2)), (3, (.ptr n4 0)), (7, (eI64 t14.1)), (8, (eI64 t14.2))]) (H' := [(n4, .mem (e26 p0))]) ⟨rfl, rfl, rfl, rfl, rfl, trivial⟩ (Sub.refl _) ?_
        refine AW.seq ?_
        refine AW.reg ?_
        refine AO.calm rfl 36 rfl (by decide) (e26 p0) (Calm.load 0 rfl rfl rfl (At.cast At.here rfl) ag26 sz26) ?_
        refine AO.calm rfl 37 rfl (by decide) (eStr p1) (Calm.move rfl rfl) ?_
        refine AO.calm rfl 38 rfl (by decide) (eI64 p2) (Calm.move rfl rfl) ?_
        obtain ⟨t15, et15, h⟩ := of_bind h
        refine AO.callS [(e26 p0), (eStr p1), (eI64 p2)] (.tup [(eI64 t15.1), (eI64 t15.2)]) 39 rfl (by decide) ok16 rfl rfl rfl ⟨rfl, rfl, rfl, rfl, rfl, rfl, trivial⟩ (bosketref12_Longest_spec et15) ?_
        refine AO.calm rfl 35 rfl (by decide) (.tup [(eI64 t15.1), (eI64 t15.2)]) (Calm.move rfl rfl) ?_
        refine AO.calm rfl 40 rfl (by decide) (eI64 t15.1) (Calm.extract rfl rfl rfl) ?_
        refine AO.calm rfl 41 rfl (by decide) (eI64 t15.2) (Calm.extract rfl rfl rfl) ?_
        refine AO.calm rfl 9 rfl (by decide) (eI64 t15.1) (Calm.assign rfl rfl) ?_
        refine AO.calm rfl 10 rfl (by decide) (eI64 t15.2) (Calm.assign rfl rfl) ?_
        refine AO.nil (ρ' := [(1, (eStr p1)), (3, (.ptr n4 0)), (7, (eI64 t14.1)), (8, (eI64 t14.2)), (9, (eI64 t15.1)), (10, (eI64 t15.2))]) (H' := [(n4, .mem (e26 p0))]) ⟨rfl, rfl, rfl, rfl, rfl, rfl, trivial⟩ (Sub.refl _) ?_
        refine AW.seq ?_
        refine AW.reg ?_
        refine AO.calm rfl 43 rfl (by decide) (e26 p0) (Calm.load 0 rfl rfl rfl (At.cast At.here rfl) ag26 sz26) ?_
        refine AO.calm rfl 44 rfl (by decide) (eStr p1) (Calm.move rfl rfl) ?_
        obtain ⟨t16, et16, h⟩ := of_bind h
        refine AO.callS [(e26 p0), (eStr p1), (eI64 (0 : Int))] (.tup [(eI64 t16.1), (eI64 t16.2)]) 45 rfl (by decide) ok16 rfl rfl rfl ⟨rfl, rfl, rfl, rfl, rfl, rfl, trivial⟩ (bosketref12_Longest_spec et16) ?_
        refine AO.calm rfl 42 rfl (by decide) (.tup [(eI64 t16.1), (eI64 t16.2)]) (Calm.move rfl rfl) ?_
        refine AO.calm rfl 46 rfl (by decide) (eI64 t16.1) (Calm.extract rfl rfl rfl) ?_
        refine AO.calm rfl 47 rfl (by decide) (eI64 t16.2) (Calm.extract rfl rfl rfl) ?_
        refine AO.calm rfl 11 rfl (by decide) (eI64 t16.1) (Calm.assign rfl rfl) ?_
        refine AO.calm rfl 12 rfl (by decide) (eI64 t16.2) (Calm.assign rfl rfl) ?_
        refine AO.nil (ρ' := [(1, (eStr p1)), (3, (.ptr n4 0)), (7, (eI64 t14.1)), (8, (eI64 t14.2)), (9, (eI64 t15.1)), (10, (eI64 t15.2)), (11, (eI64 t16.1)), (12, (eI64 t16.2))]) (H' := [(n4, .mem (e26 p0))]) ⟨rfl, rfl, rfl, rfl, rfl, rfl, rfl, rfl, trivial⟩ (Sub.refl _) ?_
        refine AW.seq_mid (fun ρ H => ∃ (x17 : Int), ρ = [(1, (eStr p1)), (3, (.ptr n4 0)), (7, (eI64 t14.1)), (8, (eI64 t14.2)), (9, (eI64 t15.1)), (10, (eI64 t15.2)), (11, (eI64 x17))] ∧ H = [(n4, .mem (e26 p0))] ∧ bosketlaw12_MunchLongest_c0 k p0 p1 t14 t15 x17 = some r) ?_ ?_
        · refine AW.seq ?_
          obtain ⟨b23, hq24, h⟩ := of_bind h
          refine AW.regM [(1, (eStr p1)), (3, (.ptr n4 0)), (7, (eI64 t14.1)), (8, (eI64 t14.2)), (9, (eI64 t15.1)), (10, (eI64 t15.2)), (11, (eI64 t16.1)), (55, (eBool b23))] [(n4, .mem (e26 p0))] ?_ ?_
          · refine AO.calm rfl 48 rfl (by decide) (eStr p1) (Calm.move rfl rfl) ?_
            refine AO.calm rfl 49 rfl (by decide) (eBool (decide (p1 = (ByteArray.mk #[])))) (Calm.str rfl rfl rfl rfl) ?_
            refine AO.calm rfl 50 rfl (by decide) (eBool (decide (p1 = (ByteArray.mk #[])))) (Calm.move rfl rfl) ?_
            by_cases hc25 : p1 = (ByteArray.mk #[])
            · have hq24 := (if_pos hc25).symm.trans hq24
              refine AO.skipG 2 true 50 rfl rfl (congrArg (fun b => some (AV.fl (Value.bool b))) (decide_eq_true hc25)) 51 rfl (by decide) ?_
              refine AO.skipG 2 true 50 rfl rfl (congrArg (fun b => some (AV.fl (Value.bool b))) (decide_eq_true hc25)) 52 rfl (by decide) ?_
              refine AO.skipG 2 true 50 rfl rfl (congrArg (fun b => some (AV.fl (Value.bool b))) (decide_eq_true hc25)) 53 rfl (by decide) ?_
              refine AO.skipG 2 true 50 rfl rfl (congrArg (fun b => some (AV.fl (Value.bool b))) (decide_eq_true hc25)) 54 rfl (by decide) ?_
              refine AO.calm rfl 55 rfl (by decide) (eBool true) (Calm.pickT rfl (congrArg (fun b => some (AV.fl (Value.bool b))) (decide_eq_true hc25)) rfl) ?_
              cases hq24
              refine AO.nilE ⟨rfl, rfl⟩ ?_ ?_
              · exact ⟨rfl, rfl, rfl, rfl, rfl, rfl, rfl, rfl, trivial⟩
              · exact (Sub.refl _)
            · have hq24 := (if_neg hc25).symm.trans hq24
              refine AO.calmG 2 false 50 rfl rfl (congrArg (fun b => some (AV.fl (Value.bool b))) (decide_eq_false hc25)) 51 rfl (by decide) (eI64 t16.2) (Calm.move rfl rfl) ?_
              refine AO.calmG 2 false 50 rfl rfl (congrArg (fun b => some (AV.fl (Value.bool b))) (decide_eq_false hc25)) 52 rfl (by decide) (eStr p1) (Calm.move rfl rfl) ?_
              refine AO.calmG 2 false 50 rfl rfl (congrArg (fun b => some (AV.fl (Value.bool b))) (decide_eq_false hc25)) 53 rfl (by decide) (eI64 (p1.size : Int)) (Calm.lenStr rfl rfl Try.underlying9) ?_
              refine AO.calmG 2 false 50 rfl rfl (congrArg (fun b => some (AV.fl (Value.bool b))) (decide_eq_false hc25)) 54 rfl (by decide) (eBool (decide (t16.2 ≠ (p1.size : Int)))) (Calm.int rfl rfl rfl rfl) ?_
              refine AO.calm rfl 55 rfl (by decide) (eBool (decide (t16.2 ≠ (p1.size : Int)))) (Calm.pickF rfl (congrArg (fun b => some (AV.fl (Value.bool b))) (decide_eq_false hc25)) rfl) ?_
              cases hq24
              refine AO.nilE ⟨rfl, rfl⟩ ?_ ?_
              · exact ⟨rfl, rfl, rfl, rfl, rfl, rfl, rfl, rfl, trivial⟩
              · exact (Sub.refl _)
          · by_cases hc26 : b23 = true
            · have h := (if_pos hc26).symm.trans h
              refine AW.condT' b23 rfl hc26 ?_
              refine AW.reg ?_
              refine AO.calm rfl 11 rfl (by decide) (eI64 (-1 : Int)) (Calm.assign rfl rfl) ?_
              refine AO.nil (ρ' := [(1, (eStr p1)), (3, (.ptr n4 0)), (7, (eI64 t14.1)), (8, (eI64 t14.2)), (9, (eI64 t15.1)), (10, (eI64 t15.2)), (11, (eI64 (-1 : Int)))]) (H' := [(n4, .mem (e26 p0))]) ⟨rfl, rfl, rfl, rfl, rfl, rfl, rfl, trivial⟩ (Sub.refl _) ?_
              exact ⟨(-1 : Int), rfl, rfl, h⟩
            · have h := (if_neg hc26).symm.trans h
              refine AW.condF' b23 rfl hc26 ?_
              refine AW.skip (ρ' := [(1, (eStr p1)), (3, (.ptr n4 0)), (7, (eI64 t14.1)), (8, (eI64 t14.2)), (9, (eI64 t15.1)), (10, (eI64 t15.2)), (11, (eI64 t16.1))]) (H' := [(n4, .mem (e26 p0))]) ⟨rfl, rfl, rfl, rfl, rfl, rfl, rfl, trivial⟩ (Sub.refl _) ?_
              exact ⟨t16.1, rfl, rfl, h⟩
        · rintro _ _ ⟨x17, rfl, rfl, h⟩
          rw [bosketlaw12_MunchLongest_c0.eq_1] at h
          refine AW.seq ?_
          obtain ⟨b18, hq19, h⟩ := of_bind h
          refine AW.regM [(6, (eBool b18))] [] ?_ ?_
          · refine AO.calm rfl 56 rfl (by decide) (eI64 t14.1) (Calm.move rfl rfl) ?_
            refine AO.calm rfl 57 rfl (by decide) (eI64 t15.1) (Calm.move rfl rfl) ?_
            refine AO.calm rfl 58 rfl (by decide) (eBool (decide (t14.1 = t15.1))) (Calm.int rfl rfl rfl rfl) ?_
            refine AO.calm rfl 59 rfl (by decide) (eBool (decide (t14.1 = t15.1))) (Calm.move rfl rfl) ?_
            by_cases hc20 : t14.1 = t15.1
            · have hq19 := (if_pos hc20).symm.trans hq19
              refine AO.calmG 3 true 59 rfl rfl (congrArg (fun b => some (AV.fl (Value.bool b))) (decide_eq_true hc20)) 60 rfl (by decide) (eI64 t14.2) (Calm.move rfl rfl) ?_
              refine AO.calmG 3 true 59 rfl rfl (congrArg (fun b => some (AV.fl (Value.bool b))) (decide_eq_true hc20)) 61 rfl (by decide) (eI64 t15.2) (Calm.move rfl rfl) ?_
              refine AO.calmG 3 true 59 rfl rfl (congrArg (fun b => some (AV.fl (Value.bool b))) (decide_eq_true hc20)) 62 rfl (by decide) (eBool (decide (t14.2 = t15.2))) (Calm.int rfl rfl rfl rfl) ?_
              refine AO.calm rfl 63 rfl (by decide) (eBool (decide (t14.2 = t15.2))) (Calm.pickT rfl (congrArg (fun b => some (AV.fl (Value.bool b))) (decide_eq_true hc20)) rfl) ?_
              refine AO.calm rfl 64 rfl (by decide) (eBool (decide (t14.2 = t15.2))) (Calm.move rfl rfl) ?_
              by_cases hc21 : t14.2 = t15.2
              · have hq19 := (if_pos hc21).symm.trans hq19
                refine AO.calmG 8 true 64 rfl rfl (congrArg (fun b => some (AV.fl (Value.bool b))) (decide_eq_true hc21)) 65 rfl (by decide) (e26 p0) (Calm.load 0 rfl rfl rfl (At.cast At.here rfl) ag26 sz26) ?_
                refine AO.calmG 8 true 64 rfl rfl (congrArg (fun b => some (AV.fl (Value.bool b))) (decide_eq_true hc21)) 66 rfl (by decide) (eStr p1) (Calm.move rfl rfl) ?_
                obtain ⟨t22, et22, hq19⟩ := of_bind hq19
                refine AO.callG 8 true 64 [(e26 p0), (eStr p1)] (eI64 t22) 67 rfl (by decide) ok17 rfl rfl (congrArg (fun b => some (AV.fl (Value.bool b))) (decide_eq_true hc21)) rfl rfl ⟨rfl, rfl, rfl, rfl, trivial⟩ (munch_Alone_spec et22) ?_
                refine AO.calmG 8 true 64 rfl rfl (congrArg (fun b => some (AV.fl (Value.bool b))) (decide_eq_true hc21)) 68 rfl (by decide) (eI64 x17) (Calm.move rfl rfl) ?_
                refine AO.calmG 8 true 64 rfl rfl (congrArg (fun b => some (AV.fl (Value.bool b))) (decide_eq_true hc21)) 69 rfl (by decide) (eBool (decide (t22 = x17))) (Calm.int rfl rfl rfl rfl) ?_
                refine AO.calm rfl 70 rfl (by decide) (eBool (decide (t22 = x17))) (Calm.pickT rfl (congrArg (fun b => some (AV.fl (Value.bool b))) (decide_eq_true hc21)) rfl) ?_
                refine AO.calm rfl 6 rfl (by decide) (eBool (decide (t22 = x17))) (Calm.assign rfl rfl) ?_
                cases hq19
                refine AO.nilE ⟨rfl, rfl⟩ ?_ ?_
                · exact ⟨rfl, trivial⟩
                · exact (Sub.nil _)
              · have hq19 := (if_neg hc21).symm.trans hq19
                refine AO.skipG 8 false 64 rfl rfl (congrArg (fun b => some (AV.fl (Value.bool b))) (decide_eq_false hc21)) 65 rfl (by decide) ?_
                refine AO.skipG 8 false 64 rfl rfl (congrArg (fun b => some (AV.fl (Value.bool b))) (decide_eq_false hc21)) 66 rfl (by decide) ?_
                refine AO.skipG 8 false 64 rfl rfl (congrArg (fun b => some (AV.fl (Value.bool b))) (decide_eq_false hc21)) 67 rfl (by decide) ?_
                refine AO.skipG 8 false 64 rfl rfl (congrArg (fun b => some (AV.fl (Value.bool b))) (decide_eq_false hc21)) 68 rfl (by decide) ?_
                refine AO.skipG 8 false 64 rfl rfl (congrArg (fun b => some (AV.fl (Value.bool b))) (decide_eq_false hc21)) 69 rfl (by decide) ?_
                refine AO.calm rfl 70 rfl (by decide) (eBool false) (Calm.pickF rfl (congrArg (fun b => some (AV.fl (Value.bool b))) (decide_eq_false hc21)) rfl) ?_
                refine AO.calm rfl 6 rfl (by decide) (eBool false) (Calm.assign rfl rfl) ?_
                cases hq19
                refine AO.nilE ⟨rfl, rfl⟩ ?_ ?_
                · exact ⟨rfl, trivial⟩
                · exact (Sub.nil _)
            · have hq19 := (if_neg hc20).symm.trans hq19
              refine AO.skipG 3 false 59 rfl rfl (congrArg (fun b => some (AV.fl (Value.bool b))) (decide_eq_false hc20)) 60 rfl (by decide) ?_
              refine AO.skipG 3 false 59 rfl rfl (congrArg (fun b => some (AV.fl (Value.bool b))) (decide_eq_false hc20)) 61 rfl (by decide) ?_
              refine AO.skipG 3 false 59 rfl rfl (congrArg (fun b => some (AV.fl (Value.bool b))) (decide_eq_false hc20)) 62 rfl (by decide) ?_
              refine AO.calm rfl 63 rfl (by decide) (eBool false) (Calm.pickF rfl (congrArg (fun b => some (AV.fl (Value.bool b))) (decide_eq_false hc20)) rfl) ?_
              refine AO.calm rfl 64 rfl (by decide) (eBool false) (Calm.move rfl rfl) ?_
              refine AO.skipG 8 false 64 rfl rfl rfl 65 rfl (by decide) ?_
              refine AO.skipG 8 false 64 rfl rfl rfl 66 rfl (by decide) ?_
              refine AO.skipG 8 false 64 rfl rfl rfl 67 rfl (by decide) ?_
              refine AO.skipG 8 false 64 rfl rfl rfl 68 rfl (by decide) ?_
              refine AO.skipG 8 false 64 rfl rfl rfl 69 rfl (by decide) ?_
              refine AO.calm rfl 70 rfl (by decide) (eBool false) (Calm.pickF rfl rfl rfl) ?_
              refine AO.calm rfl 6 rfl (by decide) (eBool false) (Calm.assign rfl rfl) ?_
              cases hq19
              refine AO.nilE ⟨rfl, rfl⟩ ?_ ?_
              · exact ⟨rfl, trivial⟩
              · exact (Sub.nil _)
          · refine AW.ret (ρ' := [(6, (eBool b18))]) (H' := []) ⟨rfl, trivial⟩ (Sub.refl _) ?_
            have hr := Option.some.inj h
            subst hr
            exact ⟨[(eBool b18)], ⟨rfl, rfl, trivial⟩, rfl⟩
end Go.Avl.T1
