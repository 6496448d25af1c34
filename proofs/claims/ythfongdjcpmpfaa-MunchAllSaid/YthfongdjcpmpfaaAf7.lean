/- bosket/bosketlaw12.MunchAll; printed by avmain.py. -/
import Derived.Test.YthfongdjcpmpfaaAB
import Derived.Test.YthfongdjcpmpfaaAf12
import Derived.Test.YthfongdjcpmpfaaAf13
import Derived.Test.YthfongdjcpmpfaaAf14
import Derived.Test.YthfongdjcpmpfaaAf32
import Derived.Test.YthfongdjcpmpfaaAf33
import Derived.Test.YthfongdjcpmpfaaAf34
import Derived.Test.YthfongdjcpmpfaaAf35
namespace Go.Avl.T1
open Go Go.RowKit Go.Proofs Go.Avl
set_option linter.unusedVariables false
set_option maxRecDepth 100000
set_option maxHeartbeats 4000000
attribute [local irreducible] AW AO AQ Spec SpecH Calm

def bosketlaw12_MunchAll_c0 (k : Nat) (p1 : ByteArray) (t13 : ((List S61) × Int × Int)) (t14 : ((List S61) × Int × Bool)) : Option Bool :=
  Option.bind (α := Bool) ((munch_Text k t13.1).bind fun t24 =>
  if 0 ≤ (0 : Int) ∧ (0 : Int) ≤ t14.2.1 ∧ t14.2.1 ≤ (p1.size : Int) then if t24 = (p1.extract (0 : Int).toNat t14.2.1.toNat) then (munch_Same k t13.1 t14.1).bind fun t27 =>
  some (t27)
  else some (false)
  else none) fun b22 =>
  some (b22)
def bosketlaw12_MunchAll_l1 (k : Nat) (p1 : ByteArray) (t13 : ((List S61) × Int × Int)) (t14 : ((List S61) × Int × Bool)) : Nat → Int → Option Bool
  | 0, _ => none
  | j + 1, x28 =>
    if x28 < (t13.1.length : Int) then if 0 ≤ x28 ∧ x28 < (t13.1.length : Int) then if 0 ≤ x28 ∧ x28 < (t14.1.length : Int) then if (!(decide ((lget t13.1 x28) = (lget t14.1 x28)))) = true then some (false)
    else (bosketlaw12_MunchAll_l1 k p1 t13 t14 j) (w64 (x28 + (1 : Int)))
    else none
    else none
    else bosketlaw12_MunchAll_c0 k p1 t13 t14
def bosketlaw12_MunchAll (k : Nat) (p0 : S26) (p1 : ByteArray) : Option Bool :=
  (bosketlaw12_awake k).bind fun t4 =>
  if (!t4) = true then some (false)
  else Option.bind (α := Bool) ((bosketlaw08_Small k p0).bind fun t8 =>
  if (!t8) = true then some (true)
  else (bosketref08_Right k p0).bind fun t10 =>
  if (!t10) = true then some (true)
  else some (decide ((60 : Int) < (p1.size : Int)))) fun b6 =>
  if b6 = true then some (true)
  else (munch_All k p0 p1).bind fun t13 =>
  (bosketref12_All k p0 p1).bind fun t14 =>
  Option.bind (α := Bool) (if t13.2.1 ≠ t14.2.1 then some (true)
  else if ((decide (t13.2.2 = (0 : Int))) != t14.2.2) = true then some (true)
  else if (!t14.2.2) = true then if t13.2.2 ≠ (7 : Int) then some (true)
  else some (decide ((t13.1.length : Int) ≠ (t14.1.length : Int)))
  else some (decide ((t13.1.length : Int) ≠ (t14.1.length : Int)))) fun b15 =>
  if b15 = true then some (false)
  else bosketlaw12_MunchAll_l1 k p1 t13 t14 k (0 : Int)
theorem bosketlaw12_MunchAll_spec {k : Nat} {p0 : S26} {p1 : ByteArray} {r : Bool} (h : bosketlaw12_MunchAll k p0 p1 = some r) : Spec Try.prog 7 [(e26 p0), (eStr p1)] (eBool r) := by
  rw [bosketlaw12_MunchAll.eq_1] at h
  refine Spec.intro (res := [.tmp 4]) Try.func7 rfl rfl rfl (Nat.le_of_ble_eq_true rfl) ?_
  refine AW.seq ?_
  refine AW.reg ?_
  refine AO.box rfl 2 rfl (by decide) rfl rfl rfl fun n3 => ?_
  refine AO.calm rfl 4 rfl (by decide) (eBool false) (Calm.assign rfl rfl) ?_
  refine AO.nil (ρ' := [(1, (eStr p1)), (2, (.ptr n3 0))]) (H' := [(n3, .mem (e26 p0))]) ⟨rfl, rfl, trivial⟩ (Sub.refl _) ?_
  refine AW.seq ?_
  refine AW.seq ?_
  refine AW.reg ?_
  obtain ⟨t4, et4, h⟩ := of_bind h
  refine AO.callS [] (eBool t4) 12 rfl (by decide) ok12 rfl rfl rfl trivial (bosketlaw12_awake_spec et4) ?_
  refine AO.calm rfl 13 rfl (by decide) (eBool (!t4)) (Calm.not rfl rfl) ?_
  refine AO.nil (ρ' := [(1, (eStr p1)), (2, (.ptr n3 0)), (13, (eBool (!t4)))]) (H' := [(n3, .mem (e26 p0))]) ⟨rfl, rfl, rfl, trivial⟩ (Sub.refl _) ?_
  by_cases hc5 : (!t4) = true
  · have h := (if_pos hc5).symm.trans h
    refine AW.condT' (!t4) rfl hc5 ?_
    refine AW.seq ?_
    refine AW.reg ?_
    refine AO.calm rfl 4 rfl (by decide) (eBool false) (Calm.assign rfl rfl) ?_
    refine AO.nil (ρ' := [(4, (eBool false))]) (H' := []) ⟨rfl, trivial⟩ (Sub.nil _) ?_
    refine AW.ret (ρ' := [(4, (eBool false))]) (H' := []) ⟨rfl, trivial⟩ (Sub.refl _) ?_
    have hr := Option.some.inj h
    subst hr
    exact ⟨[(eBool false)], ⟨rfl, rfl, trivial⟩, rfl⟩
  · have h := (if_neg hc5).symm.trans h
    refine AW.condF' (!t4) rfl hc5 ?_
    refine AW.skip (ρ' := [(1, (eStr p1)), (2, (.ptr n3 0))]) (H' := [(n3, .mem (e26 p0))]) ⟨rfl, rfl, trivial⟩ (Sub.refl _) ?_
    refine AW.seq ?_
    refine AW.seq ?_
    obtain ⟨b6, hq7, h⟩ := of_bind h
    refine AW.regM [(1, (eStr p1)), (2, (.ptr n3 0)), (26, (eBool b6))] [(n3, .mem (e26 p0))] ?_ ?_
    · refine AO.calm rfl 14 rfl (by decide) (e26 p0) (Calm.load 0 rfl rfl rfl (At.cast At.here rfl) ag26 sz26) ?_
      obtain ⟨t8, et8, hq7⟩ := of_bind hq7
      refine AO.callS [(e26 p0)] (eBool t8) 15 rfl (by decide) ok13 rfl rfl rfl ⟨rfl, rfl, trivial⟩ (bosketlaw08_Small_spec et8) ?_
      refine AO.calm rfl 16 rfl (by decide) (eBool (!t8)) (Calm.not rfl rfl) ?_
      refine AO.calm rfl 17 rfl (by decide) (eBool (!t8)) (Calm.move rfl rfl) ?_
      by_cases hc9 : (!t8) = true
      · have hq7 := (if_pos hc9).symm.trans hq7
        refine AO.skipG 3 true 17 rfl rfl (congrArg (fun b => some (AV.fl (Value.bool b))) hc9) 18 rfl (by decide) ?_
        refine AO.skipG 3 true 17 rfl rfl (congrArg (fun b => some (AV.fl (Value.bool b))) hc9) 19 rfl (by decide) ?_
        refine AO.skipG 3 true 17 rfl rfl (congrArg (fun b => some (AV.fl (Value.bool b))) hc9) 20 rfl (by decide) ?_
        refine AO.calm rfl 21 rfl (by decide) (eBool true) (Calm.pickT rfl (congrArg (fun b => some (AV.fl (Value.bool b))) hc9) rfl) ?_
        refine AO.calm rfl 22 rfl (by decide) (eBool true) (Calm.move rfl rfl) ?_
        refine AO.skipG 8 true 22 rfl rfl rfl 23 rfl (by decide) ?_
        refine AO.skipG 8 true 22 rfl rfl rfl 24 rfl (by decide) ?_
        refine AO.skipG 8 true 22 rfl rfl rfl 25 rfl (by decide) ?_
        refine AO.calm rfl 26 rfl (by decide) (eBool true) (Calm.pickT rfl rfl rfl) ?_
        cases hq7
        refine AO.nilE ⟨rfl, rfl⟩ ?_ ?_
        · exact ⟨rfl, rfl, rfl, trivial⟩
        · exact (Sub.refl _)
      · have hq7 := (if_neg hc9).symm.trans hq7
        refine AO.calmG 3 false 17 rfl rfl (congrArg (fun b => some (AV.fl (Value.bool b))) (eq_false_of_ne_true hc9)) 18 rfl (by decide) (e26 p0) (Calm.load 0 rfl rfl rfl (At.cast At.here rfl) ag26 sz26) ?_
        obtain ⟨t10, et10, hq7⟩ := of_bind hq7
        refine AO.callG 3 false 17 [(e26 p0)] (eBool t10) 19 rfl (by decide) ok14 rfl rfl (congrArg (fun b => some (AV.fl (Value.bool b))) (eq_false_of_ne_true hc9)) rfl rfl ⟨rfl, rfl, trivial⟩ (bosketref08_Right_spec et10) ?_
        refine AO.calmG 3 false 17 rfl rfl (congrArg (fun b => some (AV.fl (Value.bool b))) (eq_false_of_ne_true hc9)) 20 rfl (by decide) (eBool (!t10)) (Calm.not rfl rfl) ?_
        refine AO.calm rfl 21 rfl (by decide) (eBool (!t10)) (Calm.pickF rfl (congrArg (fun b => some (AV.fl (Value.bool b))) (eq_false_of_ne_true hc9)) rfl) ?_
        refine AO.calm rfl 22 rfl (by decide) (eBool (!t10)) (Calm.move rfl rfl) ?_
        by_cases hc11 : (!t10) = true
        · have hq7 := (if_pos hc11).symm.trans hq7
          refine AO.skipG 8 true 22 rfl rfl (congrArg (fun b => some (AV.fl (Value.bool b))) hc11) 23 rfl (by decide) ?_
          refine AO.skipG 8 true 22 rfl rfl (congrArg (fun b => some (AV.fl (Value.bool b))) hc11) 24 rfl (by decide) ?_
          refine AO.skipG 8 true 22 rfl rfl (congrArg (fun b => some (AV.fl (Value.bool b))) hc11) 25 rfl (by decide) ?_
          refine AO.calm rfl 26 rfl (by decide) (eBool true) (Calm.pickT rfl (congrArg (fun b => some (AV.fl (Value.bool b))) hc11) rfl) ?_
          cases hq7
          refine AO.nilE ⟨rfl, rfl⟩ ?_ ?_
          · exact ⟨rfl, rfl, rfl, trivial⟩
          · exact (Sub.refl _)
        · have hq7 := (if_neg hc11).symm.trans hq7
          refine AO.calmG 8 false 22 rfl rfl (congrArg (fun b => some (AV.fl (Value.bool b))) (eq_false_of_ne_true hc11)) 23 rfl (by decide) (eStr p1) (Calm.move rfl rfl) ?_
          refine AO.calmG 8 false 22 rfl rfl (congrArg (fun b => some (AV.fl (Value.bool b))) (eq_false_of_ne_true hc11)) 24 rfl (by decide) (eI64 (p1.size : Int)) (Calm.lenStr rfl rfl Try.underlying9) ?_
          refine AO.calmG 8 false 22 rfl rfl (congrArg (fun b => some (AV.fl (Value.bool b))) (eq_false_of_ne_true hc11)) 25 rfl (by decide) (eBool (decide ((60 : Int) < (p1.size : Int)))) (Calm.int rfl rfl rfl rfl) ?_
          refine AO.calm rfl 26 rfl (by decide) (eBool (decide ((60 : Int) < (p1.size : Int)))) (Calm.pickF rfl (congrArg (fun b => some (AV.fl (Value.bool b))) (eq_false_of_ne_true hc11)) rfl) ?_
          cases hq7
          refine AO.nilE ⟨rfl, rfl⟩ ?_ ?_
          · exact ⟨rfl, rfl, rfl, trivial⟩
          · exact (Sub.refl _)
    · by_cases hc12 : b6 = true
      · have h := (if_pos hc12).symm.trans h
        refine AW.condT' b6 rfl hc12 ?_
        refine AW.seq ?_
        refine AW.reg ?_
        refine AO.calm rfl 4 rfl (by decide) (eBool true) (Calm.assign rfl rfl) ?_
        refine AO.nil (ρ' := [(4, (eBool true))]) (H' := []) ⟨rfl, trivial⟩ (Sub.nil _) ?_
        refine AW.ret (ρ' := [(4, (eBool true))]) (H' := []) ⟨rfl, trivial⟩ (Sub.refl _) ?_
        have hr := Option.some.inj h
        subst hr
        exact ⟨[(eBool true)], ⟨rfl, rfl, trivial⟩, rfl⟩
      · have h := (if_neg hc12).symm.trans h
        refine AW.condF' b6 rfl hc12 ?_
        refine AW.skip (ρ' := [(1, (eStr p1)), (2, (.ptr n3 0))]) (H' := [(n3, .mem (e26 p0))]) ⟨rfl, rfl, trivial⟩ (Sub.refl _) ?_
        refine AW.seq ?_
        refine AW.reg ?_
        refine AO.calm rfl 28 rfl (by decide) (e26 p0) (Calm.load 0 rfl rfl rfl (At.cast At.here rfl) ag26 sz26) ?_
        refine AO.calm rfl 29 rfl (by decide) (eStr p1) (Calm.move rfl rfl) ?_
        obtain ⟨t13, et13, h⟩ := of_bind h
        refine AO.callS [(e26 p0), (eStr p1)] (.tup [(.fz 3 (t13.1.map e61)), (eI64 t13.2.1), (eI64 t13.2.2)]) 30 rfl (by decide) ok32 rfl rfl rfl ⟨rfl, rfl, rfl, rfl, trivial⟩ (munch_All_spec et13) ?_
        refine AO.calm rfl 27 rfl (by decide) (.tup [(.fz 3 (t13.1.map e61)), (eI64 t13.2.1), (eI64 t13.2.2)]) (Calm.move rfl rfl) ?_
        refine AO.calm rfl 31 rfl (by decide) (.fz 3 (t13.1.map e61)) (Calm.extract rfl rfl rfl) ?_
        refine AO.calm rfl 32 rfl (by decide) (eI64 t13.2.1) (Calm.extract rfl rfl rfl) ?_
        refine AO.calm rfl 33 rfl (by decide) (eI64 t13.2.2) (Calm.extract rfl rfl rfl) ?_
        refine AO.calm rfl 5 rfl (by decide) (.fz 3 (t13.1.map e61)) (Calm.assign rfl rfl) ?_
        refine AO.calm rfl 6 rfl (by decide) (eI64 t13.2.1) (Calm.assign rfl rfl) ?_
        refine AO.calm rfl 7 rfl (by decide) (eI64 t13.2.2) (Calm.assign rfl rfl) ?_
        refine AO.nil (ρ' := [(1, (eStr p1)), (2, (.ptr n3 0)), (5, (.fz 3 (t13.1.map e61))), (6, (eI64 t13.2.1)), (7, (eI64 t13.2.2))]) (H' := [(n3, .mem (e26 p0))]) ⟨rfl, rfl, rfl, rfl, rfl, trivial⟩ (Sub.refl _) ?_
        refine AW.seq ?_
        refine AW.reg ?_
        refine AO.calm rfl 35 rfl (by decide) (e26 p0) (Calm.load 0 rfl rfl rfl (At.cast At.here rfl) ag26 sz26) ?_
        refine AO.calm rfl 36 rfl (by decide) (eStr p1) (Calm.move rfl rfl) ?_
        obtain ⟨t14, et14, h⟩ := of_bind h
        refine AO.callS [(e26 p0), (eStr p1)] (.tup [(.fz 3 (t14.1.map e61)), (eI64 t14.2.1), (eBool t14.2.2)]) 37 rfl (by decide) ok33 rfl rfl rfl ⟨rfl, rfl, rfl, rfl, trivial⟩ (bosketref12_All_spec et14) ?_
        refine AO.calm rfl 34 rfl (by decide) (.tup [(.fz 3 (t14.1.map e61)), (eI64 t14.2.1), (eBool t14.2.2)]) (Calm.move rfl rfl) ?_
        refine AO.calm rfl 38 rfl (by decide) (.fz 3 (t14.1.map e61)) (Calm.extract rfl rfl rfl) ?_
        refine AO.calm rfl 39 rfl (by decide) (eI64 t14.2.1) (Calm.extract rfl rfl rfl) ?_
        refine AO.calm rfl 40 rfl (by decide) (eBool t14.2.2) (Calm.extract rfl rfl rfl) ?_
        refine AO.calm rfl 8 rfl (by decide) (.fz 3 (t14.1.map e61)) (Calm.assign rfl rfl) ?_
        refine AO.calm rfl 9 rfl (by decide) (eI64 t14.2.1) (Calm.assign rfl rfl) ?_
        refine AO.calm rfl 10 rfl (by decide) (eBool t14.2.2) (Calm.assign rfl rfl) ?_
        refine AO.nil (ρ' := [(1, (eStr p1)), (5, (.fz 3 (t13.1.map e61))), (6, (eI64 t13.2.1)), (7, (eI64 t13.2.2)), (8, (.fz 3 (t14.1.map e61))), (9, (eI64 t14.2.1)), (10, (eBool t14.2.2))]) (H' := []) ⟨rfl, rfl, rfl, rfl, rfl, rfl, rfl, trivial⟩ (Sub.nil _) ?_
        refine AW.seq ?_
        refine AW.seq ?_
        obtain ⟨b15, hq16, h⟩ := of_bind h
        refine AW.regM [(1, (eStr p1)), (5, (.fz 3 (t13.1.map e61))), (8, (.fz 3 (t14.1.map e61))), (9, (eI64 t14.2.1)), (64, (eBool b15))] [] ?_ ?_
        · refine AO.calm rfl 41 rfl (by decide) (eI64 t13.2.1) (Calm.move rfl rfl) ?_
          refine AO.calm rfl 42 rfl (by decide) (eI64 t14.2.1) (Calm.move rfl rfl) ?_
          refine AO.calm rfl 43 rfl (by decide) (eBool (decide (t13.2.1 ≠ t14.2.1))) (Calm.int rfl rfl rfl rfl) ?_
          refine AO.calm rfl 44 rfl (by decide) (eBool (decide (t13.2.1 ≠ t14.2.1))) (Calm.move rfl rfl) ?_
          by_cases hc17 : t13.2.1 ≠ t14.2.1
          · have hq16 := (if_pos hc17).symm.trans hq16
            refine AO.skipG 3 true 44 rfl rfl (congrArg (fun b => some (AV.fl (Value.bool b))) (decide_eq_true hc17)) 45 rfl (by decide) ?_
            refine AO.skipG 3 true 44 rfl rfl (congrArg (fun b => some (AV.fl (Value.bool b))) (decide_eq_true hc17)) 46 rfl (by decide) ?_
            refine AO.skipG 3 true 44 rfl rfl (congrArg (fun b => some (AV.fl (Value.bool b))) (decide_eq_true hc17)) 47 rfl (by decide) ?_
            refine AO.skipG 3 true 44 rfl rfl (congrArg (fun b => some (AV.fl (Value.bool b))) (decide_eq_true hc17)) 48 rfl (by decide) ?_
            refine AO.calm rfl 49 rfl (by decide) (eBool true) (Calm.pickT rfl (congrArg (fun b => some (AV.fl (Value.bool b))) (decide_eq_true hc17)) rfl) ?_
            refine AO.calm rfl 50 rfl (by decide) (eBool true) (Calm.move rfl rfl) ?_
            refine AO.skipG 9 true 50 rfl rfl rfl 51 rfl (by decide) ?_
            refine AO.skipG 9 true 50 rfl rfl rfl 52 rfl (by decide) ?_
            refine AO.skipG 9 true 50 rfl rfl rfl 53 rfl (by decide) ?_
            refine AO.skipU 12 true 53 rfl rfl rfl 54 rfl (by decide) ?_
            refine AO.skipU 12 true 53 rfl rfl rfl 55 rfl (by decide) ?_
            refine AO.skipG 9 true 50 rfl rfl rfl 56 rfl (by decide) ?_
            refine AO.calm rfl 57 rfl (by decide) (eBool true) (Calm.pickT rfl rfl rfl) ?_
            refine AO.calm rfl 58 rfl (by decide) (eBool true) (Calm.move rfl rfl) ?_
            refine AO.skipG 17 true 58 rfl rfl rfl 59 rfl (by decide) ?_
            refine AO.skipG 17 true 58 rfl rfl rfl 60 rfl (by decide) ?_
            refine AO.skipG 17 true 58 rfl rfl rfl 61 rfl (by decide) ?_
            refine AO.skipG 17 true 58 rfl rfl rfl 62 rfl (by decide) ?_
            refine AO.skipG 17 true 58 rfl rfl rfl 63 rfl (by decide) ?_
            refine AO.calm rfl 64 rfl (by decide) (eBool true) (Calm.pickT rfl rfl rfl) ?_
            cases hq16
            refine AO.nilE ⟨rfl, rfl⟩ ?_ ?_
            · exact ⟨rfl, rfl, rfl, rfl, rfl, trivial⟩
            · exact (Sub.refl _)
          · have hq16 := (if_neg hc17).symm.trans hq16
            refine AO.calmG 3 false 44 rfl rfl (congrArg (fun b => some (AV.fl (Value.bool b))) (decide_eq_false hc17)) 45 rfl (by decide) (eI64 t13.2.2) (Calm.move rfl rfl) ?_
            refine AO.calmG 3 false 44 rfl rfl (congrArg (fun b => some (AV.fl (Value.bool b))) (decide_eq_false hc17)) 46 rfl (by decide) (eBool (decide (t13.2.2 = (0 : Int)))) (Calm.int rfl rfl rfl rfl) ?_
            refine AO.calmG 3 false 44 rfl rfl (congrArg (fun b => some (AV.fl (Value.bool b))) (decide_eq_false hc17)) 47 rfl (by decide) (eBool t14.2.2) (Calm.move rfl rfl) ?_
            refine AO.calmG 3 false 44 rfl rfl (congrArg (fun b => some (AV.fl (Value.bool b))) (decide_eq_false hc17)) 48 rfl (by decide) (eBool ((decide (t13.2.2 = (0 : Int))) != t14.2.2)) (Calm.boolNe rfl rfl rfl Try.underlying4) ?_
            refine AO.calm rfl 49 rfl (by decide) (eBool ((decide (t13.2.2 = (0 : Int))) != t14.2.2)) (Calm.pickF rfl (congrArg (fun b => some (AV.fl (Value.bool b))) (decide_eq_false hc17)) rfl) ?_
            refine AO.calm rfl 50 rfl (by decide) (eBool ((decide (t13.2.2 = (0 : Int))) != t14.2.2)) (Calm.move rfl rfl) ?_
            by_cases hc18 : ((decide (t13.2.2 = (0 : Int))) != t14.2.2) = true
            · have hq16 := (if_pos hc18).symm.trans hq16
              refine AO.skipG 9 true 50 rfl rfl (congrArg (fun b => some (AV.fl (Value.bool b))) hc18) 51 rfl (by decide) ?_
              refine AO.skipG 9 true 50 rfl rfl (congrArg (fun b => some (AV.fl (Value.bool b))) hc18) 52 rfl (by decide) ?_
              refine AO.skipG 9 true 50 rfl rfl (congrArg (fun b => some (AV.fl (Value.bool b))) hc18) 53 rfl (by decide) ?_
              refine AO.skipU 12 true 53 rfl rfl rfl 54 rfl (by decide) ?_
              refine AO.skipU 12 true 53 rfl rfl rfl 55 rfl (by decide) ?_
              refine AO.skipG 9 true 50 rfl rfl (congrArg (fun b => some (AV.fl (Value.bool b))) hc18) 56 rfl (by decide) ?_
              refine AO.calm rfl 57 rfl (by decide) (eBool true) (Calm.pickT rfl (congrArg (fun b => some (AV.fl (Value.bool b))) hc18) rfl) ?_
              refine AO.calm rfl 58 rfl (by decide) (eBool true) (Calm.move rfl rfl) ?_
              refine AO.skipG 17 true 58 rfl rfl rfl 59 rfl (by decide) ?_
              refine AO.skipG 17 true 58 rfl rfl rfl 60 rfl (by decide) ?_
              refine AO.skipG 17 true 58 rfl rfl rfl 61 rfl (by decide) ?_
              refine AO.skipG 17 true 58 rfl rfl rfl 62 rfl (by decide) ?_
              refine AO.skipG 17 true 58 rfl rfl rfl 63 rfl (by decide) ?_
              refine AO.calm rfl 64 rfl (by decide) (eBool true) (Calm.pickT rfl rfl rfl) ?_
              cases hq16
              refine AO.nilE ⟨rfl, rfl⟩ ?_ ?_
              · exact ⟨rfl, rfl, rfl, rfl, rfl, trivial⟩
              · exact (Sub.refl _)
            · have hq16 := (if_neg hc18).symm.trans hq16
              refine AO.calmG 9 false 50 rfl rfl (congrArg (fun b => some (AV.fl (Value.bool b))) (eq_false_of_ne_true hc18)) 51 rfl (by decide) (eBool t14.2.2) (Calm.move rfl rfl) ?_
              refine AO.calmG 9 false 50 rfl rfl (congrArg (fun b => some (AV.fl (Value.bool b))) (eq_false_of_ne_true hc18)) 52 rfl (by decide) (eBool (!t14.2.2)) (Calm.not rfl rfl) ?_
              refine AO.calmG 9 false 50 rfl rfl (congrArg (fun b => some (AV.fl (Value.bool b))) (eq_false_of_ne_true hc18)) 53 rfl (by decide) (eBool (!t14.2.2)) (Calm.move rfl rfl) ?_
              by_cases hc19 : (!t14.2.2) = true
              · have hq16 := (if_pos hc19).symm.trans hq16
                refine AO.calmG 12 true 53 rfl rfl (congrArg (fun b => some (AV.fl (Value.bool b))) hc19) 54 rfl (by decide) (eI64 t13.2.2) (Calm.move rfl rfl) ?_
                refine AO.calmG 12 true 53 rfl rfl (congrArg (fun b => some (AV.fl (Value.bool b))) hc19) 55 rfl (by decide) (eBool (decide (t13.2.2 ≠ (7 : Int)))) (Calm.int rfl rfl rfl rfl) ?_
                refine AO.calmG 9 false 50 rfl rfl (congrArg (fun b => some (AV.fl (Value.bool b))) (eq_false_of_ne_true hc18)) 56 rfl (by decide) (eBool (decide (t13.2.2 ≠ (7 : Int)))) (Calm.pickT rfl (congrArg (fun b => some (AV.fl (Value.bool b))) hc19) rfl) ?_
                refine AO.calm rfl 57 rfl (by decide) (eBool (decide (t13.2.2 ≠ (7 : Int)))) (Calm.pickF rfl (congrArg (fun b => some (AV.fl (Value.bool b))) (eq_false_of_ne_true hc18)) rfl) ?_
                refine AO.calm rfl 58 rfl (by decide) (eBool (decide (t13.2.2 ≠ (7 : Int)))) (Calm.move rfl rfl) ?_
                by_cases hc20 : t13.2.2 ≠ (7 : Int)
                · have hq16 := (if_pos hc20).symm.trans hq16
                  refine AO.skipG 17 true 58 rfl rfl (congrArg (fun b => some (AV.fl (Value.bool b))) (decide_eq_true hc20)) 59 rfl (by decide) ?_
                  refine AO.skipG 17 true 58 rfl rfl (congrArg (fun b => some (AV.fl (Value.bool b))) (decide_eq_true hc20)) 60 rfl (by decide) ?_
                  refine AO.skipG 17 true 58 rfl rfl (congrArg (fun b => some (AV.fl (Value.bool b))) (decide_eq_true hc20)) 61 rfl (by decide) ?_
                  refine AO.skipG 17 true 58 rfl rfl (congrArg (fun b => some (AV.fl (Value.bool b))) (decide_eq_true hc20)) 62 rfl (by decide) ?_
                  refine AO.skipG 17 true 58 rfl rfl (congrArg (fun b => some (AV.fl (Value.bool b))) (decide_eq_true hc20)) 63 rfl (by decide) ?_
                  refine AO.calm rfl 64 rfl (by decide) (eBool true) (Calm.pickT rfl (congrArg (fun b => some (AV.fl (Value.bool b))) (decide_eq_true hc20)) rfl) ?_
                  cases hq16
                  refine AO.nilE ⟨rfl, rfl⟩ ?_ ?_
                  · exact ⟨rfl, rfl, rfl, rfl, rfl, trivial⟩
                  · exact (Sub.refl _)
                · have hq16 := (if_neg hc20).symm.trans hq16
                  refine AO.calmG 17 false 58 rfl rfl (congrArg (fun b => some (AV.fl (Value.bool b))) (decide_eq_false hc20)) 59 rfl (by decide) (.fz 3 (t13.1.map e61)) (Calm.move rfl rfl) ?_
                  refine AO.calmG 17 false 58 rfl rfl (congrArg (fun b => some (AV.fl (Value.bool b))) (decide_eq_false hc20)) 60 rfl (by decide) (eI64 (t13.1.length : Int)) (Calm.lenL rfl rfl Try.underlying55) ?_
                  refine AO.calmG 17 false 58 rfl rfl (congrArg (fun b => some (AV.fl (Value.bool b))) (decide_eq_false hc20)) 61 rfl (by decide) (.fz 3 (t14.1.map e61)) (Calm.move rfl rfl) ?_
                  refine AO.calmG 17 false 58 rfl rfl (congrArg (fun b => some (AV.fl (Value.bool b))) (decide_eq_false hc20)) 62 rfl (by decide) (eI64 (t14.1.length : Int)) (Calm.lenL rfl rfl Try.underlying55) ?_
                  refine AO.calmG 17 false 58 rfl rfl (congrArg (fun b => some (AV.fl (Value.bool b))) (decide_eq_false hc20)) 63 rfl (by decide) (eBool (decide ((t13.1.length : Int) ≠ (t14.1.length : Int)))) (Calm.int rfl rfl rfl rfl) ?_
                  refine AO.calm rfl 64 rfl (by decide) (eBool (decide ((t13.1.length : Int) ≠ (t14.1.length : Int)))) (Calm.pickF rfl (congrArg (fun b => some (AV.fl (Value.bool b))) (decide_eq_false hc20)) rfl) ?_
                  cases hq16
                  refine AO.nilE ⟨rfl, rfl⟩ ?_ ?_
                  · exact ⟨rfl, rfl, rfl, rfl, rfl, trivial⟩
                  · exact (Sub.refl _)
              · have hq16 := (if_neg hc19).symm.trans hq16
                refine AO.skipG 12 false 53 rfl rfl (congrArg (fun b => some (AV.fl (Value.bool b))) (eq_false_of_ne_true hc19)) 54 rfl (by decide) ?_
                refine AO.skipG 12 false 53 rfl rfl (congrArg (fun b => some (AV.fl (Value.bool b))) (eq_false_of_ne_true hc19)) 55 rfl (by decide) ?_
                refine AO.calmG 9 false 50 rfl rfl (congrArg (fun b => some (AV.fl (Value.bool b))) (eq_false_of_ne_true hc18)) 56 rfl (by decide) (eBool false) (Calm.pickF rfl (congrArg (fun b => some (AV.fl (Value.bool b))) (eq_false_of_ne_true hc19)) rfl) ?_
                refine AO.calm rfl 57 rfl (by decide) (eBool false) (Calm.pickF rfl (congrArg (fun b => some (AV.fl (Value.bool b))) (eq_false_of_ne_true hc18)) rfl) ?_
                refine AO.calm rfl 58 rfl (by decide) (eBool false) (Calm.move rfl rfl) ?_
                refine AO.calmG 17 false 58 rfl rfl rfl 59 rfl (by decide) (.fz 3 (t13.1.map e61)) (Calm.move rfl rfl) ?_
                refine AO.calmG 17 false 58 rfl rfl rfl 60 rfl (by decide) (eI64 (t13.1.length : Int)) (Calm.lenL rfl rfl Try.underlying55) ?_
                refine AO.calmG 17 false 58 rfl rfl rfl 61 rfl (by decide) (.fz 3 (t14.1.map e61)) (Calm.move rfl rfl) ?_
                refine AO.calmG 17 false 58 rfl rfl rfl 62 rfl (by decide) (eI64 (t14.1.length : Int)) (Calm.lenL rfl rfl Try.underlying55) ?_
                refine AO.calmG 17 false 58 rfl rfl rfl 63 rfl (by decide) (eBool (decide ((t13.1.length : Int) ≠ (t14.1.length : Int)))) (Calm.int rfl rfl rfl rfl) ?_
                refine AO.calm rfl 64 rfl (by decide) (eBool (decide ((t13.1.length : Int) ≠ (t14.1.length : Int)))) (Calm.pickF rfl rfl rfl) ?_
                cases hq16
                refine AO.nilE ⟨rfl, rfl⟩ ?_ ?_
                · exact ⟨rfl, rfl, rfl, rfl, rfl, trivial⟩
                · exact (Sub.refl _)
        · by_cases hc21 : b15 = true
          · have h := (if_pos hc21).symm.trans h
            refine AW.condT' b15 rfl hc21 ?_
            refine AW.seq ?_
            refine AW.reg ?_
            refine AO.calm rfl 4 rfl (by decide) (eBool false) (Calm.assign rfl rfl) ?_
            refine AO.nil (ρ' := [(4, (eBool false))]) (H' := []) ⟨rfl, trivial⟩ (Sub.refl _) ?_
            refine AW.ret (ρ' := [(4, (eBool false))]) (H' := []) ⟨rfl, trivial⟩ (Sub.refl _) ?_
            have hr := Option.some.inj h
            subst hr
            exact ⟨[(eBool false)], ⟨rfl, rfl, trivial⟩, rfl⟩
          · have h := (if_neg hc21).symm.trans h
            refine AW.condF' b15 rfl hc21 ?_
            refine AW.skip (ρ' := [(1, (eStr p1)), (5, (.fz 3 (t13.1.map e61))), (8, (.fz 3 (t14.1.map e61))), (9, (eI64 t14.2.1))]) (H' := []) ⟨rfl, rfl, rfl, rfl, trivial⟩ (Sub.refl _) ?_
            refine AW.seq_mid (fun ρ H => ρ = [(1, (eStr p1)), (5, (.fz 3 (t13.1.map e61))), (8, (.fz 3 (t14.1.map e61))), (9, (eI64 t14.2.1))] ∧ H = [] ∧ bosketlaw12_MunchAll_c0 k p1 t13 t14 = some r) ?_ ?_
            · refine AW.seq ?_
              refine AW.reg ?_
              refine AO.calm rfl 11 rfl (by decide) (eI64 (0 : Int)) (Calm.assign rfl rfl) ?_
              refine AO.nil (ρ' := [(1, (eStr p1)), (5, (.fz 3 (t13.1.map e61))), (8, (.fz 3 (t14.1.map e61))), (9, (eI64 t14.2.1)), (11, (eI64 (0 : Int)))]) (H' := []) ⟨rfl, rfl, rfl, rfl, rfl, trivial⟩ (Sub.refl _) ?_
              refine AW.block ?_
              refine AW.weak (ρ' := [(1, (eStr p1)), (5, (.fz 3 (t13.1.map e61))), (8, (.fz 3 (t14.1.map e61))), (9, (eI64 t14.2.1)), (11, (eI64 (0 : Int)))]) (H' := []) ⟨rfl, rfl, rfl, rfl, rfl, trivial⟩ (Sub.refl _) ?_
              refine AW.loop (fun kq ρ H => ∃ (x28 : Int), ρ = [(1, (eStr p1)), (5, (.fz 3 (t13.1.map e61))), (8, (.fz 3 (t14.1.map e61))), (9, (eI64 t14.2.1)), (11, (eI64 x28))] ∧ H = [] ∧ bosketlaw12_MunchAll_l1 k p1 t13 t14 kq x28 = some r) k ⟨(0 : Int), rfl, rfl, h⟩ ?_
              rintro kq30 _ _ ⟨x28, rfl, rfl, h⟩
              cases kq30 with
              | zero => rw [bosketlaw12_MunchAll_l1.eq_1] at h; cases h
              | succ kq30 =>
              rw [bosketlaw12_MunchAll_l1.eq_2] at h
              generalize hrec29 : bosketlaw12_MunchAll_l1 k p1 t13 t14 kq30 = rec29 at h
              refine AW.seq ?_
              refine AW.seq ?_
              refine AW.reg ?_
              refine AO.calm rfl 65 rfl (by decide) (eI64 x28) (Calm.move rfl rfl) ?_
              refine AO.calm rfl 66 rfl (by decide) (.fz 3 (t13.1.map e61)) (Calm.move rfl rfl) ?_
              refine AO.calm rfl 67 rfl (by decide) (eI64 (t13.1.length : Int)) (Calm.lenL rfl rfl Try.underlying55) ?_
              refine AO.calm rfl 68 rfl (by decide) (eBool (decide (x28 < (t13.1.length : Int)))) (Calm.int rfl rfl rfl rfl) ?_
              refine AO.nil (ρ' := [(1, (eStr p1)), (5, (.fz 3 (t13.1.map e61))), (8, (.fz 3 (t14.1.map e61))), (9, (eI64 t14.2.1)), (11, (eI64 x28)), (68, (eBool (decide (x28 < (t13.1.length : Int)))))]) (H' := []) ⟨rfl, rfl, rfl, rfl, rfl, rfl, trivial⟩ (Sub.refl _) ?_
              by_cases hc31 : x28 < (t13.1.length : Int)
              · have h := (if_pos hc31).symm.trans h
                refine AW.condP (x28 < (t13.1.length : Int)) rfl hc31 ?_
                refine AW.skip (ρ' := [(1, (eStr p1)), (5, (.fz 3 (t13.1.map e61))), (8, (.fz 3 (t14.1.map e61))), (9, (eI64 t14.2.1)), (11, (eI64 x28))]) (H' := []) ⟨rfl, rfl, rfl, rfl, rfl, trivial⟩ (Sub.refl _) ?_
                refine AW.seq ?_
                refine AW.block ?_
                refine AW.seq ?_
                refine AW.regQ (by rfl) (by decide +kernel) ?_
                refine AQ.calm rfl 71 rfl (by decide) (.fz 3 (t13.1.map e61)) (Calm.move rfl rfl) ?_
                refine AQ.calm rfl 72 rfl (by decide) (eI64 x28) (Calm.move rfl rfl) ?_
                obtain ⟨hg32, h⟩ := of_guard h
                refine AQ.calm rfl 73 rfl (by decide) (.rp (e61 (lget t13.1 x28))) (Calm.idxL (f := e61) rfl rfl rfl hg32 Try.underlying55 sz61) ?_
                refine AQ.calm rfl 74 rfl (by decide) (e61 (lget t13.1 x28)) (Calm.loadRp rfl rfl ag61 sz61) ?_
                refine AQ.calm rfl 75 rfl (by decide) (.fz 3 (t14.1.map e61)) (Calm.move rfl rfl) ?_
                refine AQ.calm rfl 76 rfl (by decide) (eI64 x28) (Calm.move rfl rfl) ?_
                obtain ⟨hg33, h⟩ := of_guard h
                refine AQ.calm rfl 77 rfl (by decide) (.rp (e61 (lget t14.1 x28))) (Calm.idxL (f := e61) rfl rfl rfl hg33 Try.underlying55 sz61) ?_
                refine AQ.calm rfl 78 rfl (by decide) (e61 (lget t14.1 x28)) (Calm.loadRp rfl rfl ag61 sz61) ?_
                refine AQ.calm rfl 79 rfl (by decide) (eBool (!(decide ((lget t13.1 x28) = (lget t14.1 x28))))) (Calm.neS rfl rfl rfl eg61 (eqk61 (lget t13.1 x28) (lget t14.1 x28)) (by decide)) ?_
                refine AQ.nil (ρ' := [(1, (eStr p1)), (5, (.fz 3 (t13.1.map e61))), (8, (.fz 3 (t14.1.map e61))), (9, (eI64 t14.2.1)), (11, (eI64 x28)), (79, (eBool (!(decide ((lget t13.1 x28) = (lget t14.1 x28))))))]) ⟨rfl, rfl, rfl, rfl, rfl, rfl, trivial⟩ ?_
                by_cases hc34 : (!(decide ((lget t13.1 x28) = (lget t14.1 x28)))) = true
                · have h := (if_pos hc34).symm.trans h
                  refine AW.condT' (!(decide ((lget t13.1 x28) = (lget t14.1 x28)))) rfl hc34 ?_
                  refine AW.seq ?_
                  refine AW.reg ?_
                  refine AO.calm rfl 4 rfl (by decide) (eBool false) (Calm.assign rfl rfl) ?_
                  refine AO.nil (ρ' := [(4, (eBool false))]) (H' := []) ⟨rfl, trivial⟩ (Sub.refl _) ?_
                  refine AW.ret (ρ' := [(4, (eBool false))]) (H' := []) ⟨rfl, trivial⟩ (Sub.refl _) ?_
                  have hr := Option.some.inj h
                  subst hr
                  exact ⟨[(eBool false)], ⟨rfl, rfl, trivial⟩, rfl⟩
                · have h := (if_neg hc34).symm.trans h
                  refine AW.condF' (!(decide ((lget t13.1 x28) = (lget t14.1 x28)))) rfl hc34 ?_
                  refine AW.skip (ρ' := [(1, (eStr p1)), (5, (.fz 3 (t13.1.map e61))), (8, (.fz 3 (t14.1.map e61))), (9, (eI64 t14.2.1)), (11, (eI64 x28))]) (H' := []) ⟨rfl, rfl, rfl, rfl, rfl, trivial⟩ (Sub.refl _) ?_
                  refine AW.reg ?_
                  refine AO.calm rfl 69 rfl (by decide) (eI64 x28) (Calm.move rfl rfl) ?_
                  refine AO.calm rfl 70 rfl (by decide) (eI64 (w64 (x28 + (1 : Int)))) (Calm.int rfl rfl rfl rfl) ?_
                  refine AO.calm rfl 11 rfl (by decide) (eI64 (w64 (x28 + (1 : Int)))) (Calm.assign rfl rfl) ?_
                  refine AO.nil (ρ' := [(1, (eStr p1)), (5, (.fz 3 (t13.1.map e61))), (8, (.fz 3 (t14.1.map e61))), (9, (eI64 t14.2.1)), (11, (eI64 (w64 (x28 + (1 : Int)))))]) (H' := []) ⟨rfl, rfl, rfl, rfl, rfl, trivial⟩ (Sub.refl _) ?_
                  exact ⟨kq30, Nat.lt_succ_self _, (w64 (x28 + (1 : Int))), rfl, rfl, by rw [hrec29]; exact h⟩
              · have h := (if_neg hc31).symm.trans h
                refine AW.condN (x28 < (t13.1.length : Int)) rfl hc31 ?_
                refine AW.exit (ρ' := [(1, (eStr p1)), (5, (.fz 3 (t13.1.map e61))), (8, (.fz 3 (t14.1.map e61))), (9, (eI64 t14.2.1))]) (H' := []) ⟨rfl, rfl, rfl, rfl, trivial⟩ (Sub.refl _) ?_
                exact ⟨rfl, rfl, h⟩
            · rintro _ _ ⟨rfl, rfl, h⟩
              rw [bosketlaw12_MunchAll_c0.eq_1] at h
              refine AW.seq ?_
              obtain ⟨b22, hq23, h⟩ := of_bind h
              refine AW.regQM (by rfl) (by decide +kernel) [(4, (eBool b22))] ?_ ?_
              · refine AQ.calm rfl 80 rfl (by decide) (.fz 3 (t13.1.map e61)) (Calm.move rfl rfl) ?_
                obtain ⟨t24, et24, hq23⟩ := of_bind hq23
                refine AQ.calm rfl 81 rfl (by decide) (eStr t24) (Calm.call (args := [(.fz 3 (t13.1.map e61))]) rfl rfl ok34 ⟨rfl, rfl, trivial⟩ rfl (munch_Text_spec et24)) ?_
                refine AQ.calm rfl 82 rfl (by decide) (eStr p1) (Calm.move rfl rfl) ?_
                refine AQ.calm rfl 83 rfl (by decide) (eI64 t14.2.1) (Calm.move rfl rfl) ?_
                obtain ⟨hg25, hq23⟩ := of_guard hq23
                refine AQ.calm rfl 84 rfl (by decide) (eStr (p1.extract (0 : Int).toNat t14.2.1.toNat)) (Calm.sliceS rfl rfl rfl rfl hg25 Try.underlying9) ?_
                refine AQ.calm rfl 85 rfl (by decide) (eBool (decide (t24 = (p1.extract (0 : Int).toNat t14.2.1.toNat)))) (Calm.str rfl rfl rfl rfl) ?_
                refine AQ.calm rfl 86 rfl (by decide) (eBool (decide (t24 = (p1.extract (0 : Int).toNat t14.2.1.toNat)))) (Calm.move rfl rfl) ?_
                by_cases hc26 : t24 = (p1.extract (0 : Int).toNat t14.2.1.toNat)
                · have hq23 := (if_pos hc26).symm.trans hq23
                  refine AQ.calmG 6 true 86 rfl rfl (congrArg (fun b => some (AV.fl (Value.bool b))) (decide_eq_true hc26)) 87 rfl (by decide) (.fz 3 (t13.1.map e61)) (Calm.move rfl rfl) ?_
                  refine AQ.calmG 6 true 86 rfl rfl (congrArg (fun b => some (AV.fl (Value.bool b))) (decide_eq_true hc26)) 88 rfl (by decide) (.fz 3 (t14.1.map e61)) (Calm.move rfl rfl) ?_
                  obtain ⟨t27, et27, hq23⟩ := of_bind hq23
                  refine AQ.calmG 6 true 86 rfl rfl (congrArg (fun b => some (AV.fl (Value.bool b))) (decide_eq_true hc26)) 89 rfl (by decide) (eBool t27) (Calm.call (args := [(.fz 3 (t13.1.map e61)), (.fz 3 (t14.1.map e61))]) rfl rfl ok35 ⟨rfl, rfl, rfl, rfl, trivial⟩ rfl (munch_Same_spec et27)) ?_
                  refine AQ.calm rfl 90 rfl (by decide) (eBool t27) (Calm.pickT rfl (congrArg (fun b => some (AV.fl (Value.bool b))) (decide_eq_true hc26)) rfl) ?_
                  refine AQ.calm rfl 4 rfl (by decide) (eBool t27) (Calm.assign rfl rfl) ?_
                  cases hq23
                  refine AQ.nilE rfl ?_
                  exact ⟨rfl, trivial⟩
                · have hq23 := (if_neg hc26).symm.trans hq23
                  refine AQ.skipG 6 false 86 rfl rfl (congrArg (fun b => some (AV.fl (Value.bool b))) (decide_eq_false hc26)) 87 rfl (by decide) ?_
                  refine AQ.skipG 6 false 86 rfl rfl (congrArg (fun b => some (AV.fl (Value.bool b))) (decide_eq_false hc26)) 88 rfl (by decide) ?_
                  refine AQ.skipG 6 false 86 rfl rfl (congrArg (fun b => some (AV.fl (Value.bool b))) (decide_eq_false hc26)) 89 rfl (by decide) ?_
                  refine AQ.calm rfl 90 rfl (by decide) (eBool false) (Calm.pickF rfl (congrArg (fun b => some (AV.fl (Value.bool b))) (decide_eq_false hc26)) rfl) ?_
                  refine AQ.calm rfl 4 rfl (by decide) (eBool false) (Calm.assign rfl rfl) ?_
                  cases hq23
                  refine AQ.nilE rfl ?_
                  exact ⟨rfl, trivial⟩
              · refine AW.ret (ρ' := [(4, (eBool b22))]) (H' := []) ⟨rfl, trivial⟩ (Sub.refl _) ?_
                have hr := Option.some.inj h
                subst hr
                exact ⟨[(eBool b22)], ⟨rfl, rfl, trivial⟩, rfl⟩
end Go.Avl.T1
