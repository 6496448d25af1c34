/- bosket/bosketlaw12.MunchSure; printed by avmain.py. -/
import Derived.Test.YthfongdjcpmpfaaAB
import Derived.Test.YthfongdjcpmpfaaAf12
import Derived.Test.YthfongdjcpmpfaaAf13
import Derived.Test.YthfongdjcpmpfaaAf14
import Derived.Test.YthfongdjcpmpfaaAf18
import Derived.Test.YthfongdjcpmpfaaAf15
import Derived.Test.YthfongdjcpmpfaaAf19
namespace Go.Avl.T1
open Go Go.RowKit Go.Proofs Go.Avl
set_option linter.unusedVariables false
set_option maxRecDepth 100000
set_option maxHeartbeats 4000000
attribute [local irreducible] AW AO AQ Spec SpecH Calm

def bosketlaw12_MunchSure (k : Nat) (p0 : S26) (p1 : ByteArray) (p2 : (Vector ByteArray 2)) : Option Bool :=
  (bosketlaw12_awake k).bind fun t6 =>
  if (!t6) = true then some (false)
  else Option.bind (α := Bool) ((bosketlaw08_Small k p0).bind fun t10 =>
  if (!t10) = true then some (true)
  else (bosketref08_Right k p0).bind fun t12 =>
  if (!t12) = true then some (true)
  else if (30 : Int) < (p1.size : Int) then some (true)
  else if (30 : Int) < ((vget p2 (0 : Int)).size : Int) then some (true)
  else some (decide ((30 : Int) < ((vget p2 (1 : Int)).size : Int)))) fun b8 =>
  if b8 = true then some (true)
  else if p1.size + (vget p2 (0 : Int)).size ≤ 9223372036854775807 then (munch_Sure k p0 (p1 ++ (vget p2 (0 : Int))) (0 : Int)).bind fun t18 =>
  Option.bind (α := Bool) (if t18 < (0 : Int) then some (true)
  else some (decide ((w64 ((p1.size : Int) + ((vget p2 (0 : Int)).size : Int))) < t18))) fun b19 =>
  if b19 = true then some (false)
  else if p1.size + (vget p2 (0 : Int)).size ≤ 9223372036854775807 then (munch_Longest k p0 (p1 ++ (vget p2 (0 : Int))) (0 : Int)).bind fun t24 =>
  if p1.size + (vget p2 (0 : Int)).size ≤ 9223372036854775807 then if 0 ≤ (0 : Int) ∧ (0 : Int) ≤ t18 ∧ t18 ≤ ((p1 ++ (vget p2 (0 : Int))).size : Int) then (some ((p1 ++ (vget p2 (0 : Int))).extract (0 : Int).toNat t18.toNat)).bind fun x27 =>
  if x27.size + (vget p2 (1 : Int)).size ≤ 9223372036854775807 then (munch_Longest k p0 (x27 ++ (vget p2 (1 : Int))) (0 : Int)).bind fun t29 =>
  Option.bind (α := Bool) (if t18 < (w64 ((p1.size : Int) + ((vget p2 (0 : Int)).size : Int))) then if t24.1 ≠ t29.1 then some (true)
  else some (decide (t24.2 ≠ t29.2))
  else some (false)) fun b30 =>
  if b30 = true then some (false)
  else Option.bind (α := Bool) (if t18 = (w64 ((p1.size : Int) + ((vget p2 (0 : Int)).size : Int))) then some (true)
  else (bosketref08_Run k p0 (0 : Int) x27).bind fun t38 =>
  if t38 = (-1 : Int) then if 0 ≤ (0 : Int) ∧ (0 : Int) ≤ (w64 (t18 - (1 : Int))) ∧ (w64 (t18 - (1 : Int))) ≤ (x27.size : Int) then (bosketref08_Run k p0 (0 : Int) (x27.extract (0 : Int).toNat (w64 (t18 - (1 : Int))).toNat)).bind fun t41 =>
  some (decide (t41 ≠ (-1 : Int)))
  else none
  else some (false)) fun b35 =>
  some (b35)
  else none
  else none
  else none
  else none
  else none
theorem bosketlaw12_MunchSure_spec {k : Nat} {p0 : S26} {p1 : ByteArray} {p2 : (Vector ByteArray 2)} {r : Bool} (h : bosketlaw12_MunchSure k p0 p1 p2 = some r) : Spec Try.prog 4 [(e26 p0), (eStr p1), (.ar 1 (p2.toList.map eStr))] (eBool r) := by
  rw [bosketlaw12_MunchSure.eq_1] at h
  refine Spec.intro (res := [.tmp 6]) Try.func4 rfl rfl rfl (Nat.le_of_ble_eq_true rfl) ?_
  refine AW.seq ?_
  refine AW.reg ?_
  refine AO.box rfl 3 rfl (by decide) rfl rfl rfl fun n4 => ?_
  refine AO.box rfl 5 rfl (by decide) rfl rfl rfl fun n5 => ?_
  refine AO.calm rfl 6 rfl (by decide) (eBool false) (Calm.assign rfl rfl) ?_
  refine AO.nil (ρ' := [(1, (eStr p1)), (3, (.ptr n4 0)), (5, (.ptr n5 0))]) (H' := [(n4, .mem (e26 p0)), (n5, .mem (.ar 1 (p2.toList.map eStr)))]) ⟨rfl, rfl, rfl, trivial⟩ (Sub.cons 1 rfl (Sub.cons 0 rfl (Sub.nil _))) ?_
  refine AW.seq ?_
  refine AW.seq ?_
  refine AW.reg ?_
  obtain ⟨t6, et6, h⟩ := of_bind h
  refine AO.callS [] (eBool t6) 13 rfl (by decide) ok12 rfl rfl rfl trivial (bosketlaw12_awake_spec et6) ?_
  refine AO.calm rfl 14 rfl (by decide) (eBool (!t6)) (Calm.not rfl rfl) ?_
  refine AO.nil (ρ' := [(1, (eStr p1)), (3, (.ptr n4 0)), (5, (.ptr n5 0)), (14, (eBool (!t6)))]) (H' := [(n4, .mem (e26 p0)), (n5, .mem (.ar 1 (p2.toList.map eStr)))]) ⟨rfl, rfl, rfl, rfl, trivial⟩ (Sub.refl _) ?_
  by_cases hc7 : (!t6) = true
  · have h := (if_pos hc7).symm.trans h
    refine AW.condT' (!t6) rfl hc7 ?_
    refine AW.seq ?_
    refine AW.reg ?_
    refine AO.calm rfl 6 rfl (by decide) (eBool false) (Calm.assign rfl rfl) ?_
    refine AO.nil (ρ' := [(6, (eBool false))]) (H' := []) ⟨rfl, trivial⟩ (Sub.nil _) ?_
    refine AW.ret (ρ' := [(6, (eBool false))]) (H' := []) ⟨rfl, trivial⟩ (Sub.refl _) ?_
    have hr := Option.some.inj h
    subst hr
    exact ⟨[(eBool false)], ⟨rfl, rfl, trivial⟩, rfl⟩
  · have h := (if_neg hc7).symm.trans h
    refine AW.condF' (!t6) rfl hc7 ?_
    refine AW.skip (ρ' := [(1, (eStr p1)), (3, (.ptr n4 0)), (5, (.ptr n5 0))]) (H' := [(n4, .mem (e26 p0)), (n5, .mem (.ar 1 (p2.toList.map eStr)))]) ⟨rfl, rfl, rfl, trivial⟩ (Sub.refl _) ?_
    refine AW.seq ?_
    refine AW.seq ?_
    obtain ⟨b8, hq9, h⟩ := of_bind h
    refine AW.regM [(1, (eStr p1)), (3, (.ptr n4 0)), (5, (.ptr n5 0)), (39, (eBool b8))] [(n4, .mem (e26 p0)), (n5, .mem (.ar 1 (p2.toList.map eStr)))] ?_ ?_
    · refine AO.calm rfl 15 rfl (by decide) (e26 p0) (Calm.load 0 rfl rfl rfl (At.cast At.here rfl) ag26 sz26) ?_
      obtain ⟨t10, et10, hq9⟩ := of_bind hq9
      refine AO.callS [(e26 p0)] (eBool t10) 16 rfl (by decide) ok13 rfl rfl rfl ⟨rfl, rfl, trivial⟩ (bosketlaw08_Small_spec et10) ?_
      refine AO.calm rfl 17 rfl (by decide) (eBool (!t10)) (Calm.not rfl rfl) ?_
      refine AO.calm rfl 18 rfl (by decide) (eBool (!t10)) (Calm.move rfl rfl) ?_
      by_cases hc11 : (!t10) = true
      · have hq9 := (if_pos hc11).symm.trans hq9
        refine AO.skipG 3 true 18 rfl rfl (congrArg (fun b => some (AV.fl (Value.bool b))) hc11) 19 rfl (by decide) ?_
        refine AO.skipG 3 true 18 rfl rfl (congrArg (fun b => some (AV.fl (Value.bool b))) hc11) 20 rfl (by decide) ?_
        refine AO.skipG 3 true 18 rfl rfl (congrArg (fun b => some (AV.fl (Value.bool b))) hc11) 21 rfl (by decide) ?_
        refine AO.calm rfl 22 rfl (by decide) (eBool true) (Calm.pickT rfl (congrArg (fun b => some (AV.fl (Value.bool b))) hc11) rfl) ?_
        refine AO.calm rfl 23 rfl (by decide) (eBool true) (Calm.move rfl rfl) ?_
        refine AO.skipG 8 true 23 rfl rfl rfl 24 rfl (by decide) ?_
        refine AO.skipG 8 true 23 rfl rfl rfl 25 rfl (by decide) ?_
        refine AO.skipG 8 true 23 rfl rfl rfl 26 rfl (by decide) ?_
        refine AO.calm rfl 27 rfl (by decide) (eBool true) (Calm.pickT rfl rfl rfl) ?_
        refine AO.calm rfl 28 rfl (by decide) (eBool true) (Calm.move rfl rfl) ?_
        refine AO.skipG 13 true 28 rfl rfl rfl 29 rfl (by decide) ?_
        refine AO.skipG 13 true 28 rfl rfl rfl 30 rfl (by decide) ?_
        refine AO.skipG 13 true 28 rfl rfl rfl 31 rfl (by decide) ?_
        refine AO.skipG 13 true 28 rfl rfl rfl 32 rfl (by decide) ?_
        refine AO.calm rfl 33 rfl (by decide) (eBool true) (Calm.pickT rfl rfl rfl) ?_
        refine AO.calm rfl 34 rfl (by decide) (eBool true) (Calm.move rfl rfl) ?_
        refine AO.skipG 19 true 34 rfl rfl rfl 35 rfl (by decide) ?_
        refine AO.skipG 19 true 34 rfl rfl rfl 36 rfl (by decide) ?_
        refine AO.skipG 19 true 34 rfl rfl rfl 37 rfl (by decide) ?_
        refine AO.skipG 19 true 34 rfl rfl rfl 38 rfl (by decide) ?_
        refine AO.calm rfl 39 rfl (by decide) (eBool true) (Calm.pickT rfl rfl rfl) ?_
        cases hq9
        refine AO.nilE ⟨rfl, rfl⟩ ?_ ?_
        · exact ⟨rfl, rfl, rfl, rfl, trivial⟩
        · exact (Sub.refl _)
      · have hq9 := (if_neg hc11).symm.trans hq9
        refine AO.calmG 3 false 18 rfl rfl (congrArg (fun b => some (AV.fl (Value.bool b))) (eq_false_of_ne_true hc11)) 19 rfl (by decide) (e26 p0) (Calm.load 0 rfl rfl rfl (At.cast At.here rfl) ag26 sz26) ?_
        obtain ⟨t12, et12, hq9⟩ := of_bind hq9
        refine AO.callG 3 false 18 [(e26 p0)] (eBool t12) 20 rfl (by decide) ok14 rfl rfl (congrArg (fun b => some (AV.fl (Value.bool b))) (eq_false_of_ne_true hc11)) rfl rfl ⟨rfl, rfl, trivial⟩ (bosketref08_Right_spec et12) ?_
        refine AO.calmG 3 false 18 rfl rfl (congrArg (fun b => some (AV.fl (Value.bool b))) (eq_false_of_ne_true hc11)) 21 rfl (by decide) (eBool (!t12)) (Calm.not rfl rfl) ?_
        refine AO.calm rfl 22 rfl (by decide) (eBool (!t12)) (Calm.pickF rfl (congrArg (fun b => some (AV.fl (Value.bool b))) (eq_false_of_ne_true hc11)) rfl) ?_
        refine AO.calm rfl 23 rfl (by decide) (eBool (!t12)) (Calm.move rfl rfl) ?_
        by_cases hc13 : (!t12) = true
        · have hq9 := (if_pos hc13).symm.trans hq9
          refine AO.skipG 8 true 23 rfl rfl (congrArg (fun b => some (AV.fl (Value.bool b))) hc13) 24 rfl (by decide) ?_
          refine AO.skipG 8 true 23 rfl rfl (congrArg (fun b => some (AV.fl (Value.bool b))) hc13) 25 rfl (by decide) ?_
          refine AO.skipG 8 true 23 rfl rfl (congrArg (fun b => some (AV.fl (Value.bool b))) hc13) 26 rfl (by decide) ?_
          refine AO.calm rfl 27 rfl (by decide) (eBool true) (Calm.pickT rfl (congrArg (fun b => some (AV.fl (Value.bool b))) hc13) rfl) ?_
          refine AO.calm rfl 28 rfl (by decide) (eBool true) (Calm.move rfl rfl) ?_
          refine AO.skipG 13 true 28 rfl rfl rfl 29 rfl (by decide) ?_
          refine AO.skipG 13 true 28 rfl rfl rfl 30 rfl (by decide) ?_
          refine AO.skipG 13 true 28 rfl rfl rfl 31 rfl (by decide) ?_
          refine AO.skipG 13 true 28 rfl rfl rfl 32 rfl (by decide) ?_
          refine AO.calm rfl 33 rfl (by decide) (eBool true) (Calm.pickT rfl rfl rfl) ?_
          refine AO.calm rfl 34 rfl (by decide) (eBool true) (Calm.move rfl rfl) ?_
          refine AO.skipG 19 true 34 rfl rfl rfl 35 rfl (by decide) ?_
          refine AO.skipG 19 true 34 rfl rfl rfl 36 rfl (by decide) ?_
          refine AO.skipG 19 true 34 rfl rfl rfl 37 rfl (by decide) ?_
          refine AO.skipG 19 true 34 rfl rfl rfl 38 rfl (by decide) ?_
          refine AO.calm rfl 39 rfl (by decide) (eBool true) (Calm.pickT rfl rfl rfl) ?_
          cases hq9
          refine AO.nilE ⟨rfl, rfl⟩ ?_ ?_
          · exact ⟨rfl, rfl, rfl, rfl, trivial⟩
          · exact (Sub.refl _)
        · have hq9 := (if_neg hc13).symm.trans hq9
          refine AO.calmG 8 false 23 rfl rfl (congrArg (fun b => some (AV.fl (Value.bool b))) (eq_false_of_ne_true hc13)) 24 rfl (by decide) (eStr p1) (Calm.move rfl rfl) ?_
          refine AO.calmG 8 false 23 rfl rfl (congrArg (fun b => some (AV.fl (Value.bool b))) (eq_false_of_ne_true hc13)) 25 rfl (by decide) (eI64 (p1.size : Int)) (Calm.lenStr rfl rfl Try.underlying9) ?_
          refine AO.calmG 8 false 23 rfl rfl (congrArg (fun b => some (AV.fl (Value.bool b))) (eq_false_of_ne_true hc13)) 26 rfl (by decide) (eBool (decide ((30 : Int) < (p1.size : Int)))) (Calm.int rfl rfl rfl rfl) ?_
          refine AO.calm rfl 27 rfl (by decide) (eBool (decide ((30 : Int) < (p1.size : Int)))) (Calm.pickF rfl (congrArg (fun b => some (AV.fl (Value.bool b))) (eq_false_of_ne_true hc13)) rfl) ?_
          refine AO.calm rfl 28 rfl (by decide) (eBool (decide ((30 : Int) < (p1.size : Int)))) (Calm.move rfl rfl) ?_
          by_cases hc14 : (30 : Int) < (p1.size : Int)
          · have hq9 := (if_pos hc14).symm.trans hq9
            refine AO.skipG 13 true 28 rfl rfl (congrArg (fun b => some (AV.fl (Value.bool b))) (decide_eq_true hc14)) 29 rfl (by decide) ?_
            refine AO.skipG 13 true 28 rfl rfl (congrArg (fun b => some (AV.fl (Value.bool b))) (decide_eq_true hc14)) 30 rfl (by decide) ?_
            refine AO.skipG 13 true 28 rfl rfl (congrArg (fun b => some (AV.fl (Value.bool b))) (decide_eq_true hc14)) 31 rfl (by decide) ?_
            refine AO.skipG 13 true 28 rfl rfl (congrArg (fun b => some (AV.fl (Value.bool b))) (decide_eq_true hc14)) 32 rfl (by decide) ?_
            refine AO.calm rfl 33 rfl (by decide) (eBool true) (Calm.pickT rfl (congrArg (fun b => some (AV.fl (Value.bool b))) (decide_eq_true hc14)) rfl) ?_
            refine AO.calm rfl 34 rfl (by decide) (eBool true) (Calm.move rfl rfl) ?_
            refine AO.skipG 19 true 34 rfl rfl rfl 35 rfl (by decide) ?_
            refine AO.skipG 19 true 34 rfl rfl rfl 36 rfl (by decide) ?_
            refine AO.skipG 19 true 34 rfl rfl rfl 37 rfl (by decide) ?_
            refine AO.skipG 19 true 34 rfl rfl rfl 38 rfl (by decide) ?_
            refine AO.calm rfl 39 rfl (by decide) (eBool true) (Calm.pickT rfl rfl rfl) ?_
            cases hq9
            refine AO.nilE ⟨rfl, rfl⟩ ?_ ?_
            · exact ⟨rfl, rfl, rfl, rfl, trivial⟩
            · exact (Sub.refl _)
          · have hq9 := (if_neg hc14).symm.trans hq9
            refine AO.calmG 13 false 28 rfl rfl (congrArg (fun b => some (AV.fl (Value.bool b))) (decide_eq_false hc14)) 29 rfl (by decide) (.ptr n5 (0 + (0 : Int).toNat * 1)) (Calm.idxP rfl rfl rfl (by decide) Try.underlying33 sz9) ?_
            refine AO.calmG 13 false 28 rfl rfl (congrArg (fun b => some (AV.fl (Value.bool b))) (decide_eq_false hc14)) 30 rfl (by decide) (eStr (vget p2 (0 : Int))) (Calm.load 1 rfl rfl rfl (At.cast (At.vidx (0 : Int) (by decide) (by decide) At.here) (by omega)) ag9 sz9) ?_
            refine AO.calmG 13 false 28 rfl rfl (congrArg (fun b => some (AV.fl (Value.bool b))) (decide_eq_false hc14)) 31 rfl (by decide) (eI64 ((vget p2 (0 : Int)).size : Int)) (Calm.lenStr rfl rfl Try.underlying9) ?_
            refine AO.calmG 13 false 28 rfl rfl (congrArg (fun b => some (AV.fl (Value.bool b))) (decide_eq_false hc14)) 32 rfl (by decide) (eBool (decide ((30 : Int) < ((vget p2 (0 : Int)).size : Int)))) (Calm.int rfl rfl rfl rfl) ?_
            refine AO.calm rfl 33 rfl (by decide) (eBool (decide ((30 : Int) < ((vget p2 (0 : Int)).size : Int)))) (Calm.pickF rfl (congrArg (fun b => some (AV.fl (Value.bool b))) (decide_eq_false hc14)) rfl) ?_
            refine AO.calm rfl 34 rfl (by decide) (eBool (decide ((30 : Int) < ((vget p2 (0 : Int)).size : Int)))) (Calm.move rfl rfl) ?_
            by_cases hc15 : (30 : Int) < ((vget p2 (0 : Int)).size : Int)
            · have hq9 := (if_pos hc15).symm.trans hq9
              refine AO.skipG 19 true 34 rfl rfl (congrArg (fun b => some (AV.fl (Value.bool b))) (decide_eq_true hc15)) 35 rfl (by decide) ?_
              refine AO.skipG 19 true 34 rfl rfl (congrArg (fun b => some (AV.fl (Value.bool b))) (decide_eq_true hc15)) 36 rfl (by decide) ?_
              refine AO.skipG 19 true 34 rfl rfl (congrArg (fun b => some (AV.fl (Value.bool b))) (decide_eq_true hc15)) 37 rfl (by decide) ?_
              refine AO.skipG 19 true 34 rfl rfl (congrArg (fun b => some (AV.fl (Value.bool b))) (decide_eq_true hc15)) 38 rfl (by decide) ?_
              refine AO.calm rfl 39 rfl (by decide) (eBool true) (Calm.pickT rfl (congrArg (fun b => some (AV.fl (Value.bool b))) (decide_eq_true hc15)) rfl) ?_
              cases hq9
              refine AO.nilE ⟨rfl, rfl⟩ ?_ ?_
              · exact ⟨rfl, rfl, rfl, rfl, trivial⟩
              · exact (Sub.refl _)
            · have hq9 := (if_neg hc15).symm.trans hq9
              refine AO.calmG 19 false 34 rfl rfl (congrArg (fun b => some (AV.fl (Value.bool b))) (decide_eq_false hc15)) 35 rfl (by decide) (.ptr n5 (0 + (1 : Int).toNat * 1)) (Calm.idxP rfl rfl rfl (by decide) Try.underlying33 sz9) ?_
              refine AO.calmG 19 false 34 rfl rfl (congrArg (fun b => some (AV.fl (Value.bool b))) (decide_eq_false hc15)) 36 rfl (by decide) (eStr (vget p2 (1 : Int))) (Calm.load 1 rfl rfl rfl (At.cast (At.vidx (1 : Int) (by decide) (by decide) At.here) (by omega)) ag9 sz9) ?_
              refine AO.calmG 19 false 34 rfl rfl (congrArg (fun b => some (AV.fl (Value.bool b))) (decide_eq_false hc15)) 37 rfl (by decide) (eI64 ((vget p2 (1 : Int)).size : Int)) (Calm.lenStr rfl rfl Try.underlying9) ?_
              refine AO.calmG 19 false 34 rfl rfl (congrArg (fun b => some (AV.fl (Value.bool b))) (decide_eq_false hc15)) 38 rfl (by decide) (eBool (decide ((30 : Int) < ((vget p2 (1 : Int)).size : Int)))) (Calm.int rfl rfl rfl rfl) ?_
              refine AO.calm rfl 39 rfl (by decide) (eBool (decide ((30 : Int) < ((vget p2 (1 : Int)).size : Int)))) (Calm.pickF rfl (congrArg (fun b => some (AV.fl (Value.bool b))) (decide_eq_false hc15)) rfl) ?_
              cases hq9
              refine AO.nilE ⟨rfl, rfl⟩ ?_ ?_
              · exact ⟨rfl, rfl, rfl, rfl, trivial⟩
              · exact (Sub.refl _)
    · by_cases hc16 : b8 = true
      · have h := (if_pos hc16).symm.trans h
        refine AW.condT' b8 rfl hc16 ?_
        refine AW.seq ?_
        refine AW.reg ?_
        refine AO.calm rfl 6 rfl (by decide) (eBool true) (Calm.assign rfl rfl) ?_
        refine AO.nil (ρ' := [(6, (eBool true))]) (H' := []) ⟨rfl, trivial⟩ (Sub.nil _) ?_
        refine AW.ret (ρ' := [(6, (eBool true))]) (H' := []) ⟨rfl, trivial⟩ (Sub.refl _) ?_
        have hr := Option.some.inj h
        subst hr
        exact ⟨[(eBool true)], ⟨rfl, rfl, trivial⟩, rfl⟩
      · have h := (if_neg hc16).symm.trans h
        refine AW.condF' b8 rfl hc16 ?_
        refine AW.skip (ρ' := [(1, (eStr p1)), (3, (.ptr n4 0)), (5, (.ptr n5 0))]) (H' := [(n4, .mem (e26 p0)), (n5, .mem (.ar 1 (p2.toList.map eStr)))]) ⟨rfl, rfl, rfl, trivial⟩ (Sub.refl _) ?_
        refine AW.seq ?_
        refine AW.reg ?_
        refine AO.calm rfl 40 rfl (by decide) (e26 p0) (Calm.load 0 rfl rfl rfl (At.cast At.here rfl) ag26 sz26) ?_
        refine AO.calm rfl 41 rfl (by decide) (eStr p1) (Calm.move rfl rfl) ?_
        refine AO.calm rfl 42 rfl (by decide) (.ptr n5 (0 + (0 : Int).toNat * 1)) (Calm.idxP rfl rfl rfl (by decide) Try.underlying33 sz9) ?_
        refine AO.calm rfl 43 rfl (by decide) (eStr (vget p2 (0 : Int))) (Calm.load 1 rfl rfl rfl (At.cast (At.vidx (0 : Int) (by decide) (by decide) At.here) (by omega)) ag9 sz9) ?_
        obtain ⟨hg17, h⟩ := of_guard h
        refine AO.calm rfl 44 rfl (by decide) (eStr (p1 ++ (vget p2 (0 : Int)))) (Calm.cat rfl rfl rfl hg17) ?_
        obtain ⟨t18, et18, h⟩ := of_bind h
        refine AO.callS [(e26 p0), (eStr (p1 ++ (vget p2 (0 : Int)))), (eI64 (0 : Int))] (eI64 t18) 45 rfl (by decide) ok18 rfl rfl rfl ⟨rfl, rfl, rfl, rfl, rfl, rfl, trivial⟩ (munch_Sure_spec et18) ?_
        refine AO.calm rfl 7 rfl (by decide) (eI64 t18) (Calm.assign rfl rfl) ?_
        refine AO.nil (ρ' := [(1, (eStr p1)), (3, (.ptr n4 0)), (5, (.ptr n5 0)), (7, (eI64 t18))]) (H' := [(n4, .mem (e26 p0)), (n5, .mem (.ar 1 (p2.toList.map eStr)))]) ⟨rfl, rfl, rfl, rfl, trivial⟩ (Sub.refl _) ?_
        refine AW.seq ?_
        refine AW.seq ?_
        obtain ⟨b19, hq20, h⟩ := of_bind h
        refine AW.regM [(1, (eStr p1)), (3, (.ptr n4 0)), (5, (.ptr n5 0)), (7, (eI64 t18)), (57, (eBool b19))] [(n4, .mem (e26 p0)), (n5, .mem (.ar 1 (p2.toList.map eStr)))] ?_ ?_
        · refine AO.calm rfl 46 rfl (by decide) (eI64 t18) (Calm.move rfl rfl) ?_
          refine AO.calm rfl 47 rfl (by decide) (eBool (decide (t18 < (0 : Int)))) (Calm.int rfl rfl rfl rfl) ?_
          refine AO.calm rfl 48 rfl (by decide) (eBool (decide (t18 < (0 : Int)))) (Calm.move rfl rfl) ?_
          by_cases hc21 : t18 < (0 : Int)
          · have hq20 := (if_pos hc21).symm.trans hq20
            refine AO.skipG 2 true 48 rfl rfl (congrArg (fun b => some (AV.fl (Value.bool b))) (decide_eq_true hc21)) 49 rfl (by decide) ?_
            refine AO.skipG 2 true 48 rfl rfl (congrArg (fun b => some (AV.fl (Value.bool b))) (decide_eq_true hc21)) 50 rfl (by decide) ?_
            refine AO.skipG 2 true 48 rfl rfl (congrArg (fun b => some (AV.fl (Value.bool b))) (decide_eq_true hc21)) 51 rfl (by decide) ?_
            refine AO.skipG 2 true 48 rfl rfl (congrArg (fun b => some (AV.fl (Value.bool b))) (decide_eq_true hc21)) 52 rfl (by decide) ?_
            refine AO.skipG 2 true 48 rfl rfl (congrArg (fun b => some (AV.fl (Value.bool b))) (decide_eq_true hc21)) 53 rfl (by decide) ?_
            refine AO.skipG 2 true 48 rfl rfl (congrArg (fun b => some (AV.fl (Value.bool b))) (decide_eq_true hc21)) 54 rfl (by decide) ?_
            refine AO.skipG 2 true 48 rfl rfl (congrArg (fun b => some (AV.fl (Value.bool b))) (decide_eq_true hc21)) 55 rfl (by decide) ?_
            refine AO.skipG 2 true 48 rfl rfl (congrArg (fun b => some (AV.fl (Value.bool b))) (decide_eq_true hc21)) 56 rfl (by decide) ?_
            refine AO.calm rfl 57 rfl (by decide) (eBool true) (Calm.pickT rfl (congrArg (fun b => some (AV.fl (Value.bool b))) (decide_eq_true hc21)) rfl) ?_
            cases hq20
            refine AO.nilE ⟨rfl, rfl⟩ ?_ ?_
            · exact ⟨rfl, rfl, rfl, rfl, rfl, trivial⟩
            · exact (Sub.refl _)
          · have hq20 := (if_neg hc21).symm.trans hq20
            refine AO.calmG 2 false 48 rfl rfl (congrArg (fun b => some (AV.fl (Value.bool b))) (decide_eq_false hc21)) 49 rfl (by decide) (eI64 t18) (Calm.move rfl rfl) ?_
            refine AO.calmG 2 false 48 rfl rfl (congrArg (fun b => some (AV.fl (Value.bool b))) (decide_eq_false hc21)) 50 rfl (by decide) (eStr p1) (Calm.move rfl rfl) ?_
            refine AO.calmG 2 false 48 rfl rfl (congrArg (fun b => some (AV.fl (Value.bool b))) (decide_eq_false hc21)) 51 rfl (by decide) (eI64 (p1.size : Int)) (Calm.lenStr rfl rfl Try.underlying9) ?_
            refine AO.calmG 2 false 48 rfl rfl (congrArg (fun b => some (AV.fl (Value.bool b))) (decide_eq_false hc21)) 52 rfl (by decide) (.ptr n5 (0 + (0 : Int).toNat * 1)) (Calm.idxP rfl rfl rfl (by decide) Try.underlying33 sz9) ?_
            refine AO.calmG 2 false 48 rfl rfl (congrArg (fun b => some (AV.fl (Value.bool b))) (decide_eq_false hc21)) 53 rfl (by decide) (eStr (vget p2 (0 : Int))) (Calm.load 1 rfl rfl rfl (At.cast (At.vidx (0 : Int) (by decide) (by decide) At.here) (by omega)) ag9 sz9) ?_
            refine AO.calmG 2 false 48 rfl rfl (congrArg (fun b => some (AV.fl (Value.bool b))) (decide_eq_false hc21)) 54 rfl (by decide) (eI64 ((vget p2 (0 : Int)).size : Int)) (Calm.lenStr rfl rfl Try.underlying9) ?_
            refine AO.calmG 2 false 48 rfl rfl (congrArg (fun b => some (AV.fl (Value.bool b))) (decide_eq_false hc21)) 55 rfl (by decide) (eI64 (w64 ((p1.size : Int) + ((vget p2 (0 : Int)).size : Int)))) (Calm.int rfl rfl rfl rfl) ?_
            refine AO.calmG 2 false 48 rfl rfl (congrArg (fun b => some (AV.fl (Value.bool b))) (decide_eq_false hc21)) 56 rfl (by decide) (eBool (decide ((w64 ((p1.size : Int) + ((vget p2 (0 : Int)).size : Int))) < t18))) (Calm.int rfl rfl rfl rfl) ?_
            refine AO.calm rfl 57 rfl (by decide) (eBool (decide ((w64 ((p1.size : Int) + ((vget p2 (0 : Int)).size : Int))) < t18))) (Calm.pickF rfl (congrArg (fun b => some (AV.fl (Value.bool b))) (decide_eq_false hc21)) rfl) ?_
            cases hq20
            refine AO.nilE ⟨rfl, rfl⟩ ?_ ?_
            · exact ⟨rfl, rfl, rfl, rfl, rfl, trivial⟩
            · exact (Sub.refl _)
        · by_cases hc22 : b19 = true
          · have h := (if_pos hc22).symm.trans h
            refine AW.condT' b19 rfl hc22 ?_
            refine AW.seq ?_
            refine AW.reg ?_
            refine AO.calm rfl 6 rfl (by decide) (eBool false) (Calm.assign rfl rfl) ?_
            refine AO.nil (ρ' := [(6, (eBool false))]) (H' := []) ⟨rfl, trivial⟩ (Sub.nil _) ?_
            refine AW.ret (ρ' := [(6, (eBool false))]) (H' := []) ⟨rfl, trivial⟩ (Sub.refl _) ?_
            have hr := Option.some.inj h
            subst hr
            exact ⟨[(eBool false)], ⟨rfl, rfl, trivial⟩, rfl⟩
          · have h := (if_neg hc22).symm.trans h
            refine AW.condF' b19 rfl hc22 ?_
            refine AW.skip (ρ' := [(1, (eStr p1)), (3, (.ptr n4 0)), (5, (.ptr n5 0)), (7, (eI64 t18))]) (H' := [(n4, .mem (e26 p0)), (n5, .mem (.ar 1 (p2.toList.map eStr)))]) ⟨rfl, rfl, rfl, rfl, trivial⟩ (Sub.refl _) ?_
            refine AW.seq ?_
            refine AW.reg ?_
            refine AO.calm rfl 59 rfl (by decide) (e26 p0) (Calm.load 0 rfl rfl rfl (At.cast At.here rfl) ag26 sz26) ?_
            refine AO.calm rfl 60 rfl (by decide) (eStr p1) (Calm.move rfl rfl) ?_
            refine AO.calm rfl 61 rfl (by decide) (.ptr n5 (0 + (0 : Int).toNat * 1)) (Calm.idxP rfl rfl rfl (by decide) Try.underlying33 sz9) ?_
            refine AO.calm rfl 62 rfl (by decide) (eStr (vget p2 (0 : Int))) (Calm.load 1 rfl rfl rfl (At.cast (At.vidx (0 : Int) (by decide) (by decide) At.here) (by omega)) ag9 sz9) ?_
            obtain ⟨hg23, h⟩ := of_guard h
            refine AO.calm rfl 63 rfl (by decide) (eStr (p1 ++ (vget p2 (0 : Int)))) (Calm.cat rfl rfl rfl hg23) ?_
            obtain ⟨t24, et24, h⟩ := of_bind h
            refine AO.callS [(e26 p0), (eStr (p1 ++ (vget p2 (0 : Int)))), (eI64 (0 : Int))] (.tup [(eI64 t24.1), (eI64 t24.2)]) 64 rfl (by decide) ok15 rfl rfl rfl ⟨rfl, rfl, rfl, rfl, rfl, rfl, trivial⟩ (munch_Longest_spec et24) ?_
            refine AO.calm rfl 58 rfl (by decide) (.tup [(eI64 t24.1), (eI64 t24.2)]) (Calm.move rfl rfl) ?_
            refine AO.calm rfl 65 rfl (by decide) (eI64 t24.1) (Calm.extract rfl rfl rfl) ?_
            refine AO.calm rfl 66 rfl (by decide) (eI64 t24.2) (Calm.extract rfl rfl rfl) ?_
            refine AO.calm rfl 8 rfl (by decide) (eI64 t24.1) (Calm.assign rfl rfl) ?_
            refine AO.calm rfl 9 rfl (by decide) (eI64 t24.2) (Calm.assign rfl rfl) ?_
            refine AO.nil (ρ' := [(1, (eStr p1)), (3, (.ptr n4 0)), (5, (.ptr n5 0)), (7, (eI64 t18)), (8, (eI64 t24.1)), (9, (eI64 t24.2))]) (H' := [(n4, .mem (e26 p0)), (n5, .mem (.ar 1 (p2.toList.map eStr)))]) ⟨rfl, rfl, rfl, rfl, rfl, rfl, trivial⟩ (Sub.refl _) ?_
            refine AW.seq ?_
            refine AW.reg ?_
            refine AO.calm rfl 67 rfl (by decide) (eStr p1) (Calm.move rfl rfl) ?_
            refine AO.calm rfl 68 rfl (by decide) (.ptr n5 (0 + (0 : Int).toNat * 1)) (Calm.idxP rfl rfl rfl (by decide) Try.underlying33 sz9) ?_
            refine AO.calm rfl 69 rfl (by decide) (eStr (vget p2 (0 : Int))) (Calm.load 1 rfl rfl rfl (At.cast (At.vidx (0 : Int) (by decide) (by decide) At.here) (by omega)) ag9 sz9) ?_
            obtain ⟨hg25, h⟩ := of_guard h
            refine AO.calm rfl 70 rfl (by decide) (eStr (p1 ++ (vget p2 (0 : Int)))) (Calm.cat rfl rfl rfl hg25) ?_
            refine AO.calm rfl 71 rfl (by decide) (eI64 t18) (Calm.move rfl rfl) ?_
            obtain ⟨hg26, h⟩ := of_guard h
            refine AO.calm rfl 72 rfl (by decide) (eStr ((p1 ++ (vget p2 (0 : Int))).extract (0 : Int).toNat t18.toNat)) (Calm.sliceS rfl rfl rfl rfl hg26 Try.underlying9) ?_
            obtain ⟨x27, ex27, h⟩ := of_bind h
            refine AO.calm rfl 10 rfl (by decide) (eStr x27) (Calm.assign rfl (congrArg (fun x => some (eStr x)) (Option.some.inj ex27))) ?_
            refine AO.nil (ρ' := [(1, (eStr p1)), (3, (.ptr n4 0)), (5, (.ptr n5 0)), (7, (eI64 t18)), (8, (eI64 t24.1)), (9, (eI64 t24.2)), (10, (eStr x27))]) (H' := [(n4, .mem (e26 p0)), (n5, .mem (.ar 1 (p2.toList.map eStr)))]) ⟨rfl, rfl, rfl, rfl, rfl, rfl, rfl, trivial⟩ (Sub.refl _) ?_
            refine AW.seq ?_
            refine AW.reg ?_
            refine AO.calm rfl 74 rfl (by decide) (e26 p0) (Calm.load 0 rfl rfl rfl (At.cast At.here rfl) ag26 sz26) ?_
            refine AO.calm rfl 75 rfl (by decide) (eStr x27) (Calm.move rfl rfl) ?_
            refine AO.calm rfl 76 rfl (by decide) (.ptr n5 (0 + (1 : Int).toNat * 1)) (Calm.idxP rfl rfl rfl (by decide) Try.underlying33 sz9) ?_
            refine AO.calm rfl 77 rfl (by decide) (eStr (vget p2 (1 : Int))) (Calm.load 1 rfl rfl rfl (At.cast (At.vidx (1 : Int) (by decide) (by decide) At.here) (by omega)) ag9 sz9) ?_
            obtain ⟨hg28, h⟩ := of_guard h
            refine AO.calm rfl 78 rfl (by decide) (eStr (x27 ++ (vget p2 (1 : Int)))) (Calm.cat rfl rfl rfl hg28) ?_
            obtain ⟨t29, et29, h⟩ := of_bind h
            refine AO.callS [(e26 p0), (eStr (x27 ++ (vget p2 (1 : Int)))), (eI64 (0 : Int))] (.tup [(eI64 t29.1), (eI64 t29.2)]) 79 rfl (by decide) ok15 rfl rfl rfl ⟨rfl, rfl, rfl, rfl, rfl, rfl, trivial⟩ (munch_Longest_spec et29) ?_
            refine AO.calm rfl 73 rfl (by decide) (.tup [(eI64 t29.1), (eI64 t29.2)]) (Calm.move rfl rfl) ?_
            refine AO.calm rfl 80 rfl (by decide) (eI64 t29.1) (Calm.extract rfl rfl rfl) ?_
            refine AO.calm rfl 81 rfl (by decide) (eI64 t29.2) (Calm.extract rfl rfl rfl) ?_
            refine AO.calm rfl 11 rfl (by decide) (eI64 t29.1) (Calm.assign rfl rfl) ?_
            refine AO.calm rfl 12 rfl (by decide) (eI64 t29.2) (Calm.assign rfl rfl) ?_
            refine AO.nil (ρ' := [(1, (eStr p1)), (3, (.ptr n4 0)), (5, (.ptr n5 0)), (7, (eI64 t18)), (8, (eI64 t24.1)), (9, (eI64 t24.2)), (10, (eStr x27)), (11, (eI64 t29.1)), (12, (eI64 t29.2))]) (H' := [(n4, .mem (e26 p0)), (n5, .mem (.ar 1 (p2.toList.map eStr)))]) ⟨rfl, rfl, rfl, rfl, rfl, rfl, rfl, rfl, rfl, trivial⟩ (Sub.refl _) ?_
            refine AW.seq ?_
            refine AW.seq ?_
            obtain ⟨b30, hq31, h⟩ := of_bind h
            refine AW.regM [(1, (eStr p1)), (3, (.ptr n4 0)), (5, (.ptr n5 0)), (7, (eI64 t18)), (10, (eStr x27)), (99, (eBool b30))] [(n4, .mem (e26 p0)), (n5, .mem (.ar 1 (p2.toList.map eStr)))] ?_ ?_
            · refine AO.calm rfl 82 rfl (by decide) (eI64 t18) (Calm.move rfl rfl) ?_
              refine AO.calm rfl 83 rfl (by decide) (eStr p1) (Calm.move rfl rfl) ?_
              refine AO.calm rfl 84 rfl (by decide) (eI64 (p1.size : Int)) (Calm.lenStr rfl rfl Try.underlying9) ?_
              refine AO.calm rfl 85 rfl (by decide) (.ptr n5 (0 + (0 : Int).toNat * 1)) (Calm.idxP rfl rfl rfl (by decide) Try.underlying33 sz9) ?_
              refine AO.calm rfl 86 rfl (by decide) (eStr (vget p2 (0 : Int))) (Calm.load 1 rfl rfl rfl (At.cast (At.vidx (0 : Int) (by decide) (by decide) At.here) (by omega)) ag9 sz9) ?_
              refine AO.calm rfl 87 rfl (by decide) (eI64 ((vget p2 (0 : Int)).size : Int)) (Calm.lenStr rfl rfl Try.underlying9) ?_
              refine AO.calm rfl 88 rfl (by decide) (eI64 (w64 ((p1.size : Int) + ((vget p2 (0 : Int)).size : Int)))) (Calm.int rfl rfl rfl rfl) ?_
              refine AO.calm rfl 89 rfl (by decide) (eBool (decide (t18 < (w64 ((p1.size : Int) + ((vget p2 (0 : Int)).size : Int)))))) (Calm.int rfl rfl rfl rfl) ?_
              refine AO.calm rfl 90 rfl (by decide) (eBool (decide (t18 < (w64 ((p1.size : Int) + ((vget p2 (0 : Int)).size : Int)))))) (Calm.move rfl rfl) ?_
              by_cases hc32 : t18 < (w64 ((p1.size : Int) + ((vget p2 (0 : Int)).size : Int)))
              · have hq31 := (if_pos hc32).symm.trans hq31
                refine AO.calmG 8 true 90 rfl rfl (congrArg (fun b => some (AV.fl (Value.bool b))) (decide_eq_true hc32)) 91 rfl (by decide) (eI64 t24.1) (Calm.move rfl rfl) ?_
                refine AO.calmG 8 true 90 rfl rfl (congrArg (fun b => some (AV.fl (Value.bool b))) (decide_eq_true hc32)) 92 rfl (by decide) (eI64 t29.1) (Calm.move rfl rfl) ?_
                refine AO.calmG 8 true 90 rfl rfl (congrArg (fun b => some (AV.fl (Value.bool b))) (decide_eq_true hc32)) 93 rfl (by decide) (eBool (decide (t24.1 ≠ t29.1))) (Calm.int rfl rfl rfl rfl) ?_
                refine AO.calmG 8 true 90 rfl rfl (congrArg (fun b => some (AV.fl (Value.bool b))) (decide_eq_true hc32)) 94 rfl (by decide) (eBool (decide (t24.1 ≠ t29.1))) (Calm.move rfl rfl) ?_
                by_cases hc33 : t24.1 ≠ t29.1
                · have hq31 := (if_pos hc33).symm.trans hq31
                  refine AO.skipG 12 true 94 rfl rfl (congrArg (fun b => some (AV.fl (Value.bool b))) (decide_eq_true hc33)) 95 rfl (by decide) ?_
                  refine AO.skipG 12 true 94 rfl rfl (congrArg (fun b => some (AV.fl (Value.bool b))) (decide_eq_true hc33)) 96 rfl (by decide) ?_
                  refine AO.skipG 12 true 94 rfl rfl (congrArg (fun b => some (AV.fl (Value.bool b))) (decide_eq_true hc33)) 97 rfl (by decide) ?_
                  refine AO.calmG 8 true 90 rfl rfl (congrArg (fun b => some (AV.fl (Value.bool b))) (decide_eq_true hc32)) 98 rfl (by decide) (eBool true) (Calm.pickT rfl (congrArg (fun b => some (AV.fl (Value.bool b))) (decide_eq_true hc33)) rfl) ?_
                  refine AO.calm rfl 99 rfl (by decide) (eBool true) (Calm.pickT rfl (congrArg (fun b => some (AV.fl (Value.bool b))) (decide_eq_true hc32)) rfl) ?_
                  cases hq31
                  refine AO.nilE ⟨rfl, rfl⟩ ?_ ?_
                  · exact ⟨rfl, rfl, rfl, rfl, rfl, rfl, trivial⟩
                  · exact (Sub.refl _)
                · have hq31 := (if_neg hc33).symm.trans hq31
                  refine AO.calmG 12 false 94 rfl rfl (congrArg (fun b => some (AV.fl (Value.bool b))) (decide_eq_false hc33)) 95 rfl (by decide) (eI64 t24.2) (Calm.move rfl rfl) ?_
                  refine AO.calmG 12 false 94 rfl rfl (congrArg (fun b => some (AV.fl (Value.bool b))) (decide_eq_false hc33)) 96 rfl (by decide) (eI64 t29.2) (Calm.move rfl rfl) ?_
                  refine AO.calmG 12 false 94 rfl rfl (congrArg (fun b => some (AV.fl (Value.bool b))) (decide_eq_false hc33)) 97 rfl (by decide) (eBool (decide (t24.2 ≠ t29.2))) (Calm.int rfl rfl rfl rfl) ?_
                  refine AO.calmG 8 true 90 rfl rfl (congrArg (fun b => some (AV.fl (Value.bool b))) (decide_eq_true hc32)) 98 rfl (by decide) (eBool (decide (t24.2 ≠ t29.2))) (Calm.pickF rfl (congrArg (fun b => some (AV.fl (Value.bool b))) (decide_eq_false hc33)) rfl) ?_
                  refine AO.calm rfl 99 rfl (by decide) (eBool (decide (t24.2 ≠ t29.2))) (Calm.pickT rfl (congrArg (fun b => some (AV.fl (Value.bool b))) (decide_eq_true hc32)) rfl) ?_
                  cases hq31
                  refine AO.nilE ⟨rfl, rfl⟩ ?_ ?_
                  · exact ⟨rfl, rfl, rfl, rfl, rfl, rfl, trivial⟩
                  · exact (Sub.refl _)
              · have hq31 := (if_neg hc32).symm.trans hq31
                refine AO.skipG 8 false 90 rfl rfl (congrArg (fun b => some (AV.fl (Value.bool b))) (decide_eq_false hc32)) 91 rfl (by decide) ?_
                refine AO.skipG 8 false 90 rfl rfl (congrArg (fun b => some (AV.fl (Value.bool b))) (decide_eq_false hc32)) 92 rfl (by decide) ?_
                refine AO.skipG 8 false 90 rfl rfl (congrArg (fun b => some (AV.fl (Value.bool b))) (decide_eq_false hc32)) 93 rfl (by decide) ?_
                refine AO.skipG 8 false 90 rfl rfl (congrArg (fun b => some (AV.fl (Value.bool b))) (decide_eq_false hc32)) 94 rfl (by decide) ?_
                refine AO.skipU 12 false 94 rfl rfl rfl 95 rfl (by decide) ?_
                refine AO.skipU 12 false 94 rfl rfl rfl 96 rfl (by decide) ?_
                refine AO.skipU 12 false 94 rfl rfl rfl 97 rfl (by decide) ?_
                refine AO.skipG 8 false 90 rfl rfl (congrArg (fun b => some (AV.fl (Value.bool b))) (decide_eq_false hc32)) 98 rfl (by decide) ?_
                refine AO.calm rfl 99 rfl (by decide) (eBool false) (Calm.pickF rfl (congrArg (fun b => some (AV.fl (Value.bool b))) (decide_eq_false hc32)) rfl) ?_
                cases hq31
                refine AO.nilE ⟨rfl, rfl⟩ ?_ ?_
                · exact ⟨rfl, rfl, rfl, rfl, rfl, rfl, trivial⟩
                · exact (Sub.refl _)
            · by_cases hc34 : b30 = true
              · have h := (if_pos hc34).symm.trans h
                refine AW.condT' b30 rfl hc34 ?_
                refine AW.seq ?_
                refine AW.reg ?_
                refine AO.calm rfl 6 rfl (by decide) (eBool false) (Calm.assign rfl rfl) ?_
                refine AO.nil (ρ' := [(6, (eBool false))]) (H' := []) ⟨rfl, trivial⟩ (Sub.nil _) ?_
                refine AW.ret (ρ' := [(6, (eBool false))]) (H' := []) ⟨rfl, trivial⟩ (Sub.refl _) ?_
                have hr := Option.some.inj h
                subst hr
                exact ⟨[(eBool false)], ⟨rfl, rfl, trivial⟩, rfl⟩
              · have h := (if_neg hc34).symm.trans h
                refine AW.condF' b30 rfl hc34 ?_
                refine AW.skip (ρ' := [(1, (eStr p1)), (3, (.ptr n4 0)), (5, (.ptr n5 0)), (7, (eI64 t18)), (10, (eStr x27))]) (H' := [(n4, .mem (e26 p0)), (n5, .mem (.ar 1 (p2.toList.map eStr)))]) ⟨rfl, rfl, rfl, rfl, rfl, trivial⟩ (Sub.refl _) ?_
                refine AW.seq ?_
                obtain ⟨b35, hq36, h⟩ := of_bind h
                refine AW.regQM (by rfl) (by decide +kernel) [(6, (eBool b35))] ?_ ?_
                · refine AQ.calm rfl 100 rfl (by decide) (eI64 t18) (Calm.move rfl rfl) ?_
                  refine AQ.calm rfl 101 rfl (by decide) (eStr p1) (Calm.move rfl rfl) ?_
                  refine AQ.calm rfl 102 rfl (by decide) (eI64 (p1.size : Int)) (Calm.lenStr rfl rfl Try.underlying9) ?_
                  refine AQ.calm rfl 103 rfl (by decide) (.ptr n5 (0 + (0 : Int).toNat * 1)) (Calm.idxP rfl rfl rfl (by decide) Try.underlying33 sz9) ?_
                  refine AQ.calm rfl 104 rfl (by decide) (eStr (vget p2 (0 : Int))) (Calm.load 1 rfl rfl rfl (At.cast (At.vidx (0 : Int) (by decide) (by decide) At.here) (by omega)) ag9 sz9) ?_
                  refine AQ.calm rfl 105 rfl (by decide) (eI64 ((vget p2 (0 : Int)).size : Int)) (Calm.lenStr rfl rfl Try.underlying9) ?_
                  refine AQ.calm rfl 106 rfl (by decide) (eI64 (w64 ((p1.size : Int) + ((vget p2 (0 : Int)).size : Int)))) (Calm.int rfl rfl rfl rfl) ?_
                  refine AQ.calm rfl 107 rfl (by decide) (eBool (decide (t18 = (w64 ((p1.size : Int) + ((vget p2 (0 : Int)).size : Int)))))) (Calm.int rfl rfl rfl rfl) ?_
                  refine AQ.calm rfl 108 rfl (by decide) (eBool (decide (t18 = (w64 ((p1.size : Int) + ((vget p2 (0 : Int)).size : Int)))))) (Calm.move rfl rfl) ?_
                  by_cases hc37 : t18 = (w64 ((p1.size : Int) + ((vget p2 (0 : Int)).size : Int)))
                  · have hq36 := (if_pos hc37).symm.trans hq36
                    refine AQ.skipG 8 true 108 rfl rfl (congrArg (fun b => some (AV.fl (Value.bool b))) (decide_eq_true hc37)) 109 rfl (by decide) ?_
                    refine AQ.skipG 8 true 108 rfl rfl (congrArg (fun b => some (AV.fl (Value.bool b))) (decide_eq_true hc37)) 110 rfl (by decide) ?_
                    refine AQ.skipG 8 true 108 rfl rfl (congrArg (fun b => some (AV.fl (Value.bool b))) (decide_eq_true hc37)) 111 rfl (by decide) ?_
                    refine AQ.skipG 8 true 108 rfl rfl (congrArg (fun b => some (AV.fl (Value.bool b))) (decide_eq_true hc37)) 112 rfl (by decide) ?_
                    refine AQ.skipG 8 true 108 rfl rfl (congrArg (fun b => some (AV.fl (Value.bool b))) (decide_eq_true hc37)) 113 rfl (by decide) ?_
                    refine AQ.skipU 13 true 113 rfl rfl rfl 114 rfl (by decide) ?_
                    refine AQ.skipU 13 true 113 rfl rfl rfl 115 rfl (by decide) ?_
                    refine AQ.skipU 13 true 113 rfl rfl rfl 116 rfl (by decide) ?_
                    refine AQ.skipU 13 true 113 rfl rfl rfl 117 rfl (by decide) ?_
                    refine AQ.skipU 13 true 113 rfl rfl rfl 118 rfl (by decide) ?_
                    refine AQ.skipU 13 true 113 rfl rfl rfl 119 rfl (by decide) ?_
                    refine AQ.skipU 13 true 113 rfl rfl rfl 120 rfl (by decide) ?_
                    refine AQ.skipG 8 true 108 rfl rfl (congrArg (fun b => some (AV.fl (Value.bool b))) (decide_eq_true hc37)) 121 rfl (by decide) ?_
                    refine AQ.calm rfl 122 rfl (by decide) (eBool true) (Calm.pickT rfl (congrArg (fun b => some (AV.fl (Value.bool b))) (decide_eq_true hc37)) rfl) ?_
                    refine AQ.calm rfl 6 rfl (by decide) (eBool true) (Calm.assign rfl rfl) ?_
                    cases hq36
                    refine AQ.nilE rfl ?_
                    exact ⟨rfl, trivial⟩
                  · have hq36 := (if_neg hc37).symm.trans hq36
                    refine AQ.calmG 8 false 108 rfl rfl (congrArg (fun b => some (AV.fl (Value.bool b))) (decide_eq_false hc37)) 109 rfl (by decide) (e26 p0) (Calm.load 0 rfl rfl rfl (At.cast At.here rfl) ag26 sz26) ?_
                    refine AQ.calmG 8 false 108 rfl rfl (congrArg (fun b => some (AV.fl (Value.bool b))) (decide_eq_false hc37)) 110 rfl (by decide) (eStr x27) (Calm.move rfl rfl) ?_
                    obtain ⟨t38, et38, hq36⟩ := of_bind hq36
                    refine AQ.calmG 8 false 108 rfl rfl (congrArg (fun b => some (AV.fl (Value.bool b))) (decide_eq_false hc37)) 111 rfl (by decide) (eI64 t38) (Calm.call (args := [(e26 p0), (eI64 (0 : Int)), (eStr x27)]) rfl rfl ok19 ⟨rfl, rfl, rfl, rfl, rfl, rfl, trivial⟩ rfl (bosketref08_Run_spec et38)) ?_
                    refine AQ.calmG 8 false 108 rfl rfl (congrArg (fun b => some (AV.fl (Value.bool b))) (decide_eq_false hc37)) 112 rfl (by decide) (eBool (decide (t38 = (-1 : Int)))) (Calm.int rfl rfl rfl rfl) ?_
                    refine AQ.calmG 8 false 108 rfl rfl (congrArg (fun b => some (AV.fl (Value.bool b))) (decide_eq_false hc37)) 113 rfl (by decide) (eBool (decide (t38 = (-1 : Int)))) (Calm.move rfl rfl) ?_
                    by_cases hc39 : t38 = (-1 : Int)
                    · have hq36 := (if_pos hc39).symm.trans hq36
                      refine AQ.calmG 13 true 113 rfl rfl (congrArg (fun b => some (AV.fl (Value.bool b))) (decide_eq_true hc39)) 114 rfl (by decide) (e26 p0) (Calm.load 0 rfl rfl rfl (At.cast At.here rfl) ag26 sz26) ?_
                      refine AQ.calmG 13 true 113 rfl rfl (congrArg (fun b => some (AV.fl (Value.bool b))) (decide_eq_true hc39)) 115 rfl (by decide) (eStr x27) (Calm.move rfl rfl) ?_
                      refine AQ.calmG 13 true 113 rfl rfl (congrArg (fun b => some (AV.fl (Value.bool b))) (decide_eq_true hc39)) 116 rfl (by decide) (eI64 t18) (Calm.move rfl rfl) ?_
                      refine AQ.calmG 13 true 113 rfl rfl (congrArg (fun b => some (AV.fl (Value.bool b))) (decide_eq_true hc39)) 117 rfl (by decide) (eI64 (w64 (t18 - (1 : Int)))) (Calm.int rfl rfl rfl rfl) ?_
                      obtain ⟨hg40, hq36⟩ := of_guard hq36
                      refine AQ.calmG 13 true 113 rfl rfl (congrArg (fun b => some (AV.fl (Value.bool b))) (decide_eq_true hc39)) 118 rfl (by decide) (eStr (x27.extract (0 : Int).toNat (w64 (t18 - (1 : Int))).toNat)) (Calm.sliceS rfl rfl rfl rfl hg40 Try.underlying9) ?_
                      obtain ⟨t41, et41, hq36⟩ := of_bind hq36
                      refine AQ.calmG 13 true 113 rfl rfl (congrArg (fun b => some (AV.fl (Value.bool b))) (decide_eq_true hc39)) 119 rfl (by decide) (eI64 t41) (Calm.call (args := [(e26 p0), (eI64 (0 : Int)), (eStr (x27.extract (0 : Int).toNat (w64 (t18 - (1 : Int))).toNat))]) rfl rfl ok19 ⟨rfl, rfl, rfl, rfl, rfl, rfl, trivial⟩ rfl (bosketref08_Run_spec et41)) ?_
                      refine AQ.calmG 13 true 113 rfl rfl (congrArg (fun b => some (AV.fl (Value.bool b))) (decide_eq_true hc39)) 120 rfl (by decide) (eBool (decide (t41 ≠ (-1 : Int)))) (Calm.int rfl rfl rfl rfl) ?_
                      refine AQ.calmG 8 false 108 rfl rfl (congrArg (fun b => some (AV.fl (Value.bool b))) (decide_eq_false hc37)) 121 rfl (by decide) (eBool (decide (t41 ≠ (-1 : Int)))) (Calm.pickT rfl (congrArg (fun b => some (AV.fl (Value.bool b))) (decide_eq_true hc39)) rfl) ?_
                      refine AQ.calm rfl 122 rfl (by decide) (eBool (decide (t41 ≠ (-1 : Int)))) (Calm.pickF rfl (congrArg (fun b => some (AV.fl (Value.bool b))) (decide_eq_false hc37)) rfl) ?_
                      refine AQ.calm rfl 6 rfl (by decide) (eBool (decide (t41 ≠ (-1 : Int)))) (Calm.assign rfl rfl) ?_
                      cases hq36
                      refine AQ.nilE rfl ?_
                      exact ⟨rfl, trivial⟩
                    · have hq36 := (if_neg hc39).symm.trans hq36
                      refine AQ.skipG 13 false 113 rfl rfl (congrArg (fun b => some (AV.fl (Value.bool b))) (decide_eq_false hc39)) 114 rfl (by decide) ?_
                      refine AQ.skipG 13 false 113 rfl rfl (congrArg (fun b => some (AV.fl (Value.bool b))) (decide_eq_false hc39)) 115 rfl (by decide) ?_
                      refine AQ.skipG 13 false 113 rfl rfl (congrArg (fun b => some (AV.fl (Value.bool b))) (decide_eq_false hc39)) 116 rfl (by decide) ?_
                      refine AQ.skipG 13 false 113 rfl rfl (congrArg (fun b => some (AV.fl (Value.bool b))) (decide_eq_false hc39)) 117 rfl (by decide) ?_
                      refine AQ.skipG 13 false 113 rfl rfl (congrArg (fun b => some (AV.fl (Value.bool b))) (decide_eq_false hc39)) 118 rfl (by decide) ?_
                      refine AQ.skipG 13 false 113 rfl rfl (congrArg (fun b => some (AV.fl (Value.bool b))) (decide_eq_false hc39)) 119 rfl (by decide) ?_
                      refine AQ.skipG 13 false 113 rfl rfl (congrArg (fun b => some (AV.fl (Value.bool b))) (decide_eq_false hc39)) 120 rfl (by decide) ?_
                      refine AQ.calmG 8 false 108 rfl rfl (congrArg (fun b => some (AV.fl (Value.bool b))) (decide_eq_false hc37)) 121 rfl (by decide) (eBool false) (Calm.pickF rfl (congrArg (fun b => some (AV.fl (Value.bool b))) (decide_eq_false hc39)) rfl) ?_
                      refine AQ.calm rfl 122 rfl (by decide) (eBool false) (Calm.pickF rfl (congrArg (fun b => some (AV.fl (Value.bool b))) (decide_eq_false hc37)) rfl) ?_
                      refine AQ.calm rfl 6 rfl (by decide) (eBool false) (Calm.assign rfl rfl) ?_
                      cases hq36
                      refine AQ.nilE rfl ?_
                      exact ⟨rfl, trivial⟩
                · refine AW.ret (ρ' := [(6, (eBool b35))]) (H' := []) ⟨rfl, trivial⟩ (Sub.nil _) ?_
                  have hr := Option.some.inj h
                  subst hr
                  exact ⟨[(eBool b35)], ⟨rfl, rfl, trivial⟩, rfl⟩
end Go.Avl.T1
