/- Parts: T2f3, T2f95, T2f96, T2f81, T2f60, T2f97, T2f82. -/
import Derived.Test.YtmgiffbobkgcmaaAF1
import Derived.Test.YtmgiffbobkgcmaaAF2
/- bosket/bosketlaw13.SpotPlaces; printed by avmain.py. -/
namespace Go.Avl.T2
open Go Go.RowKit Go.Proofs Go.Avl
set_option linter.unusedVariables false
set_option maxRecDepth 100000
set_option maxHeartbeats 4000000
attribute [local irreducible] AW AO AQ Spec SpecH Calm

def bosketlaw13_SpotPlaces_c0 (k : Nat) (p0 : ByteArray) (p2 : S23) (x18 : Int) : Option Bool :=
  (spot_At k p0 p2).bind fun t19 =>
  Option.bind (α := Bool) (if (0 : Int) ≤ x18 then if t19.1 = x18 then if t19.2 = (0 : Int) then some (true)
  else if x18 < (0 : Int) then if t19.1 = (0 : Int) then some (decide (t19.2 = (1 : Int)))
  else some (false)
  else some (false)
  else if x18 < (0 : Int) then if t19.1 = (0 : Int) then some (decide (t19.2 = (1 : Int)))
  else some (false)
  else some (false)
  else if x18 < (0 : Int) then if t19.1 = (0 : Int) then some (decide (t19.2 = (1 : Int)))
  else some (false)
  else some (false)) fun b20 =>
  some (b20)
def bosketlaw13_SpotPlaces_c1 (k : Nat) (rec33 : (Int → Int → Option Bool)) (x32 : Int) (x36 : Int) : Option Bool :=
  rec33 x36 (w64 (x32 + (1 : Int)))
def bosketlaw13_SpotPlaces_l2 (k : Nat) (p0 : ByteArray) (p2 : S23) : Nat → Int → Int → Option Bool
  | 0, _, _ => none
  | j + 1, x31, x32 =>
    if x32 ≤ (p0.size : Int) then (bosketref13_Of k p0 x32).bind fun t37 =>
    Option.bind (α := Bool) (if t37.1 = p2.f0 then some (decide (t37.2 = p2.f1))
    else some (false)) fun b38 =>
    if b38 = true then bosketlaw13_SpotPlaces_c1 k (bosketlaw13_SpotPlaces_l2 k p0 p2 j) x32 x32
    else bosketlaw13_SpotPlaces_c1 k (bosketlaw13_SpotPlaces_l2 k p0 p2 j) x32 x31
    else bosketlaw13_SpotPlaces_c0 k p0 p2 x31
def bosketlaw13_SpotPlaces (k : Nat) (p0 : ByteArray) (p1 : Int) (p2 : S23) : Option Bool :=
  (bosketlaw13_awake k).bind fun t5 =>
  if (!t5) = true then some (false)
  else if (300 : Int) < (p0.size : Int) then some (true)
  else (bosketref13_Of k p0 p1).bind fun t8 =>
  (spot_Of k p0 p1).bind fun t9 =>
  (spot_At k p0 t9).bind fun t11 =>
  Option.bind (α := Bool) (if t9.f0 ≠ t8.1 then some (true)
  else if t9.f1 ≠ t8.2 then some (true)
  else if t11.2 ≠ (0 : Int) then some (true)
  else some (decide (t11.1 ≠ (min (max p1 (0 : Int)) (p0.size : Int))))) fun b12 =>
  if b12 = true then some (false)
  else bosketlaw13_SpotPlaces_l2 k p0 p2 k (-1 : Int) (0 : Int)
theorem bosketlaw13_SpotPlaces_spec {k : Nat} {p0 : ByteArray} {p1 : Int} {p2 : S23} {r : Bool} (h : bosketlaw13_SpotPlaces k p0 p1 p2 = some r) : Spec Try.prog 3 [(eStr p0), (eI64 p1), (e23 p2)] (eBool r) := by
  rw [bosketlaw13_SpotPlaces.eq_1] at h
  refine Spec.intro (res := [.tmp 6]) Try.func3 rfl rfl rfl (Nat.le_of_ble_eq_true rfl) ?_
  refine AW.seq ?_
  refine AW.reg ?_
  refine AO.box rfl 5 rfl (by decide) rfl rfl rfl fun n4 => ?_
  refine AO.calm rfl 6 rfl (by decide) (eBool false) (Calm.assign rfl rfl) ?_
  refine AO.nil (ρ' := [(0, (eStr p0)), (1, (eI64 p1)), (5, (.ptr n4 0))]) (H' := [(n4, .mem (e23 p2))]) ⟨rfl, rfl, rfl, trivial⟩ (Sub.refl _) ?_
  refine AW.seq ?_
  refine AW.seq ?_
  refine AW.reg ?_
  obtain ⟨t5, et5, h⟩ := of_bind h
  refine AO.callS [] (eBool t5) 18 rfl (by decide) ok12 rfl rfl rfl trivial (bosketlaw13_awake_spec et5) ?_
  refine AO.calm rfl 19 rfl (by decide) (eBool (!t5)) (Calm.not rfl rfl) ?_
  refine AO.nil (ρ' := [(0, (eStr p0)), (1, (eI64 p1)), (5, (.ptr n4 0)), (19, (eBool (!t5)))]) (H' := [(n4, .mem (e23 p2))]) ⟨rfl, rfl, rfl, rfl, trivial⟩ (Sub.refl _) ?_
  by_cases hc6 : (!t5) = true
  · have h := (if_pos hc6).symm.trans h
    refine AW.condT' (!t5) rfl hc6 ?_
    refine AW.seq ?_
    refine AW.reg ?_
    refine AO.calm rfl 6 rfl (by decide) (eBool false) (Calm.assign rfl rfl) ?_
    refine AO.nil (ρ' := [(6, (eBool false))]) (H' := []) ⟨rfl, trivial⟩ (Sub.nil _) ?_
    refine AW.ret (ρ' := [(6, (eBool false))]) (H' := []) ⟨rfl, trivial⟩ (Sub.refl _) ?_
    have hr := Option.some.inj h
    subst hr
    exact ⟨[(eBool false)], ⟨rfl, rfl, trivial⟩, rfl⟩
  · have h := (if_neg hc6).symm.trans h
    refine AW.condF' (!t5) rfl hc6 ?_
    refine AW.skip (ρ' := [(0, (eStr p0)), (1, (eI64 p1)), (5, (.ptr n4 0))]) (H' := [(n4, .mem (e23 p2))]) ⟨rfl, rfl, rfl, trivial⟩ (Sub.refl _) ?_
    refine AW.seq ?_
    refine AW.seq ?_
    refine AW.reg ?_
    refine AO.calm rfl 20 rfl (by decide) (eStr p0) (Calm.move rfl rfl) ?_
    refine AO.calm rfl 21 rfl (by decide) (eI64 (p0.size : Int)) (Calm.lenStr rfl rfl Try.underlying9) ?_
    refine AO.calm rfl 22 rfl (by decide) (eBool (decide ((300 : Int) < (p0.size : Int)))) (Calm.int rfl rfl rfl rfl) ?_
    refine AO.nil (ρ' := [(0, (eStr p0)), (1, (eI64 p1)), (5, (.ptr n4 0)), (22, (eBool (decide ((300 : Int) < (p0.size : Int)))))]) (H' := [(n4, .mem (e23 p2))]) ⟨rfl, rfl, rfl, rfl, trivial⟩ (Sub.refl _) ?_
    by_cases hc7 : (300 : Int) < (p0.size : Int)
    · have h := (if_pos hc7).symm.trans h
      refine AW.condP ((300 : Int) < (p0.size : Int)) rfl hc7 ?_
      refine AW.seq ?_
      refine AW.reg ?_
      refine AO.calm rfl 6 rfl (by decide) (eBool true) (Calm.assign rfl rfl) ?_
      refine AO.nil (ρ' := [(6, (eBool true))]) (H' := []) ⟨rfl, trivial⟩ (Sub.nil _) ?_
      refine AW.ret (ρ' := [(6, (eBool true))]) (H' := []) ⟨rfl, trivial⟩ (Sub.refl _) ?_
      have hr := Option.some.inj h
      subst hr
      exact ⟨[(eBool true)], ⟨rfl, rfl, trivial⟩, rfl⟩
    · have h := (if_neg hc7).symm.trans h
      refine AW.condN ((300 : Int) < (p0.size : Int)) rfl hc7 ?_
      refine AW.skip (ρ' := [(0, (eStr p0)), (1, (eI64 p1)), (5, (.ptr n4 0))]) (H' := [(n4, .mem (e23 p2))]) ⟨rfl, rfl, rfl, trivial⟩ (Sub.refl _) ?_
      refine AW.seq ?_
      refine AW.reg ?_
      refine AO.calm rfl 24 rfl (by decide) (eStr p0) (Calm.move rfl rfl) ?_
      refine AO.calm rfl 25 rfl (by decide) (eI64 p1) (Calm.move rfl rfl) ?_
      obtain ⟨t8, et8, h⟩ := of_bind h
      refine AO.callS [(eStr p0), (eI64 p1)] (.tup [(eI64 t8.1), (eI64 t8.2)]) 26 rfl (by decide) ok13 rfl rfl rfl ⟨rfl, rfl, rfl, rfl, trivial⟩ (bosketref13_Of_spec et8) ?_
      refine AO.calm rfl 23 rfl (by decide) (.tup [(eI64 t8.1), (eI64 t8.2)]) (Calm.move rfl rfl) ?_
      refine AO.calm rfl 27 rfl (by decide) (eI64 t8.1) (Calm.extract rfl rfl rfl) ?_
      refine AO.calm rfl 28 rfl (by decide) (eI64 t8.2) (Calm.extract rfl rfl rfl) ?_
      refine AO.calm rfl 7 rfl (by decide) (eI64 t8.1) (Calm.assign rfl rfl) ?_
      refine AO.calm rfl 8 rfl (by decide) (eI64 t8.2) (Calm.assign rfl rfl) ?_
      refine AO.nil (ρ' := [(0, (eStr p0)), (1, (eI64 p1)), (5, (.ptr n4 0)), (7, (eI64 t8.1)), (8, (eI64 t8.2))]) (H' := [(n4, .mem (e23 p2))]) ⟨rfl, rfl, rfl, rfl, rfl, trivial⟩ (Sub.refl _) ?_
      refine AW.seq ?_
      refine AW.reg ?_
      refine AO.calm rfl 29 rfl (by decide) (eStr p0) (Calm.move rfl rfl) ?_
      refine AO.calm rfl 30 rfl (by decide) (eI64 p1) (Calm.move rfl rfl) ?_
      obtain ⟨t9, et9, h⟩ := of_bind h
      refine AO.callS [(eStr p0), (eI64 p1)] (e23 t9) 31 rfl (by decide) ok14 rfl rfl rfl ⟨rfl, rfl, rfl, rfl, trivial⟩ (spot_Of_spec et9) ?_
      refine AO.alloc rfl 9 rfl (by decide) rfl zr23 lay23 fun n10 => ?_
      refine AO.store (X' := (e23 t9)) 0 rfl rfl rfl rfl rfl rfl (Put.cast Put.here rfl) rfl rfl sz23 rfl ?_
      refine AO.nil (ρ' := [(0, (eStr p0)), (1, (eI64 p1)), (5, (.ptr n4 0)), (7, (eI64 t8.1)), (8, (eI64 t8.2)), (9, (.ptr n10 0))]) (H' := [(n4, .mem (e23 p2)), (n10, .mem (e23 t9))]) ⟨rfl, rfl, rfl, rfl, rfl, rfl, trivial⟩ (Sub.cons 1 rfl (Sub.cons 0 rfl (Sub.nil _))) ?_
      refine AW.seq ?_
      refine AW.reg ?_
      refine AO.calm rfl 33 rfl (by decide) (eStr p0) (Calm.move rfl rfl) ?_
      refine AO.calm rfl 34 rfl (by decide) (e23 t9) (Calm.load 1 rfl rfl rfl (At.cast At.here rfl) ag23 sz23) ?_
      obtain ⟨t11, et11, h⟩ := of_bind h
      refine AO.callS [(eStr p0), (e23 t9)] (.tup [(eI64 t11.1), (eI64 t11.2)]) 35 rfl (by decide) ok15 rfl rfl rfl ⟨rfl, rfl, rfl, rfl, trivial⟩ (spot_At_spec et11) ?_
      refine AO.calm rfl 32 rfl (by decide) (.tup [(eI64 t11.1), (eI64 t11.2)]) (Calm.move rfl rfl) ?_
      refine AO.calm rfl 36 rfl (by decide) (eI64 t11.1) (Calm.extract rfl rfl rfl) ?_
      refine AO.calm rfl 37 rfl (by decide) (eI64 t11.2) (Calm.extract rfl rfl rfl) ?_
      refine AO.calm rfl 10 rfl (by decide) (eI64 t11.1) (Calm.assign rfl rfl) ?_
      refine AO.calm rfl 11 rfl (by decide) (eI64 t11.2) (Calm.assign rfl rfl) ?_
      refine AO.nil (ρ' := [(0, (eStr p0)), (1, (eI64 p1)), (5, (.ptr n4 0)), (7, (eI64 t8.1)), (8, (eI64 t8.2)), (9, (.ptr n10 0)), (10, (eI64 t11.1)), (11, (eI64 t11.2))]) (H' := [(n4, .mem (e23 p2)), (n10, .mem (e23 t9))]) ⟨rfl, rfl, rfl, rfl, rfl, rfl, rfl, rfl, trivial⟩ (Sub.refl _) ?_
      refine AW.seq ?_
      refine AW.seq ?_
      obtain ⟨b12, hq13, h⟩ := of_bind h
      refine AW.regM [(0, (eStr p0)), (5, (.ptr n4 0)), (60, (eBool b12))] [(n4, .mem (e23 p2))] ?_ ?_
      · refine AO.calm rfl 38 rfl (by decide) (.ptr n10 0) (Calm.fldPtr rfl rfl Try.underlying23 rfl sz3 _ rfl) ?_
        refine AO.calm rfl 39 rfl (by decide) (eI64 t9.f0) (Calm.load 1 rfl rfl rfl (At.cast (At.fld0 At.here) rfl) ag3 sz3) ?_
        refine AO.calm rfl 40 rfl (by decide) (eI64 t8.1) (Calm.move rfl rfl) ?_
        refine AO.calm rfl 41 rfl (by decide) (eBool (decide (t9.f0 ≠ t8.1))) (Calm.int rfl rfl rfl rfl) ?_
        refine AO.calm rfl 42 rfl (by decide) (eBool (decide (t9.f0 ≠ t8.1))) (Calm.move rfl rfl) ?_
        by_cases hc14 : t9.f0 ≠ t8.1
        · have hq13 := (if_pos hc14).symm.trans hq13
          refine AO.skipG 4 true 42 rfl rfl (congrArg (fun b => some (AV.fl (Value.bool b))) (decide_eq_true hc14)) 43 rfl (by decide) ?_
          refine AO.skipG 4 true 42 rfl rfl (congrArg (fun b => some (AV.fl (Value.bool b))) (decide_eq_true hc14)) 44 rfl (by decide) ?_
          refine AO.skipG 4 true 42 rfl rfl (congrArg (fun b => some (AV.fl (Value.bool b))) (decide_eq_true hc14)) 45 rfl (by decide) ?_
          refine AO.skipG 4 true 42 rfl rfl (congrArg (fun b => some (AV.fl (Value.bool b))) (decide_eq_true hc14)) 46 rfl (by decide) ?_
          refine AO.calm rfl 47 rfl (by decide) (eBool true) (Calm.pickT rfl (congrArg (fun b => some (AV.fl (Value.bool b))) (decide_eq_true hc14)) rfl) ?_
          refine AO.calm rfl 48 rfl (by decide) (eBool true) (Calm.move rfl rfl) ?_
          refine AO.skipG 10 true 48 rfl rfl rfl 49 rfl (by decide) ?_
          refine AO.skipG 10 true 48 rfl rfl rfl 50 rfl (by decide) ?_
          refine AO.calm rfl 51 rfl (by decide) (eBool true) (Calm.pickT rfl rfl rfl) ?_
          refine AO.calm rfl 52 rfl (by decide) (eBool true) (Calm.move rfl rfl) ?_
          refine AO.skipG 14 true 52 rfl rfl rfl 53 rfl (by decide) ?_
          refine AO.skipG 14 true 52 rfl rfl rfl 54 rfl (by decide) ?_
          refine AO.skipG 14 true 52 rfl rfl rfl 55 rfl (by decide) ?_
          refine AO.skipG 14 true 52 rfl rfl rfl 56 rfl (by decide) ?_
          refine AO.skipG 14 true 52 rfl rfl rfl 57 rfl (by decide) ?_
          refine AO.skipG 14 true 52 rfl rfl rfl 58 rfl (by decide) ?_
          refine AO.skipG 14 true 52 rfl rfl rfl 59 rfl (by decide) ?_
          refine AO.calm rfl 60 rfl (by decide) (eBool true) (Calm.pickT rfl rfl rfl) ?_
          cases hq13
          refine AO.nilE ⟨rfl, rfl⟩ ?_ ?_
          · exact ⟨rfl, rfl, rfl, trivial⟩
          · exact (Sub.cons 0 rfl (Sub.nil _))
        · have hq13 := (if_neg hc14).symm.trans hq13
          refine AO.calmG 4 false 42 rfl rfl (congrArg (fun b => some (AV.fl (Value.bool b))) (decide_eq_false hc14)) 43 rfl (by decide) (.ptr n10 1) (Calm.fldPtr rfl rfl Try.underlying23 rfl sz3 _ rfl) ?_
          refine AO.calmG 4 false 42 rfl rfl (congrArg (fun b => some (AV.fl (Value.bool b))) (decide_eq_false hc14)) 44 rfl (by decide) (eI64 t9.f1) (Calm.load 1 rfl rfl rfl (At.cast (At.fldS (At.fld0 At.here)) rfl) ag3 sz3) ?_
          refine AO.calmG 4 false 42 rfl rfl (congrArg (fun b => some (AV.fl (Value.bool b))) (decide_eq_false hc14)) 45 rfl (by decide) (eI64 t8.2) (Calm.move rfl rfl) ?_
          refine AO.calmG 4 false 42 rfl rfl (congrArg (fun b => some (AV.fl (Value.bool b))) (decide_eq_false hc14)) 46 rfl (by decide) (eBool (decide (t9.f1 ≠ t8.2))) (Calm.int rfl rfl rfl rfl) ?_
          refine AO.calm rfl 47 rfl (by decide) (eBool (decide (t9.f1 ≠ t8.2))) (Calm.pickF rfl (congrArg (fun b => some (AV.fl (Value.bool b))) (decide_eq_false hc14)) rfl) ?_
          refine AO.calm rfl 48 rfl (by decide) (eBool (decide (t9.f1 ≠ t8.2))) (Calm.move rfl rfl) ?_
          by_cases hc15 : t9.f1 ≠ t8.2
          · have hq13 := (if_pos hc15).symm.trans hq13
            refine AO.skipG 10 true 48 rfl rfl (congrArg (fun b => some (AV.fl (Value.bool b))) (decide_eq_true hc15)) 49 rfl (by decide) ?_
            refine AO.skipG 10 true 48 rfl rfl (congrArg (fun b => some (AV.fl (Value.bool b))) (decide_eq_true hc15)) 50 rfl (by decide) ?_
            refine AO.calm rfl 51 rfl (by decide) (eBool true) (Calm.pickT rfl (congrArg (fun b => some (AV.fl (Value.bool b))) (decide_eq_true hc15)) rfl) ?_
            refine AO.calm rfl 52 rfl (by decide) (eBool true) (Calm.move rfl rfl) ?_
            refine AO.skipG 14 true 52 rfl rfl rfl 53 rfl (by decide) ?_
            refine AO.skipG 14 true 52 rfl rfl rfl 54 rfl (by decide) ?_
            refine AO.skipG 14 true 52 rfl rfl rfl 55 rfl (by decide) ?_
            refine AO.skipG 14 true 52 rfl rfl rfl 56 rfl (by decide) ?_
            refine AO.skipG 14 true 52 rfl rfl rfl 57 rfl (by decide) ?_
            refine AO.skipG 14 true 52 rfl rfl rfl 58 rfl (by decide) ?_
            refine AO.skipG 14 true 52 rfl rfl rfl 59 rfl (by decide) ?_
            refine AO.calm rfl 60 rfl (by decide) (eBool true) (Calm.pickT rfl rfl rfl) ?_
            cases hq13
            refine AO.nilE ⟨rfl, rfl⟩ ?_ ?_
            · exact ⟨rfl, rfl, rfl, trivial⟩
            · exact (Sub.cons 0 rfl (Sub.nil _))
          · have hq13 := (if_neg hc15).symm.trans hq13
            refine AO.calmG 10 false 48 rfl rfl (congrArg (fun b => some (AV.fl (Value.bool b))) (decide_eq_false hc15)) 49 rfl (by decide) (eI64 t11.2) (Calm.move rfl rfl) ?_
            refine AO.calmG 10 false 48 rfl rfl (congrArg (fun b => some (AV.fl (Value.bool b))) (decide_eq_false hc15)) 50 rfl (by decide) (eBool (decide (t11.2 ≠ (0 : Int)))) (Calm.int rfl rfl rfl rfl) ?_
            refine AO.calm rfl 51 rfl (by decide) (eBool (decide (t11.2 ≠ (0 : Int)))) (Calm.pickF rfl (congrArg (fun b => some (AV.fl (Value.bool b))) (decide_eq_false hc15)) rfl) ?_
            refine AO.calm rfl 52 rfl (by decide) (eBool (decide (t11.2 ≠ (0 : Int)))) (Calm.move rfl rfl) ?_
            by_cases hc16 : t11.2 ≠ (0 : Int)
            · have hq13 := (if_pos hc16).symm.trans hq13
              refine AO.skipG 14 true 52 rfl rfl (congrArg (fun b => some (AV.fl (Value.bool b))) (decide_eq_true hc16)) 53 rfl (by decide) ?_
              refine AO.skipG 14 true 52 rfl rfl (congrArg (fun b => some (AV.fl (Value.bool b))) (decide_eq_true hc16)) 54 rfl (by decide) ?_
              refine AO.skipG 14 true 52 rfl rfl (congrArg (fun b => some (AV.fl (Value.bool b))) (decide_eq_true hc16)) 55 rfl (by decide) ?_
              refine AO.skipG 14 true 52 rfl rfl (congrArg (fun b => some (AV.fl (Value.bool b))) (decide_eq_true hc16)) 56 rfl (by decide) ?_
              refine AO.skipG 14 true 52 rfl rfl (congrArg (fun b => some (AV.fl (Value.bool b))) (decide_eq_true hc16)) 57 rfl (by decide) ?_
              refine AO.skipG 14 true 52 rfl rfl (congrArg (fun b => some (AV.fl (Value.bool b))) (decide_eq_true hc16)) 58 rfl (by decide) ?_
              refine AO.skipG 14 true 52 rfl rfl (congrArg (fun b => some (AV.fl (Value.bool b))) (decide_eq_true hc16)) 59 rfl (by decide) ?_
              refine AO.calm rfl 60 rfl (by decide) (eBool true) (Calm.pickT rfl (congrArg (fun b => some (AV.fl (Value.bool b))) (decide_eq_true hc16)) rfl) ?_
              cases hq13
              refine AO.nilE ⟨rfl, rfl⟩ ?_ ?_
              · exact ⟨rfl, rfl, rfl, trivial⟩
              · exact (Sub.cons 0 rfl (Sub.nil _))
            · have hq13 := (if_neg hc16).symm.trans hq13
              refine AO.calmG 14 false 52 rfl rfl (congrArg (fun b => some (AV.fl (Value.bool b))) (decide_eq_false hc16)) 53 rfl (by decide) (eI64 t11.1) (Calm.move rfl rfl) ?_
              refine AO.calmG 14 false 52 rfl rfl (congrArg (fun b => some (AV.fl (Value.bool b))) (decide_eq_false hc16)) 54 rfl (by decide) (eI64 p1) (Calm.move rfl rfl) ?_
              refine AO.calmG 14 false 52 rfl rfl (congrArg (fun b => some (AV.fl (Value.bool b))) (decide_eq_false hc16)) 55 rfl (by decide) (eI64 (max p1 (0 : Int))) (Calm.max2 rfl rfl rfl) ?_
              refine AO.calmG 14 false 52 rfl rfl (congrArg (fun b => some (AV.fl (Value.bool b))) (decide_eq_false hc16)) 56 rfl (by decide) (eStr p0) (Calm.move rfl rfl) ?_
              refine AO.calmG 14 false 52 rfl rfl (congrArg (fun b => some (AV.fl (Value.bool b))) (decide_eq_false hc16)) 57 rfl (by decide) (eI64 (p0.size : Int)) (Calm.lenStr rfl rfl Try.underlying9) ?_
              refine AO.calmG 14 false 52 rfl rfl (congrArg (fun b => some (AV.fl (Value.bool b))) (decide_eq_false hc16)) 58 rfl (by decide) (eI64 (min (max p1 (0 : Int)) (p0.size : Int))) (Calm.min2 rfl rfl rfl) ?_
              refine AO.calmG 14 false 52 rfl rfl (congrArg (fun b => some (AV.fl (Value.bool b))) (decide_eq_false hc16)) 59 rfl (by decide) (eBool (decide (t11.1 ≠ (min (max p1 (0 : Int)) (p0.size : Int))))) (Calm.int rfl rfl rfl rfl) ?_
              refine AO.calm rfl 60 rfl (by decide) (eBool (decide (t11.1 ≠ (min (max p1 (0 : Int)) (p0.size : Int))))) (Calm.pickF rfl (congrArg (fun b => some (AV.fl (Value.bool b))) (decide_eq_false hc16)) rfl) ?_
              cases hq13
              refine AO.nilE ⟨rfl, rfl⟩ ?_ ?_
              · exact ⟨rfl, rfl, rfl, trivial⟩
              · exact (Sub.cons 0 rfl (Sub.nil _))
      · by_cases hc17 : b12 = true
        · have h := (if_pos hc17).symm.trans h
          refine AW.condT' b12 rfl hc17 ?_
          refine AW.seq ?_
          refine AW.reg ?_
          refine AO.calm rfl 6 rfl (by decide) (eBool false) (Calm.assign rfl rfl) ?_
          refine AO.nil (ρ' := [(6, (eBool false))]) (H' := []) ⟨rfl, trivial⟩ (Sub.nil _) ?_
          refine AW.ret (ρ' := [(6, (eBool false))]) (H' := []) ⟨rfl, trivial⟩ (Sub.refl _) ?_
          have hr := Option.some.inj h
          subst hr
          exact ⟨[(eBool false)], ⟨rfl, rfl, trivial⟩, rfl⟩
        · have h := (if_neg hc17).symm.trans h
          refine AW.condF' b12 rfl hc17 ?_
          refine AW.skip (ρ' := [(0, (eStr p0)), (5, (.ptr n4 0))]) (H' := [(n4, .mem (e23 p2))]) ⟨rfl, rfl, trivial⟩ (Sub.refl _) ?_
          refine AW.seq ?_
          refine AW.reg ?_
          refine AO.calm rfl 12 rfl (by decide) (eI64 (-1 : Int)) (Calm.assign rfl rfl) ?_
          refine AO.nil (ρ' := [(0, (eStr p0)), (5, (.ptr n4 0)), (12, (eI64 (-1 : Int)))]) (H' := [(n4, .mem (e23 p2))]) ⟨rfl, rfl, rfl, trivial⟩ (Sub.refl _) ?_
          refine AW.seq_mid (fun ρ H => ∃ (x18 : Int), ρ = [(0, (eStr p0)), (5, (.ptr n4 0)), (12, (eI64 x18))] ∧ H = [(n4, .mem (e23 p2))] ∧ bosketlaw13_SpotPlaces_c0 k p0 p2 x18 = some r) ?_ ?_
          · refine AW.seq ?_
            refine AW.reg ?_
            refine AO.calm rfl 13 rfl (by decide) (eI64 (0 : Int)) (Calm.assign rfl rfl) ?_
            refine AO.nil (ρ' := [(0, (eStr p0)), (5, (.ptr n4 0)), (12, (eI64 (-1 : Int))), (13, (eI64 (0 : Int)))]) (H' := [(n4, .mem (e23 p2))]) ⟨rfl, rfl, rfl, rfl, trivial⟩ (Sub.refl _) ?_
            refine AW.block ?_
            refine AW.weak (ρ' := [(0, (eStr p0)), (5, (.ptr n4 0)), (12, (eI64 (-1 : Int))), (13, (eI64 (0 : Int)))]) (H' := [(n4, .mem (e23 p2))]) ⟨rfl, rfl, rfl, rfl, trivial⟩ (Sub.refl _) ?_
            refine AW.loop (fun kq ρ H => ∃ (x31 : Int) (x32 : Int), ρ = [(0, (eStr p0)), (5, (.ptr n4 0)), (12, (eI64 x31)), (13, (eI64 x32))] ∧ H = [(n4, .mem (e23 p2))] ∧ bosketlaw13_SpotPlaces_l2 k p0 p2 kq x31 x32 = some r) k ⟨(-1 : Int), (0 : Int), rfl, rfl, h⟩ ?_
            rintro kq34 _ _ ⟨x31, x32, rfl, rfl, h⟩
            cases kq34 with
            | zero => rw [bosketlaw13_SpotPlaces_l2.eq_1] at h; cases h
            | succ kq34 =>
            rw [bosketlaw13_SpotPlaces_l2.eq_2] at h
            generalize hrec33 : bosketlaw13_SpotPlaces_l2 k p0 p2 kq34 = rec33 at h
            refine AW.seq ?_
            refine AW.seq ?_
            refine AW.reg ?_
            refine AO.calm rfl 61 rfl (by decide) (eI64 x32) (Calm.move rfl rfl) ?_
            refine AO.calm rfl 62 rfl (by decide) (eStr p0) (Calm.move rfl rfl) ?_
            refine AO.calm rfl 63 rfl (by decide) (eI64 (p0.size : Int)) (Calm.lenStr rfl rfl Try.underlying9) ?_
            refine AO.calm rfl 64 rfl (by decide) (eBool (decide (x32 ≤ (p0.size : Int)))) (Calm.int rfl rfl rfl rfl) ?_
            refine AO.nil (ρ' := [(0, (eStr p0)), (5, (.ptr n4 0)), (12, (eI64 x31)), (13, (eI64 x32)), (64, (eBool (decide (x32 ≤ (p0.size : Int)))))]) (H' := [(n4, .mem (e23 p2))]) ⟨rfl, rfl, rfl, rfl, rfl, trivial⟩ (Sub.refl _) ?_
            by_cases hc35 : x32 ≤ (p0.size : Int)
            · have h := (if_pos hc35).symm.trans h
              refine AW.condP (x32 ≤ (p0.size : Int)) rfl hc35 ?_
              refine AW.skip (ρ' := [(0, (eStr p0)), (5, (.ptr n4 0)), (12, (eI64 x31)), (13, (eI64 x32))]) (H' := [(n4, .mem (e23 p2))]) ⟨rfl, rfl, rfl, rfl, trivial⟩ (Sub.refl _) ?_
              refine AW.seq_mid (fun ρ H => ∃ (x36 : Int), ρ = [(0, (eStr p0)), (5, (.ptr n4 0)), (12, (eI64 x36)), (13, (eI64 x32))] ∧ H = [(n4, .mem (e23 p2))] ∧ bosketlaw13_SpotPlaces_c1 k rec33 x32 x36 = some r) ?_ ?_
              · refine AW.block ?_
                refine AW.seq ?_
                refine AW.reg ?_
                refine AO.calm rfl 68 rfl (by decide) (eStr p0) (Calm.move rfl rfl) ?_
                refine AO.calm rfl 69 rfl (by decide) (eI64 x32) (Calm.move rfl rfl) ?_
                obtain ⟨t37, et37, h⟩ := of_bind h
                refine AO.callS [(eStr p0), (eI64 x32)] (.tup [(eI64 t37.1), (eI64 t37.2)]) 70 rfl (by decide) ok13 rfl rfl rfl ⟨rfl, rfl, rfl, rfl, trivial⟩ (bosketref13_Of_spec et37) ?_
                refine AO.calm rfl 67 rfl (by decide) (.tup [(eI64 t37.1), (eI64 t37.2)]) (Calm.move rfl rfl) ?_
                refine AO.calm rfl 71 rfl (by decide) (eI64 t37.1) (Calm.extract rfl rfl rfl) ?_
                refine AO.calm rfl 72 rfl (by decide) (eI64 t37.2) (Calm.extract rfl rfl rfl) ?_
                refine AO.calm rfl 14 rfl (by decide) (eI64 t37.1) (Calm.assign rfl rfl) ?_
                refine AO.calm rfl 15 rfl (by decide) (eI64 t37.2) (Calm.assign rfl rfl) ?_
                refine AO.nil (ρ' := [(0, (eStr p0)), (5, (.ptr n4 0)), (12, (eI64 x31)), (13, (eI64 x32)), (14, (eI64 t37.1)), (15, (eI64 t37.2))]) (H' := [(n4, .mem (e23 p2))]) ⟨rfl, rfl, rfl, rfl, rfl, rfl, trivial⟩ (Sub.refl _) ?_
                refine AW.seq ?_
                obtain ⟨b38, hq39, h⟩ := of_bind h
                refine AW.regM [(0, (eStr p0)), (5, (.ptr n4 0)), (12, (eI64 x31)), (13, (eI64 x32)), (82, (eBool b38))] [(n4, .mem (e23 p2))] ?_ ?_
                · refine AO.calm rfl 73 rfl (by decide) (eI64 t37.1) (Calm.move rfl rfl) ?_
                  refine AO.calm rfl 74 rfl (by decide) (.ptr n4 0) (Calm.fldPtr rfl rfl Try.underlying23 rfl sz3 _ rfl) ?_
                  refine AO.calm rfl 75 rfl (by decide) (eI64 p2.f0) (Calm.load 0 rfl rfl rfl (At.cast (At.fld0 At.here) rfl) ag3 sz3) ?_
                  refine AO.calm rfl 76 rfl (by decide) (eBool (decide (t37.1 = p2.f0))) (Calm.int rfl rfl rfl rfl) ?_
                  refine AO.calm rfl 77 rfl (by decide) (eBool (decide (t37.1 = p2.f0))) (Calm.move rfl rfl) ?_
                  by_cases hc40 : t37.1 = p2.f0
                  · have hq39 := (if_pos hc40).symm.trans hq39
                    refine AO.calmG 4 true 77 rfl rfl (congrArg (fun b => some (AV.fl (Value.bool b))) (decide_eq_true hc40)) 78 rfl (by decide) (eI64 t37.2) (Calm.move rfl rfl) ?_
                    refine AO.calmG 4 true 77 rfl rfl (congrArg (fun b => some (AV.fl (Value.bool b))) (decide_eq_true hc40)) 79 rfl (by decide) (.ptr n4 1) (Calm.fldPtr rfl rfl Try.underlying23 rfl sz3 _ rfl) ?_
                    refine AO.calmG 4 true 77 rfl rfl (congrArg (fun b => some (AV.fl (Value.bool b))) (decide_eq_true hc40)) 80 rfl (by decide) (eI64 p2.f1) (Calm.load 0 rfl rfl rfl (At.cast (At.fldS (At.fld0 At.here)) rfl) ag3 sz3) ?_
                    refine AO.calmG 4 true 77 rfl rfl (congrArg (fun b => some (AV.fl (Value.bool b))) (decide_eq_true hc40)) 81 rfl (by decide) (eBool (decide (t37.2 = p2.f1))) (Calm.int rfl rfl rfl rfl) ?_
                    refine AO.calm rfl 82 rfl (by decide) (eBool (decide (t37.2 = p2.f1))) (Calm.pickT rfl (congrArg (fun b => some (AV.fl (Value.bool b))) (decide_eq_true hc40)) rfl) ?_
                    cases hq39
                    refine AO.nilE ⟨rfl, rfl⟩ ?_ ?_
                    · exact ⟨rfl, rfl, rfl, rfl, rfl, trivial⟩
                    · exact (Sub.refl _)
                  · have hq39 := (if_neg hc40).symm.trans hq39
                    refine AO.skipG 4 false 77 rfl rfl (congrArg (fun b => some (AV.fl (Value.bool b))) (decide_eq_false hc40)) 78 rfl (by decide) ?_
                    refine AO.skipG 4 false 77 rfl rfl (congrArg (fun b => some (AV.fl (Value.bool b))) (decide_eq_false hc40)) 79 rfl (by decide) ?_
                    refine AO.skipG 4 false 77 rfl rfl (congrArg (fun b => some (AV.fl (Value.bool b))) (decide_eq_false hc40)) 80 rfl (by decide) ?_
                    refine AO.skipG 4 false 77 rfl rfl (congrArg (fun b => some (AV.fl (Value.bool b))) (decide_eq_false hc40)) 81 rfl (by decide) ?_
                    refine AO.calm rfl 82 rfl (by decide) (eBool false) (Calm.pickF rfl (congrArg (fun b => some (AV.fl (Value.bool b))) (decide_eq_false hc40)) rfl) ?_
                    cases hq39
                    refine AO.nilE ⟨rfl, rfl⟩ ?_ ?_
                    · exact ⟨rfl, rfl, rfl, rfl, rfl, trivial⟩
                    · exact (Sub.refl _)
                · by_cases hc41 : b38 = true
                  · have h := (if_pos hc41).symm.trans h
                    refine AW.condT' b38 rfl hc41 ?_
                    refine AW.reg ?_
                    refine AO.calm rfl 83 rfl (by decide) (eI64 x32) (Calm.move rfl rfl) ?_
                    refine AO.calm rfl 12 rfl (by decide) (eI64 x32) (Calm.assign rfl rfl) ?_
                    refine AO.nil (ρ' := [(0, (eStr p0)), (5, (.ptr n4 0)), (12, (eI64 x32)), (13, (eI64 x32))]) (H' := [(n4, .mem (e23 p2))]) ⟨rfl, rfl, rfl, rfl, trivial⟩ (Sub.refl _) ?_
                    exact ⟨x32, rfl, rfl, h⟩
                  · have h := (if_neg hc41).symm.trans h
                    refine AW.condF' b38 rfl hc41 ?_
                    refine AW.skip (ρ' := [(0, (eStr p0)), (5, (.ptr n4 0)), (12, (eI64 x31)), (13, (eI64 x32))]) (H' := [(n4, .mem (e23 p2))]) ⟨rfl, rfl, rfl, rfl, trivial⟩ (Sub.refl _) ?_
                    exact ⟨x31, rfl, rfl, h⟩
              · rintro _ _ ⟨x36, rfl, rfl, h⟩
                rw [bosketlaw13_SpotPlaces_c1.eq_1] at h
                refine AW.reg ?_
                refine AO.calm rfl 65 rfl (by decide) (eI64 x32) (Calm.move rfl rfl) ?_
                refine AO.calm rfl 66 rfl (by decide) (eI64 (w64 (x32 + (1 : Int)))) (Calm.int rfl rfl rfl rfl) ?_
                refine AO.calm rfl 13 rfl (by decide) (eI64 (w64 (x32 + (1 : Int)))) (Calm.assign rfl rfl) ?_
                refine AO.nil (ρ' := [(0, (eStr p0)), (5, (.ptr n4 0)), (12, (eI64 x36)), (13, (eI64 (w64 (x32 + (1 : Int)))))]) (H' := [(n4, .mem (e23 p2))]) ⟨rfl, rfl, rfl, rfl, trivial⟩ (Sub.refl _) ?_
                exact ⟨kq34, Nat.lt_succ_self _, x36, (w64 (x32 + (1 : Int))), rfl, rfl, by rw [hrec33]; exact h⟩
            · have h := (if_neg hc35).symm.trans h
              refine AW.condN (x32 ≤ (p0.size : Int)) rfl hc35 ?_
              refine AW.exit (ρ' := [(0, (eStr p0)), (5, (.ptr n4 0)), (12, (eI64 x31))]) (H' := [(n4, .mem (e23 p2))]) ⟨rfl, rfl, rfl, trivial⟩ (Sub.refl _) ?_
              exact ⟨x31, rfl, rfl, h⟩
          · rintro _ _ ⟨x18, rfl, rfl, h⟩
            rw [bosketlaw13_SpotPlaces_c0.eq_1] at h
            refine AW.seq ?_
            refine AW.reg ?_
            refine AO.calm rfl 85 rfl (by decide) (eStr p0) (Calm.move rfl rfl) ?_
            refine AO.calm rfl 86 rfl (by decide) (e23 p2) (Calm.load 0 rfl rfl rfl (At.cast At.here rfl) ag23 sz23) ?_
            obtain ⟨t19, et19, h⟩ := of_bind h
            refine AO.callS [(eStr p0), (e23 p2)] (.tup [(eI64 t19.1), (eI64 t19.2)]) 87 rfl (by decide) ok15 rfl rfl rfl ⟨rfl, rfl, rfl, rfl, trivial⟩ (spot_At_spec et19) ?_
            refine AO.calm rfl 84 rfl (by decide) (.tup [(eI64 t19.1), (eI64 t19.2)]) (Calm.move rfl rfl) ?_
            refine AO.calm rfl 88 rfl (by decide) (eI64 t19.1) (Calm.extract rfl rfl rfl) ?_
            refine AO.calm rfl 89 rfl (by decide) (eI64 t19.2) (Calm.extract rfl rfl rfl) ?_
            refine AO.calm rfl 16 rfl (by decide) (eI64 t19.1) (Calm.assign rfl rfl) ?_
            refine AO.calm rfl 17 rfl (by decide) (eI64 t19.2) (Calm.assign rfl rfl) ?_
            refine AO.nil (ρ' := [(12, (eI64 x18)), (16, (eI64 t19.1)), (17, (eI64 t19.2))]) (H' := []) ⟨rfl, rfl, rfl, trivial⟩ (Sub.nil _) ?_
            refine AW.seq ?_
            obtain ⟨b20, hq21, h⟩ := of_bind h
            refine AW.regM [(6, (eBool b20))] [] ?_ ?_
            · refine AO.calm rfl 90 rfl (by decide) (eI64 x18) (Calm.move rfl rfl) ?_
              refine AO.calm rfl 91 rfl (by decide) (eBool (decide ((0 : Int) ≤ x18))) (Calm.int rfl rfl rfl rfl) ?_
              refine AO.calm rfl 92 rfl (by decide) (eBool (decide ((0 : Int) ≤ x18))) (Calm.move rfl rfl) ?_
              by_cases hc22 : (0 : Int) ≤ x18
              · have hq21 := (if_pos hc22).symm.trans hq21
                refine AO.calmG 2 true 92 rfl rfl (congrArg (fun b => some (AV.fl (Value.bool b))) (decide_eq_true hc22)) 93 rfl (by decide) (eI64 t19.1) (Calm.move rfl rfl) ?_
                refine AO.calmG 2 true 92 rfl rfl (congrArg (fun b => some (AV.fl (Value.bool b))) (decide_eq_true hc22)) 94 rfl (by decide) (eI64 x18) (Calm.move rfl rfl) ?_
                refine AO.calmG 2 true 92 rfl rfl (congrArg (fun b => some (AV.fl (Value.bool b))) (decide_eq_true hc22)) 95 rfl (by decide) (eBool (decide (t19.1 = x18))) (Calm.int rfl rfl rfl rfl) ?_
                refine AO.calm rfl 96 rfl (by decide) (eBool (decide (t19.1 = x18))) (Calm.pickT rfl (congrArg (fun b => some (AV.fl (Value.bool b))) (decide_eq_true hc22)) rfl) ?_
                refine AO.calm rfl 97 rfl (by decide) (eBool (decide (t19.1 = x18))) (Calm.move rfl rfl) ?_
                by_cases hc23 : t19.1 = x18
                · have hq21 := (if_pos hc23).symm.trans hq21
                  refine AO.calmG 7 true 97 rfl rfl (congrArg (fun b => some (AV.fl (Value.bool b))) (decide_eq_true hc23)) 98 rfl (by decide) (eI64 t19.2) (Calm.move rfl rfl) ?_
                  refine AO.calmG 7 true 97 rfl rfl (congrArg (fun b => some (AV.fl (Value.bool b))) (decide_eq_true hc23)) 99 rfl (by decide) (eBool (decide (t19.2 = (0 : Int)))) (Calm.int rfl rfl rfl rfl) ?_
                  refine AO.calm rfl 100 rfl (by decide) (eBool (decide (t19.2 = (0 : Int)))) (Calm.pickT rfl (congrArg (fun b => some (AV.fl (Value.bool b))) (decide_eq_true hc23)) rfl) ?_
                  refine AO.calm rfl 101 rfl (by decide) (eBool (decide (t19.2 = (0 : Int)))) (Calm.move rfl rfl) ?_
                  by_cases hc24 : t19.2 = (0 : Int)
                  · have hq21 := (if_pos hc24).symm.trans hq21
                    refine AO.skipG 11 true 101 rfl rfl (congrArg (fun b => some (AV.fl (Value.bool b))) (decide_eq_true hc24)) 102 rfl (by decide) ?_
                    refine AO.skipG 11 true 101 rfl rfl (congrArg (fun b => some (AV.fl (Value.bool b))) (decide_eq_true hc24)) 103 rfl (by decide) ?_
                    refine AO.skipG 11 true 101 rfl rfl (congrArg (fun b => some (AV.fl (Value.bool b))) (decide_eq_true hc24)) 104 rfl (by decide) ?_
                    refine AO.skipU 14 true 104 rfl rfl rfl 105 rfl (by decide) ?_
                    refine AO.skipU 14 true 104 rfl rfl rfl 106 rfl (by decide) ?_
                    refine AO.skipG 11 true 101 rfl rfl (congrArg (fun b => some (AV.fl (Value.bool b))) (decide_eq_true hc24)) 107 rfl (by decide) ?_
                    refine AO.skipG 11 true 101 rfl rfl (congrArg (fun b => some (AV.fl (Value.bool b))) (decide_eq_true hc24)) 108 rfl (by decide) ?_
                    refine AO.skipU 18 true 108 rfl rfl rfl 109 rfl (by decide) ?_
                    refine AO.skipU 18 true 108 rfl rfl rfl 110 rfl (by decide) ?_
                    refine AO.skipG 11 true 101 rfl rfl (congrArg (fun b => some (AV.fl (Value.bool b))) (decide_eq_true hc24)) 111 rfl (by decide) ?_
                    refine AO.calm rfl 112 rfl (by decide) (eBool true) (Calm.pickT rfl (congrArg (fun b => some (AV.fl (Value.bool b))) (decide_eq_true hc24)) rfl) ?_
                    refine AO.calm rfl 6 rfl (by decide) (eBool true) (Calm.assign rfl rfl) ?_
                    cases hq21
                    refine AO.nilE ⟨rfl, rfl⟩ ?_ ?_
                    · exact ⟨rfl, trivial⟩
                    · exact (Sub.refl _)
                  · have hq21 := (if_neg hc24).symm.trans hq21
                    refine AO.calmG 11 false 101 rfl rfl (congrArg (fun b => some (AV.fl (Value.bool b))) (decide_eq_false hc24)) 102 rfl (by decide) (eI64 x18) (Calm.move rfl rfl) ?_
                    refine AO.calmG 11 false 101 rfl rfl (congrArg (fun b => some (AV.fl (Value.bool b))) (decide_eq_false hc24)) 103 rfl (by decide) (eBool (decide (x18 < (0 : Int)))) (Calm.int rfl rfl rfl rfl) ?_
                    refine AO.calmG 11 false 101 rfl rfl (congrArg (fun b => some (AV.fl (Value.bool b))) (decide_eq_false hc24)) 104 rfl (by decide) (eBool (decide (x18 < (0 : Int)))) (Calm.move rfl rfl) ?_
                    by_cases hc25 : x18 < (0 : Int)
                    · have hq21 := (if_pos hc25).symm.trans hq21
                      refine AO.calmG 14 true 104 rfl rfl (congrArg (fun b => some (AV.fl (Value.bool b))) (decide_eq_true hc25)) 105 rfl (by decide) (eI64 t19.1) (Calm.move rfl rfl) ?_
                      refine AO.calmG 14 true 104 rfl rfl (congrArg (fun b => some (AV.fl (Value.bool b))) (decide_eq_true hc25)) 106 rfl (by decide) (eBool (decide (t19.1 = (0 : Int)))) (Calm.int rfl rfl rfl rfl) ?_
                      refine AO.calmG 11 false 101 rfl rfl (congrArg (fun b => some (AV.fl (Value.bool b))) (decide_eq_false hc24)) 107 rfl (by decide) (eBool (decide (t19.1 = (0 : Int)))) (Calm.pickT rfl (congrArg (fun b => some (AV.fl (Value.bool b))) (decide_eq_true hc25)) rfl) ?_
                      refine AO.calmG 11 false 101 rfl rfl (congrArg (fun b => some (AV.fl (Value.bool b))) (decide_eq_false hc24)) 108 rfl (by decide) (eBool (decide (t19.1 = (0 : Int)))) (Calm.move rfl rfl) ?_
                      by_cases hc26 : t19.1 = (0 : Int)
                      · have hq21 := (if_pos hc26).symm.trans hq21
                        refine AO.calmG 18 true 108 rfl rfl (congrArg (fun b => some (AV.fl (Value.bool b))) (decide_eq_true hc26)) 109 rfl (by decide) (eI64 t19.2) (Calm.move rfl rfl) ?_
                        refine AO.calmG 18 true 108 rfl rfl (congrArg (fun b => some (AV.fl (Value.bool b))) (decide_eq_true hc26)) 110 rfl (by decide) (eBool (decide (t19.2 = (1 : Int)))) (Calm.int rfl rfl rfl rfl) ?_
                        refine AO.calmG 11 false 101 rfl rfl (congrArg (fun b => some (AV.fl (Value.bool b))) (decide_eq_false hc24)) 111 rfl (by decide) (eBool (decide (t19.2 = (1 : Int)))) (Calm.pickT rfl (congrArg (fun b => some (AV.fl (Value.bool b))) (decide_eq_true hc26)) rfl) ?_
                        refine AO.calm rfl 112 rfl (by decide) (eBool (decide (t19.2 = (1 : Int)))) (Calm.pickF rfl (congrArg (fun b => some (AV.fl (Value.bool b))) (decide_eq_false hc24)) rfl) ?_
                        refine AO.calm rfl 6 rfl (by decide) (eBool (decide (t19.2 = (1 : Int)))) (Calm.assign rfl rfl) ?_
                        cases hq21
                        refine AO.nilE ⟨rfl, rfl⟩ ?_ ?_
                        · exact ⟨rfl, trivial⟩
                        · exact (Sub.refl _)
                      · have hq21 := (if_neg hc26).symm.trans hq21
                        refine AO.skipG 18 false 108 rfl rfl (congrArg (fun b => some (AV.fl (Value.bool b))) (decide_eq_false hc26)) 109 rfl (by decide) ?_
                        refine AO.skipG 18 false 108 rfl rfl (congrArg (fun b => some (AV.fl (Value.bool b))) (decide_eq_false hc26)) 110 rfl (by decide) ?_
                        refine AO.calmG 11 false 101 rfl rfl (congrArg (fun b => some (AV.fl (Value.bool b))) (decide_eq_false hc24)) 111 rfl (by decide) (eBool false) (Calm.pickF rfl (congrArg (fun b => some (AV.fl (Value.bool b))) (decide_eq_false hc26)) rfl) ?_
                        refine AO.calm rfl 112 rfl (by decide) (eBool false) (Calm.pickF rfl (congrArg (fun b => some (AV.fl (Value.bool b))) (decide_eq_false hc24)) rfl) ?_
                        refine AO.calm rfl 6 rfl (by decide) (eBool false) (Calm.assign rfl rfl) ?_
                        cases hq21
                        refine AO.nilE ⟨rfl, rfl⟩ ?_ ?_
                        · exact ⟨rfl, trivial⟩
                        · exact (Sub.refl _)
                    · have hq21 := (if_neg hc25).symm.trans hq21
                      refine AO.skipG 14 false 104 rfl rfl (congrArg (fun b => some (AV.fl (Value.bool b))) (decide_eq_false hc25)) 105 rfl (by decide) ?_
                      refine AO.skipG 14 false 104 rfl rfl (congrArg (fun b => some (AV.fl (Value.bool b))) (decide_eq_false hc25)) 106 rfl (by decide) ?_
                      refine AO.calmG 11 false 101 rfl rfl (congrArg (fun b => some (AV.fl (Value.bool b))) (decide_eq_false hc24)) 107 rfl (by decide) (eBool false) (Calm.pickF rfl (congrArg (fun b => some (AV.fl (Value.bool b))) (decide_eq_false hc25)) rfl) ?_
                      refine AO.calmG 11 false 101 rfl rfl (congrArg (fun b => some (AV.fl (Value.bool b))) (decide_eq_false hc24)) 108 rfl (by decide) (eBool false) (Calm.move rfl rfl) ?_
                      refine AO.skipG 18 false 108 rfl rfl rfl 109 rfl (by decide) ?_
                      refine AO.skipG 18 false 108 rfl rfl rfl 110 rfl (by decide) ?_
                      refine AO.calmG 11 false 101 rfl rfl (congrArg (fun b => some (AV.fl (Value.bool b))) (decide_eq_false hc24)) 111 rfl (by decide) (eBool false) (Calm.pickF rfl rfl rfl) ?_
                      refine AO.calm rfl 112 rfl (by decide) (eBool false) (Calm.pickF rfl (congrArg (fun b => some (AV.fl (Value.bool b))) (decide_eq_false hc24)) rfl) ?_
                      refine AO.calm rfl 6 rfl (by decide) (eBool false) (Calm.assign rfl rfl) ?_
                      cases hq21
                      refine AO.nilE ⟨rfl, rfl⟩ ?_ ?_
                      · exact ⟨rfl, trivial⟩
                      · exact (Sub.refl _)
                · have hq21 := (if_neg hc23).symm.trans hq21
                  refine AO.skipG 7 false 97 rfl rfl (congrArg (fun b => some (AV.fl (Value.bool b))) (decide_eq_false hc23)) 98 rfl (by decide) ?_
                  refine AO.skipG 7 false 97 rfl rfl (congrArg (fun b => some (AV.fl (Value.bool b))) (decide_eq_false hc23)) 99 rfl (by decide) ?_
                  refine AO.calm rfl 100 rfl (by decide) (eBool false) (Calm.pickF rfl (congrArg (fun b => some (AV.fl (Value.bool b))) (decide_eq_false hc23)) rfl) ?_
                  refine AO.calm rfl 101 rfl (by decide) (eBool false) (Calm.move rfl rfl) ?_
                  refine AO.calmG 11 false 101 rfl rfl rfl 102 rfl (by decide) (eI64 x18) (Calm.move rfl rfl) ?_
                  refine AO.calmG 11 false 101 rfl rfl rfl 103 rfl (by decide) (eBool (decide (x18 < (0 : Int)))) (Calm.int rfl rfl rfl rfl) ?_
                  refine AO.calmG 11 false 101 rfl rfl rfl 104 rfl (by decide) (eBool (decide (x18 < (0 : Int)))) (Calm.move rfl rfl) ?_
                  by_cases hc27 : x18 < (0 : Int)
                  · have hq21 := (if_pos hc27).symm.trans hq21
                    refine AO.calmG 14 true 104 rfl rfl (congrArg (fun b => some (AV.fl (Value.bool b))) (decide_eq_true hc27)) 105 rfl (by decide) (eI64 t19.1) (Calm.move rfl rfl) ?_
                    refine AO.calmG 14 true 104 rfl rfl (congrArg (fun b => some (AV.fl (Value.bool b))) (decide_eq_true hc27)) 106 rfl (by decide) (eBool (decide (t19.1 = (0 : Int)))) (Calm.int rfl rfl rfl rfl) ?_
                    refine AO.calmG 11 false 101 rfl rfl rfl 107 rfl (by decide) (eBool (decide (t19.1 = (0 : Int)))) (Calm.pickT rfl (congrArg (fun b => some (AV.fl (Value.bool b))) (decide_eq_true hc27)) rfl) ?_
                    refine AO.calmG 11 false 101 rfl rfl rfl 108 rfl (by decide) (eBool (decide (t19.1 = (0 : Int)))) (Calm.move rfl rfl) ?_
                    by_cases hc28 : t19.1 = (0 : Int)
                    · have hq21 := (if_pos hc28).symm.trans hq21
                      refine AO.calmG 18 true 108 rfl rfl (congrArg (fun b => some (AV.fl (Value.bool b))) (decide_eq_true hc28)) 109 rfl (by decide) (eI64 t19.2) (Calm.move rfl rfl) ?_
                      refine AO.calmG 18 true 108 rfl rfl (congrArg (fun b => some (AV.fl (Value.bool b))) (decide_eq_true hc28)) 110 rfl (by decide) (eBool (decide (t19.2 = (1 : Int)))) (Calm.int rfl rfl rfl rfl) ?_
                      refine AO.calmG 11 false 101 rfl rfl rfl 111 rfl (by decide) (eBool (decide (t19.2 = (1 : Int)))) (Calm.pickT rfl (congrArg (fun b => some (AV.fl (Value.bool b))) (decide_eq_true hc28)) rfl) ?_
                      refine AO.calm rfl 112 rfl (by decide) (eBool (decide (t19.2 = (1 : Int)))) (Calm.pickF rfl rfl rfl) ?_
                      refine AO.calm rfl 6 rfl (by decide) (eBool (decide (t19.2 = (1 : Int)))) (Calm.assign rfl rfl) ?_
                      cases hq21
                      refine AO.nilE ⟨rfl, rfl⟩ ?_ ?_
                      · exact ⟨rfl, trivial⟩
                      · exact (Sub.refl _)
                    · have hq21 := (if_neg hc28).symm.trans hq21
                      refine AO.skipG 18 false 108 rfl rfl (congrArg (fun b => some (AV.fl (Value.bool b))) (decide_eq_false hc28)) 109 rfl (by decide) ?_
                      refine AO.skipG 18 false 108 rfl rfl (congrArg (fun b => some (AV.fl (Value.bool b))) (decide_eq_false hc28)) 110 rfl (by decide) ?_
                      refine AO.calmG 11 false 101 rfl rfl rfl 111 rfl (by decide) (eBool false) (Calm.pickF rfl (congrArg (fun b => some (AV.fl (Value.bool b))) (decide_eq_false hc28)) rfl) ?_
                      refine AO.calm rfl 112 rfl (by decide) (eBool false) (Calm.pickF rfl rfl rfl) ?_
                      refine AO.calm rfl 6 rfl (by decide) (eBool false) (Calm.assign rfl rfl) ?_
                      cases hq21
                      refine AO.nilE ⟨rfl, rfl⟩ ?_ ?_
                      · exact ⟨rfl, trivial⟩
                      · exact (Sub.refl _)
                  · have hq21 := (if_neg hc27).symm.trans hq21
                    refine AO.skipG 14 false 104 rfl rfl (congrArg (fun b => some (AV.fl (Value.bool b))) (decide_eq_false hc27)) 105 rfl (by decide) ?_
                    refine AO.skipG 14 false 104 rfl rfl (congrArg (fun b => some (AV.fl (Value.bool b))) (decide_eq_false hc27)) 106 rfl (by decide) ?_
                    refine AO.calmG 11 false 101 rfl rfl rfl 107 rfl (by decide) (eBool false) (Calm.pickF rfl (congrArg (fun b => some (AV.fl (Value.bool b))) (decide_eq_false hc27)) rfl) ?_
                    refine AO.calmG 11 false 101 rfl rfl rfl 108 rfl (by decide) (eBool false) (Calm.move rfl rfl) ?_
                    refine AO.skipG 18 false 108 rfl rfl rfl 109 rfl (by decide) ?_
                    refine AO.skipG 18 false 108 rfl rfl rfl 110 rfl (by decide) ?_
                    refine AO.calmG 11 false 101 rfl rfl rfl 111 rfl (by decide) (eBool false) (Calm.pickF rfl rfl rfl) ?_
                    refine AO.calm rfl 112 rfl (by decide) (eBool false) (Calm.pickF rfl rfl rfl) ?_
                    refine AO.calm rfl 6 rfl (by decide) (eBool false) (Calm.assign rfl rfl) ?_
                    cases hq21
                    refine AO.nilE ⟨rfl, rfl⟩ ?_ ?_
                    · exact ⟨rfl, trivial⟩
                    · exact (Sub.refl _)
              · have hq21 := (if_neg hc22).symm.trans hq21
                refine AO.skipG 2 false 92 rfl rfl (congrArg (fun b => some (AV.fl (Value.bool b))) (decide_eq_false hc22)) 93 rfl (by decide) ?_
                refine AO.skipG 2 false 92 rfl rfl (congrArg (fun b => some (AV.fl (Value.bool b))) (decide_eq_false hc22)) 94 rfl (by decide) ?_
                refine AO.skipG 2 false 92 rfl rfl (congrArg (fun b => some (AV.fl (Value.bool b))) (decide_eq_false hc22)) 95 rfl (by decide) ?_
                refine AO.calm rfl 96 rfl (by decide) (eBool false) (Calm.pickF rfl (congrArg (fun b => some (AV.fl (Value.bool b))) (decide_eq_false hc22)) rfl) ?_
                refine AO.calm rfl 97 rfl (by decide) (eBool false) (Calm.move rfl rfl) ?_
                refine AO.skipG 7 false 97 rfl rfl rfl 98 rfl (by decide) ?_
                refine AO.skipG 7 false 97 rfl rfl rfl 99 rfl (by decide) ?_
                refine AO.calm rfl 100 rfl (by decide) (eBool false) (Calm.pickF rfl rfl rfl) ?_
                refine AO.calm rfl 101 rfl (by decide) (eBool false) (Calm.move rfl rfl) ?_
                refine AO.calmG 11 false 101 rfl rfl rfl 102 rfl (by decide) (eI64 x18) (Calm.move rfl rfl) ?_
                refine AO.calmG 11 false 101 rfl rfl rfl 103 rfl (by decide) (eBool (decide (x18 < (0 : Int)))) (Calm.int rfl rfl rfl rfl) ?_
                refine AO.calmG 11 false 101 rfl rfl rfl 104 rfl (by decide) (eBool (decide (x18 < (0 : Int)))) (Calm.move rfl rfl) ?_
                by_cases hc29 : x18 < (0 : Int)
                · have hq21 := (if_pos hc29).symm.trans hq21
                  refine AO.calmG 14 true 104 rfl rfl (congrArg (fun b => some (AV.fl (Value.bool b))) (decide_eq_true hc29)) 105 rfl (by decide) (eI64 t19.1) (Calm.move rfl rfl) ?_
                  refine AO.calmG 14 true 104 rfl rfl (congrArg (fun b => some (AV.fl (Value.bool b))) (decide_eq_true hc29)) 106 rfl (by decide) (eBool (decide (t19.1 = (0 : Int)))) (Calm.int rfl rfl rfl rfl) ?_
                  refine AO.calmG 11 false 101 rfl rfl rfl 107 rfl (by decide) (eBool (decide (t19.1 = (0 : Int)))) (Calm.pickT rfl (congrArg (fun b => some (AV.fl (Value.bool b))) (decide_eq_true hc29)) rfl) ?_
                  refine AO.calmG 11 false 101 rfl rfl rfl 108 rfl (by decide) (eBool (decide (t19.1 = (0 : Int)))) (Calm.move rfl rfl) ?_
                  by_cases hc30 : t19.1 = (0 : Int)
                  · have hq21 := (if_pos hc30).symm.trans hq21
                    refine AO.calmG 18 true 108 rfl rfl (congrArg (fun b => some (AV.fl (Value.bool b))) (decide_eq_true hc30)) 109 rfl (by decide) (eI64 t19.2) (Calm.move rfl rfl) ?_
                    refine AO.calmG 18 true 108 rfl rfl (congrArg (fun b => some (AV.fl (Value.bool b))) (decide_eq_true hc30)) 110 rfl (by decide) (eBool (decide (t19.2 = (1 : Int)))) (Calm.int rfl rfl rfl rfl) ?_
                    refine AO.calmG 11 false 101 rfl rfl rfl 111 rfl (by decide) (eBool (decide (t19.2 = (1 : Int)))) (Calm.pickT rfl (congrArg (fun b => some (AV.fl (Value.bool b))) (decide_eq_true hc30)) rfl) ?_
                    refine AO.calm rfl 112 rfl (by decide) (eBool (decide (t19.2 = (1 : Int)))) (Calm.pickF rfl rfl rfl) ?_
                    refine AO.calm rfl 6 rfl (by decide) (eBool (decide (t19.2 = (1 : Int)))) (Calm.assign rfl rfl) ?_
                    cases hq21
                    refine AO.nilE ⟨rfl, rfl⟩ ?_ ?_
                    · exact ⟨rfl, trivial⟩
                    · exact (Sub.refl _)
                  · have hq21 := (if_neg hc30).symm.trans hq21
                    refine AO.skipG 18 false 108 rfl rfl (congrArg (fun b => some (AV.fl (Value.bool b))) (decide_eq_false hc30)) 109 rfl (by decide) ?_
                    refine AO.skipG 18 false 108 rfl rfl (congrArg (fun b => some (AV.fl (Value.bool b))) (decide_eq_false hc30)) 110 rfl (by decide) ?_
                    refine AO.calmG 11 false 101 rfl rfl rfl 111 rfl (by decide) (eBool false) (Calm.pickF rfl (congrArg (fun b => some (AV.fl (Value.bool b))) (decide_eq_false hc30)) rfl) ?_
                    refine AO.calm rfl 112 rfl (by decide) (eBool false) (Calm.pickF rfl rfl rfl) ?_
                    refine AO.calm rfl 6 rfl (by decide) (eBool false) (Calm.assign rfl rfl) ?_
                    cases hq21
                    refine AO.nilE ⟨rfl, rfl⟩ ?_ ?_
                    · exact ⟨rfl, trivial⟩
                    · exact (Sub.refl _)
                · have hq21 := (if_neg hc29).symm.trans hq21
                  refine AO.skipG 14 false 104 rfl rfl (congrArg (fun b => some (AV.fl (Value.bool b))) (decide_eq_false hc29)) 105 rfl (by decide) ?_
                  refine AO.skipG 14 false 104 rfl rfl (congrArg (fun b => some (AV.fl (Value.bool b))) (decide_eq_false hc29)) 106 rfl (by decide) ?_
                  refine AO.calmG 11 false 101 rfl rfl rfl 107 rfl (by decide) (eBool false) (Calm.pickF rfl (congrArg (fun b => some (AV.fl (Value.bool b))) (decide_eq_false hc29)) rfl) ?_
                  refine AO.calmG 11 false 101 rfl rfl rfl 108 rfl (by decide) (eBool false) (Calm.move rfl rfl) ?_
                  refine AO.skipG 18 false 108 rfl rfl rfl 109 rfl (by decide) ?_
                  refine AO.skipG 18 false 108 rfl rfl rfl 110 rfl (by decide) ?_
                  refine AO.calmG 11 false 101 rfl rfl rfl 111 rfl (by decide) (eBool false) (Calm.pickF rfl rfl rfl) ?_
                  refine AO.calm rfl 112 rfl (by decide) (eBool false) (Calm.pickF rfl rfl rfl) ?_
                  refine AO.calm rfl 6 rfl (by decide) (eBool false) (Calm.assign rfl rfl) ?_
                  cases hq21
                  refine AO.nilE ⟨rfl, rfl⟩ ?_ ?_
                  · exact ⟨rfl, trivial⟩
                  · exact (Sub.refl _)
            · refine AW.ret (ρ' := [(6, (eBool b20))]) (H' := []) ⟨rfl, trivial⟩ (Sub.refl _) ?_
              have hr := Option.some.inj h
              subst hr
              exact ⟨[(eBool b20)], ⟨rfl, rfl, trivial⟩, rfl⟩
end Go.Avl.T2
/- bosket/escape.letter; printed by avmain.py. -/
namespace Go.Avl.T2
open Go Go.RowKit Go.Proofs Go.Avl
set_option linter.unusedVariables false
set_option maxRecDepth 100000
set_option maxHeartbeats 4000000
attribute [local irreducible] AW AO AQ Spec SpecH Calm

def escape_letter (k : Nat) (p0 : Int) : Option Int :=
  if p0 = (10 : Int) then some ((110 : Int))
  else if p0 = (9 : Int) then some ((116 : Int))
  else if p0 = (13 : Int) then some ((114 : Int))
  else some ((0 : Int))
theorem escape_letter_spec {k : Nat} {p0 : Int} {r : Int} (h : escape_letter k p0 = some r) : Spec Try.prog 95 [(eU8 p0)] (eU8 r) := by
  rw [escape_letter.eq_1] at h
  refine Spec.intro (res := [.tmp 2]) Try.func95 rfl rfl rfl (Nat.le_of_ble_eq_true rfl) ?_
  refine AW.seq ?_
  refine AW.reg ?_
  refine AO.calm rfl 2 rfl (by decide) (eU8 (0 : Int)) (Calm.assign rfl rfl) ?_
  refine AO.nil (ρ' := [(0, (eU8 p0))]) (H' := []) ⟨rfl, trivial⟩ (Sub.refl _) ?_
  refine AW.seq ?_
  refine AW.seq ?_
  refine AW.reg ?_
  refine AO.calm rfl 3 rfl (by decide) (eU8 p0) (Calm.move rfl rfl) ?_
  refine AO.nil (ρ' := [(3, (eU8 p0))]) (H' := []) ⟨rfl, trivial⟩ (Sub.refl _) ?_
  refine AW.block ?_
  refine AW.seq ?_
  refine AW.reg ?_
  refine AO.calm rfl 5 rfl (by decide) (eBool (decide (p0 = (10 : Int)))) (Calm.int rfl rfl rfl rfl) ?_
  refine AO.calm rfl 4 rfl (by decide) (eBool (decide (p0 = (10 : Int)))) (Calm.assign rfl rfl) ?_
  refine AO.nil (ρ' := [(3, (eU8 p0)), (4, (eBool (decide (p0 = (10 : Int)))))]) (H' := []) ⟨rfl, rfl, trivial⟩ (Sub.refl _) ?_
  by_cases hc2 : p0 = (10 : Int)
  · have h := (if_pos hc2).symm.trans h
    refine AW.condP (p0 = (10 : Int)) rfl hc2 ?_
    refine AW.seq ?_
    refine AW.reg ?_
    refine AO.calm rfl 2 rfl (by decide) (eU8 (110 : Int)) (Calm.assign rfl rfl) ?_
    refine AO.nil (ρ' := [(2, (eU8 (110 : Int)))]) (H' := []) ⟨rfl, trivial⟩ (Sub.refl _) ?_
    refine AW.ret (ρ' := [(2, (eU8 (110 : Int)))]) (H' := []) ⟨rfl, trivial⟩ (Sub.refl _) ?_
    have hr := Option.some.inj h
    subst hr
    exact ⟨[(eU8 (110 : Int))], ⟨rfl, rfl, trivial⟩, rfl⟩
  · have h := (if_neg hc2).symm.trans h
    refine AW.condN (p0 = (10 : Int)) rfl hc2 ?_
    refine AW.seq ?_
    refine AW.reg ?_
    refine AO.calm rfl 7 rfl (by decide) (eBool (decide (p0 = (9 : Int)))) (Calm.int rfl rfl rfl rfl) ?_
    refine AO.calm rfl 6 rfl (by decide) (eBool (decide (p0 = (9 : Int)))) (Calm.assign rfl rfl) ?_
    refine AO.nil (ρ' := [(3, (eU8 p0)), (6, (eBool (decide (p0 = (9 : Int)))))]) (H' := []) ⟨rfl, rfl, trivial⟩ (Sub.refl _) ?_
    by_cases hc3 : p0 = (9 : Int)
    · have h := (if_pos hc3).symm.trans h
      refine AW.condP (p0 = (9 : Int)) rfl hc3 ?_
      refine AW.seq ?_
      refine AW.reg ?_
      refine AO.calm rfl 2 rfl (by decide) (eU8 (116 : Int)) (Calm.assign rfl rfl) ?_
      refine AO.nil (ρ' := [(2, (eU8 (116 : Int)))]) (H' := []) ⟨rfl, trivial⟩ (Sub.refl _) ?_
      refine AW.ret (ρ' := [(2, (eU8 (116 : Int)))]) (H' := []) ⟨rfl, trivial⟩ (Sub.refl _) ?_
      have hr := Option.some.inj h
      subst hr
      exact ⟨[(eU8 (116 : Int))], ⟨rfl, rfl, trivial⟩, rfl⟩
    · have h := (if_neg hc3).symm.trans h
      refine AW.condN (p0 = (9 : Int)) rfl hc3 ?_
      refine AW.seq ?_
      refine AW.reg ?_
      refine AO.calm rfl 9 rfl (by decide) (eBool (decide (p0 = (13 : Int)))) (Calm.int rfl rfl rfl rfl) ?_
      refine AO.calm rfl 8 rfl (by decide) (eBool (decide (p0 = (13 : Int)))) (Calm.assign rfl rfl) ?_
      refine AO.nil (ρ' := [(8, (eBool (decide (p0 = (13 : Int)))))]) (H' := []) ⟨rfl, trivial⟩ (Sub.refl _) ?_
      by_cases hc4 : p0 = (13 : Int)
      · have h := (if_pos hc4).symm.trans h
        refine AW.condP (p0 = (13 : Int)) rfl hc4 ?_
        refine AW.seq ?_
        refine AW.reg ?_
        refine AO.calm rfl 2 rfl (by decide) (eU8 (114 : Int)) (Calm.assign rfl rfl) ?_
        refine AO.nil (ρ' := [(2, (eU8 (114 : Int)))]) (H' := []) ⟨rfl, trivial⟩ (Sub.refl _) ?_
        refine AW.ret (ρ' := [(2, (eU8 (114 : Int)))]) (H' := []) ⟨rfl, trivial⟩ (Sub.refl _) ?_
        have hr := Option.some.inj h
        subst hr
        exact ⟨[(eU8 (114 : Int))], ⟨rfl, rfl, trivial⟩, rfl⟩
      · have h := (if_neg hc4).symm.trans h
        refine AW.condN (p0 = (13 : Int)) rfl hc4 ?_
        refine AW.skip (ρ' := []) (H' := []) trivial (Sub.refl _) ?_
        refine AW.seq ?_
        refine AW.reg ?_
        refine AO.calm rfl 2 rfl (by decide) (eU8 (0 : Int)) (Calm.assign rfl rfl) ?_
        refine AO.nil (ρ' := [(2, (eU8 (0 : Int)))]) (H' := []) ⟨rfl, trivial⟩ (Sub.refl _) ?_
        refine AW.ret (ρ' := [(2, (eU8 (0 : Int)))]) (H' := []) ⟨rfl, trivial⟩ (Sub.refl _) ?_
        have hr := Option.some.inj h
        subst hr
        exact ⟨[(eU8 (0 : Int))], ⟨rfl, rfl, trivial⟩, rfl⟩
end Go.Avl.T2
/- bosket/escape.digit; printed by avmain.py. -/
namespace Go.Avl.T2
open Go Go.RowKit Go.Proofs Go.Avl
set_option linter.unusedVariables false
set_option maxRecDepth 100000
set_option maxHeartbeats 4000000
attribute [local irreducible] AW AO AQ Spec SpecH Calm

def escape_digit (k : Nat) (p0 : Int) : Option Int :=
  if p0 < (10 : Int) then some ((w8 ((48 : Int) + p0)))
  else some ((w8 ((w8 ((97 : Int) + p0)) - (10 : Int))))
theorem escape_digit_spec {k : Nat} {p0 : Int} {r : Int} (h : escape_digit k p0 = some r) : Spec Try.prog 96 [(eU8 p0)] (eU8 r) := by
  rw [escape_digit.eq_1] at h
  refine Spec.intro (res := [.tmp 2]) Try.func96 rfl rfl rfl (Nat.le_of_ble_eq_true rfl) ?_
  refine AW.seq ?_
  refine AW.reg ?_
  refine AO.calm rfl 2 rfl (by decide) (eU8 (0 : Int)) (Calm.assign rfl rfl) ?_
  refine AO.nil (ρ' := [(0, (eU8 p0))]) (H' := []) ⟨rfl, trivial⟩ (Sub.refl _) ?_
  refine AW.seq ?_
  refine AW.seq ?_
  refine AW.reg ?_
  refine AO.calm rfl 3 rfl (by decide) (eU8 p0) (Calm.move rfl rfl) ?_
  refine AO.calm rfl 4 rfl (by decide) (eBool (decide (p0 < (10 : Int)))) (Calm.int rfl rfl rfl rfl) ?_
  refine AO.nil (ρ' := [(0, (eU8 p0)), (4, (eBool (decide (p0 < (10 : Int)))))]) (H' := []) ⟨rfl, rfl, trivial⟩ (Sub.refl _) ?_
  by_cases hc2 : p0 < (10 : Int)
  · have h := (if_pos hc2).symm.trans h
    refine AW.condP (p0 < (10 : Int)) rfl hc2 ?_
    refine AW.seq ?_
    refine AW.reg ?_
    refine AO.calm rfl 5 rfl (by decide) (eU8 p0) (Calm.move rfl rfl) ?_
    refine AO.calm rfl 6 rfl (by decide) (eU8 (w8 ((48 : Int) + p0))) (Calm.int rfl rfl rfl rfl) ?_
    refine AO.calm rfl 2 rfl (by decide) (eU8 (w8 ((48 : Int) + p0))) (Calm.assign rfl rfl) ?_
    refine AO.nil (ρ' := [(2, (eU8 (w8 ((48 : Int) + p0))))]) (H' := []) ⟨rfl, trivial⟩ (Sub.refl _) ?_
    refine AW.ret (ρ' := [(2, (eU8 (w8 ((48 : Int) + p0))))]) (H' := []) ⟨rfl, trivial⟩ (Sub.refl _) ?_
    have hr := Option.some.inj h
    subst hr
    exact ⟨[(eU8 (w8 ((48 : Int) + p0)))], ⟨rfl, rfl, trivial⟩, rfl⟩
  · have h := (if_neg hc2).symm.trans h
    refine AW.condN (p0 < (10 : Int)) rfl hc2 ?_
    refine AW.skip (ρ' := [(0, (eU8 p0))]) (H' := []) ⟨rfl, trivial⟩ (Sub.refl _) ?_
    refine AW.seq ?_
    refine AW.reg ?_
    refine AO.calm rfl 7 rfl (by decide) (eU8 p0) (Calm.move rfl rfl) ?_
    refine AO.calm rfl 8 rfl (by decide) (eU8 (w8 ((97 : Int) + p0))) (Calm.int rfl rfl rfl rfl) ?_
    refine AO.calm rfl 9 rfl (by decide) (eU8 (w8 ((w8 ((97 : Int) + p0)) - (10 : Int)))) (Calm.int rfl rfl rfl rfl) ?_
    refine AO.calm rfl 2 rfl (by decide) (eU8 (w8 ((w8 ((97 : Int) + p0)) - (10 : Int)))) (Calm.assign rfl rfl) ?_
    refine AO.nil (ρ' := [(2, (eU8 (w8 ((w8 ((97 : Int) + p0)) - (10 : Int)))))]) (H' := []) ⟨rfl, trivial⟩ (Sub.refl _) ?_
    refine AW.ret (ρ' := [(2, (eU8 (w8 ((w8 ((97 : Int) + p0)) - (10 : Int)))))]) (H' := []) ⟨rfl, trivial⟩ (Sub.refl _) ?_
    have hr := Option.some.inj h
    subst hr
    exact ⟨[(eU8 (w8 ((w8 ((97 : Int) + p0)) - (10 : Int))))], ⟨rfl, rfl, trivial⟩, rfl⟩
end Go.Avl.T2
/- bosket/escape.Byte; printed by avmain.py. -/
namespace Go.Avl.T2
open Go Go.RowKit Go.Proofs Go.Avl
set_option linter.unusedVariables false
set_option maxRecDepth 100000
set_option maxHeartbeats 4000000
attribute [local irreducible] AW AO AQ Spec SpecH Calm

def escape_Byte_c0 (k : Nat) (p0 : Int) : Option ByteArray :=
  some ((strOfNums ([p0] : List Int)))
def escape_Byte_l1 (k : Nat) (p0 : Int) (p1 : ByteArray) : Nat → Int → Option ByteArray
  | 0, _ => none
  | j + 1, x15 =>
    if x15 < (p1.size : Int) then if 0 ≤ x15 ∧ x15 < (p1.size : Int) then if (byteAt p1 x15) = p0 then some ((strOfNums ([(92 : Int), p0] : List Int)))
    else (escape_Byte_l1 k p0 p1 j) (w64 (x15 + (1 : Int)))
    else none
    else escape_Byte_c0 k p0
def escape_Byte (k : Nat) (p0 : Int) (p1 : ByteArray) : Option ByteArray :=
  (escape_letter k p0).bind fun t3 =>
  if t3 ≠ (0 : Int) then some ((strOfNums ([(92 : Int), t3] : List Int)))
  else Option.bind (α := Bool) (if p0 < (32 : Int) then some (true)
  else some (decide ((126 : Int) < p0))) fun b6 =>
  if b6 = true then (escape_digit k (Int.fdiv p0 (2 ^ (min (4 : Int).toNat IntKind.u8.bits)))).bind fun t10 =>
  (escape_digit k (bits .and .u8 p0 (15 : Int))).bind fun t11 =>
  some ((strOfNums ([(92 : Int), (120 : Int), t10, t11] : List Int)))
  else if p0 = (92 : Int) then some ((ByteArray.mk #[92, 92]))
  else escape_Byte_l1 k p0 p1 k (0 : Int)
theorem escape_Byte_spec {k : Nat} {p0 : Int} {p1 : ByteArray} {r : ByteArray} (h : escape_Byte k p0 p1 = some r) : Spec Try.prog 81 [(eU8 p0), (eStr p1)] (eStr r) := by
  rw [escape_Byte.eq_1] at h
  refine Spec.intro (res := [.tmp 4]) Try.func81 rfl rfl rfl (Nat.le_of_ble_eq_true rfl) ?_
  refine AW.seq ?_
  refine AW.reg ?_
  refine AO.calm rfl 4 rfl (by decide) (eStr (ByteArray.mk #[])) (Calm.assign rfl rfl) ?_
  refine AO.nil (ρ' := [(0, (eU8 p0)), (1, (eStr p1))]) (H' := []) ⟨rfl, rfl, trivial⟩ (Sub.refl _) ?_
  refine AW.seq ?_
  refine AW.seq ?_
  refine AW.reg ?_
  refine AO.calm rfl 7 rfl (by decide) (eU8 p0) (Calm.move rfl rfl) ?_
  obtain ⟨t3, et3, h⟩ := of_bind h
  refine AO.callS [(eU8 p0)] (eU8 t3) 8 rfl (by decide) ok95 rfl rfl rfl ⟨rfl, rfl, trivial⟩ (escape_letter_spec et3) ?_
  refine AO.calm rfl 5 rfl (by decide) (eU8 t3) (Calm.assign rfl rfl) ?_
  refine AO.nil (ρ' := [(0, (eU8 p0)), (1, (eStr p1)), (5, (eU8 t3))]) (H' := []) ⟨rfl, rfl, rfl, trivial⟩ (Sub.refl _) ?_
  refine AW.seq ?_
  refine AW.reg ?_
  refine AO.calm rfl 9 rfl (by decide) (eU8 t3) (Calm.move rfl rfl) ?_
  refine AO.calm rfl 10 rfl (by decide) (eBool (decide (t3 ≠ (0 : Int)))) (Calm.int rfl rfl rfl rfl) ?_
  refine AO.nil (ρ' := [(0, (eU8 p0)), (1, (eStr p1)), (5, (eU8 t3)), (10, (eBool (decide (t3 ≠ (0 : Int)))))]) (H' := []) ⟨rfl, rfl, rfl, rfl, trivial⟩ (Sub.refl _) ?_
  by_cases hc4 : t3 ≠ (0 : Int)
  · have h := (if_pos hc4).symm.trans h
    refine AW.condP (t3 ≠ (0 : Int)) rfl hc4 ?_
    refine AW.seq ?_
    refine AW.reg ?_
    refine AO.calm rfl 11 rfl (by decide) (eU8 t3) (Calm.move rfl rfl) ?_
    refine AO.lit (Z := (eU8 (0 : Int))) (xs := (([(92 : Int), t3] : List Int).map eU8)) (qs := [(0, (eU8 (92 : Int))), (1, (eU8 t3))]) rfl 12 rfl (by decide) rfl ⟨rfl, rfl, rfl, rfl, rfl, rfl, trivial⟩ Try.underlying84 sz5 zr5 lay5 rfl (by decide) (litOK (z := 1) [(eU8 (92 : Int)), (eU8 t3)] rfl ⟨⟨rfl, rfl⟩, ⟨rfl, rfl⟩, trivial⟩) rfl fun n5 => ?_
    refine AO.calm rfl 13 rfl (by decide) (eStr (strOfNums ([(92 : Int), t3] : List Int))) (Calm.strO 0 rfl rfl rfl Try.underlying84 Try.underlying9 Try.underlying5) ?_
    refine AO.calm rfl 4 rfl (by decide) (eStr (strOfNums ([(92 : Int), t3] : List Int))) (Calm.assign rfl rfl) ?_
    refine AO.nil (ρ' := [(4, (eStr (strOfNums ([(92 : Int), t3] : List Int))))]) (H' := []) ⟨rfl, trivial⟩ (Sub.nil _) ?_
    refine AW.ret (ρ' := [(4, (eStr (strOfNums ([(92 : Int), t3] : List Int))))]) (H' := []) ⟨rfl, trivial⟩ (Sub.refl _) ?_
    have hr := Option.some.inj h
    subst hr
    exact ⟨[(eStr (strOfNums ([(92 : Int), t3] : List Int)))], ⟨rfl, rfl, trivial⟩, rfl⟩
  · have h := (if_neg hc4).symm.trans h
    refine AW.condN (t3 ≠ (0 : Int)) rfl hc4 ?_
    refine AW.skip (ρ' := [(0, (eU8 p0)), (1, (eStr p1))]) (H' := []) ⟨rfl, rfl, trivial⟩ (Sub.refl _) ?_
    refine AW.seq ?_
    refine AW.seq ?_
    obtain ⟨b6, hq7, h⟩ := of_bind h
    refine AW.regM [(0, (eU8 p0)), (1, (eStr p1)), (19, (eBool b6))] [] ?_ ?_
    · refine AO.calm rfl 14 rfl (by decide) (eU8 p0) (Calm.move rfl rfl) ?_
      refine AO.calm rfl 15 rfl (by decide) (eBool (decide (p0 < (32 : Int)))) (Calm.int rfl rfl rfl rfl) ?_
      refine AO.calm rfl 16 rfl (by decide) (eBool (decide (p0 < (32 : Int)))) (Calm.move rfl rfl) ?_
      by_cases hc8 : p0 < (32 : Int)
      · have hq7 := (if_pos hc8).symm.trans hq7
        refine AO.skipG 2 true 16 rfl rfl (congrArg (fun b => some (AV.fl (Value.bool b))) (decide_eq_true hc8)) 17 rfl (by decide) ?_
        refine AO.skipG 2 true 16 rfl rfl (congrArg (fun b => some (AV.fl (Value.bool b))) (decide_eq_true hc8)) 18 rfl (by decide) ?_
        refine AO.calm rfl 19 rfl (by decide) (eBool true) (Calm.pickT rfl (congrArg (fun b => some (AV.fl (Value.bool b))) (decide_eq_true hc8)) rfl) ?_
        cases hq7
        refine AO.nilE ⟨rfl, rfl⟩ ?_ ?_
        · exact ⟨rfl, rfl, rfl, trivial⟩
        · exact (Sub.refl _)
      · have hq7 := (if_neg hc8).symm.trans hq7
        refine AO.calmG 2 false 16 rfl rfl (congrArg (fun b => some (AV.fl (Value.bool b))) (decide_eq_false hc8)) 17 rfl (by decide) (eU8 p0) (Calm.move rfl rfl) ?_
        refine AO.calmG 2 false 16 rfl rfl (congrArg (fun b => some (AV.fl (Value.bool b))) (decide_eq_false hc8)) 18 rfl (by decide) (eBool (decide ((126 : Int) < p0))) (Calm.int rfl rfl rfl rfl) ?_
        refine AO.calm rfl 19 rfl (by decide) (eBool (decide ((126 : Int) < p0))) (Calm.pickF rfl (congrArg (fun b => some (AV.fl (Value.bool b))) (decide_eq_false hc8)) rfl) ?_
        cases hq7
        refine AO.nilE ⟨rfl, rfl⟩ ?_ ?_
        · exact ⟨rfl, rfl, rfl, trivial⟩
        · exact (Sub.refl _)
    · by_cases hc9 : b6 = true
      · have h := (if_pos hc9).symm.trans h
        refine AW.condT' b6 rfl hc9 ?_
        refine AW.seq ?_
        refine AW.reg ?_
        refine AO.calm rfl 20 rfl (by decide) (eU8 p0) (Calm.move rfl rfl) ?_
        refine AO.calm rfl 21 rfl (by decide) (eU8 (Int.fdiv p0 (2 ^ (min (4 : Int).toNat IntKind.u8.bits)))) (Calm.shr rfl rfl rfl (by decide)) ?_
        obtain ⟨t10, et10, h⟩ := of_bind h
        refine AO.callS [(eU8 (Int.fdiv p0 (2 ^ (min (4 : Int).toNat IntKind.u8.bits))))] (eU8 t10) 22 rfl (by decide) ok96 rfl rfl rfl ⟨rfl, rfl, trivial⟩ (escape_digit_spec et10) ?_
        refine AO.calm rfl 23 rfl (by decide) (eU8 p0) (Calm.move rfl rfl) ?_
        refine AO.calm rfl 24 rfl (by decide) (eU8 (bits .and .u8 p0 (15 : Int))) (Calm.int rfl rfl rfl rfl) ?_
        obtain ⟨t11, et11, h⟩ := of_bind h
        refine AO.callS [(eU8 (bits .and .u8 p0 (15 : Int)))] (eU8 t11) 25 rfl (by decide) ok96 rfl rfl rfl ⟨rfl, rfl, trivial⟩ (escape_digit_spec et11) ?_
        refine AO.lit (Z := (eU8 (0 : Int))) (xs := (([(92 : Int), (120 : Int), t10, t11] : List Int).map eU8)) (qs := [(0, (eU8 (92 : Int))), (1, (eU8 (120 : Int))), (2, (eU8 t10)), (3, (eU8 t11))]) rfl 26 rfl (by decide) rfl ⟨rfl, rfl, rfl, rfl, rfl, rfl, rfl, rfl, rfl, rfl, rfl, rfl, trivial⟩ Try.underlying84 sz5 zr5 lay5 rfl (by decide) (litOK (z := 1) [(eU8 (92 : Int)), (eU8 (120 : Int)), (eU8 t10), (eU8 t11)] rfl ⟨⟨rfl, rfl⟩, ⟨rfl, rfl⟩, ⟨rfl, rfl⟩, ⟨rfl, rfl⟩, trivial⟩) rfl fun n12 => ?_
        refine AO.calm rfl 27 rfl (by decide) (eStr (strOfNums ([(92 : Int), (120 : Int), t10, t11] : List Int))) (Calm.strO 0 rfl rfl rfl Try.underlying84 Try.underlying9 Try.underlying5) ?_
        refine AO.calm rfl 4 rfl (by decide) (eStr (strOfNums ([(92 : Int), (120 : Int), t10, t11] : List Int))) (Calm.assign rfl rfl) ?_
        refine AO.nil (ρ' := [(4, (eStr (strOfNums ([(92 : Int), (120 : Int), t10, t11] : List Int))))]) (H' := []) ⟨rfl, trivial⟩ (Sub.nil _) ?_
        refine AW.ret (ρ' := [(4, (eStr (strOfNums ([(92 : Int), (120 : Int), t10, t11] : List Int))))]) (H' := []) ⟨rfl, trivial⟩ (Sub.refl _) ?_
        have hr := Option.some.inj h
        subst hr
        exact ⟨[(eStr (strOfNums ([(92 : Int), (120 : Int), t10, t11] : List Int)))], ⟨rfl, rfl, trivial⟩, rfl⟩
      · have h := (if_neg hc9).symm.trans h
        refine AW.condF' b6 rfl hc9 ?_
        refine AW.skip (ρ' := [(0, (eU8 p0)), (1, (eStr p1))]) (H' := []) ⟨rfl, rfl, trivial⟩ (Sub.refl _) ?_
        refine AW.seq ?_
        refine AW.seq ?_
        refine AW.reg ?_
        refine AO.calm rfl 28 rfl (by decide) (eU8 p0) (Calm.move rfl rfl) ?_
        refine AO.calm rfl 29 rfl (by decide) (eBool (decide (p0 = (92 : Int)))) (Calm.int rfl rfl rfl rfl) ?_
        refine AO.nil (ρ' := [(0, (eU8 p0)), (1, (eStr p1)), (29, (eBool (decide (p0 = (92 : Int)))))]) (H' := []) ⟨rfl, rfl, rfl, trivial⟩ (Sub.refl _) ?_
        by_cases hc13 : p0 = (92 : Int)
        · have h := (if_pos hc13).symm.trans h
          refine AW.condP (p0 = (92 : Int)) rfl hc13 ?_
          refine AW.seq ?_
          refine AW.reg ?_
          refine AO.calm rfl 4 rfl (by decide) (eStr (ByteArray.mk #[92, 92])) (Calm.assign rfl rfl) ?_
          refine AO.nil (ρ' := [(4, (eStr (ByteArray.mk #[92, 92])))]) (H' := []) ⟨rfl, trivial⟩ (Sub.refl _) ?_
          refine AW.ret (ρ' := [(4, (eStr (ByteArray.mk #[92, 92])))]) (H' := []) ⟨rfl, trivial⟩ (Sub.refl _) ?_
          have hr := Option.some.inj h
          subst hr
          exact ⟨[(eStr (ByteArray.mk #[92, 92]))], ⟨rfl, rfl, trivial⟩, rfl⟩
        · have h := (if_neg hc13).symm.trans h
          refine AW.condN (p0 = (92 : Int)) rfl hc13 ?_
          refine AW.skip (ρ' := [(0, (eU8 p0)), (1, (eStr p1))]) (H' := []) ⟨rfl, rfl, trivial⟩ (Sub.refl _) ?_
          refine AW.seq_mid (fun ρ H => ρ = [(0, (eU8 p0))] ∧ H = [] ∧ escape_Byte_c0 k p0 = some r) ?_ ?_
          · refine AW.seq ?_
            refine AW.reg ?_
            refine AO.calm rfl 30 rfl (by decide) (eStr p1) (Calm.move rfl rfl) ?_
            refine AO.calm rfl 31 rfl (by decide) (eI64 (p1.size : Int)) (Calm.lenStr rfl rfl Try.underlying9) ?_
            refine AO.calm rfl 32 rfl (by decide) (eI64 (0 : Int)) (Calm.move rfl rfl) ?_
            refine AO.nil (ρ' := [(0, (eU8 p0)), (1, (eStr p1)), (31, (eI64 (p1.size : Int))), (32, (eI64 (0 : Int)))]) (H' := []) ⟨rfl, rfl, rfl, rfl, trivial⟩ (Sub.refl _) ?_
            refine AW.block ?_
            refine AW.weak (ρ' := [(0, (eU8 p0)), (1, (eStr p1)), (31, (eI64 (p1.size : Int))), (32, (eI64 (0 : Int)))]) (H' := []) ⟨rfl, rfl, rfl, rfl, trivial⟩ (Sub.refl _) ?_
            refine AW.loop (fun kq ρ H => ∃ (x15 : Int), ρ = [(0, (eU8 p0)), (1, (eStr p1)), (31, (eI64 (p1.size : Int))), (32, (eI64 x15))] ∧ H = [] ∧ escape_Byte_l1 k p0 p1 kq x15 = some r) k ⟨(0 : Int), rfl, rfl, h⟩ ?_
            rintro kq17 _ _ ⟨x15, rfl, rfl, h⟩
            cases kq17 with
            | zero => rw [escape_Byte_l1.eq_1] at h; cases h
            | succ kq17 =>
            rw [escape_Byte_l1.eq_2] at h
            generalize hrec16 : escape_Byte_l1 k p0 p1 kq17 = rec16 at h
            refine AW.seq ?_
            refine AW.reg ?_
            refine AO.calm rfl 33 rfl (by decide) (eBool (decide (x15 < (p1.size : Int)))) (Calm.int rfl rfl rfl rfl) ?_
            refine AO.nil (ρ' := [(0, (eU8 p0)), (1, (eStr p1)), (31, (eI64 (p1.size : Int))), (32, (eI64 x15)), (33, (eBool (decide (x15 < (p1.size : Int)))))]) (H' := []) ⟨rfl, rfl, rfl, rfl, rfl, trivial⟩ (Sub.refl _) ?_
            refine AW.seq ?_
            by_cases hc18 : x15 < (p1.size : Int)
            · have h := (if_pos hc18).symm.trans h
              refine AW.condP (x15 < (p1.size : Int)) rfl hc18 ?_
              refine AW.skip (ρ' := [(0, (eU8 p0)), (1, (eStr p1)), (31, (eI64 (p1.size : Int))), (32, (eI64 x15))]) (H' := []) ⟨rfl, rfl, rfl, rfl, trivial⟩ (Sub.refl _) ?_
              refine AW.seq ?_
              refine AW.block ?_
              refine AW.seq ?_
              refine AW.reg ?_
              refine AO.calm rfl 34 rfl (by decide) (eI64 x15) (Calm.move rfl rfl) ?_
              refine AO.calm rfl 6 rfl (by decide) (eI64 x15) (Calm.assign rfl rfl) ?_
              refine AO.nil (ρ' := [(0, (eU8 p0)), (1, (eStr p1)), (6, (eI64 x15)), (31, (eI64 (p1.size : Int))), (32, (eI64 x15))]) (H' := []) ⟨rfl, rfl, rfl, rfl, rfl, trivial⟩ (Sub.refl _) ?_
              refine AW.seq ?_
              refine AW.reg ?_
              refine AO.calm rfl 35 rfl (by decide) (eStr p1) (Calm.move rfl rfl) ?_
              refine AO.calm rfl 36 rfl (by decide) (eI64 x15) (Calm.move rfl rfl) ?_
              obtain ⟨hg19, h⟩ := of_guard h
              refine AO.calm rfl 37 rfl (by decide) (eU8 (byteAt p1 x15)) (Calm.idxS rfl rfl rfl hg19 Try.underlying9) ?_
              refine AO.calm rfl 38 rfl (by decide) (eU8 p0) (Calm.move rfl rfl) ?_
              refine AO.calm rfl 39 rfl (by decide) (eBool (decide ((byteAt p1 x15) = p0))) (Calm.int rfl rfl rfl rfl) ?_
              refine AO.nil (ρ' := [(0, (eU8 p0)), (1, (eStr p1)), (31, (eI64 (p1.size : Int))), (32, (eI64 x15)), (39, (eBool (decide ((byteAt p1 x15) = p0))))]) (H' := []) ⟨rfl, rfl, rfl, rfl, rfl, trivial⟩ (Sub.refl _) ?_
              by_cases hc20 : (byteAt p1 x15) = p0
              · have h := (if_pos hc20).symm.trans h
                refine AW.condP ((byteAt p1 x15) = p0) rfl hc20 ?_
                refine AW.seq ?_
                refine AW.reg ?_
                refine AO.calm rfl 40 rfl (by decide) (eU8 p0) (Calm.move rfl rfl) ?_
                refine AO.lit (Z := (eU8 (0 : Int))) (xs := (([(92 : Int), p0] : List Int).map eU8)) (qs := [(0, (eU8 (92 : Int))), (1, (eU8 p0))]) rfl 41 rfl (by decide) rfl ⟨rfl, rfl, rfl, rfl, rfl, rfl, trivial⟩ Try.underlying84 sz5 zr5 lay5 rfl (by decide) (litOK (z := 1) [(eU8 (92 : Int)), (eU8 p0)] rfl ⟨⟨rfl, rfl⟩, ⟨rfl, rfl⟩, trivial⟩) rfl fun n21 => ?_
                refine AO.calm rfl 42 rfl (by decide) (eStr (strOfNums ([(92 : Int), p0] : List Int))) (Calm.strO 0 rfl rfl rfl Try.underlying84 Try.underlying9 Try.underlying5) ?_
                refine AO.calm rfl 4 rfl (by decide) (eStr (strOfNums ([(92 : Int), p0] : List Int))) (Calm.assign rfl rfl) ?_
                refine AO.nil (ρ' := [(4, (eStr (strOfNums ([(92 : Int), p0] : List Int))))]) (H' := []) ⟨rfl, trivial⟩ (Sub.nil _) ?_
                refine AW.ret (ρ' := [(4, (eStr (strOfNums ([(92 : Int), p0] : List Int))))]) (H' := []) ⟨rfl, trivial⟩ (Sub.refl _) ?_
                have hr := Option.some.inj h
                subst hr
                exact ⟨[(eStr (strOfNums ([(92 : Int), p0] : List Int)))], ⟨rfl, rfl, trivial⟩, rfl⟩
              · have h := (if_neg hc20).symm.trans h
                refine AW.condN ((byteAt p1 x15) = p0) rfl hc20 ?_
                refine AW.skip (ρ' := [(0, (eU8 p0)), (1, (eStr p1)), (31, (eI64 (p1.size : Int))), (32, (eI64 x15))]) (H' := []) ⟨rfl, rfl, rfl, rfl, trivial⟩ (Sub.refl _) ?_
                refine AW.reg ?_
                refine AO.calm rfl 43 rfl (by decide) (eI64 (w64 (x15 + (1 : Int)))) (Calm.int rfl rfl rfl rfl) ?_
                refine AO.calm rfl 32 rfl (by decide) (eI64 (w64 (x15 + (1 : Int)))) (Calm.move rfl rfl) ?_
                refine AO.nil (ρ' := [(0, (eU8 p0)), (1, (eStr p1)), (31, (eI64 (p1.size : Int))), (32, (eI64 (w64 (x15 + (1 : Int)))))]) (H' := []) ⟨rfl, rfl, rfl, rfl, trivial⟩ (Sub.refl _) ?_
                exact ⟨kq17, Nat.lt_succ_self _, (w64 (x15 + (1 : Int))), rfl, rfl, by rw [hrec16]; exact h⟩
            · have h := (if_neg hc18).symm.trans h
              refine AW.condN (x15 < (p1.size : Int)) rfl hc18 ?_
              refine AW.exit (ρ' := [(0, (eU8 p0))]) (H' := []) ⟨rfl, trivial⟩ (Sub.refl _) ?_
              exact ⟨rfl, rfl, h⟩
          · rintro _ _ ⟨rfl, rfl, h⟩
            rw [escape_Byte_c0.eq_1] at h
            refine AW.seq ?_
            refine AW.reg ?_
            refine AO.calm rfl 44 rfl (by decide) (eU8 p0) (Calm.move rfl rfl) ?_
            refine AO.lit (Z := (eU8 (0 : Int))) (xs := (([p0] : List Int).map eU8)) (qs := [(0, (eU8 p0))]) rfl 45 rfl (by decide) rfl ⟨rfl, rfl, rfl, trivial⟩ Try.underlying84 sz5 zr5 lay5 rfl (by decide) (litOK (z := 1) [(eU8 p0)] rfl ⟨⟨rfl, rfl⟩, trivial⟩) rfl fun n14 => ?_
            refine AO.calm rfl 46 rfl (by decide) (eStr (strOfNums ([p0] : List Int))) (Calm.strO 0 rfl rfl rfl Try.underlying84 Try.underlying9 Try.underlying5) ?_
            refine AO.calm rfl 4 rfl (by decide) (eStr (strOfNums ([p0] : List Int))) (Calm.assign rfl rfl) ?_
            refine AO.nil (ρ' := [(4, (eStr (strOfNums ([p0] : List Int))))]) (H' := []) ⟨rfl, trivial⟩ (Sub.nil _) ?_
            refine AW.ret (ρ' := [(4, (eStr (strOfNums ([p0] : List Int))))]) (H' := []) ⟨rfl, trivial⟩ (Sub.refl _) ?_
            have hr := Option.some.inj h
            subst hr
            exact ⟨[(eStr (strOfNums ([p0] : List Int)))], ⟨rfl, rfl, trivial⟩, rfl⟩
end Go.Avl.T2
/- bosket/escape.Quote; printed by avmain.py. -/
namespace Go.Avl.T2
open Go Go.RowKit Go.Proofs Go.Avl
set_option linter.unusedVariables false
set_option maxRecDepth 100000
set_option maxHeartbeats 4000000
attribute [local irreducible] AW AO AQ Spec SpecH Calm

def escape_Quote_c0 (k : Nat) (p1 : Int) (x4 : ByteArray) : Option ByteArray :=
  if x4.size + (strOfNums ([p1] : List Int)).size ≤ 9223372036854775807 then some ((x4 ++ (strOfNums ([p1] : List Int))))
  else none
def escape_Quote_l1 (k : Nat) (p0 : ByteArray) (p1 : Int) : Nat → ByteArray → Int → Option ByteArray
  | 0, _, _ => none
  | j + 1, x7, x8 =>
    if x8 < (p0.size : Int) then if 0 ≤ x8 ∧ x8 < (p0.size : Int) then (escape_Byte k (byteAt p0 x8) (strOfNums ([p1] : List Int))).bind fun t14 =>
    if x7.size + t14.size ≤ 9223372036854775807 then (escape_Quote_l1 k p0 p1 j) (x7 ++ t14) (w64 (x8 + (1 : Int)))
    else none
    else none
    else escape_Quote_c0 k p1 x7
def escape_Quote (k : Nat) (p0 : ByteArray) (p1 : Int) : Option ByteArray :=
  escape_Quote_l1 k p0 p1 k (strOfNums ([p1] : List Int)) (0 : Int)
theorem escape_Quote_spec {k : Nat} {p0 : ByteArray} {p1 : Int} {r : ByteArray} (h : escape_Quote k p0 p1 = some r) : Spec Try.prog 60 [(eStr p0), (eU8 p1)] (eStr r) := by
  rw [escape_Quote.eq_1] at h
  refine Spec.intro (res := [.tmp 4]) Try.func60 rfl rfl rfl (Nat.le_of_ble_eq_true rfl) ?_
  refine AW.seq ?_
  refine AW.reg ?_
  refine AO.calm rfl 4 rfl (by decide) (eStr (ByteArray.mk #[])) (Calm.assign rfl rfl) ?_
  refine AO.nil (ρ' := [(0, (eStr p0)), (1, (eU8 p1))]) (H' := []) ⟨rfl, rfl, trivial⟩ (Sub.refl _) ?_
  refine AW.seq ?_
  refine AW.reg ?_
  refine AO.calm rfl 7 rfl (by decide) (eU8 p1) (Calm.move rfl rfl) ?_
  refine AO.lit (Z := (eU8 (0 : Int))) (xs := (([p1] : List Int).map eU8)) (qs := [(0, (eU8 p1))]) rfl 8 rfl (by decide) rfl ⟨rfl, rfl, rfl, trivial⟩ Try.underlying84 sz5 zr5 lay5 rfl (by decide) (litOK (z := 1) [(eU8 p1)] rfl ⟨⟨rfl, rfl⟩, trivial⟩) rfl fun n3 => ?_
  refine AO.calm rfl 9 rfl (by decide) (eStr (strOfNums ([p1] : List Int))) (Calm.strO 0 rfl rfl rfl Try.underlying84 Try.underlying9 Try.underlying5) ?_
  refine AO.calm rfl 5 rfl (by decide) (eStr (strOfNums ([p1] : List Int))) (Calm.assign rfl rfl) ?_
  refine AO.nil (ρ' := [(0, (eStr p0)), (1, (eU8 p1)), (5, (eStr (strOfNums ([p1] : List Int))))]) (H' := []) ⟨rfl, rfl, rfl, trivial⟩ (Sub.nil _) ?_
  refine AW.seq_mid (fun ρ H => ∃ (x4 : ByteArray), ρ = [(1, (eU8 p1)), (5, (eStr x4))] ∧ H = [] ∧ escape_Quote_c0 k p1 x4 = some r) ?_ ?_
  · refine AW.seq ?_
    refine AW.reg ?_
    refine AO.calm rfl 10 rfl (by decide) (eStr p0) (Calm.move rfl rfl) ?_
    refine AO.calm rfl 11 rfl (by decide) (eI64 (p0.size : Int)) (Calm.lenStr rfl rfl Try.underlying9) ?_
    refine AO.calm rfl 12 rfl (by decide) (eI64 (0 : Int)) (Calm.move rfl rfl) ?_
    refine AO.nil (ρ' := [(0, (eStr p0)), (1, (eU8 p1)), (5, (eStr (strOfNums ([p1] : List Int)))), (11, (eI64 (p0.size : Int))), (12, (eI64 (0 : Int)))]) (H' := []) ⟨rfl, rfl, rfl, rfl, rfl, trivial⟩ (Sub.refl _) ?_
    refine AW.block ?_
    refine AW.weak (ρ' := [(0, (eStr p0)), (1, (eU8 p1)), (5, (eStr (strOfNums ([p1] : List Int)))), (11, (eI64 (p0.size : Int))), (12, (eI64 (0 : Int)))]) (H' := []) ⟨rfl, rfl, rfl, rfl, rfl, trivial⟩ (Sub.refl _) ?_
    refine AW.loop (fun kq ρ H => ∃ (x7 : ByteArray) (x8 : Int), ρ = [(0, (eStr p0)), (1, (eU8 p1)), (5, (eStr x7)), (11, (eI64 (p0.size : Int))), (12, (eI64 x8))] ∧ H = [] ∧ escape_Quote_l1 k p0 p1 kq x7 x8 = some r) k ⟨(strOfNums ([p1] : List Int)), (0 : Int), rfl, rfl, h⟩ ?_
    rintro kq10 _ _ ⟨x7, x8, rfl, rfl, h⟩
    cases kq10 with
    | zero => rw [escape_Quote_l1.eq_1] at h; cases h
    | succ kq10 =>
    rw [escape_Quote_l1.eq_2] at h
    generalize hrec9 : escape_Quote_l1 k p0 p1 kq10 = rec9 at h
    refine AW.seq ?_
    refine AW.reg ?_
    refine AO.calm rfl 13 rfl (by decide) (eBool (decide (x8 < (p0.size : Int)))) (Calm.int rfl rfl rfl rfl) ?_
    refine AO.nil (ρ' := [(0, (eStr p0)), (1, (eU8 p1)), (5, (eStr x7)), (11, (eI64 (p0.size : Int))), (12, (eI64 x8)), (13, (eBool (decide (x8 < (p0.size : Int)))))]) (H' := []) ⟨rfl, rfl, rfl, rfl, rfl, rfl, trivial⟩ (Sub.refl _) ?_
    refine AW.seq ?_
    by_cases hc11 : x8 < (p0.size : Int)
    · have h := (if_pos hc11).symm.trans h
      refine AW.condP (x8 < (p0.size : Int)) rfl hc11 ?_
      refine AW.skip (ρ' := [(0, (eStr p0)), (1, (eU8 p1)), (5, (eStr x7)), (11, (eI64 (p0.size : Int))), (12, (eI64 x8))]) (H' := []) ⟨rfl, rfl, rfl, rfl, rfl, trivial⟩ (Sub.refl _) ?_
      refine AW.seq ?_
      refine AW.block ?_
      refine AW.seq ?_
      refine AW.reg ?_
      refine AO.calm rfl 14 rfl (by decide) (eI64 x8) (Calm.move rfl rfl) ?_
      refine AO.calm rfl 6 rfl (by decide) (eI64 x8) (Calm.assign rfl rfl) ?_
      refine AO.nil (ρ' := [(0, (eStr p0)), (1, (eU8 p1)), (5, (eStr x7)), (6, (eI64 x8)), (11, (eI64 (p0.size : Int))), (12, (eI64 x8))]) (H' := []) ⟨rfl, rfl, rfl, rfl, rfl, rfl, trivial⟩ (Sub.refl _) ?_
      obtain ⟨hg12, h⟩ := of_guard h
      obtain ⟨t14, et14, h⟩ := of_bind h
      obtain ⟨hg15, h⟩ := of_guard h
      refine AW.regAny (by rfl) (by decide +kernel) [(eStr x7), (eStr p0), (eI64 x8), (eU8 (byteAt p0 x8)), (eU8 p1), (.fz 1 (([p1] : List Int).map eU8)), (eStr (strOfNums ([p1] : List Int))), (eStr t14), (eStr (x7 ++ t14)), (eStr (x7 ++ t14))] [(0, (eStr p0)), (1, (eU8 p1)), (5, (eStr x7)), (6, (eI64 x8)), (11, (eI64 (p0.size : Int))), (12, (eI64 x8))] ⟨rfl, rfl, rfl, rfl, rfl, rfl, trivial⟩ rfl ?_ [(0, (eStr p0)), (1, (eU8 p1)), (5, (eStr (x7 ++ t14))), (11, (eI64 (p0.size : Int))), (12, (eI64 x8))] [] ⟨rfl, rfl, rfl, rfl, rfl, trivial⟩ (Sub.refl _) ?_
      · refine ⟨?_, ?_, ?_, ?_, ?_, ?_, ?_, ?_, ?_, ?_, trivial⟩
        · refine AO.weak (ρ' := [(5, (eStr x7))]) (H' := []) ⟨rfl, trivial⟩ (Sub.refl _) ?_
          refine AO.calm rfl 15 rfl (by decide) (eStr x7) (Calm.move rfl rfl) ?_
          exact AO.nilE (ρ' := [(15, (eStr x7))]) (H' := []) ⟨⟨_, rfl, rfl⟩, Sub.refl _⟩ ⟨rfl, trivial⟩ (Sub.refl _)
        · refine AO.weak (ρ' := [(0, (eStr p0))]) (H' := []) ⟨rfl, trivial⟩ (Sub.refl _) ?_
          refine AO.calm rfl 16 rfl (by decide) (eStr p0) (Calm.move rfl rfl) ?_
          exact AO.nilE (ρ' := [(16, (eStr p0))]) (H' := []) ⟨⟨_, rfl, rfl⟩, Sub.refl _⟩ ⟨rfl, trivial⟩ (Sub.refl _)
        · refine AO.weak (ρ' := [(6, (eI64 x8))]) (H' := []) ⟨rfl, trivial⟩ (Sub.refl _) ?_
          refine AO.calm rfl 17 rfl (by decide) (eI64 x8) (Calm.move rfl rfl) ?_
          exact AO.nilE (ρ' := [(17, (eI64 x8))]) (H' := []) ⟨⟨_, rfl, rfl⟩, Sub.refl _⟩ ⟨rfl, trivial⟩ (Sub.refl _)
        · refine AO.weak (ρ' := [(16, (eStr p0)), (17, (eI64 x8))]) (H' := []) ⟨rfl, rfl, trivial⟩ (Sub.refl _) ?_
          refine AO.calm rfl 18 rfl (by decide) (eU8 (byteAt p0 x8)) (Calm.idxS rfl rfl rfl hg12 Try.underlying9) ?_
          exact AO.nilE (ρ' := [(18, (eU8 (byteAt p0 x8)))]) (H' := []) ⟨⟨_, rfl, rfl⟩, Sub.refl _⟩ ⟨rfl, trivial⟩ (Sub.refl _)
        · refine AO.weak (ρ' := [(1, (eU8 p1))]) (H' := []) ⟨rfl, trivial⟩ (Sub.refl _) ?_
          refine AO.calm rfl 19 rfl (by decide) (eU8 p1) (Calm.move rfl rfl) ?_
          exact AO.nilE (ρ' := [(19, (eU8 p1))]) (H' := []) ⟨⟨_, rfl, rfl⟩, Sub.refl _⟩ ⟨rfl, trivial⟩ (Sub.refl _)
        · refine AO.weak (ρ' := [(19, (eU8 p1))]) (H' := []) ⟨rfl, trivial⟩ (Sub.refl _) ?_
          refine AO.lit (Z := (eU8 (0 : Int))) (xs := (([p1] : List Int).map eU8)) (qs := [(0, (eU8 p1))]) rfl 20 rfl (by decide) rfl ⟨rfl, rfl, rfl, trivial⟩ Try.underlying84 sz5 zr5 lay5 rfl (by decide) (litOK (z := 1) [(eU8 p1)] rfl ⟨⟨rfl, rfl⟩, trivial⟩) rfl fun n13 => ?_
          refine AO.freezeS 0 [(20, (.fz 1 (([p1] : List Int).map eU8)))] rfl ⟨fz_all rfl, trivial⟩ ?_
          exact AO.nilE (ρ' := [(20, (.fz 1 (([p1] : List Int).map eU8)))]) (H' := []) ⟨⟨_, rfl, rfl⟩, Sub.refl _⟩ ⟨rfl, trivial⟩ (Sub.refl _)
        · refine AO.weak (ρ' := [(20, (.fz 1 (([p1] : List Int).map eU8)))]) (H' := []) ⟨rfl, trivial⟩ (Sub.refl _) ?_
          refine AO.calm rfl 21 rfl (by decide) (eStr (strOfNums ([p1] : List Int))) (Calm.strL rfl rfl Try.underlying84 Try.underlying9 Try.underlying5) ?_
          exact AO.nilE (ρ' := [(21, (eStr (strOfNums ([p1] : List Int))))]) (H' := []) ⟨⟨_, rfl, rfl⟩, Sub.refl _⟩ ⟨rfl, trivial⟩ (Sub.refl _)
        · refine AO.weak (ρ' := [(18, (eU8 (byteAt p0 x8))), (21, (eStr (strOfNums ([p1] : List Int))))]) (H' := []) ⟨rfl, rfl, trivial⟩ (Sub.refl _) ?_
          refine AO.callS [(eU8 (byteAt p0 x8)), (eStr (strOfNums ([p1] : List Int)))] (eStr t14) 22 rfl (by decide) ok81 rfl rfl rfl ⟨rfl, rfl, rfl, rfl, trivial⟩ (escape_Byte_spec et14) ?_
          exact AO.nilE (ρ' := [(22, (eStr t14))]) (H' := []) ⟨⟨_, rfl, rfl⟩, Sub.refl _⟩ ⟨rfl, trivial⟩ (Sub.refl _)
        · refine AO.weak (ρ' := [(15, (eStr x7)), (22, (eStr t14))]) (H' := []) ⟨rfl, rfl, trivial⟩ (Sub.refl _) ?_
          refine AO.calm rfl 23 rfl (by decide) (eStr (x7 ++ t14)) (Calm.cat rfl rfl rfl hg15) ?_
          exact AO.nilE (ρ' := [(23, (eStr (x7 ++ t14)))]) (H' := []) ⟨⟨_, rfl, rfl⟩, Sub.refl _⟩ ⟨rfl, trivial⟩ (Sub.refl _)
        · refine AO.weak (ρ' := [(23, (eStr (x7 ++ t14)))]) (H' := []) ⟨rfl, trivial⟩ (Sub.refl _) ?_
          refine AO.calm rfl 5 rfl (by decide) (eStr (x7 ++ t14)) (Calm.assign rfl rfl) ?_
          exact AO.nilE (ρ' := [(5, (eStr (x7 ++ t14)))]) (H' := []) ⟨⟨_, rfl, rfl⟩, Sub.refl _⟩ ⟨rfl, trivial⟩ (Sub.refl _)
      · refine AW.reg ?_
        refine AO.calm rfl 24 rfl (by decide) (eI64 (w64 (x8 + (1 : Int)))) (Calm.int rfl rfl rfl rfl) ?_
        refine AO.calm rfl 12 rfl (by decide) (eI64 (w64 (x8 + (1 : Int)))) (Calm.move rfl rfl) ?_
        refine AO.nil (ρ' := [(0, (eStr p0)), (1, (eU8 p1)), (5, (eStr (x7 ++ t14))), (11, (eI64 (p0.size : Int))), (12, (eI64 (w64 (x8 + (1 : Int)))))]) (H' := []) ⟨rfl, rfl, rfl, rfl, rfl, trivial⟩ (Sub.refl _) ?_
        exact ⟨kq10, Nat.lt_succ_self _, (x7 ++ t14), (w64 (x8 + (1 : Int))), rfl, rfl, by rw [hrec9]; exact h⟩
    · have h := (if_neg hc11).symm.trans h
      refine AW.condN (x8 < (p0.size : Int)) rfl hc11 ?_
      refine AW.exit (ρ' := [(1, (eU8 p1)), (5, (eStr x7))]) (H' := []) ⟨rfl, rfl, trivial⟩ (Sub.refl _) ?_
      exact ⟨x7, rfl, rfl, h⟩
  · rintro _ _ ⟨x4, rfl, rfl, h⟩
    rw [escape_Quote_c0.eq_1] at h
    refine AW.seq ?_
    refine AW.reg ?_
    refine AO.calm rfl 25 rfl (by decide) (eStr x4) (Calm.move rfl rfl) ?_
    refine AO.calm rfl 26 rfl (by decide) (eU8 p1) (Calm.move rfl rfl) ?_
    refine AO.lit (Z := (eU8 (0 : Int))) (xs := (([p1] : List Int).map eU8)) (qs := [(0, (eU8 p1))]) rfl 27 rfl (by decide) rfl ⟨rfl, rfl, rfl, trivial⟩ Try.underlying84 sz5 zr5 lay5 rfl (by decide) (litOK (z := 1) [(eU8 p1)] rfl ⟨⟨rfl, rfl⟩, trivial⟩) rfl fun n5 => ?_
    refine AO.calm rfl 28 rfl (by decide) (eStr (strOfNums ([p1] : List Int))) (Calm.strO 0 rfl rfl rfl Try.underlying84 Try.underlying9 Try.underlying5) ?_
    obtain ⟨hg6, h⟩ := of_guard h
    refine AO.calm rfl 29 rfl (by decide) (eStr (x4 ++ (strOfNums ([p1] : List Int)))) (Calm.cat rfl rfl rfl hg6) ?_
    refine AO.calm rfl 4 rfl (by decide) (eStr (x4 ++ (strOfNums ([p1] : List Int)))) (Calm.assign rfl rfl) ?_
    refine AO.nil (ρ' := [(4, (eStr (x4 ++ (strOfNums ([p1] : List Int)))))]) (H' := []) ⟨rfl, trivial⟩ (Sub.nil _) ?_
    refine AW.ret (ρ' := [(4, (eStr (x4 ++ (strOfNums ([p1] : List Int)))))]) (H' := []) ⟨rfl, trivial⟩ (Sub.refl _) ?_
    have hr := Option.some.inj h
    subst hr
    exact ⟨[(eStr (x4 ++ (strOfNums ([p1] : List Int))))], ⟨rfl, rfl, trivial⟩, rfl⟩
end Go.Avl.T2
/- bosket/bosketref03.in; printed by avmain.py. -/
namespace Go.Avl.T2
open Go Go.RowKit Go.Proofs Go.Avl
set_option linter.unusedVariables false
set_option maxRecDepth 100000
set_option maxHeartbeats 4000000
attribute [local irreducible] AW AO AQ Spec SpecH Calm

def bosketref03_in_c0 (k : Nat) : Option Bool :=
  some (false)
def bosketref03_in_l1 (k : Nat) (p0 : ByteArray) (p1 : Int) : Nat → Int → Option Bool
  | 0, _ => none
  | j + 1, x3 =>
    if x3 < (p0.size : Int) then if 0 ≤ x3 ∧ x3 < (p0.size : Int) then if (byteAt p0 x3) = p1 then some (true)
    else (bosketref03_in_l1 k p0 p1 j) (w64 (x3 + (1 : Int)))
    else none
    else bosketref03_in_c0 k
def bosketref03_in (k : Nat) (p0 : ByteArray) (p1 : Int) : Option Bool :=
  bosketref03_in_l1 k p0 p1 k (0 : Int)
theorem bosketref03_in_spec {k : Nat} {p0 : ByteArray} {p1 : Int} {r : Bool} (h : bosketref03_in k p0 p1 = some r) : Spec Try.prog 97 [(eStr p0), (eU8 p1)] (eBool r) := by
  rw [bosketref03_in.eq_1] at h
  refine Spec.intro (res := [.tmp 4]) Try.func97 rfl rfl rfl (Nat.le_of_ble_eq_true rfl) ?_
  refine AW.seq ?_
  refine AW.reg ?_
  refine AO.calm rfl 4 rfl (by decide) (eBool false) (Calm.assign rfl rfl) ?_
  refine AO.nil (ρ' := [(0, (eStr p0)), (1, (eU8 p1))]) (H' := []) ⟨rfl, rfl, trivial⟩ (Sub.refl _) ?_
  refine AW.seq_mid (fun ρ H => ρ = [] ∧ H = [] ∧ bosketref03_in_c0 k = some r) ?_ ?_
  · refine AW.seq ?_
    refine AW.reg ?_
    refine AO.calm rfl 5 rfl (by decide) (eI64 (0 : Int)) (Calm.assign rfl rfl) ?_
    refine AO.nil (ρ' := [(0, (eStr p0)), (1, (eU8 p1)), (5, (eI64 (0 : Int)))]) (H' := []) ⟨rfl, rfl, rfl, trivial⟩ (Sub.refl _) ?_
    refine AW.block ?_
    refine AW.weak (ρ' := [(0, (eStr p0)), (1, (eU8 p1)), (5, (eI64 (0 : Int)))]) (H' := []) ⟨rfl, rfl, rfl, trivial⟩ (Sub.refl _) ?_
    refine AW.loop (fun kq ρ H => ∃ (x3 : Int), ρ = [(0, (eStr p0)), (1, (eU8 p1)), (5, (eI64 x3))] ∧ H = [] ∧ bosketref03_in_l1 k p0 p1 kq x3 = some r) k ⟨(0 : Int), rfl, rfl, h⟩ ?_
    rintro kq5 _ _ ⟨x3, rfl, rfl, h⟩
    cases kq5 with
    | zero => rw [bosketref03_in_l1.eq_1] at h; cases h
    | succ kq5 =>
    rw [bosketref03_in_l1.eq_2] at h
    generalize hrec4 : bosketref03_in_l1 k p0 p1 kq5 = rec4 at h
    refine AW.seq ?_
    refine AW.seq ?_
    refine AW.reg ?_
    refine AO.calm rfl 6 rfl (by decide) (eI64 x3) (Calm.move rfl rfl) ?_
    refine AO.calm rfl 7 rfl (by decide) (eStr p0) (Calm.move rfl rfl) ?_
    refine AO.calm rfl 8 rfl (by decide) (eI64 (p0.size : Int)) (Calm.lenStr rfl rfl Try.underlying9) ?_
    refine AO.calm rfl 9 rfl (by decide) (eBool (decide (x3 < (p0.size : Int)))) (Calm.int rfl rfl rfl rfl) ?_
    refine AO.nil (ρ' := [(0, (eStr p0)), (1, (eU8 p1)), (5, (eI64 x3)), (9, (eBool (decide (x3 < (p0.size : Int)))))]) (H' := []) ⟨rfl, rfl, rfl, rfl, trivial⟩ (Sub.refl _) ?_
    by_cases hc6 : x3 < (p0.size : Int)
    · have h := (if_pos hc6).symm.trans h
      refine AW.condP (x3 < (p0.size : Int)) rfl hc6 ?_
      refine AW.skip (ρ' := [(0, (eStr p0)), (1, (eU8 p1)), (5, (eI64 x3))]) (H' := []) ⟨rfl, rfl, rfl, trivial⟩ (Sub.refl _) ?_
      refine AW.seq ?_
      refine AW.block ?_
      refine AW.seq ?_
      refine AW.reg ?_
      refine AO.calm rfl 12 rfl (by decide) (eStr p0) (Calm.move rfl rfl) ?_
      refine AO.calm rfl 13 rfl (by decide) (eI64 x3) (Calm.move rfl rfl) ?_
      obtain ⟨hg7, h⟩ := of_guard h
      refine AO.calm rfl 14 rfl (by decide) (eU8 (byteAt p0 x3)) (Calm.idxS rfl rfl rfl hg7 Try.underlying9) ?_
      refine AO.calm rfl 15 rfl (by decide) (eU8 p1) (Calm.move rfl rfl) ?_
      refine AO.calm rfl 16 rfl (by decide) (eBool (decide ((byteAt p0 x3) = p1))) (Calm.int rfl rfl rfl rfl) ?_
      refine AO.nil (ρ' := [(0, (eStr p0)), (1, (eU8 p1)), (5, (eI64 x3)), (16, (eBool (decide ((byteAt p0 x3) = p1))))]) (H' := []) ⟨rfl, rfl, rfl, rfl, trivial⟩ (Sub.refl _) ?_
      by_cases hc8 : (byteAt p0 x3) = p1
      · have h := (if_pos hc8).symm.trans h
        refine AW.condP ((byteAt p0 x3) = p1) rfl hc8 ?_
        refine AW.seq ?_
        refine AW.reg ?_
        refine AO.calm rfl 4 rfl (by decide) (eBool true) (Calm.assign rfl rfl) ?_
        refine AO.nil (ρ' := [(4, (eBool true))]) (H' := []) ⟨rfl, trivial⟩ (Sub.refl _) ?_
        refine AW.ret (ρ' := [(4, (eBool true))]) (H' := []) ⟨rfl, trivial⟩ (Sub.refl _) ?_
        have hr := Option.some.inj h
        subst hr
        exact ⟨[(eBool true)], ⟨rfl, rfl, trivial⟩, rfl⟩
      · have h := (if_neg hc8).symm.trans h
        refine AW.condN ((byteAt p0 x3) = p1) rfl hc8 ?_
        refine AW.skip (ρ' := [(0, (eStr p0)), (1, (eU8 p1)), (5, (eI64 x3))]) (H' := []) ⟨rfl, rfl, rfl, trivial⟩ (Sub.refl _) ?_
        refine AW.reg ?_
        refine AO.calm rfl 10 rfl (by decide) (eI64 x3) (Calm.move rfl rfl) ?_
        refine AO.calm rfl 11 rfl (by decide) (eI64 (w64 (x3 + (1 : Int)))) (Calm.int rfl rfl rfl rfl) ?_
        refine AO.calm rfl 5 rfl (by decide) (eI64 (w64 (x3 + (1 : Int)))) (Calm.assign rfl rfl) ?_
        refine AO.nil (ρ' := [(0, (eStr p0)), (1, (eU8 p1)), (5, (eI64 (w64 (x3 + (1 : Int)))))]) (H' := []) ⟨rfl, rfl, rfl, trivial⟩ (Sub.refl _) ?_
        exact ⟨kq5, Nat.lt_succ_self _, (w64 (x3 + (1 : Int))), rfl, rfl, by rw [hrec4]; exact h⟩
    · have h := (if_neg hc6).symm.trans h
      refine AW.condN (x3 < (p0.size : Int)) rfl hc6 ?_
      refine AW.exit (ρ' := []) (H' := []) trivial (Sub.refl _) ?_
      exact ⟨rfl, rfl, h⟩
  · rintro _ _ ⟨rfl, rfl, h⟩
    rw [bosketref03_in_c0.eq_1] at h
    refine AW.seq ?_
    refine AW.reg ?_
    refine AO.calm rfl 4 rfl (by decide) (eBool false) (Calm.assign rfl rfl) ?_
    refine AO.nil (ρ' := [(4, (eBool false))]) (H' := []) ⟨rfl, trivial⟩ (Sub.refl _) ?_
    refine AW.ret (ρ' := [(4, (eBool false))]) (H' := []) ⟨rfl, trivial⟩ (Sub.refl _) ?_
    have hr := Option.some.inj h
    subst hr
    exact ⟨[(eBool false)], ⟨rfl, rfl, trivial⟩, rfl⟩
end Go.Avl.T2
/- bosket/bosketref03.Byte; printed by avmain.py. -/
namespace Go.Avl.T2
open Go Go.RowKit Go.Proofs Go.Avl
set_option linter.unusedVariables false
set_option maxRecDepth 100000
set_option maxHeartbeats 4000000
attribute [local irreducible] AW AO AQ Spec SpecH Calm

def bosketref03_Byte (k : Nat) (p0 : Int) (p1 : ByteArray) : Option ByteArray :=
  (some (ByteArray.mk #[48, 49, 50, 51, 52, 53, 54, 55, 56, 57, 97, 98, 99, 100, 101, 102])).bind fun x3 =>
  if p0 = (10 : Int) then some ((ByteArray.mk #[92, 110]))
  else if p0 = (9 : Int) then some ((ByteArray.mk #[92, 116]))
  else if p0 = (13 : Int) then some ((ByteArray.mk #[92, 114]))
  else Option.bind (α := Bool) (if p0 < (32 : Int) then some (true)
  else some (decide ((126 : Int) < p0))) fun b7 =>
  if b7 = true then if 0 ≤ (IntKind.u8.wrap (p0.tdiv (16 : Int))) ∧ (IntKind.u8.wrap (p0.tdiv (16 : Int))) ≤ (w8 ((IntKind.u8.wrap (p0.tdiv (16 : Int))) + (1 : Int))) ∧ (w8 ((IntKind.u8.wrap (p0.tdiv (16 : Int))) + (1 : Int))) ≤ (x3.size : Int) then if (ByteArray.mk #[92, 120]).size + (x3.extract (IntKind.u8.wrap (p0.tdiv (16 : Int))).toNat (w8 ((IntKind.u8.wrap (p0.tdiv (16 : Int))) + (1 : Int))).toNat).size ≤ 9223372036854775807 then if 0 ≤ (p0.tmod (16 : Int)) ∧ (p0.tmod (16 : Int)) ≤ (w8 ((p0.tmod (16 : Int)) + (1 : Int))) ∧ (w8 ((p0.tmod (16 : Int)) + (1 : Int))) ≤ (x3.size : Int) then if ((ByteArray.mk #[92, 120]) ++ (x3.extract (IntKind.u8.wrap (p0.tdiv (16 : Int))).toNat (w8 ((IntKind.u8.wrap (p0.tdiv (16 : Int))) + (1 : Int))).toNat)).size + (x3.extract (p0.tmod (16 : Int)).toNat (w8 ((p0.tmod (16 : Int)) + (1 : Int))).toNat).size ≤ 9223372036854775807 then some ((((ByteArray.mk #[92, 120]) ++ (x3.extract (IntKind.u8.wrap (p0.tdiv (16 : Int))).toNat (w8 ((IntKind.u8.wrap (p0.tdiv (16 : Int))) + (1 : Int))).toNat)) ++ (x3.extract (p0.tmod (16 : Int)).toNat (w8 ((p0.tmod (16 : Int)) + (1 : Int))).toNat)))
  else none
  else none
  else none
  else none
  else Option.bind (α := Bool) (if p0 = (92 : Int) then some (true)
  else (bosketref03_in k p1 p0).bind fun t18 =>
  some (t18)) fun b15 =>
  if b15 = true then if (ByteArray.mk #[92]).size + (strOfNums ([p0] : List Int)).size ≤ 9223372036854775807 then some (((ByteArray.mk #[92]) ++ (strOfNums ([p0] : List Int))))
  else none
  else some ((strOfNums ([p0] : List Int)))
theorem bosketref03_Byte_spec {k : Nat} {p0 : Int} {p1 : ByteArray} {r : ByteArray} (h : bosketref03_Byte k p0 p1 = some r) : Spec Try.prog 82 [(eU8 p0), (eStr p1)] (eStr r) := by
  rw [bosketref03_Byte.eq_1] at h
  refine Spec.intro (res := [.tmp 4]) Try.func82 rfl rfl rfl (Nat.le_of_ble_eq_true rfl) ?_
  refine AW.seq ?_
  refine AW.reg ?_
  refine AO.calm rfl 4 rfl (by decide) (eStr (ByteArray.mk #[])) (Calm.assign rfl rfl) ?_
  refine AO.nil (ρ' := [(0, (eU8 p0)), (1, (eStr p1))]) (H' := []) ⟨rfl, rfl, trivial⟩ (Sub.refl _) ?_
  refine AW.seq ?_
  refine AW.reg ?_
  obtain ⟨x3, ex3, h⟩ := of_bind h
  refine AO.calm rfl 5 rfl (by decide) (eStr x3) (Calm.assign rfl (congrArg (fun x => some (eStr x)) (Option.some.inj ex3))) ?_
  refine AO.nil (ρ' := [(0, (eU8 p0)), (1, (eStr p1)), (5, (eStr x3))]) (H' := []) ⟨rfl, rfl, rfl, trivial⟩ (Sub.refl _) ?_
  refine AW.seq ?_
  refine AW.block ?_
  refine AW.seq ?_
  refine AW.reg ?_
  refine AO.calm rfl 7 rfl (by decide) (eU8 p0) (Calm.move rfl rfl) ?_
  refine AO.calm rfl 8 rfl (by decide) (eBool (decide (p0 = (10 : Int)))) (Calm.int rfl rfl rfl rfl) ?_
  refine AO.calm rfl 6 rfl (by decide) (eBool (decide (p0 = (10 : Int)))) (Calm.assign rfl rfl) ?_
  refine AO.nil (ρ' := [(0, (eU8 p0)), (1, (eStr p1)), (5, (eStr x3)), (6, (eBool (decide (p0 = (10 : Int)))))]) (H' := []) ⟨rfl, rfl, rfl, rfl, trivial⟩ (Sub.refl _) ?_
  by_cases hc4 : p0 = (10 : Int)
  · have h := (if_pos hc4).symm.trans h
    refine AW.condP (p0 = (10 : Int)) rfl hc4 ?_
    refine AW.seq ?_
    refine AW.reg ?_
    refine AO.calm rfl 4 rfl (by decide) (eStr (ByteArray.mk #[92, 110])) (Calm.assign rfl rfl) ?_
    refine AO.nil (ρ' := [(4, (eStr (ByteArray.mk #[92, 110])))]) (H' := []) ⟨rfl, trivial⟩ (Sub.refl _) ?_
    refine AW.ret (ρ' := [(4, (eStr (ByteArray.mk #[92, 110])))]) (H' := []) ⟨rfl, trivial⟩ (Sub.refl _) ?_
    have hr := Option.some.inj h
    subst hr
    exact ⟨[(eStr (ByteArray.mk #[92, 110]))], ⟨rfl, rfl, trivial⟩, rfl⟩
  · have h := (if_neg hc4).symm.trans h
    refine AW.condN (p0 = (10 : Int)) rfl hc4 ?_
    refine AW.seq ?_
    refine AW.reg ?_
    refine AO.calm rfl 10 rfl (by decide) (eU8 p0) (Calm.move rfl rfl) ?_
    refine AO.calm rfl 11 rfl (by decide) (eBool (decide (p0 = (9 : Int)))) (Calm.int rfl rfl rfl rfl) ?_
    refine AO.calm rfl 9 rfl (by decide) (eBool (decide (p0 = (9 : Int)))) (Calm.assign rfl rfl) ?_
    refine AO.nil (ρ' := [(0, (eU8 p0)), (1, (eStr p1)), (5, (eStr x3)), (9, (eBool (decide (p0 = (9 : Int)))))]) (H' := []) ⟨rfl, rfl, rfl, rfl, trivial⟩ (Sub.refl _) ?_
    by_cases hc5 : p0 = (9 : Int)
    · have h := (if_pos hc5).symm.trans h
      refine AW.condP (p0 = (9 : Int)) rfl hc5 ?_
      refine AW.seq ?_
      refine AW.reg ?_
      refine AO.calm rfl 4 rfl (by decide) (eStr (ByteArray.mk #[92, 116])) (Calm.assign rfl rfl) ?_
      refine AO.nil (ρ' := [(4, (eStr (ByteArray.mk #[92, 116])))]) (H' := []) ⟨rfl, trivial⟩ (Sub.refl _) ?_
      refine AW.ret (ρ' := [(4, (eStr (ByteArray.mk #[92, 116])))]) (H' := []) ⟨rfl, trivial⟩ (Sub.refl _) ?_
      have hr := Option.some.inj h
      subst hr
      exact ⟨[(eStr (ByteArray.mk #[92, 116]))], ⟨rfl, rfl, trivial⟩, rfl⟩
    · have h := (if_neg hc5).symm.trans h
      refine AW.condN (p0 = (9 : Int)) rfl hc5 ?_
      refine AW.seq ?_
      refine AW.reg ?_
      refine AO.calm rfl 13 rfl (by decide) (eU8 p0) (Calm.move rfl rfl) ?_
      refine AO.calm rfl 14 rfl (by decide) (eBool (decide (p0 = (13 : Int)))) (Calm.int rfl rfl rfl rfl) ?_
      refine AO.calm rfl 12 rfl (by decide) (eBool (decide (p0 = (13 : Int)))) (Calm.assign rfl rfl) ?_
      refine AO.nil (ρ' := [(0, (eU8 p0)), (1, (eStr p1)), (5, (eStr x3)), (12, (eBool (decide (p0 = (13 : Int)))))]) (H' := []) ⟨rfl, rfl, rfl, rfl, trivial⟩ (Sub.refl _) ?_
      by_cases hc6 : p0 = (13 : Int)
      · have h := (if_pos hc6).symm.trans h
        refine AW.condP (p0 = (13 : Int)) rfl hc6 ?_
        refine AW.seq ?_
        refine AW.reg ?_
        refine AO.calm rfl 4 rfl (by decide) (eStr (ByteArray.mk #[92, 114])) (Calm.assign rfl rfl) ?_
        refine AO.nil (ρ' := [(4, (eStr (ByteArray.mk #[92, 114])))]) (H' := []) ⟨rfl, trivial⟩ (Sub.refl _) ?_
        refine AW.ret (ρ' := [(4, (eStr (ByteArray.mk #[92, 114])))]) (H' := []) ⟨rfl, trivial⟩ (Sub.refl _) ?_
        have hr := Option.some.inj h
        subst hr
        exact ⟨[(eStr (ByteArray.mk #[92, 114]))], ⟨rfl, rfl, trivial⟩, rfl⟩
      · have h := (if_neg hc6).symm.trans h
        refine AW.condN (p0 = (13 : Int)) rfl hc6 ?_
        refine AW.seq ?_
        obtain ⟨b7, hq8, h⟩ := of_bind h
        refine AW.regM [(0, (eU8 p0)), (1, (eStr p1)), (5, (eStr x3)), (15, (eBool b7))] [] ?_ ?_
        · refine AO.calm rfl 16 rfl (by decide) (eU8 p0) (Calm.move rfl rfl) ?_
          refine AO.calm rfl 17 rfl (by decide) (eBool (decide (p0 < (32 : Int)))) (Calm.int rfl rfl rfl rfl) ?_
          refine AO.calm rfl 18 rfl (by decide) (eBool (decide (p0 < (32 : Int)))) (Calm.move rfl rfl) ?_
          by_cases hc9 : p0 < (32 : Int)
          · have hq8 := (if_pos hc9).symm.trans hq8
            refine AO.skipG 2 true 18 rfl rfl (congrArg (fun b => some (AV.fl (Value.bool b))) (decide_eq_true hc9)) 19 rfl (by decide) ?_
            refine AO.skipG 2 true 18 rfl rfl (congrArg (fun b => some (AV.fl (Value.bool b))) (decide_eq_true hc9)) 20 rfl (by decide) ?_
            refine AO.calm rfl 21 rfl (by decide) (eBool true) (Calm.pickT rfl (congrArg (fun b => some (AV.fl (Value.bool b))) (decide_eq_true hc9)) rfl) ?_
            refine AO.calm rfl 15 rfl (by decide) (eBool true) (Calm.assign rfl rfl) ?_
            cases hq8
            refine AO.nilE ⟨rfl, rfl⟩ ?_ ?_
            · exact ⟨rfl, rfl, rfl, rfl, trivial⟩
            · exact (Sub.refl _)
          · have hq8 := (if_neg hc9).symm.trans hq8
            refine AO.calmG 2 false 18 rfl rfl (congrArg (fun b => some (AV.fl (Value.bool b))) (decide_eq_false hc9)) 19 rfl (by decide) (eU8 p0) (Calm.move rfl rfl) ?_
            refine AO.calmG 2 false 18 rfl rfl (congrArg (fun b => some (AV.fl (Value.bool b))) (decide_eq_false hc9)) 20 rfl (by decide) (eBool (decide ((126 : Int) < p0))) (Calm.int rfl rfl rfl rfl) ?_
            refine AO.calm rfl 21 rfl (by decide) (eBool (decide ((126 : Int) < p0))) (Calm.pickF rfl (congrArg (fun b => some (AV.fl (Value.bool b))) (decide_eq_false hc9)) rfl) ?_
            refine AO.calm rfl 15 rfl (by decide) (eBool (decide ((126 : Int) < p0))) (Calm.assign rfl rfl) ?_
            cases hq8
            refine AO.nilE ⟨rfl, rfl⟩ ?_ ?_
            · exact ⟨rfl, rfl, rfl, rfl, trivial⟩
            · exact (Sub.refl _)
        · by_cases hc10 : b7 = true
          · have h := (if_pos hc10).symm.trans h
            refine AW.condT' b7 rfl hc10 ?_
            refine AW.seq ?_
            refine AW.regQ (by rfl) (by decide +kernel) ?_
            refine AQ.calm rfl 22 rfl (by decide) (eStr x3) (Calm.move rfl rfl) ?_
            refine AQ.calm rfl 23 rfl (by decide) (eU8 p0) (Calm.move rfl rfl) ?_
            refine AQ.calm rfl 24 rfl (by decide) (eU8 (IntKind.u8.wrap (p0.tdiv (16 : Int)))) (Calm.quo rfl rfl rfl (by decide)) ?_
            refine AQ.calm rfl 25 rfl (by decide) (eU8 p0) (Calm.move rfl rfl) ?_
            refine AQ.calm rfl 26 rfl (by decide) (eU8 (IntKind.u8.wrap (p0.tdiv (16 : Int)))) (Calm.quo rfl rfl rfl (by decide)) ?_
            refine AQ.calm rfl 27 rfl (by decide) (eU8 (w8 ((IntKind.u8.wrap (p0.tdiv (16 : Int))) + (1 : Int)))) (Calm.int rfl rfl rfl rfl) ?_
            obtain ⟨hg11, h⟩ := of_guard h
            refine AQ.calm rfl 28 rfl (by decide) (eStr (x3.extract (IntKind.u8.wrap (p0.tdiv (16 : Int))).toNat (w8 ((IntKind.u8.wrap (p0.tdiv (16 : Int))) + (1 : Int))).toNat)) (Calm.sliceS rfl rfl rfl rfl hg11 Try.underlying9) ?_
            obtain ⟨hg12, h⟩ := of_guard h
            refine AQ.calm rfl 29 rfl (by decide) (eStr ((ByteArray.mk #[92, 120]) ++ (x3.extract (IntKind.u8.wrap (p0.tdiv (16 : Int))).toNat (w8 ((IntKind.u8.wrap (p0.tdiv (16 : Int))) + (1 : Int))).toNat))) (Calm.cat rfl rfl rfl hg12) ?_
            refine AQ.calm rfl 30 rfl (by decide) (eStr x3) (Calm.move rfl rfl) ?_
            refine AQ.calm rfl 31 rfl (by decide) (eU8 p0) (Calm.move rfl rfl) ?_
            refine AQ.calm rfl 32 rfl (by decide) (eU8 (p0.tmod (16 : Int))) (Calm.rem rfl rfl rfl (by decide)) ?_
            refine AQ.calm rfl 33 rfl (by decide) (eU8 p0) (Calm.move rfl rfl) ?_
            refine AQ.calm rfl 34 rfl (by decide) (eU8 (p0.tmod (16 : Int))) (Calm.rem rfl rfl rfl (by decide)) ?_
            refine AQ.calm rfl 35 rfl (by decide) (eU8 (w8 ((p0.tmod (16 : Int)) + (1 : Int)))) (Calm.int rfl rfl rfl rfl) ?_
            obtain ⟨hg13, h⟩ := of_guard h
            refine AQ.calm rfl 36 rfl (by decide) (eStr (x3.extract (p0.tmod (16 : Int)).toNat (w8 ((p0.tmod (16 : Int)) + (1 : Int))).toNat)) (Calm.sliceS rfl rfl rfl rfl hg13 Try.underlying9) ?_
            obtain ⟨hg14, h⟩ := of_guard h
            refine AQ.calm rfl 37 rfl (by decide) (eStr (((ByteArray.mk #[92, 120]) ++ (x3.extract (IntKind.u8.wrap (p0.tdiv (16 : Int))).toNat (w8 ((IntKind.u8.wrap (p0.tdiv (16 : Int))) + (1 : Int))).toNat)) ++ (x3.extract (p0.tmod (16 : Int)).toNat (w8 ((p0.tmod (16 : Int)) + (1 : Int))).toNat))) (Calm.cat rfl rfl rfl hg14) ?_
            refine AQ.calm rfl 4 rfl (by decide) (eStr (((ByteArray.mk #[92, 120]) ++ (x3.extract (IntKind.u8.wrap (p0.tdiv (16 : Int))).toNat (w8 ((IntKind.u8.wrap (p0.tdiv (16 : Int))) + (1 : Int))).toNat)) ++ (x3.extract (p0.tmod (16 : Int)).toNat (w8 ((p0.tmod (16 : Int)) + (1 : Int))).toNat))) (Calm.assign rfl rfl) ?_
            refine AQ.nil (ρ' := [(4, (eStr (((ByteArray.mk #[92, 120]) ++ (x3.extract (IntKind.u8.wrap (p0.tdiv (16 : Int))).toNat (w8 ((IntKind.u8.wrap (p0.tdiv (16 : Int))) + (1 : Int))).toNat)) ++ (x3.extract (p0.tmod (16 : Int)).toNat (w8 ((p0.tmod (16 : Int)) + (1 : Int))).toNat))))]) ⟨rfl, trivial⟩ ?_
            refine AW.ret (ρ' := [(4, (eStr (((ByteArray.mk #[92, 120]) ++ (x3.extract (IntKind.u8.wrap (p0.tdiv (16 : Int))).toNat (w8 ((IntKind.u8.wrap (p0.tdiv (16 : Int))) + (1 : Int))).toNat)) ++ (x3.extract (p0.tmod (16 : Int)).toNat (w8 ((p0.tmod (16 : Int)) + (1 : Int))).toNat))))]) (H' := []) ⟨rfl, trivial⟩ (Sub.refl _) ?_
            have hr := Option.some.inj h
            subst hr
            exact ⟨[(eStr (((ByteArray.mk #[92, 120]) ++ (x3.extract (IntKind.u8.wrap (p0.tdiv (16 : Int))).toNat (w8 ((IntKind.u8.wrap (p0.tdiv (16 : Int))) + (1 : Int))).toNat)) ++ (x3.extract (p0.tmod (16 : Int)).toNat (w8 ((p0.tmod (16 : Int)) + (1 : Int))).toNat)))], ⟨rfl, rfl, trivial⟩, rfl⟩
          · have h := (if_neg hc10).symm.trans h
            refine AW.condF' b7 rfl hc10 ?_
            refine AW.seq ?_
            obtain ⟨b15, hq16, h⟩ := of_bind h
            refine AW.regM [(0, (eU8 p0)), (38, (eBool b15))] [] ?_ ?_
            · refine AO.calm rfl 39 rfl (by decide) (eU8 p0) (Calm.move rfl rfl) ?_
              refine AO.calm rfl 40 rfl (by decide) (eBool (decide (p0 = (92 : Int)))) (Calm.int rfl rfl rfl rfl) ?_
              refine AO.calm rfl 41 rfl (by decide) (eBool (decide (p0 = (92 : Int)))) (Calm.move rfl rfl) ?_
              by_cases hc17 : p0 = (92 : Int)
              · have hq16 := (if_pos hc17).symm.trans hq16
                refine AO.skipG 2 true 41 rfl rfl (congrArg (fun b => some (AV.fl (Value.bool b))) (decide_eq_true hc17)) 42 rfl (by decide) ?_
                refine AO.skipG 2 true 41 rfl rfl (congrArg (fun b => some (AV.fl (Value.bool b))) (decide_eq_true hc17)) 43 rfl (by decide) ?_
                refine AO.skipG 2 true 41 rfl rfl (congrArg (fun b => some (AV.fl (Value.bool b))) (decide_eq_true hc17)) 44 rfl (by decide) ?_
                refine AO.calm rfl 45 rfl (by decide) (eBool true) (Calm.pickT rfl (congrArg (fun b => some (AV.fl (Value.bool b))) (decide_eq_true hc17)) rfl) ?_
                refine AO.calm rfl 38 rfl (by decide) (eBool true) (Calm.assign rfl rfl) ?_
                cases hq16
                refine AO.nilE ⟨rfl, rfl⟩ ?_ ?_
                · exact ⟨rfl, rfl, trivial⟩
                · exact (Sub.refl _)
              · have hq16 := (if_neg hc17).symm.trans hq16
                refine AO.calmG 2 false 41 rfl rfl (congrArg (fun b => some (AV.fl (Value.bool b))) (decide_eq_false hc17)) 42 rfl (by decide) (eStr p1) (Calm.move rfl rfl) ?_
                refine AO.calmG 2 false 41 rfl rfl (congrArg (fun b => some (AV.fl (Value.bool b))) (decide_eq_false hc17)) 43 rfl (by decide) (eU8 p0) (Calm.move rfl rfl) ?_
                obtain ⟨t18, et18, hq16⟩ := of_bind hq16
                refine AO.callG 2 false 41 [(eStr p1), (eU8 p0)] (eBool t18) 44 rfl (by decide) ok97 rfl rfl (congrArg (fun b => some (AV.fl (Value.bool b))) (decide_eq_false hc17)) rfl rfl ⟨rfl, rfl, rfl, rfl, trivial⟩ (bosketref03_in_spec et18) ?_
                refine AO.calm rfl 45 rfl (by decide) (eBool t18) (Calm.pickF rfl (congrArg (fun b => some (AV.fl (Value.bool b))) (decide_eq_false hc17)) rfl) ?_
                refine AO.calm rfl 38 rfl (by decide) (eBool t18) (Calm.assign rfl rfl) ?_
                cases hq16
                refine AO.nilE ⟨rfl, rfl⟩ ?_ ?_
                · exact ⟨rfl, rfl, trivial⟩
                · exact (Sub.refl _)
            · by_cases hc19 : b15 = true
              · have h := (if_pos hc19).symm.trans h
                refine AW.condT' b15 rfl hc19 ?_
                refine AW.seq ?_
                refine AW.reg ?_
                refine AO.calm rfl 46 rfl (by decide) (eU8 p0) (Calm.move rfl rfl) ?_
                refine AO.lit (Z := (eU8 (0 : Int))) (xs := (([p0] : List Int).map eU8)) (qs := [(0, (eU8 p0))]) rfl 47 rfl (by decide) rfl ⟨rfl, rfl, rfl, trivial⟩ Try.underlying84 sz5 zr5 lay5 rfl (by decide) (litOK (z := 1) [(eU8 p0)] rfl ⟨⟨rfl, rfl⟩, trivial⟩) rfl fun n20 => ?_
                refine AO.calm rfl 48 rfl (by decide) (eStr (strOfNums ([p0] : List Int))) (Calm.strO 0 rfl rfl rfl Try.underlying84 Try.underlying9 Try.underlying5) ?_
                obtain ⟨hg21, h⟩ := of_guard h
                refine AO.calm rfl 49 rfl (by decide) (eStr ((ByteArray.mk #[92]) ++ (strOfNums ([p0] : List Int)))) (Calm.cat rfl rfl rfl hg21) ?_
                refine AO.calm rfl 4 rfl (by decide) (eStr ((ByteArray.mk #[92]) ++ (strOfNums ([p0] : List Int)))) (Calm.assign rfl rfl) ?_
                refine AO.nil (ρ' := [(4, (eStr ((ByteArray.mk #[92]) ++ (strOfNums ([p0] : List Int)))))]) (H' := []) ⟨rfl, trivial⟩ (Sub.nil _) ?_
                refine AW.ret (ρ' := [(4, (eStr ((ByteArray.mk #[92]) ++ (strOfNums ([p0] : List Int)))))]) (H' := []) ⟨rfl, trivial⟩ (Sub.refl _) ?_
                have hr := Option.some.inj h
                subst hr
                exact ⟨[(eStr ((ByteArray.mk #[92]) ++ (strOfNums ([p0] : List Int))))], ⟨rfl, rfl, trivial⟩, rfl⟩
              · have h := (if_neg hc19).symm.trans h
                refine AW.condF' b15 rfl hc19 ?_
                refine AW.skip (ρ' := [(0, (eU8 p0))]) (H' := []) ⟨rfl, trivial⟩ (Sub.refl _) ?_
                refine AW.seq ?_
                refine AW.reg ?_
                refine AO.calm rfl 50 rfl (by decide) (eU8 p0) (Calm.move rfl rfl) ?_
                refine AO.lit (Z := (eU8 (0 : Int))) (xs := (([p0] : List Int).map eU8)) (qs := [(0, (eU8 p0))]) rfl 51 rfl (by decide) rfl ⟨rfl, rfl, rfl, trivial⟩ Try.underlying84 sz5 zr5 lay5 rfl (by decide) (litOK (z := 1) [(eU8 p0)] rfl ⟨⟨rfl, rfl⟩, trivial⟩) rfl fun n22 => ?_
                refine AO.calm rfl 52 rfl (by decide) (eStr (strOfNums ([p0] : List Int))) (Calm.strO 0 rfl rfl rfl Try.underlying84 Try.underlying9 Try.underlying5) ?_
                refine AO.calm rfl 4 rfl (by decide) (eStr (strOfNums ([p0] : List Int))) (Calm.assign rfl rfl) ?_
                refine AO.nil (ρ' := [(4, (eStr (strOfNums ([p0] : List Int))))]) (H' := []) ⟨rfl, trivial⟩ (Sub.nil _) ?_
                refine AW.ret (ρ' := [(4, (eStr (strOfNums ([p0] : List Int))))]) (H' := []) ⟨rfl, trivial⟩ (Sub.refl _) ?_
                have hr := Option.some.inj h
                subst hr
                exact ⟨[(eStr (strOfNums ([p0] : List Int)))], ⟨rfl, rfl, trivial⟩, rfl⟩
end Go.Avl.T2
