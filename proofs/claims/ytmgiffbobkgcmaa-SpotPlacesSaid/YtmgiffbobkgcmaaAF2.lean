/- Parts: T2f3, T2f94, T2f79, T2f58, T2f16, T2f19. -/
import Derived.Test.YtmgiffbobkgcmaaAF1
/- bosket/bosketlaw13.SpotPlaces; printed by avmain.py. -/
namespace Go.Avl.T2
open Go Go.RowKit Go.Proofs Go.Avl
set_option linter.unusedVariables false
set_option maxRecDepth 100000
set_option maxHeartbeats 4000000
attribute [local irreducible] AW AO AQ Spec SpecH Calm

def bosketlaw13_SpotPlaces_c0 (k : Nat) (p0 : ByteArray) (p2 : S23) (x18 : Int) : Option Bool :=
  (spot_At k p0 p2).bind fun t19 =>
  Option.bind (α := Bool) (if (0 : Int) ≤ x18 then if t19.1 = x18 then if t19.2 = (0 : Int) then some (true)
  else if x18 < (0 : Int) then if t19.1 = (0 : Int) then some (decide (t19.2 = (1 : Int)))
  else some (false)
  else some (false)
  else if x18 < (0 : Int) then if t19.1 = (0 : Int) then some (decide (t19.2 = (1 : Int)))
  else some (false)
  else some (false)
  else if x18 < (0 : Int) then if t19.1 = (0 : Int) then some (decide (t19.2 = (1 : Int)))
  else some (false)
  else some (false)) fun b20 =>
  some (b20)
def bosketlaw13_SpotPlaces_c1 (k : Nat) (rec33 : (Int → Int → Option Bool)) (x32 : Int) (x36 : Int) : Option Bool :=
  rec33 x36 (w64 (x32 + (1 : Int)))
def bosketlaw13_SpotPlaces_l2 (k : Nat) (p0 : ByteArray) (p2 : S23) : Nat → Int → Int → Option Bool
  | 0, _, _ => none
  | j + 1, x31, x32 =>
    if x32 ≤ (p0.size : Int) then (bosketref13_Of k p0 x32).bind fun t37 =>
    Option.bind (α := Bool) (if t37.1 = p2.f0 then some (decide (t37.2 = p2.f1))
    else some (false)) fun b38 =>
    if b38 = true then bosketlaw13_SpotPlaces_c1 k (bosketlaw13_SpotPlaces_l2 k p0 p2 j) x32 x32
    else bosketlaw13_SpotPlaces_c1 k (bosketlaw13_SpotPlaces_l2 k p0 p2 j) x32 x31
    else bosketlaw13_SpotPlaces_c0 k p0 p2 x31
def bosketlaw13_SpotPlaces (k : Nat) (p0 : ByteArray) (p1 : Int) (p2 : S23) : Option Bool :=
  (bosketlaw13_awake k).bind fun t5 =>
  if (!t5) = true then some (false)
  else if (300 : Int) < (p0.size : Int) then some (true)
  else (bosketref13_Of k p0 p1).bind fun t8 =>
  (spot_Of k p0 p1).bind fun t9 =>
  (spot_At k p0 t9).bind fun t11 =>
  Option.bind (α := Bool) (if t9.f0 ≠ t8.1 then some (true)
  else if t9.f1 ≠ t8.2 then some (true)
  else if t11.2 ≠ (0 : Int) then some (true)
  else some (decide (t11.1 ≠ (min (max p1 (0 : Int)) (p0.size : Int))))) fun b12 =>
  if b12 = true then some (false)
  else bosketlaw13_SpotPlaces_l2 k p0 p2 k (-1 : Int) (0 : Int)
theorem bosketlaw13_SpotPlaces_spec {k : Nat} {p0 : ByteArray} {p1 : Int} {p2 : S23} {r : Bool} (h : bosketlaw13_SpotPlaces k p0 p1 p2 = some r) : Spec Try.prog 3 [(eStr p0), (eI64 p1), (e23 p2)] (eBool r) := by
  rw [bosketlaw13_SpotPlaces.eq_1] at h
  refine Spec.intro (res := [.tmp 6]) Try.func3 rfl rfl rfl (Nat.le_of_ble_eq_true rfl) ?_
  refine AW.seq ?_
  refine AW.reg ?_
  refine AO.box rfl 5 rfl (by decide) rfl rfl rfl fun n4 => ?_
  refine AO.calm rfl 6 rfl (by decide) (eBool false) (Calm.assign rfl rfl) ?_
  refine AO.nil (ρ' := [(0, (eStr p0)), (1, (eI64 p1)), (5, (.ptr n4 0))]) (H' := [(n4, .mem (e23 p2))]) ⟨rfl, rfl, rfl, trivial⟩ (Sub.refl _) ?_
  refine AW.seq ?_
  refine AW.seq ?_
  refine AW.reg ?_
  obtain ⟨t5, et5, h⟩ := of_bind h
  refine AO.callS [] (eBool t5) 18 rfl (by decide) ok12 rfl rfl rfl trivial (bosketlaw13_awake_spec et5) ?_
  refine AO.calm rfl 19 rfl (by decide) (eBool (!t5)) (Calm.not rfl rfl) ?_
  refine AO.nil (ρ' := [(0, (eStr p0)), (1, (eI64 p1)), (5, (.ptr n4 0)), (19, (eBool (!t5)))]) (H' := [(n4, .mem (e23 p2))]) ⟨rfl, rfl, rfl, rfl, trivial⟩ (Sub.refl _) ?_
  by_cases hc6 : (!t5) = true
  · have h := (if_pos hc6).symm.trans h
    refine AW.condT' (!t5) rfl hc6 ?_
    refine AW.seq ?_
    refine AW.reg ?_
    refine AO.calm rfl 6 rfl (by decide) (eBool false) (Calm.assign rfl rfl) ?_
    refine AO.nil (ρ' := [(6, (eBool false))]) (H' := []) ⟨rfl, trivial⟩ (Sub.nil _) ?_
    refine AW.ret (ρ' := [(6, (eBool false))]) (H' := []) ⟨rfl, trivial⟩ (Sub.refl _) ?_
    have hr := Option.some.inj h
    subst hr
    exact ⟨[(eBool false)], ⟨rfl, rfl, trivial⟩, rfl⟩
  · have h := (if_neg hc6).symm.trans h
    refine AW.condF' (!t5) rfl hc6 ?_
    refine AW.skip (ρ' := [(0, (eStr p0)), (1, (eI64 p1)), (5, (.ptr n4 0))]) (H' := [(n4, .mem (e23 p2))]) ⟨rfl, rfl, rfl, trivial⟩ (Sub.refl _) ?_
    refine AW.seq ?_
    refine AW.seq ?_
    refine AW.reg ?_
    refine AO.calm rfl 20 rfl (by decide) (eStr p0) (Calm.move rfl rfl) ?_
    refine AO.calm rfl 21 rfl (by decide) (eI64 (p0.size : Int)) (Calm.lenStr rfl rfl Try.underlying9) ?_
    refine AO.calm rfl 22 rfl (by decide) (eBool (decide ((300 : Int) < (p0.size : Int)))) (Calm.int rfl rfl rfl rfl) ?_
    refine AO.nil (ρ' := [(0, (eStr p0)), (1, (eI64 p1)), (5, (.ptr n4 0)), (22, (eBool (decide ((300 : Int) < (p0.size : Int)))))]) (H' := [(n4, .mem (e23 p2))]) ⟨rfl, rfl, rfl, rfl, trivial⟩ (Sub.refl _) ?_
    by_cases hc7 : (300 : Int) < (p0.size : Int)
    · have h := (if_pos hc7).symm.trans h
      refine AW.condP ((300 : Int) < (p0.size : Int)) rfl hc7 ?_
      refine AW.seq ?_
      refine AW.reg ?_
      refine AO.calm rfl 6 rfl (by decide) (eBool true) (Calm.assign rfl rfl) ?_
      refine AO.nil (ρ' := [(6, (eBool true))]) (H' := []) ⟨rfl, trivial⟩ (Sub.nil _) ?_
      refine AW.ret (ρ' := [(6, (eBool true))]) (H' := []) ⟨rfl, trivial⟩ (Sub.refl _) ?_
      have hr := Option.some.inj h
      subst hr
      exact ⟨[(eBool true)], ⟨rfl, rfl, trivial⟩, rfl⟩
    · have h := (if_neg hc7).symm.trans h
      refine AW.condN ((300 : Int) < (p0.size : Int)) rfl hc7 ?_
      refine AW.skip (ρ' := [(0, (eStr p0)), (1, (eI64 p1)), (5, (.ptr n4 0))]) (H' := [(n4, .mem (e23 p2))]) ⟨rfl, rfl, rfl, trivial⟩ (Sub.refl _) ?_
      refine AW.seq ?_
      refine AW.reg ?_
      refine AO.calm rfl 24 rfl (by decide) (eStr p0) (Calm.move rfl rfl) ?_
      refine AO.calm rfl 25 rfl (by decide) (eI64 p1) (Calm.move rfl rfl) ?_
      obtain ⟨t8, et8, h⟩ := of_bind h
      refine AO.callS [(eStr p0), (eI64 p1)] (.tup [(eI64 t8.1), (eI64 t8.2)]) 26 rfl (by decide) ok13 rfl rfl rfl ⟨rfl, rfl, rfl, rfl, trivial⟩ (bosketref13_Of_spec et8) ?_
      refine AO.calm rfl 23 rfl (by decide) (.tup [(eI64 t8.1), (eI64 t8.2)]) (Calm.move rfl rfl) ?_
      refine AO.calm rfl 27 rfl (by decide) (eI64 t8.1) (Calm.extract rfl rfl rfl) ?_
      refine AO.calm rfl 28 rfl (by decide) (eI64 t8.2) (Calm.extract rfl rfl rfl) ?_
      refine AO.calm rfl 7 rfl (by decide) (eI64 t8.1) (Calm.assign rfl rfl) ?_
      refine AO.calm rfl 8 rfl (by decide) (eI64 t8.2) (Calm.assign rfl rfl) ?_
      refine AO.nil (ρ' := [(0, (eStr p0)), (1, (eI64 p1)), (5, (.ptr n4 0)), (7, (eI64 t8.1)), (8, (eI64 t8.2))]) (H' := [(n4, .mem (e23 p2))]) ⟨rfl, rfl, rfl, rfl, rfl, trivial⟩ (Sub.refl _) ?_
      refine AW.seq ?_
      refine AW.reg ?_
      refine AO.calm rfl 29 rfl (by decide) (eStr p0) (Calm.move rfl rfl) ?_
      refine AO.calm rfl 30 rfl (by decide) (eI64 p1) (Calm.move rfl rfl) ?_
      obtain ⟨t9, et9, h⟩ := of_bind h
      refine AO.callS [(eStr p0), (eI64 p1)] (e23 t9) 31 rfl (by decide) ok14 rfl rfl rfl ⟨rfl, rfl, rfl, rfl, trivial⟩ (spot_Of_spec et9) ?_
      refine AO.alloc rfl 9 rfl (by decide) rfl zr23 lay23 fun n10 => ?_
      refine AO.store (X' := (e23 t9)) 0 rfl rfl rfl rfl rfl rfl (Put.cast Put.here rfl) rfl rfl sz23 rfl ?_
      refine AO.nil (ρ' := [(0, (eStr p0)), (1, (eI64 p1)), (5, (.ptr n4 0)), (7, (eI64 t8.1)), (8, (eI64 t8.2)), (9, (.ptr n10 0))]) (H' := [(n4, .mem (e23 p2)), (n10, .mem (e23 t9))]) ⟨rfl, rfl, rfl, rfl, rfl, rfl, trivial⟩ (Sub.cons 1 rfl (Sub.cons 0 rfl (Sub.nil _))) ?_
      refine AW.seq ?_
      refine AW.reg ?_
      refine AO.calm rfl 33 rfl (by decide) (eStr p0) (Calm.move rfl rfl) ?_
      refine AO.calm rfl 34 rfl (by decide) (e23 t9) (Calm.load 1 rfl rfl rfl (At.cast At.here rfl) ag23 sz23) ?_
      obtain ⟨t11, et11, h⟩ := of_bind h
      refine AO.callS [(eStr p0), (e23 t9)] (.tup [(eI64 t11.1), (eI64 t11.2)]) 35 rfl (by decide) ok15 rfl rfl rfl ⟨rfl, rfl, rfl, rfl, trivial⟩ (spot_At_spec et11) ?_
      refine AO.calm rfl 32 rfl (by decide) (.tup [(eI64 t11.1), (eI64 t11.2)]) (Calm.move rfl rfl) ?_
      refine AO.calm rfl 36 rfl (by decide) (eI64 t11.1) (Calm.extract rfl rfl rfl) ?_
      refine AO.calm rfl 37 rfl (by decide) (eI64 t11.2) (Calm.extract rfl rfl rfl) ?_
      refine AO.calm rfl 10 rfl (by decide) (eI64 t11.1) (Calm.assign rfl rfl) ?_
      refine AO.calm rfl 11 rfl (by decide) (eI64 t11.2) (Calm.assign rfl rfl) ?_
      refine AO.nil (ρ' := [(0, (eStr p0)), (1, (eI64 p1)), (5, (.ptr n4 0)), (7, (eI64 t8.1)), (8, (eI64 t8.2)), (9, (.ptr n10 0)), (10, (eI64 t11.1)), (11, (eI64 t11.2))]) (H' := [(n4, .mem (e23 p2)), (n10, .mem (e23 t9))]) ⟨rfl, rfl, rfl, rfl, rfl, rfl, rfl, rfl, trivial⟩ (Sub.refl _) ?_
      refine AW.seq ?_
      refine AW.seq ?_
      obtain ⟨b12, hq13, h⟩ := of_bind h
      refine AW.regM [(0, (eStr p0)), (5, (.ptr n4 0)), (60, (eBool b12))] [(n4, .mem (e23 p2))] ?_ ?_
      · refine AO.calm rfl 38 rfl (by decide) (.ptr n10 0) (Calm.fldPtr rfl rfl Try.underlying23 rfl sz3 _ rfl) ?_
        refine AO.calm rfl 39 rfl (by decide) (eI64 t9.f0) (Calm.load 1 rfl rfl rfl (At.cast (At.fld0 At.here) rfl) ag3 sz3) ?_
        refine AO.calm rfl 40 rfl (by decide) (eI64 t8.1) (Calm.move rfl rfl) ?_
        refine AO.calm rfl 41 rfl (by decide) (eBool (decide (t9.f0 ≠ t8.1))) (Calm.int rfl rfl rfl rfl) ?_
        refine AO.calm rfl 42 rfl (by decide) (eBool (decide (t9.f0 ≠ t8.1))) (Calm.move rfl rfl) ?_
        by_cases hc14 : t9.f0 ≠ t8.1
        · have hq13 := (if_pos hc14).symm.trans hq13
          refine AO.skipG 4 true 42 rfl rfl (congrArg (fun b => some (AV.fl (Value.bool b))) (decide_eq_true hc14)) 43 rfl (by decide) ?_
          refine AO.skipG 4 true 42 rfl rfl (congrArg (fun b => some (AV.fl (Value.bool b))) (decide_eq_true hc14)) 44 rfl (by decide) ?_
          refine AO.skipG 4 true 42 rfl rfl (congrArg (fun b => some (AV.fl (Value.bool b))) (decide_eq_true hc14)) 45 rfl (by decide) ?_
          refine AO.skipG 4 true 42 rfl rfl (congrArg (fun b => some (AV.fl (Value.bool b))) (decide_eq_true hc14)) 46 rfl (by decide) ?_
          refine AO.calm rfl 47 rfl (by decide) (eBool true) (Calm.pickT rfl (congrArg (fun b => some (AV.fl (Value.bool b))) (decide_eq_true hc14)) rfl) ?_
          refine AO.calm rfl 48 rfl (by decide) (eBool true) (Calm.move rfl rfl) ?_
          refine AO.skipG 10 true 48 rfl rfl rfl 49 rfl (by decide) ?_
          refine AO.skipG 10 true 48 rfl rfl rfl 50 rfl (by decide) ?_
          refine AO.calm rfl 51 rfl (by decide) (eBool true) (Calm.pickT rfl rfl rfl) ?_
          refine AO.calm rfl 52 rfl (by decide) (eBool true) (Calm.move rfl rfl) ?_
          refine AO.skipG 14 true 52 rfl rfl rfl 53 rfl (by decide) ?_
          refine AO.skipG 14 true 52 rfl rfl rfl 54 rfl (by decide) ?_
          refine AO.skipG 14 true 52 rfl rfl rfl 55 rfl (by decide) ?_
          refine AO.skipG 14 true 52 rfl rfl rfl 56 rfl (by decide) ?_
          refine AO.skipG 14 true 52 rfl rfl rfl 57 rfl (by decide) ?_
          refine AO.skipG 14 true 52 rfl rfl rfl 58 rfl (by decide) ?_
          refine AO.skipG 14 true 52 rfl rfl rfl 59 rfl (by decide) ?_
          refine AO.calm rfl 60 rfl (by decide) (eBool true) (Calm.pickT rfl rfl rfl) ?_
          cases hq13
          refine AO.nilE ⟨rfl, rfl⟩ ?_ ?_
          · exact ⟨rfl, rfl, rfl, trivial⟩
          · exact (Sub.cons 0 rfl (Sub.nil _))
        · have hq13 := (if_neg hc14).symm.trans hq13
          refine AO.calmG 4 false 42 rfl rfl (congrArg (fun b => some (AV.fl (Value.bool b))) (decide_eq_false hc14)) 43 rfl (by decide) (.ptr n10 1) (Calm.fldPtr rfl rfl Try.underlying23 rfl sz3 _ rfl) ?_
          refine AO.calmG 4 false 42 rfl rfl (congrArg (fun b => some (AV.fl (Value.bool b))) (decide_eq_false hc14)) 44 rfl (by decide) (eI64 t9.f1) (Calm.load 1 rfl rfl rfl (At.cast (At.fldS (At.fld0 At.here)) rfl) ag3 sz3) ?_
          refine AO.calmG 4 false 42 rfl rfl (congrArg (fun b => some (AV.fl (Value.bool b))) (decide_eq_false hc14)) 45 rfl (by decide) (eI64 t8.2) (Calm.move rfl rfl) ?_
          refine AO.calmG 4 false 42 rfl rfl (congrArg (fun b => some (AV.fl (Value.bool b))) (decide_eq_false hc14)) 46 rfl (by decide) (eBool (decide (t9.f1 ≠ t8.2))) (Calm.int rfl rfl rfl rfl) ?_
          refine AO.calm rfl 47 rfl (by decide) (eBool (decide (t9.f1 ≠ t8.2))) (Calm.pickF rfl (congrArg (fun b => some (AV.fl (Value.bool b))) (decide_eq_false hc14)) rfl) ?_
          refine AO.calm rfl 48 rfl (by decide) (eBool (decide (t9.f1 ≠ t8.2))) (Calm.move rfl rfl) ?_
          by_cases hc15 : t9.f1 ≠ t8.2
          · have hq13 := (if_pos hc15).symm.trans hq13
            refine AO.skipG 10 true 48 rfl rfl (congrArg (fun b => some (AV.fl (Value.bool b))) (decide_eq_true hc15)) 49 rfl (by decide) ?_
            refine AO.skipG 10 true 48 rfl rfl (congrArg (fun b => some (AV.fl (Value.bool b))) (decide_eq_true hc15)) 50 rfl (by decide) ?_
            refine AO.calm rfl 51 rfl (by decide) (eBool true) (Calm.pickT rfl (congrArg (fun b => some (AV.fl (Value.bool b))) (decide_eq_true hc15)) rfl) ?_
            refine AO.calm rfl 52 rfl (by decide) (eBool true) (Calm.move rfl rfl) ?_
            refine AO.skipG 14 true 52 rfl rfl rfl 53 rfl (by decide) ?_
            refine AO.skipG 14 true 52 rfl rfl rfl 54 rfl (by decide) ?_
            refine AO.skipG 14 true 52 rfl rfl rfl 55 rfl (by decide) ?_
            refine AO.skipG 14 true 52 rfl rfl rfl 56 rfl (by decide) ?_
            refine AO.skipG 14 true 52 rfl rfl rfl 57 rfl (by decide) ?_
            refine AO.skipG 14 true 52 rfl rfl rfl 58 rfl (by decide) ?_
            refine AO.skipG 14 true 52 rfl rfl rfl 59 rfl (by decide) ?_
            refine AO.calm rfl 60 rfl (by decide) (eBool true) (Calm.pickT rfl rfl rfl) ?_
            cases hq13
            refine AO.nilE ⟨rfl, rfl⟩ ?_ ?_
            · exact ⟨rfl, rfl, rfl, trivial⟩
            · exact (Sub.cons 0 rfl (Sub.nil _))
          · have hq13 := (if_neg hc15).symm.trans hq13
            refine AO.calmG 10 false 48 rfl rfl (congrArg (fun b => some (AV.fl (Value.bool b))) (decide_eq_false hc15)) 49 rfl (by decide) (eI64 t11.2) (Calm.move rfl rfl) ?_
            refine AO.calmG 10 false 48 rfl rfl (congrArg (fun b => some (AV.fl (Value.bool b))) (decide_eq_false hc15)) 50 rfl (by decide) (eBool (decide (t11.2 ≠ (0 : Int)))) (Calm.int rfl rfl rfl rfl) ?_
            refine AO.calm rfl 51 rfl (by decide) (eBool (decide (t11.2 ≠ (0 : Int)))) (Calm.pickF rfl (congrArg (fun b => some (AV.fl (Value.bool b))) (decide_eq_false hc15)) rfl) ?_
            refine AO.calm rfl 52 rfl (by decide) (eBool (decide (t11.2 ≠ (0 : Int)))) (Calm.move rfl rfl) ?_
            by_cases hc16 : t11.2 ≠ (0 : Int)
            · have hq13 := (if_pos hc16).symm.trans hq13
              refine AO.skipG 14 true 52 rfl rfl (congrArg (fun b => some (AV.fl (Value.bool b))) (decide_eq_true hc16)) 53 rfl (by decide) ?_
              refine AO.skipG 14 true 52 rfl rfl (congrArg (fun b => some (AV.fl (Value.bool b))) (decide_eq_true hc16)) 54 rfl (by decide) ?_
              refine AO.skipG 14 true 52 rfl rfl (congrArg (fun b => some (AV.fl (Value.bool b))) (decide_eq_true hc16)) 55 rfl (by decide) ?_
              refine AO.skipG 14 true 52 rfl rfl (congrArg (fun b => some (AV.fl (Value.bool b))) (decide_eq_true hc16)) 56 rfl (by decide) ?_
              refine AO.skipG 14 true 52 rfl rfl (congrArg (fun b => some (AV.fl (Value.bool b))) (decide_eq_true hc16)) 57 rfl (by decide) ?_
              refine AO.skipG 14 true 52 rfl rfl (congrArg (fun b => some (AV.fl (Value.bool b))) (decide_eq_true hc16)) 58 rfl (by decide) ?_
              refine AO.skipG 14 true 52 rfl rfl (congrArg (fun b => some (AV.fl (Value.bool b))) (decide_eq_true hc16)) 59 rfl (by decide) ?_
              refine AO.calm rfl 60 rfl (by decide) (eBool true) (Calm.pickT rfl (congrArg (fun b => some (AV.fl (Value.bool b))) (decide_eq_true hc16)) rfl) ?_
              cases hq13
              refine AO.nilE ⟨rfl, rfl⟩ ?_ ?_
              · exact ⟨rfl, rfl, rfl, trivial⟩
              · exact (Sub.cons 0 rfl (Sub.nil _))
            · have hq13 := (if_neg hc16).symm.trans hq13
              refine AO.calmG 14 false 52 rfl rfl (congrArg (fun b => some (AV.fl (Value.bool b))) (decide_eq_false hc16)) 53 rfl (by decide) (eI64 t11.1) (Calm.move rfl rfl) ?_
              refine AO.calmG 14 false 52 rfl rfl (congrArg (fun b => some (AV.fl (Value.bool b))) (decide_eq_false hc16)) 54 rfl (by decide) (eI64 p1) (Calm.move rfl rfl) ?_
              refine AO.calmG 14 false 52 rfl rfl (congrArg (fun b => some (AV.fl (Value.bool b))) (decide_eq_false hc16)) 55 rfl (by decide) (eI64 (max p1 (0 : Int))) (Calm.max2 rfl rfl rfl) ?_
              refine AO.calmG 14 false 52 rfl rfl (congrArg (fun b => some (AV.fl (Value.bool b))) (decide_eq_false hc16)) 56 rfl (by decide) (eStr p0) (Calm.move rfl rfl) ?_
              refine AO.calmG 14 false 52 rfl rfl (congrArg (fun b => some (AV.fl (Value.bool b))) (decide_eq_false hc16)) 57 rfl (by decide) (eI64 (p0.size : Int)) (Calm.lenStr rfl rfl Try.underlying9) ?_
              refine AO.calmG 14 false 52 rfl rfl (congrArg (fun b => some (AV.fl (Value.bool b))) (decide_eq_false hc16)) 58 rfl (by decide) (eI64 (min (max p1 (0 : Int)) (p0.size : Int))) (Calm.min2 rfl rfl rfl) ?_
              refine AO.calmG 14 false 52 rfl rfl (congrArg (fun b => some (AV.fl (Value.bool b))) (decide_eq_false hc16)) 59 rfl (by decide) (eBool (decide (t11.1 ≠ (min (max p1 (0 : Int)) (p0.size : Int))))) (Calm.int rfl rfl rfl rfl) ?_
              refine AO.calm rfl 60 rfl (by decide) (eBool (decide (t11.1 ≠ (min (max p1 (0 : Int)) (p0.size : Int))))) (Calm.pickF rfl (congrArg (fun b => some (AV.fl (Value.bool b))) (decide_eq_false hc16)) rfl) ?_
              cases hq13
              refine AO.nilE ⟨rfl, rfl⟩ ?_ ?_
              · exact ⟨rfl, rfl, rfl, trivial⟩
              · exact (Sub.cons 0 rfl (Sub.nil _))
      · by_cases hc17 : b12 = true
        · have h := (if_pos hc17).symm.trans h
          refine AW.condT' b12 rfl hc17 ?_
          refine AW.seq ?_
          refine AW.reg ?_
          refine AO.calm rfl 6 rfl (by decide) (eBool false) (Calm.assign rfl rfl) ?_
          refine AO.nil (ρ' := [(6, (eBool false))]) (H' := []) ⟨rfl, trivial⟩ (Sub.nil _) ?_
          refine AW.ret (ρ' := [(6, (eBool false))]) (H' := []) ⟨rfl, trivial⟩ (Sub.refl _) ?_
          have hr := Option.some.inj h
          subst hr
          exact ⟨[(eBool false)], ⟨rfl, rfl, trivial⟩, rfl⟩
        · have h := (if_neg hc17).symm.trans h
          refine AW.condF' b12 rfl hc17 ?_
          refine AW.skip (ρ' := [(0, (eStr p0)), (5, (.ptr n4 0))]) (H' := [(n4, .mem (e23 p2))]) ⟨rfl, rfl, trivial⟩ (Sub.refl _) ?_
          refine AW.seq ?_
          refine AW.reg ?_
          refine AO.calm rfl 12 rfl (by decide) (eI64 (-1 : Int)) (Calm.assign rfl rfl) ?_
          refine AO.nil (ρ' := [(0, (eStr p0)), (5, (.ptr n4 0)), (12, (eI64 (-1 : Int)))]) (H' := [(n4, .mem (e23 p2))]) ⟨rfl, rfl, rfl, trivial⟩ (Sub.refl _) ?_
          refine AW.seq_mid (fun ρ H => ∃ (x18 : Int), ρ = [(0, (eStr p0)), (5, (.ptr n4 0)), (12, (eI64 x18))] ∧ H = [(n4, .mem (e23 p2))] ∧ bosketlaw13_SpotPlaces_c0 k p0 p2 x18 = some r) ?_ ?_
          · refine AW.seq ?_
            refine AW.reg ?_
            refine AO.calm rfl 13 rfl (by decide) (eI64 (0 : Int)) (Calm.assign rfl rfl) ?_
            refine AO.nil (ρ' := [(0, (eStr p0)), (5, (.ptr n4 0)), (12, (eI64 (-1 : Int))), (13, (eI64 (0 : Int)))]) (H' := [(n4, .mem (e23 p2))]) ⟨rfl, rfl, rfl, rfl, trivial⟩ (Sub.refl _) ?_
            refine AW.block ?_
            refine AW.weak (ρ' := [(0, (eStr p0)), (5, (.ptr n4 0)), (12, (eI64 (-1 : Int))), (13, (eI64 (0 : Int)))]) (H' := [(n4, .mem (e23 p2))]) ⟨rfl, rfl, rfl, rfl, trivial⟩ (Sub.refl _) ?_
            refine AW.loop (fun kq ρ H => ∃ (x31 : Int) (x32 : Int), ρ = [(0, (eStr p0)), (5, (.ptr n4 0)), (12, (eI64 x31)), (13, (eI64 x32))] ∧ H = [(n4, .mem (e23 p2))] ∧ bosketlaw13_SpotPlaces_l2 k p0 p2 kq x31 x32 = some r) k ⟨(-1 : Int), (0 : Int), rfl, rfl, h⟩ ?_
            rintro kq34 _ _ ⟨x31, x32, rfl, rfl, h⟩
            cases kq34 with
            | zero => rw [bosketlaw13_SpotPlaces_l2.eq_1] at h; cases h
            | succ kq34 =>
            rw [bosketlaw13_SpotPlaces_l2.eq_2] at h
            generalize hrec33 : bosketlaw13_SpotPlaces_l2 k p0 p2 kq34 = rec33 at h
            refine AW.seq ?_
            refine AW.seq ?_
            refine AW.reg ?_
            refine AO.calm rfl 61 rfl (by decide) (eI64 x32) (Calm.move rfl rfl) ?_
            refine AO.calm rfl 62 rfl (by decide) (eStr p0) (Calm.move rfl rfl) ?_
            refine AO.calm rfl 63 rfl (by decide) (eI64 (p0.size : Int)) (Calm.lenStr rfl rfl Try.underlying9) ?_
            refine AO.calm rfl 64 rfl (by decide) (eBool (decide (x32 ≤ (p0.size : Int)))) (Calm.int rfl rfl rfl rfl) ?_
            refine AO.nil (ρ' := [(0, (eStr p0)), (5, (.ptr n4 0)), (12, (eI64 x31)), (13, (eI64 x32)), (64, (eBool (decide (x32 ≤ (p0.size : Int)))))]) (H' := [(n4, .mem (e23 p2))]) ⟨rfl, rfl, rfl, rfl, rfl, trivial⟩ (Sub.refl _) ?_
            by_cases hc35 : x32 ≤ (p0.size : Int)
            · have h := (if_pos hc35).symm.trans h
              refine AW.condP (x32 ≤ (p0.size : Int)) rfl hc35 ?_
              refine AW.skip (ρ' := [(0, (eStr p0)), (5, (.ptr n4 0)), (12, (eI64 x31)), (13, (eI64 x32))]) (H' := [(n4, .mem (e23 p2))]) ⟨rfl, rfl, rfl, rfl, trivial⟩ (Sub.refl _) ?_
              refine AW.seq_mid (fun ρ H => ∃ (x36 : Int), ρ = [(0, (eStr p0)), (5, (.ptr n4 0)), (12, (eI64 x36)), (13, (eI64 x32))] ∧ H = [(n4, .mem (e23 p2))] ∧ bosketlaw13_SpotPlaces_c1 k rec33 x32 x36 = some r) ?_ ?_
              · refine AW.block ?_
                refine AW.seq ?_
                refine AW.reg ?_
                refine AO.calm rfl 68 rfl (by decide) (eStr p0) (Calm.move rfl rfl) ?_
                refine AO.calm rfl 69 rfl (by decide) (eI64 x32) (Calm.move rfl rfl) ?_
                obtain ⟨t37, et37, h⟩ := of_bind h
                refine AO.callS [(eStr p0), (eI64 x32)] (.tup [(eI64 t37.1), (eI64 t37.2)]) 70 rfl (by decide) ok13 rfl rfl rfl ⟨rfl, rfl, rfl, rfl, trivial⟩ (bosketref13_Of_spec et37) ?_
                refine AO.calm rfl 67 rfl (by decide) (.tup [(eI64 t37.1), (eI64 t37.2)]) (Calm.move rfl rfl) ?_
                refine AO.calm rfl 71 rfl (by decide) (eI64 t37.1) (Calm.extract rfl rfl rfl) ?_
                refine AO.calm rfl 72 rfl (by decide) (eI64 t37.2) (Calm.extract rfl rfl rfl) ?_
                refine AO.calm rfl 14 rfl (by decide) (eI64 t37.1) (Calm.assign rfl rfl) ?_
                refine AO.calm rfl 15 rfl (by decide) (eI64 t37.2) (Calm.assign rfl rfl) ?_
                refine AO.nil (ρ' := [(0, (eStr p0)), (5, (.ptr n4 0)), (12, (eI64 x31)), (13, (eI64 x32)), (14, (eI64 t37.1)), (15, (eI64 t37.2))]) (H' := [(n4, .mem (e23 p2))]) ⟨rfl, rfl, rfl, rfl, rfl, rfl, trivial⟩ (Sub.refl _) ?_
                refine AW.seq ?_
                obtain ⟨b38, hq39, h⟩ := of_bind h
                refine AW.regM [(0, (eStr p0)), (5, (.ptr n4 0)), (12, (eI64 x31)), (13, (eI64 x32)), (82, (eBool b38))] [(n4, .mem (e23 p2))] ?_ ?_
                · refine AO.calm rfl 73 rfl (by decide) (eI64 t37.1) (Calm.move rfl rfl) ?_
                  refine AO.calm rfl 74 rfl (by decide) (.ptr n4 0) (Calm.fldPtr rfl rfl Try.underlying23 rfl sz3 _ rfl) ?_
                  refine AO.calm rfl 75 rfl (by decide) (eI64 p2.f0) (Calm.load 0 rfl rfl rfl (At.cast (At.fld0 At.here) rfl) ag3 sz3) ?_
                  refine AO.calm rfl 76 rfl (by decide) (eBool (decide (t37.1 = p2.f0))) (Calm.int rfl rfl rfl rfl) ?_
                  refine AO.calm rfl 77 rfl (by decide) (eBool (decide (t37.1 = p2.f0))) (Calm.move rfl rfl) ?_
                  by_cases hc40 : t37.1 = p2.f0
                  · have hq39 := (if_pos hc40).symm.trans hq39
                    refine AO.calmG 4 true 77 rfl rfl (congrArg (fun b => some (AV.fl (Value.bool b))) (decide_eq_true hc40)) 78 rfl (by decide) (eI64 t37.2) (Calm.move rfl rfl) ?_
                    refine AO.calmG 4 true 77 rfl rfl (congrArg (fun b => some (AV.fl (Value.bool b))) (decide_eq_true hc40)) 79 rfl (by decide) (.ptr n4 1) (Calm.fldPtr rfl rfl Try.underlying23 rfl sz3 _ rfl) ?_
                    refine AO.calmG 4 true 77 rfl rfl (congrArg (fun b => some (AV.fl (Value.bool b))) (decide_eq_true hc40)) 80 rfl (by decide) (eI64 p2.f1) (Calm.load 0 rfl rfl rfl (At.cast (At.fldS (At.fld0 At.here)) rfl) ag3 sz3) ?_
                    refine AO.calmG 4 true 77 rfl rfl (congrArg (fun b => some (AV.fl (Value.bool b))) (decide_eq_true hc40)) 81 rfl (by decide) (eBool (decide (t37.2 = p2.f1))) (Calm.int rfl rfl rfl rfl) ?_
                    refine AO.calm rfl 82 rfl (by decide) (eBool (decide (t37.2 = p2.f1))) (Calm.pickT rfl (congrArg (fun b => some (AV.fl (Value.bool b))) (decide_eq_true hc40)) rfl) ?_
                    cases hq39
                    refine AO.nilE ⟨rfl, rfl⟩ ?_ ?_
                    · exact ⟨rfl, rfl, rfl, rfl, rfl, trivial⟩
                    · exact (Sub.refl _)
                  · have hq39 := (if_neg hc40).symm.trans hq39
                    refine AO.skipG 4 false 77 rfl rfl (congrArg (fun b => some (AV.fl (Value.bool b))) (decide_eq_false hc40)) 78 rfl (by decide) ?_
                    refine AO.skipG 4 false 77 rfl rfl (congrArg (fun b => some (AV.fl (Value.bool b))) (decide_eq_false hc40)) 79 rfl (by decide) ?_
                    refine AO.skipG 4 false 77 rfl rfl (congrArg (fun b => some (AV.fl (Value.bool b))) (decide_eq_false hc40)) 80 rfl (by decide) ?_
                    refine AO.skipG 4 false 77 rfl rfl (congrArg (fun b => some (AV.fl (Value.bool b))) (decide_eq_false hc40)) 81 rfl (by decide) ?_
                    refine AO.calm rfl 82 rfl (by decide) (eBool false) (Calm.pickF rfl (congrArg (fun b => some (AV.fl (Value.bool b))) (decide_eq_false hc40)) rfl) ?_
                    cases hq39
                    refine AO.nilE ⟨rfl, rfl⟩ ?_ ?_
                    · exact ⟨rfl, rfl, rfl, rfl, rfl, trivial⟩
                    · exact (Sub.refl _)
                · by_cases hc41 : b38 = true
                  · have h := (if_pos hc41).symm.trans h
                    refine AW.condT' b38 rfl hc41 ?_
                    refine AW.reg ?_
                    refine AO.calm rfl 83 rfl (by decide) (eI64 x32) (Calm.move rfl rfl) ?_
                    refine AO.calm rfl 12 rfl (by decide) (eI64 x32) (Calm.assign rfl rfl) ?_
                    refine AO.nil (ρ' := [(0, (eStr p0)), (5, (.ptr n4 0)), (12, (eI64 x32)), (13, (eI64 x32))]) (H' := [(n4, .mem (e23 p2))]) ⟨rfl, rfl, rfl, rfl, trivial⟩ (Sub.refl _) ?_
                    exact ⟨x32, rfl, rfl, h⟩
                  · have h := (if_neg hc41).symm.trans h
                    refine AW.condF' b38 rfl hc41 ?_
                    refine AW.skip (ρ' := [(0, (eStr p0)), (5, (.ptr n4 0)), (12, (eI64 x31)), (13, (eI64 x32))]) (H' := [(n4, .mem (e23 p2))]) ⟨rfl, rfl, rfl, rfl, trivial⟩ (Sub.refl _) ?_
                    exact ⟨x31, rfl, rfl, h⟩
              · rintro _ _ ⟨x36, rfl, rfl, h⟩
                rw [bosketlaw13_SpotPlaces_c1.eq_1] at h
                refine AW.reg ?_
                refine AO.calm rfl 65 rfl (by decide) (eI64 x32) (Calm.move rfl rfl) ?_
                refine AO.calm rfl 66 rfl (by decide) (eI64 (w64 (x32 + (1 : Int)))) (Calm.int rfl rfl rfl rfl) ?_
                refine AO.calm rfl 13 rfl (by decide) (eI64 (w64 (x32 + (1 : Int)))) (Calm.assign rfl rfl) ?_
                refine AO.nil (ρ' := [(0, (eStr p0)), (5, (.ptr n4 0)), (12, (eI64 x36)), (13, (eI64 (w64 (x32 + (1 : Int)))))]) (H' := [(n4, .mem (e23 p2))]) ⟨rfl, rfl, rfl, rfl, trivial⟩ (Sub.refl _) ?_
                exact ⟨kq34, Nat.lt_succ_self _, x36, (w64 (x32 + (1 : Int))), rfl, rfl, by rw [hrec33]; exact h⟩
            · have h := (if_neg hc35).symm.trans h
              refine AW.condN (x32 ≤ (p0.size : Int)) rfl hc35 ?_
              refine AW.exit (ρ' := [(0, (eStr p0)), (5, (.ptr n4 0)), (12, (eI64 x31))]) (H' := [(n4, .mem (e23 p2))]) ⟨rfl, rfl, rfl, trivial⟩ (Sub.refl _) ?_
              exact ⟨x31, rfl, rfl, h⟩
          · rintro _ _ ⟨x18, rfl, rfl, h⟩
            rw [bosketlaw13_SpotPlaces_c0.eq_1] at h
            refine AW.seq ?_
            refine AW.reg ?_
            refine AO.calm rfl 85 rfl (by decide) (eStr p0) (Calm.move rfl rfl) ?_
            refine AO.calm rfl 86 rfl (by decide) (e23 p2) (Calm.load 0 rfl rfl rfl (At.cast At.here rfl) ag23 sz23) ?_
            obtain ⟨t19, et19, h⟩ := of_bind h
            refine AO.callS [(eStr p0), (e23 p2)] (.tup [(eI64 t19.1), (eI64 t19.2)]) 87 rfl (by decide) ok15 rfl rfl rfl ⟨rfl, rfl, rfl, rfl, trivial⟩ (spot_At_spec et19) ?_
            refine AO.calm rfl 84 rfl (by decide) (.tup [(eI64 t19.1), (eI64 t19.2)]) (Calm.move rfl rfl) ?_
            refine AO.calm rfl 88 rfl (by decide) (eI64 t19.1) (Calm.extract rfl rfl rfl) ?_
            refine AO.calm rfl 89 rfl (by decide) (eI64 t19.2) (Calm.extract rfl rfl rfl) ?_
            refine AO.calm rfl 16 rfl (by decide) (eI64 t19.1) (Calm.assign rfl rfl) ?_
            refine AO.calm rfl 17 rfl (by decide) (eI64 t19.2) (Calm.assign rfl rfl) ?_
            refine AO.nil (ρ' := [(12, (eI64 x18)), (16, (eI64 t19.1)), (17, (eI64 t19.2))]) (H' := []) ⟨rfl, rfl, rfl, trivial⟩ (Sub.nil _) ?_
            refine AW.seq ?_
            obtain ⟨b20, hq21, h⟩ := of_bind h
            refine AW.regM [(6, (eBool b20))] [] ?_ ?_
            · refine AO.calm rfl 90 rfl (by decide) (eI64 x18) (Calm.move rfl rfl) ?_
              refine AO.calm rfl 91 rfl (by decide) (eBool (decide ((0 : Int) ≤ x18))) (Calm.int rfl rfl rfl rfl) ?_
              refine AO.calm rfl 92 rfl (by decide) (eBool (decide ((0 : Int) ≤ x18))) (Calm.move rfl rfl) ?_
              by_cases hc22 : (0 : Int) ≤ x18
              · have hq21 := (if_pos hc22).symm.trans hq21
                refine AO.calmG 2 true 92 rfl rfl (congrArg (fun b => some (AV.fl (Value.bool b))) (decide_eq_true hc22)) 93 rfl (by decide) (eI64 t19.1) (Calm.move rfl rfl) ?_
                refine AO.calmG 2 true 92 rfl rfl (congrArg (fun b => some (AV.fl (Value.bool b))) (decide_eq_true hc22)) 94 rfl (by decide) (eI64 x18) (Calm.move rfl rfl) ?_
                refine AO.calmG 2 true 92 rfl rfl (congrArg (fun b => some (AV.fl (Value.bool b))) (decide_eq_true hc22)) 95 rfl (by decide) (eBool (decide (t19.1 = x18))) (Calm.int rfl rfl rfl rfl) ?_
                refine AO.calm rfl 96 rfl (by decide) (eBool (decide (t19.1 = x18))) (Calm.pickT rfl (congrArg (fun b => some (AV.fl (Value.bool b))) (decide_eq_true hc22)) rfl) ?_
                refine AO.calm rfl 97 rfl (by decide) (eBool (decide (t19.1 = x18))) (Calm.move rfl rfl) ?_
                by_cases hc23 : t19.1 = x18
                · have hq21 := (if_pos hc23).symm.trans hq21
                  refine AO.calmG 7 true 97 rfl rfl (congrArg (fun b => some (AV.fl (Value.bool b))) (decide_eq_true hc23)) 98 rfl (by decide) (eI64 t19.2) (Calm.move rfl rfl) ?_
                  refine AO.calmG 7 true 97 rfl rfl (congrArg (fun b => some (AV.fl (Value.bool b))) (decide_eq_true hc23)) 99 rfl (by decide) (eBool (decide (t19.2 = (0 : Int)))) (Calm.int rfl rfl rfl rfl) ?_
                  refine AO.calm rfl 100 rfl (by decide) (eBool (decide (t19.2 = (0 : Int)))) (Calm.pickT rfl (congrArg (fun b => some (AV.fl (Value.bool b))) (decide_eq_true hc23)) rfl) ?_
                  refine AO.calm rfl 101 rfl (by decide) (eBool (decide (t19.2 = (0 : Int)))) (Calm.move rfl rfl) ?_
                  by_cases hc24 : t19.2 = (0 : Int)
                  · have hq21 := (if_pos hc24).symm.trans hq21
                    refine AO.skipG 11 true 101 rfl rfl (congrArg (fun b => some (AV.fl (Value.bool b))) (decide_eq_true hc24)) 102 rfl (by decide) ?_
                    refine AO.skipG 11 true 101 rfl rfl (congrArg (fun b => some (AV.fl (Value.bool b))) (decide_eq_true hc24)) 103 rfl (by decide) ?_
                    refine AO.skipG 11 true 101 rfl rfl (congrArg (fun b => some (AV.fl (Value.bool b))) (decide_eq_true hc24)) 104 rfl (by decide) ?_
                    refine AO.skipU 14 true 104 rfl rfl rfl 105 rfl (by decide) ?_
                    refine AO.skipU 14 true 104 rfl rfl rfl 106 rfl (by decide) ?_
                    refine AO.skipG 11 true 101 rfl rfl (congrArg (fun b => some (AV.fl (Value.bool b))) (decide_eq_true hc24)) 107 rfl (by decide) ?_
                    refine AO.skipG 11 true 101 rfl rfl (congrArg (fun b => some (AV.fl (Value.bool b))) (decide_eq_true hc24)) 108 rfl (by decide) ?_
                    refine AO.skipU 18 true 108 rfl rfl rfl 109 rfl (by decide) ?_
                    refine AO.skipU 18 true 108 rfl rfl rfl 110 rfl (by decide) ?_
                    refine AO.skipG 11 true 101 rfl rfl (congrArg (fun b => some (AV.fl (Value.bool b))) (decide_eq_true hc24)) 111 rfl (by decide) ?_
                    refine AO.calm rfl 112 rfl (by decide) (eBool true) (Calm.pickT rfl (congrArg (fun b => some (AV.fl (Value.bool b))) (decide_eq_true hc24)) rfl) ?_
                    refine AO.calm rfl 6 rfl (by decide) (eBool true) (Calm.assign rfl rfl) ?_
                    cases hq21
                    refine AO.nilE ⟨rfl, rfl⟩ ?_ ?_
                    · exact ⟨rfl, trivial⟩
                    · exact (Sub.refl _)
                  · have hq21 := (if_neg hc24).symm.trans hq21
                    refine AO.calmG 11 false 101 rfl rfl (congrArg (fun b => some (AV.fl (Value.bool b))) (decide_eq_false hc24)) 102 rfl (by decide) (eI64 x18) (Calm.move rfl rfl) ?_
                    refine AO.calmG 11 false 101 rfl rfl (congrArg (fun b => some (AV.fl (Value.bool b))) (decide_eq_false hc24)) 103 rfl (by decide) (eBool (decide (x18 < (0 : Int)))) (Calm.int rfl rfl rfl rfl) ?_
                    refine AO.calmG 11 false 101 rfl rfl (congrArg (fun b => some (AV.fl (Value.bool b))) (decide_eq_false hc24)) 104 rfl (by decide) (eBool (decide (x18 < (0 : Int)))) (Calm.move rfl rfl) ?_
                    by_cases hc25 : x18 < (0 : Int)
                    · have hq21 := (if_pos hc25).symm.trans hq21
                      refine AO.calmG 14 true 104 rfl rfl (congrArg (fun b => some (AV.fl (Value.bool b))) (decide_eq_true hc25)) 105 rfl (by decide) (eI64 t19.1) (Calm.move rfl rfl) ?_
                      refine AO.calmG 14 true 104 rfl rfl (congrArg (fun b => some (AV.fl (Value.bool b))) (decide_eq_true hc25)) 106 rfl (by decide) (eBool (decide (t19.1 = (0 : Int)))) (Calm.int rfl rfl rfl rfl) ?_
                      refine AO.calmG 11 false 101 rfl rfl (congrArg (fun b => some (AV.fl (Value.bool b))) (decide_eq_false hc24)) 107 rfl (by decide) (eBool (decide (t19.1 = (0 : Int)))) (Calm.pickT rfl (congrArg (fun b => some (AV.fl (Value.bool b))) (decide_eq_true hc25)) rfl) ?_
                      refine AO.calmG 11 false 101 rfl rfl (congrArg (fun b => some (AV.fl (Value.bool b))) (decide_eq_false hc24)) 108 rfl (by decide) (eBool (decide (t19.1 = (0 : Int)))) (Calm.move rfl rfl) ?_
                      by_cases hc26 : t19.1 = (0 : Int)
                      · have hq21 := (if_pos hc26).symm.trans hq21
                        refine AO.calmG 18 true 108 rfl rfl (congrArg (fun b => some (AV.fl (Value.bool b))) (decide_eq_true hc26)) 109 rfl (by decide) (eI64 t19.2) (Calm.move rfl rfl) ?_
                        refine AO.calmG 18 true 108 rfl rfl (congrArg (fun b => some (AV.fl (Value.bool b))) (decide_eq_true hc26)) 110 rfl (by decide) (eBool (decide (t19.2 = (1 : Int)))) (Calm.int rfl rfl rfl rfl) ?_
                        refine AO.calmG 11 false 101 rfl rfl (congrArg (fun b => some (AV.fl (Value.bool b))) (decide_eq_false hc24)) 111 rfl (by decide) (eBool (decide (t19.2 = (1 : Int)))) (Calm.pickT rfl (congrArg (fun b => some (AV.fl (Value.bool b))) (decide_eq_true hc26)) rfl) ?_
                        refine AO.calm rfl 112 rfl (by decide) (eBool (decide (t19.2 = (1 : Int)))) (Calm.pickF rfl (congrArg (fun b => some (AV.fl (Value.bool b))) (decide_eq_false hc24)) rfl) ?_
                        refine AO.calm rfl 6 rfl (by decide) (eBool (decide (t19.2 = (1 : Int)))) (Calm.assign rfl rfl) ?_
                        cases hq21
                        refine AO.nilE ⟨rfl, rfl⟩ ?_ ?_
                        · exact ⟨rfl, trivial⟩
                        · exact (Sub.refl _)
                      · have hq21 := (if_neg hc26).symm.trans hq21
                        refine AO.skipG 18 false 108 rfl rfl (congrArg (fun b => some (AV.fl (Value.bool b))) (decide_eq_false hc26)) 109 rfl (by decide) ?_
                        refine AO.skipG 18 false 108 rfl rfl (congrArg (fun b => some (AV.fl (Value.bool b))) (decide_eq_false hc26)) 110 rfl (by decide) ?_
                        refine AO.calmG 11 false 101 rfl rfl (congrArg (fun b => some (AV.fl (Value.bool b))) (decide_eq_false hc24)) 111 rfl (by decide) (eBool false) (Calm.pickF rfl (congrArg (fun b => some (AV.fl (Value.bool b))) (decide_eq_false hc26)) rfl) ?_
                        refine AO.calm rfl 112 rfl (by decide) (eBool false) (Calm.pickF rfl (congrArg (fun b => some (AV.fl (Value.bool b))) (decide_eq_false hc24)) rfl) ?_
                        refine AO.calm rfl 6 rfl (by decide) (eBool false) (Calm.assign rfl rfl) ?_
                        cases hq21
                        refine AO.nilE ⟨rfl, rfl⟩ ?_ ?_
                        · exact ⟨rfl, trivial⟩
                        · exact (Sub.refl _)
                    · have hq21 := (if_neg hc25).symm.trans hq21
                      refine AO.skipG 14 false 104 rfl rfl (congrArg (fun b => some (AV.fl (Value.bool b))) (decide_eq_false hc25)) 105 rfl (by decide) ?_
                      refine AO.skipG 14 false 104 rfl rfl (congrArg (fun b => some (AV.fl (Value.bool b))) (decide_eq_false hc25)) 106 rfl (by decide) ?_
                      refine AO.calmG 11 false 101 rfl rfl (congrArg (fun b => some (AV.fl (Value.bool b))) (decide_eq_false hc24)) 107 rfl (by decide) (eBool false) (Calm.pickF rfl (congrArg (fun b => some (AV.fl (Value.bool b))) (decide_eq_false hc25)) rfl) ?_
                      refine AO.calmG 11 false 101 rfl rfl (congrArg (fun b => some (AV.fl (Value.bool b))) (decide_eq_false hc24)) 108 rfl (by decide) (eBool false) (Calm.move rfl rfl) ?_
                      refine AO.skipG 18 false 108 rfl rfl rfl 109 rfl (by decide) ?_
                      refine AO.skipG 18 false 108 rfl rfl rfl 110 rfl (by decide) ?_
                      refine AO.calmG 11 false 101 rfl rfl (congrArg (fun b => some (AV.fl (Value.bool b))) (decide_eq_false hc24)) 111 rfl (by decide) (eBool false) (Calm.pickF rfl rfl rfl) ?_
                      refine AO.calm rfl 112 rfl (by decide) (eBool false) (Calm.pickF rfl (congrArg (fun b => some (AV.fl (Value.bool b))) (decide_eq_false hc24)) rfl) ?_
                      refine AO.calm rfl 6 rfl (by decide) (eBool false) (Calm.assign rfl rfl) ?_
                      cases hq21
                      refine AO.nilE ⟨rfl, rfl⟩ ?_ ?_
                      · exact ⟨rfl, trivial⟩
                      · exact (Sub.refl _)
                · have hq21 := (if_neg hc23).symm.trans hq21
                  refine AO.skipG 7 false 97 rfl rfl (congrArg (fun b => some (AV.fl (Value.bool b))) (decide_eq_false hc23)) 98 rfl (by decide) ?_
                  refine AO.skipG 7 false 97 rfl rfl (congrArg (fun b => some (AV.fl (Value.bool b))) (decide_eq_false hc23)) 99 rfl (by decide) ?_
                  refine AO.calm rfl 100 rfl (by decide) (eBool false) (Calm.pickF rfl (congrArg (fun b => some (AV.fl (Value.bool b))) (decide_eq_false hc23)) rfl) ?_
                  refine AO.calm rfl 101 rfl (by decide) (eBool false) (Calm.move rfl rfl) ?_
                  refine AO.calmG 11 false 101 rfl rfl rfl 102 rfl (by decide) (eI64 x18) (Calm.move rfl rfl) ?_
                  refine AO.calmG 11 false 101 rfl rfl rfl 103 rfl (by decide) (eBool (decide (x18 < (0 : Int)))) (Calm.int rfl rfl rfl rfl) ?_
                  refine AO.calmG 11 false 101 rfl rfl rfl 104 rfl (by decide) (eBool (decide (x18 < (0 : Int)))) (Calm.move rfl rfl) ?_
                  by_cases hc27 : x18 < (0 : Int)
                  · have hq21 := (if_pos hc27).symm.trans hq21
                    refine AO.calmG 14 true 104 rfl rfl (congrArg (fun b => some (AV.fl (Value.bool b))) (decide_eq_true hc27)) 105 rfl (by decide) (eI64 t19.1) (Calm.move rfl rfl) ?_
                    refine AO.calmG 14 true 104 rfl rfl (congrArg (fun b => some (AV.fl (Value.bool b))) (decide_eq_true hc27)) 106 rfl (by decide) (eBool (decide (t19.1 = (0 : Int)))) (Calm.int rfl rfl rfl rfl) ?_
                    refine AO.calmG 11 false 101 rfl rfl rfl 107 rfl (by decide) (eBool (decide (t19.1 = (0 : Int)))) (Calm.pickT rfl (congrArg (fun b => some (AV.fl (Value.bool b))) (decide_eq_true hc27)) rfl) ?_
                    refine AO.calmG 11 false 101 rfl rfl rfl 108 rfl (by decide) (eBool (decide (t19.1 = (0 : Int)))) (Calm.move rfl rfl) ?_
                    by_cases hc28 : t19.1 = (0 : Int)
                    · have hq21 := (if_pos hc28).symm.trans hq21
                      refine AO.calmG 18 true 108 rfl rfl (congrArg (fun b => some (AV.fl (Value.bool b))) (decide_eq_true hc28)) 109 rfl (by decide) (eI64 t19.2) (Calm.move rfl rfl) ?_
                      refine AO.calmG 18 true 108 rfl rfl (congrArg (fun b => some (AV.fl (Value.bool b))) (decide_eq_true hc28)) 110 rfl (by decide) (eBool (decide (t19.2 = (1 : Int)))) (Calm.int rfl rfl rfl rfl) ?_
                      refine AO.calmG 11 false 101 rfl rfl rfl 111 rfl (by decide) (eBool (decide (t19.2 = (1 : Int)))) (Calm.pickT rfl (congrArg (fun b => some (AV.fl (Value.bool b))) (decide_eq_true hc28)) rfl) ?_
                      refine AO.calm rfl 112 rfl (by decide) (eBool (decide (t19.2 = (1 : Int)))) (Calm.pickF rfl rfl rfl) ?_
                      refine AO.calm rfl 6 rfl (by decide) (eBool (decide (t19.2 = (1 : Int)))) (Calm.assign rfl rfl) ?_
                      cases hq21
                      refine AO.nilE ⟨rfl, rfl⟩ ?_ ?_
                      · exact ⟨rfl, trivial⟩
                      · exact (Sub.refl _)
                    · have hq21 := (if_neg hc28).symm.trans hq21
                      refine AO.skipG 18 false 108 rfl rfl (congrArg (fun b => some (AV.fl (Value.bool b))) (decide_eq_false hc28)) 109 rfl (by decide) ?_
                      refine AO.skipG 18 false 108 rfl rfl (congrArg (fun b => some (AV.fl (Value.bool b))) (decide_eq_false hc28)) 110 rfl (by decide) ?_
                      refine AO.calmG 11 false 101 rfl rfl rfl 111 rfl (by decide) (eBool false) (Calm.pickF rfl (congrArg (fun b => some (AV.fl (Value.bool b))) (decide_eq_false hc28)) rfl) ?_
                      refine AO.calm rfl 112 rfl (by decide) (eBool false) (Calm.pickF rfl rfl rfl) ?_
                      refine AO.calm rfl 6 rfl (by decide) (eBool false) (Calm.assign rfl rfl) ?_
                      cases hq21
                      refine AO.nilE ⟨rfl, rfl⟩ ?_ ?_
                      · exact ⟨rfl, trivial⟩
                      · exact (Sub.refl _)
                  · have hq21 := (if_neg hc27).symm.trans hq21
                    refine AO.skipG 14 false 104 rfl rfl (congrArg (fun b => some (AV.fl (Value.bool b))) (decide_eq_false hc27)) 105 rfl (by decide) ?_
                    refine AO.skipG 14 false 104 rfl rfl (congrArg (fun b => some (AV.fl (Value.bool b))) (decide_eq_false hc27)) 106 rfl (by decide) ?_
                    refine AO.calmG 11 false 101 rfl rfl rfl 107 rfl (by decide) (eBool false) (Calm.pickF rfl (congrArg (fun b => some (AV.fl (Value.bool b))) (decide_eq_false hc27)) rfl) ?_
                    refine AO.calmG 11 false 101 rfl rfl rfl 108 rfl (by decide) (eBool false) (Calm.move rfl rfl) ?_
                    refine AO.skipG 18 false 108 rfl rfl rfl 109 rfl (by decide) ?_
                    refine AO.skipG 18 false 108 rfl rfl rfl 110 rfl (by decide) ?_
                    refine AO.calmG 11 false 101 rfl rfl rfl 111 rfl (by decide) (eBool false) (Calm.pickF rfl rfl rfl) ?_
                    refine AO.calm rfl 112 rfl (by decide) (eBool false) (Calm.pickF rfl rfl rfl) ?_
                    refine AO.calm rfl 6 rfl (by decide) (eBool false) (Calm.assign rfl rfl) ?_
                    cases hq21
                    refine AO.nilE ⟨rfl, rfl⟩ ?_ ?_
                    · exact ⟨rfl, trivial⟩
                    · exact (Sub.refl _)
              · have hq21 := (if_neg hc22).symm.trans hq21
                refine AO.skipG 2 false 92 rfl rfl (congrArg (fun b => some (AV.fl (Value.bool b))) (decide_eq_false hc22)) 93 rfl (by decide) ?_
                refine AO.skipG 2 false 92 rfl rfl (congrArg (fun b => some (AV.fl (Value.bool b))) (decide_eq_false hc22)) 94 rfl (by decide) ?_
                refine AO.skipG 2 false 92 rfl rfl (congrArg (fun b => some (AV.fl (Value.bool b))) (decide_eq_false hc22)) 95 rfl (by decide) ?_
                refine AO.calm rfl 96 rfl (by decide) (eBool false) (Calm.pickF rfl (congrArg (fun b => some (AV.fl (Value.bool b))) (decide_eq_false hc22)) rfl) ?_
                refine AO.calm rfl 97 rfl (by decide) (eBool false) (Calm.move rfl rfl) ?_
                refine AO.skipG 7 false 97 rfl rfl rfl 98 rfl (by decide) ?_
                refine AO.skipG 7 false 97 rfl rfl rfl 99 rfl (by decide) ?_
                refine AO.calm rfl 100 rfl (by decide) (eBool false) (Calm.pickF rfl rfl rfl) ?_
                refine AO.calm rfl 101 rfl (by decide) (eBool false) (Calm.move rfl rfl) ?_
                refine AO.calmG 11 false 101 rfl rfl rfl 102 rfl (by decide) (eI64 x18) (Calm.move rfl rfl) ?_
                refine AO.calmG 11 false 101 rfl rfl rfl 103 rfl (by decide) (eBool (decide (x18 < (0 : Int)))) (Calm.int rfl rfl rfl rfl) ?_
                refine AO.calmG 11 false 101 rfl rfl rfl 104 rfl (by decide) (eBool (decide (x18 < (0 : Int)))) (Calm.move rfl rfl) ?_
                by_cases hc29 : x18 < (0 : Int)
                · have hq21 := (if_pos hc29).symm.trans hq21
                  refine AO.calmG 14 true 104 rfl rfl (congrArg (fun b => some (AV.fl (Value.bool b))) (decide_eq_true hc29)) 105 rfl (by decide) (eI64 t19.1) (Calm.move rfl rfl) ?_
                  refine AO.calmG 14 true 104 rfl rfl (congrArg (fun b => some (AV.fl (Value.bool b))) (decide_eq_true hc29)) 106 rfl (by decide) (eBool (decide (t19.1 = (0 : Int)))) (Calm.int rfl rfl rfl rfl) ?_
                  refine AO.calmG 11 false 101 rfl rfl rfl 107 rfl (by decide) (eBool (decide (t19.1 = (0 : Int)))) (Calm.pickT rfl (congrArg (fun b => some (AV.fl (Value.bool b))) (decide_eq_true hc29)) rfl) ?_
                  refine AO.calmG 11 false 101 rfl rfl rfl 108 rfl (by decide) (eBool (decide (t19.1 = (0 : Int)))) (Calm.move rfl rfl) ?_
                  by_cases hc30 : t19.1 = (0 : Int)
                  · have hq21 := (if_pos hc30).symm.trans hq21
                    refine AO.calmG 18 true 108 rfl rfl (congrArg (fun b => some (AV.fl (Value.bool b))) (decide_eq_true hc30)) 109 rfl (by decide) (eI64 t19.2) (Calm.move rfl rfl) ?_
                    refine AO.calmG 18 true 108 rfl rfl (congrArg (fun b => some (AV.fl (Value.bool b))) (decide_eq_true hc30)) 110 rfl (by decide) (eBool (decide (t19.2 = (1 : Int)))) (Calm.int rfl rfl rfl rfl) ?_
                    refine AO.calmG 11 false 101 rfl rfl rfl 111 rfl (by decide) (eBool (decide (t19.2 = (1 : Int)))) (Calm.pickT rfl (congrArg (fun b => some (AV.fl (Value.bool b))) (decide_eq_true hc30)) rfl) ?_
                    refine AO.calm rfl 112 rfl (by decide) (eBool (decide (t19.2 = (1 : Int)))) (Calm.pickF rfl rfl rfl) ?_
                    refine AO.calm rfl 6 rfl (by decide) (eBool (decide (t19.2 = (1 : Int)))) (Calm.assign rfl rfl) ?_
                    cases hq21
                    refine AO.nilE ⟨rfl, rfl⟩ ?_ ?_
                    · exact ⟨rfl, trivial⟩
                    · exact (Sub.refl _)
                  · have hq21 := (if_neg hc30).symm.trans hq21
                    refine AO.skipG 18 false 108 rfl rfl (congrArg (fun b => some (AV.fl (Value.bool b))) (decide_eq_false hc30)) 109 rfl (by decide) ?_
                    refine AO.skipG 18 false 108 rfl rfl (congrArg (fun b => some (AV.fl (Value.bool b))) (decide_eq_false hc30)) 110 rfl (by decide) ?_
                    refine AO.calmG 11 false 101 rfl rfl rfl 111 rfl (by decide) (eBool false) (Calm.pickF rfl (congrArg (fun b => some (AV.fl (Value.bool b))) (decide_eq_false hc30)) rfl) ?_
                    refine AO.calm rfl 112 rfl (by decide) (eBool false) (Calm.pickF rfl rfl rfl) ?_
                    refine AO.calm rfl 6 rfl (by decide) (eBool false) (Calm.assign rfl rfl) ?_
                    cases hq21
                    refine AO.nilE ⟨rfl, rfl⟩ ?_ ?_
                    · exact ⟨rfl, trivial⟩
                    · exact (Sub.refl _)
                · have hq21 := (if_neg hc29).symm.trans hq21
                  refine AO.skipG 14 false 104 rfl rfl (congrArg (fun b => some (AV.fl (Value.bool b))) (decide_eq_false hc29)) 105 rfl (by decide) ?_
                  refine AO.skipG 14 false 104 rfl rfl (congrArg (fun b => some (AV.fl (Value.bool b))) (decide_eq_false hc29)) 106 rfl (by decide) ?_
                  refine AO.calmG 11 false 101 rfl rfl rfl 107 rfl (by decide) (eBool false) (Calm.pickF rfl (congrArg (fun b => some (AV.fl (Value.bool b))) (decide_eq_false hc29)) rfl) ?_
                  refine AO.calmG 11 false 101 rfl rfl rfl 108 rfl (by decide) (eBool false) (Calm.move rfl rfl) ?_
                  refine AO.skipG 18 false 108 rfl rfl rfl 109 rfl (by decide) ?_
                  refine AO.skipG 18 false 108 rfl rfl rfl 110 rfl (by decide) ?_
                  refine AO.calmG 11 false 101 rfl rfl rfl 111 rfl (by decide) (eBool false) (Calm.pickF rfl rfl rfl) ?_
                  refine AO.calm rfl 112 rfl (by decide) (eBool false) (Calm.pickF rfl rfl rfl) ?_
                  refine AO.calm rfl 6 rfl (by decide) (eBool false) (Calm.assign rfl rfl) ?_
                  cases hq21
                  refine AO.nilE ⟨rfl, rfl⟩ ?_ ?_
                  · exact ⟨rfl, trivial⟩
                  · exact (Sub.refl _)
            · refine AW.ret (ρ' := [(6, (eBool b20))]) (H' := []) ⟨rfl, trivial⟩ (Sub.refl _) ?_
              have hr := Option.some.inj h
              subst hr
              exact ⟨[(eBool b20)], ⟨rfl, rfl, trivial⟩, rfl⟩
end Go.Avl.T2
/- internal/stringslite.HasPrefix; printed by avmain.py. -/
namespace Go.Avl.T2
open Go Go.RowKit Go.Proofs Go.Avl
set_option linter.unusedVariables false
set_option maxRecDepth 100000
set_option maxHeartbeats 4000000
attribute [local irreducible] AW AO AQ Spec SpecH Calm

def internal_stringslite_HasPrefix (k : Nat) (p0 : ByteArray) (p1 : ByteArray) : Option Bool :=
  Option.bind (α := Bool) (if (p1.size : Int) ≤ (p0.size : Int) then if 0 ≤ (0 : Int) ∧ (0 : Int) ≤ (p1.size : Int) ∧ (p1.size : Int) ≤ (p0.size : Int) then some (decide ((p0.extract (0 : Int).toNat (p1.size : Int).toNat) = p1))
  else none
  else some (false)) fun b3 =>
  some (b3)
theorem internal_stringslite_HasPrefix_spec {k : Nat} {p0 : ByteArray} {p1 : ByteArray} {r : Bool} (h : internal_stringslite_HasPrefix k p0 p1 = some r) : Spec Try.prog 94 [(eStr p0), (eStr p1)] (eBool r) := by
  rw [internal_stringslite_HasPrefix.eq_1] at h
  refine Spec.intro (res := [.tmp 4]) Try.func94 rfl rfl rfl (Nat.le_of_ble_eq_true rfl) ?_
  refine AW.seq ?_
  refine AW.reg ?_
  refine AO.calm rfl 4 rfl (by decide) (eBool false) (Calm.assign rfl rfl) ?_
  refine AO.nil (ρ' := [(0, (eStr p0)), (1, (eStr p1))]) (H' := []) ⟨rfl, rfl, trivial⟩ (Sub.refl _) ?_
  refine AW.seq ?_
  obtain ⟨b3, hq4, h⟩ := of_bind h
  refine AW.regM [(4, (eBool b3))] [] ?_ ?_
  · refine AO.calm rfl 5 rfl (by decide) (eStr p0) (Calm.move rfl rfl) ?_
    refine AO.calm rfl 6 rfl (by decide) (eI64 (p0.size : Int)) (Calm.lenStr rfl rfl Try.underlying9) ?_
    refine AO.calm rfl 7 rfl (by decide) (eStr p1) (Calm.move rfl rfl) ?_
    refine AO.calm rfl 8 rfl (by decide) (eI64 (p1.size : Int)) (Calm.lenStr rfl rfl Try.underlying9) ?_
    refine AO.calm rfl 9 rfl (by decide) (eBool (decide ((p1.size : Int) ≤ (p0.size : Int)))) (Calm.int rfl rfl rfl rfl) ?_
    refine AO.calm rfl 10 rfl (by decide) (eBool (decide ((p1.size : Int) ≤ (p0.size : Int)))) (Calm.move rfl rfl) ?_
    by_cases hc5 : (p1.size : Int) ≤ (p0.size : Int)
    · have hq4 := (if_pos hc5).symm.trans hq4
      refine AO.calmG 5 true 10 rfl rfl (congrArg (fun b => some (AV.fl (Value.bool b))) (decide_eq_true hc5)) 11 rfl (by decide) (eStr p0) (Calm.move rfl rfl) ?_
      refine AO.calmG 5 true 10 rfl rfl (congrArg (fun b => some (AV.fl (Value.bool b))) (decide_eq_true hc5)) 12 rfl (by decide) (eStr p1) (Calm.move rfl rfl) ?_
      refine AO.calmG 5 true 10 rfl rfl (congrArg (fun b => some (AV.fl (Value.bool b))) (decide_eq_true hc5)) 13 rfl (by decide) (eI64 (p1.size : Int)) (Calm.lenStr rfl rfl Try.underlying9) ?_
      obtain ⟨hg6, hq4⟩ := of_guard hq4
      refine AO.calmG 5 true 10 rfl rfl (congrArg (fun b => some (AV.fl (Value.bool b))) (decide_eq_true hc5)) 14 rfl (by decide) (eStr (p0.extract (0 : Int).toNat (p1.size : Int).toNat)) (Calm.sliceS rfl rfl rfl rfl hg6 Try.underlying9) ?_
      refine AO.calmG 5 true 10 rfl rfl (congrArg (fun b => some (AV.fl (Value.bool b))) (decide_eq_true hc5)) 15 rfl (by decide) (eStr p1) (Calm.move rfl rfl) ?_
      refine AO.calmG 5 true 10 rfl rfl (congrArg (fun b => some (AV.fl (Value.bool b))) (decide_eq_true hc5)) 16 rfl (by decide) (eBool (decide ((p0.extract (0 : Int).toNat (p1.size : Int).toNat) = p1))) (Calm.str rfl rfl rfl rfl) ?_
      refine AO.calm rfl 17 rfl (by decide) (eBool (decide ((p0.extract (0 : Int).toNat (p1.size : Int).toNat) = p1))) (Calm.pickT rfl (congrArg (fun b => some (AV.fl (Value.bool b))) (decide_eq_true hc5)) rfl) ?_
      refine AO.calm rfl 4 rfl (by decide) (eBool (decide ((p0.extract (0 : Int).toNat (p1.size : Int).toNat) = p1))) (Calm.assign rfl rfl) ?_
      cases hq4
      refine AO.nilE ⟨rfl, rfl⟩ ?_ ?_
      · exact ⟨rfl, trivial⟩
      · exact (Sub.refl _)
    · have hq4 := (if_neg hc5).symm.trans hq4
      refine AO.skipG 5 false 10 rfl rfl (congrArg (fun b => some (AV.fl (Value.bool b))) (decide_eq_false hc5)) 11 rfl (by decide) ?_
      refine AO.skipG 5 false 10 rfl rfl (congrArg (fun b => some (AV.fl (Value.bool b))) (decide_eq_false hc5)) 12 rfl (by decide) ?_
      refine AO.skipG 5 false 10 rfl rfl (congrArg (fun b => some (AV.fl (Value.bool b))) (decide_eq_false hc5)) 13 rfl (by decide) ?_
      refine AO.skipG 5 false 10 rfl rfl (congrArg (fun b => some (AV.fl (Value.bool b))) (decide_eq_false hc5)) 14 rfl (by decide) ?_
      refine AO.skipG 5 false 10 rfl rfl (congrArg (fun b => some (AV.fl (Value.bool b))) (decide_eq_false hc5)) 15 rfl (by decide) ?_
      refine AO.skipG 5 false 10 rfl rfl (congrArg (fun b => some (AV.fl (Value.bool b))) (decide_eq_false hc5)) 16 rfl (by decide) ?_
      refine AO.calm rfl 17 rfl (by decide) (eBool false) (Calm.pickF rfl (congrArg (fun b => some (AV.fl (Value.bool b))) (decide_eq_false hc5)) rfl) ?_
      refine AO.calm rfl 4 rfl (by decide) (eBool false) (Calm.assign rfl rfl) ?_
      cases hq4
      refine AO.nilE ⟨rfl, rfl⟩ ?_ ?_
      · exact ⟨rfl, trivial⟩
      · exact (Sub.refl _)
  · refine AW.ret (ρ' := [(4, (eBool b3))]) (H' := []) ⟨rfl, trivial⟩ (Sub.refl _) ?_
    have hr := Option.some.inj h
    subst hr
    exact ⟨[(eBool b3)], ⟨rfl, rfl, trivial⟩, rfl⟩
end Go.Avl.T2
/- internal/stringslite.CutPrefix; printed by avmain.py. -/
namespace Go.Avl.T2
open Go Go.RowKit Go.Proofs Go.Avl
set_option linter.unusedVariables false
set_option maxRecDepth 100000
set_option maxHeartbeats 4000000
attribute [local irreducible] AW AO AQ Spec SpecH Calm

def internal_stringslite_CutPrefix (k : Nat) (p0 : ByteArray) (p1 : ByteArray) : Option (ByteArray × Bool) :=
  (internal_stringslite_HasPrefix k p0 p1).bind fun t3 =>
  if (!t3) = true then some (p0, false)
  else if 0 ≤ (p1.size : Int) ∧ (p1.size : Int) ≤ (p0.size : Int) ∧ (p0.size : Int) ≤ (p0.size : Int) then some ((p0.extract (p1.size : Int).toNat (p0.size : Int).toNat), true)
  else none
theorem internal_stringslite_CutPrefix_spec {k : Nat} {p0 : ByteArray} {p1 : ByteArray} {r : (ByteArray × Bool)} (h : internal_stringslite_CutPrefix k p0 p1 = some r) : Spec Try.prog 79 [(eStr p0), (eStr p1)] (.tup [(eStr r.1), (eBool r.2)]) := by
  rw [internal_stringslite_CutPrefix.eq_1] at h
  refine Spec.intro (res := [.tmp 4, .tmp 5]) Try.func79 rfl rfl rfl (Nat.le_of_ble_eq_true rfl) ?_
  refine AW.seq ?_
  refine AW.reg ?_
  refine AO.calm rfl 4 rfl (by decide) (eStr (ByteArray.mk #[])) (Calm.assign rfl rfl) ?_
  refine AO.calm rfl 5 rfl (by decide) (eBool false) (Calm.assign rfl rfl) ?_
  refine AO.nil (ρ' := [(0, (eStr p0)), (1, (eStr p1))]) (H' := []) ⟨rfl, rfl, trivial⟩ (Sub.refl _) ?_
  refine AW.seq ?_
  refine AW.seq ?_
  refine AW.reg ?_
  refine AO.calm rfl 6 rfl (by decide) (eStr p0) (Calm.move rfl rfl) ?_
  refine AO.calm rfl 7 rfl (by decide) (eStr p1) (Calm.move rfl rfl) ?_
  obtain ⟨t3, et3, h⟩ := of_bind h
  refine AO.callS [(eStr p0), (eStr p1)] (eBool t3) 8 rfl (by decide) ok94 rfl rfl rfl ⟨rfl, rfl, rfl, rfl, trivial⟩ (internal_stringslite_HasPrefix_spec et3) ?_
  refine AO.calm rfl 9 rfl (by decide) (eBool (!t3)) (Calm.not rfl rfl) ?_
  refine AO.nil (ρ' := [(0, (eStr p0)), (1, (eStr p1)), (9, (eBool (!t3)))]) (H' := []) ⟨rfl, rfl, rfl, trivial⟩ (Sub.refl _) ?_
  by_cases hc4 : (!t3) = true
  · have h := (if_pos hc4).symm.trans h
    refine AW.condT' (!t3) rfl hc4 ?_
    refine AW.seq ?_
    refine AW.reg ?_
    refine AO.calm rfl 10 rfl (by decide) (eStr p0) (Calm.move rfl rfl) ?_
    refine AO.calm rfl 4 rfl (by decide) (eStr p0) (Calm.assign rfl rfl) ?_
    refine AO.calm rfl 5 rfl (by decide) (eBool false) (Calm.assign rfl rfl) ?_
    refine AO.nil (ρ' := [(4, (eStr p0)), (5, (eBool false))]) (H' := []) ⟨rfl, rfl, trivial⟩ (Sub.refl _) ?_
    refine AW.ret (ρ' := [(4, (eStr p0)), (5, (eBool false))]) (H' := []) ⟨rfl, rfl, trivial⟩ (Sub.refl _) ?_
    have hr := Option.some.inj h
    subst hr
    exact ⟨[(eStr p0), (eBool false)], ⟨rfl, rfl, rfl, rfl, trivial⟩, rfl⟩
  · have h := (if_neg hc4).symm.trans h
    refine AW.condF' (!t3) rfl hc4 ?_
    refine AW.skip (ρ' := [(0, (eStr p0)), (1, (eStr p1))]) (H' := []) ⟨rfl, rfl, trivial⟩ (Sub.refl _) ?_
    refine AW.seq ?_
    refine AW.reg ?_
    refine AO.calm rfl 11 rfl (by decide) (eStr p0) (Calm.move rfl rfl) ?_
    refine AO.calm rfl 12 rfl (by decide) (eStr p1) (Calm.move rfl rfl) ?_
    refine AO.calm rfl 13 rfl (by decide) (eI64 (p1.size : Int)) (Calm.lenStr rfl rfl Try.underlying9) ?_
    obtain ⟨hg5, h⟩ := of_guard h
    refine AO.calm rfl 14 rfl (by decide) (eStr (p0.extract (p1.size : Int).toNat (p0.size : Int).toNat)) (Calm.sliceS rfl rfl rfl rfl hg5 Try.underlying9) ?_
    refine AO.calm rfl 4 rfl (by decide) (eStr (p0.extract (p1.size : Int).toNat (p0.size : Int).toNat)) (Calm.assign rfl rfl) ?_
    refine AO.calm rfl 5 rfl (by decide) (eBool true) (Calm.assign rfl rfl) ?_
    refine AO.nil (ρ' := [(4, (eStr (p0.extract (p1.size : Int).toNat (p0.size : Int).toNat))), (5, (eBool true))]) (H' := []) ⟨rfl, rfl, trivial⟩ (Sub.refl _) ?_
    refine AW.ret (ρ' := [(4, (eStr (p0.extract (p1.size : Int).toNat (p0.size : Int).toNat))), (5, (eBool true))]) (H' := []) ⟨rfl, rfl, trivial⟩ (Sub.refl _) ?_
    have hr := Option.some.inj h
    subst hr
    exact ⟨[(eStr (p0.extract (p1.size : Int).toNat (p0.size : Int).toNat)), (eBool true)], ⟨rfl, rfl, rfl, rfl, trivial⟩, rfl⟩
end Go.Avl.T2
/- strings.CutPrefix; printed by avmain.py. -/
namespace Go.Avl.T2
open Go Go.RowKit Go.Proofs Go.Avl
set_option linter.unusedVariables false
set_option maxRecDepth 100000
set_option maxHeartbeats 4000000
attribute [local irreducible] AW AO AQ Spec SpecH Calm

def strings_CutPrefix (k : Nat) (p0 : ByteArray) (p1 : ByteArray) : Option (ByteArray × Bool) :=
  (internal_stringslite_CutPrefix k p0 p1).bind fun t3 =>
  some (t3.1, t3.2)
theorem strings_CutPrefix_spec {k : Nat} {p0 : ByteArray} {p1 : ByteArray} {r : (ByteArray × Bool)} (h : strings_CutPrefix k p0 p1 = some r) : Spec Try.prog 58 [(eStr p0), (eStr p1)] (.tup [(eStr r.1), (eBool r.2)]) := by
  rw [strings_CutPrefix.eq_1] at h
  refine Spec.intro (res := [.tmp 4, .tmp 5]) Try.func58 rfl rfl rfl (Nat.le_of_ble_eq_true rfl) ?_
  refine AW.seq ?_
  refine AW.reg ?_
  refine AO.calm rfl 4 rfl (by decide) (eStr (ByteArray.mk #[])) (Calm.assign rfl rfl) ?_
  refine AO.calm rfl 5 rfl (by decide) (eBool false) (Calm.assign rfl rfl) ?_
  refine AO.nil (ρ' := [(0, (eStr p0)), (1, (eStr p1))]) (H' := []) ⟨rfl, rfl, trivial⟩ (Sub.refl _) ?_
  refine AW.seq ?_
  refine AW.reg ?_
  refine AO.calm rfl 6 rfl (by decide) (eStr p0) (Calm.move rfl rfl) ?_
  refine AO.calm rfl 7 rfl (by decide) (eStr p1) (Calm.move rfl rfl) ?_
  obtain ⟨t3, et3, h⟩ := of_bind h
  refine AO.callS [(eStr p0), (eStr p1)] (.tup [(eStr t3.1), (eBool t3.2)]) 8 rfl (by decide) ok79 rfl rfl rfl ⟨rfl, rfl, rfl, rfl, trivial⟩ (internal_stringslite_CutPrefix_spec et3) ?_
  refine AO.calm rfl 9 rfl (by decide) (eStr t3.1) (Calm.extract rfl rfl rfl) ?_
  refine AO.calm rfl 10 rfl (by decide) (eBool t3.2) (Calm.extract rfl rfl rfl) ?_
  refine AO.calm rfl 4 rfl (by decide) (eStr t3.1) (Calm.assign rfl rfl) ?_
  refine AO.calm rfl 5 rfl (by decide) (eBool t3.2) (Calm.assign rfl rfl) ?_
  refine AO.nil (ρ' := [(4, (eStr t3.1)), (5, (eBool t3.2))]) (H' := []) ⟨rfl, rfl, trivial⟩ (Sub.refl _) ?_
  refine AW.ret (ρ' := [(4, (eStr t3.1)), (5, (eBool t3.2))]) (H' := []) ⟨rfl, rfl, trivial⟩ (Sub.refl _) ?_
  have hr := Option.some.inj h
  subst hr
  exact ⟨[(eStr t3.1), (eBool t3.2)], ⟨rfl, rfl, rfl, rfl, trivial⟩, rfl⟩
end Go.Avl.T2
/- bosket/spot.Number; printed by avmain.py. -/
namespace Go.Avl.T2
open Go Go.RowKit Go.Proofs Go.Avl
set_option linter.unusedVariables false
set_option maxRecDepth 100000
set_option maxHeartbeats 4000000
attribute [local irreducible] AW AO AQ Spec SpecH Calm

def spot_Number_c0 (k : Nat) (t2 : (ByteArray × Bool)) (x11 : Int) : Option (Int × Bool) :=
  Option.bind (α := Bool) (if t2.2 = true then some (decide (x11 ≤ (9223372036854775808 : Int)))
  else some (false)) fun b12 =>
  if b12 = true then some ((w64 (IntKind.u64.wrap (0 - x11))), true)
  else Option.bind (α := Bool) (if (!t2.2) = true then some (decide (x11 < (9223372036854775808 : Int)))
  else some (false)) fun b16 =>
  if b16 = true then some ((w64 x11), true)
  else some ((0 : Int), false)
def spot_Number_l1 (k : Nat) (t2 : (ByteArray × Bool)) : Nat → Int → Int → Option (Int × Bool)
  | 0, _, _ => none
  | j + 1, x20, x21 =>
    if x21 < (t2.1.size : Int) then Option.bind (α := Bool) (if 0 ≤ x21 ∧ x21 < (t2.1.size : Int) then if (byteAt t2.1 x21) < (48 : Int) then some (true)
    else if 0 ≤ x21 ∧ x21 < (t2.1.size : Int) then some (decide ((57 : Int) < (byteAt t2.1 x21)))
    else none
    else none) fun b25 =>
    if b25 = true then some ((0 : Int), false)
    else if 0 ≤ x21 ∧ x21 < (t2.1.size : Int) then (some (u64 ((u64 (x20 * (10 : Int))) + (u64 (w8 ((byteAt t2.1 x21) - (48 : Int))))))).bind fun x32 =>
    (spot_Number_l1 k t2 j) x32 (w64 (x21 + (1 : Int)))
    else none
    else spot_Number_c0 k t2 x20
def spot_Number (k : Nat) (p0 : ByteArray) : Option (Int × Bool) :=
  (strings_CutPrefix k p0 (ByteArray.mk #[45])).bind fun t2 =>
  Option.bind (α := Bool) (if t2.1 = (ByteArray.mk #[]) then some (true)
  else if (19 : Int) < (t2.1.size : Int) then some (true)
  else if 0 ≤ (0 : Int) ∧ (0 : Int) < (t2.1.size : Int) then if (byteAt t2.1 (0 : Int)) = (48 : Int) then if t2.2 = true then some (true)
  else some (decide ((1 : Int) < (t2.1.size : Int)))
  else some (false)
  else none) fun b3 =>
  if b3 = true then some ((0 : Int), false)
  else spot_Number_l1 k t2 k (0 : Int) (0 : Int)
theorem spot_Number_spec {k : Nat} {p0 : ByteArray} {r : (Int × Bool)} (h : spot_Number k p0 = some r) : Spec Try.prog 16 [(eStr p0)] (.tup [(eI64 r.1), (eBool r.2)]) := by
  rw [spot_Number.eq_1] at h
  refine Spec.intro (res := [.tmp 2, .tmp 3]) Try.func16 rfl rfl rfl (Nat.le_of_ble_eq_true rfl) ?_
  refine AW.seq ?_
  refine AW.reg ?_
  refine AO.calm rfl 2 rfl (by decide) (eI64 (0 : Int)) (Calm.assign rfl rfl) ?_
  refine AO.calm rfl 3 rfl (by decide) (eBool false) (Calm.assign rfl rfl) ?_
  refine AO.nil (ρ' := [(0, (eStr p0))]) (H' := []) ⟨rfl, trivial⟩ (Sub.refl _) ?_
  refine AW.seq ?_
  refine AW.reg ?_
  refine AO.calm rfl 9 rfl (by decide) (eStr p0) (Calm.move rfl rfl) ?_
  obtain ⟨t2, et2, h⟩ := of_bind h
  refine AO.callS [(eStr p0), (eStr (ByteArray.mk #[45]))] (.tup [(eStr t2.1), (eBool t2.2)]) 10 rfl (by decide) ok58 rfl rfl rfl ⟨rfl, rfl, rfl, rfl, trivial⟩ (strings_CutPrefix_spec et2) ?_
  refine AO.calm rfl 8 rfl (by decide) (.tup [(eStr t2.1), (eBool t2.2)]) (Calm.move rfl rfl) ?_
  refine AO.calm rfl 11 rfl (by decide) (eStr t2.1) (Calm.extract rfl rfl rfl) ?_
  refine AO.calm rfl 12 rfl (by decide) (eBool t2.2) (Calm.extract rfl rfl rfl) ?_
  refine AO.calm rfl 4 rfl (by decide) (eStr t2.1) (Calm.assign rfl rfl) ?_
  refine AO.calm rfl 5 rfl (by decide) (eBool t2.2) (Calm.assign rfl rfl) ?_
  refine AO.nil (ρ' := [(4, (eStr t2.1)), (5, (eBool t2.2))]) (H' := []) ⟨rfl, rfl, trivial⟩ (Sub.refl _) ?_
  refine AW.seq ?_
  refine AW.reg ?_
  refine AO.calm rfl 6 rfl (by decide) (eU64 (0 : Int)) (Calm.assign rfl rfl) ?_
  refine AO.nil (ρ' := [(4, (eStr t2.1)), (5, (eBool t2.2)), (6, (eU64 (0 : Int)))]) (H' := []) ⟨rfl, rfl, rfl, trivial⟩ (Sub.refl _) ?_
  refine AW.seq ?_
  refine AW.seq ?_
  obtain ⟨b3, hq4, h⟩ := of_bind h
  refine AW.regM [(4, (eStr t2.1)), (5, (eBool t2.2)), (6, (eU64 (0 : Int))), (32, (eBool b3))] [] ?_ ?_
  · refine AO.calm rfl 13 rfl (by decide) (eStr t2.1) (Calm.move rfl rfl) ?_
    refine AO.calm rfl 14 rfl (by decide) (eBool (decide (t2.1 = (ByteArray.mk #[])))) (Calm.str rfl rfl rfl rfl) ?_
    refine AO.calm rfl 15 rfl (by decide) (eBool (decide (t2.1 = (ByteArray.mk #[])))) (Calm.move rfl rfl) ?_
    by_cases hc5 : t2.1 = (ByteArray.mk #[])
    · have hq4 := (if_pos hc5).symm.trans hq4
      refine AO.skipG 2 true 15 rfl rfl (congrArg (fun b => some (AV.fl (Value.bool b))) (decide_eq_true hc5)) 16 rfl (by decide) ?_
      refine AO.skipG 2 true 15 rfl rfl (congrArg (fun b => some (AV.fl (Value.bool b))) (decide_eq_true hc5)) 17 rfl (by decide) ?_
      refine AO.skipG 2 true 15 rfl rfl (congrArg (fun b => some (AV.fl (Value.bool b))) (decide_eq_true hc5)) 18 rfl (by decide) ?_
      refine AO.calm rfl 19 rfl (by decide) (eBool true) (Calm.pickT rfl (congrArg (fun b => some (AV.fl (Value.bool b))) (decide_eq_true hc5)) rfl) ?_
      refine AO.calm rfl 20 rfl (by decide) (eBool true) (Calm.move rfl rfl) ?_
      refine AO.skipG 7 true 20 rfl rfl rfl 21 rfl (by decide) ?_
      refine AO.skipG 7 true 20 rfl rfl rfl 22 rfl (by decide) ?_
      refine AO.skipG 7 true 20 rfl rfl rfl 23 rfl (by decide) ?_
      refine AO.skipG 7 true 20 rfl rfl rfl 24 rfl (by decide) ?_
      refine AO.skipU 11 true 24 rfl rfl rfl 25 rfl (by decide) ?_
      refine AO.skipU 11 true 24 rfl rfl rfl 26 rfl (by decide) ?_
      refine AO.skipU 13 false 26 rfl rfl rfl 27 rfl (by decide) ?_
      refine AO.skipU 13 false 26 rfl rfl rfl 28 rfl (by decide) ?_
      refine AO.skipU 13 false 26 rfl rfl rfl 29 rfl (by decide) ?_
      refine AO.skipU 11 true 24 rfl rfl rfl 30 rfl (by decide) ?_
      refine AO.skipG 7 true 20 rfl rfl rfl 31 rfl (by decide) ?_
      refine AO.calm rfl 32 rfl (by decide) (eBool true) (Calm.pickT rfl rfl rfl) ?_
      cases hq4
      refine AO.nilE ⟨rfl, rfl⟩ ?_ ?_
      · exact ⟨rfl, rfl, rfl, rfl, trivial⟩
      · exact (Sub.refl _)
    · have hq4 := (if_neg hc5).symm.trans hq4
      refine AO.calmG 2 false 15 rfl rfl (congrArg (fun b => some (AV.fl (Value.bool b))) (decide_eq_false hc5)) 16 rfl (by decide) (eStr t2.1) (Calm.move rfl rfl) ?_
      refine AO.calmG 2 false 15 rfl rfl (congrArg (fun b => some (AV.fl (Value.bool b))) (decide_eq_false hc5)) 17 rfl (by decide) (eI64 (t2.1.size : Int)) (Calm.lenStr rfl rfl Try.underlying9) ?_
      refine AO.calmG 2 false 15 rfl rfl (congrArg (fun b => some (AV.fl (Value.bool b))) (decide_eq_false hc5)) 18 rfl (by decide) (eBool (decide ((19 : Int) < (t2.1.size : Int)))) (Calm.int rfl rfl rfl rfl) ?_
      refine AO.calm rfl 19 rfl (by decide) (eBool (decide ((19 : Int) < (t2.1.size : Int)))) (Calm.pickF rfl (congrArg (fun b => some (AV.fl (Value.bool b))) (decide_eq_false hc5)) rfl) ?_
      refine AO.calm rfl 20 rfl (by decide) (eBool (decide ((19 : Int) < (t2.1.size : Int)))) (Calm.move rfl rfl) ?_
      by_cases hc6 : (19 : Int) < (t2.1.size : Int)
      · have hq4 := (if_pos hc6).symm.trans hq4
        refine AO.skipG 7 true 20 rfl rfl (congrArg (fun b => some (AV.fl (Value.bool b))) (decide_eq_true hc6)) 21 rfl (by decide) ?_
        refine AO.skipG 7 true 20 rfl rfl (congrArg (fun b => some (AV.fl (Value.bool b))) (decide_eq_true hc6)) 22 rfl (by decide) ?_
        refine AO.skipG 7 true 20 rfl rfl (congrArg (fun b => some (AV.fl (Value.bool b))) (decide_eq_true hc6)) 23 rfl (by decide) ?_
        refine AO.skipG 7 true 20 rfl rfl (congrArg (fun b => some (AV.fl (Value.bool b))) (decide_eq_true hc6)) 24 rfl (by decide) ?_
        refine AO.skipU 11 true 24 rfl rfl rfl 25 rfl (by decide) ?_
        refine AO.skipU 11 true 24 rfl rfl rfl 26 rfl (by decide) ?_
        refine AO.skipU 13 false 26 rfl rfl rfl 27 rfl (by decide) ?_
        refine AO.skipU 13 false 26 rfl rfl rfl 28 rfl (by decide) ?_
        refine AO.skipU 13 false 26 rfl rfl rfl 29 rfl (by decide) ?_
        refine AO.skipU 11 true 24 rfl rfl rfl 30 rfl (by decide) ?_
        refine AO.skipG 7 true 20 rfl rfl (congrArg (fun b => some (AV.fl (Value.bool b))) (decide_eq_true hc6)) 31 rfl (by decide) ?_
        refine AO.calm rfl 32 rfl (by decide) (eBool true) (Calm.pickT rfl (congrArg (fun b => some (AV.fl (Value.bool b))) (decide_eq_true hc6)) rfl) ?_
        cases hq4
        refine AO.nilE ⟨rfl, rfl⟩ ?_ ?_
        · exact ⟨rfl, rfl, rfl, rfl, trivial⟩
        · exact (Sub.refl _)
      · have hq4 := (if_neg hc6).symm.trans hq4
        refine AO.calmG 7 false 20 rfl rfl (congrArg (fun b => some (AV.fl (Value.bool b))) (decide_eq_false hc6)) 21 rfl (by decide) (eStr t2.1) (Calm.move rfl rfl) ?_
        obtain ⟨hg7, hq4⟩ := of_guard hq4
        refine AO.calmG 7 false 20 rfl rfl (congrArg (fun b => some (AV.fl (Value.bool b))) (decide_eq_false hc6)) 22 rfl (by decide) (eU8 (byteAt t2.1 (0 : Int))) (Calm.idxS rfl rfl rfl hg7 Try.underlying9) ?_
        refine AO.calmG 7 false 20 rfl rfl (congrArg (fun b => some (AV.fl (Value.bool b))) (decide_eq_false hc6)) 23 rfl (by decide) (eBool (decide ((byteAt t2.1 (0 : Int)) = (48 : Int)))) (Calm.int rfl rfl rfl rfl) ?_
        refine AO.calmG 7 false 20 rfl rfl (congrArg (fun b => some (AV.fl (Value.bool b))) (decide_eq_false hc6)) 24 rfl (by decide) (eBool (decide ((byteAt t2.1 (0 : Int)) = (48 : Int)))) (Calm.move rfl rfl) ?_
        by_cases hc8 : (byteAt t2.1 (0 : Int)) = (48 : Int)
        · have hq4 := (if_pos hc8).symm.trans hq4
          refine AO.calmG 11 true 24 rfl rfl (congrArg (fun b => some (AV.fl (Value.bool b))) (decide_eq_true hc8)) 25 rfl (by decide) (eBool t2.2) (Calm.move rfl rfl) ?_
          refine AO.calmG 11 true 24 rfl rfl (congrArg (fun b => some (AV.fl (Value.bool b))) (decide_eq_true hc8)) 26 rfl (by decide) (eBool t2.2) (Calm.move rfl rfl) ?_
          by_cases hc9 : t2.2 = true
          · have hq4 := (if_pos hc9).symm.trans hq4
            refine AO.skipG 13 true 26 rfl rfl (congrArg (fun b => some (AV.fl (Value.bool b))) hc9) 27 rfl (by decide) ?_
            refine AO.skipG 13 true 26 rfl rfl (congrArg (fun b => some (AV.fl (Value.bool b))) hc9) 28 rfl (by decide) ?_
            refine AO.skipG 13 true 26 rfl rfl (congrArg (fun b => some (AV.fl (Value.bool b))) hc9) 29 rfl (by decide) ?_
            refine AO.calmG 11 true 24 rfl rfl (congrArg (fun b => some (AV.fl (Value.bool b))) (decide_eq_true hc8)) 30 rfl (by decide) (eBool true) (Calm.pickT rfl (congrArg (fun b => some (AV.fl (Value.bool b))) hc9) rfl) ?_
            refine AO.calmG 7 false 20 rfl rfl (congrArg (fun b => some (AV.fl (Value.bool b))) (decide_eq_false hc6)) 31 rfl (by decide) (eBool true) (Calm.pickT rfl (congrArg (fun b => some (AV.fl (Value.bool b))) (decide_eq_true hc8)) rfl) ?_
            refine AO.calm rfl 32 rfl (by decide) (eBool true) (Calm.pickF rfl (congrArg (fun b => some (AV.fl (Value.bool b))) (decide_eq_false hc6)) rfl) ?_
            cases hq4
            refine AO.nilE ⟨rfl, rfl⟩ ?_ ?_
            · exact ⟨rfl, rfl, rfl, rfl, trivial⟩
            · exact (Sub.refl _)
          · have hq4 := (if_neg hc9).symm.trans hq4
            refine AO.calmG 13 false 26 rfl rfl (congrArg (fun b => some (AV.fl (Value.bool b))) (eq_false_of_ne_true hc9)) 27 rfl (by decide) (eStr t2.1) (Calm.move rfl rfl) ?_
            refine AO.calmG 13 false 26 rfl rfl (congrArg (fun b => some (AV.fl (Value.bool b))) (eq_false_of_ne_true hc9)) 28 rfl (by decide) (eI64 (t2.1.size : Int)) (Calm.lenStr rfl rfl Try.underlying9) ?_
            refine AO.calmG 13 false 26 rfl rfl (congrArg (fun b => some (AV.fl (Value.bool b))) (eq_false_of_ne_true hc9)) 29 rfl (by decide) (eBool (decide ((1 : Int) < (t2.1.size : Int)))) (Calm.int rfl rfl rfl rfl) ?_
            refine AO.calmG 11 true 24 rfl rfl (congrArg (fun b => some (AV.fl (Value.bool b))) (decide_eq_true hc8)) 30 rfl (by decide) (eBool (decide ((1 : Int) < (t2.1.size : Int)))) (Calm.pickF rfl (congrArg (fun b => some (AV.fl (Value.bool b))) (eq_false_of_ne_true hc9)) rfl) ?_
            refine AO.calmG 7 false 20 rfl rfl (congrArg (fun b => some (AV.fl (Value.bool b))) (decide_eq_false hc6)) 31 rfl (by decide) (eBool (decide ((1 : Int) < (t2.1.size : Int)))) (Calm.pickT rfl (congrArg (fun b => some (AV.fl (Value.bool b))) (decide_eq_true hc8)) rfl) ?_
            refine AO.calm rfl 32 rfl (by decide) (eBool (decide ((1 : Int) < (t2.1.size : Int)))) (Calm.pickF rfl (congrArg (fun b => some (AV.fl (Value.bool b))) (decide_eq_false hc6)) rfl) ?_
            cases hq4
            refine AO.nilE ⟨rfl, rfl⟩ ?_ ?_
            · exact ⟨rfl, rfl, rfl, rfl, trivial⟩
            · exact (Sub.refl _)
        · have hq4 := (if_neg hc8).symm.trans hq4
          refine AO.skipG 11 false 24 rfl rfl (congrArg (fun b => some (AV.fl (Value.bool b))) (decide_eq_false hc8)) 25 rfl (by decide) ?_
          refine AO.skipG 11 false 24 rfl rfl (congrArg (fun b => some (AV.fl (Value.bool b))) (decide_eq_false hc8)) 26 rfl (by decide) ?_
          refine AO.skipU 13 false 26 rfl rfl rfl 27 rfl (by decide) ?_
          refine AO.skipU 13 false 26 rfl rfl rfl 28 rfl (by decide) ?_
          refine AO.skipU 13 false 26 rfl rfl rfl 29 rfl (by decide) ?_
          refine AO.skipG 11 false 24 rfl rfl (congrArg (fun b => some (AV.fl (Value.bool b))) (decide_eq_false hc8)) 30 rfl (by decide) ?_
          refine AO.calmG 7 false 20 rfl rfl (congrArg (fun b => some (AV.fl (Value.bool b))) (decide_eq_false hc6)) 31 rfl (by decide) (eBool false) (Calm.pickF rfl (congrArg (fun b => some (AV.fl (Value.bool b))) (decide_eq_false hc8)) rfl) ?_
          refine AO.calm rfl 32 rfl (by decide) (eBool false) (Calm.pickF rfl (congrArg (fun b => some (AV.fl (Value.bool b))) (decide_eq_false hc6)) rfl) ?_
          cases hq4
          refine AO.nilE ⟨rfl, rfl⟩ ?_ ?_
          · exact ⟨rfl, rfl, rfl, rfl, trivial⟩
          · exact (Sub.refl _)
  · by_cases hc10 : b3 = true
    · have h := (if_pos hc10).symm.trans h
      refine AW.condT' b3 rfl hc10 ?_
      refine AW.seq ?_
      refine AW.reg ?_
      refine AO.calm rfl 2 rfl (by decide) (eI64 (0 : Int)) (Calm.assign rfl rfl) ?_
      refine AO.calm rfl 3 rfl (by decide) (eBool false) (Calm.assign rfl rfl) ?_
      refine AO.nil (ρ' := [(2, (eI64 (0 : Int))), (3, (eBool false))]) (H' := []) ⟨rfl, rfl, trivial⟩ (Sub.refl _) ?_
      refine AW.ret (ρ' := [(2, (eI64 (0 : Int))), (3, (eBool false))]) (H' := []) ⟨rfl, rfl, trivial⟩ (Sub.refl _) ?_
      have hr := Option.some.inj h
      subst hr
      exact ⟨[(eI64 (0 : Int)), (eBool false)], ⟨rfl, rfl, rfl, rfl, trivial⟩, rfl⟩
    · have h := (if_neg hc10).symm.trans h
      refine AW.condF' b3 rfl hc10 ?_
      refine AW.skip (ρ' := [(4, (eStr t2.1)), (5, (eBool t2.2)), (6, (eU64 (0 : Int)))]) (H' := []) ⟨rfl, rfl, rfl, trivial⟩ (Sub.refl _) ?_
      refine AW.seq_mid (fun ρ H => ∃ (x11 : Int), ρ = [(5, (eBool t2.2)), (6, (eU64 x11))] ∧ H = [] ∧ spot_Number_c0 k t2 x11 = some r) ?_ ?_
      · refine AW.seq ?_
        refine AW.reg ?_
        refine AO.calm rfl 33 rfl (by decide) (eStr t2.1) (Calm.move rfl rfl) ?_
        refine AO.calm rfl 34 rfl (by decide) (eI64 (t2.1.size : Int)) (Calm.lenStr rfl rfl Try.underlying9) ?_
        refine AO.calm rfl 35 rfl (by decide) (eI64 (0 : Int)) (Calm.move rfl rfl) ?_
        refine AO.nil (ρ' := [(4, (eStr t2.1)), (5, (eBool t2.2)), (6, (eU64 (0 : Int))), (34, (eI64 (t2.1.size : Int))), (35, (eI64 (0 : Int)))]) (H' := []) ⟨rfl, rfl, rfl, rfl, rfl, trivial⟩ (Sub.refl _) ?_
        refine AW.block ?_
        refine AW.weak (ρ' := [(4, (eStr t2.1)), (5, (eBool t2.2)), (6, (eU64 (0 : Int))), (34, (eI64 (t2.1.size : Int))), (35, (eI64 (0 : Int)))]) (H' := []) ⟨rfl, rfl, rfl, rfl, rfl, trivial⟩ (Sub.refl _) ?_
        refine AW.loop (fun kq ρ H => ∃ (x20 : Int) (x21 : Int), ρ = [(4, (eStr t2.1)), (5, (eBool t2.2)), (6, (eU64 x20)), (34, (eI64 (t2.1.size : Int))), (35, (eI64 x21))] ∧ H = [] ∧ spot_Number_l1 k t2 kq x20 x21 = some r) k ⟨(0 : Int), (0 : Int), rfl, rfl, h⟩ ?_
        rintro kq23 _ _ ⟨x20, x21, rfl, rfl, h⟩
        cases kq23 with
        | zero => rw [spot_Number_l1.eq_1] at h; cases h
        | succ kq23 =>
        rw [spot_Number_l1.eq_2] at h
        generalize hrec22 : spot_Number_l1 k t2 kq23 = rec22 at h
        refine AW.seq ?_
        refine AW.reg ?_
        refine AO.calm rfl 36 rfl (by decide) (eBool (decide (x21 < (t2.1.size : Int)))) (Calm.int rfl rfl rfl rfl) ?_
        refine AO.nil (ρ' := [(4, (eStr t2.1)), (5, (eBool t2.2)), (6, (eU64 x20)), (34, (eI64 (t2.1.size : Int))), (35, (eI64 x21)), (36, (eBool (decide (x21 < (t2.1.size : Int)))))]) (H' := []) ⟨rfl, rfl, rfl, rfl, rfl, rfl, trivial⟩ (Sub.refl _) ?_
        refine AW.seq ?_
        by_cases hc24 : x21 < (t2.1.size : Int)
        · have h := (if_pos hc24).symm.trans h
          refine AW.condP (x21 < (t2.1.size : Int)) rfl hc24 ?_
          refine AW.skip (ρ' := [(4, (eStr t2.1)), (5, (eBool t2.2)), (6, (eU64 x20)), (34, (eI64 (t2.1.size : Int))), (35, (eI64 x21))]) (H' := []) ⟨rfl, rfl, rfl, rfl, rfl, trivial⟩ (Sub.refl _) ?_
          refine AW.seq ?_
          refine AW.block ?_
          refine AW.seq ?_
          refine AW.reg ?_
          refine AO.calm rfl 37 rfl (by decide) (eI64 x21) (Calm.move rfl rfl) ?_
          refine AO.calm rfl 7 rfl (by decide) (eI64 x21) (Calm.assign rfl rfl) ?_
          refine AO.nil (ρ' := [(4, (eStr t2.1)), (5, (eBool t2.2)), (6, (eU64 x20)), (7, (eI64 x21)), (34, (eI64 (t2.1.size : Int))), (35, (eI64 x21))]) (H' := []) ⟨rfl, rfl, rfl, rfl, rfl, rfl, trivial⟩ (Sub.refl _) ?_
          refine AW.seq ?_
          refine AW.seq ?_
          obtain ⟨b25, hq26, h⟩ := of_bind h
          refine AW.regM [(4, (eStr t2.1)), (5, (eBool t2.2)), (6, (eU64 x20)), (7, (eI64 x21)), (34, (eI64 (t2.1.size : Int))), (35, (eI64 x21)), (47, (eBool b25))] [] ?_ ?_
          · refine AO.calm rfl 38 rfl (by decide) (eStr t2.1) (Calm.move rfl rfl) ?_
            refine AO.calm rfl 39 rfl (by decide) (eI64 x21) (Calm.move rfl rfl) ?_
            obtain ⟨hg27, hq26⟩ := of_guard hq26
            refine AO.calm rfl 40 rfl (by decide) (eU8 (byteAt t2.1 x21)) (Calm.idxS rfl rfl rfl hg27 Try.underlying9) ?_
            refine AO.calm rfl 41 rfl (by decide) (eBool (decide ((byteAt t2.1 x21) < (48 : Int)))) (Calm.int rfl rfl rfl rfl) ?_
            refine AO.calm rfl 42 rfl (by decide) (eBool (decide ((byteAt t2.1 x21) < (48 : Int)))) (Calm.move rfl rfl) ?_
            by_cases hc28 : (byteAt t2.1 x21) < (48 : Int)
            · have hq26 := (if_pos hc28).symm.trans hq26
              refine AO.skipG 4 true 42 rfl rfl (congrArg (fun b => some (AV.fl (Value.bool b))) (decide_eq_true hc28)) 43 rfl (by decide) ?_
              refine AO.skipG 4 true 42 rfl rfl (congrArg (fun b => some (AV.fl (Value.bool b))) (decide_eq_true hc28)) 44 rfl (by decide) ?_
              refine AO.skipG 4 true 42 rfl rfl (congrArg (fun b => some (AV.fl (Value.bool b))) (decide_eq_true hc28)) 45 rfl (by decide) ?_
              refine AO.skipG 4 true 42 rfl rfl (congrArg (fun b => some (AV.fl (Value.bool b))) (decide_eq_true hc28)) 46 rfl (by decide) ?_
              refine AO.calm rfl 47 rfl (by decide) (eBool true) (Calm.pickT rfl (congrArg (fun b => some (AV.fl (Value.bool b))) (decide_eq_true hc28)) rfl) ?_
              cases hq26
              refine AO.nilE ⟨rfl, rfl⟩ ?_ ?_
              · exact ⟨rfl, rfl, rfl, rfl, rfl, rfl, rfl, trivial⟩
              · exact (Sub.refl _)
            · have hq26 := (if_neg hc28).symm.trans hq26
              refine AO.calmG 4 false 42 rfl rfl (congrArg (fun b => some (AV.fl (Value.bool b))) (decide_eq_false hc28)) 43 rfl (by decide) (eStr t2.1) (Calm.move rfl rfl) ?_
              refine AO.calmG 4 false 42 rfl rfl (congrArg (fun b => some (AV.fl (Value.bool b))) (decide_eq_false hc28)) 44 rfl (by decide) (eI64 x21) (Calm.move rfl rfl) ?_
              obtain ⟨hg29, hq26⟩ := of_guard hq26
              refine AO.calmG 4 false 42 rfl rfl (congrArg (fun b => some (AV.fl (Value.bool b))) (decide_eq_false hc28)) 45 rfl (by decide) (eU8 (byteAt t2.1 x21)) (Calm.idxS rfl rfl rfl hg29 Try.underlying9) ?_
              refine AO.calmG 4 false 42 rfl rfl (congrArg (fun b => some (AV.fl (Value.bool b))) (decide_eq_false hc28)) 46 rfl (by decide) (eBool (decide ((57 : Int) < (byteAt t2.1 x21)))) (Calm.int rfl rfl rfl rfl) ?_
              refine AO.calm rfl 47 rfl (by decide) (eBool (decide ((57 : Int) < (byteAt t2.1 x21)))) (Calm.pickF rfl (congrArg (fun b => some (AV.fl (Value.bool b))) (decide_eq_false hc28)) rfl) ?_
              cases hq26
              refine AO.nilE ⟨rfl, rfl⟩ ?_ ?_
              · exact ⟨rfl, rfl, rfl, rfl, rfl, rfl, rfl, trivial⟩
              · exact (Sub.refl _)
          · by_cases hc30 : b25 = true
            · have h := (if_pos hc30).symm.trans h
              refine AW.condT' b25 rfl hc30 ?_
              refine AW.seq ?_
              refine AW.reg ?_
              refine AO.calm rfl 2 rfl (by decide) (eI64 (0 : Int)) (Calm.assign rfl rfl) ?_
              refine AO.calm rfl 3 rfl (by decide) (eBool false) (Calm.assign rfl rfl) ?_
              refine AO.nil (ρ' := [(2, (eI64 (0 : Int))), (3, (eBool false))]) (H' := []) ⟨rfl, rfl, trivial⟩ (Sub.refl _) ?_
              refine AW.ret (ρ' := [(2, (eI64 (0 : Int))), (3, (eBool false))]) (H' := []) ⟨rfl, rfl, trivial⟩ (Sub.refl _) ?_
              have hr := Option.some.inj h
              subst hr
              exact ⟨[(eI64 (0 : Int)), (eBool false)], ⟨rfl, rfl, rfl, rfl, trivial⟩, rfl⟩
            · have h := (if_neg hc30).symm.trans h
              refine AW.condF' b25 rfl hc30 ?_
              refine AW.skip (ρ' := [(4, (eStr t2.1)), (5, (eBool t2.2)), (6, (eU64 x20)), (7, (eI64 x21)), (34, (eI64 (t2.1.size : Int))), (35, (eI64 x21))]) (H' := []) ⟨rfl, rfl, rfl, rfl, rfl, rfl, trivial⟩ (Sub.refl _) ?_
              refine AW.reg ?_
              refine AO.calm rfl 48 rfl (by decide) (eU64 x20) (Calm.move rfl rfl) ?_
              refine AO.calm rfl 49 rfl (by decide) (eU64 (u64 (x20 * (10 : Int)))) (Calm.int rfl rfl rfl rfl) ?_
              refine AO.calm rfl 50 rfl (by decide) (eStr t2.1) (Calm.move rfl rfl) ?_
              refine AO.calm rfl 51 rfl (by decide) (eI64 x21) (Calm.move rfl rfl) ?_
              obtain ⟨hg31, h⟩ := of_guard h
              refine AO.calm rfl 52 rfl (by decide) (eU8 (byteAt t2.1 x21)) (Calm.idxS rfl rfl rfl hg31 Try.underlying9) ?_
              refine AO.calm rfl 53 rfl (by decide) (eU8 (w8 ((byteAt t2.1 x21) - (48 : Int)))) (Calm.int rfl rfl rfl rfl) ?_
              refine AO.calm rfl 54 rfl (by decide) (eU64 (u64 (w8 ((byteAt t2.1 x21) - (48 : Int))))) (Calm.conv rfl rfl Try.underlying5 Try.underlying83) ?_
              refine AO.calm rfl 55 rfl (by decide) (eU64 (u64 ((u64 (x20 * (10 : Int))) + (u64 (w8 ((byteAt t2.1 x21) - (48 : Int))))))) (Calm.int rfl rfl rfl rfl) ?_
              obtain ⟨x32, ex32, h⟩ := of_bind h
              refine AO.calm rfl 6 rfl (by decide) (eU64 x32) (Calm.assign rfl (congrArg (fun x => some (eU64 x)) (Option.some.inj ex32))) ?_
              refine AO.nil (ρ' := [(4, (eStr t2.1)), (5, (eBool t2.2)), (6, (eU64 x32)), (34, (eI64 (t2.1.size : Int))), (35, (eI64 x21))]) (H' := []) ⟨rfl, rfl, rfl, rfl, rfl, trivial⟩ (Sub.refl _) ?_
              refine AW.reg ?_
              refine AO.calm rfl 56 rfl (by decide) (eI64 (w64 (x21 + (1 : Int)))) (Calm.int rfl rfl rfl rfl) ?_
              refine AO.calm rfl 35 rfl (by decide) (eI64 (w64 (x21 + (1 : Int)))) (Calm.move rfl rfl) ?_
              refine AO.nil (ρ' := [(4, (eStr t2.1)), (5, (eBool t2.2)), (6, (eU64 x32)), (34, (eI64 (t2.1.size : Int))), (35, (eI64 (w64 (x21 + (1 : Int)))))]) (H' := []) ⟨rfl, rfl, rfl, rfl, rfl, trivial⟩ (Sub.refl _) ?_
              exact ⟨kq23, Nat.lt_succ_self _, x32, (w64 (x21 + (1 : Int))), rfl, rfl, by rw [hrec22]; exact h⟩
        · have h := (if_neg hc24).symm.trans h
          refine AW.condN (x21 < (t2.1.size : Int)) rfl hc24 ?_
          refine AW.exit (ρ' := [(5, (eBool t2.2)), (6, (eU64 x20))]) (H' := []) ⟨rfl, rfl, trivial⟩ (Sub.refl _) ?_
          exact ⟨x20, rfl, rfl, h⟩
      · rintro _ _ ⟨x11, rfl, rfl, h⟩
        rw [spot_Number_c0.eq_1] at h
        refine AW.seq ?_
        refine AW.block ?_
        refine AW.seq ?_
        obtain ⟨b12, hq13, h⟩ := of_bind h
        refine AW.regM [(5, (eBool t2.2)), (6, (eU64 x11)), (57, (eBool b12))] [] ?_ ?_
        · refine AO.calm rfl 58 rfl (by decide) (eBool t2.2) (Calm.move rfl rfl) ?_
          refine AO.calm rfl 59 rfl (by decide) (eBool t2.2) (Calm.move rfl rfl) ?_
          by_cases hc14 : t2.2 = true
          · have hq13 := (if_pos hc14).symm.trans hq13
            refine AO.calmG 1 true 59 rfl rfl (congrArg (fun b => some (AV.fl (Value.bool b))) hc14) 60 rfl (by decide) (eU64 x11) (Calm.move rfl rfl) ?_
            refine AO.calmG 1 true 59 rfl rfl (congrArg (fun b => some (AV.fl (Value.bool b))) hc14) 61 rfl (by decide) (eBool (decide (x11 ≤ (9223372036854775808 : Int)))) (Calm.int rfl rfl rfl rfl) ?_
            refine AO.calm rfl 62 rfl (by decide) (eBool (decide (x11 ≤ (9223372036854775808 : Int)))) (Calm.pickT rfl (congrArg (fun b => some (AV.fl (Value.bool b))) hc14) rfl) ?_
            refine AO.calm rfl 57 rfl (by decide) (eBool (decide (x11 ≤ (9223372036854775808 : Int)))) (Calm.assign rfl rfl) ?_
            cases hq13
            refine AO.nilE ⟨rfl, rfl⟩ ?_ ?_
            · exact ⟨rfl, rfl, rfl, trivial⟩
            · exact (Sub.refl _)
          · have hq13 := (if_neg hc14).symm.trans hq13
            refine AO.skipG 1 false 59 rfl rfl (congrArg (fun b => some (AV.fl (Value.bool b))) (eq_false_of_ne_true hc14)) 60 rfl (by decide) ?_
            refine AO.skipG 1 false 59 rfl rfl (congrArg (fun b => some (AV.fl (Value.bool b))) (eq_false_of_ne_true hc14)) 61 rfl (by decide) ?_
            refine AO.calm rfl 62 rfl (by decide) (eBool false) (Calm.pickF rfl (congrArg (fun b => some (AV.fl (Value.bool b))) (eq_false_of_ne_true hc14)) rfl) ?_
            refine AO.calm rfl 57 rfl (by decide) (eBool false) (Calm.assign rfl rfl) ?_
            cases hq13
            refine AO.nilE ⟨rfl, rfl⟩ ?_ ?_
            · exact ⟨rfl, rfl, rfl, trivial⟩
            · exact (Sub.refl _)
        · by_cases hc15 : b12 = true
          · have h := (if_pos hc15).symm.trans h
            refine AW.condT' b12 rfl hc15 ?_
            refine AW.seq ?_
            refine AW.reg ?_
            refine AO.calm rfl 63 rfl (by decide) (eU64 x11) (Calm.move rfl rfl) ?_
            refine AO.calm rfl 64 rfl (by decide) (eU64 (IntKind.u64.wrap (0 - x11))) (Calm.neg rfl rfl) ?_
            refine AO.calm rfl 65 rfl (by decide) (eI64 (w64 (IntKind.u64.wrap (0 - x11)))) (Calm.conv rfl rfl Try.underlying83 Try.underlying3) ?_
            refine AO.calm rfl 2 rfl (by decide) (eI64 (w64 (IntKind.u64.wrap (0 - x11)))) (Calm.assign rfl rfl) ?_
            refine AO.calm rfl 3 rfl (by decide) (eBool true) (Calm.assign rfl rfl) ?_
            refine AO.nil (ρ' := [(2, (eI64 (w64 (IntKind.u64.wrap (0 - x11))))), (3, (eBool true))]) (H' := []) ⟨rfl, rfl, trivial⟩ (Sub.refl _) ?_
            refine AW.ret (ρ' := [(2, (eI64 (w64 (IntKind.u64.wrap (0 - x11))))), (3, (eBool true))]) (H' := []) ⟨rfl, rfl, trivial⟩ (Sub.refl _) ?_
            have hr := Option.some.inj h
            subst hr
            exact ⟨[(eI64 (w64 (IntKind.u64.wrap (0 - x11)))), (eBool true)], ⟨rfl, rfl, rfl, rfl, trivial⟩, rfl⟩
          · have h := (if_neg hc15).symm.trans h
            refine AW.condF' b12 rfl hc15 ?_
            refine AW.seq ?_
            obtain ⟨b16, hq17, h⟩ := of_bind h
            refine AW.regM [(6, (eU64 x11)), (66, (eBool b16))] [] ?_ ?_
            · refine AO.calm rfl 67 rfl (by decide) (eBool t2.2) (Calm.move rfl rfl) ?_
              refine AO.calm rfl 68 rfl (by decide) (eBool (!t2.2)) (Calm.not rfl rfl) ?_
              refine AO.calm rfl 69 rfl (by decide) (eBool (!t2.2)) (Calm.move rfl rfl) ?_
              by_cases hc18 : (!t2.2) = true
              · have hq17 := (if_pos hc18).symm.trans hq17
                refine AO.calmG 2 true 69 rfl rfl (congrArg (fun b => some (AV.fl (Value.bool b))) hc18) 70 rfl (by decide) (eU64 x11) (Calm.move rfl rfl) ?_
                refine AO.calmG 2 true 69 rfl rfl (congrArg (fun b => some (AV.fl (Value.bool b))) hc18) 71 rfl (by decide) (eBool (decide (x11 < (9223372036854775808 : Int)))) (Calm.int rfl rfl rfl rfl) ?_
                refine AO.calm rfl 72 rfl (by decide) (eBool (decide (x11 < (9223372036854775808 : Int)))) (Calm.pickT rfl (congrArg (fun b => some (AV.fl (Value.bool b))) hc18) rfl) ?_
                refine AO.calm rfl 66 rfl (by decide) (eBool (decide (x11 < (9223372036854775808 : Int)))) (Calm.assign rfl rfl) ?_
                cases hq17
                refine AO.nilE ⟨rfl, rfl⟩ ?_ ?_
                · exact ⟨rfl, rfl, trivial⟩
                · exact (Sub.refl _)
              · have hq17 := (if_neg hc18).symm.trans hq17
                refine AO.skipG 2 false 69 rfl rfl (congrArg (fun b => some (AV.fl (Value.bool b))) (eq_false_of_ne_true hc18)) 70 rfl (by decide) ?_
                refine AO.skipG 2 false 69 rfl rfl (congrArg (fun b => some (AV.fl (Value.bool b))) (eq_false_of_ne_true hc18)) 71 rfl (by decide) ?_
                refine AO.calm rfl 72 rfl (by decide) (eBool false) (Calm.pickF rfl (congrArg (fun b => some (AV.fl (Value.bool b))) (eq_false_of_ne_true hc18)) rfl) ?_
                refine AO.calm rfl 66 rfl (by decide) (eBool false) (Calm.assign rfl rfl) ?_
                cases hq17
                refine AO.nilE ⟨rfl, rfl⟩ ?_ ?_
                · exact ⟨rfl, rfl, trivial⟩
                · exact (Sub.refl _)
            · by_cases hc19 : b16 = true
              · have h := (if_pos hc19).symm.trans h
                refine AW.condT' b16 rfl hc19 ?_
                refine AW.seq ?_
                refine AW.reg ?_
                refine AO.calm rfl 73 rfl (by decide) (eU64 x11) (Calm.move rfl rfl) ?_
                refine AO.calm rfl 74 rfl (by decide) (eI64 (w64 x11)) (Calm.conv rfl rfl Try.underlying83 Try.underlying3) ?_
                refine AO.calm rfl 2 rfl (by decide) (eI64 (w64 x11)) (Calm.assign rfl rfl) ?_
                refine AO.calm rfl 3 rfl (by decide) (eBool true) (Calm.assign rfl rfl) ?_
                refine AO.nil (ρ' := [(2, (eI64 (w64 x11))), (3, (eBool true))]) (H' := []) ⟨rfl, rfl, trivial⟩ (Sub.refl _) ?_
                refine AW.ret (ρ' := [(2, (eI64 (w64 x11))), (3, (eBool true))]) (H' := []) ⟨rfl, rfl, trivial⟩ (Sub.refl _) ?_
                have hr := Option.some.inj h
                subst hr
                exact ⟨[(eI64 (w64 x11)), (eBool true)], ⟨rfl, rfl, rfl, rfl, trivial⟩, rfl⟩
              · have h := (if_neg hc19).symm.trans h
                refine AW.condF' b16 rfl hc19 ?_
                refine AW.skip (ρ' := []) (H' := []) trivial (Sub.refl _) ?_
                refine AW.seq ?_
                refine AW.reg ?_
                refine AO.calm rfl 2 rfl (by decide) (eI64 (0 : Int)) (Calm.assign rfl rfl) ?_
                refine AO.calm rfl 3 rfl (by decide) (eBool false) (Calm.assign rfl rfl) ?_
                refine AO.nil (ρ' := [(2, (eI64 (0 : Int))), (3, (eBool false))]) (H' := []) ⟨rfl, rfl, trivial⟩ (Sub.refl _) ?_
                refine AW.ret (ρ' := [(2, (eI64 (0 : Int))), (3, (eBool false))]) (H' := []) ⟨rfl, rfl, trivial⟩ (Sub.refl _) ?_
                have hr := Option.some.inj h
                subst hr
                exact ⟨[(eI64 (0 : Int)), (eBool false)], ⟨rfl, rfl, rfl, rfl, trivial⟩, rfl⟩
end Go.Avl.T2
/- bosket/bosketref13.Digits; printed by avmain.py. -/
namespace Go.Avl.T2
open Go Go.RowKit Go.Proofs Go.Avl
set_option linter.unusedVariables false
set_option maxRecDepth 100000
set_option maxHeartbeats 4000000
attribute [local irreducible] AW AO AQ Spec SpecH Calm

def bosketref13_Digits_c0 (k : Nat) (p0 : Int) (x3 : ByteArray) : Option ByteArray :=
  if p0 < (0 : Int) then if (ByteArray.mk #[45]).size + x3.size ≤ 9223372036854775807 then some (((ByteArray.mk #[45]) ++ x3))
  else none
  else some (x3)
def bosketref13_Digits_c1 (k : Nat) (rec8 : (Int → ByteArray → Option ByteArray)) (x6 : Int) (x7 : ByteArray) (x11 : Int) : Option ByteArray :=
  if (strOfNums ([(w8 (w64 ((48 : Int) + x11)))] : List Int)).size + x7.size ≤ 9223372036854775807 then (some ((strOfNums ([(w8 (w64 ((48 : Int) + x11)))] : List Int)) ++ x7)).bind fun x14 =>
  rec8 (IntKind.i64.wrap (x6.tdiv (10 : Int))) x14
  else none
def bosketref13_Digits_l2 (k : Nat) (p0 : Int) : Nat → Int → ByteArray → Option ByteArray
  | 0, _, _ => none
  | j + 1, x6, x7 =>
    if x6 ≠ (0 : Int) then if (x6.tmod (10 : Int)) < (0 : Int) then bosketref13_Digits_c1 k (bosketref13_Digits_l2 k p0 j) x6 x7 (IntKind.i64.wrap (0 - (x6.tmod (10 : Int))))
    else bosketref13_Digits_c1 k (bosketref13_Digits_l2 k p0 j) x6 x7 (x6.tmod (10 : Int))
    else bosketref13_Digits_c0 k p0 x7
def bosketref13_Digits (k : Nat) (p0 : Int) : Option ByteArray :=
  if p0 = (0 : Int) then some ((ByteArray.mk #[48]))
  else bosketref13_Digits_l2 k p0 k p0 (ByteArray.mk #[])
theorem bosketref13_Digits_spec {k : Nat} {p0 : Int} {r : ByteArray} (h : bosketref13_Digits k p0 = some r) : Spec Try.prog 19 [(eI64 p0)] (eStr r) := by
  rw [bosketref13_Digits.eq_1] at h
  refine Spec.intro (res := [.tmp 2]) Try.func19 rfl rfl rfl (Nat.le_of_ble_eq_true rfl) ?_
  refine AW.seq ?_
  refine AW.reg ?_
  refine AO.calm rfl 2 rfl (by decide) (eStr (ByteArray.mk #[])) (Calm.assign rfl rfl) ?_
  refine AO.nil (ρ' := [(0, (eI64 p0))]) (H' := []) ⟨rfl, trivial⟩ (Sub.refl _) ?_
  refine AW.seq ?_
  refine AW.reg ?_
  refine AO.calm rfl 6 rfl (by decide) (eI64 p0) (Calm.move rfl rfl) ?_
  refine AO.calm rfl 7 rfl (by decide) (eBool (decide (p0 < (0 : Int)))) (Calm.int rfl rfl rfl rfl) ?_
  refine AO.calm rfl 3 rfl (by decide) (eStr (ByteArray.mk #[])) (Calm.assign rfl rfl) ?_
  refine AO.calm rfl 4 rfl (by decide) (eBool (decide (p0 < (0 : Int)))) (Calm.assign rfl rfl) ?_
  refine AO.nil (ρ' := [(0, (eI64 p0)), (3, (eStr (ByteArray.mk #[]))), (4, (eBool (decide (p0 < (0 : Int)))))]) (H' := []) ⟨rfl, rfl, rfl, trivial⟩ (Sub.refl _) ?_
  refine AW.seq ?_
  refine AW.seq ?_
  refine AW.reg ?_
  refine AO.calm rfl 8 rfl (by decide) (eI64 p0) (Calm.move rfl rfl) ?_
  refine AO.calm rfl 9 rfl (by decide) (eBool (decide (p0 = (0 : Int)))) (Calm.int rfl rfl rfl rfl) ?_
  refine AO.nil (ρ' := [(0, (eI64 p0)), (3, (eStr (ByteArray.mk #[]))), (4, (eBool (decide (p0 < (0 : Int))))), (9, (eBool (decide (p0 = (0 : Int)))))]) (H' := []) ⟨rfl, rfl, rfl, rfl, trivial⟩ (Sub.refl _) ?_
  by_cases hc2 : p0 = (0 : Int)
  · have h := (if_pos hc2).symm.trans h
    refine AW.condP (p0 = (0 : Int)) rfl hc2 ?_
    refine AW.seq ?_
    refine AW.reg ?_
    refine AO.calm rfl 2 rfl (by decide) (eStr (ByteArray.mk #[48])) (Calm.assign rfl rfl) ?_
    refine AO.nil (ρ' := [(2, (eStr (ByteArray.mk #[48])))]) (H' := []) ⟨rfl, trivial⟩ (Sub.refl _) ?_
    refine AW.ret (ρ' := [(2, (eStr (ByteArray.mk #[48])))]) (H' := []) ⟨rfl, trivial⟩ (Sub.refl _) ?_
    have hr := Option.some.inj h
    subst hr
    exact ⟨[(eStr (ByteArray.mk #[48]))], ⟨rfl, rfl, trivial⟩, rfl⟩
  · have h := (if_neg hc2).symm.trans h
    refine AW.condN (p0 = (0 : Int)) rfl hc2 ?_
    refine AW.skip (ρ' := [(0, (eI64 p0)), (3, (eStr (ByteArray.mk #[]))), (4, (eBool (decide (p0 < (0 : Int)))))]) (H' := []) ⟨rfl, rfl, rfl, trivial⟩ (Sub.refl _) ?_
    refine AW.seq_mid (fun ρ H => ∃ (x3 : ByteArray), ρ = [(3, (eStr x3)), (4, (eBool (decide (p0 < (0 : Int)))))] ∧ H = [] ∧ bosketref13_Digits_c0 k p0 x3 = some r) ?_ ?_
    · refine AW.block ?_
      refine AW.weak (ρ' := [(0, (eI64 p0)), (3, (eStr (ByteArray.mk #[]))), (4, (eBool (decide (p0 < (0 : Int)))))]) (H' := []) ⟨rfl, rfl, rfl, trivial⟩ (Sub.refl _) ?_
      refine AW.loop (fun kq ρ H => ∃ (x6 : Int) (x7 : ByteArray), ρ = [(0, (eI64 x6)), (3, (eStr x7)), (4, (eBool (decide (p0 < (0 : Int)))))] ∧ H = [] ∧ bosketref13_Digits_l2 k p0 kq x6 x7 = some r) k ⟨p0, (ByteArray.mk #[]), rfl, rfl, h⟩ ?_
      rintro kq9 _ _ ⟨x6, x7, rfl, rfl, h⟩
      cases kq9 with
      | zero => rw [bosketref13_Digits_l2.eq_1] at h; cases h
      | succ kq9 =>
      rw [bosketref13_Digits_l2.eq_2] at h
      generalize hrec8 : bosketref13_Digits_l2 k p0 kq9 = rec8 at h
      refine AW.seq ?_
      refine AW.seq ?_
      refine AW.reg ?_
      refine AO.calm rfl 10 rfl (by decide) (eI64 x6) (Calm.move rfl rfl) ?_
      refine AO.calm rfl 11 rfl (by decide) (eBool (decide (x6 ≠ (0 : Int)))) (Calm.int rfl rfl rfl rfl) ?_
      refine AO.nil (ρ' := [(0, (eI64 x6)), (3, (eStr x7)), (4, (eBool (decide (p0 < (0 : Int))))), (11, (eBool (decide (x6 ≠ (0 : Int)))))]) (H' := []) ⟨rfl, rfl, rfl, rfl, trivial⟩ (Sub.refl _) ?_
      by_cases hc10 : x6 ≠ (0 : Int)
      · have h := (if_pos hc10).symm.trans h
        refine AW.condP (x6 ≠ (0 : Int)) rfl hc10 ?_
        refine AW.skip (ρ' := [(0, (eI64 x6)), (3, (eStr x7)), (4, (eBool (decide (p0 < (0 : Int)))))]) (H' := []) ⟨rfl, rfl, rfl, trivial⟩ (Sub.refl _) ?_
        refine AW.block ?_
        refine AW.seq ?_
        refine AW.reg ?_
        refine AO.calm rfl 12 rfl (by decide) (eI64 x6) (Calm.move rfl rfl) ?_
        refine AO.calm rfl 13 rfl (by decide) (eI64 (x6.tmod (10 : Int))) (Calm.rem rfl rfl rfl (by decide)) ?_
        refine AO.calm rfl 5 rfl (by decide) (eI64 (x6.tmod (10 : Int))) (Calm.assign rfl rfl) ?_
        refine AO.nil (ρ' := [(0, (eI64 x6)), (3, (eStr x7)), (4, (eBool (decide (p0 < (0 : Int))))), (5, (eI64 (x6.tmod (10 : Int))))]) (H' := []) ⟨rfl, rfl, rfl, rfl, trivial⟩ (Sub.refl _) ?_
        refine AW.seq_mid (fun ρ H => ∃ (x11 : Int), ρ = [(0, (eI64 x6)), (3, (eStr x7)), (4, (eBool (decide (p0 < (0 : Int))))), (5, (eI64 x11))] ∧ H = [] ∧ bosketref13_Digits_c1 k rec8 x6 x7 x11 = some r) ?_ ?_
        · refine AW.seq ?_
          refine AW.reg ?_
          refine AO.calm rfl 14 rfl (by decide) (eI64 (x6.tmod (10 : Int))) (Calm.move rfl rfl) ?_
          refine AO.calm rfl 15 rfl (by decide) (eBool (decide ((x6.tmod (10 : Int)) < (0 : Int)))) (Calm.int rfl rfl rfl rfl) ?_
          refine AO.nil (ρ' := [(0, (eI64 x6)), (3, (eStr x7)), (4, (eBool (decide (p0 < (0 : Int))))), (5, (eI64 (x6.tmod (10 : Int)))), (15, (eBool (decide ((x6.tmod (10 : Int)) < (0 : Int)))))]) (H' := []) ⟨rfl, rfl, rfl, rfl, rfl, trivial⟩ (Sub.refl _) ?_
          by_cases hc15 : (x6.tmod (10 : Int)) < (0 : Int)
          · have h := (if_pos hc15).symm.trans h
            refine AW.condP ((x6.tmod (10 : Int)) < (0 : Int)) rfl hc15 ?_
            refine AW.reg ?_
            refine AO.calm rfl 16 rfl (by decide) (eI64 (x6.tmod (10 : Int))) (Calm.move rfl rfl) ?_
            refine AO.calm rfl 17 rfl (by decide) (eI64 (IntKind.i64.wrap (0 - (x6.tmod (10 : Int))))) (Calm.neg rfl rfl) ?_
            refine AO.calm rfl 5 rfl (by decide) (eI64 (IntKind.i64.wrap (0 - (x6.tmod (10 : Int))))) (Calm.assign rfl rfl) ?_
            refine AO.nil (ρ' := [(0, (eI64 x6)), (3, (eStr x7)), (4, (eBool (decide (p0 < (0 : Int))))), (5, (eI64 (IntKind.i64.wrap (0 - (x6.tmod (10 : Int))))))]) (H' := []) ⟨rfl, rfl, rfl, rfl, trivial⟩ (Sub.refl _) ?_
            exact ⟨(IntKind.i64.wrap (0 - (x6.tmod (10 : Int)))), rfl, rfl, h⟩
          · have h := (if_neg hc15).symm.trans h
            refine AW.condN ((x6.tmod (10 : Int)) < (0 : Int)) rfl hc15 ?_
            refine AW.skip (ρ' := [(0, (eI64 x6)), (3, (eStr x7)), (4, (eBool (decide (p0 < (0 : Int))))), (5, (eI64 (x6.tmod (10 : Int))))]) (H' := []) ⟨rfl, rfl, rfl, rfl, trivial⟩ (Sub.refl _) ?_
            exact ⟨(x6.tmod (10 : Int)), rfl, rfl, h⟩
        · rintro _ _ ⟨x11, rfl, rfl, h⟩
          rw [bosketref13_Digits_c1.eq_1] at h
          refine AW.seq ?_
          refine AW.reg ?_
          refine AO.calm rfl 18 rfl (by decide) (eI64 x11) (Calm.move rfl rfl) ?_
          refine AO.calm rfl 19 rfl (by decide) (eI64 (w64 ((48 : Int) + x11))) (Calm.int rfl rfl rfl rfl) ?_
          refine AO.calm rfl 20 rfl (by decide) (eU8 (w8 (w64 ((48 : Int) + x11)))) (Calm.conv rfl rfl Try.underlying3 Try.underlying5) ?_
          refine AO.lit (Z := (eU8 (0 : Int))) (xs := (([(w8 (w64 ((48 : Int) + x11)))] : List Int).map eU8)) (qs := [(0, (eU8 (w8 (w64 ((48 : Int) + x11)))))]) rfl 21 rfl (by decide) rfl ⟨rfl, rfl, rfl, trivial⟩ Try.underlying84 sz5 zr5 lay5 rfl (by decide) (litOK (z := 1) [(eU8 (w8 (w64 ((48 : Int) + x11))))] rfl ⟨⟨rfl, rfl⟩, trivial⟩) rfl fun n12 => ?_
          refine AO.calm rfl 22 rfl (by decide) (eStr (strOfNums ([(w8 (w64 ((48 : Int) + x11)))] : List Int))) (Calm.strO 0 rfl rfl rfl Try.underlying84 Try.underlying9 Try.underlying5) ?_
          refine AO.calm rfl 23 rfl (by decide) (eStr x7) (Calm.move rfl rfl) ?_
          obtain ⟨hg13, h⟩ := of_guard h
          refine AO.calm rfl 24 rfl (by decide) (eStr ((strOfNums ([(w8 (w64 ((48 : Int) + x11)))] : List Int)) ++ x7)) (Calm.cat rfl rfl rfl hg13) ?_
          obtain ⟨x14, ex14, h⟩ := of_bind h
          refine AO.calm rfl 3 rfl (by decide) (eStr x14) (Calm.assign rfl (congrArg (fun x => some (eStr x)) (Option.some.inj ex14))) ?_
          refine AO.nil (ρ' := [(0, (eI64 x6)), (3, (eStr x14)), (4, (eBool (decide (p0 < (0 : Int)))))]) (H' := []) ⟨rfl, rfl, rfl, trivial⟩ (Sub.nil _) ?_
          refine AW.reg ?_
          refine AO.calm rfl 25 rfl (by decide) (eI64 x6) (Calm.move rfl rfl) ?_
          refine AO.calm rfl 26 rfl (by decide) (eI64 (IntKind.i64.wrap (x6.tdiv (10 : Int)))) (Calm.quo rfl rfl rfl (by decide)) ?_
          refine AO.calm rfl 0 rfl (by decide) (eI64 (IntKind.i64.wrap (x6.tdiv (10 : Int)))) (Calm.assign rfl rfl) ?_
          refine AO.nil (ρ' := [(0, (eI64 (IntKind.i64.wrap (x6.tdiv (10 : Int))))), (3, (eStr x14)), (4, (eBool (decide (p0 < (0 : Int)))))]) (H' := []) ⟨rfl, rfl, rfl, trivial⟩ (Sub.refl _) ?_
          exact ⟨kq9, Nat.lt_succ_self _, (IntKind.i64.wrap (x6.tdiv (10 : Int))), x14, rfl, rfl, by rw [hrec8]; exact h⟩
      · have h := (if_neg hc10).symm.trans h
        refine AW.condN (x6 ≠ (0 : Int)) rfl hc10 ?_
        refine AW.exit (ρ' := [(3, (eStr x7)), (4, (eBool (decide (p0 < (0 : Int)))))]) (H' := []) ⟨rfl, rfl, trivial⟩ (Sub.refl _) ?_
        exact ⟨x7, rfl, rfl, h⟩
    · rintro _ _ ⟨x3, rfl, rfl, h⟩
      rw [bosketref13_Digits_c0.eq_1] at h
      refine AW.seq ?_
      refine AW.seq ?_
      refine AW.reg ?_
      refine AO.calm rfl 27 rfl (by decide) (eBool (decide (p0 < (0 : Int)))) (Calm.move rfl rfl) ?_
      refine AO.nil (ρ' := [(3, (eStr x3)), (27, (eBool (decide (p0 < (0 : Int)))))]) (H' := []) ⟨rfl, rfl, trivial⟩ (Sub.refl _) ?_
      by_cases hc4 : p0 < (0 : Int)
      · have h := (if_pos hc4).symm.trans h
        refine AW.condP (p0 < (0 : Int)) rfl hc4 ?_
        refine AW.seq ?_
        refine AW.reg ?_
        refine AO.calm rfl 28 rfl (by decide) (eStr x3) (Calm.move rfl rfl) ?_
        obtain ⟨hg5, h⟩ := of_guard h
        refine AO.calm rfl 29 rfl (by decide) (eStr ((ByteArray.mk #[45]) ++ x3)) (Calm.cat rfl rfl rfl hg5) ?_
        refine AO.calm rfl 2 rfl (by decide) (eStr ((ByteArray.mk #[45]) ++ x3)) (Calm.assign rfl rfl) ?_
        refine AO.nil (ρ' := [(2, (eStr ((ByteArray.mk #[45]) ++ x3)))]) (H' := []) ⟨rfl, trivial⟩ (Sub.refl _) ?_
        refine AW.ret (ρ' := [(2, (eStr ((ByteArray.mk #[45]) ++ x3)))]) (H' := []) ⟨rfl, trivial⟩ (Sub.refl _) ?_
        have hr := Option.some.inj h
        subst hr
        exact ⟨[(eStr ((ByteArray.mk #[45]) ++ x3))], ⟨rfl, rfl, trivial⟩, rfl⟩
      · have h := (if_neg hc4).symm.trans h
        refine AW.condN (p0 < (0 : Int)) rfl hc4 ?_
        refine AW.skip (ρ' := [(3, (eStr x3))]) (H' := []) ⟨rfl, trivial⟩ (Sub.refl _) ?_
        refine AW.seq ?_
        refine AW.reg ?_
        refine AO.calm rfl 30 rfl (by decide) (eStr x3) (Calm.move rfl rfl) ?_
        refine AO.calm rfl 2 rfl (by decide) (eStr x3) (Calm.assign rfl rfl) ?_
        refine AO.nil (ρ' := [(2, (eStr x3))]) (H' := []) ⟨rfl, trivial⟩ (Sub.refl _) ?_
        refine AW.ret (ρ' := [(2, (eStr x3))]) (H' := []) ⟨rfl, trivial⟩ (Sub.refl _) ?_
        have hr := Option.some.inj h
        subst hr
        exact ⟨[(eStr x3)], ⟨rfl, rfl, trivial⟩, rfl⟩
end Go.Avl.T2
