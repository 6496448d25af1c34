/- Parts: T3f3. -/
import Derived.Test.YtcdennkoccjacaaAF1
import Derived.Test.YtcdennkoccjacaaAF5
import Derived.Test.YtcdennkoccjacaaAF2
import Derived.Test.YtcdennkoccjacaaAF3
/- bosket/bosketlaw06.NfaSteps; printed by avmain.py. -/
namespace Go.Avl.T3
open Go Go.RowKit Go.Proofs Go.Avl
set_option linter.unusedVariables false
set_option maxRecDepth 100000
set_option maxHeartbeats 4000000
attribute [local irreducible] AW AO AQ Spec SpecH Calm

def bosketlaw06_NfaSteps_c0 (k : Nat) (p0 : S24) (p1 : (List Bool)) (p2 : ByteArray) (t20 : (List (Vector Int 4))) (x21 : Int) (x22 : Int) : Option Bool :=
  Option.bind (α := Bool) (if x21 = (t20.length : Int) then (nfa_Right k p0).bind fun t26 =>
  if t26 = true then (nfa_Close k p0 p1).bind fun t28 =>
  (bosketref06_Close k p0 p1).bind fun t29 =>
  (bosketref06_Same k t28 t29).bind fun t30 =>
  if t30 = true then (nfa_Move k p0 p1 x22).bind fun t32 =>
  (bosketref06_Move k p0 p1 (w64 x22)).bind fun t33 =>
  (bosketref06_Same k t32 t33).bind fun t34 =>
  if t34 = true then (nfa_Has k p0 p2).bind fun t36 =>
  (bosketref06_Run k p0 p2).bind fun t37 =>
  if 0 ≤ p0.f3 ∧ p0.f3 < (t37.length : Int) then some ((t36 == (lget t37 p0.f3)))
  else none
  else some (false)
  else some (false)
  else some (false)
  else some (false)) fun b23 =>
  some (b23)
def bosketlaw06_NfaSteps_c1 (k : Nat) (p0 : S24) (p1 : (List Bool)) (p2 : ByteArray) (t20 : (List (Vector Int 4))) (x21 : Int) : Option Bool :=
  if p2 ≠ (ByteArray.mk #[]) then if 0 ≤ (0 : Int) ∧ (0 : Int) < (p2.size : Int) then bosketlaw06_NfaSteps_c0 k p0 p1 p2 t20 x21 (byteAt p2 (0 : Int))
  else none
  else bosketlaw06_NfaSteps_c0 k p0 p1 p2 t20 x21 (0 : Int)
def bosketlaw06_NfaSteps_c2 (k : Nat) (rec43 : (Int → Int → Option Bool)) (x42 : Int) (x46 : Int) : Option Bool :=
  rec43 x46 (w64 (x42 + (1 : Int)))
def bosketlaw06_NfaSteps_l3 (k : Nat) (p0 : S24) (p1 : (List Bool)) (p2 : ByteArray) (t20 : (List (Vector Int 4))) : Nat → Int → Int → Option Bool
  | 0, _, _ => none
  | j + 1, x41, x42 =>
    if x42 < (p0.f1.length : Int) then if 0 ≤ x42 ∧ x42 < (p0.f1.length : Int) then if ((lget p0.f1 x42).f3) = true then bosketlaw06_NfaSteps_c2 k (bosketlaw06_NfaSteps_l3 k p0 p1 p2 t20 j) x42 x41
    else Option.bind (α := Bool) (if (t20.length : Int) ≤ x41 then some (true)
    else if 0 ≤ x41 ∧ x41 < (t20.length : Int) then if 0 ≤ x42 ∧ x42 < (p0.f1.length : Int) then some (!(decide ((lget t20 x41) = ((lget p0.f1 x42).f2))))
    else none
    else none) fun b49 =>
    if b49 = true then some (false)
    else bosketlaw06_NfaSteps_c2 k (bosketlaw06_NfaSteps_l3 k p0 p1 p2 t20 j) x42 (w64 (x41 + (1 : Int)))
    else none
    else bosketlaw06_NfaSteps_c1 k p0 p1 p2 t20 x41
def bosketlaw06_NfaSteps (k : Nat) (p0 : S24) (p1 : (List Bool)) (p2 : ByteArray) : Option Bool :=
  (bosketlaw06_awake k).bind fun t5 =>
  if (!t5) = true then some (false)
  else Option.bind (α := Bool) (if (60 : Int) < p0.f0 then some (true)
  else if (200 : Int) < (p0.f1.length : Int) then some (true)
  else if (100 : Int) < (p1.length : Int) then some (true)
  else some (decide ((20 : Int) < (p2.size : Int)))) fun b7 =>
  if b7 = true then some (true)
  else (bosketref06_Right k p0).bind fun t13 =>
  if (!t13) = true then Option.bind (α := Bool) ((nfa_Right k p0).bind fun t17 =>
  if (!t17) = true then (nfa_Has k p0 p2).bind fun t19 =>
  some (!t19)
  else some (false)) fun b15 =>
  some (b15)
  else (nfa_Sets k p0).bind fun t20 =>
  bosketlaw06_NfaSteps_l3 k p0 p1 p2 t20 k (0 : Int) (0 : Int)
theorem bosketlaw06_NfaSteps_spec {k : Nat} {p0 : S24} {p1 : (List Bool)} {p2 : ByteArray} {r : Bool} (h : bosketlaw06_NfaSteps k p0 p1 p2 = some r) : Spec Try.prog 3 [(e24 p0), (.fz 1 (p1.map eBool)), (eStr p2)] (eBool r) := by
  rw [bosketlaw06_NfaSteps.eq_1] at h
  refine Spec.intro (res := [.tmp 6]) Try.func3 rfl rfl rfl (Nat.le_of_ble_eq_true rfl) ?_
  refine AW.seq ?_
  refine AW.reg ?_
  refine AO.box rfl 3 rfl (by decide) rfl rfl rfl fun n4 => ?_
  refine AO.calm rfl 6 rfl (by decide) (eBool false) (Calm.assign rfl rfl) ?_
  refine AO.nil (ρ' := [(1, (.fz 1 (p1.map eBool))), (2, (eStr p2)), (3, (.ptr n4 0))]) (H' := [(n4, (.mem (e24 p0)))]) ⟨rfl, rfl, rfl, trivial⟩ (Sub.refl _) ?_
  refine AW.seq ?_
  refine AW.seq ?_
  refine AW.reg ?_
  obtain ⟨t5, et5, h⟩ := of_bind h
  refine AO.callS [] (eBool t5) 11 rfl (by decide) ok9 rfl rfl rfl trivial (bosketlaw06_awake_spec et5) ?_
  refine AO.calm rfl 12 rfl (by decide) (eBool (!t5)) (Calm.not rfl rfl) ?_
  refine AO.nil (ρ' := [(1, (.fz 1 (p1.map eBool))), (2, (eStr p2)), (3, (.ptr n4 0)), (12, (eBool (!t5)))]) (H' := [(n4, (.mem (e24 p0)))]) ⟨rfl, rfl, rfl, rfl, trivial⟩ (Sub.refl _) ?_
  by_cases hc6 : (!t5) = true
  · have h := (if_pos hc6).symm.trans h
    refine AW.condT' (!t5) rfl hc6 ?_
    refine AW.seq ?_
    refine AW.reg ?_
    refine AO.calm rfl 6 rfl (by decide) (eBool false) (Calm.assign rfl rfl) ?_
    refine AO.nil (ρ' := [(6, (eBool false))]) (H' := []) ⟨rfl, trivial⟩ (Sub.nil _) ?_
    refine AW.ret (ρ' := [(6, (eBool false))]) (H' := []) ⟨rfl, trivial⟩ (Sub.refl _) ?_
    have hr := Option.some.inj h
    subst hr
    exact ⟨[(eBool false)], ⟨rfl, rfl, trivial⟩, rfl⟩
  · have h := (if_neg hc6).symm.trans h
    refine AW.condF' (!t5) rfl hc6 ?_
    refine AW.skip (ρ' := [(1, (.fz 1 (p1.map eBool))), (2, (eStr p2)), (3, (.ptr n4 0))]) (H' := [(n4, (.mem (e24 p0)))]) ⟨rfl, rfl, rfl, trivial⟩ (Sub.refl _) ?_
    refine AW.seq ?_
    refine AW.seq ?_
    obtain ⟨b7, hq8, h⟩ := of_bind h
    refine AW.regM [(1, (.fz 1 (p1.map eBool))), (2, (eStr p2)), (3, (.ptr n4 0)), (31, (eBool b7))] [(n4, (.mem (e24 p0)))] ?_ ?_
    · refine AO.calm rfl 13 rfl (by decide) (.ptr n4 0) (Calm.fldPtr rfl rfl Try.underlying24 rfl sz3 _ rfl) ?_
      refine AO.calm rfl 14 rfl (by decide) (eI64 p0.f0) (Calm.load 0 rfl rfl rfl (At.cast (At.fld0 At.here) rfl) ag3 sz3) ?_
      refine AO.calm rfl 15 rfl (by decide) (eBool (decide ((60 : Int) < p0.f0))) (Calm.int rfl rfl rfl rfl) ?_
      refine AO.calm rfl 16 rfl (by decide) (eBool (decide ((60 : Int) < p0.f0))) (Calm.move rfl rfl) ?_
      by_cases hc9 : (60 : Int) < p0.f0
      · have hq8 := (if_pos hc9).symm.trans hq8
        refine AO.skipG 3 true 16 rfl rfl (congrArg (fun b => some (AV.fl (Value.bool b))) (decide_eq_true hc9)) 17 rfl (by decide) ?_
        refine AO.skipG 3 true 16 rfl rfl (congrArg (fun b => some (AV.fl (Value.bool b))) (decide_eq_true hc9)) 18 rfl (by decide) ?_
        refine AO.skipG 3 true 16 rfl rfl (congrArg (fun b => some (AV.fl (Value.bool b))) (decide_eq_true hc9)) 19 rfl (by decide) ?_
        refine AO.skipG 3 true 16 rfl rfl (congrArg (fun b => some (AV.fl (Value.bool b))) (decide_eq_true hc9)) 20 rfl (by decide) ?_
        refine AO.calm rfl 21 rfl (by decide) (eBool true) (Calm.pickT rfl (congrArg (fun b => some (AV.fl (Value.bool b))) (decide_eq_true hc9)) rfl) ?_
        refine AO.calm rfl 22 rfl (by decide) (eBool true) (Calm.move rfl rfl) ?_
        refine AO.skipG 9 true 22 rfl rfl rfl 23 rfl (by decide) ?_
        refine AO.skipG 9 true 22 rfl rfl rfl 24 rfl (by decide) ?_
        refine AO.skipG 9 true 22 rfl rfl rfl 25 rfl (by decide) ?_
        refine AO.calm rfl 26 rfl (by decide) (eBool true) (Calm.pickT rfl rfl rfl) ?_
        refine AO.calm rfl 27 rfl (by decide) (eBool true) (Calm.move rfl rfl) ?_
        refine AO.skipG 14 true 27 rfl rfl rfl 28 rfl (by decide) ?_
        refine AO.skipG 14 true 27 rfl rfl rfl 29 rfl (by decide) ?_
        refine AO.skipG 14 true 27 rfl rfl rfl 30 rfl (by decide) ?_
        refine AO.calm rfl 31 rfl (by decide) (eBool true) (Calm.pickT rfl rfl rfl) ?_
        cases hq8
        refine AO.nilE ⟨rfl, rfl⟩ ?_ ?_
        · exact ⟨rfl, rfl, rfl, rfl, trivial⟩
        · exact (Sub.refl _)
      · have hq8 := (if_neg hc9).symm.trans hq8
        refine AO.calmG 3 false 16 rfl rfl (congrArg (fun b => some (AV.fl (Value.bool b))) (decide_eq_false hc9)) 17 rfl (by decide) (.ptr n4 1) (Calm.fldPtr rfl rfl Try.underlying24 rfl sz22 _ rfl) ?_
        refine AO.calmG 3 false 16 rfl rfl (congrArg (fun b => some (AV.fl (Value.bool b))) (decide_eq_false hc9)) 18 rfl (by decide) (.fz 7 (p0.f1.map e35)) (Calm.load 0 rfl rfl rfl (At.cast (At.fldS (At.fld0 At.here)) rfl) ag22 sz22) ?_
        refine AO.calmG 3 false 16 rfl rfl (congrArg (fun b => some (AV.fl (Value.bool b))) (decide_eq_false hc9)) 19 rfl (by decide) (eI64 (p0.f1.length : Int)) (Calm.lenL rfl rfl Try.underlying22) ?_
        refine AO.calmG 3 false 16 rfl rfl (congrArg (fun b => some (AV.fl (Value.bool b))) (decide_eq_false hc9)) 20 rfl (by decide) (eBool (decide ((200 : Int) < (p0.f1.length : Int)))) (Calm.int rfl rfl rfl rfl) ?_
        refine AO.calm rfl 21 rfl (by decide) (eBool (decide ((200 : Int) < (p0.f1.length : Int)))) (Calm.pickF rfl (congrArg (fun b => some (AV.fl (Value.bool b))) (decide_eq_false hc9)) rfl) ?_
        refine AO.calm rfl 22 rfl (by decide) (eBool (decide ((200 : Int) < (p0.f1.length : Int)))) (Calm.move rfl rfl) ?_
        by_cases hc10 : (200 : Int) < (p0.f1.length : Int)
        · have hq8 := (if_pos hc10).symm.trans hq8
          refine AO.skipG 9 true 22 rfl rfl (congrArg (fun b => some (AV.fl (Value.bool b))) (decide_eq_true hc10)) 23 rfl (by decide) ?_
          refine AO.skipG 9 true 22 rfl rfl (congrArg (fun b => some (AV.fl (Value.bool b))) (decide_eq_true hc10)) 24 rfl (by decide) ?_
          refine AO.skipG 9 true 22 rfl rfl (congrArg (fun b => some (AV.fl (Value.bool b))) (decide_eq_true hc10)) 25 rfl (by decide) ?_
          refine AO.calm rfl 26 rfl (by decide) (eBool true) (Calm.pickT rfl (congrArg (fun b => some (AV.fl (Value.bool b))) (decide_eq_true hc10)) rfl) ?_
          refine AO.calm rfl 27 rfl (by decide) (eBool true) (Calm.move rfl rfl) ?_
          refine AO.skipG 14 true 27 rfl rfl rfl 28 rfl (by decide) ?_
          refine AO.skipG 14 true 27 rfl rfl rfl 29 rfl (by decide) ?_
          refine AO.skipG 14 true 27 rfl rfl rfl 30 rfl (by decide) ?_
          refine AO.calm rfl 31 rfl (by decide) (eBool true) (Calm.pickT rfl rfl rfl) ?_
          cases hq8
          refine AO.nilE ⟨rfl, rfl⟩ ?_ ?_
          · exact ⟨rfl, rfl, rfl, rfl, trivial⟩
          · exact (Sub.refl _)
        · have hq8 := (if_neg hc10).symm.trans hq8
          refine AO.calmG 9 false 22 rfl rfl (congrArg (fun b => some (AV.fl (Value.bool b))) (decide_eq_false hc10)) 23 rfl (by decide) (.fz 1 (p1.map eBool)) (Calm.move rfl rfl) ?_
          refine AO.calmG 9 false 22 rfl rfl (congrArg (fun b => some (AV.fl (Value.bool b))) (decide_eq_false hc10)) 24 rfl (by decide) (eI64 (p1.length : Int)) (Calm.lenL rfl rfl Try.underlying25) ?_
          refine AO.calmG 9 false 22 rfl rfl (congrArg (fun b => some (AV.fl (Value.bool b))) (decide_eq_false hc10)) 25 rfl (by decide) (eBool (decide ((100 : Int) < (p1.length : Int)))) (Calm.int rfl rfl rfl rfl) ?_
          refine AO.calm rfl 26 rfl (by decide) (eBool (decide ((100 : Int) < (p1.length : Int)))) (Calm.pickF rfl (congrArg (fun b => some (AV.fl (Value.bool b))) (decide_eq_false hc10)) rfl) ?_
          refine AO.calm rfl 27 rfl (by decide) (eBool (decide ((100 : Int) < (p1.length : Int)))) (Calm.move rfl rfl) ?_
          by_cases hc11 : (100 : Int) < (p1.length : Int)
          · have hq8 := (if_pos hc11).symm.trans hq8
            refine AO.skipG 14 true 27 rfl rfl (congrArg (fun b => some (AV.fl (Value.bool b))) (decide_eq_true hc11)) 28 rfl (by decide) ?_
            refine AO.skipG 14 true 27 rfl rfl (congrArg (fun b => some (AV.fl (Value.bool b))) (decide_eq_true hc11)) 29 rfl (by decide) ?_
            refine AO.skipG 14 true 27 rfl rfl (congrArg (fun b => some (AV.fl (Value.bool b))) (decide_eq_true hc11)) 30 rfl (by decide) ?_
            refine AO.calm rfl 31 rfl (by decide) (eBool true) (Calm.pickT rfl (congrArg (fun b => some (AV.fl (Value.bool b))) (decide_eq_true hc11)) rfl) ?_
            cases hq8
            refine AO.nilE ⟨rfl, rfl⟩ ?_ ?_
            · exact ⟨rfl, rfl, rfl, rfl, trivial⟩
            · exact (Sub.refl _)
          · have hq8 := (if_neg hc11).symm.trans hq8
            refine AO.calmG 14 false 27 rfl rfl (congrArg (fun b => some (AV.fl (Value.bool b))) (decide_eq_false hc11)) 28 rfl (by decide) (eStr p2) (Calm.move rfl rfl) ?_
            refine AO.calmG 14 false 27 rfl rfl (congrArg (fun b => some (AV.fl (Value.bool b))) (decide_eq_false hc11)) 29 rfl (by decide) (eI64 (p2.size : Int)) (Calm.lenStr rfl rfl Try.underlying9) ?_
            refine AO.calmG 14 false 27 rfl rfl (congrArg (fun b => some (AV.fl (Value.bool b))) (decide_eq_false hc11)) 30 rfl (by decide) (eBool (decide ((20 : Int) < (p2.size : Int)))) (Calm.int rfl rfl rfl rfl) ?_
            refine AO.calm rfl 31 rfl (by decide) (eBool (decide ((20 : Int) < (p2.size : Int)))) (Calm.pickF rfl (congrArg (fun b => some (AV.fl (Value.bool b))) (decide_eq_false hc11)) rfl) ?_
            cases hq8
            refine AO.nilE ⟨rfl, rfl⟩ ?_ ?_
            · exact ⟨rfl, rfl, rfl, rfl, trivial⟩
            · exact (Sub.refl _)
    · by_cases hc12 : b7 = true
      · have h := (if_pos hc12).symm.trans h
        refine AW.condT' b7 rfl hc12 ?_
        refine AW.seq ?_
        refine AW.reg ?_
        refine AO.calm rfl 6 rfl (by decide) (eBool true) (Calm.assign rfl rfl) ?_
        refine AO.nil (ρ' := [(6, (eBool true))]) (H' := []) ⟨rfl, trivial⟩ (Sub.nil _) ?_
        refine AW.ret (ρ' := [(6, (eBool true))]) (H' := []) ⟨rfl, trivial⟩ (Sub.refl _) ?_
        have hr := Option.some.inj h
        subst hr
        exact ⟨[(eBool true)], ⟨rfl, rfl, trivial⟩, rfl⟩
      · have h := (if_neg hc12).symm.trans h
        refine AW.condF' b7 rfl hc12 ?_
        refine AW.skip (ρ' := [(1, (.fz 1 (p1.map eBool))), (2, (eStr p2)), (3, (.ptr n4 0))]) (H' := [(n4, (.mem (e24 p0)))]) ⟨rfl, rfl, rfl, trivial⟩ (Sub.refl _) ?_
        refine AW.seq ?_
        refine AW.seq ?_
        refine AW.reg ?_
        refine AO.calm rfl 32 rfl (by decide) (e24 p0) (Calm.load 0 rfl rfl rfl (At.cast At.here rfl) ag24 sz24) ?_
        obtain ⟨t13, et13, h⟩ := of_bind h
        refine AO.callS [(e24 p0)] (eBool t13) 33 rfl (by decide) ok10 rfl rfl rfl ⟨rfl, rfl, trivial⟩ (bosketref06_Right_spec et13) ?_
        refine AO.calm rfl 34 rfl (by decide) (eBool (!t13)) (Calm.not rfl rfl) ?_
        refine AO.nil (ρ' := [(1, (.fz 1 (p1.map eBool))), (2, (eStr p2)), (3, (.ptr n4 0)), (34, (eBool (!t13)))]) (H' := [(n4, (.mem (e24 p0)))]) ⟨rfl, rfl, rfl, rfl, trivial⟩ (Sub.refl _) ?_
        by_cases hc14 : (!t13) = true
        · have h := (if_pos hc14).symm.trans h
          refine AW.condT' (!t13) rfl hc14 ?_
          refine AW.seq ?_
          obtain ⟨b15, hq16, h⟩ := of_bind h
          refine AW.regM [(6, (eBool b15))] [] ?_ ?_
          · refine AO.calm rfl 35 rfl (by decide) (e24 p0) (Calm.load 0 rfl rfl rfl (At.cast At.here rfl) ag24 sz24) ?_
            obtain ⟨t17, et17, hq16⟩ := of_bind hq16
            refine AO.callS [(e24 p0)] (eBool t17) 36 rfl (by decide) ok11 rfl rfl rfl ⟨rfl, rfl, trivial⟩ (nfa_Right_spec et17) ?_
            refine AO.calm rfl 37 rfl (by decide) (eBool (!t17)) (Calm.not rfl rfl) ?_
            refine AO.calm rfl 38 rfl (by decide) (eBool (!t17)) (Calm.move rfl rfl) ?_
            by_cases hc18 : (!t17) = true
            · have hq16 := (if_pos hc18).symm.trans hq16
              refine AO.calmG 3 true 38 rfl rfl (congrArg (fun b => some (AV.fl (Value.bool b))) hc18) 39 rfl (by decide) (e24 p0) (Calm.load 0 rfl rfl rfl (At.cast At.here rfl) ag24 sz24) ?_
              refine AO.calmG 3 true 38 rfl rfl (congrArg (fun b => some (AV.fl (Value.bool b))) hc18) 40 rfl (by decide) (eStr p2) (Calm.move rfl rfl) ?_
              obtain ⟨t19, et19, hq16⟩ := of_bind hq16
              refine AO.callG 3 true 38 [(e24 p0), (eStr p2)] (eBool t19) 41 rfl (by decide) ok12 rfl rfl (congrArg (fun b => some (AV.fl (Value.bool b))) hc18) rfl rfl ⟨rfl, rfl, rfl, rfl, trivial⟩ (nfa_Has_spec et19) ?_
              refine AO.calmG 3 true 38 rfl rfl (congrArg (fun b => some (AV.fl (Value.bool b))) hc18) 42 rfl (by decide) (eBool (!t19)) (Calm.not rfl rfl) ?_
              refine AO.calm rfl 43 rfl (by decide) (eBool (!t19)) (Calm.pickT rfl (congrArg (fun b => some (AV.fl (Value.bool b))) hc18) rfl) ?_
              refine AO.calm rfl 6 rfl (by decide) (eBool (!t19)) (Calm.assign rfl rfl) ?_
              cases hq16
              refine AO.nilE ⟨rfl, rfl⟩ ?_ ?_
              · exact ⟨rfl, trivial⟩
              · exact (Sub.nil _)
            · have hq16 := (if_neg hc18).symm.trans hq16
              refine AO.skipG 3 false 38 rfl rfl (congrArg (fun b => some (AV.fl (Value.bool b))) (eq_false_of_ne_true hc18)) 39 rfl (by decide) ?_
              refine AO.skipG 3 false 38 rfl rfl (congrArg (fun b => some (AV.fl (Value.bool b))) (eq_false_of_ne_true hc18)) 40 rfl (by decide) ?_
              refine AO.skipG 3 false 38 rfl rfl (congrArg (fun b => some (AV.fl (Value.bool b))) (eq_false_of_ne_true hc18)) 41 rfl (by decide) ?_
              refine AO.skipG 3 false 38 rfl rfl (congrArg (fun b => some (AV.fl (Value.bool b))) (eq_false_of_ne_true hc18)) 42 rfl (by decide) ?_
              refine AO.calm rfl 43 rfl (by decide) (eBool false) (Calm.pickF rfl (congrArg (fun b => some (AV.fl (Value.bool b))) (eq_false_of_ne_true hc18)) rfl) ?_
              refine AO.calm rfl 6 rfl (by decide) (eBool false) (Calm.assign rfl rfl) ?_
              cases hq16
              refine AO.nilE ⟨rfl, rfl⟩ ?_ ?_
              · exact ⟨rfl, trivial⟩
              · exact (Sub.nil _)
          · refine AW.ret (ρ' := [(6, (eBool b15))]) (H' := []) ⟨rfl, trivial⟩ (Sub.refl _) ?_
            have hr := Option.some.inj h
            subst hr
            exact ⟨[(eBool b15)], ⟨rfl, rfl, trivial⟩, rfl⟩
        · have h := (if_neg hc14).symm.trans h
          refine AW.condF' (!t13) rfl hc14 ?_
          refine AW.skip (ρ' := [(1, (.fz 1 (p1.map eBool))), (2, (eStr p2)), (3, (.ptr n4 0))]) (H' := [(n4, (.mem (e24 p0)))]) ⟨rfl, rfl, rfl, trivial⟩ (Sub.refl _) ?_
          refine AW.seq ?_
          refine AW.reg ?_
          refine AO.calm rfl 44 rfl (by decide) (e24 p0) (Calm.load 0 rfl rfl rfl (At.cast At.here rfl) ag24 sz24) ?_
          obtain ⟨t20, et20, h⟩ := of_bind h
          refine AO.callS [(e24 p0)] (.fz 4 (t20.map e33)) 45 rfl (by decide) ok13 rfl rfl rfl ⟨rfl, rfl, trivial⟩ (nfa_Sets_spec et20) ?_
          refine AO.calm rfl 7 rfl (by decide) (.fz 4 (t20.map e33)) (Calm.assign rfl rfl) ?_
          refine AO.nil (ρ' := [(1, (.fz 1 (p1.map eBool))), (2, (eStr p2)), (3, (.ptr n4 0)), (7, (.fz 4 (t20.map e33)))]) (H' := [(n4, (.mem (e24 p0)))]) ⟨rfl, rfl, rfl, rfl, trivial⟩ (Sub.refl _) ?_
          refine AW.seq ?_
          refine AW.reg ?_
          refine AO.calm rfl 8 rfl (by decide) (eI64 (0 : Int)) (Calm.assign rfl rfl) ?_
          refine AO.nil (ρ' := [(1, (.fz 1 (p1.map eBool))), (2, (eStr p2)), (3, (.ptr n4 0)), (7, (.fz 4 (t20.map e33))), (8, (eI64 (0 : Int)))]) (H' := [(n4, (.mem (e24 p0)))]) ⟨rfl, rfl, rfl, rfl, rfl, trivial⟩ (Sub.refl _) ?_
          refine AW.seq_mid (fun ρ H => ∃ (x21 : Int), ρ = [(1, (.fz 1 (p1.map eBool))), (2, (eStr p2)), (3, (.ptr n4 0)), (7, (.fz 4 (t20.map e33))), (8, (eI64 x21))] ∧ H = [(n4, (.mem (e24 p0)))] ∧ bosketlaw06_NfaSteps_c1 k p0 p1 p2 t20 x21 = some r) ?_ ?_
          · refine AW.seq ?_
            refine AW.reg ?_
            refine AO.calm rfl 9 rfl (by decide) (eI64 (0 : Int)) (Calm.assign rfl rfl) ?_
            refine AO.nil (ρ' := [(1, (.fz 1 (p1.map eBool))), (2, (eStr p2)), (3, (.ptr n4 0)), (7, (.fz 4 (t20.map e33))), (8, (eI64 (0 : Int))), (9, (eI64 (0 : Int)))]) (H' := [(n4, (.mem (e24 p0)))]) ⟨rfl, rfl, rfl, rfl, rfl, rfl, trivial⟩ (Sub.refl _) ?_
            refine AW.block ?_
            refine AW.weak (ρ' := [(1, (.fz 1 (p1.map eBool))), (2, (eStr p2)), (3, (.ptr n4 0)), (7, (.fz 4 (t20.map e33))), (8, (eI64 (0 : Int))), (9, (eI64 (0 : Int)))]) (H' := [(n4, (.mem (e24 p0)))]) ⟨rfl, rfl, rfl, rfl, rfl, rfl, trivial⟩ (Sub.refl _) ?_
            refine AW.loop (fun kq ρ H => ∃ (x41 : Int) (x42 : Int), ρ = [(1, (.fz 1 (p1.map eBool))), (2, (eStr p2)), (3, (.ptr n4 0)), (7, (.fz 4 (t20.map e33))), (8, (eI64 x41)), (9, (eI64 x42))] ∧ H = [(n4, (.mem (e24 p0)))] ∧ bosketlaw06_NfaSteps_l3 k p0 p1 p2 t20 kq x41 x42 = some r) k ⟨(0 : Int), (0 : Int), rfl, rfl, h⟩ ?_
            rintro kq44 _ _ ⟨x41, x42, rfl, rfl, h⟩
            cases kq44 with
            | zero => rw [bosketlaw06_NfaSteps_l3.eq_1] at h; cases h
            | succ kq44 =>
            rw [bosketlaw06_NfaSteps_l3.eq_2] at h
            generalize hrec43 : bosketlaw06_NfaSteps_l3 k p0 p1 p2 t20 kq44 = rec43 at h
            refine AW.seq ?_
            refine AW.seq ?_
            refine AW.reg ?_
            refine AO.calm rfl 46 rfl (by decide) (eI64 x42) (Calm.move rfl rfl) ?_
            refine AO.calm rfl 47 rfl (by decide) (.ptr n4 1) (Calm.fldPtr rfl rfl Try.underlying24 rfl sz22 _ rfl) ?_
            refine AO.calm rfl 48 rfl (by decide) (.fz 7 (p0.f1.map e35)) (Calm.load 0 rfl rfl rfl (At.cast (At.fldS (At.fld0 At.here)) rfl) ag22 sz22) ?_
            refine AO.calm rfl 49 rfl (by decide) (eI64 (p0.f1.length : Int)) (Calm.lenL rfl rfl Try.underlying22) ?_
            refine AO.calm rfl 50 rfl (by decide) (eBool (decide (x42 < (p0.f1.length : Int)))) (Calm.int rfl rfl rfl rfl) ?_
            refine AO.nil (ρ' := [(1, (.fz 1 (p1.map eBool))), (2, (eStr p2)), (3, (.ptr n4 0)), (7, (.fz 4 (t20.map e33))), (8, (eI64 x41)), (9, (eI64 x42)), (50, (eBool (decide (x42 < (p0.f1.length : Int)))))]) (H' := [(n4, (.mem (e24 p0)))]) ⟨rfl, rfl, rfl, rfl, rfl, rfl, rfl, trivial⟩ (Sub.refl _) ?_
            by_cases hc45 : x42 < (p0.f1.length : Int)
            · have h := (if_pos hc45).symm.trans h
              refine AW.condP (x42 < (p0.f1.length : Int)) rfl hc45 ?_
              refine AW.skip (ρ' := [(1, (.fz 1 (p1.map eBool))), (2, (eStr p2)), (3, (.ptr n4 0)), (7, (.fz 4 (t20.map e33))), (8, (eI64 x41)), (9, (eI64 x42))]) (H' := [(n4, (.mem (e24 p0)))]) ⟨rfl, rfl, rfl, rfl, rfl, rfl, trivial⟩ (Sub.refl _) ?_
              refine AW.seq_mid (fun ρ H => ∃ (x46 : Int), ρ = [(1, (.fz 1 (p1.map eBool))), (2, (eStr p2)), (3, (.ptr n4 0)), (7, (.fz 4 (t20.map e33))), (8, (eI64 x46)), (9, (eI64 x42))] ∧ H = [(n4, (.mem (e24 p0)))] ∧ bosketlaw06_NfaSteps_c2 k rec43 x42 x46 = some r) ?_ ?_
              · refine AW.block ?_
                refine AW.seq ?_
                refine AW.seq ?_
                refine AW.reg ?_
                refine AO.calm rfl 53 rfl (by decide) (.ptr n4 1) (Calm.fldPtr rfl rfl Try.underlying24 rfl sz22 _ rfl) ?_
                refine AO.calm rfl 54 rfl (by decide) (.fz 7 (p0.f1.map e35)) (Calm.load 0 rfl rfl rfl (At.cast (At.fldS (At.fld0 At.here)) rfl) ag22 sz22) ?_
                refine AO.calm rfl 55 rfl (by decide) (eI64 x42) (Calm.move rfl rfl) ?_
                obtain ⟨hg47, h⟩ := of_guard h
                refine AO.calm rfl 56 rfl (by decide) (.rp (e35 (lget p0.f1 x42))) (Calm.idxL (f := e35) rfl rfl rfl hg47 Try.underlying22 sz35) ?_
                refine AO.calm rfl 57 rfl (by decide) (.rp (eBool ((lget p0.f1 x42).f3))) (Calm.fldRp rfl rfl Try.underlying35 rfl sz4 (At.cast (At.fldS (At.fldS (At.fldS (At.fld0 At.here)))) rfl)) ?_
                refine AO.calm rfl 58 rfl (by decide) (eBool ((lget p0.f1 x42).f3)) (Calm.loadRp rfl rfl ag4 sz4) ?_
                refine AO.nil (ρ' := [(1, (.fz 1 (p1.map eBool))), (2, (eStr p2)), (3, (.ptr n4 0)), (7, (.fz 4 (t20.map e33))), (8, (eI64 x41)), (9, (eI64 x42)), (58, (eBool ((lget p0.f1 x42).f3)))]) (H' := [(n4, (.mem (e24 p0)))]) ⟨rfl, rfl, rfl, rfl, rfl, rfl, rfl, trivial⟩ (Sub.refl _) ?_
                by_cases hc48 : ((lget p0.f1 x42).f3) = true
                · have h := (if_pos hc48).symm.trans h
                  refine AW.condT' ((lget p0.f1 x42).f3) rfl hc48 ?_
                  refine AW.exit (ρ' := [(1, (.fz 1 (p1.map eBool))), (2, (eStr p2)), (3, (.ptr n4 0)), (7, (.fz 4 (t20.map e33))), (8, (eI64 x41)), (9, (eI64 x42))]) (H' := [(n4, (.mem (e24 p0)))]) ⟨rfl, rfl, rfl, rfl, rfl, rfl, trivial⟩ (Sub.refl _) ?_
                  exact ⟨x41, rfl, rfl, h⟩
                · have h := (if_neg hc48).symm.trans h
                  refine AW.condF' ((lget p0.f1 x42).f3) rfl hc48 ?_
                  refine AW.skip (ρ' := [(1, (.fz 1 (p1.map eBool))), (2, (eStr p2)), (3, (.ptr n4 0)), (7, (.fz 4 (t20.map e33))), (8, (eI64 x41)), (9, (eI64 x42))]) (H' := [(n4, (.mem (e24 p0)))]) ⟨rfl, rfl, rfl, rfl, rfl, rfl, trivial⟩ (Sub.refl _) ?_
                  refine AW.seq ?_
                  refine AW.seq ?_
                  obtain ⟨b49, hq50, h⟩ := of_bind h
                  refine AW.regQM (by rfl) (by decide +kernel) [(1, (.fz 1 (p1.map eBool))), (2, (eStr p2)), (3, (.ptr n4 0)), (7, (.fz 4 (t20.map e33))), (8, (eI64 x41)), (9, (eI64 x42)), (75, (eBool b49))] ?_ ?_
                  · refine AQ.calm rfl 59 rfl (by decide) (eI64 x41) (Calm.move rfl rfl) ?_
                    refine AQ.calm rfl 60 rfl (by decide) (.fz 4 (t20.map e33)) (Calm.move rfl rfl) ?_
                    refine AQ.calm rfl 61 rfl (by decide) (eI64 (t20.length : Int)) (Calm.lenL rfl rfl Try.underlying29) ?_
                    refine AQ.calm rfl 62 rfl (by decide) (eBool (decide ((t20.length : Int) ≤ x41))) (Calm.int rfl rfl rfl rfl) ?_
                    refine AQ.calm rfl 63 rfl (by decide) (eBool (decide ((t20.length : Int) ≤ x41))) (Calm.move rfl rfl) ?_
                    by_cases hc51 : (t20.length : Int) ≤ x41
                    · have hq50 := (if_pos hc51).symm.trans hq50
                      refine AQ.skipG 4 true 63 rfl rfl (congrArg (fun b => some (AV.fl (Value.bool b))) (decide_eq_true hc51)) 64 rfl (by decide) ?_
                      refine AQ.skipG 4 true 63 rfl rfl (congrArg (fun b => some (AV.fl (Value.bool b))) (decide_eq_true hc51)) 65 rfl (by decide) ?_
                      refine AQ.skipG 4 true 63 rfl rfl (congrArg (fun b => some (AV.fl (Value.bool b))) (decide_eq_true hc51)) 66 rfl (by decide) ?_
                      refine AQ.skipG 4 true 63 rfl rfl (congrArg (fun b => some (AV.fl (Value.bool b))) (decide_eq_true hc51)) 67 rfl (by decide) ?_
                      refine AQ.skipG 4 true 63 rfl rfl (congrArg (fun b => some (AV.fl (Value.bool b))) (decide_eq_true hc51)) 68 rfl (by decide) ?_
                      refine AQ.skipG 4 true 63 rfl rfl (congrArg (fun b => some (AV.fl (Value.bool b))) (decide_eq_true hc51)) 69 rfl (by decide) ?_
                      refine AQ.skipG 4 true 63 rfl rfl (congrArg (fun b => some (AV.fl (Value.bool b))) (decide_eq_true hc51)) 70 rfl (by decide) ?_
                      refine AQ.skipG 4 true 63 rfl rfl (congrArg (fun b => some (AV.fl (Value.bool b))) (decide_eq_true hc51)) 71 rfl (by decide) ?_
                      refine AQ.skipG 4 true 63 rfl rfl (congrArg (fun b => some (AV.fl (Value.bool b))) (decide_eq_true hc51)) 72 rfl (by decide) ?_
                      refine AQ.skipG 4 true 63 rfl rfl (congrArg (fun b => some (AV.fl (Value.bool b))) (decide_eq_true hc51)) 73 rfl (by decide) ?_
                      refine AQ.skipG 4 true 63 rfl rfl (congrArg (fun b => some (AV.fl (Value.bool b))) (decide_eq_true hc51)) 74 rfl (by decide) ?_
                      refine AQ.calm rfl 75 rfl (by decide) (eBool true) (Calm.pickT rfl (congrArg (fun b => some (AV.fl (Value.bool b))) (decide_eq_true hc51)) rfl) ?_
                      cases hq50
                      refine AQ.nilE rfl ?_
                      exact ⟨rfl, rfl, rfl, rfl, rfl, rfl, rfl, trivial⟩
                    · have hq50 := (if_neg hc51).symm.trans hq50
                      refine AQ.calmG 4 false 63 rfl rfl (congrArg (fun b => some (AV.fl (Value.bool b))) (decide_eq_false hc51)) 64 rfl (by decide) (.fz 4 (t20.map e33)) (Calm.move rfl rfl) ?_
                      refine AQ.calmG 4 false 63 rfl rfl (congrArg (fun b => some (AV.fl (Value.bool b))) (decide_eq_false hc51)) 65 rfl (by decide) (eI64 x41) (Calm.move rfl rfl) ?_
                      obtain ⟨hg52, hq50⟩ := of_guard hq50
                      refine AQ.calmG 4 false 63 rfl rfl (congrArg (fun b => some (AV.fl (Value.bool b))) (decide_eq_false hc51)) 66 rfl (by decide) (.rp (.ar 1 ((lget t20 x41).toList.map eU64))) (Calm.idxL (f := e33) rfl rfl rfl hg52 Try.underlying29 sz33) ?_
                      refine AQ.calmG 4 false 63 rfl rfl (congrArg (fun b => some (AV.fl (Value.bool b))) (decide_eq_false hc51)) 67 rfl (by decide) (.ar 1 ((lget t20 x41).toList.map eU64)) (Calm.loadRp rfl rfl ag33 (by rw [sz33]; simp [AV.size])) ?_
                      refine AQ.calmG 4 false 63 rfl rfl (congrArg (fun b => some (AV.fl (Value.bool b))) (decide_eq_false hc51)) 68 rfl (by decide) (.ptr n4 1) (Calm.fldPtr rfl rfl Try.underlying24 rfl sz22 _ rfl) ?_
                      refine AQ.calmG 4 false 63 rfl rfl (congrArg (fun b => some (AV.fl (Value.bool b))) (decide_eq_false hc51)) 69 rfl (by decide) (.fz 7 (p0.f1.map e35)) (Calm.load 0 rfl rfl rfl (At.cast (At.fldS (At.fld0 At.here)) rfl) ag22 sz22) ?_
                      refine AQ.calmG 4 false 63 rfl rfl (congrArg (fun b => some (AV.fl (Value.bool b))) (decide_eq_false hc51)) 70 rfl (by decide) (eI64 x42) (Calm.move rfl rfl) ?_
                      obtain ⟨hg53, hq50⟩ := of_guard hq50
                      refine AQ.calmG 4 false 63 rfl rfl (congrArg (fun b => some (AV.fl (Value.bool b))) (decide_eq_false hc51)) 71 rfl (by decide) (.rp (e35 (lget p0.f1 x42))) (Calm.idxL (f := e35) rfl rfl rfl hg53 Try.underlying22 sz35) ?_
                      refine AQ.calmG 4 false 63 rfl rfl (congrArg (fun b => some (AV.fl (Value.bool b))) (decide_eq_false hc51)) 72 rfl (by decide) (.rp (.ar 1 (((lget p0.f1 x42).f2).toList.map eU64))) (Calm.fldRp rfl rfl Try.underlying35 rfl sz33 (At.cast (At.fldS (At.fldS (At.fld0 At.here))) rfl)) ?_
                      refine AQ.calmG 4 false 63 rfl rfl (congrArg (fun b => some (AV.fl (Value.bool b))) (decide_eq_false hc51)) 73 rfl (by decide) (.ar 1 (((lget p0.f1 x42).f2).toList.map eU64)) (Calm.loadRp rfl rfl ag33 (by rw [sz33]; simp [AV.size])) ?_
                      refine AQ.calmG 4 false 63 rfl rfl (congrArg (fun b => some (AV.fl (Value.bool b))) (decide_eq_false hc51)) 74 rfl (by decide) (eBool (!(decide ((lget t20 x41) = ((lget p0.f1 x42).f2))))) (Calm.neA rfl rfl rfl eg33 (eqa33 (lget t20 x41) ((lget p0.f1 x42).f2)) (by decide)) ?_
                      refine AQ.calm rfl 75 rfl (by decide) (eBool (!(decide ((lget t20 x41) = ((lget p0.f1 x42).f2))))) (Calm.pickF rfl (congrArg (fun b => some (AV.fl (Value.bool b))) (decide_eq_false hc51)) rfl) ?_
                      cases hq50
                      refine AQ.nilE rfl ?_
                      exact ⟨rfl, rfl, rfl, rfl, rfl, rfl, rfl, trivial⟩
                  · by_cases hc54 : b49 = true
                    · have h := (if_pos hc54).symm.trans h
                      refine AW.condT' b49 rfl hc54 ?_
                      refine AW.seq ?_
                      refine AW.reg ?_
                      refine AO.calm rfl 6 rfl (by decide) (eBool false) (Calm.assign rfl rfl) ?_
                      refine AO.nil (ρ' := [(6, (eBool false))]) (H' := []) ⟨rfl, trivial⟩ (Sub.nil _) ?_
                      refine AW.ret (ρ' := [(6, (eBool false))]) (H' := []) ⟨rfl, trivial⟩ (Sub.refl _) ?_
                      have hr := Option.some.inj h
                      subst hr
                      exact ⟨[(eBool false)], ⟨rfl, rfl, trivial⟩, rfl⟩
                    · have h := (if_neg hc54).symm.trans h
                      refine AW.condF' b49 rfl hc54 ?_
                      refine AW.skip (ρ' := [(1, (.fz 1 (p1.map eBool))), (2, (eStr p2)), (3, (.ptr n4 0)), (7, (.fz 4 (t20.map e33))), (8, (eI64 x41)), (9, (eI64 x42))]) (H' := [(n4, (.mem (e24 p0)))]) ⟨rfl, rfl, rfl, rfl, rfl, rfl, trivial⟩ (Sub.refl _) ?_
                      refine AW.reg ?_
                      refine AO.calm rfl 76 rfl (by decide) (eI64 x41) (Calm.move rfl rfl) ?_
                      refine AO.calm rfl 77 rfl (by decide) (eI64 (w64 (x41 + (1 : Int)))) (Calm.int rfl rfl rfl rfl) ?_
                      refine AO.calm rfl 8 rfl (by decide) (eI64 (w64 (x41 + (1 : Int)))) (Calm.assign rfl rfl) ?_
                      refine AO.nil (ρ' := [(1, (.fz 1 (p1.map eBool))), (2, (eStr p2)), (3, (.ptr n4 0)), (7, (.fz 4 (t20.map e33))), (8, (eI64 (w64 (x41 + (1 : Int))))), (9, (eI64 x42))]) (H' := [(n4, (.mem (e24 p0)))]) ⟨rfl, rfl, rfl, rfl, rfl, rfl, trivial⟩ (Sub.refl _) ?_
                      exact ⟨(w64 (x41 + (1 : Int))), rfl, rfl, h⟩
              · rintro _ _ ⟨x46, rfl, rfl, h⟩
                rw [bosketlaw06_NfaSteps_c2.eq_1] at h
                refine AW.reg ?_
                refine AO.calm rfl 51 rfl (by decide) (eI64 x42) (Calm.move rfl rfl) ?_
                refine AO.calm rfl 52 rfl (by decide) (eI64 (w64 (x42 + (1 : Int)))) (Calm.int rfl rfl rfl rfl) ?_
                refine AO.calm rfl 9 rfl (by decide) (eI64 (w64 (x42 + (1 : Int)))) (Calm.assign rfl rfl) ?_
                refine AO.nil (ρ' := [(1, (.fz 1 (p1.map eBool))), (2, (eStr p2)), (3, (.ptr n4 0)), (7, (.fz 4 (t20.map e33))), (8, (eI64 x46)), (9, (eI64 (w64 (x42 + (1 : Int)))))]) (H' := [(n4, (.mem (e24 p0)))]) ⟨rfl, rfl, rfl, rfl, rfl, rfl, trivial⟩ (Sub.refl _) ?_
                exact ⟨kq44, Nat.lt_succ_self _, x46, (w64 (x42 + (1 : Int))), rfl, rfl, by rw [hrec43]; exact h⟩
            · have h := (if_neg hc45).symm.trans h
              refine AW.condN (x42 < (p0.f1.length : Int)) rfl hc45 ?_
              refine AW.exit (ρ' := [(1, (.fz 1 (p1.map eBool))), (2, (eStr p2)), (3, (.ptr n4 0)), (7, (.fz 4 (t20.map e33))), (8, (eI64 x41))]) (H' := [(n4, (.mem (e24 p0)))]) ⟨rfl, rfl, rfl, rfl, rfl, trivial⟩ (Sub.refl _) ?_
              exact ⟨x41, rfl, rfl, h⟩
          · rintro _ _ ⟨x21, rfl, rfl, h⟩
            rw [bosketlaw06_NfaSteps_c1.eq_1] at h
            refine AW.seq ?_
            refine AW.reg ?_
            refine AO.calm rfl 10 rfl (by decide) (eU8 (0 : Int)) (Calm.assign rfl rfl) ?_
            refine AO.nil (ρ' := [(1, (.fz 1 (p1.map eBool))), (2, (eStr p2)), (3, (.ptr n4 0)), (7, (.fz 4 (t20.map e33))), (8, (eI64 x21)), (10, (eU8 (0 : Int)))]) (H' := [(n4, (.mem (e24 p0)))]) ⟨rfl, rfl, rfl, rfl, rfl, rfl, trivial⟩ (Sub.refl _) ?_
            refine AW.seq_mid (fun ρ H => ∃ (x22 : Int), ρ = [(1, (.fz 1 (p1.map eBool))), (2, (eStr p2)), (3, (.ptr n4 0)), (7, (.fz 4 (t20.map e33))), (8, (eI64 x21)), (10, (eU8 x22))] ∧ H = [(n4, (.mem (e24 p0)))] ∧ bosketlaw06_NfaSteps_c0 k p0 p1 p2 t20 x21 x22 = some r) ?_ ?_
            · refine AW.seq ?_
              refine AW.reg ?_
              refine AO.calm rfl 78 rfl (by decide) (eStr p2) (Calm.move rfl rfl) ?_
              refine AO.calm rfl 79 rfl (by decide) (eBool (decide (p2 ≠ (ByteArray.mk #[])))) (Calm.str rfl rfl rfl rfl) ?_
              refine AO.nil (ρ' := [(1, (.fz 1 (p1.map eBool))), (2, (eStr p2)), (3, (.ptr n4 0)), (7, (.fz 4 (t20.map e33))), (8, (eI64 x21)), (10, (eU8 (0 : Int))), (79, (eBool (decide (p2 ≠ (ByteArray.mk #[])))))]) (H' := [(n4, (.mem (e24 p0)))]) ⟨rfl, rfl, rfl, rfl, rfl, rfl, rfl, trivial⟩ (Sub.refl _) ?_
              by_cases hc39 : p2 ≠ (ByteArray.mk #[])
              · have h := (if_pos hc39).symm.trans h
                refine AW.condP (p2 ≠ (ByteArray.mk #[])) rfl hc39 ?_
                refine AW.reg ?_
                refine AO.calm rfl 80 rfl (by decide) (eStr p2) (Calm.move rfl rfl) ?_
                obtain ⟨hg40, h⟩ := of_guard h
                refine AO.calm rfl 81 rfl (by decide) (eU8 (byteAt p2 (0 : Int))) (Calm.idxS rfl rfl rfl hg40 Try.underlying9) ?_
                refine AO.calm rfl 10 rfl (by decide) (eU8 (byteAt p2 (0 : Int))) (Calm.assign rfl rfl) ?_
                refine AO.nil (ρ' := [(1, (.fz 1 (p1.map eBool))), (2, (eStr p2)), (3, (.ptr n4 0)), (7, (.fz 4 (t20.map e33))), (8, (eI64 x21)), (10, (eU8 (byteAt p2 (0 : Int))))]) (H' := [(n4, (.mem (e24 p0)))]) ⟨rfl, rfl, rfl, rfl, rfl, rfl, trivial⟩ (Sub.refl _) ?_
                exact ⟨(byteAt p2 (0 : Int)), rfl, rfl, h⟩
              · have h := (if_neg hc39).symm.trans h
                refine AW.condN (p2 ≠ (ByteArray.mk #[])) rfl hc39 ?_
                refine AW.skip (ρ' := [(1, (.fz 1 (p1.map eBool))), (2, (eStr p2)), (3, (.ptr n4 0)), (7, (.fz 4 (t20.map e33))), (8, (eI64 x21)), (10, (eU8 (0 : Int)))]) (H' := [(n4, (.mem (e24 p0)))]) ⟨rfl, rfl, rfl, rfl, rfl, rfl, trivial⟩ (Sub.refl _) ?_
                exact ⟨(0 : Int), rfl, rfl, h⟩
            · rintro _ _ ⟨x22, rfl, rfl, h⟩
              rw [bosketlaw06_NfaSteps_c0.eq_1] at h
              refine AW.seq ?_
              obtain ⟨b23, hq24, h⟩ := of_bind h
              refine AW.toM [(6, (eBool b23))] [] ?_ ?_
              · by_cases hc25 : x21 = (t20.length : Int)
                · have hq24 := (if_pos hc25).symm.trans hq24
                  obtain ⟨t26, et26, hq24⟩ := of_bind hq24
                  by_cases hc27 : t26 = true
                  · have hq24 := (if_pos hc27).symm.trans hq24
                    obtain ⟨t28, et28, hq24⟩ := of_bind hq24
                    obtain ⟨t29, et29, hq24⟩ := of_bind hq24
                    obtain ⟨t30, et30, hq24⟩ := of_bind hq24
                    by_cases hc31 : t30 = true
                    · have hq24 := (if_pos hc31).symm.trans hq24
                      obtain ⟨t32, et32, hq24⟩ := of_bind hq24
                      obtain ⟨t33, et33, hq24⟩ := of_bind hq24
                      obtain ⟨t34, et34, hq24⟩ := of_bind hq24
                      by_cases hc35 : t34 = true
                      · have hq24 := (if_pos hc35).symm.trans hq24
                        obtain ⟨t36, et36, hq24⟩ := of_bind hq24
                        obtain ⟨t37, et37, hq24⟩ := of_bind hq24
                        obtain ⟨hg38, hq24⟩ := of_guard hq24
                        refine AW.regAny (by rfl) (by decide +kernel) [(eI64 x21), (.fz 4 (t20.map e33)), (eI64 (t20.length : Int)), (eBool (decide (x21 = (t20.length : Int)))), (eBool (decide (x21 = (t20.length : Int)))), (e24 p0), (eBool t26), (eBool t26), (eBool t26), (e24 p0), (.fz 1 (p1.map eBool)), (.fz 1 (t28.map eBool)), (e24 p0), (.fz 1 (p1.map eBool)), (.fz 1 (t29.map eBool)), (eBool t30), (eBool t30), (eBool t30), (e24 p0), (.fz 1 (p1.map eBool)), (eU8 x22), (.fz 1 (t32.map eBool)), (e24 p0), (.fz 1 (p1.map eBool)), (eU8 x22), (eI64 (w64 x22)), (.fz 1 (t33.map eBool)), (eBool t34), (eBool t34), (eBool t34), (e24 p0), (eStr p2), (eBool t36), (e24 p0), (eStr p2), (.fz 1 (t37.map eBool)), (.ptr n4 3), (eI64 p0.f3), (.rp (eBool (lget t37 p0.f3))), (eBool (lget t37 p0.f3)), (eBool (t36 == (lget t37 p0.f3))), (eBool (t36 == (lget t37 p0.f3))), (eBool (t36 == (lget t37 p0.f3)))] [(1, (.fz 1 (p1.map eBool))), (2, (eStr p2)), (3, (.ptr n4 0)), (7, (.fz 4 (t20.map e33))), (8, (eI64 x21)), (10, (eU8 x22))] ⟨rfl, rfl, rfl, rfl, rfl, rfl, trivial⟩ rfl ?_ [(6, (eBool (t36 == (lget t37 p0.f3))))] [] ⟨rfl, trivial⟩ (Sub.nil _) ?_
                        · refine ⟨?_, ?_, ?_, ?_, ?_, ?_, ?_, ?_, ?_, ?_, ?_, ?_, ?_, ?_, ?_, ?_, ?_, ?_, ?_, ?_, ?_, ?_, ?_, ?_, ?_, ?_, ?_, ?_, ?_, ?_, ?_, ?_, ?_, ?_, ?_, ?_, ?_, ?_, ?_, ?_, ?_, ?_, ?_, trivial⟩
                          · refine AO.weak (ρ' := [(8, (eI64 x21))]) (H' := [(n4, (.mem (e24 p0)))]) ⟨rfl, trivial⟩ (Sub.refl _) ?_
                            refine AO.calm rfl 82 rfl (by decide) (eI64 x21) (Calm.move rfl rfl) ?_
                            exact AO.nilE (ρ' := [(82, (eI64 x21))]) (H' := [(n4, (.mem (e24 p0)))]) ⟨⟨_, rfl, rfl⟩, Sub.refl _⟩ ⟨rfl, trivial⟩ (Sub.refl _)
                          · refine AO.weak (ρ' := [(7, (.fz 4 (t20.map e33)))]) (H' := [(n4, (.mem (e24 p0)))]) ⟨rfl, trivial⟩ (Sub.refl _) ?_
                            refine AO.calm rfl 83 rfl (by decide) (.fz 4 (t20.map e33)) (Calm.move rfl rfl) ?_
                            exact AO.nilE (ρ' := [(83, (.fz 4 (t20.map e33)))]) (H' := [(n4, (.mem (e24 p0)))]) ⟨⟨_, rfl, rfl⟩, Sub.refl _⟩ ⟨rfl, trivial⟩ (Sub.refl _)
                          · refine AO.weak (ρ' := [(83, (.fz 4 (t20.map e33)))]) (H' := [(n4, (.mem (e24 p0)))]) ⟨rfl, trivial⟩ (Sub.refl _) ?_
                            refine AO.calm rfl 84 rfl (by decide) (eI64 (t20.length : Int)) (Calm.lenL rfl rfl Try.underlying29) ?_
                            exact AO.nilE (ρ' := [(84, (eI64 (t20.length : Int)))]) (H' := [(n4, (.mem (e24 p0)))]) ⟨⟨_, rfl, rfl⟩, Sub.refl _⟩ ⟨rfl, trivial⟩ (Sub.refl _)
                          · refine AO.weak (ρ' := [(82, (eI64 x21)), (84, (eI64 (t20.length : Int)))]) (H' := [(n4, (.mem (e24 p0)))]) ⟨rfl, rfl, trivial⟩ (Sub.refl _) ?_
                            refine AO.calm rfl 85 rfl (by decide) (eBool (decide (x21 = (t20.length : Int)))) (Calm.int rfl rfl rfl rfl) ?_
                            exact AO.nilE (ρ' := [(85, (eBool (decide (x21 = (t20.length : Int)))))]) (H' := [(n4, (.mem (e24 p0)))]) ⟨⟨_, rfl, rfl⟩, Sub.refl _⟩ ⟨rfl, trivial⟩ (Sub.refl _)
                          · refine AO.weak (ρ' := [(85, (eBool (decide (x21 = (t20.length : Int)))))]) (H' := [(n4, (.mem (e24 p0)))]) ⟨rfl, trivial⟩ (Sub.refl _) ?_
                            refine AO.calm rfl 86 rfl (by decide) (eBool (decide (x21 = (t20.length : Int)))) (Calm.move rfl rfl) ?_
                            exact AO.nilE (ρ' := [(86, (eBool (decide (x21 = (t20.length : Int)))))]) (H' := [(n4, (.mem (e24 p0)))]) ⟨⟨_, rfl, rfl⟩, Sub.refl _⟩ ⟨rfl, trivial⟩ (Sub.refl _)
                          · refine AO.weak (ρ' := [(3, (.ptr n4 0)), (86, (eBool (decide (x21 = (t20.length : Int)))))]) (H' := [(n4, (.mem (e24 p0)))]) ⟨rfl, rfl, trivial⟩ (Sub.refl _) ?_
                            refine AO.calmG 4 true 86 rfl rfl (congrArg (fun b => some (AV.fl (Value.bool b))) (decide_eq_true hc25)) 87 rfl (by decide) (e24 p0) (Calm.load 0 rfl rfl rfl (At.cast At.here rfl) ag24 sz24) ?_
                            exact AO.nilE (ρ' := [(87, (e24 p0))]) (H' := [(n4, (.mem (e24 p0)))]) ⟨⟨_, rfl, rfl⟩, Sub.refl _⟩ ⟨rfl, trivial⟩ (Sub.refl _)
                          · refine AO.weak (ρ' := [(86, (eBool (decide (x21 = (t20.length : Int))))), (87, (e24 p0))]) (H' := [(n4, (.mem (e24 p0)))]) ⟨rfl, rfl, trivial⟩ (Sub.refl _) ?_
                            refine AO.callG 4 true 86 [(e24 p0)] (eBool t26) 88 rfl (by decide) ok11 rfl rfl (congrArg (fun b => some (AV.fl (Value.bool b))) (decide_eq_true hc25)) rfl rfl ⟨rfl, rfl, trivial⟩ (nfa_Right_spec et26) ?_
                            exact AO.nilE (ρ' := [(88, (eBool t26))]) (H' := [(n4, (.mem (e24 p0)))]) ⟨⟨_, rfl, rfl⟩, Sub.refl _⟩ ⟨rfl, trivial⟩ (Sub.refl _)
                          · refine AO.weak (ρ' := [(86, (eBool (decide (x21 = (t20.length : Int))))), (88, (eBool t26))]) (H' := [(n4, (.mem (e24 p0)))]) ⟨rfl, rfl, trivial⟩ (Sub.refl _) ?_
                            refine AO.calm rfl 89 rfl (by decide) (eBool t26) (Calm.pickT rfl (congrArg (fun b => some (AV.fl (Value.bool b))) (decide_eq_true hc25)) rfl) ?_
                            exact AO.nilE (ρ' := [(89, (eBool t26))]) (H' := [(n4, (.mem (e24 p0)))]) ⟨⟨_, rfl, rfl⟩, Sub.refl _⟩ ⟨rfl, trivial⟩ (Sub.refl _)
                          · refine AO.weak (ρ' := [(89, (eBool t26))]) (H' := [(n4, (.mem (e24 p0)))]) ⟨rfl, trivial⟩ (Sub.refl _) ?_
                            refine AO.calm rfl 90 rfl (by decide) (eBool t26) (Calm.move rfl rfl) ?_
                            exact AO.nilE (ρ' := [(90, (eBool t26))]) (H' := [(n4, (.mem (e24 p0)))]) ⟨⟨_, rfl, rfl⟩, Sub.refl _⟩ ⟨rfl, trivial⟩ (Sub.refl _)
                          · refine AO.weak (ρ' := [(3, (.ptr n4 0)), (90, (eBool t26))]) (H' := [(n4, (.mem (e24 p0)))]) ⟨rfl, rfl, trivial⟩ (Sub.refl _) ?_
                            refine AO.calmG 8 true 90 rfl rfl (congrArg (fun b => some (AV.fl (Value.bool b))) hc27) 91 rfl (by decide) (e24 p0) (Calm.load 0 rfl rfl rfl (At.cast At.here rfl) ag24 sz24) ?_
                            exact AO.nilE (ρ' := [(91, (e24 p0))]) (H' := [(n4, (.mem (e24 p0)))]) ⟨⟨_, rfl, rfl⟩, Sub.refl _⟩ ⟨rfl, trivial⟩ (Sub.refl _)
                          · refine AO.weak (ρ' := [(1, (.fz 1 (p1.map eBool))), (90, (eBool t26))]) (H' := [(n4, (.mem (e24 p0)))]) ⟨rfl, rfl, trivial⟩ (Sub.refl _) ?_
                            refine AO.calmG 8 true 90 rfl rfl (congrArg (fun b => some (AV.fl (Value.bool b))) hc27) 92 rfl (by decide) (.fz 1 (p1.map eBool)) (Calm.move rfl rfl) ?_
                            exact AO.nilE (ρ' := [(92, (.fz 1 (p1.map eBool)))]) (H' := [(n4, (.mem (e24 p0)))]) ⟨⟨_, rfl, rfl⟩, Sub.refl _⟩ ⟨rfl, trivial⟩ (Sub.refl _)
                          · refine AO.weak (ρ' := [(90, (eBool t26)), (91, (e24 p0)), (92, (.fz 1 (p1.map eBool)))]) (H' := [(n4, (.mem (e24 p0)))]) ⟨rfl, rfl, rfl, trivial⟩ (Sub.refl _) ?_
                            refine AO.callG 8 true 90 [(e24 p0), (.fz 1 (p1.map eBool))] (.fz 1 (t28.map eBool)) 93 rfl (by decide) ok15 rfl rfl (congrArg (fun b => some (AV.fl (Value.bool b))) hc27) rfl rfl ⟨rfl, rfl, rfl, rfl, trivial⟩ (nfa_Close_spec et28) ?_
                            exact AO.nilE (ρ' := [(93, (.fz 1 (t28.map eBool)))]) (H' := [(n4, (.mem (e24 p0)))]) ⟨⟨_, rfl, rfl⟩, Sub.refl _⟩ ⟨rfl, trivial⟩ (Sub.refl _)
                          · refine AO.weak (ρ' := [(3, (.ptr n4 0)), (90, (eBool t26))]) (H' := [(n4, (.mem (e24 p0)))]) ⟨rfl, rfl, trivial⟩ (Sub.refl _) ?_
                            refine AO.calmG 8 true 90 rfl rfl (congrArg (fun b => some (AV.fl (Value.bool b))) hc27) 94 rfl (by decide) (e24 p0) (Calm.load 0 rfl rfl rfl (At.cast At.here rfl) ag24 sz24) ?_
                            exact AO.nilE (ρ' := [(94, (e24 p0))]) (H' := [(n4, (.mem (e24 p0)))]) ⟨⟨_, rfl, rfl⟩, Sub.refl _⟩ ⟨rfl, trivial⟩ (Sub.refl _)
                          · refine AO.weak (ρ' := [(1, (.fz 1 (p1.map eBool))), (90, (eBool t26))]) (H' := [(n4, (.mem (e24 p0)))]) ⟨rfl, rfl, trivial⟩ (Sub.refl _) ?_
                            refine AO.calmG 8 true 90 rfl rfl (congrArg (fun b => some (AV.fl (Value.bool b))) hc27) 95 rfl (by decide) (.fz 1 (p1.map eBool)) (Calm.move rfl rfl) ?_
                            exact AO.nilE (ρ' := [(95, (.fz 1 (p1.map eBool)))]) (H' := [(n4, (.mem (e24 p0)))]) ⟨⟨_, rfl, rfl⟩, Sub.refl _⟩ ⟨rfl, trivial⟩ (Sub.refl _)
                          · refine AO.weak (ρ' := [(90, (eBool t26)), (94, (e24 p0)), (95, (.fz 1 (p1.map eBool)))]) (H' := [(n4, (.mem (e24 p0)))]) ⟨rfl, rfl, rfl, trivial⟩ (Sub.refl _) ?_
                            refine AO.callG 8 true 90 [(e24 p0), (.fz 1 (p1.map eBool))] (.fz 1 (t29.map eBool)) 96 rfl (by decide) ok16 rfl rfl (congrArg (fun b => some (AV.fl (Value.bool b))) hc27) rfl rfl ⟨rfl, rfl, rfl, rfl, trivial⟩ (bosketref06_Close_spec et29) ?_
                            exact AO.nilE (ρ' := [(96, (.fz 1 (t29.map eBool)))]) (H' := [(n4, (.mem (e24 p0)))]) ⟨⟨_, rfl, rfl⟩, Sub.refl _⟩ ⟨rfl, trivial⟩ (Sub.refl _)
                          · refine AO.weak (ρ' := [(90, (eBool t26)), (93, (.fz 1 (t28.map eBool))), (96, (.fz 1 (t29.map eBool)))]) (H' := [(n4, (.mem (e24 p0)))]) ⟨rfl, rfl, rfl, trivial⟩ (Sub.refl _) ?_
                            refine AO.callG 8 true 90 [(.fz 1 (t28.map eBool)), (.fz 1 (t29.map eBool))] (eBool t30) 97 rfl (by decide) ok14 rfl rfl (congrArg (fun b => some (AV.fl (Value.bool b))) hc27) rfl rfl ⟨rfl, rfl, rfl, rfl, trivial⟩ (bosketref06_Same_spec et30) ?_
                            exact AO.nilE (ρ' := [(97, (eBool t30))]) (H' := [(n4, (.mem (e24 p0)))]) ⟨⟨_, rfl, rfl⟩, Sub.refl _⟩ ⟨rfl, trivial⟩ (Sub.refl _)
                          · refine AO.weak (ρ' := [(90, (eBool t26)), (97, (eBool t30))]) (H' := [(n4, (.mem (e24 p0)))]) ⟨rfl, rfl, trivial⟩ (Sub.refl _) ?_
                            refine AO.calm rfl 98 rfl (by decide) (eBool t30) (Calm.pickT rfl (congrArg (fun b => some (AV.fl (Value.bool b))) hc27) rfl) ?_
                            exact AO.nilE (ρ' := [(98, (eBool t30))]) (H' := [(n4, (.mem (e24 p0)))]) ⟨⟨_, rfl, rfl⟩, Sub.refl _⟩ ⟨rfl, trivial⟩ (Sub.refl _)
                          · refine AO.weak (ρ' := [(98, (eBool t30))]) (H' := [(n4, (.mem (e24 p0)))]) ⟨rfl, trivial⟩ (Sub.refl _) ?_
                            refine AO.calm rfl 99 rfl (by decide) (eBool t30) (Calm.move rfl rfl) ?_
                            exact AO.nilE (ρ' := [(99, (eBool t30))]) (H' := [(n4, (.mem (e24 p0)))]) ⟨⟨_, rfl, rfl⟩, Sub.refl _⟩ ⟨rfl, trivial⟩ (Sub.refl _)
                          · refine AO.weak (ρ' := [(3, (.ptr n4 0)), (99, (eBool t30))]) (H' := [(n4, (.mem (e24 p0)))]) ⟨rfl, rfl, trivial⟩ (Sub.refl _) ?_
                            refine AO.calmG 17 true 99 rfl rfl (congrArg (fun b => some (AV.fl (Value.bool b))) hc31) 100 rfl (by decide) (e24 p0) (Calm.load 0 rfl rfl rfl (At.cast At.here rfl) ag24 sz24) ?_
                            exact AO.nilE (ρ' := [(100, (e24 p0))]) (H' := [(n4, (.mem (e24 p0)))]) ⟨⟨_, rfl, rfl⟩, Sub.refl _⟩ ⟨rfl, trivial⟩ (Sub.refl _)
                          · refine AO.weak (ρ' := [(1, (.fz 1 (p1.map eBool))), (99, (eBool t30))]) (H' := [(n4, (.mem (e24 p0)))]) ⟨rfl, rfl, trivial⟩ (Sub.refl _) ?_
                            refine AO.calmG 17 true 99 rfl rfl (congrArg (fun b => some (AV.fl (Value.bool b))) hc31) 101 rfl (by decide) (.fz 1 (p1.map eBool)) (Calm.move rfl rfl) ?_
                            exact AO.nilE (ρ' := [(101, (.fz 1 (p1.map eBool)))]) (H' := [(n4, (.mem (e24 p0)))]) ⟨⟨_, rfl, rfl⟩, Sub.refl _⟩ ⟨rfl, trivial⟩ (Sub.refl _)
                          · refine AO.weak (ρ' := [(10, (eU8 x22)), (99, (eBool t30))]) (H' := [(n4, (.mem (e24 p0)))]) ⟨rfl, rfl, trivial⟩ (Sub.refl _) ?_
                            refine AO.calmG 17 true 99 rfl rfl (congrArg (fun b => some (AV.fl (Value.bool b))) hc31) 102 rfl (by decide) (eU8 x22) (Calm.move rfl rfl) ?_
                            exact AO.nilE (ρ' := [(102, (eU8 x22))]) (H' := [(n4, (.mem (e24 p0)))]) ⟨⟨_, rfl, rfl⟩, Sub.refl _⟩ ⟨rfl, trivial⟩ (Sub.refl _)
                          · refine AO.weak (ρ' := [(99, (eBool t30)), (100, (e24 p0)), (101, (.fz 1 (p1.map eBool))), (102, (eU8 x22))]) (H' := [(n4, (.mem (e24 p0)))]) ⟨rfl, rfl, rfl, rfl, trivial⟩ (Sub.refl _) ?_
                            refine AO.callG 17 true 99 [(e24 p0), (.fz 1 (p1.map eBool)), (eU8 x22)] (.fz 1 (t32.map eBool)) 103 rfl (by decide) ok17 rfl rfl (congrArg (fun b => some (AV.fl (Value.bool b))) hc31) rfl rfl ⟨rfl, rfl, rfl, rfl, rfl, rfl, trivial⟩ (nfa_Move_spec et32) ?_
                            exact AO.nilE (ρ' := [(103, (.fz 1 (t32.map eBool)))]) (H' := [(n4, (.mem (e24 p0)))]) ⟨⟨_, rfl, rfl⟩, Sub.refl _⟩ ⟨rfl, trivial⟩ (Sub.refl _)
                          · refine AO.weak (ρ' := [(3, (.ptr n4 0)), (99, (eBool t30))]) (H' := [(n4, (.mem (e24 p0)))]) ⟨rfl, rfl, trivial⟩ (Sub.refl _) ?_
                            refine AO.calmG 17 true 99 rfl rfl (congrArg (fun b => some (AV.fl (Value.bool b))) hc31) 104 rfl (by decide) (e24 p0) (Calm.load 0 rfl rfl rfl (At.cast At.here rfl) ag24 sz24) ?_
                            exact AO.nilE (ρ' := [(104, (e24 p0))]) (H' := [(n4, (.mem (e24 p0)))]) ⟨⟨_, rfl, rfl⟩, Sub.refl _⟩ ⟨rfl, trivial⟩ (Sub.refl _)
                          · refine AO.weak (ρ' := [(1, (.fz 1 (p1.map eBool))), (99, (eBool t30))]) (H' := [(n4, (.mem (e24 p0)))]) ⟨rfl, rfl, trivial⟩ (Sub.refl _) ?_
                            refine AO.calmG 17 true 99 rfl rfl (congrArg (fun b => some (AV.fl (Value.bool b))) hc31) 105 rfl (by decide) (.fz 1 (p1.map eBool)) (Calm.move rfl rfl) ?_
                            exact AO.nilE (ρ' := [(105, (.fz 1 (p1.map eBool)))]) (H' := [(n4, (.mem (e24 p0)))]) ⟨⟨_, rfl, rfl⟩, Sub.refl _⟩ ⟨rfl, trivial⟩ (Sub.refl _)
                          · refine AO.weak (ρ' := [(10, (eU8 x22)), (99, (eBool t30))]) (H' := [(n4, (.mem (e24 p0)))]) ⟨rfl, rfl, trivial⟩ (Sub.refl _) ?_
                            refine AO.calmG 17 true 99 rfl rfl (congrArg (fun b => some (AV.fl (Value.bool b))) hc31) 106 rfl (by decide) (eU8 x22) (Calm.move rfl rfl) ?_
                            exact AO.nilE (ρ' := [(106, (eU8 x22))]) (H' := [(n4, (.mem (e24 p0)))]) ⟨⟨_, rfl, rfl⟩, Sub.refl _⟩ ⟨rfl, trivial⟩ (Sub.refl _)
                          · refine AO.weak (ρ' := [(99, (eBool t30)), (106, (eU8 x22))]) (H' := [(n4, (.mem (e24 p0)))]) ⟨rfl, rfl, trivial⟩ (Sub.refl _) ?_
                            refine AO.calmG 17 true 99 rfl rfl (congrArg (fun b => some (AV.fl (Value.bool b))) hc31) 107 rfl (by decide) (eI64 (w64 x22)) (Calm.conv rfl rfl Try.underlying5 Try.underlying3) ?_
                            exact AO.nilE (ρ' := [(107, (eI64 (w64 x22)))]) (H' := [(n4, (.mem (e24 p0)))]) ⟨⟨_, rfl, rfl⟩, Sub.refl _⟩ ⟨rfl, trivial⟩ (Sub.refl _)
                          · refine AO.weak (ρ' := [(99, (eBool t30)), (104, (e24 p0)), (105, (.fz 1 (p1.map eBool))), (107, (eI64 (w64 x22)))]) (H' := [(n4, (.mem (e24 p0)))]) ⟨rfl, rfl, rfl, rfl, trivial⟩ (Sub.refl _) ?_
                            refine AO.callG 17 true 99 [(e24 p0), (.fz 1 (p1.map eBool)), (eI64 (w64 x22))] (.fz 1 (t33.map eBool)) 108 rfl (by decide) ok18 rfl rfl (congrArg (fun b => some (AV.fl (Value.bool b))) hc31) rfl rfl ⟨rfl, rfl, rfl, rfl, rfl, rfl, trivial⟩ (bosketref06_Move_spec et33) ?_
                            exact AO.nilE (ρ' := [(108, (.fz 1 (t33.map eBool)))]) (H' := [(n4, (.mem (e24 p0)))]) ⟨⟨_, rfl, rfl⟩, Sub.refl _⟩ ⟨rfl, trivial⟩ (Sub.refl _)
                          · refine AO.weak (ρ' := [(99, (eBool t30)), (103, (.fz 1 (t32.map eBool))), (108, (.fz 1 (t33.map eBool)))]) (H' := [(n4, (.mem (e24 p0)))]) ⟨rfl, rfl, rfl, trivial⟩ (Sub.refl _) ?_
                            refine AO.callG 17 true 99 [(.fz 1 (t32.map eBool)), (.fz 1 (t33.map eBool))] (eBool t34) 109 rfl (by decide) ok14 rfl rfl (congrArg (fun b => some (AV.fl (Value.bool b))) hc31) rfl rfl ⟨rfl, rfl, rfl, rfl, trivial⟩ (bosketref06_Same_spec et34) ?_
                            exact AO.nilE (ρ' := [(109, (eBool t34))]) (H' := [(n4, (.mem (e24 p0)))]) ⟨⟨_, rfl, rfl⟩, Sub.refl _⟩ ⟨rfl, trivial⟩ (Sub.refl _)
                          · refine AO.weak (ρ' := [(99, (eBool t30)), (109, (eBool t34))]) (H' := [(n4, (.mem (e24 p0)))]) ⟨rfl, rfl, trivial⟩ (Sub.refl _) ?_
                            refine AO.calm rfl 110 rfl (by decide) (eBool t34) (Calm.pickT rfl (congrArg (fun b => some (AV.fl (Value.bool b))) hc31) rfl) ?_
                            exact AO.nilE (ρ' := [(110, (eBool t34))]) (H' := [(n4, (.mem (e24 p0)))]) ⟨⟨_, rfl, rfl⟩, Sub.refl _⟩ ⟨rfl, trivial⟩ (Sub.refl _)
                          · refine AO.weak (ρ' := [(110, (eBool t34))]) (H' := [(n4, (.mem (e24 p0)))]) ⟨rfl, trivial⟩ (Sub.refl _) ?_
                            refine AO.calm rfl 111 rfl (by decide) (eBool t34) (Calm.move rfl rfl) ?_
                            exact AO.nilE (ρ' := [(111, (eBool t34))]) (H' := [(n4, (.mem (e24 p0)))]) ⟨⟨_, rfl, rfl⟩, Sub.refl _⟩ ⟨rfl, trivial⟩ (Sub.refl _)
                          · refine AO.weak (ρ' := [(3, (.ptr n4 0)), (111, (eBool t34))]) (H' := [(n4, (.mem (e24 p0)))]) ⟨rfl, rfl, trivial⟩ (Sub.refl _) ?_
                            refine AO.calmG 29 true 111 rfl rfl (congrArg (fun b => some (AV.fl (Value.bool b))) hc35) 112 rfl (by decide) (e24 p0) (Calm.load 0 rfl rfl rfl (At.cast At.here rfl) ag24 sz24) ?_
                            exact AO.nilE (ρ' := [(112, (e24 p0))]) (H' := [(n4, (.mem (e24 p0)))]) ⟨⟨_, rfl, rfl⟩, Sub.refl _⟩ ⟨rfl, trivial⟩ (Sub.refl _)
                          · refine AO.weak (ρ' := [(2, (eStr p2)), (111, (eBool t34))]) (H' := [(n4, (.mem (e24 p0)))]) ⟨rfl, rfl, trivial⟩ (Sub.refl _) ?_
                            refine AO.calmG 29 true 111 rfl rfl (congrArg (fun b => some (AV.fl (Value.bool b))) hc35) 113 rfl (by decide) (eStr p2) (Calm.move rfl rfl) ?_
                            exact AO.nilE (ρ' := [(113, (eStr p2))]) (H' := [(n4, (.mem (e24 p0)))]) ⟨⟨_, rfl, rfl⟩, Sub.refl _⟩ ⟨rfl, trivial⟩ (Sub.refl _)
                          · refine AO.weak (ρ' := [(111, (eBool t34)), (112, (e24 p0)), (113, (eStr p2))]) (H' := [(n4, (.mem (e24 p0)))]) ⟨rfl, rfl, rfl, trivial⟩ (Sub.refl _) ?_
                            refine AO.callG 29 true 111 [(e24 p0), (eStr p2)] (eBool t36) 114 rfl (by decide) ok12 rfl rfl (congrArg (fun b => some (AV.fl (Value.bool b))) hc35) rfl rfl ⟨rfl, rfl, rfl, rfl, trivial⟩ (nfa_Has_spec et36) ?_
                            exact AO.nilE (ρ' := [(114, (eBool t36))]) (H' := [(n4, (.mem (e24 p0)))]) ⟨⟨_, rfl, rfl⟩, Sub.refl _⟩ ⟨rfl, trivial⟩ (Sub.refl _)
                          · refine AO.weak (ρ' := [(3, (.ptr n4 0)), (111, (eBool t34))]) (H' := [(n4, (.mem (e24 p0)))]) ⟨rfl, rfl, trivial⟩ (Sub.refl _) ?_
                            refine AO.calmG 29 true 111 rfl rfl (congrArg (fun b => some (AV.fl (Value.bool b))) hc35) 115 rfl (by decide) (e24 p0) (Calm.load 0 rfl rfl rfl (At.cast At.here rfl) ag24 sz24) ?_
                            exact AO.nilE (ρ' := [(115, (e24 p0))]) (H' := [(n4, (.mem (e24 p0)))]) ⟨⟨_, rfl, rfl⟩, Sub.refl _⟩ ⟨rfl, trivial⟩ (Sub.refl _)
                          · refine AO.weak (ρ' := [(2, (eStr p2)), (111, (eBool t34))]) (H' := [(n4, (.mem (e24 p0)))]) ⟨rfl, rfl, trivial⟩ (Sub.refl _) ?_
                            refine AO.calmG 29 true 111 rfl rfl (congrArg (fun b => some (AV.fl (Value.bool b))) hc35) 116 rfl (by decide) (eStr p2) (Calm.move rfl rfl) ?_
                            exact AO.nilE (ρ' := [(116, (eStr p2))]) (H' := [(n4, (.mem (e24 p0)))]) ⟨⟨_, rfl, rfl⟩, Sub.refl _⟩ ⟨rfl, trivial⟩ (Sub.refl _)
                          · refine AO.weak (ρ' := [(111, (eBool t34)), (115, (e24 p0)), (116, (eStr p2))]) (H' := [(n4, (.mem (e24 p0)))]) ⟨rfl, rfl, rfl, trivial⟩ (Sub.refl _) ?_
                            refine AO.callG 29 true 111 [(e24 p0), (eStr p2)] (.fz 1 (t37.map eBool)) 117 rfl (by decide) ok19 rfl rfl (congrArg (fun b => some (AV.fl (Value.bool b))) hc35) rfl rfl ⟨rfl, rfl, rfl, rfl, trivial⟩ (bosketref06_Run_spec et37) ?_
                            exact AO.nilE (ρ' := [(117, (.fz 1 (t37.map eBool)))]) (H' := [(n4, (.mem (e24 p0)))]) ⟨⟨_, rfl, rfl⟩, Sub.refl _⟩ ⟨rfl, trivial⟩ (Sub.refl _)
                          · refine AO.weak (ρ' := [(3, (.ptr n4 0)), (111, (eBool t34))]) (H' := [(n4, (.mem (e24 p0)))]) ⟨rfl, rfl, trivial⟩ (Sub.refl _) ?_
                            refine AO.calmG 29 true 111 rfl rfl (congrArg (fun b => some (AV.fl (Value.bool b))) hc35) 118 rfl (by decide) (.ptr n4 3) (Calm.fldPtr rfl rfl Try.underlying24 rfl sz3 _ rfl) ?_
                            exact AO.nilE (ρ' := [(118, (.ptr n4 3))]) (H' := [(n4, (.mem (e24 p0)))]) ⟨⟨_, rfl, rfl⟩, Sub.refl _⟩ ⟨rfl, trivial⟩ (Sub.refl _)
                          · refine AO.weak (ρ' := [(111, (eBool t34)), (118, (.ptr n4 3))]) (H' := [(n4, (.mem (e24 p0)))]) ⟨rfl, rfl, trivial⟩ (Sub.refl _) ?_
                            refine AO.calmG 29 true 111 rfl rfl (congrArg (fun b => some (AV.fl (Value.bool b))) hc35) 119 rfl (by decide) (eI64 p0.f3) (Calm.load 0 rfl rfl rfl (At.cast (At.fldS (At.fldS (At.fldS (At.fld0 At.here)))) rfl) ag3 sz3) ?_
                            exact AO.nilE (ρ' := [(119, (eI64 p0.f3))]) (H' := [(n4, (.mem (e24 p0)))]) ⟨⟨_, rfl, rfl⟩, Sub.refl _⟩ ⟨rfl, trivial⟩ (Sub.refl _)
                          · refine AO.weak (ρ' := [(111, (eBool t34)), (117, (.fz 1 (t37.map eBool))), (119, (eI64 p0.f3))]) (H' := [(n4, (.mem (e24 p0)))]) ⟨rfl, rfl, rfl, trivial⟩ (Sub.refl _) ?_
                            refine AO.calmG 29 true 111 rfl rfl (congrArg (fun b => some (AV.fl (Value.bool b))) hc35) 120 rfl (by decide) (.rp (eBool (lget t37 p0.f3))) (Calm.idxL (f := eBool) rfl rfl rfl hg38 Try.underlying25 sz4) ?_
                            exact AO.nilE (ρ' := [(120, (.rp (eBool (lget t37 p0.f3))))]) (H' := [(n4, (.mem (e24 p0)))]) ⟨⟨_, rfl, rfl⟩, Sub.refl _⟩ ⟨rfl, trivial⟩ (Sub.refl _)
                          · refine AO.weak (ρ' := [(111, (eBool t34)), (120, (.rp (eBool (lget t37 p0.f3))))]) (H' := [(n4, (.mem (e24 p0)))]) ⟨rfl, rfl, trivial⟩ (Sub.refl _) ?_
                            refine AO.calmG 29 true 111 rfl rfl (congrArg (fun b => some (AV.fl (Value.bool b))) hc35) 121 rfl (by decide) (eBool (lget t37 p0.f3)) (Calm.loadRp rfl rfl ag4 sz4) ?_
                            exact AO.nilE (ρ' := [(121, (eBool (lget t37 p0.f3)))]) (H' := [(n4, (.mem (e24 p0)))]) ⟨⟨_, rfl, rfl⟩, Sub.refl _⟩ ⟨rfl, trivial⟩ (Sub.refl _)
                          · refine AO.weak (ρ' := [(111, (eBool t34)), (114, (eBool t36)), (121, (eBool (lget t37 p0.f3)))]) (H' := [(n4, (.mem (e24 p0)))]) ⟨rfl, rfl, rfl, trivial⟩ (Sub.refl _) ?_
                            refine AO.calmG 29 true 111 rfl rfl (congrArg (fun b => some (AV.fl (Value.bool b))) hc35) 122 rfl (by decide) (eBool (t36 == (lget t37 p0.f3))) (Calm.boolEq rfl rfl rfl Try.underlying4) ?_
                            exact AO.nilE (ρ' := [(122, (eBool (t36 == (lget t37 p0.f3))))]) (H' := [(n4, (.mem (e24 p0)))]) ⟨⟨_, rfl, rfl⟩, Sub.refl _⟩ ⟨rfl, trivial⟩ (Sub.refl _)
                          · refine AO.weak (ρ' := [(111, (eBool t34)), (122, (eBool (t36 == (lget t37 p0.f3))))]) (H' := [(n4, (.mem (e24 p0)))]) ⟨rfl, rfl, trivial⟩ (Sub.refl _) ?_
                            refine AO.calm rfl 123 rfl (by decide) (eBool (t36 == (lget t37 p0.f3))) (Calm.pickT rfl (congrArg (fun b => some (AV.fl (Value.bool b))) hc35) rfl) ?_
                            exact AO.nilE (ρ' := [(123, (eBool (t36 == (lget t37 p0.f3))))]) (H' := [(n4, (.mem (e24 p0)))]) ⟨⟨_, rfl, rfl⟩, Sub.refl _⟩ ⟨rfl, trivial⟩ (Sub.refl _)
                          · refine AO.weak (ρ' := [(123, (eBool (t36 == (lget t37 p0.f3))))]) (H' := [(n4, (.mem (e24 p0)))]) ⟨rfl, trivial⟩ (Sub.refl _) ?_
                            refine AO.calm rfl 6 rfl (by decide) (eBool (t36 == (lget t37 p0.f3))) (Calm.assign rfl rfl) ?_
                            exact AO.nilE (ρ' := [(6, (eBool (t36 == (lget t37 p0.f3))))]) (H' := [(n4, (.mem (e24 p0)))]) ⟨⟨_, rfl, rfl⟩, Sub.refl _⟩ ⟨rfl, trivial⟩ (Sub.refl _)
                        · cases hq24
                          exact ⟨rfl, rfl, rfl⟩
                      · have hq24 := (if_neg hc35).symm.trans hq24
                        refine AW.regAny (by rfl) (by decide +kernel) [(eI64 x21), (.fz 4 (t20.map e33)), (eI64 (t20.length : Int)), (eBool (decide (x21 = (t20.length : Int)))), (eBool (decide (x21 = (t20.length : Int)))), (e24 p0), (eBool t26), (eBool t26), (eBool t26), (e24 p0), (.fz 1 (p1.map eBool)), (.fz 1 (t28.map eBool)), (e24 p0), (.fz 1 (p1.map eBool)), (.fz 1 (t29.map eBool)), (eBool t30), (eBool t30), (eBool t30), (e24 p0), (.fz 1 (p1.map eBool)), (eU8 x22), (.fz 1 (t32.map eBool)), (e24 p0), (.fz 1 (p1.map eBool)), (eU8 x22), (eI64 (w64 x22)), (.fz 1 (t33.map eBool)), (eBool t34), (eBool t34), (eBool t34), (.fl undef), (.fl undef), (.fl undef), (.fl undef), (.fl undef), (.fl undef), (.fl undef), (.fl undef), (.fl undef), (.fl undef), (.fl undef), (eBool false), (eBool false)] [(1, (.fz 1 (p1.map eBool))), (2, (eStr p2)), (3, (.ptr n4 0)), (7, (.fz 4 (t20.map e33))), (8, (eI64 x21)), (10, (eU8 x22))] ⟨rfl, rfl, rfl, rfl, rfl, rfl, trivial⟩ rfl ?_ [(6, (eBool false))] [] ⟨rfl, trivial⟩ (Sub.nil _) ?_
                        · refine ⟨?_, ?_, ?_, ?_, ?_, ?_, ?_, ?_, ?_, ?_, ?_, ?_, ?_, ?_, ?_, ?_, ?_, ?_, ?_, ?_, ?_, ?_, ?_, ?_, ?_, ?_, ?_, ?_, ?_, ?_, ?_, ?_, ?_, ?_, ?_, ?_, ?_, ?_, ?_, ?_, ?_, ?_, ?_, trivial⟩
                          · refine AO.weak (ρ' := [(8, (eI64 x21))]) (H' := [(n4, (.mem (e24 p0)))]) ⟨rfl, trivial⟩ (Sub.refl _) ?_
                            refine AO.calm rfl 82 rfl (by decide) (eI64 x21) (Calm.move rfl rfl) ?_
                            exact AO.nilE (ρ' := [(82, (eI64 x21))]) (H' := [(n4, (.mem (e24 p0)))]) ⟨⟨_, rfl, rfl⟩, Sub.refl _⟩ ⟨rfl, trivial⟩ (Sub.refl _)
                          · refine AO.weak (ρ' := [(7, (.fz 4 (t20.map e33)))]) (H' := [(n4, (.mem (e24 p0)))]) ⟨rfl, trivial⟩ (Sub.refl _) ?_
                            refine AO.calm rfl 83 rfl (by decide) (.fz 4 (t20.map e33)) (Calm.move rfl rfl) ?_
                            exact AO.nilE (ρ' := [(83, (.fz 4 (t20.map e33)))]) (H' := [(n4, (.mem (e24 p0)))]) ⟨⟨_, rfl, rfl⟩, Sub.refl _⟩ ⟨rfl, trivial⟩ (Sub.refl _)
                          · refine AO.weak (ρ' := [(83, (.fz 4 (t20.map e33)))]) (H' := [(n4, (.mem (e24 p0)))]) ⟨rfl, trivial⟩ (Sub.refl _) ?_
                            refine AO.calm rfl 84 rfl (by decide) (eI64 (t20.length : Int)) (Calm.lenL rfl rfl Try.underlying29) ?_
                            exact AO.nilE (ρ' := [(84, (eI64 (t20.length : Int)))]) (H' := [(n4, (.mem (e24 p0)))]) ⟨⟨_, rfl, rfl⟩, Sub.refl _⟩ ⟨rfl, trivial⟩ (Sub.refl _)
                          · refine AO.weak (ρ' := [(82, (eI64 x21)), (84, (eI64 (t20.length : Int)))]) (H' := [(n4, (.mem (e24 p0)))]) ⟨rfl, rfl, trivial⟩ (Sub.refl _) ?_
                            refine AO.calm rfl 85 rfl (by decide) (eBool (decide (x21 = (t20.length : Int)))) (Calm.int rfl rfl rfl rfl) ?_
                            exact AO.nilE (ρ' := [(85, (eBool (decide (x21 = (t20.length : Int)))))]) (H' := [(n4, (.mem (e24 p0)))]) ⟨⟨_, rfl, rfl⟩, Sub.refl _⟩ ⟨rfl, trivial⟩ (Sub.refl _)
                          · refine AO.weak (ρ' := [(85, (eBool (decide (x21 = (t20.length : Int)))))]) (H' := [(n4, (.mem (e24 p0)))]) ⟨rfl, trivial⟩ (Sub.refl _) ?_
                            refine AO.calm rfl 86 rfl (by decide) (eBool (decide (x21 = (t20.length : Int)))) (Calm.move rfl rfl) ?_
                            exact AO.nilE (ρ' := [(86, (eBool (decide (x21 = (t20.length : Int)))))]) (H' := [(n4, (.mem (e24 p0)))]) ⟨⟨_, rfl, rfl⟩, Sub.refl _⟩ ⟨rfl, trivial⟩ (Sub.refl _)
                          · refine AO.weak (ρ' := [(3, (.ptr n4 0)), (86, (eBool (decide (x21 = (t20.length : Int)))))]) (H' := [(n4, (.mem (e24 p0)))]) ⟨rfl, rfl, trivial⟩ (Sub.refl _) ?_
                            refine AO.calmG 4 true 86 rfl rfl (congrArg (fun b => some (AV.fl (Value.bool b))) (decide_eq_true hc25)) 87 rfl (by decide) (e24 p0) (Calm.load 0 rfl rfl rfl (At.cast At.here rfl) ag24 sz24) ?_
                            exact AO.nilE (ρ' := [(87, (e24 p0))]) (H' := [(n4, (.mem (e24 p0)))]) ⟨⟨_, rfl, rfl⟩, Sub.refl _⟩ ⟨rfl, trivial⟩ (Sub.refl _)
                          · refine AO.weak (ρ' := [(86, (eBool (decide (x21 = (t20.length : Int))))), (87, (e24 p0))]) (H' := [(n4, (.mem (e24 p0)))]) ⟨rfl, rfl, trivial⟩ (Sub.refl _) ?_
                            refine AO.callG 4 true 86 [(e24 p0)] (eBool t26) 88 rfl (by decide) ok11 rfl rfl (congrArg (fun b => some (AV.fl (Value.bool b))) (decide_eq_true hc25)) rfl rfl ⟨rfl, rfl, trivial⟩ (nfa_Right_spec et26) ?_
                            exact AO.nilE (ρ' := [(88, (eBool t26))]) (H' := [(n4, (.mem (e24 p0)))]) ⟨⟨_, rfl, rfl⟩, Sub.refl _⟩ ⟨rfl, trivial⟩ (Sub.refl _)
                          · refine AO.weak (ρ' := [(86, (eBool (decide (x21 = (t20.length : Int))))), (88, (eBool t26))]) (H' := [(n4, (.mem (e24 p0)))]) ⟨rfl, rfl, trivial⟩ (Sub.refl _) ?_
                            refine AO.calm rfl 89 rfl (by decide) (eBool t26) (Calm.pickT rfl (congrArg (fun b => some (AV.fl (Value.bool b))) (decide_eq_true hc25)) rfl) ?_
                            exact AO.nilE (ρ' := [(89, (eBool t26))]) (H' := [(n4, (.mem (e24 p0)))]) ⟨⟨_, rfl, rfl⟩, Sub.refl _⟩ ⟨rfl, trivial⟩ (Sub.refl _)
                          · refine AO.weak (ρ' := [(89, (eBool t26))]) (H' := [(n4, (.mem (e24 p0)))]) ⟨rfl, trivial⟩ (Sub.refl _) ?_
                            refine AO.calm rfl 90 rfl (by decide) (eBool t26) (Calm.move rfl rfl) ?_
                            exact AO.nilE (ρ' := [(90, (eBool t26))]) (H' := [(n4, (.mem (e24 p0)))]) ⟨⟨_, rfl, rfl⟩, Sub.refl _⟩ ⟨rfl, trivial⟩ (Sub.refl _)
                          · refine AO.weak (ρ' := [(3, (.ptr n4 0)), (90, (eBool t26))]) (H' := [(n4, (.mem (e24 p0)))]) ⟨rfl, rfl, trivial⟩ (Sub.refl _) ?_
                            refine AO.calmG 8 true 90 rfl rfl (congrArg (fun b => some (AV.fl (Value.bool b))) hc27) 91 rfl (by decide) (e24 p0) (Calm.load 0 rfl rfl rfl (At.cast At.here rfl) ag24 sz24) ?_
                            exact AO.nilE (ρ' := [(91, (e24 p0))]) (H' := [(n4, (.mem (e24 p0)))]) ⟨⟨_, rfl, rfl⟩, Sub.refl _⟩ ⟨rfl, trivial⟩ (Sub.refl _)
                          · refine AO.weak (ρ' := [(1, (.fz 1 (p1.map eBool))), (90, (eBool t26))]) (H' := [(n4, (.mem (e24 p0)))]) ⟨rfl, rfl, trivial⟩ (Sub.refl _) ?_
                            refine AO.calmG 8 true 90 rfl rfl (congrArg (fun b => some (AV.fl (Value.bool b))) hc27) 92 rfl (by decide) (.fz 1 (p1.map eBool)) (Calm.move rfl rfl) ?_
                            exact AO.nilE (ρ' := [(92, (.fz 1 (p1.map eBool)))]) (H' := [(n4, (.mem (e24 p0)))]) ⟨⟨_, rfl, rfl⟩, Sub.refl _⟩ ⟨rfl, trivial⟩ (Sub.refl _)
                          · refine AO.weak (ρ' := [(90, (eBool t26)), (91, (e24 p0)), (92, (.fz 1 (p1.map eBool)))]) (H' := [(n4, (.mem (e24 p0)))]) ⟨rfl, rfl, rfl, trivial⟩ (Sub.refl _) ?_
                            refine AO.callG 8 true 90 [(e24 p0), (.fz 1 (p1.map eBool))] (.fz 1 (t28.map eBool)) 93 rfl (by decide) ok15 rfl rfl (congrArg (fun b => some (AV.fl (Value.bool b))) hc27) rfl rfl ⟨rfl, rfl, rfl, rfl, trivial⟩ (nfa_Close_spec et28) ?_
                            exact AO.nilE (ρ' := [(93, (.fz 1 (t28.map eBool)))]) (H' := [(n4, (.mem (e24 p0)))]) ⟨⟨_, rfl, rfl⟩, Sub.refl _⟩ ⟨rfl, trivial⟩ (Sub.refl _)
                          · refine AO.weak (ρ' := [(3, (.ptr n4 0)), (90, (eBool t26))]) (H' := [(n4, (.mem (e24 p0)))]) ⟨rfl, rfl, trivial⟩ (Sub.refl _) ?_
                            refine AO.calmG 8 true 90 rfl rfl (congrArg (fun b => some (AV.fl (Value.bool b))) hc27) 94 rfl (by decide) (e24 p0) (Calm.load 0 rfl rfl rfl (At.cast At.here rfl) ag24 sz24) ?_
                            exact AO.nilE (ρ' := [(94, (e24 p0))]) (H' := [(n4, (.mem (e24 p0)))]) ⟨⟨_, rfl, rfl⟩, Sub.refl _⟩ ⟨rfl, trivial⟩ (Sub.refl _)
                          · refine AO.weak (ρ' := [(1, (.fz 1 (p1.map eBool))), (90, (eBool t26))]) (H' := [(n4, (.mem (e24 p0)))]) ⟨rfl, rfl, trivial⟩ (Sub.refl _) ?_
                            refine AO.calmG 8 true 90 rfl rfl (congrArg (fun b => some (AV.fl (Value.bool b))) hc27) 95 rfl (by decide) (.fz 1 (p1.map eBool)) (Calm.move rfl rfl) ?_
                            exact AO.nilE (ρ' := [(95, (.fz 1 (p1.map eBool)))]) (H' := [(n4, (.mem (e24 p0)))]) ⟨⟨_, rfl, rfl⟩, Sub.refl _⟩ ⟨rfl, trivial⟩ (Sub.refl _)
                          · refine AO.weak (ρ' := [(90, (eBool t26)), (94, (e24 p0)), (95, (.fz 1 (p1.map eBool)))]) (H' := [(n4, (.mem (e24 p0)))]) ⟨rfl, rfl, rfl, trivial⟩ (Sub.refl _) ?_
                            refine AO.callG 8 true 90 [(e24 p0), (.fz 1 (p1.map eBool))] (.fz 1 (t29.map eBool)) 96 rfl (by decide) ok16 rfl rfl (congrArg (fun b => some (AV.fl (Value.bool b))) hc27) rfl rfl ⟨rfl, rfl, rfl, rfl, trivial⟩ (bosketref06_Close_spec et29) ?_
                            exact AO.nilE (ρ' := [(96, (.fz 1 (t29.map eBool)))]) (H' := [(n4, (.mem (e24 p0)))]) ⟨⟨_, rfl, rfl⟩, Sub.refl _⟩ ⟨rfl, trivial⟩ (Sub.refl _)
                          · refine AO.weak (ρ' := [(90, (eBool t26)), (93, (.fz 1 (t28.map eBool))), (96, (.fz 1 (t29.map eBool)))]) (H' := [(n4, (.mem (e24 p0)))]) ⟨rfl, rfl, rfl, trivial⟩ (Sub.refl _) ?_
                            refine AO.callG 8 true 90 [(.fz 1 (t28.map eBool)), (.fz 1 (t29.map eBool))] (eBool t30) 97 rfl (by decide) ok14 rfl rfl (congrArg (fun b => some (AV.fl (Value.bool b))) hc27) rfl rfl ⟨rfl, rfl, rfl, rfl, trivial⟩ (bosketref06_Same_spec et30) ?_
                            exact AO.nilE (ρ' := [(97, (eBool t30))]) (H' := [(n4, (.mem (e24 p0)))]) ⟨⟨_, rfl, rfl⟩, Sub.refl _⟩ ⟨rfl, trivial⟩ (Sub.refl _)
                          · refine AO.weak (ρ' := [(90, (eBool t26)), (97, (eBool t30))]) (H' := [(n4, (.mem (e24 p0)))]) ⟨rfl, rfl, trivial⟩ (Sub.refl _) ?_
                            refine AO.calm rfl 98 rfl (by decide) (eBool t30) (Calm.pickT rfl (congrArg (fun b => some (AV.fl (Value.bool b))) hc27) rfl) ?_
                            exact AO.nilE (ρ' := [(98, (eBool t30))]) (H' := [(n4, (.mem (e24 p0)))]) ⟨⟨_, rfl, rfl⟩, Sub.refl _⟩ ⟨rfl, trivial⟩ (Sub.refl _)
                          · refine AO.weak (ρ' := [(98, (eBool t30))]) (H' := [(n4, (.mem (e24 p0)))]) ⟨rfl, trivial⟩ (Sub.refl _) ?_
                            refine AO.calm rfl 99 rfl (by decide) (eBool t30) (Calm.move rfl rfl) ?_
                            exact AO.nilE (ρ' := [(99, (eBool t30))]) (H' := [(n4, (.mem (e24 p0)))]) ⟨⟨_, rfl, rfl⟩, Sub.refl _⟩ ⟨rfl, trivial⟩ (Sub.refl _)
                          · refine AO.weak (ρ' := [(3, (.ptr n4 0)), (99, (eBool t30))]) (H' := [(n4, (.mem (e24 p0)))]) ⟨rfl, rfl, trivial⟩ (Sub.refl _) ?_
                            refine AO.calmG 17 true 99 rfl rfl (congrArg (fun b => some (AV.fl (Value.bool b))) hc31) 100 rfl (by decide) (e24 p0) (Calm.load 0 rfl rfl rfl (At.cast At.here rfl) ag24 sz24) ?_
                            exact AO.nilE (ρ' := [(100, (e24 p0))]) (H' := [(n4, (.mem (e24 p0)))]) ⟨⟨_, rfl, rfl⟩, Sub.refl _⟩ ⟨rfl, trivial⟩ (Sub.refl _)
                          · refine AO.weak (ρ' := [(1, (.fz 1 (p1.map eBool))), (99, (eBool t30))]) (H' := [(n4, (.mem (e24 p0)))]) ⟨rfl, rfl, trivial⟩ (Sub.refl _) ?_
                            refine AO.calmG 17 true 99 rfl rfl (congrArg (fun b => some (AV.fl (Value.bool b))) hc31) 101 rfl (by decide) (.fz 1 (p1.map eBool)) (Calm.move rfl rfl) ?_
                            exact AO.nilE (ρ' := [(101, (.fz 1 (p1.map eBool)))]) (H' := [(n4, (.mem (e24 p0)))]) ⟨⟨_, rfl, rfl⟩, Sub.refl _⟩ ⟨rfl, trivial⟩ (Sub.refl _)
                          · refine AO.weak (ρ' := [(10, (eU8 x22)), (99, (eBool t30))]) (H' := [(n4, (.mem (e24 p0)))]) ⟨rfl, rfl, trivial⟩ (Sub.refl _) ?_
                            refine AO.calmG 17 true 99 rfl rfl (congrArg (fun b => some (AV.fl (Value.bool b))) hc31) 102 rfl (by decide) (eU8 x22) (Calm.move rfl rfl) ?_
                            exact AO.nilE (ρ' := [(102, (eU8 x22))]) (H' := [(n4, (.mem (e24 p0)))]) ⟨⟨_, rfl, rfl⟩, Sub.refl _⟩ ⟨rfl, trivial⟩ (Sub.refl _)
                          · refine AO.weak (ρ' := [(99, (eBool t30)), (100, (e24 p0)), (101, (.fz 1 (p1.map eBool))), (102, (eU8 x22))]) (H' := [(n4, (.mem (e24 p0)))]) ⟨rfl, rfl, rfl, rfl, trivial⟩ (Sub.refl _) ?_
                            refine AO.callG 17 true 99 [(e24 p0), (.fz 1 (p1.map eBool)), (eU8 x22)] (.fz 1 (t32.map eBool)) 103 rfl (by decide) ok17 rfl rfl (congrArg (fun b => some (AV.fl (Value.bool b))) hc31) rfl rfl ⟨rfl, rfl, rfl, rfl, rfl, rfl, trivial⟩ (nfa_Move_spec et32) ?_
                            exact AO.nilE (ρ' := [(103, (.fz 1 (t32.map eBool)))]) (H' := [(n4, (.mem (e24 p0)))]) ⟨⟨_, rfl, rfl⟩, Sub.refl _⟩ ⟨rfl, trivial⟩ (Sub.refl _)
                          · refine AO.weak (ρ' := [(3, (.ptr n4 0)), (99, (eBool t30))]) (H' := [(n4, (.mem (e24 p0)))]) ⟨rfl, rfl, trivial⟩ (Sub.refl _) ?_
                            refine AO.calmG 17 true 99 rfl rfl (congrArg (fun b => some (AV.fl (Value.bool b))) hc31) 104 rfl (by decide) (e24 p0) (Calm.load 0 rfl rfl rfl (At.cast At.here rfl) ag24 sz24) ?_
                            exact AO.nilE (ρ' := [(104, (e24 p0))]) (H' := [(n4, (.mem (e24 p0)))]) ⟨⟨_, rfl, rfl⟩, Sub.refl _⟩ ⟨rfl, trivial⟩ (Sub.refl _)
                          · refine AO.weak (ρ' := [(1, (.fz 1 (p1.map eBool))), (99, (eBool t30))]) (H' := [(n4, (.mem (e24 p0)))]) ⟨rfl, rfl, trivial⟩ (Sub.refl _) ?_
                            refine AO.calmG 17 true 99 rfl rfl (congrArg (fun b => some (AV.fl (Value.bool b))) hc31) 105 rfl (by decide) (.fz 1 (p1.map eBool)) (Calm.move rfl rfl) ?_
                            exact AO.nilE (ρ' := [(105, (.fz 1 (p1.map eBool)))]) (H' := [(n4, (.mem (e24 p0)))]) ⟨⟨_, rfl, rfl⟩, Sub.refl _⟩ ⟨rfl, trivial⟩ (Sub.refl _)
                          · refine AO.weak (ρ' := [(10, (eU8 x22)), (99, (eBool t30))]) (H' := [(n4, (.mem (e24 p0)))]) ⟨rfl, rfl, trivial⟩ (Sub.refl _) ?_
                            refine AO.calmG 17 true 99 rfl rfl (congrArg (fun b => some (AV.fl (Value.bool b))) hc31) 106 rfl (by decide) (eU8 x22) (Calm.move rfl rfl) ?_
                            exact AO.nilE (ρ' := [(106, (eU8 x22))]) (H' := [(n4, (.mem (e24 p0)))]) ⟨⟨_, rfl, rfl⟩, Sub.refl _⟩ ⟨rfl, trivial⟩ (Sub.refl _)
                          · refine AO.weak (ρ' := [(99, (eBool t30)), (106, (eU8 x22))]) (H' := [(n4, (.mem (e24 p0)))]) ⟨rfl, rfl, trivial⟩ (Sub.refl _) ?_
                            refine AO.calmG 17 true 99 rfl rfl (congrArg (fun b => some (AV.fl (Value.bool b))) hc31) 107 rfl (by decide) (eI64 (w64 x22)) (Calm.conv rfl rfl Try.underlying5 Try.underlying3) ?_
                            exact AO.nilE (ρ' := [(107, (eI64 (w64 x22)))]) (H' := [(n4, (.mem (e24 p0)))]) ⟨⟨_, rfl, rfl⟩, Sub.refl _⟩ ⟨rfl, trivial⟩ (Sub.refl _)
                          · refine AO.weak (ρ' := [(99, (eBool t30)), (104, (e24 p0)), (105, (.fz 1 (p1.map eBool))), (107, (eI64 (w64 x22)))]) (H' := [(n4, (.mem (e24 p0)))]) ⟨rfl, rfl, rfl, rfl, trivial⟩ (Sub.refl _) ?_
                            refine AO.callG 17 true 99 [(e24 p0), (.fz 1 (p1.map eBool)), (eI64 (w64 x22))] (.fz 1 (t33.map eBool)) 108 rfl (by decide) ok18 rfl rfl (congrArg (fun b => some (AV.fl (Value.bool b))) hc31) rfl rfl ⟨rfl, rfl, rfl, rfl, rfl, rfl, trivial⟩ (bosketref06_Move_spec et33) ?_
                            exact AO.nilE (ρ' := [(108, (.fz 1 (t33.map eBool)))]) (H' := [(n4, (.mem (e24 p0)))]) ⟨⟨_, rfl, rfl⟩, Sub.refl _⟩ ⟨rfl, trivial⟩ (Sub.refl _)
                          · refine AO.weak (ρ' := [(99, (eBool t30)), (103, (.fz 1 (t32.map eBool))), (108, (.fz 1 (t33.map eBool)))]) (H' := [(n4, (.mem (e24 p0)))]) ⟨rfl, rfl, rfl, trivial⟩ (Sub.refl _) ?_
                            refine AO.callG 17 true 99 [(.fz 1 (t32.map eBool)), (.fz 1 (t33.map eBool))] (eBool t34) 109 rfl (by decide) ok14 rfl rfl (congrArg (fun b => some (AV.fl (Value.bool b))) hc31) rfl rfl ⟨rfl, rfl, rfl, rfl, trivial⟩ (bosketref06_Same_spec et34) ?_
                            exact AO.nilE (ρ' := [(109, (eBool t34))]) (H' := [(n4, (.mem (e24 p0)))]) ⟨⟨_, rfl, rfl⟩, Sub.refl _⟩ ⟨rfl, trivial⟩ (Sub.refl _)
                          · refine AO.weak (ρ' := [(99, (eBool t30)), (109, (eBool t34))]) (H' := [(n4, (.mem (e24 p0)))]) ⟨rfl, rfl, trivial⟩ (Sub.refl _) ?_
                            refine AO.calm rfl 110 rfl (by decide) (eBool t34) (Calm.pickT rfl (congrArg (fun b => some (AV.fl (Value.bool b))) hc31) rfl) ?_
                            exact AO.nilE (ρ' := [(110, (eBool t34))]) (H' := [(n4, (.mem (e24 p0)))]) ⟨⟨_, rfl, rfl⟩, Sub.refl _⟩ ⟨rfl, trivial⟩ (Sub.refl _)
                          · refine AO.weak (ρ' := [(110, (eBool t34))]) (H' := [(n4, (.mem (e24 p0)))]) ⟨rfl, trivial⟩ (Sub.refl _) ?_
                            refine AO.calm rfl 111 rfl (by decide) (eBool t34) (Calm.move rfl rfl) ?_
                            exact AO.nilE (ρ' := [(111, (eBool t34))]) (H' := [(n4, (.mem (e24 p0)))]) ⟨⟨_, rfl, rfl⟩, Sub.refl _⟩ ⟨rfl, trivial⟩ (Sub.refl _)
                          · refine AO.weak (ρ' := [(111, (eBool t34))]) (H' := [(n4, (.mem (e24 p0)))]) ⟨rfl, trivial⟩ (Sub.refl _) ?_
                            refine AO.skipG 29 false 111 rfl rfl (congrArg (fun b => some (AV.fl (Value.bool b))) (eq_false_of_ne_true hc35)) 112 rfl (by decide) ?_
                            exact AO.nilE (ρ' := [(112, (.fl undef))]) (H' := [(n4, (.mem (e24 p0)))]) ⟨⟨_, rfl, rfl⟩, Sub.refl _⟩ ⟨rfl, trivial⟩ (Sub.refl _)
                          · refine AO.weak (ρ' := [(111, (eBool t34))]) (H' := [(n4, (.mem (e24 p0)))]) ⟨rfl, trivial⟩ (Sub.refl _) ?_
                            refine AO.skipG 29 false 111 rfl rfl (congrArg (fun b => some (AV.fl (Value.bool b))) (eq_false_of_ne_true hc35)) 113 rfl (by decide) ?_
                            exact AO.nilE (ρ' := [(113, (.fl undef))]) (H' := [(n4, (.mem (e24 p0)))]) ⟨⟨_, rfl, rfl⟩, Sub.refl _⟩ ⟨rfl, trivial⟩ (Sub.refl _)
                          · refine AO.weak (ρ' := [(111, (eBool t34))]) (H' := [(n4, (.mem (e24 p0)))]) ⟨rfl, trivial⟩ (Sub.refl _) ?_
                            refine AO.skipG 29 false 111 rfl rfl (congrArg (fun b => some (AV.fl (Value.bool b))) (eq_false_of_ne_true hc35)) 114 rfl (by decide) ?_
                            exact AO.nilE (ρ' := [(114, (.fl undef))]) (H' := [(n4, (.mem (e24 p0)))]) ⟨⟨_, rfl, rfl⟩, Sub.refl _⟩ ⟨rfl, trivial⟩ (Sub.refl _)
                          · refine AO.weak (ρ' := [(111, (eBool t34))]) (H' := [(n4, (.mem (e24 p0)))]) ⟨rfl, trivial⟩ (Sub.refl _) ?_
                            refine AO.skipG 29 false 111 rfl rfl (congrArg (fun b => some (AV.fl (Value.bool b))) (eq_false_of_ne_true hc35)) 115 rfl (by decide) ?_
                            exact AO.nilE (ρ' := [(115, (.fl undef))]) (H' := [(n4, (.mem (e24 p0)))]) ⟨⟨_, rfl, rfl⟩, Sub.refl _⟩ ⟨rfl, trivial⟩ (Sub.refl _)
                          · refine AO.weak (ρ' := [(111, (eBool t34))]) (H' := [(n4, (.mem (e24 p0)))]) ⟨rfl, trivial⟩ (Sub.refl _) ?_
                            refine AO.skipG 29 false 111 rfl rfl (congrArg (fun b => some (AV.fl (Value.bool b))) (eq_false_of_ne_true hc35)) 116 rfl (by decide) ?_
                            exact AO.nilE (ρ' := [(116, (.fl undef))]) (H' := [(n4, (.mem (e24 p0)))]) ⟨⟨_, rfl, rfl⟩, Sub.refl _⟩ ⟨rfl, trivial⟩ (Sub.refl _)
                          · refine AO.weak (ρ' := [(111, (eBool t34))]) (H' := [(n4, (.mem (e24 p0)))]) ⟨rfl, trivial⟩ (Sub.refl _) ?_
                            refine AO.skipG 29 false 111 rfl rfl (congrArg (fun b => some (AV.fl (Value.bool b))) (eq_false_of_ne_true hc35)) 117 rfl (by decide) ?_
                            exact AO.nilE (ρ' := [(117, (.fl undef))]) (H' := [(n4, (.mem (e24 p0)))]) ⟨⟨_, rfl, rfl⟩, Sub.refl _⟩ ⟨rfl, trivial⟩ (Sub.refl _)
                          · refine AO.weak (ρ' := [(111, (eBool t34))]) (H' := [(n4, (.mem (e24 p0)))]) ⟨rfl, trivial⟩ (Sub.refl _) ?_
                            refine AO.skipG 29 false 111 rfl rfl (congrArg (fun b => some (AV.fl (Value.bool b))) (eq_false_of_ne_true hc35)) 118 rfl (by decide) ?_
                            exact AO.nilE (ρ' := [(118, (.fl undef))]) (H' := [(n4, (.mem (e24 p0)))]) ⟨⟨_, rfl, rfl⟩, Sub.refl _⟩ ⟨rfl, trivial⟩ (Sub.refl _)
                          · refine AO.weak (ρ' := [(111, (eBool t34))]) (H' := [(n4, (.mem (e24 p0)))]) ⟨rfl, trivial⟩ (Sub.refl _) ?_
                            refine AO.skipG 29 false 111 rfl rfl (congrArg (fun b => some (AV.fl (Value.bool b))) (eq_false_of_ne_true hc35)) 119 rfl (by decide) ?_
                            exact AO.nilE (ρ' := [(119, (.fl undef))]) (H' := [(n4, (.mem (e24 p0)))]) ⟨⟨_, rfl, rfl⟩, Sub.refl _⟩ ⟨rfl, trivial⟩ (Sub.refl _)
                          · refine AO.weak (ρ' := [(111, (eBool t34))]) (H' := [(n4, (.mem (e24 p0)))]) ⟨rfl, trivial⟩ (Sub.refl _) ?_
                            refine AO.skipG 29 false 111 rfl rfl (congrArg (fun b => some (AV.fl (Value.bool b))) (eq_false_of_ne_true hc35)) 120 rfl (by decide) ?_
                            exact AO.nilE (ρ' := [(120, (.fl undef))]) (H' := [(n4, (.mem (e24 p0)))]) ⟨⟨_, rfl, rfl⟩, Sub.refl _⟩ ⟨rfl, trivial⟩ (Sub.refl _)
                          · refine AO.weak (ρ' := [(111, (eBool t34))]) (H' := [(n4, (.mem (e24 p0)))]) ⟨rfl, trivial⟩ (Sub.refl _) ?_
                            refine AO.skipG 29 false 111 rfl rfl (congrArg (fun b => some (AV.fl (Value.bool b))) (eq_false_of_ne_true hc35)) 121 rfl (by decide) ?_
                            exact AO.nilE (ρ' := [(121, (.fl undef))]) (H' := [(n4, (.mem (e24 p0)))]) ⟨⟨_, rfl, rfl⟩, Sub.refl _⟩ ⟨rfl, trivial⟩ (Sub.refl _)
                          · refine AO.weak (ρ' := [(111, (eBool t34))]) (H' := [(n4, (.mem (e24 p0)))]) ⟨rfl, trivial⟩ (Sub.refl _) ?_
                            refine AO.skipG 29 false 111 rfl rfl (congrArg (fun b => some (AV.fl (Value.bool b))) (eq_false_of_ne_true hc35)) 122 rfl (by decide) ?_
                            exact AO.nilE (ρ' := [(122, (.fl undef))]) (H' := [(n4, (.mem (e24 p0)))]) ⟨⟨_, rfl, rfl⟩, Sub.refl _⟩ ⟨rfl, trivial⟩ (Sub.refl _)
                          · refine AO.weak (ρ' := [(111, (eBool t34)), (122, (.fl undef))]) (H' := [(n4, (.mem (e24 p0)))]) ⟨rfl, rfl, trivial⟩ (Sub.refl _) ?_
                            refine AO.calm rfl 123 rfl (by decide) (eBool false) (Calm.pickF rfl (congrArg (fun b => some (AV.fl (Value.bool b))) (eq_false_of_ne_true hc35)) rfl) ?_
                            exact AO.nilE (ρ' := [(123, (eBool false))]) (H' := [(n4, (.mem (e24 p0)))]) ⟨⟨_, rfl, rfl⟩, Sub.refl _⟩ ⟨rfl, trivial⟩ (Sub.refl _)
                          · refine AO.weak (ρ' := [(123, (eBool false))]) (H' := [(n4, (.mem (e24 p0)))]) ⟨rfl, trivial⟩ (Sub.refl _) ?_
                            refine AO.calm rfl 6 rfl (by decide) (eBool false) (Calm.assign rfl rfl) ?_
                            exact AO.nilE (ρ' := [(6, (eBool false))]) (H' := [(n4, (.mem (e24 p0)))]) ⟨⟨_, rfl, rfl⟩, Sub.refl _⟩ ⟨rfl, trivial⟩ (Sub.refl _)
                        · cases hq24
                          exact ⟨rfl, rfl, rfl⟩
                    · have hq24 := (if_neg hc31).symm.trans hq24
                      refine AW.regAny (by rfl) (by decide +kernel) [(eI64 x21), (.fz 4 (t20.map e33)), (eI64 (t20.length : Int)), (eBool (decide (x21 = (t20.length : Int)))), (eBool (decide (x21 = (t20.length : Int)))), (e24 p0), (eBool t26), (eBool t26), (eBool t26), (e24 p0), (.fz 1 (p1.map eBool)), (.fz 1 (t28.map eBool)), (e24 p0), (.fz 1 (p1.map eBool)), (.fz 1 (t29.map eBool)), (eBool t30), (eBool t30), (eBool t30), (.fl undef), (.fl undef), (.fl undef), (.fl undef), (.fl undef), (.fl undef), (.fl undef), (.fl undef), (.fl undef), (.fl undef), (eBool false), (eBool false), (.fl undef), (.fl undef), (.fl undef), (.fl undef), (.fl undef), (.fl undef), (.fl undef), (.fl undef), (.fl undef), (.fl undef), (.fl undef), (eBool false), (eBool false)] [(1, (.fz 1 (p1.map eBool))), (2, (eStr p2)), (3, (.ptr n4 0)), (7, (.fz 4 (t20.map e33))), (8, (eI64 x21)), (10, (eU8 x22))] ⟨rfl, rfl, rfl, rfl, rfl, rfl, trivial⟩ rfl ?_ [(6, (eBool false))] [] ⟨rfl, trivial⟩ (Sub.nil _) ?_
                      · refine ⟨?_, ?_, ?_, ?_, ?_, ?_, ?_, ?_, ?_, ?_, ?_, ?_, ?_, ?_, ?_, ?_, ?_, ?_, ?_, ?_, ?_, ?_, ?_, ?_, ?_, ?_, ?_, ?_, ?_, ?_, ?_, ?_, ?_, ?_, ?_, ?_, ?_, ?_, ?_, ?_, ?_, ?_, ?_, trivial⟩
                        · refine AO.weak (ρ' := [(8, (eI64 x21))]) (H' := [(n4, (.mem (e24 p0)))]) ⟨rfl, trivial⟩ (Sub.refl _) ?_
                          refine AO.calm rfl 82 rfl (by decide) (eI64 x21) (Calm.move rfl rfl) ?_
                          exact AO.nilE (ρ' := [(82, (eI64 x21))]) (H' := [(n4, (.mem (e24 p0)))]) ⟨⟨_, rfl, rfl⟩, Sub.refl _⟩ ⟨rfl, trivial⟩ (Sub.refl _)
                        · refine AO.weak (ρ' := [(7, (.fz 4 (t20.map e33)))]) (H' := [(n4, (.mem (e24 p0)))]) ⟨rfl, trivial⟩ (Sub.refl _) ?_
                          refine AO.calm rfl 83 rfl (by decide) (.fz 4 (t20.map e33)) (Calm.move rfl rfl) ?_
                          exact AO.nilE (ρ' := [(83, (.fz 4 (t20.map e33)))]) (H' := [(n4, (.mem (e24 p0)))]) ⟨⟨_, rfl, rfl⟩, Sub.refl _⟩ ⟨rfl, trivial⟩ (Sub.refl _)
                        · refine AO.weak (ρ' := [(83, (.fz 4 (t20.map e33)))]) (H' := [(n4, (.mem (e24 p0)))]) ⟨rfl, trivial⟩ (Sub.refl _) ?_
                          refine AO.calm rfl 84 rfl (by decide) (eI64 (t20.length : Int)) (Calm.lenL rfl rfl Try.underlying29) ?_
                          exact AO.nilE (ρ' := [(84, (eI64 (t20.length : Int)))]) (H' := [(n4, (.mem (e24 p0)))]) ⟨⟨_, rfl, rfl⟩, Sub.refl _⟩ ⟨rfl, trivial⟩ (Sub.refl _)
                        · refine AO.weak (ρ' := [(82, (eI64 x21)), (84, (eI64 (t20.length : Int)))]) (H' := [(n4, (.mem (e24 p0)))]) ⟨rfl, rfl, trivial⟩ (Sub.refl _) ?_
                          refine AO.calm rfl 85 rfl (by decide) (eBool (decide (x21 = (t20.length : Int)))) (Calm.int rfl rfl rfl rfl) ?_
                          exact AO.nilE (ρ' := [(85, (eBool (decide (x21 = (t20.length : Int)))))]) (H' := [(n4, (.mem (e24 p0)))]) ⟨⟨_, rfl, rfl⟩, Sub.refl _⟩ ⟨rfl, trivial⟩ (Sub.refl _)
                        · refine AO.weak (ρ' := [(85, (eBool (decide (x21 = (t20.length : Int)))))]) (H' := [(n4, (.mem (e24 p0)))]) ⟨rfl, trivial⟩ (Sub.refl _) ?_
                          refine AO.calm rfl 86 rfl (by decide) (eBool (decide (x21 = (t20.length : Int)))) (Calm.move rfl rfl) ?_
                          exact AO.nilE (ρ' := [(86, (eBool (decide (x21 = (t20.length : Int)))))]) (H' := [(n4, (.mem (e24 p0)))]) ⟨⟨_, rfl, rfl⟩, Sub.refl _⟩ ⟨rfl, trivial⟩ (Sub.refl _)
                        · refine AO.weak (ρ' := [(3, (.ptr n4 0)), (86, (eBool (decide (x21 = (t20.length : Int)))))]) (H' := [(n4, (.mem (e24 p0)))]) ⟨rfl, rfl, trivial⟩ (Sub.refl _) ?_
                          refine AO.calmG 4 true 86 rfl rfl (congrArg (fun b => some (AV.fl (Value.bool b))) (decide_eq_true hc25)) 87 rfl (by decide) (e24 p0) (Calm.load 0 rfl rfl rfl (At.cast At.here rfl) ag24 sz24) ?_
                          exact AO.nilE (ρ' := [(87, (e24 p0))]) (H' := [(n4, (.mem (e24 p0)))]) ⟨⟨_, rfl, rfl⟩, Sub.refl _⟩ ⟨rfl, trivial⟩ (Sub.refl _)
                        · refine AO.weak (ρ' := [(86, (eBool (decide (x21 = (t20.length : Int))))), (87, (e24 p0))]) (H' := [(n4, (.mem (e24 p0)))]) ⟨rfl, rfl, trivial⟩ (Sub.refl _) ?_
                          refine AO.callG 4 true 86 [(e24 p0)] (eBool t26) 88 rfl (by decide) ok11 rfl rfl (congrArg (fun b => some (AV.fl (Value.bool b))) (decide_eq_true hc25)) rfl rfl ⟨rfl, rfl, trivial⟩ (nfa_Right_spec et26) ?_
                          exact AO.nilE (ρ' := [(88, (eBool t26))]) (H' := [(n4, (.mem (e24 p0)))]) ⟨⟨_, rfl, rfl⟩, Sub.refl _⟩ ⟨rfl, trivial⟩ (Sub.refl _)
                        · refine AO.weak (ρ' := [(86, (eBool (decide (x21 = (t20.length : Int))))), (88, (eBool t26))]) (H' := [(n4, (.mem (e24 p0)))]) ⟨rfl, rfl, trivial⟩ (Sub.refl _) ?_
                          refine AO.calm rfl 89 rfl (by decide) (eBool t26) (Calm.pickT rfl (congrArg (fun b => some (AV.fl (Value.bool b))) (decide_eq_true hc25)) rfl) ?_
                          exact AO.nilE (ρ' := [(89, (eBool t26))]) (H' := [(n4, (.mem (e24 p0)))]) ⟨⟨_, rfl, rfl⟩, Sub.refl _⟩ ⟨rfl, trivial⟩ (Sub.refl _)
                        · refine AO.weak (ρ' := [(89, (eBool t26))]) (H' := [(n4, (.mem (e24 p0)))]) ⟨rfl, trivial⟩ (Sub.refl _) ?_
                          refine AO.calm rfl 90 rfl (by decide) (eBool t26) (Calm.move rfl rfl) ?_
                          exact AO.nilE (ρ' := [(90, (eBool t26))]) (H' := [(n4, (.mem (e24 p0)))]) ⟨⟨_, rfl, rfl⟩, Sub.refl _⟩ ⟨rfl, trivial⟩ (Sub.refl _)
                        · refine AO.weak (ρ' := [(3, (.ptr n4 0)), (90, (eBool t26))]) (H' := [(n4, (.mem (e24 p0)))]) ⟨rfl, rfl, trivial⟩ (Sub.refl _) ?_
                          refine AO.calmG 8 true 90 rfl rfl (congrArg (fun b => some (AV.fl (Value.bool b))) hc27) 91 rfl (by decide) (e24 p0) (Calm.load 0 rfl rfl rfl (At.cast At.here rfl) ag24 sz24) ?_
                          exact AO.nilE (ρ' := [(91, (e24 p0))]) (H' := [(n4, (.mem (e24 p0)))]) ⟨⟨_, rfl, rfl⟩, Sub.refl _⟩ ⟨rfl, trivial⟩ (Sub.refl _)
                        · refine AO.weak (ρ' := [(1, (.fz 1 (p1.map eBool))), (90, (eBool t26))]) (H' := [(n4, (.mem (e24 p0)))]) ⟨rfl, rfl, trivial⟩ (Sub.refl _) ?_
                          refine AO.calmG 8 true 90 rfl rfl (congrArg (fun b => some (AV.fl (Value.bool b))) hc27) 92 rfl (by decide) (.fz 1 (p1.map eBool)) (Calm.move rfl rfl) ?_
                          exact AO.nilE (ρ' := [(92, (.fz 1 (p1.map eBool)))]) (H' := [(n4, (.mem (e24 p0)))]) ⟨⟨_, rfl, rfl⟩, Sub.refl _⟩ ⟨rfl, trivial⟩ (Sub.refl _)
                        · refine AO.weak (ρ' := [(90, (eBool t26)), (91, (e24 p0)), (92, (.fz 1 (p1.map eBool)))]) (H' := [(n4, (.mem (e24 p0)))]) ⟨rfl, rfl, rfl, trivial⟩ (Sub.refl _) ?_
                          refine AO.callG 8 true 90 [(e24 p0), (.fz 1 (p1.map eBool))] (.fz 1 (t28.map eBool)) 93 rfl (by decide) ok15 rfl rfl (congrArg (fun b => some (AV.fl (Value.bool b))) hc27) rfl rfl ⟨rfl, rfl, rfl, rfl, trivial⟩ (nfa_Close_spec et28) ?_
                          exact AO.nilE (ρ' := [(93, (.fz 1 (t28.map eBool)))]) (H' := [(n4, (.mem (e24 p0)))]) ⟨⟨_, rfl, rfl⟩, Sub.refl _⟩ ⟨rfl, trivial⟩ (Sub.refl _)
                        · refine AO.weak (ρ' := [(3, (.ptr n4 0)), (90, (eBool t26))]) (H' := [(n4, (.mem (e24 p0)))]) ⟨rfl, rfl, trivial⟩ (Sub.refl _) ?_
                          refine AO.calmG 8 true 90 rfl rfl (congrArg (fun b => some (AV.fl (Value.bool b))) hc27) 94 rfl (by decide) (e24 p0) (Calm.load 0 rfl rfl rfl (At.cast At.here rfl) ag24 sz24) ?_
                          exact AO.nilE (ρ' := [(94, (e24 p0))]) (H' := [(n4, (.mem (e24 p0)))]) ⟨⟨_, rfl, rfl⟩, Sub.refl _⟩ ⟨rfl, trivial⟩ (Sub.refl _)
                        · refine AO.weak (ρ' := [(1, (.fz 1 (p1.map eBool))), (90, (eBool t26))]) (H' := [(n4, (.mem (e24 p0)))]) ⟨rfl, rfl, trivial⟩ (Sub.refl _) ?_
                          refine AO.calmG 8 true 90 rfl rfl (congrArg (fun b => some (AV.fl (Value.bool b))) hc27) 95 rfl (by decide) (.fz 1 (p1.map eBool)) (Calm.move rfl rfl) ?_
                          exact AO.nilE (ρ' := [(95, (.fz 1 (p1.map eBool)))]) (H' := [(n4, (.mem (e24 p0)))]) ⟨⟨_, rfl, rfl⟩, Sub.refl _⟩ ⟨rfl, trivial⟩ (Sub.refl _)
                        · refine AO.weak (ρ' := [(90, (eBool t26)), (94, (e24 p0)), (95, (.fz 1 (p1.map eBool)))]) (H' := [(n4, (.mem (e24 p0)))]) ⟨rfl, rfl, rfl, trivial⟩ (Sub.refl _) ?_
                          refine AO.callG 8 true 90 [(e24 p0), (.fz 1 (p1.map eBool))] (.fz 1 (t29.map eBool)) 96 rfl (by decide) ok16 rfl rfl (congrArg (fun b => some (AV.fl (Value.bool b))) hc27) rfl rfl ⟨rfl, rfl, rfl, rfl, trivial⟩ (bosketref06_Close_spec et29) ?_
                          exact AO.nilE (ρ' := [(96, (.fz 1 (t29.map eBool)))]) (H' := [(n4, (.mem (e24 p0)))]) ⟨⟨_, rfl, rfl⟩, Sub.refl _⟩ ⟨rfl, trivial⟩ (Sub.refl _)
                        · refine AO.weak (ρ' := [(90, (eBool t26)), (93, (.fz 1 (t28.map eBool))), (96, (.fz 1 (t29.map eBool)))]) (H' := [(n4, (.mem (e24 p0)))]) ⟨rfl, rfl, rfl, trivial⟩ (Sub.refl _) ?_
                          refine AO.callG 8 true 90 [(.fz 1 (t28.map eBool)), (.fz 1 (t29.map eBool))] (eBool t30) 97 rfl (by decide) ok14 rfl rfl (congrArg (fun b => some (AV.fl (Value.bool b))) hc27) rfl rfl ⟨rfl, rfl, rfl, rfl, trivial⟩ (bosketref06_Same_spec et30) ?_
                          exact AO.nilE (ρ' := [(97, (eBool t30))]) (H' := [(n4, (.mem (e24 p0)))]) ⟨⟨_, rfl, rfl⟩, Sub.refl _⟩ ⟨rfl, trivial⟩ (Sub.refl _)
                        · refine AO.weak (ρ' := [(90, (eBool t26)), (97, (eBool t30))]) (H' := [(n4, (.mem (e24 p0)))]) ⟨rfl, rfl, trivial⟩ (Sub.refl _) ?_
                          refine AO.calm rfl 98 rfl (by decide) (eBool t30) (Calm.pickT rfl (congrArg (fun b => some (AV.fl (Value.bool b))) hc27) rfl) ?_
                          exact AO.nilE (ρ' := [(98, (eBool t30))]) (H' := [(n4, (.mem (e24 p0)))]) ⟨⟨_, rfl, rfl⟩, Sub.refl _⟩ ⟨rfl, trivial⟩ (Sub.refl _)
                        · refine AO.weak (ρ' := [(98, (eBool t30))]) (H' := [(n4, (.mem (e24 p0)))]) ⟨rfl, trivial⟩ (Sub.refl _) ?_
                          refine AO.calm rfl 99 rfl (by decide) (eBool t30) (Calm.move rfl rfl) ?_
                          exact AO.nilE (ρ' := [(99, (eBool t30))]) (H' := [(n4, (.mem (e24 p0)))]) ⟨⟨_, rfl, rfl⟩, Sub.refl _⟩ ⟨rfl, trivial⟩ (Sub.refl _)
                        · refine AO.weak (ρ' := [(99, (eBool t30))]) (H' := [(n4, (.mem (e24 p0)))]) ⟨rfl, trivial⟩ (Sub.refl _) ?_
                          refine AO.skipG 17 false 99 rfl rfl (congrArg (fun b => some (AV.fl (Value.bool b))) (eq_false_of_ne_true hc31)) 100 rfl (by decide) ?_
                          exact AO.nilE (ρ' := [(100, (.fl undef))]) (H' := [(n4, (.mem (e24 p0)))]) ⟨⟨_, rfl, rfl⟩, Sub.refl _⟩ ⟨rfl, trivial⟩ (Sub.refl _)
                        · refine AO.weak (ρ' := [(99, (eBool t30))]) (H' := [(n4, (.mem (e24 p0)))]) ⟨rfl, trivial⟩ (Sub.refl _) ?_
                          refine AO.skipG 17 false 99 rfl rfl (congrArg (fun b => some (AV.fl (Value.bool b))) (eq_false_of_ne_true hc31)) 101 rfl (by decide) ?_
                          exact AO.nilE (ρ' := [(101, (.fl undef))]) (H' := [(n4, (.mem (e24 p0)))]) ⟨⟨_, rfl, rfl⟩, Sub.refl _⟩ ⟨rfl, trivial⟩ (Sub.refl _)
                        · refine AO.weak (ρ' := [(99, (eBool t30))]) (H' := [(n4, (.mem (e24 p0)))]) ⟨rfl, trivial⟩ (Sub.refl _) ?_
                          refine AO.skipG 17 false 99 rfl rfl (congrArg (fun b => some (AV.fl (Value.bool b))) (eq_false_of_ne_true hc31)) 102 rfl (by decide) ?_
                          exact AO.nilE (ρ' := [(102, (.fl undef))]) (H' := [(n4, (.mem (e24 p0)))]) ⟨⟨_, rfl, rfl⟩, Sub.refl _⟩ ⟨rfl, trivial⟩ (Sub.refl _)
                        · refine AO.weak (ρ' := [(99, (eBool t30))]) (H' := [(n4, (.mem (e24 p0)))]) ⟨rfl, trivial⟩ (Sub.refl _) ?_
                          refine AO.skipG 17 false 99 rfl rfl (congrArg (fun b => some (AV.fl (Value.bool b))) (eq_false_of_ne_true hc31)) 103 rfl (by decide) ?_
                          exact AO.nilE (ρ' := [(103, (.fl undef))]) (H' := [(n4, (.mem (e24 p0)))]) ⟨⟨_, rfl, rfl⟩, Sub.refl _⟩ ⟨rfl, trivial⟩ (Sub.refl _)
                        · refine AO.weak (ρ' := [(99, (eBool t30))]) (H' := [(n4, (.mem (e24 p0)))]) ⟨rfl, trivial⟩ (Sub.refl _) ?_
                          refine AO.skipG 17 false 99 rfl rfl (congrArg (fun b => some (AV.fl (Value.bool b))) (eq_false_of_ne_true hc31)) 104 rfl (by decide) ?_
                          exact AO.nilE (ρ' := [(104, (.fl undef))]) (H' := [(n4, (.mem (e24 p0)))]) ⟨⟨_, rfl, rfl⟩, Sub.refl _⟩ ⟨rfl, trivial⟩ (Sub.refl _)
                        · refine AO.weak (ρ' := [(99, (eBool t30))]) (H' := [(n4, (.mem (e24 p0)))]) ⟨rfl, trivial⟩ (Sub.refl _) ?_
                          refine AO.skipG 17 false 99 rfl rfl (congrArg (fun b => some (AV.fl (Value.bool b))) (eq_false_of_ne_true hc31)) 105 rfl (by decide) ?_
                          exact AO.nilE (ρ' := [(105, (.fl undef))]) (H' := [(n4, (.mem (e24 p0)))]) ⟨⟨_, rfl, rfl⟩, Sub.refl _⟩ ⟨rfl, trivial⟩ (Sub.refl _)
                        · refine AO.weak (ρ' := [(99, (eBool t30))]) (H' := [(n4, (.mem (e24 p0)))]) ⟨rfl, trivial⟩ (Sub.refl _) ?_
                          refine AO.skipG 17 false 99 rfl rfl (congrArg (fun b => some (AV.fl (Value.bool b))) (eq_false_of_ne_true hc31)) 106 rfl (by decide) ?_
                          exact AO.nilE (ρ' := [(106, (.fl undef))]) (H' := [(n4, (.mem (e24 p0)))]) ⟨⟨_, rfl, rfl⟩, Sub.refl _⟩ ⟨rfl, trivial⟩ (Sub.refl _)
                        · refine AO.weak (ρ' := [(99, (eBool t30))]) (H' := [(n4, (.mem (e24 p0)))]) ⟨rfl, trivial⟩ (Sub.refl _) ?_
                          refine AO.skipG 17 false 99 rfl rfl (congrArg (fun b => some (AV.fl (Value.bool b))) (eq_false_of_ne_true hc31)) 107 rfl (by decide) ?_
                          exact AO.nilE (ρ' := [(107, (.fl undef))]) (H' := [(n4, (.mem (e24 p0)))]) ⟨⟨_, rfl, rfl⟩, Sub.refl _⟩ ⟨rfl, trivial⟩ (Sub.refl _)
                        · refine AO.weak (ρ' := [(99, (eBool t30))]) (H' := [(n4, (.mem (e24 p0)))]) ⟨rfl, trivial⟩ (Sub.refl _) ?_
                          refine AO.skipG 17 false 99 rfl rfl (congrArg (fun b => some (AV.fl (Value.bool b))) (eq_false_of_ne_true hc31)) 108 rfl (by decide) ?_
                          exact AO.nilE (ρ' := [(108, (.fl undef))]) (H' := [(n4, (.mem (e24 p0)))]) ⟨⟨_, rfl, rfl⟩, Sub.refl _⟩ ⟨rfl, trivial⟩ (Sub.refl _)
                        · refine AO.weak (ρ' := [(99, (eBool t30))]) (H' := [(n4, (.mem (e24 p0)))]) ⟨rfl, trivial⟩ (Sub.refl _) ?_
                          refine AO.skipG 17 false 99 rfl rfl (congrArg (fun b => some (AV.fl (Value.bool b))) (eq_false_of_ne_true hc31)) 109 rfl (by decide) ?_
                          exact AO.nilE (ρ' := [(109, (.fl undef))]) (H' := [(n4, (.mem (e24 p0)))]) ⟨⟨_, rfl, rfl⟩, Sub.refl _⟩ ⟨rfl, trivial⟩ (Sub.refl _)
                        · refine AO.weak (ρ' := [(99, (eBool t30)), (109, (.fl undef))]) (H' := [(n4, (.mem (e24 p0)))]) ⟨rfl, rfl, trivial⟩ (Sub.refl _) ?_
                          refine AO.calm rfl 110 rfl (by decide) (eBool false) (Calm.pickF rfl (congrArg (fun b => some (AV.fl (Value.bool b))) (eq_false_of_ne_true hc31)) rfl) ?_
                          exact AO.nilE (ρ' := [(110, (eBool false))]) (H' := [(n4, (.mem (e24 p0)))]) ⟨⟨_, rfl, rfl⟩, Sub.refl _⟩ ⟨rfl, trivial⟩ (Sub.refl _)
                        · refine AO.weak (ρ' := [(110, (eBool false))]) (H' := [(n4, (.mem (e24 p0)))]) ⟨rfl, trivial⟩ (Sub.refl _) ?_
                          refine AO.calm rfl 111 rfl (by decide) (eBool false) (Calm.move rfl rfl) ?_
                          exact AO.nilE (ρ' := [(111, (eBool false))]) (H' := [(n4, (.mem (e24 p0)))]) ⟨⟨_, rfl, rfl⟩, Sub.refl _⟩ ⟨rfl, trivial⟩ (Sub.refl _)
                        · refine AO.weak (ρ' := [(111, (eBool false))]) (H' := [(n4, (.mem (e24 p0)))]) ⟨rfl, trivial⟩ (Sub.refl _) ?_
                          refine AO.skipG 29 false 111 rfl rfl rfl 112 rfl (by decide) ?_
                          exact AO.nilE (ρ' := [(112, (.fl undef))]) (H' := [(n4, (.mem (e24 p0)))]) ⟨⟨_, rfl, rfl⟩, Sub.refl _⟩ ⟨rfl, trivial⟩ (Sub.refl _)
                        · refine AO.weak (ρ' := [(111, (eBool false))]) (H' := [(n4, (.mem (e24 p0)))]) ⟨rfl, trivial⟩ (Sub.refl _) ?_
                          refine AO.skipG 29 false 111 rfl rfl rfl 113 rfl (by decide) ?_
                          exact AO.nilE (ρ' := [(113, (.fl undef))]) (H' := [(n4, (.mem (e24 p0)))]) ⟨⟨_, rfl, rfl⟩, Sub.refl _⟩ ⟨rfl, trivial⟩ (Sub.refl _)
                        · refine AO.weak (ρ' := [(111, (eBool false))]) (H' := [(n4, (.mem (e24 p0)))]) ⟨rfl, trivial⟩ (Sub.refl _) ?_
                          refine AO.skipG 29 false 111 rfl rfl rfl 114 rfl (by decide) ?_
                          exact AO.nilE (ρ' := [(114, (.fl undef))]) (H' := [(n4, (.mem (e24 p0)))]) ⟨⟨_, rfl, rfl⟩, Sub.refl _⟩ ⟨rfl, trivial⟩ (Sub.refl _)
                        · refine AO.weak (ρ' := [(111, (eBool false))]) (H' := [(n4, (.mem (e24 p0)))]) ⟨rfl, trivial⟩ (Sub.refl _) ?_
                          refine AO.skipG 29 false 111 rfl rfl rfl 115 rfl (by decide) ?_
                          exact AO.nilE (ρ' := [(115, (.fl undef))]) (H' := [(n4, (.mem (e24 p0)))]) ⟨⟨_, rfl, rfl⟩, Sub.refl _⟩ ⟨rfl, trivial⟩ (Sub.refl _)
                        · refine AO.weak (ρ' := [(111, (eBool false))]) (H' := [(n4, (.mem (e24 p0)))]) ⟨rfl, trivial⟩ (Sub.refl _) ?_
                          refine AO.skipG 29 false 111 rfl rfl rfl 116 rfl (by decide) ?_
                          exact AO.nilE (ρ' := [(116, (.fl undef))]) (H' := [(n4, (.mem (e24 p0)))]) ⟨⟨_, rfl, rfl⟩, Sub.refl _⟩ ⟨rfl, trivial⟩ (Sub.refl _)
                        · refine AO.weak (ρ' := [(111, (eBool false))]) (H' := [(n4, (.mem (e24 p0)))]) ⟨rfl, trivial⟩ (Sub.refl _) ?_
                          refine AO.skipG 29 false 111 rfl rfl rfl 117 rfl (by decide) ?_
                          exact AO.nilE (ρ' := [(117, (.fl undef))]) (H' := [(n4, (.mem (e24 p0)))]) ⟨⟨_, rfl, rfl⟩, Sub.refl _⟩ ⟨rfl, trivial⟩ (Sub.refl _)
                        · refine AO.weak (ρ' := [(111, (eBool false))]) (H' := [(n4, (.mem (e24 p0)))]) ⟨rfl, trivial⟩ (Sub.refl _) ?_
                          refine AO.skipG 29 false 111 rfl rfl rfl 118 rfl (by decide) ?_
                          exact AO.nilE (ρ' := [(118, (.fl undef))]) (H' := [(n4, (.mem (e24 p0)))]) ⟨⟨_, rfl, rfl⟩, Sub.refl _⟩ ⟨rfl, trivial⟩ (Sub.refl _)
                        · refine AO.weak (ρ' := [(111, (eBool false))]) (H' := [(n4, (.mem (e24 p0)))]) ⟨rfl, trivial⟩ (Sub.refl _) ?_
                          refine AO.skipG 29 false 111 rfl rfl rfl 119 rfl (by decide) ?_
                          exact AO.nilE (ρ' := [(119, (.fl undef))]) (H' := [(n4, (.mem (e24 p0)))]) ⟨⟨_, rfl, rfl⟩, Sub.refl _⟩ ⟨rfl, trivial⟩ (Sub.refl _)
                        · refine AO.weak (ρ' := [(111, (eBool false))]) (H' := [(n4, (.mem (e24 p0)))]) ⟨rfl, trivial⟩ (Sub.refl _) ?_
                          refine AO.skipG 29 false 111 rfl rfl rfl 120 rfl (by decide) ?_
                          exact AO.nilE (ρ' := [(120, (.fl undef))]) (H' := [(n4, (.mem (e24 p0)))]) ⟨⟨_, rfl, rfl⟩, Sub.refl _⟩ ⟨rfl, trivial⟩ (Sub.refl _)
                        · refine AO.weak (ρ' := [(111, (eBool false))]) (H' := [(n4, (.mem (e24 p0)))]) ⟨rfl, trivial⟩ (Sub.refl _) ?_
                          refine AO.skipG 29 false 111 rfl rfl rfl 121 rfl (by decide) ?_
                          exact AO.nilE (ρ' := [(121, (.fl undef))]) (H' := [(n4, (.mem (e24 p0)))]) ⟨⟨_, rfl, rfl⟩, Sub.refl _⟩ ⟨rfl, trivial⟩ (Sub.refl _)
                        · refine AO.weak (ρ' := [(111, (eBool false))]) (H' := [(n4, (.mem (e24 p0)))]) ⟨rfl, trivial⟩ (Sub.refl _) ?_
                          refine AO.skipG 29 false 111 rfl rfl rfl 122 rfl (by decide) ?_
                          exact AO.nilE (ρ' := [(122, (.fl undef))]) (H' := [(n4, (.mem (e24 p0)))]) ⟨⟨_, rfl, rfl⟩, Sub.refl _⟩ ⟨rfl, trivial⟩ (Sub.refl _)
                        · refine AO.weak (ρ' := [(111, (eBool false)), (122, (.fl undef))]) (H' := [(n4, (.mem (e24 p0)))]) ⟨rfl, rfl, trivial⟩ (Sub.refl _) ?_
                          refine AO.calm rfl 123 rfl (by decide) (eBool false) (Calm.pickF rfl rfl rfl) ?_
                          exact AO.nilE (ρ' := [(123, (eBool false))]) (H' := [(n4, (.mem (e24 p0)))]) ⟨⟨_, rfl, rfl⟩, Sub.refl _⟩ ⟨rfl, trivial⟩ (Sub.refl _)
                        · refine AO.weak (ρ' := [(123, (eBool false))]) (H' := [(n4, (.mem (e24 p0)))]) ⟨rfl, trivial⟩ (Sub.refl _) ?_
                          refine AO.calm rfl 6 rfl (by decide) (eBool false) (Calm.assign rfl rfl) ?_
                          exact AO.nilE (ρ' := [(6, (eBool false))]) (H' := [(n4, (.mem (e24 p0)))]) ⟨⟨_, rfl, rfl⟩, Sub.refl _⟩ ⟨rfl, trivial⟩ (Sub.refl _)
                      · cases hq24
                        exact ⟨rfl, rfl, rfl⟩
                  · have hq24 := (if_neg hc27).symm.trans hq24
                    refine AW.regAny (by rfl) (by decide +kernel) [(eI64 x21), (.fz 4 (t20.map e33)), (eI64 (t20.length : Int)), (eBool (decide (x21 = (t20.length : Int)))), (eBool (decide (x21 = (t20.length : Int)))), (e24 p0), (eBool t26), (eBool t26), (eBool t26), (.fl undef), (.fl undef), (.fl undef), (.fl undef), (.fl undef), (.fl undef), (.fl undef), (eBool false), (eBool false), (.fl undef), (.fl undef), (.fl undef), (.fl undef), (.fl undef), (.fl undef), (.fl undef), (.fl undef), (.fl undef), (.fl undef), (eBool false), (eBool false), (.fl undef), (.fl undef), (.fl undef), (.fl undef), (.fl undef), (.fl undef), (.fl undef), (.fl undef), (.fl undef), (.fl undef), (.fl undef), (eBool false), (eBool false)] [(1, (.fz 1 (p1.map eBool))), (2, (eStr p2)), (3, (.ptr n4 0)), (7, (.fz 4 (t20.map e33))), (8, (eI64 x21)), (10, (eU8 x22))] ⟨rfl, rfl, rfl, rfl, rfl, rfl, trivial⟩ rfl ?_ [(6, (eBool false))] [] ⟨rfl, trivial⟩ (Sub.nil _) ?_
                    · refine ⟨?_, ?_, ?_, ?_, ?_, ?_, ?_, ?_, ?_, ?_, ?_, ?_, ?_, ?_, ?_, ?_, ?_, ?_, ?_, ?_, ?_, ?_, ?_, ?_, ?_, ?_, ?_, ?_, ?_, ?_, ?_, ?_, ?_, ?_, ?_, ?_, ?_, ?_, ?_, ?_, ?_, ?_, ?_, trivial⟩
                      · refine AO.weak (ρ' := [(8, (eI64 x21))]) (H' := [(n4, (.mem (e24 p0)))]) ⟨rfl, trivial⟩ (Sub.refl _) ?_
                        refine AO.calm rfl 82 rfl (by decide) (eI64 x21) (Calm.move rfl rfl) ?_
                        exact AO.nilE (ρ' := [(82, (eI64 x21))]) (H' := [(n4, (.mem (e24 p0)))]) ⟨⟨_, rfl, rfl⟩, Sub.refl _⟩ ⟨rfl, trivial⟩ (Sub.refl _)
                      · refine AO.weak (ρ' := [(7, (.fz 4 (t20.map e33)))]) (H' := [(n4, (.mem (e24 p0)))]) ⟨rfl, trivial⟩ (Sub.refl _) ?_
                        refine AO.calm rfl 83 rfl (by decide) (.fz 4 (t20.map e33)) (Calm.move rfl rfl) ?_
                        exact AO.nilE (ρ' := [(83, (.fz 4 (t20.map e33)))]) (H' := [(n4, (.mem (e24 p0)))]) ⟨⟨_, rfl, rfl⟩, Sub.refl _⟩ ⟨rfl, trivial⟩ (Sub.refl _)
                      · refine AO.weak (ρ' := [(83, (.fz 4 (t20.map e33)))]) (H' := [(n4, (.mem (e24 p0)))]) ⟨rfl, trivial⟩ (Sub.refl _) ?_
                        refine AO.calm rfl 84 rfl (by decide) (eI64 (t20.length : Int)) (Calm.lenL rfl rfl Try.underlying29) ?_
                        exact AO.nilE (ρ' := [(84, (eI64 (t20.length : Int)))]) (H' := [(n4, (.mem (e24 p0)))]) ⟨⟨_, rfl, rfl⟩, Sub.refl _⟩ ⟨rfl, trivial⟩ (Sub.refl _)
                      · refine AO.weak (ρ' := [(82, (eI64 x21)), (84, (eI64 (t20.length : Int)))]) (H' := [(n4, (.mem (e24 p0)))]) ⟨rfl, rfl, trivial⟩ (Sub.refl _) ?_
                        refine AO.calm rfl 85 rfl (by decide) (eBool (decide (x21 = (t20.length : Int)))) (Calm.int rfl rfl rfl rfl) ?_
                        exact AO.nilE (ρ' := [(85, (eBool (decide (x21 = (t20.length : Int)))))]) (H' := [(n4, (.mem (e24 p0)))]) ⟨⟨_, rfl, rfl⟩, Sub.refl _⟩ ⟨rfl, trivial⟩ (Sub.refl _)
                      · refine AO.weak (ρ' := [(85, (eBool (decide (x21 = (t20.length : Int)))))]) (H' := [(n4, (.mem (e24 p0)))]) ⟨rfl, trivial⟩ (Sub.refl _) ?_
                        refine AO.calm rfl 86 rfl (by decide) (eBool (decide (x21 = (t20.length : Int)))) (Calm.move rfl rfl) ?_
                        exact AO.nilE (ρ' := [(86, (eBool (decide (x21 = (t20.length : Int)))))]) (H' := [(n4, (.mem (e24 p0)))]) ⟨⟨_, rfl, rfl⟩, Sub.refl _⟩ ⟨rfl, trivial⟩ (Sub.refl _)
                      · refine AO.weak (ρ' := [(3, (.ptr n4 0)), (86, (eBool (decide (x21 = (t20.length : Int)))))]) (H' := [(n4, (.mem (e24 p0)))]) ⟨rfl, rfl, trivial⟩ (Sub.refl _) ?_
                        refine AO.calmG 4 true 86 rfl rfl (congrArg (fun b => some (AV.fl (Value.bool b))) (decide_eq_true hc25)) 87 rfl (by decide) (e24 p0) (Calm.load 0 rfl rfl rfl (At.cast At.here rfl) ag24 sz24) ?_
                        exact AO.nilE (ρ' := [(87, (e24 p0))]) (H' := [(n4, (.mem (e24 p0)))]) ⟨⟨_, rfl, rfl⟩, Sub.refl _⟩ ⟨rfl, trivial⟩ (Sub.refl _)
                      · refine AO.weak (ρ' := [(86, (eBool (decide (x21 = (t20.length : Int))))), (87, (e24 p0))]) (H' := [(n4, (.mem (e24 p0)))]) ⟨rfl, rfl, trivial⟩ (Sub.refl _) ?_
                        refine AO.callG 4 true 86 [(e24 p0)] (eBool t26) 88 rfl (by decide) ok11 rfl rfl (congrArg (fun b => some (AV.fl (Value.bool b))) (decide_eq_true hc25)) rfl rfl ⟨rfl, rfl, trivial⟩ (nfa_Right_spec et26) ?_
                        exact AO.nilE (ρ' := [(88, (eBool t26))]) (H' := [(n4, (.mem (e24 p0)))]) ⟨⟨_, rfl, rfl⟩, Sub.refl _⟩ ⟨rfl, trivial⟩ (Sub.refl _)
                      · refine AO.weak (ρ' := [(86, (eBool (decide (x21 = (t20.length : Int))))), (88, (eBool t26))]) (H' := [(n4, (.mem (e24 p0)))]) ⟨rfl, rfl, trivial⟩ (Sub.refl _) ?_
                        refine AO.calm rfl 89 rfl (by decide) (eBool t26) (Calm.pickT rfl (congrArg (fun b => some (AV.fl (Value.bool b))) (decide_eq_true hc25)) rfl) ?_
                        exact AO.nilE (ρ' := [(89, (eBool t26))]) (H' := [(n4, (.mem (e24 p0)))]) ⟨⟨_, rfl, rfl⟩, Sub.refl _⟩ ⟨rfl, trivial⟩ (Sub.refl _)
                      · refine AO.weak (ρ' := [(89, (eBool t26))]) (H' := [(n4, (.mem (e24 p0)))]) ⟨rfl, trivial⟩ (Sub.refl _) ?_
                        refine AO.calm rfl 90 rfl (by decide) (eBool t26) (Calm.move rfl rfl) ?_
                        exact AO.nilE (ρ' := [(90, (eBool t26))]) (H' := [(n4, (.mem (e24 p0)))]) ⟨⟨_, rfl, rfl⟩, Sub.refl _⟩ ⟨rfl, trivial⟩ (Sub.refl _)
                      · refine AO.weak (ρ' := [(90, (eBool t26))]) (H' := [(n4, (.mem (e24 p0)))]) ⟨rfl, trivial⟩ (Sub.refl _) ?_
                        refine AO.skipG 8 false 90 rfl rfl (congrArg (fun b => some (AV.fl (Value.bool b))) (eq_false_of_ne_true hc27)) 91 rfl (by decide) ?_
                        exact AO.nilE (ρ' := [(91, (.fl undef))]) (H' := [(n4, (.mem (e24 p0)))]) ⟨⟨_, rfl, rfl⟩, Sub.refl _⟩ ⟨rfl, trivial⟩ (Sub.refl _)
                      · refine AO.weak (ρ' := [(90, (eBool t26))]) (H' := [(n4, (.mem (e24 p0)))]) ⟨rfl, trivial⟩ (Sub.refl _) ?_
                        refine AO.skipG 8 false 90 rfl rfl (congrArg (fun b => some (AV.fl (Value.bool b))) (eq_false_of_ne_true hc27)) 92 rfl (by decide) ?_
                        exact AO.nilE (ρ' := [(92, (.fl undef))]) (H' := [(n4, (.mem (e24 p0)))]) ⟨⟨_, rfl, rfl⟩, Sub.refl _⟩ ⟨rfl, trivial⟩ (Sub.refl _)
                      · refine AO.weak (ρ' := [(90, (eBool t26))]) (H' := [(n4, (.mem (e24 p0)))]) ⟨rfl, trivial⟩ (Sub.refl _) ?_
                        refine AO.skipG 8 false 90 rfl rfl (congrArg (fun b => some (AV.fl (Value.bool b))) (eq_false_of_ne_true hc27)) 93 rfl (by decide) ?_
                        exact AO.nilE (ρ' := [(93, (.fl undef))]) (H' := [(n4, (.mem (e24 p0)))]) ⟨⟨_, rfl, rfl⟩, Sub.refl _⟩ ⟨rfl, trivial⟩ (Sub.refl _)
                      · refine AO.weak (ρ' := [(90, (eBool t26))]) (H' := [(n4, (.mem (e24 p0)))]) ⟨rfl, trivial⟩ (Sub.refl _) ?_
                        refine AO.skipG 8 false 90 rfl rfl (congrArg (fun b => some (AV.fl (Value.bool b))) (eq_false_of_ne_true hc27)) 94 rfl (by decide) ?_
                        exact AO.nilE (ρ' := [(94, (.fl undef))]) (H' := [(n4, (.mem (e24 p0)))]) ⟨⟨_, rfl, rfl⟩, Sub.refl _⟩ ⟨rfl, trivial⟩ (Sub.refl _)
                      · refine AO.weak (ρ' := [(90, (eBool t26))]) (H' := [(n4, (.mem (e24 p0)))]) ⟨rfl, trivial⟩ (Sub.refl _) ?_
                        refine AO.skipG 8 false 90 rfl rfl (congrArg (fun b => some (AV.fl (Value.bool b))) (eq_false_of_ne_true hc27)) 95 rfl (by decide) ?_
                        exact AO.nilE (ρ' := [(95, (.fl undef))]) (H' := [(n4, (.mem (e24 p0)))]) ⟨⟨_, rfl, rfl⟩, Sub.refl _⟩ ⟨rfl, trivial⟩ (Sub.refl _)
                      · refine AO.weak (ρ' := [(90, (eBool t26))]) (H' := [(n4, (.mem (e24 p0)))]) ⟨rfl, trivial⟩ (Sub.refl _) ?_
                        refine AO.skipG 8 false 90 rfl rfl (congrArg (fun b => some (AV.fl (Value.bool b))) (eq_false_of_ne_true hc27)) 96 rfl (by decide) ?_
                        exact AO.nilE (ρ' := [(96, (.fl undef))]) (H' := [(n4, (.mem (e24 p0)))]) ⟨⟨_, rfl, rfl⟩, Sub.refl _⟩ ⟨rfl, trivial⟩ (Sub.refl _)
                      · refine AO.weak (ρ' := [(90, (eBool t26))]) (H' := [(n4, (.mem (e24 p0)))]) ⟨rfl, trivial⟩ (Sub.refl _) ?_
                        refine AO.skipG 8 false 90 rfl rfl (congrArg (fun b => some (AV.fl (Value.bool b))) (eq_false_of_ne_true hc27)) 97 rfl (by decide) ?_
                        exact AO.nilE (ρ' := [(97, (.fl undef))]) (H' := [(n4, (.mem (e24 p0)))]) ⟨⟨_, rfl, rfl⟩, Sub.refl _⟩ ⟨rfl, trivial⟩ (Sub.refl _)
                      · refine AO.weak (ρ' := [(90, (eBool t26)), (97, (.fl undef))]) (H' := [(n4, (.mem (e24 p0)))]) ⟨rfl, rfl, trivial⟩ (Sub.refl _) ?_
                        refine AO.calm rfl 98 rfl (by decide) (eBool false) (Calm.pickF rfl (congrArg (fun b => some (AV.fl (Value.bool b))) (eq_false_of_ne_true hc27)) rfl) ?_
                        exact AO.nilE (ρ' := [(98, (eBool false))]) (H' := [(n4, (.mem (e24 p0)))]) ⟨⟨_, rfl, rfl⟩, Sub.refl _⟩ ⟨rfl, trivial⟩ (Sub.refl _)
                      · refine AO.weak (ρ' := [(98, (eBool false))]) (H' := [(n4, (.mem (e24 p0)))]) ⟨rfl, trivial⟩ (Sub.refl _) ?_
                        refine AO.calm rfl 99 rfl (by decide) (eBool false) (Calm.move rfl rfl) ?_
                        exact AO.nilE (ρ' := [(99, (eBool false))]) (H' := [(n4, (.mem (e24 p0)))]) ⟨⟨_, rfl, rfl⟩, Sub.refl _⟩ ⟨rfl, trivial⟩ (Sub.refl _)
                      · refine AO.weak (ρ' := [(99, (eBool false))]) (H' := [(n4, (.mem (e24 p0)))]) ⟨rfl, trivial⟩ (Sub.refl _) ?_
                        refine AO.skipG 17 false 99 rfl rfl rfl 100 rfl (by decide) ?_
                        exact AO.nilE (ρ' := [(100, (.fl undef))]) (H' := [(n4, (.mem (e24 p0)))]) ⟨⟨_, rfl, rfl⟩, Sub.refl _⟩ ⟨rfl, trivial⟩ (Sub.refl _)
                      · refine AO.weak (ρ' := [(99, (eBool false))]) (H' := [(n4, (.mem (e24 p0)))]) ⟨rfl, trivial⟩ (Sub.refl _) ?_
                        refine AO.skipG 17 false 99 rfl rfl rfl 101 rfl (by decide) ?_
                        exact AO.nilE (ρ' := [(101, (.fl undef))]) (H' := [(n4, (.mem (e24 p0)))]) ⟨⟨_, rfl, rfl⟩, Sub.refl _⟩ ⟨rfl, trivial⟩ (Sub.refl _)
                      · refine AO.weak (ρ' := [(99, (eBool false))]) (H' := [(n4, (.mem (e24 p0)))]) ⟨rfl, trivial⟩ (Sub.refl _) ?_
                        refine AO.skipG 17 false 99 rfl rfl rfl 102 rfl (by decide) ?_
                        exact AO.nilE (ρ' := [(102, (.fl undef))]) (H' := [(n4, (.mem (e24 p0)))]) ⟨⟨_, rfl, rfl⟩, Sub.refl _⟩ ⟨rfl, trivial⟩ (Sub.refl _)
                      · refine AO.weak (ρ' := [(99, (eBool false))]) (H' := [(n4, (.mem (e24 p0)))]) ⟨rfl, trivial⟩ (Sub.refl _) ?_
                        refine AO.skipG 17 false 99 rfl rfl rfl 103 rfl (by decide) ?_
                        exact AO.nilE (ρ' := [(103, (.fl undef))]) (H' := [(n4, (.mem (e24 p0)))]) ⟨⟨_, rfl, rfl⟩, Sub.refl _⟩ ⟨rfl, trivial⟩ (Sub.refl _)
                      · refine AO.weak (ρ' := [(99, (eBool false))]) (H' := [(n4, (.mem (e24 p0)))]) ⟨rfl, trivial⟩ (Sub.refl _) ?_
                        refine AO.skipG 17 false 99 rfl rfl rfl 104 rfl (by decide) ?_
                        exact AO.nilE (ρ' := [(104, (.fl undef))]) (H' := [(n4, (.mem (e24 p0)))]) ⟨⟨_, rfl, rfl⟩, Sub.refl _⟩ ⟨rfl, trivial⟩ (Sub.refl _)
                      · refine AO.weak (ρ' := [(99, (eBool false))]) (H' := [(n4, (.mem (e24 p0)))]) ⟨rfl, trivial⟩ (Sub.refl _) ?_
                        refine AO.skipG 17 false 99 rfl rfl rfl 105 rfl (by decide) ?_
                        exact AO.nilE (ρ' := [(105, (.fl undef))]) (H' := [(n4, (.mem (e24 p0)))]) ⟨⟨_, rfl, rfl⟩, Sub.refl _⟩ ⟨rfl, trivial⟩ (Sub.refl _)
                      · refine AO.weak (ρ' := [(99, (eBool false))]) (H' := [(n4, (.mem (e24 p0)))]) ⟨rfl, trivial⟩ (Sub.refl _) ?_
                        refine AO.skipG 17 false 99 rfl rfl rfl 106 rfl (by decide) ?_
                        exact AO.nilE (ρ' := [(106, (.fl undef))]) (H' := [(n4, (.mem (e24 p0)))]) ⟨⟨_, rfl, rfl⟩, Sub.refl _⟩ ⟨rfl, trivial⟩ (Sub.refl _)
                      · refine AO.weak (ρ' := [(99, (eBool false))]) (H' := [(n4, (.mem (e24 p0)))]) ⟨rfl, trivial⟩ (Sub.refl _) ?_
                        refine AO.skipG 17 false 99 rfl rfl rfl 107 rfl (by decide) ?_
                        exact AO.nilE (ρ' := [(107, (.fl undef))]) (H' := [(n4, (.mem (e24 p0)))]) ⟨⟨_, rfl, rfl⟩, Sub.refl _⟩ ⟨rfl, trivial⟩ (Sub.refl _)
                      · refine AO.weak (ρ' := [(99, (eBool false))]) (H' := [(n4, (.mem (e24 p0)))]) ⟨rfl, trivial⟩ (Sub.refl _) ?_
                        refine AO.skipG 17 false 99 rfl rfl rfl 108 rfl (by decide) ?_
                        exact AO.nilE (ρ' := [(108, (.fl undef))]) (H' := [(n4, (.mem (e24 p0)))]) ⟨⟨_, rfl, rfl⟩, Sub.refl _⟩ ⟨rfl, trivial⟩ (Sub.refl _)
                      · refine AO.weak (ρ' := [(99, (eBool false))]) (H' := [(n4, (.mem (e24 p0)))]) ⟨rfl, trivial⟩ (Sub.refl _) ?_
                        refine AO.skipG 17 false 99 rfl rfl rfl 109 rfl (by decide) ?_
                        exact AO.nilE (ρ' := [(109, (.fl undef))]) (H' := [(n4, (.mem (e24 p0)))]) ⟨⟨_, rfl, rfl⟩, Sub.refl _⟩ ⟨rfl, trivial⟩ (Sub.refl _)
                      · refine AO.weak (ρ' := [(99, (eBool false)), (109, (.fl undef))]) (H' := [(n4, (.mem (e24 p0)))]) ⟨rfl, rfl, trivial⟩ (Sub.refl _) ?_
                        refine AO.calm rfl 110 rfl (by decide) (eBool false) (Calm.pickF rfl rfl rfl) ?_
                        exact AO.nilE (ρ' := [(110, (eBool false))]) (H' := [(n4, (.mem (e24 p0)))]) ⟨⟨_, rfl, rfl⟩, Sub.refl _⟩ ⟨rfl, trivial⟩ (Sub.refl _)
                      · refine AO.weak (ρ' := [(110, (eBool false))]) (H' := [(n4, (.mem (e24 p0)))]) ⟨rfl, trivial⟩ (Sub.refl _) ?_
                        refine AO.calm rfl 111 rfl (by decide) (eBool false) (Calm.move rfl rfl) ?_
                        exact AO.nilE (ρ' := [(111, (eBool false))]) (H' := [(n4, (.mem (e24 p0)))]) ⟨⟨_, rfl, rfl⟩, Sub.refl _⟩ ⟨rfl, trivial⟩ (Sub.refl _)
                      · refine AO.weak (ρ' := [(111, (eBool false))]) (H' := [(n4, (.mem (e24 p0)))]) ⟨rfl, trivial⟩ (Sub.refl _) ?_
                        refine AO.skipG 29 false 111 rfl rfl rfl 112 rfl (by decide) ?_
                        exact AO.nilE (ρ' := [(112, (.fl undef))]) (H' := [(n4, (.mem (e24 p0)))]) ⟨⟨_, rfl, rfl⟩, Sub.refl _⟩ ⟨rfl, trivial⟩ (Sub.refl _)
                      · refine AO.weak (ρ' := [(111, (eBool false))]) (H' := [(n4, (.mem (e24 p0)))]) ⟨rfl, trivial⟩ (Sub.refl _) ?_
                        refine AO.skipG 29 false 111 rfl rfl rfl 113 rfl (by decide) ?_
                        exact AO.nilE (ρ' := [(113, (.fl undef))]) (H' := [(n4, (.mem (e24 p0)))]) ⟨⟨_, rfl, rfl⟩, Sub.refl _⟩ ⟨rfl, trivial⟩ (Sub.refl _)
                      · refine AO.weak (ρ' := [(111, (eBool false))]) (H' := [(n4, (.mem (e24 p0)))]) ⟨rfl, trivial⟩ (Sub.refl _) ?_
                        refine AO.skipG 29 false 111 rfl rfl rfl 114 rfl (by decide) ?_
                        exact AO.nilE (ρ' := [(114, (.fl undef))]) (H' := [(n4, (.mem (e24 p0)))]) ⟨⟨_, rfl, rfl⟩, Sub.refl _⟩ ⟨rfl, trivial⟩ (Sub.refl _)
                      · refine AO.weak (ρ' := [(111, (eBool false))]) (H' := [(n4, (.mem (e24 p0)))]) ⟨rfl, trivial⟩ (Sub.refl _) ?_
                        refine AO.skipG 29 false 111 rfl rfl rfl 115 rfl (by decide) ?_
                        exact AO.nilE (ρ' := [(115, (.fl undef))]) (H' := [(n4, (.mem (e24 p0)))]) ⟨⟨_, rfl, rfl⟩, Sub.refl _⟩ ⟨rfl, trivial⟩ (Sub.refl _)
                      · refine AO.weak (ρ' := [(111, (eBool false))]) (H' := [(n4, (.mem (e24 p0)))]) ⟨rfl, trivial⟩ (Sub.refl _) ?_
                        refine AO.skipG 29 false 111 rfl rfl rfl 116 rfl (by decide) ?_
                        exact AO.nilE (ρ' := [(116, (.fl undef))]) (H' := [(n4, (.mem (e24 p0)))]) ⟨⟨_, rfl, rfl⟩, Sub.refl _⟩ ⟨rfl, trivial⟩ (Sub.refl _)
                      · refine AO.weak (ρ' := [(111, (eBool false))]) (H' := [(n4, (.mem (e24 p0)))]) ⟨rfl, trivial⟩ (Sub.refl _) ?_
                        refine AO.skipG 29 false 111 rfl rfl rfl 117 rfl (by decide) ?_
                        exact AO.nilE (ρ' := [(117, (.fl undef))]) (H' := [(n4, (.mem (e24 p0)))]) ⟨⟨_, rfl, rfl⟩, Sub.refl _⟩ ⟨rfl, trivial⟩ (Sub.refl _)
                      · refine AO.weak (ρ' := [(111, (eBool false))]) (H' := [(n4, (.mem (e24 p0)))]) ⟨rfl, trivial⟩ (Sub.refl _) ?_
                        refine AO.skipG 29 false 111 rfl rfl rfl 118 rfl (by decide) ?_
                        exact AO.nilE (ρ' := [(118, (.fl undef))]) (H' := [(n4, (.mem (e24 p0)))]) ⟨⟨_, rfl, rfl⟩, Sub.refl _⟩ ⟨rfl, trivial⟩ (Sub.refl _)
                      · refine AO.weak (ρ' := [(111, (eBool false))]) (H' := [(n4, (.mem (e24 p0)))]) ⟨rfl, trivial⟩ (Sub.refl _) ?_
                        refine AO.skipG 29 false 111 rfl rfl rfl 119 rfl (by decide) ?_
                        exact AO.nilE (ρ' := [(119, (.fl undef))]) (H' := [(n4, (.mem (e24 p0)))]) ⟨⟨_, rfl, rfl⟩, Sub.refl _⟩ ⟨rfl, trivial⟩ (Sub.refl _)
                      · refine AO.weak (ρ' := [(111, (eBool false))]) (H' := [(n4, (.mem (e24 p0)))]) ⟨rfl, trivial⟩ (Sub.refl _) ?_
                        refine AO.skipG 29 false 111 rfl rfl rfl 120 rfl (by decide) ?_
                        exact AO.nilE (ρ' := [(120, (.fl undef))]) (H' := [(n4, (.mem (e24 p0)))]) ⟨⟨_, rfl, rfl⟩, Sub.refl _⟩ ⟨rfl, trivial⟩ (Sub.refl _)
                      · refine AO.weak (ρ' := [(111, (eBool false))]) (H' := [(n4, (.mem (e24 p0)))]) ⟨rfl, trivial⟩ (Sub.refl _) ?_
                        refine AO.skipG 29 false 111 rfl rfl rfl 121 rfl (by decide) ?_
                        exact AO.nilE (ρ' := [(121, (.fl undef))]) (H' := [(n4, (.mem (e24 p0)))]) ⟨⟨_, rfl, rfl⟩, Sub.refl _⟩ ⟨rfl, trivial⟩ (Sub.refl _)
                      · refine AO.weak (ρ' := [(111, (eBool false))]) (H' := [(n4, (.mem (e24 p0)))]) ⟨rfl, trivial⟩ (Sub.refl _) ?_
                        refine AO.skipG 29 false 111 rfl rfl rfl 122 rfl (by decide) ?_
                        exact AO.nilE (ρ' := [(122, (.fl undef))]) (H' := [(n4, (.mem (e24 p0)))]) ⟨⟨_, rfl, rfl⟩, Sub.refl _⟩ ⟨rfl, trivial⟩ (Sub.refl _)
                      · refine AO.weak (ρ' := [(111, (eBool false)), (122, (.fl undef))]) (H' := [(n4, (.mem (e24 p0)))]) ⟨rfl, rfl, trivial⟩ (Sub.refl _) ?_
                        refine AO.calm rfl 123 rfl (by decide) (eBool false) (Calm.pickF rfl rfl rfl) ?_
                        exact AO.nilE (ρ' := [(123, (eBool false))]) (H' := [(n4, (.mem (e24 p0)))]) ⟨⟨_, rfl, rfl⟩, Sub.refl _⟩ ⟨rfl, trivial⟩ (Sub.refl _)
                      · refine AO.weak (ρ' := [(123, (eBool false))]) (H' := [(n4, (.mem (e24 p0)))]) ⟨rfl, trivial⟩ (Sub.refl _) ?_
                        refine AO.calm rfl 6 rfl (by decide) (eBool false) (Calm.assign rfl rfl) ?_
                        exact AO.nilE (ρ' := [(6, (eBool false))]) (H' := [(n4, (.mem (e24 p0)))]) ⟨⟨_, rfl, rfl⟩, Sub.refl _⟩ ⟨rfl, trivial⟩ (Sub.refl _)
                    · cases hq24
                      exact ⟨rfl, rfl, rfl⟩
                · have hq24 := (if_neg hc25).symm.trans hq24
                  refine AW.regAny (by rfl) (by decide +kernel) [(eI64 x21), (.fz 4 (t20.map e33)), (eI64 (t20.length : Int)), (eBool (decide (x21 = (t20.length : Int)))), (eBool (decide (x21 = (t20.length : Int)))), (.fl undef), (.fl undef), (eBool false), (eBool false), (.fl undef), (.fl undef), (.fl undef), (.fl undef), (.fl undef), (.fl undef), (.fl undef), (eBool false), (eBool false), (.fl undef), (.fl undef), (.fl undef), (.fl undef), (.fl undef), (.fl undef), (.fl undef), (.fl undef), (.fl undef), (.fl undef), (eBool false), (eBool false), (.fl undef), (.fl undef), (.fl undef), (.fl undef), (.fl undef), (.fl undef), (.fl undef), (.fl undef), (.fl undef), (.fl undef), (.fl undef), (eBool false), (eBool false)] [(1, (.fz 1 (p1.map eBool))), (2, (eStr p2)), (3, (.ptr n4 0)), (7, (.fz 4 (t20.map e33))), (8, (eI64 x21)), (10, (eU8 x22))] ⟨rfl, rfl, rfl, rfl, rfl, rfl, trivial⟩ rfl ?_ [(6, (eBool false))] [] ⟨rfl, trivial⟩ (Sub.nil _) ?_
                  · refine ⟨?_, ?_, ?_, ?_, ?_, ?_, ?_, ?_, ?_, ?_, ?_, ?_, ?_, ?_, ?_, ?_, ?_, ?_, ?_, ?_, ?_, ?_, ?_, ?_, ?_, ?_, ?_, ?_, ?_, ?_, ?_, ?_, ?_, ?_, ?_, ?_, ?_, ?_, ?_, ?_, ?_, ?_, ?_, trivial⟩
                    · refine AO.weak (ρ' := [(8, (eI64 x21))]) (H' := [(n4, (.mem (e24 p0)))]) ⟨rfl, trivial⟩ (Sub.refl _) ?_
                      refine AO.calm rfl 82 rfl (by decide) (eI64 x21) (Calm.move rfl rfl) ?_
                      exact AO.nilE (ρ' := [(82, (eI64 x21))]) (H' := [(n4, (.mem (e24 p0)))]) ⟨⟨_, rfl, rfl⟩, Sub.refl _⟩ ⟨rfl, trivial⟩ (Sub.refl _)
                    · refine AO.weak (ρ' := [(7, (.fz 4 (t20.map e33)))]) (H' := [(n4, (.mem (e24 p0)))]) ⟨rfl, trivial⟩ (Sub.refl _) ?_
                      refine AO.calm rfl 83 rfl (by decide) (.fz 4 (t20.map e33)) (Calm.move rfl rfl) ?_
                      exact AO.nilE (ρ' := [(83, (.fz 4 (t20.map e33)))]) (H' := [(n4, (.mem (e24 p0)))]) ⟨⟨_, rfl, rfl⟩, Sub.refl _⟩ ⟨rfl, trivial⟩ (Sub.refl _)
                    · refine AO.weak (ρ' := [(83, (.fz 4 (t20.map e33)))]) (H' := [(n4, (.mem (e24 p0)))]) ⟨rfl, trivial⟩ (Sub.refl _) ?_
                      refine AO.calm rfl 84 rfl (by decide) (eI64 (t20.length : Int)) (Calm.lenL rfl rfl Try.underlying29) ?_
                      exact AO.nilE (ρ' := [(84, (eI64 (t20.length : Int)))]) (H' := [(n4, (.mem (e24 p0)))]) ⟨⟨_, rfl, rfl⟩, Sub.refl _⟩ ⟨rfl, trivial⟩ (Sub.refl _)
                    · refine AO.weak (ρ' := [(82, (eI64 x21)), (84, (eI64 (t20.length : Int)))]) (H' := [(n4, (.mem (e24 p0)))]) ⟨rfl, rfl, trivial⟩ (Sub.refl _) ?_
                      refine AO.calm rfl 85 rfl (by decide) (eBool (decide (x21 = (t20.length : Int)))) (Calm.int rfl rfl rfl rfl) ?_
                      exact AO.nilE (ρ' := [(85, (eBool (decide (x21 = (t20.length : Int)))))]) (H' := [(n4, (.mem (e24 p0)))]) ⟨⟨_, rfl, rfl⟩, Sub.refl _⟩ ⟨rfl, trivial⟩ (Sub.refl _)
                    · refine AO.weak (ρ' := [(85, (eBool (decide (x21 = (t20.length : Int)))))]) (H' := [(n4, (.mem (e24 p0)))]) ⟨rfl, trivial⟩ (Sub.refl _) ?_
                      refine AO.calm rfl 86 rfl (by decide) (eBool (decide (x21 = (t20.length : Int)))) (Calm.move rfl rfl) ?_
                      exact AO.nilE (ρ' := [(86, (eBool (decide (x21 = (t20.length : Int)))))]) (H' := [(n4, (.mem (e24 p0)))]) ⟨⟨_, rfl, rfl⟩, Sub.refl _⟩ ⟨rfl, trivial⟩ (Sub.refl _)
                    · refine AO.weak (ρ' := [(86, (eBool (decide (x21 = (t20.length : Int)))))]) (H' := [(n4, (.mem (e24 p0)))]) ⟨rfl, trivial⟩ (Sub.refl _) ?_
                      refine AO.skipG 4 false 86 rfl rfl (congrArg (fun b => some (AV.fl (Value.bool b))) (decide_eq_false hc25)) 87 rfl (by decide) ?_
                      exact AO.nilE (ρ' := [(87, (.fl undef))]) (H' := [(n4, (.mem (e24 p0)))]) ⟨⟨_, rfl, rfl⟩, Sub.refl _⟩ ⟨rfl, trivial⟩ (Sub.refl _)
                    · refine AO.weak (ρ' := [(86, (eBool (decide (x21 = (t20.length : Int)))))]) (H' := [(n4, (.mem (e24 p0)))]) ⟨rfl, trivial⟩ (Sub.refl _) ?_
                      refine AO.skipG 4 false 86 rfl rfl (congrArg (fun b => some (AV.fl (Value.bool b))) (decide_eq_false hc25)) 88 rfl (by decide) ?_
                      exact AO.nilE (ρ' := [(88, (.fl undef))]) (H' := [(n4, (.mem (e24 p0)))]) ⟨⟨_, rfl, rfl⟩, Sub.refl _⟩ ⟨rfl, trivial⟩ (Sub.refl _)
                    · refine AO.weak (ρ' := [(86, (eBool (decide (x21 = (t20.length : Int))))), (88, (.fl undef))]) (H' := [(n4, (.mem (e24 p0)))]) ⟨rfl, rfl, trivial⟩ (Sub.refl _) ?_
                      refine AO.calm rfl 89 rfl (by decide) (eBool false) (Calm.pickF rfl (congrArg (fun b => some (AV.fl (Value.bool b))) (decide_eq_false hc25)) rfl) ?_
                      exact AO.nilE (ρ' := [(89, (eBool false))]) (H' := [(n4, (.mem (e24 p0)))]) ⟨⟨_, rfl, rfl⟩, Sub.refl _⟩ ⟨rfl, trivial⟩ (Sub.refl _)
                    · refine AO.weak (ρ' := [(89, (eBool false))]) (H' := [(n4, (.mem (e24 p0)))]) ⟨rfl, trivial⟩ (Sub.refl _) ?_
                      refine AO.calm rfl 90 rfl (by decide) (eBool false) (Calm.move rfl rfl) ?_
                      exact AO.nilE (ρ' := [(90, (eBool false))]) (H' := [(n4, (.mem (e24 p0)))]) ⟨⟨_, rfl, rfl⟩, Sub.refl _⟩ ⟨rfl, trivial⟩ (Sub.refl _)
                    · refine AO.weak (ρ' := [(90, (eBool false))]) (H' := [(n4, (.mem (e24 p0)))]) ⟨rfl, trivial⟩ (Sub.refl _) ?_
                      refine AO.skipG 8 false 90 rfl rfl rfl 91 rfl (by decide) ?_
                      exact AO.nilE (ρ' := [(91, (.fl undef))]) (H' := [(n4, (.mem (e24 p0)))]) ⟨⟨_, rfl, rfl⟩, Sub.refl _⟩ ⟨rfl, trivial⟩ (Sub.refl _)
                    · refine AO.weak (ρ' := [(90, (eBool false))]) (H' := [(n4, (.mem (e24 p0)))]) ⟨rfl, trivial⟩ (Sub.refl _) ?_
                      refine AO.skipG 8 false 90 rfl rfl rfl 92 rfl (by decide) ?_
                      exact AO.nilE (ρ' := [(92, (.fl undef))]) (H' := [(n4, (.mem (e24 p0)))]) ⟨⟨_, rfl, rfl⟩, Sub.refl _⟩ ⟨rfl, trivial⟩ (Sub.refl _)
                    · refine AO.weak (ρ' := [(90, (eBool false))]) (H' := [(n4, (.mem (e24 p0)))]) ⟨rfl, trivial⟩ (Sub.refl _) ?_
                      refine AO.skipG 8 false 90 rfl rfl rfl 93 rfl (by decide) ?_
                      exact AO.nilE (ρ' := [(93, (.fl undef))]) (H' := [(n4, (.mem (e24 p0)))]) ⟨⟨_, rfl, rfl⟩, Sub.refl _⟩ ⟨rfl, trivial⟩ (Sub.refl _)
                    · refine AO.weak (ρ' := [(90, (eBool false))]) (H' := [(n4, (.mem (e24 p0)))]) ⟨rfl, trivial⟩ (Sub.refl _) ?_
                      refine AO.skipG 8 false 90 rfl rfl rfl 94 rfl (by decide) ?_
                      exact AO.nilE (ρ' := [(94, (.fl undef))]) (H' := [(n4, (.mem (e24 p0)))]) ⟨⟨_, rfl, rfl⟩, Sub.refl _⟩ ⟨rfl, trivial⟩ (Sub.refl _)
                    · refine AO.weak (ρ' := [(90, (eBool false))]) (H' := [(n4, (.mem (e24 p0)))]) ⟨rfl, trivial⟩ (Sub.refl _) ?_
                      refine AO.skipG 8 false 90 rfl rfl rfl 95 rfl (by decide) ?_
                      exact AO.nilE (ρ' := [(95, (.fl undef))]) (H' := [(n4, (.mem (e24 p0)))]) ⟨⟨_, rfl, rfl⟩, Sub.refl _⟩ ⟨rfl, trivial⟩ (Sub.refl _)
                    · refine AO.weak (ρ' := [(90, (eBool false))]) (H' := [(n4, (.mem (e24 p0)))]) ⟨rfl, trivial⟩ (Sub.refl _) ?_
                      refine AO.skipG 8 false 90 rfl rfl rfl 96 rfl (by decide) ?_
                      exact AO.nilE (ρ' := [(96, (.fl undef))]) (H' := [(n4, (.mem (e24 p0)))]) ⟨⟨_, rfl, rfl⟩, Sub.refl _⟩ ⟨rfl, trivial⟩ (Sub.refl _)
                    · refine AO.weak (ρ' := [(90, (eBool false))]) (H' := [(n4, (.mem (e24 p0)))]) ⟨rfl, trivial⟩ (Sub.refl _) ?_
                      refine AO.skipG 8 false 90 rfl rfl rfl 97 rfl (by decide) ?_
                      exact AO.nilE (ρ' := [(97, (.fl undef))]) (H' := [(n4, (.mem (e24 p0)))]) ⟨⟨_, rfl, rfl⟩, Sub.refl _⟩ ⟨rfl, trivial⟩ (Sub.refl _)
                    · refine AO.weak (ρ' := [(90, (eBool false)), (97, (.fl undef))]) (H' := [(n4, (.mem (e24 p0)))]) ⟨rfl, rfl, trivial⟩ (Sub.refl _) ?_
                      refine AO.calm rfl 98 rfl (by decide) (eBool false) (Calm.pickF rfl rfl rfl) ?_
                      exact AO.nilE (ρ' := [(98, (eBool false))]) (H' := [(n4, (.mem (e24 p0)))]) ⟨⟨_, rfl, rfl⟩, Sub.refl _⟩ ⟨rfl, trivial⟩ (Sub.refl _)
                    · refine AO.weak (ρ' := [(98, (eBool false))]) (H' := [(n4, (.mem (e24 p0)))]) ⟨rfl, trivial⟩ (Sub.refl _) ?_
                      refine AO.calm rfl 99 rfl (by decide) (eBool false) (Calm.move rfl rfl) ?_
                      exact AO.nilE (ρ' := [(99, (eBool false))]) (H' := [(n4, (.mem (e24 p0)))]) ⟨⟨_, rfl, rfl⟩, Sub.refl _⟩ ⟨rfl, trivial⟩ (Sub.refl _)
                    · refine AO.weak (ρ' := [(99, (eBool false))]) (H' := [(n4, (.mem (e24 p0)))]) ⟨rfl, trivial⟩ (Sub.refl _) ?_
                      refine AO.skipG 17 false 99 rfl rfl rfl 100 rfl (by decide) ?_
                      exact AO.nilE (ρ' := [(100, (.fl undef))]) (H' := [(n4, (.mem (e24 p0)))]) ⟨⟨_, rfl, rfl⟩, Sub.refl _⟩ ⟨rfl, trivial⟩ (Sub.refl _)
                    · refine AO.weak (ρ' := [(99, (eBool false))]) (H' := [(n4, (.mem (e24 p0)))]) ⟨rfl, trivial⟩ (Sub.refl _) ?_
                      refine AO.skipG 17 false 99 rfl rfl rfl 101 rfl (by decide) ?_
                      exact AO.nilE (ρ' := [(101, (.fl undef))]) (H' := [(n4, (.mem (e24 p0)))]) ⟨⟨_, rfl, rfl⟩, Sub.refl _⟩ ⟨rfl, trivial⟩ (Sub.refl _)
                    · refine AO.weak (ρ' := [(99, (eBool false))]) (H' := [(n4, (.mem (e24 p0)))]) ⟨rfl, trivial⟩ (Sub.refl _) ?_
                      refine AO.skipG 17 false 99 rfl rfl rfl 102 rfl (by decide) ?_
                      exact AO.nilE (ρ' := [(102, (.fl undef))]) (H' := [(n4, (.mem (e24 p0)))]) ⟨⟨_, rfl, rfl⟩, Sub.refl _⟩ ⟨rfl, trivial⟩ (Sub.refl _)
                    · refine AO.weak (ρ' := [(99, (eBool false))]) (H' := [(n4, (.mem (e24 p0)))]) ⟨rfl, trivial⟩ (Sub.refl _) ?_
                      refine AO.skipG 17 false 99 rfl rfl rfl 103 rfl (by decide) ?_
                      exact AO.nilE (ρ' := [(103, (.fl undef))]) (H' := [(n4, (.mem (e24 p0)))]) ⟨⟨_, rfl, rfl⟩, Sub.refl _⟩ ⟨rfl, trivial⟩ (Sub.refl _)
                    · refine AO.weak (ρ' := [(99, (eBool false))]) (H' := [(n4, (.mem (e24 p0)))]) ⟨rfl, trivial⟩ (Sub.refl _) ?_
                      refine AO.skipG 17 false 99 rfl rfl rfl 104 rfl (by decide) ?_
                      exact AO.nilE (ρ' := [(104, (.fl undef))]) (H' := [(n4, (.mem (e24 p0)))]) ⟨⟨_, rfl, rfl⟩, Sub.refl _⟩ ⟨rfl, trivial⟩ (Sub.refl _)
                    · refine AO.weak (ρ' := [(99, (eBool false))]) (H' := [(n4, (.mem (e24 p0)))]) ⟨rfl, trivial⟩ (Sub.refl _) ?_
                      refine AO.skipG 17 false 99 rfl rfl rfl 105 rfl (by decide) ?_
                      exact AO.nilE (ρ' := [(105, (.fl undef))]) (H' := [(n4, (.mem (e24 p0)))]) ⟨⟨_, rfl, rfl⟩, Sub.refl _⟩ ⟨rfl, trivial⟩ (Sub.refl _)
                    · refine AO.weak (ρ' := [(99, (eBool false))]) (H' := [(n4, (.mem (e24 p0)))]) ⟨rfl, trivial⟩ (Sub.refl _) ?_
                      refine AO.skipG 17 false 99 rfl rfl rfl 106 rfl (by decide) ?_
                      exact AO.nilE (ρ' := [(106, (.fl undef))]) (H' := [(n4, (.mem (e24 p0)))]) ⟨⟨_, rfl, rfl⟩, Sub.refl _⟩ ⟨rfl, trivial⟩ (Sub.refl _)
                    · refine AO.weak (ρ' := [(99, (eBool false))]) (H' := [(n4, (.mem (e24 p0)))]) ⟨rfl, trivial⟩ (Sub.refl _) ?_
                      refine AO.skipG 17 false 99 rfl rfl rfl 107 rfl (by decide) ?_
                      exact AO.nilE (ρ' := [(107, (.fl undef))]) (H' := [(n4, (.mem (e24 p0)))]) ⟨⟨_, rfl, rfl⟩, Sub.refl _⟩ ⟨rfl, trivial⟩ (Sub.refl _)
                    · refine AO.weak (ρ' := [(99, (eBool false))]) (H' := [(n4, (.mem (e24 p0)))]) ⟨rfl, trivial⟩ (Sub.refl _) ?_
                      refine AO.skipG 17 false 99 rfl rfl rfl 108 rfl (by decide) ?_
                      exact AO.nilE (ρ' := [(108, (.fl undef))]) (H' := [(n4, (.mem (e24 p0)))]) ⟨⟨_, rfl, rfl⟩, Sub.refl _⟩ ⟨rfl, trivial⟩ (Sub.refl _)
                    · refine AO.weak (ρ' := [(99, (eBool false))]) (H' := [(n4, (.mem (e24 p0)))]) ⟨rfl, trivial⟩ (Sub.refl _) ?_
                      refine AO.skipG 17 false 99 rfl rfl rfl 109 rfl (by decide) ?_
                      exact AO.nilE (ρ' := [(109, (.fl undef))]) (H' := [(n4, (.mem (e24 p0)))]) ⟨⟨_, rfl, rfl⟩, Sub.refl _⟩ ⟨rfl, trivial⟩ (Sub.refl _)
                    · refine AO.weak (ρ' := [(99, (eBool false)), (109, (.fl undef))]) (H' := [(n4, (.mem (e24 p0)))]) ⟨rfl, rfl, trivial⟩ (Sub.refl _) ?_
                      refine AO.calm rfl 110 rfl (by decide) (eBool false) (Calm.pickF rfl rfl rfl) ?_
                      exact AO.nilE (ρ' := [(110, (eBool false))]) (H' := [(n4, (.mem (e24 p0)))]) ⟨⟨_, rfl, rfl⟩, Sub.refl _⟩ ⟨rfl, trivial⟩ (Sub.refl _)
                    · refine AO.weak (ρ' := [(110, (eBool false))]) (H' := [(n4, (.mem (e24 p0)))]) ⟨rfl, trivial⟩ (Sub.refl _) ?_
                      refine AO.calm rfl 111 rfl (by decide) (eBool false) (Calm.move rfl rfl) ?_
                      exact AO.nilE (ρ' := [(111, (eBool false))]) (H' := [(n4, (.mem (e24 p0)))]) ⟨⟨_, rfl, rfl⟩, Sub.refl _⟩ ⟨rfl, trivial⟩ (Sub.refl _)
                    · refine AO.weak (ρ' := [(111, (eBool false))]) (H' := [(n4, (.mem (e24 p0)))]) ⟨rfl, trivial⟩ (Sub.refl _) ?_
                      refine AO.skipG 29 false 111 rfl rfl rfl 112 rfl (by decide) ?_
                      exact AO.nilE (ρ' := [(112, (.fl undef))]) (H' := [(n4, (.mem (e24 p0)))]) ⟨⟨_, rfl, rfl⟩, Sub.refl _⟩ ⟨rfl, trivial⟩ (Sub.refl _)
                    · refine AO.weak (ρ' := [(111, (eBool false))]) (H' := [(n4, (.mem (e24 p0)))]) ⟨rfl, trivial⟩ (Sub.refl _) ?_
                      refine AO.skipG 29 false 111 rfl rfl rfl 113 rfl (by decide) ?_
                      exact AO.nilE (ρ' := [(113, (.fl undef))]) (H' := [(n4, (.mem (e24 p0)))]) ⟨⟨_, rfl, rfl⟩, Sub.refl _⟩ ⟨rfl, trivial⟩ (Sub.refl _)
                    · refine AO.weak (ρ' := [(111, (eBool false))]) (H' := [(n4, (.mem (e24 p0)))]) ⟨rfl, trivial⟩ (Sub.refl _) ?_
                      refine AO.skipG 29 false 111 rfl rfl rfl 114 rfl (by decide) ?_
                      exact AO.nilE (ρ' := [(114, (.fl undef))]) (H' := [(n4, (.mem (e24 p0)))]) ⟨⟨_, rfl, rfl⟩, Sub.refl _⟩ ⟨rfl, trivial⟩ (Sub.refl _)
                    · refine AO.weak (ρ' := [(111, (eBool false))]) (H' := [(n4, (.mem (e24 p0)))]) ⟨rfl, trivial⟩ (Sub.refl _) ?_
                      refine AO.skipG 29 false 111 rfl rfl rfl 115 rfl (by decide) ?_
                      exact AO.nilE (ρ' := [(115, (.fl undef))]) (H' := [(n4, (.mem (e24 p0)))]) ⟨⟨_, rfl, rfl⟩, Sub.refl _⟩ ⟨rfl, trivial⟩ (Sub.refl _)
                    · refine AO.weak (ρ' := [(111, (eBool false))]) (H' := [(n4, (.mem (e24 p0)))]) ⟨rfl, trivial⟩ (Sub.refl _) ?_
                      refine AO.skipG 29 false 111 rfl rfl rfl 116 rfl (by decide) ?_
                      exact AO.nilE (ρ' := [(116, (.fl undef))]) (H' := [(n4, (.mem (e24 p0)))]) ⟨⟨_, rfl, rfl⟩, Sub.refl _⟩ ⟨rfl, trivial⟩ (Sub.refl _)
                    · refine AO.weak (ρ' := [(111, (eBool false))]) (H' := [(n4, (.mem (e24 p0)))]) ⟨rfl, trivial⟩ (Sub.refl _) ?_
                      refine AO.skipG 29 false 111 rfl rfl rfl 117 rfl (by decide) ?_
                      exact AO.nilE (ρ' := [(117, (.fl undef))]) (H' := [(n4, (.mem (e24 p0)))]) ⟨⟨_, rfl, rfl⟩, Sub.refl _⟩ ⟨rfl, trivial⟩ (Sub.refl _)
                    · refine AO.weak (ρ' := [(111, (eBool false))]) (H' := [(n4, (.mem (e24 p0)))]) ⟨rfl, trivial⟩ (Sub.refl _) ?_
                      refine AO.skipG 29 false 111 rfl rfl rfl 118 rfl (by decide) ?_
                      exact AO.nilE (ρ' := [(118, (.fl undef))]) (H' := [(n4, (.mem (e24 p0)))]) ⟨⟨_, rfl, rfl⟩, Sub.refl _⟩ ⟨rfl, trivial⟩ (Sub.refl _)
                    · refine AO.weak (ρ' := [(111, (eBool false))]) (H' := [(n4, (.mem (e24 p0)))]) ⟨rfl, trivial⟩ (Sub.refl _) ?_
                      refine AO.skipG 29 false 111 rfl rfl rfl 119 rfl (by decide) ?_
                      exact AO.nilE (ρ' := [(119, (.fl undef))]) (H' := [(n4, (.mem (e24 p0)))]) ⟨⟨_, rfl, rfl⟩, Sub.refl _⟩ ⟨rfl, trivial⟩ (Sub.refl _)
                    · refine AO.weak (ρ' := [(111, (eBool false))]) (H' := [(n4, (.mem (e24 p0)))]) ⟨rfl, trivial⟩ (Sub.refl _) ?_
                      refine AO.skipG 29 false 111 rfl rfl rfl 120 rfl (by decide) ?_
                      exact AO.nilE (ρ' := [(120, (.fl undef))]) (H' := [(n4, (.mem (e24 p0)))]) ⟨⟨_, rfl, rfl⟩, Sub.refl _⟩ ⟨rfl, trivial⟩ (Sub.refl _)
                    · refine AO.weak (ρ' := [(111, (eBool false))]) (H' := [(n4, (.mem (e24 p0)))]) ⟨rfl, trivial⟩ (Sub.refl _) ?_
                      refine AO.skipG 29 false 111 rfl rfl rfl 121 rfl (by decide) ?_
                      exact AO.nilE (ρ' := [(121, (.fl undef))]) (H' := [(n4, (.mem (e24 p0)))]) ⟨⟨_, rfl, rfl⟩, Sub.refl _⟩ ⟨rfl, trivial⟩ (Sub.refl _)
                    · refine AO.weak (ρ' := [(111, (eBool false))]) (H' := [(n4, (.mem (e24 p0)))]) ⟨rfl, trivial⟩ (Sub.refl _) ?_
                      refine AO.skipG 29 false 111 rfl rfl rfl 122 rfl (by decide) ?_
                      exact AO.nilE (ρ' := [(122, (.fl undef))]) (H' := [(n4, (.mem (e24 p0)))]) ⟨⟨_, rfl, rfl⟩, Sub.refl _⟩ ⟨rfl, trivial⟩ (Sub.refl _)
                    · refine AO.weak (ρ' := [(111, (eBool false)), (122, (.fl undef))]) (H' := [(n4, (.mem (e24 p0)))]) ⟨rfl, rfl, trivial⟩ (Sub.refl _) ?_
                      refine AO.calm rfl 123 rfl (by decide) (eBool false) (Calm.pickF rfl rfl rfl) ?_
                      exact AO.nilE (ρ' := [(123, (eBool false))]) (H' := [(n4, (.mem (e24 p0)))]) ⟨⟨_, rfl, rfl⟩, Sub.refl _⟩ ⟨rfl, trivial⟩ (Sub.refl _)
                    · refine AO.weak (ρ' := [(123, (eBool false))]) (H' := [(n4, (.mem (e24 p0)))]) ⟨rfl, trivial⟩ (Sub.refl _) ?_
                      refine AO.calm rfl 6 rfl (by decide) (eBool false) (Calm.assign rfl rfl) ?_
                      exact AO.nilE (ρ' := [(6, (eBool false))]) (H' := [(n4, (.mem (e24 p0)))]) ⟨⟨_, rfl, rfl⟩, Sub.refl _⟩ ⟨rfl, trivial⟩ (Sub.refl _)
                  · cases hq24
                    exact ⟨rfl, rfl, rfl⟩
              · refine AW.ret (ρ' := [(6, (eBool b23))]) (H' := []) ⟨rfl, trivial⟩ (Sub.refl _) ?_
                have hr := Option.some.inj h
                subst hr
                exact ⟨[(eBool b23)], ⟨rfl, rfl, trivial⟩, rfl⟩
end Go.Avl.T3
