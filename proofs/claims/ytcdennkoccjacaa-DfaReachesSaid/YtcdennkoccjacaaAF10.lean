/- Parts: T3f7. -/
import Derived.Test.YtcdennkoccjacaaAF1
import Derived.Test.YtcdennkoccjacaaAF9
import Derived.Test.YtcdennkoccjacaaAF3
import Derived.Test.YtcdennkoccjacaaAF4
import Derived.Test.YtcdennkoccjacaaAF2
import Derived.Test.YtcdennkoccjacaaAF5
import Derived.Test.YtcdennkoccjacaaAF6
import Derived.Test.YtcdennkoccjacaaAF7
import Derived.Test.YtcdennkoccjacaaAF8
/- bosket/bosketlaw08.DfaReaches; printed by avmain.py. -/
namespace Go.Avl.T3
open Go Go.RowKit Go.Proofs Go.Avl
set_option linter.unusedVariables false
set_option maxRecDepth 100000
set_option maxHeartbeats 4000000
attribute [local irreducible] AW AO AQ Spec SpecH Calm

def bosketlaw08_DfaReaches (k : Nat) (p0 : S50) (p1 : Int) : Option Bool :=
  (bosketlaw08_awake k).bind fun t4 =>
  if (!t4) = true then some (false)
  else Option.bind (α := Bool) ((bosketlaw08_Small k p0).bind fun t8 =>
  if (!t8) = true then some (true)
  else (bosketref08_Right k p0).bind fun t10 =>
  some (!t10)) fun b6 =>
  if b6 = true then some (true)
  else Option.bind (α := Bool) ((dfa_Reached k p0 p1).bind fun t14 =>
  (bosketref08_Reached k p0 p1).bind fun t15 =>
  (bosketref06_Same k t14 t15).bind fun t16 =>
  if t16 = true then (dfa_Alive k p0).bind fun t18 =>
  (bosketref08_Alive k p0).bind fun t19 =>
  (bosketref06_Same k t18 t19).bind fun t20 =>
  if t20 = true then (dfa_Trim k p0).bind fun t22 =>
  (bosketref08_Trim k p0).bind fun t23 =>
  (dfa_Same k t22 t23).bind fun t24 =>
  if t24 = true then (dfa_Order k p0).bind fun t26 =>
  (bosketref08_Order k p0).bind fun t27 =>
  (dfa_Same k t26 t27).bind fun t28 =>
  some (t28)
  else some (false)
  else some (false)
  else some (false)) fun b12 =>
  some (b12)
theorem bosketlaw08_DfaReaches_spec {k : Nat} {p0 : S50} {p1 : Int} {r : Bool} (h : bosketlaw08_DfaReaches k p0 p1 = some r) : Spec Try.prog 7 [(e50 p0), (eI64 p1)] (eBool r) := by
  rw [bosketlaw08_DfaReaches.eq_1] at h
  refine Spec.intro (res := [.tmp 4]) Try.func7 rfl rfl rfl (Nat.le_of_ble_eq_true rfl) ?_
  refine AW.seq ?_
  refine AW.reg ?_
  refine AO.box rfl 2 rfl (by decide) rfl rfl rfl fun n3 => ?_
  refine AO.calm rfl 4 rfl (by decide) (eBool false) (Calm.assign rfl rfl) ?_
  refine AO.nil (ρ' := [(1, (eI64 p1)), (2, (.ptr n3 0))]) (H' := [(n3, (.mem (e50 p0)))]) ⟨rfl, rfl, trivial⟩ (Sub.refl _) ?_
  refine AW.seq ?_
  refine AW.seq ?_
  refine AW.reg ?_
  obtain ⟨t4, et4, h⟩ := of_bind h
  refine AO.callS [] (eBool t4) 5 rfl (by decide) ok21 rfl rfl rfl trivial (bosketlaw08_awake_spec et4) ?_
  refine AO.calm rfl 6 rfl (by decide) (eBool (!t4)) (Calm.not rfl rfl) ?_
  refine AO.nil (ρ' := [(1, (eI64 p1)), (2, (.ptr n3 0)), (6, (eBool (!t4)))]) (H' := [(n3, (.mem (e50 p0)))]) ⟨rfl, rfl, rfl, trivial⟩ (Sub.refl _) ?_
  by_cases hc5 : (!t4) = true
  · have h := (if_pos hc5).symm.trans h
    refine AW.condT' (!t4) rfl hc5 ?_
    refine AW.seq ?_
    refine AW.reg ?_
    refine AO.calm rfl 4 rfl (by decide) (eBool false) (Calm.assign rfl rfl) ?_
    refine AO.nil (ρ' := [(4, (eBool false))]) (H' := []) ⟨rfl, trivial⟩ (Sub.nil _) ?_
    refine AW.ret (ρ' := [(4, (eBool false))]) (H' := []) ⟨rfl, trivial⟩ (Sub.refl _) ?_
    have hr := Option.some.inj h
    subst hr
    exact ⟨[(eBool false)], ⟨rfl, rfl, trivial⟩, rfl⟩
  · have h := (if_neg hc5).symm.trans h
    refine AW.condF' (!t4) rfl hc5 ?_
    refine AW.skip (ρ' := [(1, (eI64 p1)), (2, (.ptr n3 0))]) (H' := [(n3, (.mem (e50 p0)))]) ⟨rfl, rfl, trivial⟩ (Sub.refl _) ?_
    refine AW.seq ?_
    refine AW.seq ?_
    obtain ⟨b6, hq7, h⟩ := of_bind h
    refine AW.regM [(1, (eI64 p1)), (2, (.ptr n3 0)), (14, (eBool b6))] [(n3, (.mem (e50 p0)))] ?_ ?_
    · refine AO.calm rfl 7 rfl (by decide) (e50 p0) (Calm.load 0 rfl rfl rfl (At.cast At.here rfl) ag50 sz50) ?_
      obtain ⟨t8, et8, hq7⟩ := of_bind hq7
      refine AO.callS [(e50 p0)] (eBool t8) 8 rfl (by decide) ok22 rfl rfl rfl ⟨rfl, rfl, trivial⟩ (bosketlaw08_Small_spec et8) ?_
      refine AO.calm rfl 9 rfl (by decide) (eBool (!t8)) (Calm.not rfl rfl) ?_
      refine AO.calm rfl 10 rfl (by decide) (eBool (!t8)) (Calm.move rfl rfl) ?_
      by_cases hc9 : (!t8) = true
      · have hq7 := (if_pos hc9).symm.trans hq7
        refine AO.skipG 3 true 10 rfl rfl (congrArg (fun b => some (AV.fl (Value.bool b))) hc9) 11 rfl (by decide) ?_
        refine AO.skipG 3 true 10 rfl rfl (congrArg (fun b => some (AV.fl (Value.bool b))) hc9) 12 rfl (by decide) ?_
        refine AO.skipG 3 true 10 rfl rfl (congrArg (fun b => some (AV.fl (Value.bool b))) hc9) 13 rfl (by decide) ?_
        refine AO.calm rfl 14 rfl (by decide) (eBool true) (Calm.pickT rfl (congrArg (fun b => some (AV.fl (Value.bool b))) hc9) rfl) ?_
        cases hq7
        refine AO.nilE ⟨rfl, rfl⟩ ?_ ?_
        · exact ⟨rfl, rfl, rfl, trivial⟩
        · exact (Sub.refl _)
      · have hq7 := (if_neg hc9).symm.trans hq7
        refine AO.calmG 3 false 10 rfl rfl (congrArg (fun b => some (AV.fl (Value.bool b))) (eq_false_of_ne_true hc9)) 11 rfl (by decide) (e50 p0) (Calm.load 0 rfl rfl rfl (At.cast At.here rfl) ag50 sz50) ?_
        obtain ⟨t10, et10, hq7⟩ := of_bind hq7
        refine AO.callG 3 false 10 [(e50 p0)] (eBool t10) 12 rfl (by decide) ok23 rfl rfl (congrArg (fun b => some (AV.fl (Value.bool b))) (eq_false_of_ne_true hc9)) rfl rfl ⟨rfl, rfl, trivial⟩ (bosketref08_Right_spec et10) ?_
        refine AO.calmG 3 false 10 rfl rfl (congrArg (fun b => some (AV.fl (Value.bool b))) (eq_false_of_ne_true hc9)) 13 rfl (by decide) (eBool (!t10)) (Calm.not rfl rfl) ?_
        refine AO.calm rfl 14 rfl (by decide) (eBool (!t10)) (Calm.pickF rfl (congrArg (fun b => some (AV.fl (Value.bool b))) (eq_false_of_ne_true hc9)) rfl) ?_
        cases hq7
        refine AO.nilE ⟨rfl, rfl⟩ ?_ ?_
        · exact ⟨rfl, rfl, rfl, trivial⟩
        · exact (Sub.refl _)
    · by_cases hc11 : b6 = true
      · have h := (if_pos hc11).symm.trans h
        refine AW.condT' b6 rfl hc11 ?_
        refine AW.seq ?_
        refine AW.reg ?_
        refine AO.calm rfl 4 rfl (by decide) (eBool true) (Calm.assign rfl rfl) ?_
        refine AO.nil (ρ' := [(4, (eBool true))]) (H' := []) ⟨rfl, trivial⟩ (Sub.nil _) ?_
        refine AW.ret (ρ' := [(4, (eBool true))]) (H' := []) ⟨rfl, trivial⟩ (Sub.refl _) ?_
        have hr := Option.some.inj h
        subst hr
        exact ⟨[(eBool true)], ⟨rfl, rfl, trivial⟩, rfl⟩
      · have h := (if_neg hc11).symm.trans h
        refine AW.condF' b6 rfl hc11 ?_
        refine AW.skip (ρ' := [(1, (eI64 p1)), (2, (.ptr n3 0))]) (H' := [(n3, (.mem (e50 p0)))]) ⟨rfl, rfl, trivial⟩ (Sub.refl _) ?_
        refine AW.seq ?_
        obtain ⟨b12, hq13, h⟩ := of_bind h
        refine AW.toM [(4, (eBool b12))] [] ?_ ?_
        · obtain ⟨t14, et14, hq13⟩ := of_bind hq13
          obtain ⟨t15, et15, hq13⟩ := of_bind hq13
          obtain ⟨t16, et16, hq13⟩ := of_bind hq13
          by_cases hc17 : t16 = true
          · have hq13 := (if_pos hc17).symm.trans hq13
            obtain ⟨t18, et18, hq13⟩ := of_bind hq13
            obtain ⟨t19, et19, hq13⟩ := of_bind hq13
            obtain ⟨t20, et20, hq13⟩ := of_bind hq13
            by_cases hc21 : t20 = true
            · have hq13 := (if_pos hc21).symm.trans hq13
              obtain ⟨t22, et22, hq13⟩ := of_bind hq13
              obtain ⟨t23, et23, hq13⟩ := of_bind hq13
              obtain ⟨t24, et24, hq13⟩ := of_bind hq13
              by_cases hc25 : t24 = true
              · have hq13 := (if_pos hc25).symm.trans hq13
                obtain ⟨t26, et26, hq13⟩ := of_bind hq13
                obtain ⟨t27, et27, hq13⟩ := of_bind hq13
                obtain ⟨t28, et28, hq13⟩ := of_bind hq13
                refine AW.regAny (by rfl) (by decide +kernel) [(e50 p0), (eI64 p1), (.fz 1 (t14.map eBool)), (e50 p0), (eI64 p1), (.fz 1 (t15.map eBool)), (eBool t16), (eBool t16), (e50 p0), (.fz 1 (t18.map eBool)), (e50 p0), (.fz 1 (t19.map eBool)), (eBool t20), (eBool t20), (eBool t20), (e50 p0), (e50 t22), (e50 p0), (e50 t23), (eBool t24), (eBool t24), (eBool t24), (e50 p0), (e50 t26), (e50 p0), (e50 t27), (eBool t28), (eBool t28), (eBool t28)] [(1, (eI64 p1)), (2, (.ptr n3 0))] ⟨rfl, rfl, trivial⟩ rfl ?_ [(4, (eBool t28))] [] ⟨rfl, trivial⟩ (Sub.nil _) ?_
                · refine ⟨?_, ?_, ?_, ?_, ?_, ?_, ?_, ?_, ?_, ?_, ?_, ?_, ?_, ?_, ?_, ?_, ?_, ?_, ?_, ?_, ?_, ?_, ?_, ?_, ?_, ?_, ?_, ?_, ?_, trivial⟩
                  · refine AO.weak (ρ' := [(2, (.ptr n3 0))]) (H' := [(n3, (.mem (e50 p0)))]) ⟨rfl, trivial⟩ (Sub.refl _) ?_
                    refine AO.calm rfl 15 rfl (by decide) (e50 p0) (Calm.load 0 rfl rfl rfl (At.cast At.here rfl) ag50 sz50) ?_
                    exact AO.nilE (ρ' := [(15, (e50 p0))]) (H' := [(n3, (.mem (e50 p0)))]) ⟨⟨_, rfl, rfl⟩, Sub.refl _⟩ ⟨rfl, trivial⟩ (Sub.refl _)
                  · refine AO.weak (ρ' := [(1, (eI64 p1))]) (H' := [(n3, (.mem (e50 p0)))]) ⟨rfl, trivial⟩ (Sub.refl _) ?_
                    refine AO.calm rfl 16 rfl (by decide) (eI64 p1) (Calm.move rfl rfl) ?_
                    exact AO.nilE (ρ' := [(16, (eI64 p1))]) (H' := [(n3, (.mem (e50 p0)))]) ⟨⟨_, rfl, rfl⟩, Sub.refl _⟩ ⟨rfl, trivial⟩ (Sub.refl _)
                  · refine AO.weak (ρ' := [(15, (e50 p0)), (16, (eI64 p1))]) (H' := [(n3, (.mem (e50 p0)))]) ⟨rfl, rfl, trivial⟩ (Sub.refl _) ?_
                    refine AO.callS [(e50 p0), (eI64 p1)] (.fz 1 (t14.map eBool)) 17 rfl (by decide) ok35 rfl rfl rfl ⟨rfl, rfl, rfl, rfl, trivial⟩ (dfa_Reached_spec et14) ?_
                    exact AO.nilE (ρ' := [(17, (.fz 1 (t14.map eBool)))]) (H' := [(n3, (.mem (e50 p0)))]) ⟨⟨_, rfl, rfl⟩, Sub.refl _⟩ ⟨rfl, trivial⟩ (Sub.refl _)
                  · refine AO.weak (ρ' := [(2, (.ptr n3 0))]) (H' := [(n3, (.mem (e50 p0)))]) ⟨rfl, trivial⟩ (Sub.refl _) ?_
                    refine AO.calm rfl 18 rfl (by decide) (e50 p0) (Calm.load 0 rfl rfl rfl (At.cast At.here rfl) ag50 sz50) ?_
                    exact AO.nilE (ρ' := [(18, (e50 p0))]) (H' := [(n3, (.mem (e50 p0)))]) ⟨⟨_, rfl, rfl⟩, Sub.refl _⟩ ⟨rfl, trivial⟩ (Sub.refl _)
                  · refine AO.weak (ρ' := [(1, (eI64 p1))]) (H' := [(n3, (.mem (e50 p0)))]) ⟨rfl, trivial⟩ (Sub.refl _) ?_
                    refine AO.calm rfl 19 rfl (by decide) (eI64 p1) (Calm.move rfl rfl) ?_
                    exact AO.nilE (ρ' := [(19, (eI64 p1))]) (H' := [(n3, (.mem (e50 p0)))]) ⟨⟨_, rfl, rfl⟩, Sub.refl _⟩ ⟨rfl, trivial⟩ (Sub.refl _)
                  · refine AO.weak (ρ' := [(18, (e50 p0)), (19, (eI64 p1))]) (H' := [(n3, (.mem (e50 p0)))]) ⟨rfl, rfl, trivial⟩ (Sub.refl _) ?_
                    refine AO.callS [(e50 p0), (eI64 p1)] (.fz 1 (t15.map eBool)) 20 rfl (by decide) ok36 rfl rfl rfl ⟨rfl, rfl, rfl, rfl, trivial⟩ (bosketref08_Reached_spec et15) ?_
                    exact AO.nilE (ρ' := [(20, (.fz 1 (t15.map eBool)))]) (H' := [(n3, (.mem (e50 p0)))]) ⟨⟨_, rfl, rfl⟩, Sub.refl _⟩ ⟨rfl, trivial⟩ (Sub.refl _)
                  · refine AO.weak (ρ' := [(17, (.fz 1 (t14.map eBool))), (20, (.fz 1 (t15.map eBool)))]) (H' := [(n3, (.mem (e50 p0)))]) ⟨rfl, rfl, trivial⟩ (Sub.refl _) ?_
                    refine AO.callS [(.fz 1 (t14.map eBool)), (.fz 1 (t15.map eBool))] (eBool t16) 21 rfl (by decide) ok14 rfl rfl rfl ⟨rfl, rfl, rfl, rfl, trivial⟩ (bosketref06_Same_spec et16) ?_
                    exact AO.nilE (ρ' := [(21, (eBool t16))]) (H' := [(n3, (.mem (e50 p0)))]) ⟨⟨_, rfl, rfl⟩, Sub.refl _⟩ ⟨rfl, trivial⟩ (Sub.refl _)
                  · refine AO.weak (ρ' := [(21, (eBool t16))]) (H' := [(n3, (.mem (e50 p0)))]) ⟨rfl, trivial⟩ (Sub.refl _) ?_
                    refine AO.calm rfl 22 rfl (by decide) (eBool t16) (Calm.move rfl rfl) ?_
                    exact AO.nilE (ρ' := [(22, (eBool t16))]) (H' := [(n3, (.mem (e50 p0)))]) ⟨⟨_, rfl, rfl⟩, Sub.refl _⟩ ⟨rfl, trivial⟩ (Sub.refl _)
                  · refine AO.weak (ρ' := [(2, (.ptr n3 0)), (22, (eBool t16))]) (H' := [(n3, (.mem (e50 p0)))]) ⟨rfl, rfl, trivial⟩ (Sub.refl _) ?_
                    refine AO.calmG 7 true 22 rfl rfl (congrArg (fun b => some (AV.fl (Value.bool b))) hc17) 23 rfl (by decide) (e50 p0) (Calm.load 0 rfl rfl rfl (At.cast At.here rfl) ag50 sz50) ?_
                    exact AO.nilE (ρ' := [(23, (e50 p0))]) (H' := [(n3, (.mem (e50 p0)))]) ⟨⟨_, rfl, rfl⟩, Sub.refl _⟩ ⟨rfl, trivial⟩ (Sub.refl _)
                  · refine AO.weak (ρ' := [(22, (eBool t16)), (23, (e50 p0))]) (H' := [(n3, (.mem (e50 p0)))]) ⟨rfl, rfl, trivial⟩ (Sub.refl _) ?_
                    refine AO.callG 7 true 22 [(e50 p0)] (.fz 1 (t18.map eBool)) 24 rfl (by decide) ok37 rfl rfl (congrArg (fun b => some (AV.fl (Value.bool b))) hc17) rfl rfl ⟨rfl, rfl, trivial⟩ (dfa_Alive_spec et18) ?_
                    exact AO.nilE (ρ' := [(24, (.fz 1 (t18.map eBool)))]) (H' := [(n3, (.mem (e50 p0)))]) ⟨⟨_, rfl, rfl⟩, Sub.refl _⟩ ⟨rfl, trivial⟩ (Sub.refl _)
                  · refine AO.weak (ρ' := [(2, (.ptr n3 0)), (22, (eBool t16))]) (H' := [(n3, (.mem (e50 p0)))]) ⟨rfl, rfl, trivial⟩ (Sub.refl _) ?_
                    refine AO.calmG 7 true 22 rfl rfl (congrArg (fun b => some (AV.fl (Value.bool b))) hc17) 25 rfl (by decide) (e50 p0) (Calm.load 0 rfl rfl rfl (At.cast At.here rfl) ag50 sz50) ?_
                    exact AO.nilE (ρ' := [(25, (e50 p0))]) (H' := [(n3, (.mem (e50 p0)))]) ⟨⟨_, rfl, rfl⟩, Sub.refl _⟩ ⟨rfl, trivial⟩ (Sub.refl _)
                  · refine AO.weak (ρ' := [(22, (eBool t16)), (25, (e50 p0))]) (H' := [(n3, (.mem (e50 p0)))]) ⟨rfl, rfl, trivial⟩ (Sub.refl _) ?_
                    refine AO.callG 7 true 22 [(e50 p0)] (.fz 1 (t19.map eBool)) 26 rfl (by decide) ok38 rfl rfl (congrArg (fun b => some (AV.fl (Value.bool b))) hc17) rfl rfl ⟨rfl, rfl, trivial⟩ (bosketref08_Alive_spec et19) ?_
                    exact AO.nilE (ρ' := [(26, (.fz 1 (t19.map eBool)))]) (H' := [(n3, (.mem (e50 p0)))]) ⟨⟨_, rfl, rfl⟩, Sub.refl _⟩ ⟨rfl, trivial⟩ (Sub.refl _)
                  · refine AO.weak (ρ' := [(22, (eBool t16)), (24, (.fz 1 (t18.map eBool))), (26, (.fz 1 (t19.map eBool)))]) (H' := [(n3, (.mem (e50 p0)))]) ⟨rfl, rfl, rfl, trivial⟩ (Sub.refl _) ?_
                    refine AO.callG 7 true 22 [(.fz 1 (t18.map eBool)), (.fz 1 (t19.map eBool))] (eBool t20) 27 rfl (by decide) ok14 rfl rfl (congrArg (fun b => some (AV.fl (Value.bool b))) hc17) rfl rfl ⟨rfl, rfl, rfl, rfl, trivial⟩ (bosketref06_Same_spec et20) ?_
                    exact AO.nilE (ρ' := [(27, (eBool t20))]) (H' := [(n3, (.mem (e50 p0)))]) ⟨⟨_, rfl, rfl⟩, Sub.refl _⟩ ⟨rfl, trivial⟩ (Sub.refl _)
                  · refine AO.weak (ρ' := [(22, (eBool t16)), (27, (eBool t20))]) (H' := [(n3, (.mem (e50 p0)))]) ⟨rfl, rfl, trivial⟩ (Sub.refl _) ?_
                    refine AO.calm rfl 28 rfl (by decide) (eBool t20) (Calm.pickT rfl (congrArg (fun b => some (AV.fl (Value.bool b))) hc17) rfl) ?_
                    exact AO.nilE (ρ' := [(28, (eBool t20))]) (H' := [(n3, (.mem (e50 p0)))]) ⟨⟨_, rfl, rfl⟩, Sub.refl _⟩ ⟨rfl, trivial⟩ (Sub.refl _)
                  · refine AO.weak (ρ' := [(28, (eBool t20))]) (H' := [(n3, (.mem (e50 p0)))]) ⟨rfl, trivial⟩ (Sub.refl _) ?_
                    refine AO.calm rfl 29 rfl (by decide) (eBool t20) (Calm.move rfl rfl) ?_
                    exact AO.nilE (ρ' := [(29, (eBool t20))]) (H' := [(n3, (.mem (e50 p0)))]) ⟨⟨_, rfl, rfl⟩, Sub.refl _⟩ ⟨rfl, trivial⟩ (Sub.refl _)
                  · refine AO.weak (ρ' := [(2, (.ptr n3 0)), (29, (eBool t20))]) (H' := [(n3, (.mem (e50 p0)))]) ⟨rfl, rfl, trivial⟩ (Sub.refl _) ?_
                    refine AO.calmG 14 true 29 rfl rfl (congrArg (fun b => some (AV.fl (Value.bool b))) hc21) 30 rfl (by decide) (e50 p0) (Calm.load 0 rfl rfl rfl (At.cast At.here rfl) ag50 sz50) ?_
                    exact AO.nilE (ρ' := [(30, (e50 p0))]) (H' := [(n3, (.mem (e50 p0)))]) ⟨⟨_, rfl, rfl⟩, Sub.refl _⟩ ⟨rfl, trivial⟩ (Sub.refl _)
                  · refine AO.weak (ρ' := [(29, (eBool t20)), (30, (e50 p0))]) (H' := [(n3, (.mem (e50 p0)))]) ⟨rfl, rfl, trivial⟩ (Sub.refl _) ?_
                    refine AO.callG 14 true 29 [(e50 p0)] (e50 t22) 31 rfl (by decide) ok26 rfl rfl (congrArg (fun b => some (AV.fl (Value.bool b))) hc21) rfl rfl ⟨rfl, rfl, trivial⟩ (dfa_Trim_spec et22) ?_
                    exact AO.nilE (ρ' := [(31, (e50 t22))]) (H' := [(n3, (.mem (e50 p0)))]) ⟨⟨_, rfl, rfl⟩, Sub.refl _⟩ ⟨rfl, trivial⟩ (Sub.refl _)
                  · refine AO.weak (ρ' := [(2, (.ptr n3 0)), (29, (eBool t20))]) (H' := [(n3, (.mem (e50 p0)))]) ⟨rfl, rfl, trivial⟩ (Sub.refl _) ?_
                    refine AO.calmG 14 true 29 rfl rfl (congrArg (fun b => some (AV.fl (Value.bool b))) hc21) 32 rfl (by decide) (e50 p0) (Calm.load 0 rfl rfl rfl (At.cast At.here rfl) ag50 sz50) ?_
                    exact AO.nilE (ρ' := [(32, (e50 p0))]) (H' := [(n3, (.mem (e50 p0)))]) ⟨⟨_, rfl, rfl⟩, Sub.refl _⟩ ⟨rfl, trivial⟩ (Sub.refl _)
                  · refine AO.weak (ρ' := [(29, (eBool t20)), (32, (e50 p0))]) (H' := [(n3, (.mem (e50 p0)))]) ⟨rfl, rfl, trivial⟩ (Sub.refl _) ?_
                    refine AO.callG 14 true 29 [(e50 p0)] (e50 t23) 33 rfl (by decide) ok28 rfl rfl (congrArg (fun b => some (AV.fl (Value.bool b))) hc21) rfl rfl ⟨rfl, rfl, trivial⟩ (bosketref08_Trim_spec et23) ?_
                    exact AO.nilE (ρ' := [(33, (e50 t23))]) (H' := [(n3, (.mem (e50 p0)))]) ⟨⟨_, rfl, rfl⟩, Sub.refl _⟩ ⟨rfl, trivial⟩ (Sub.refl _)
                  · refine AO.weak (ρ' := [(29, (eBool t20)), (31, (e50 t22)), (33, (e50 t23))]) (H' := [(n3, (.mem (e50 p0)))]) ⟨rfl, rfl, rfl, trivial⟩ (Sub.refl _) ?_
                    refine AO.callG 14 true 29 [(e50 t22), (e50 t23)] (eBool t24) 34 rfl (by decide) ok29 rfl rfl (congrArg (fun b => some (AV.fl (Value.bool b))) hc21) rfl rfl ⟨rfl, rfl, rfl, rfl, trivial⟩ (dfa_Same_spec et24) ?_
                    exact AO.nilE (ρ' := [(34, (eBool t24))]) (H' := [(n3, (.mem (e50 p0)))]) ⟨⟨_, rfl, rfl⟩, Sub.refl _⟩ ⟨rfl, trivial⟩ (Sub.refl _)
                  · refine AO.weak (ρ' := [(29, (eBool t20)), (34, (eBool t24))]) (H' := [(n3, (.mem (e50 p0)))]) ⟨rfl, rfl, trivial⟩ (Sub.refl _) ?_
                    refine AO.calm rfl 35 rfl (by decide) (eBool t24) (Calm.pickT rfl (congrArg (fun b => some (AV.fl (Value.bool b))) hc21) rfl) ?_
                    exact AO.nilE (ρ' := [(35, (eBool t24))]) (H' := [(n3, (.mem (e50 p0)))]) ⟨⟨_, rfl, rfl⟩, Sub.refl _⟩ ⟨rfl, trivial⟩ (Sub.refl _)
                  · refine AO.weak (ρ' := [(35, (eBool t24))]) (H' := [(n3, (.mem (e50 p0)))]) ⟨rfl, trivial⟩ (Sub.refl _) ?_
                    refine AO.calm rfl 36 rfl (by decide) (eBool t24) (Calm.move rfl rfl) ?_
                    exact AO.nilE (ρ' := [(36, (eBool t24))]) (H' := [(n3, (.mem (e50 p0)))]) ⟨⟨_, rfl, rfl⟩, Sub.refl _⟩ ⟨rfl, trivial⟩ (Sub.refl _)
                  · refine AO.weak (ρ' := [(2, (.ptr n3 0)), (36, (eBool t24))]) (H' := [(n3, (.mem (e50 p0)))]) ⟨rfl, rfl, trivial⟩ (Sub.refl _) ?_
                    refine AO.calmG 21 true 36 rfl rfl (congrArg (fun b => some (AV.fl (Value.bool b))) hc25) 37 rfl (by decide) (e50 p0) (Calm.load 0 rfl rfl rfl (At.cast At.here rfl) ag50 sz50) ?_
                    exact AO.nilE (ρ' := [(37, (e50 p0))]) (H' := [(n3, (.mem (e50 p0)))]) ⟨⟨_, rfl, rfl⟩, Sub.refl _⟩ ⟨rfl, trivial⟩ (Sub.refl _)
                  · refine AO.weak (ρ' := [(36, (eBool t24)), (37, (e50 p0))]) (H' := [(n3, (.mem (e50 p0)))]) ⟨rfl, rfl, trivial⟩ (Sub.refl _) ?_
                    refine AO.callG 21 true 36 [(e50 p0)] (e50 t26) 38 rfl (by decide) ok25 rfl rfl (congrArg (fun b => some (AV.fl (Value.bool b))) hc25) rfl rfl ⟨rfl, rfl, trivial⟩ (dfa_Order_spec et26) ?_
                    exact AO.nilE (ρ' := [(38, (e50 t26))]) (H' := [(n3, (.mem (e50 p0)))]) ⟨⟨_, rfl, rfl⟩, Sub.refl _⟩ ⟨rfl, trivial⟩ (Sub.refl _)
                  · refine AO.weak (ρ' := [(2, (.ptr n3 0)), (36, (eBool t24))]) (H' := [(n3, (.mem (e50 p0)))]) ⟨rfl, rfl, trivial⟩ (Sub.refl _) ?_
                    refine AO.calmG 21 true 36 rfl rfl (congrArg (fun b => some (AV.fl (Value.bool b))) hc25) 39 rfl (by decide) (e50 p0) (Calm.load 0 rfl rfl rfl (At.cast At.here rfl) ag50 sz50) ?_
                    exact AO.nilE (ρ' := [(39, (e50 p0))]) (H' := [(n3, (.mem (e50 p0)))]) ⟨⟨_, rfl, rfl⟩, Sub.refl _⟩ ⟨rfl, trivial⟩ (Sub.refl _)
                  · refine AO.weak (ρ' := [(36, (eBool t24)), (39, (e50 p0))]) (H' := [(n3, (.mem (e50 p0)))]) ⟨rfl, rfl, trivial⟩ (Sub.refl _) ?_
                    refine AO.callG 21 true 36 [(e50 p0)] (e50 t27) 40 rfl (by decide) ok39 rfl rfl (congrArg (fun b => some (AV.fl (Value.bool b))) hc25) rfl rfl ⟨rfl, rfl, trivial⟩ (bosketref08_Order_spec et27) ?_
                    exact AO.nilE (ρ' := [(40, (e50 t27))]) (H' := [(n3, (.mem (e50 p0)))]) ⟨⟨_, rfl, rfl⟩, Sub.refl _⟩ ⟨rfl, trivial⟩ (Sub.refl _)
                  · refine AO.weak (ρ' := [(36, (eBool t24)), (38, (e50 t26)), (40, (e50 t27))]) (H' := [(n3, (.mem (e50 p0)))]) ⟨rfl, rfl, rfl, trivial⟩ (Sub.refl _) ?_
                    refine AO.callG 21 true 36 [(e50 t26), (e50 t27)] (eBool t28) 41 rfl (by decide) ok29 rfl rfl (congrArg (fun b => some (AV.fl (Value.bool b))) hc25) rfl rfl ⟨rfl, rfl, rfl, rfl, trivial⟩ (dfa_Same_spec et28) ?_
                    exact AO.nilE (ρ' := [(41, (eBool t28))]) (H' := [(n3, (.mem (e50 p0)))]) ⟨⟨_, rfl, rfl⟩, Sub.refl _⟩ ⟨rfl, trivial⟩ (Sub.refl _)
                  · refine AO.weak (ρ' := [(36, (eBool t24)), (41, (eBool t28))]) (H' := [(n3, (.mem (e50 p0)))]) ⟨rfl, rfl, trivial⟩ (Sub.refl _) ?_
                    refine AO.calm rfl 42 rfl (by decide) (eBool t28) (Calm.pickT rfl (congrArg (fun b => some (AV.fl (Value.bool b))) hc25) rfl) ?_
                    exact AO.nilE (ρ' := [(42, (eBool t28))]) (H' := [(n3, (.mem (e50 p0)))]) ⟨⟨_, rfl, rfl⟩, Sub.refl _⟩ ⟨rfl, trivial⟩ (Sub.refl _)
                  · refine AO.weak (ρ' := [(42, (eBool t28))]) (H' := [(n3, (.mem (e50 p0)))]) ⟨rfl, trivial⟩ (Sub.refl _) ?_
                    refine AO.calm rfl 4 rfl (by decide) (eBool t28) (Calm.assign rfl rfl) ?_
                    exact AO.nilE (ρ' := [(4, (eBool t28))]) (H' := [(n3, (.mem (e50 p0)))]) ⟨⟨_, rfl, rfl⟩, Sub.refl _⟩ ⟨rfl, trivial⟩ (Sub.refl _)
                · cases hq13
                  exact ⟨rfl, rfl, rfl⟩
              · have hq13 := (if_neg hc25).symm.trans hq13
                refine AW.regAny (by rfl) (by decide +kernel) [(e50 p0), (eI64 p1), (.fz 1 (t14.map eBool)), (e50 p0), (eI64 p1), (.fz 1 (t15.map eBool)), (eBool t16), (eBool t16), (e50 p0), (.fz 1 (t18.map eBool)), (e50 p0), (.fz 1 (t19.map eBool)), (eBool t20), (eBool t20), (eBool t20), (e50 p0), (e50 t22), (e50 p0), (e50 t23), (eBool t24), (eBool t24), (eBool t24), (.fl undef), (.fl undef), (.fl undef), (.fl undef), (.fl undef), (eBool false), (eBool false)] [(1, (eI64 p1)), (2, (.ptr n3 0))] ⟨rfl, rfl, trivial⟩ rfl ?_ [(4, (eBool false))] [] ⟨rfl, trivial⟩ (Sub.nil _) ?_
                · refine ⟨?_, ?_, ?_, ?_, ?_, ?_, ?_, ?_, ?_, ?_, ?_, ?_, ?_, ?_, ?_, ?_, ?_, ?_, ?_, ?_, ?_, ?_, ?_, ?_, ?_, ?_, ?_, ?_, ?_, trivial⟩
                  · refine AO.weak (ρ' := [(2, (.ptr n3 0))]) (H' := [(n3, (.mem (e50 p0)))]) ⟨rfl, trivial⟩ (Sub.refl _) ?_
                    refine AO.calm rfl 15 rfl (by decide) (e50 p0) (Calm.load 0 rfl rfl rfl (At.cast At.here rfl) ag50 sz50) ?_
                    exact AO.nilE (ρ' := [(15, (e50 p0))]) (H' := [(n3, (.mem (e50 p0)))]) ⟨⟨_, rfl, rfl⟩, Sub.refl _⟩ ⟨rfl, trivial⟩ (Sub.refl _)
                  · refine AO.weak (ρ' := [(1, (eI64 p1))]) (H' := [(n3, (.mem (e50 p0)))]) ⟨rfl, trivial⟩ (Sub.refl _) ?_
                    refine AO.calm rfl 16 rfl (by decide) (eI64 p1) (Calm.move rfl rfl) ?_
                    exact AO.nilE (ρ' := [(16, (eI64 p1))]) (H' := [(n3, (.mem (e50 p0)))]) ⟨⟨_, rfl, rfl⟩, Sub.refl _⟩ ⟨rfl, trivial⟩ (Sub.refl _)
                  · refine AO.weak (ρ' := [(15, (e50 p0)), (16, (eI64 p1))]) (H' := [(n3, (.mem (e50 p0)))]) ⟨rfl, rfl, trivial⟩ (Sub.refl _) ?_
                    refine AO.callS [(e50 p0), (eI64 p1)] (.fz 1 (t14.map eBool)) 17 rfl (by decide) ok35 rfl rfl rfl ⟨rfl, rfl, rfl, rfl, trivial⟩ (dfa_Reached_spec et14) ?_
                    exact AO.nilE (ρ' := [(17, (.fz 1 (t14.map eBool)))]) (H' := [(n3, (.mem (e50 p0)))]) ⟨⟨_, rfl, rfl⟩, Sub.refl _⟩ ⟨rfl, trivial⟩ (Sub.refl _)
                  · refine AO.weak (ρ' := [(2, (.ptr n3 0))]) (H' := [(n3, (.mem (e50 p0)))]) ⟨rfl, trivial⟩ (Sub.refl _) ?_
                    refine AO.calm rfl 18 rfl (by decide) (e50 p0) (Calm.load 0 rfl rfl rfl (At.cast At.here rfl) ag50 sz50) ?_
                    exact AO.nilE (ρ' := [(18, (e50 p0))]) (H' := [(n3, (.mem (e50 p0)))]) ⟨⟨_, rfl, rfl⟩, Sub.refl _⟩ ⟨rfl, trivial⟩ (Sub.refl _)
                  · refine AO.weak (ρ' := [(1, (eI64 p1))]) (H' := [(n3, (.mem (e50 p0)))]) ⟨rfl, trivial⟩ (Sub.refl _) ?_
                    refine AO.calm rfl 19 rfl (by decide) (eI64 p1) (Calm.move rfl rfl) ?_
                    exact AO.nilE (ρ' := [(19, (eI64 p1))]) (H' := [(n3, (.mem (e50 p0)))]) ⟨⟨_, rfl, rfl⟩, Sub.refl _⟩ ⟨rfl, trivial⟩ (Sub.refl _)
                  · refine AO.weak (ρ' := [(18, (e50 p0)), (19, (eI64 p1))]) (H' := [(n3, (.mem (e50 p0)))]) ⟨rfl, rfl, trivial⟩ (Sub.refl _) ?_
                    refine AO.callS [(e50 p0), (eI64 p1)] (.fz 1 (t15.map eBool)) 20 rfl (by decide) ok36 rfl rfl rfl ⟨rfl, rfl, rfl, rfl, trivial⟩ (bosketref08_Reached_spec et15) ?_
                    exact AO.nilE (ρ' := [(20, (.fz 1 (t15.map eBool)))]) (H' := [(n3, (.mem (e50 p0)))]) ⟨⟨_, rfl, rfl⟩, Sub.refl _⟩ ⟨rfl, trivial⟩ (Sub.refl _)
                  · refine AO.weak (ρ' := [(17, (.fz 1 (t14.map eBool))), (20, (.fz 1 (t15.map eBool)))]) (H' := [(n3, (.mem (e50 p0)))]) ⟨rfl, rfl, trivial⟩ (Sub.refl _) ?_
                    refine AO.callS [(.fz 1 (t14.map eBool)), (.fz 1 (t15.map eBool))] (eBool t16) 21 rfl (by decide) ok14 rfl rfl rfl ⟨rfl, rfl, rfl, rfl, trivial⟩ (bosketref06_Same_spec et16) ?_
                    exact AO.nilE (ρ' := [(21, (eBool t16))]) (H' := [(n3, (.mem (e50 p0)))]) ⟨⟨_, rfl, rfl⟩, Sub.refl _⟩ ⟨rfl, trivial⟩ (Sub.refl _)
                  · refine AO.weak (ρ' := [(21, (eBool t16))]) (H' := [(n3, (.mem (e50 p0)))]) ⟨rfl, trivial⟩ (Sub.refl _) ?_
                    refine AO.calm rfl 22 rfl (by decide) (eBool t16) (Calm.move rfl rfl) ?_
                    exact AO.nilE (ρ' := [(22, (eBool t16))]) (H' := [(n3, (.mem (e50 p0)))]) ⟨⟨_, rfl, rfl⟩, Sub.refl _⟩ ⟨rfl, trivial⟩ (Sub.refl _)
                  · refine AO.weak (ρ' := [(2, (.ptr n3 0)), (22, (eBool t16))]) (H' := [(n3, (.mem (e50 p0)))]) ⟨rfl, rfl, trivial⟩ (Sub.refl _) ?_
                    refine AO.calmG 7 true 22 rfl rfl (congrArg (fun b => some (AV.fl (Value.bool b))) hc17) 23 rfl (by decide) (e50 p0) (Calm.load 0 rfl rfl rfl (At.cast At.here rfl) ag50 sz50) ?_
                    exact AO.nilE (ρ' := [(23, (e50 p0))]) (H' := [(n3, (.mem (e50 p0)))]) ⟨⟨_, rfl, rfl⟩, Sub.refl _⟩ ⟨rfl, trivial⟩ (Sub.refl _)
                  · refine AO.weak (ρ' := [(22, (eBool t16)), (23, (e50 p0))]) (H' := [(n3, (.mem (e50 p0)))]) ⟨rfl, rfl, trivial⟩ (Sub.refl _) ?_
                    refine AO.callG 7 true 22 [(e50 p0)] (.fz 1 (t18.map eBool)) 24 rfl (by decide) ok37 rfl rfl (congrArg (fun b => some (AV.fl (Value.bool b))) hc17) rfl rfl ⟨rfl, rfl, trivial⟩ (dfa_Alive_spec et18) ?_
                    exact AO.nilE (ρ' := [(24, (.fz 1 (t18.map eBool)))]) (H' := [(n3, (.mem (e50 p0)))]) ⟨⟨_, rfl, rfl⟩, Sub.refl _⟩ ⟨rfl, trivial⟩ (Sub.refl _)
                  · refine AO.weak (ρ' := [(2, (.ptr n3 0)), (22, (eBool t16))]) (H' := [(n3, (.mem (e50 p0)))]) ⟨rfl, rfl, trivial⟩ (Sub.refl _) ?_
                    refine AO.calmG 7 true 22 rfl rfl (congrArg (fun b => some (AV.fl (Value.bool b))) hc17) 25 rfl (by decide) (e50 p0) (Calm.load 0 rfl rfl rfl (At.cast At.here rfl) ag50 sz50) ?_
                    exact AO.nilE (ρ' := [(25, (e50 p0))]) (H' := [(n3, (.mem (e50 p0)))]) ⟨⟨_, rfl, rfl⟩, Sub.refl _⟩ ⟨rfl, trivial⟩ (Sub.refl _)
                  · refine AO.weak (ρ' := [(22, (eBool t16)), (25, (e50 p0))]) (H' := [(n3, (.mem (e50 p0)))]) ⟨rfl, rfl, trivial⟩ (Sub.refl _) ?_
                    refine AO.callG 7 true 22 [(e50 p0)] (.fz 1 (t19.map eBool)) 26 rfl (by decide) ok38 rfl rfl (congrArg (fun b => some (AV.fl (Value.bool b))) hc17) rfl rfl ⟨rfl, rfl, trivial⟩ (bosketref08_Alive_spec et19) ?_
                    exact AO.nilE (ρ' := [(26, (.fz 1 (t19.map eBool)))]) (H' := [(n3, (.mem (e50 p0)))]) ⟨⟨_, rfl, rfl⟩, Sub.refl _⟩ ⟨rfl, trivial⟩ (Sub.refl _)
                  · refine AO.weak (ρ' := [(22, (eBool t16)), (24, (.fz 1 (t18.map eBool))), (26, (.fz 1 (t19.map eBool)))]) (H' := [(n3, (.mem (e50 p0)))]) ⟨rfl, rfl, rfl, trivial⟩ (Sub.refl _) ?_
                    refine AO.callG 7 true 22 [(.fz 1 (t18.map eBool)), (.fz 1 (t19.map eBool))] (eBool t20) 27 rfl (by decide) ok14 rfl rfl (congrArg (fun b => some (AV.fl (Value.bool b))) hc17) rfl rfl ⟨rfl, rfl, rfl, rfl, trivial⟩ (bosketref06_Same_spec et20) ?_
                    exact AO.nilE (ρ' := [(27, (eBool t20))]) (H' := [(n3, (.mem (e50 p0)))]) ⟨⟨_, rfl, rfl⟩, Sub.refl _⟩ ⟨rfl, trivial⟩ (Sub.refl _)
                  · refine AO.weak (ρ' := [(22, (eBool t16)), (27, (eBool t20))]) (H' := [(n3, (.mem (e50 p0)))]) ⟨rfl, rfl, trivial⟩ (Sub.refl _) ?_
                    refine AO.calm rfl 28 rfl (by decide) (eBool t20) (Calm.pickT rfl (congrArg (fun b => some (AV.fl (Value.bool b))) hc17) rfl) ?_
                    exact AO.nilE (ρ' := [(28, (eBool t20))]) (H' := [(n3, (.mem (e50 p0)))]) ⟨⟨_, rfl, rfl⟩, Sub.refl _⟩ ⟨rfl, trivial⟩ (Sub.refl _)
                  · refine AO.weak (ρ' := [(28, (eBool t20))]) (H' := [(n3, (.mem (e50 p0)))]) ⟨rfl, trivial⟩ (Sub.refl _) ?_
                    refine AO.calm rfl 29 rfl (by decide) (eBool t20) (Calm.move rfl rfl) ?_
                    exact AO.nilE (ρ' := [(29, (eBool t20))]) (H' := [(n3, (.mem (e50 p0)))]) ⟨⟨_, rfl, rfl⟩, Sub.refl _⟩ ⟨rfl, trivial⟩ (Sub.refl _)
                  · refine AO.weak (ρ' := [(2, (.ptr n3 0)), (29, (eBool t20))]) (H' := [(n3, (.mem (e50 p0)))]) ⟨rfl, rfl, trivial⟩ (Sub.refl _) ?_
                    refine AO.calmG 14 true 29 rfl rfl (congrArg (fun b => some (AV.fl (Value.bool b))) hc21) 30 rfl (by decide) (e50 p0) (Calm.load 0 rfl rfl rfl (At.cast At.here rfl) ag50 sz50) ?_
                    exact AO.nilE (ρ' := [(30, (e50 p0))]) (H' := [(n3, (.mem (e50 p0)))]) ⟨⟨_, rfl, rfl⟩, Sub.refl _⟩ ⟨rfl, trivial⟩ (Sub.refl _)
                  · refine AO.weak (ρ' := [(29, (eBool t20)), (30, (e50 p0))]) (H' := [(n3, (.mem (e50 p0)))]) ⟨rfl, rfl, trivial⟩ (Sub.refl _) ?_
                    refine AO.callG 14 true 29 [(e50 p0)] (e50 t22) 31 rfl (by decide) ok26 rfl rfl (congrArg (fun b => some (AV.fl (Value.bool b))) hc21) rfl rfl ⟨rfl, rfl, trivial⟩ (dfa_Trim_spec et22) ?_
                    exact AO.nilE (ρ' := [(31, (e50 t22))]) (H' := [(n3, (.mem (e50 p0)))]) ⟨⟨_, rfl, rfl⟩, Sub.refl _⟩ ⟨rfl, trivial⟩ (Sub.refl _)
                  · refine AO.weak (ρ' := [(2, (.ptr n3 0)), (29, (eBool t20))]) (H' := [(n3, (.mem (e50 p0)))]) ⟨rfl, rfl, trivial⟩ (Sub.refl _) ?_
                    refine AO.calmG 14 true 29 rfl rfl (congrArg (fun b => some (AV.fl (Value.bool b))) hc21) 32 rfl (by decide) (e50 p0) (Calm.load 0 rfl rfl rfl (At.cast At.here rfl) ag50 sz50) ?_
                    exact AO.nilE (ρ' := [(32, (e50 p0))]) (H' := [(n3, (.mem (e50 p0)))]) ⟨⟨_, rfl, rfl⟩, Sub.refl _⟩ ⟨rfl, trivial⟩ (Sub.refl _)
                  · refine AO.weak (ρ' := [(29, (eBool t20)), (32, (e50 p0))]) (H' := [(n3, (.mem (e50 p0)))]) ⟨rfl, rfl, trivial⟩ (Sub.refl _) ?_
                    refine AO.callG 14 true 29 [(e50 p0)] (e50 t23) 33 rfl (by decide) ok28 rfl rfl (congrArg (fun b => some (AV.fl (Value.bool b))) hc21) rfl rfl ⟨rfl, rfl, trivial⟩ (bosketref08_Trim_spec et23) ?_
                    exact AO.nilE (ρ' := [(33, (e50 t23))]) (H' := [(n3, (.mem (e50 p0)))]) ⟨⟨_, rfl, rfl⟩, Sub.refl _⟩ ⟨rfl, trivial⟩ (Sub.refl _)
                  · refine AO.weak (ρ' := [(29, (eBool t20)), (31, (e50 t22)), (33, (e50 t23))]) (H' := [(n3, (.mem (e50 p0)))]) ⟨rfl, rfl, rfl, trivial⟩ (Sub.refl _) ?_
                    refine AO.callG 14 true 29 [(e50 t22), (e50 t23)] (eBool t24) 34 rfl (by decide) ok29 rfl rfl (congrArg (fun b => some (AV.fl (Value.bool b))) hc21) rfl rfl ⟨rfl, rfl, rfl, rfl, trivial⟩ (dfa_Same_spec et24) ?_
                    exact AO.nilE (ρ' := [(34, (eBool t24))]) (H' := [(n3, (.mem (e50 p0)))]) ⟨⟨_, rfl, rfl⟩, Sub.refl _⟩ ⟨rfl, trivial⟩ (Sub.refl _)
                  · refine AO.weak (ρ' := [(29, (eBool t20)), (34, (eBool t24))]) (H' := [(n3, (.mem (e50 p0)))]) ⟨rfl, rfl, trivial⟩ (Sub.refl _) ?_
                    refine AO.calm rfl 35 rfl (by decide) (eBool t24) (Calm.pickT rfl (congrArg (fun b => some (AV.fl (Value.bool b))) hc21) rfl) ?_
                    exact AO.nilE (ρ' := [(35, (eBool t24))]) (H' := [(n3, (.mem (e50 p0)))]) ⟨⟨_, rfl, rfl⟩, Sub.refl _⟩ ⟨rfl, trivial⟩ (Sub.refl _)
                  · refine AO.weak (ρ' := [(35, (eBool t24))]) (H' := [(n3, (.mem (e50 p0)))]) ⟨rfl, trivial⟩ (Sub.refl _) ?_
                    refine AO.calm rfl 36 rfl (by decide) (eBool t24) (Calm.move rfl rfl) ?_
                    exact AO.nilE (ρ' := [(36, (eBool t24))]) (H' := [(n3, (.mem (e50 p0)))]) ⟨⟨_, rfl, rfl⟩, Sub.refl _⟩ ⟨rfl, trivial⟩ (Sub.refl _)
                  · refine AO.weak (ρ' := [(36, (eBool t24))]) (H' := [(n3, (.mem (e50 p0)))]) ⟨rfl, trivial⟩ (Sub.refl _) ?_
                    refine AO.skipG 21 false 36 rfl rfl (congrArg (fun b => some (AV.fl (Value.bool b))) (eq_false_of_ne_true hc25)) 37 rfl (by decide) ?_
                    exact AO.nilE (ρ' := [(37, (.fl undef))]) (H' := [(n3, (.mem (e50 p0)))]) ⟨⟨_, rfl, rfl⟩, Sub.refl _⟩ ⟨rfl, trivial⟩ (Sub.refl _)
                  · refine AO.weak (ρ' := [(36, (eBool t24))]) (H' := [(n3, (.mem (e50 p0)))]) ⟨rfl, trivial⟩ (Sub.refl _) ?_
                    refine AO.skipG 21 false 36 rfl rfl (congrArg (fun b => some (AV.fl (Value.bool b))) (eq_false_of_ne_true hc25)) 38 rfl (by decide) ?_
                    exact AO.nilE (ρ' := [(38, (.fl undef))]) (H' := [(n3, (.mem (e50 p0)))]) ⟨⟨_, rfl, rfl⟩, Sub.refl _⟩ ⟨rfl, trivial⟩ (Sub.refl _)
                  · refine AO.weak (ρ' := [(36, (eBool t24))]) (H' := [(n3, (.mem (e50 p0)))]) ⟨rfl, trivial⟩ (Sub.refl _) ?_
                    refine AO.skipG 21 false 36 rfl rfl (congrArg (fun b => some (AV.fl (Value.bool b))) (eq_false_of_ne_true hc25)) 39 rfl (by decide) ?_
                    exact AO.nilE (ρ' := [(39, (.fl undef))]) (H' := [(n3, (.mem (e50 p0)))]) ⟨⟨_, rfl, rfl⟩, Sub.refl _⟩ ⟨rfl, trivial⟩ (Sub.refl _)
                  · refine AO.weak (ρ' := [(36, (eBool t24))]) (H' := [(n3, (.mem (e50 p0)))]) ⟨rfl, trivial⟩ (Sub.refl _) ?_
                    refine AO.skipG 21 false 36 rfl rfl (congrArg (fun b => some (AV.fl (Value.bool b))) (eq_false_of_ne_true hc25)) 40 rfl (by decide) ?_
                    exact AO.nilE (ρ' := [(40, (.fl undef))]) (H' := [(n3, (.mem (e50 p0)))]) ⟨⟨_, rfl, rfl⟩, Sub.refl _⟩ ⟨rfl, trivial⟩ (Sub.refl _)
                  · refine AO.weak (ρ' := [(36, (eBool t24))]) (H' := [(n3, (.mem (e50 p0)))]) ⟨rfl, trivial⟩ (Sub.refl _) ?_
                    refine AO.skipG 21 false 36 rfl rfl (congrArg (fun b => some (AV.fl (Value.bool b))) (eq_false_of_ne_true hc25)) 41 rfl (by decide) ?_
                    exact AO.nilE (ρ' := [(41, (.fl undef))]) (H' := [(n3, (.mem (e50 p0)))]) ⟨⟨_, rfl, rfl⟩, Sub.refl _⟩ ⟨rfl, trivial⟩ (Sub.refl _)
                  · refine AO.weak (ρ' := [(36, (eBool t24)), (41, (.fl undef))]) (H' := [(n3, (.mem (e50 p0)))]) ⟨rfl, rfl, trivial⟩ (Sub.refl _) ?_
                    refine AO.calm rfl 42 rfl (by decide) (eBool false) (Calm.pickF rfl (congrArg (fun b => some (AV.fl (Value.bool b))) (eq_false_of_ne_true hc25)) rfl) ?_
                    exact AO.nilE (ρ' := [(42, (eBool false))]) (H' := [(n3, (.mem (e50 p0)))]) ⟨⟨_, rfl, rfl⟩, Sub.refl _⟩ ⟨rfl, trivial⟩ (Sub.refl _)
                  · refine AO.weak (ρ' := [(42, (eBool false))]) (H' := [(n3, (.mem (e50 p0)))]) ⟨rfl, trivial⟩ (Sub.refl _) ?_
                    refine AO.calm rfl 4 rfl (by decide) (eBool false) (Calm.assign rfl rfl) ?_
                    exact AO.nilE (ρ' := [(4, (eBool false))]) (H' := [(n3, (.mem (e50 p0)))]) ⟨⟨_, rfl, rfl⟩, Sub.refl _⟩ ⟨rfl, trivial⟩ (Sub.refl _)
                · cases hq13
                  exact ⟨rfl, rfl, rfl⟩
            · have hq13 := (if_neg hc21).symm.trans hq13
              refine AW.regAny (by rfl) (by decide +kernel) [(e50 p0), (eI64 p1), (.fz 1 (t14.map eBool)), (e50 p0), (eI64 p1), (.fz 1 (t15.map eBool)), (eBool t16), (eBool t16), (e50 p0), (.fz 1 (t18.map eBool)), (e50 p0), (.fz 1 (t19.map eBool)), (eBool t20), (eBool t20), (eBool t20), (.fl undef), (.fl undef), (.fl undef), (.fl undef), (.fl undef), (eBool false), (eBool false), (.fl undef), (.fl undef), (.fl undef), (.fl undef), (.fl undef), (eBool false), (eBool false)] [(1, (eI64 p1)), (2, (.ptr n3 0))] ⟨rfl, rfl, trivial⟩ rfl ?_ [(4, (eBool false))] [] ⟨rfl, trivial⟩ (Sub.nil _) ?_
              · refine ⟨?_, ?_, ?_, ?_, ?_, ?_, ?_, ?_, ?_, ?_, ?_, ?_, ?_, ?_, ?_, ?_, ?_, ?_, ?_, ?_, ?_, ?_, ?_, ?_, ?_, ?_, ?_, ?_, ?_, trivial⟩
                · refine AO.weak (ρ' := [(2, (.ptr n3 0))]) (H' := [(n3, (.mem (e50 p0)))]) ⟨rfl, trivial⟩ (Sub.refl _) ?_
                  refine AO.calm rfl 15 rfl (by decide) (e50 p0) (Calm.load 0 rfl rfl rfl (At.cast At.here rfl) ag50 sz50) ?_
                  exact AO.nilE (ρ' := [(15, (e50 p0))]) (H' := [(n3, (.mem (e50 p0)))]) ⟨⟨_, rfl, rfl⟩, Sub.refl _⟩ ⟨rfl, trivial⟩ (Sub.refl _)
                · refine AO.weak (ρ' := [(1, (eI64 p1))]) (H' := [(n3, (.mem (e50 p0)))]) ⟨rfl, trivial⟩ (Sub.refl _) ?_
                  refine AO.calm rfl 16 rfl (by decide) (eI64 p1) (Calm.move rfl rfl) ?_
                  exact AO.nilE (ρ' := [(16, (eI64 p1))]) (H' := [(n3, (.mem (e50 p0)))]) ⟨⟨_, rfl, rfl⟩, Sub.refl _⟩ ⟨rfl, trivial⟩ (Sub.refl _)
                · refine AO.weak (ρ' := [(15, (e50 p0)), (16, (eI64 p1))]) (H' := [(n3, (.mem (e50 p0)))]) ⟨rfl, rfl, trivial⟩ (Sub.refl _) ?_
                  refine AO.callS [(e50 p0), (eI64 p1)] (.fz 1 (t14.map eBool)) 17 rfl (by decide) ok35 rfl rfl rfl ⟨rfl, rfl, rfl, rfl, trivial⟩ (dfa_Reached_spec et14) ?_
                  exact AO.nilE (ρ' := [(17, (.fz 1 (t14.map eBool)))]) (H' := [(n3, (.mem (e50 p0)))]) ⟨⟨_, rfl, rfl⟩, Sub.refl _⟩ ⟨rfl, trivial⟩ (Sub.refl _)
                · refine AO.weak (ρ' := [(2, (.ptr n3 0))]) (H' := [(n3, (.mem (e50 p0)))]) ⟨rfl, trivial⟩ (Sub.refl _) ?_
                  refine AO.calm rfl 18 rfl (by decide) (e50 p0) (Calm.load 0 rfl rfl rfl (At.cast At.here rfl) ag50 sz50) ?_
                  exact AO.nilE (ρ' := [(18, (e50 p0))]) (H' := [(n3, (.mem (e50 p0)))]) ⟨⟨_, rfl, rfl⟩, Sub.refl _⟩ ⟨rfl, trivial⟩ (Sub.refl _)
                · refine AO.weak (ρ' := [(1, (eI64 p1))]) (H' := [(n3, (.mem (e50 p0)))]) ⟨rfl, trivial⟩ (Sub.refl _) ?_
                  refine AO.calm rfl 19 rfl (by decide) (eI64 p1) (Calm.move rfl rfl) ?_
                  exact AO.nilE (ρ' := [(19, (eI64 p1))]) (H' := [(n3, (.mem (e50 p0)))]) ⟨⟨_, rfl, rfl⟩, Sub.refl _⟩ ⟨rfl, trivial⟩ (Sub.refl _)
                · refine AO.weak (ρ' := [(18, (e50 p0)), (19, (eI64 p1))]) (H' := [(n3, (.mem (e50 p0)))]) ⟨rfl, rfl, trivial⟩ (Sub.refl _) ?_
                  refine AO.callS [(e50 p0), (eI64 p1)] (.fz 1 (t15.map eBool)) 20 rfl (by decide) ok36 rfl rfl rfl ⟨rfl, rfl, rfl, rfl, trivial⟩ (bosketref08_Reached_spec et15) ?_
                  exact AO.nilE (ρ' := [(20, (.fz 1 (t15.map eBool)))]) (H' := [(n3, (.mem (e50 p0)))]) ⟨⟨_, rfl, rfl⟩, Sub.refl _⟩ ⟨rfl, trivial⟩ (Sub.refl _)
                · refine AO.weak (ρ' := [(17, (.fz 1 (t14.map eBool))), (20, (.fz 1 (t15.map eBool)))]) (H' := [(n3, (.mem (e50 p0)))]) ⟨rfl, rfl, trivial⟩ (Sub.refl _) ?_
                  refine AO.callS [(.fz 1 (t14.map eBool)), (.fz 1 (t15.map eBool))] (eBool t16) 21 rfl (by decide) ok14 rfl rfl rfl ⟨rfl, rfl, rfl, rfl, trivial⟩ (bosketref06_Same_spec et16) ?_
                  exact AO.nilE (ρ' := [(21, (eBool t16))]) (H' := [(n3, (.mem (e50 p0)))]) ⟨⟨_, rfl, rfl⟩, Sub.refl _⟩ ⟨rfl, trivial⟩ (Sub.refl _)
                · refine AO.weak (ρ' := [(21, (eBool t16))]) (H' := [(n3, (.mem (e50 p0)))]) ⟨rfl, trivial⟩ (Sub.refl _) ?_
                  refine AO.calm rfl 22 rfl (by decide) (eBool t16) (Calm.move rfl rfl) ?_
                  exact AO.nilE (ρ' := [(22, (eBool t16))]) (H' := [(n3, (.mem (e50 p0)))]) ⟨⟨_, rfl, rfl⟩, Sub.refl _⟩ ⟨rfl, trivial⟩ (Sub.refl _)
                · refine AO.weak (ρ' := [(2, (.ptr n3 0)), (22, (eBool t16))]) (H' := [(n3, (.mem (e50 p0)))]) ⟨rfl, rfl, trivial⟩ (Sub.refl _) ?_
                  refine AO.calmG 7 true 22 rfl rfl (congrArg (fun b => some (AV.fl (Value.bool b))) hc17) 23 rfl (by decide) (e50 p0) (Calm.load 0 rfl rfl rfl (At.cast At.here rfl) ag50 sz50) ?_
                  exact AO.nilE (ρ' := [(23, (e50 p0))]) (H' := [(n3, (.mem (e50 p0)))]) ⟨⟨_, rfl, rfl⟩, Sub.refl _⟩ ⟨rfl, trivial⟩ (Sub.refl _)
                · refine AO.weak (ρ' := [(22, (eBool t16)), (23, (e50 p0))]) (H' := [(n3, (.mem (e50 p0)))]) ⟨rfl, rfl, trivial⟩ (Sub.refl _) ?_
                  refine AO.callG 7 true 22 [(e50 p0)] (.fz 1 (t18.map eBool)) 24 rfl (by decide) ok37 rfl rfl (congrArg (fun b => some (AV.fl (Value.bool b))) hc17) rfl rfl ⟨rfl, rfl, trivial⟩ (dfa_Alive_spec et18) ?_
                  exact AO.nilE (ρ' := [(24, (.fz 1 (t18.map eBool)))]) (H' := [(n3, (.mem (e50 p0)))]) ⟨⟨_, rfl, rfl⟩, Sub.refl _⟩ ⟨rfl, trivial⟩ (Sub.refl _)
                · refine AO.weak (ρ' := [(2, (.ptr n3 0)), (22, (eBool t16))]) (H' := [(n3, (.mem (e50 p0)))]) ⟨rfl, rfl, trivial⟩ (Sub.refl _) ?_
                  refine AO.calmG 7 true 22 rfl rfl (congrArg (fun b => some (AV.fl (Value.bool b))) hc17) 25 rfl (by decide) (e50 p0) (Calm.load 0 rfl rfl rfl (At.cast At.here rfl) ag50 sz50) ?_
                  exact AO.nilE (ρ' := [(25, (e50 p0))]) (H' := [(n3, (.mem (e50 p0)))]) ⟨⟨_, rfl, rfl⟩, Sub.refl _⟩ ⟨rfl, trivial⟩ (Sub.refl _)
                · refine AO.weak (ρ' := [(22, (eBool t16)), (25, (e50 p0))]) (H' := [(n3, (.mem (e50 p0)))]) ⟨rfl, rfl, trivial⟩ (Sub.refl _) ?_
                  refine AO.callG 7 true 22 [(e50 p0)] (.fz 1 (t19.map eBool)) 26 rfl (by decide) ok38 rfl rfl (congrArg (fun b => some (AV.fl (Value.bool b))) hc17) rfl rfl ⟨rfl, rfl, trivial⟩ (bosketref08_Alive_spec et19) ?_
                  exact AO.nilE (ρ' := [(26, (.fz 1 (t19.map eBool)))]) (H' := [(n3, (.mem (e50 p0)))]) ⟨⟨_, rfl, rfl⟩, Sub.refl _⟩ ⟨rfl, trivial⟩ (Sub.refl _)
                · refine AO.weak (ρ' := [(22, (eBool t16)), (24, (.fz 1 (t18.map eBool))), (26, (.fz 1 (t19.map eBool)))]) (H' := [(n3, (.mem (e50 p0)))]) ⟨rfl, rfl, rfl, trivial⟩ (Sub.refl _) ?_
                  refine AO.callG 7 true 22 [(.fz 1 (t18.map eBool)), (.fz 1 (t19.map eBool))] (eBool t20) 27 rfl (by decide) ok14 rfl rfl (congrArg (fun b => some (AV.fl (Value.bool b))) hc17) rfl rfl ⟨rfl, rfl, rfl, rfl, trivial⟩ (bosketref06_Same_spec et20) ?_
                  exact AO.nilE (ρ' := [(27, (eBool t20))]) (H' := [(n3, (.mem (e50 p0)))]) ⟨⟨_, rfl, rfl⟩, Sub.refl _⟩ ⟨rfl, trivial⟩ (Sub.refl _)
                · refine AO.weak (ρ' := [(22, (eBool t16)), (27, (eBool t20))]) (H' := [(n3, (.mem (e50 p0)))]) ⟨rfl, rfl, trivial⟩ (Sub.refl _) ?_
                  refine AO.calm rfl 28 rfl (by decide) (eBool t20) (Calm.pickT rfl (congrArg (fun b => some (AV.fl (Value.bool b))) hc17) rfl) ?_
                  exact AO.nilE (ρ' := [(28, (eBool t20))]) (H' := [(n3, (.mem (e50 p0)))]) ⟨⟨_, rfl, rfl⟩, Sub.refl _⟩ ⟨rfl, trivial⟩ (Sub.refl _)
                · refine AO.weak (ρ' := [(28, (eBool t20))]) (H' := [(n3, (.mem (e50 p0)))]) ⟨rfl, trivial⟩ (Sub.refl _) ?_
                  refine AO.calm rfl 29 rfl (by decide) (eBool t20) (Calm.move rfl rfl) ?_
                  exact AO.nilE (ρ' := [(29, (eBool t20))]) (H' := [(n3, (.mem (e50 p0)))]) ⟨⟨_, rfl, rfl⟩, Sub.refl _⟩ ⟨rfl, trivial⟩ (Sub.refl _)
                · refine AO.weak (ρ' := [(29, (eBool t20))]) (H' := [(n3, (.mem (e50 p0)))]) ⟨rfl, trivial⟩ (Sub.refl _) ?_
                  refine AO.skipG 14 false 29 rfl rfl (congrArg (fun b => some (AV.fl (Value.bool b))) (eq_false_of_ne_true hc21)) 30 rfl (by decide) ?_
                  exact AO.nilE (ρ' := [(30, (.fl undef))]) (H' := [(n3, (.mem (e50 p0)))]) ⟨⟨_, rfl, rfl⟩, Sub.refl _⟩ ⟨rfl, trivial⟩ (Sub.refl _)
                · refine AO.weak (ρ' := [(29, (eBool t20))]) (H' := [(n3, (.mem (e50 p0)))]) ⟨rfl, trivial⟩ (Sub.refl _) ?_
                  refine AO.skipG 14 false 29 rfl rfl (congrArg (fun b => some (AV.fl (Value.bool b))) (eq_false_of_ne_true hc21)) 31 rfl (by decide) ?_
                  exact AO.nilE (ρ' := [(31, (.fl undef))]) (H' := [(n3, (.mem (e50 p0)))]) ⟨⟨_, rfl, rfl⟩, Sub.refl _⟩ ⟨rfl, trivial⟩ (Sub.refl _)
                · refine AO.weak (ρ' := [(29, (eBool t20))]) (H' := [(n3, (.mem (e50 p0)))]) ⟨rfl, trivial⟩ (Sub.refl _) ?_
                  refine AO.skipG 14 false 29 rfl rfl (congrArg (fun b => some (AV.fl (Value.bool b))) (eq_false_of_ne_true hc21)) 32 rfl (by decide) ?_
                  exact AO.nilE (ρ' := [(32, (.fl undef))]) (H' := [(n3, (.mem (e50 p0)))]) ⟨⟨_, rfl, rfl⟩, Sub.refl _⟩ ⟨rfl, trivial⟩ (Sub.refl _)
                · refine AO.weak (ρ' := [(29, (eBool t20))]) (H' := [(n3, (.mem (e50 p0)))]) ⟨rfl, trivial⟩ (Sub.refl _) ?_
                  refine AO.skipG 14 false 29 rfl rfl (congrArg (fun b => some (AV.fl (Value.bool b))) (eq_false_of_ne_true hc21)) 33 rfl (by decide) ?_
                  exact AO.nilE (ρ' := [(33, (.fl undef))]) (H' := [(n3, (.mem (e50 p0)))]) ⟨⟨_, rfl, rfl⟩, Sub.refl _⟩ ⟨rfl, trivial⟩ (Sub.refl _)
                · refine AO.weak (ρ' := [(29, (eBool t20))]) (H' := [(n3, (.mem (e50 p0)))]) ⟨rfl, trivial⟩ (Sub.refl _) ?_
                  refine AO.skipG 14 false 29 rfl rfl (congrArg (fun b => some (AV.fl (Value.bool b))) (eq_false_of_ne_true hc21)) 34 rfl (by decide) ?_
                  exact AO.nilE (ρ' := [(34, (.fl undef))]) (H' := [(n3, (.mem (e50 p0)))]) ⟨⟨_, rfl, rfl⟩, Sub.refl _⟩ ⟨rfl, trivial⟩ (Sub.refl _)
                · refine AO.weak (ρ' := [(29, (eBool t20)), (34, (.fl undef))]) (H' := [(n3, (.mem (e50 p0)))]) ⟨rfl, rfl, trivial⟩ (Sub.refl _) ?_
                  refine AO.calm rfl 35 rfl (by decide) (eBool false) (Calm.pickF rfl (congrArg (fun b => some (AV.fl (Value.bool b))) (eq_false_of_ne_true hc21)) rfl) ?_
                  exact AO.nilE (ρ' := [(35, (eBool false))]) (H' := [(n3, (.mem (e50 p0)))]) ⟨⟨_, rfl, rfl⟩, Sub.refl _⟩ ⟨rfl, trivial⟩ (Sub.refl _)
                · refine AO.weak (ρ' := [(35, (eBool false))]) (H' := [(n3, (.mem (e50 p0)))]) ⟨rfl, trivial⟩ (Sub.refl _) ?_
                  refine AO.calm rfl 36 rfl (by decide) (eBool false) (Calm.move rfl rfl) ?_
                  exact AO.nilE (ρ' := [(36, (eBool false))]) (H' := [(n3, (.mem (e50 p0)))]) ⟨⟨_, rfl, rfl⟩, Sub.refl _⟩ ⟨rfl, trivial⟩ (Sub.refl _)
                · refine AO.weak (ρ' := [(36, (eBool false))]) (H' := [(n3, (.mem (e50 p0)))]) ⟨rfl, trivial⟩ (Sub.refl _) ?_
                  refine AO.skipG 21 false 36 rfl rfl rfl 37 rfl (by decide) ?_
                  exact AO.nilE (ρ' := [(37, (.fl undef))]) (H' := [(n3, (.mem (e50 p0)))]) ⟨⟨_, rfl, rfl⟩, Sub.refl _⟩ ⟨rfl, trivial⟩ (Sub.refl _)
                · refine AO.weak (ρ' := [(36, (eBool false))]) (H' := [(n3, (.mem (e50 p0)))]) ⟨rfl, trivial⟩ (Sub.refl _) ?_
                  refine AO.skipG 21 false 36 rfl rfl rfl 38 rfl (by decide) ?_
                  exact AO.nilE (ρ' := [(38, (.fl undef))]) (H' := [(n3, (.mem (e50 p0)))]) ⟨⟨_, rfl, rfl⟩, Sub.refl _⟩ ⟨rfl, trivial⟩ (Sub.refl _)
                · refine AO.weak (ρ' := [(36, (eBool false))]) (H' := [(n3, (.mem (e50 p0)))]) ⟨rfl, trivial⟩ (Sub.refl _) ?_
                  refine AO.skipG 21 false 36 rfl rfl rfl 39 rfl (by decide) ?_
                  exact AO.nilE (ρ' := [(39, (.fl undef))]) (H' := [(n3, (.mem (e50 p0)))]) ⟨⟨_, rfl, rfl⟩, Sub.refl _⟩ ⟨rfl, trivial⟩ (Sub.refl _)
                · refine AO.weak (ρ' := [(36, (eBool false))]) (H' := [(n3, (.mem (e50 p0)))]) ⟨rfl, trivial⟩ (Sub.refl _) ?_
                  refine AO.skipG 21 false 36 rfl rfl rfl 40 rfl (by decide) ?_
                  exact AO.nilE (ρ' := [(40, (.fl undef))]) (H' := [(n3, (.mem (e50 p0)))]) ⟨⟨_, rfl, rfl⟩, Sub.refl _⟩ ⟨rfl, trivial⟩ (Sub.refl _)
                · refine AO.weak (ρ' := [(36, (eBool false))]) (H' := [(n3, (.mem (e50 p0)))]) ⟨rfl, trivial⟩ (Sub.refl _) ?_
                  refine AO.skipG 21 false 36 rfl rfl rfl 41 rfl (by decide) ?_
                  exact AO.nilE (ρ' := [(41, (.fl undef))]) (H' := [(n3, (.mem (e50 p0)))]) ⟨⟨_, rfl, rfl⟩, Sub.refl _⟩ ⟨rfl, trivial⟩ (Sub.refl _)
                · refine AO.weak (ρ' := [(36, (eBool false)), (41, (.fl undef))]) (H' := [(n3, (.mem (e50 p0)))]) ⟨rfl, rfl, trivial⟩ (Sub.refl _) ?_
                  refine AO.calm rfl 42 rfl (by decide) (eBool false) (Calm.pickF rfl rfl rfl) ?_
                  exact AO.nilE (ρ' := [(42, (eBool false))]) (H' := [(n3, (.mem (e50 p0)))]) ⟨⟨_, rfl, rfl⟩, Sub.refl _⟩ ⟨rfl, trivial⟩ (Sub.refl _)
                · refine AO.weak (ρ' := [(42, (eBool false))]) (H' := [(n3, (.mem (e50 p0)))]) ⟨rfl, trivial⟩ (Sub.refl _) ?_
                  refine AO.calm rfl 4 rfl (by decide) (eBool false) (Calm.assign rfl rfl) ?_
                  exact AO.nilE (ρ' := [(4, (eBool false))]) (H' := [(n3, (.mem (e50 p0)))]) ⟨⟨_, rfl, rfl⟩, Sub.refl _⟩ ⟨rfl, trivial⟩ (Sub.refl _)
              · cases hq13
                exact ⟨rfl, rfl, rfl⟩
          · have hq13 := (if_neg hc17).symm.trans hq13
            refine AW.regAny (by rfl) (by decide +kernel) [(e50 p0), (eI64 p1), (.fz 1 (t14.map eBool)), (e50 p0), (eI64 p1), (.fz 1 (t15.map eBool)), (eBool t16), (eBool t16), (.fl undef), (.fl undef), (.fl undef), (.fl undef), (.fl undef), (eBool false), (eBool false), (.fl undef), (.fl undef), (.fl undef), (.fl undef), (.fl undef), (eBool false), (eBool false), (.fl undef), (.fl undef), (.fl undef), (.fl undef), (.fl undef), (eBool false), (eBool false)] [(1, (eI64 p1)), (2, (.ptr n3 0))] ⟨rfl, rfl, trivial⟩ rfl ?_ [(4, (eBool false))] [] ⟨rfl, trivial⟩ (Sub.nil _) ?_
            · refine ⟨?_, ?_, ?_, ?_, ?_, ?_, ?_, ?_, ?_, ?_, ?_, ?_, ?_, ?_, ?_, ?_, ?_, ?_, ?_, ?_, ?_, ?_, ?_, ?_, ?_, ?_, ?_, ?_, ?_, trivial⟩
              · refine AO.weak (ρ' := [(2, (.ptr n3 0))]) (H' := [(n3, (.mem (e50 p0)))]) ⟨rfl, trivial⟩ (Sub.refl _) ?_
                refine AO.calm rfl 15 rfl (by decide) (e50 p0) (Calm.load 0 rfl rfl rfl (At.cast At.here rfl) ag50 sz50) ?_
                exact AO.nilE (ρ' := [(15, (e50 p0))]) (H' := [(n3, (.mem (e50 p0)))]) ⟨⟨_, rfl, rfl⟩, Sub.refl _⟩ ⟨rfl, trivial⟩ (Sub.refl _)
              · refine AO.weak (ρ' := [(1, (eI64 p1))]) (H' := [(n3, (.mem (e50 p0)))]) ⟨rfl, trivial⟩ (Sub.refl _) ?_
                refine AO.calm rfl 16 rfl (by decide) (eI64 p1) (Calm.move rfl rfl) ?_
                exact AO.nilE (ρ' := [(16, (eI64 p1))]) (H' := [(n3, (.mem (e50 p0)))]) ⟨⟨_, rfl, rfl⟩, Sub.refl _⟩ ⟨rfl, trivial⟩ (Sub.refl _)
              · refine AO.weak (ρ' := [(15, (e50 p0)), (16, (eI64 p1))]) (H' := [(n3, (.mem (e50 p0)))]) ⟨rfl, rfl, trivial⟩ (Sub.refl _) ?_
                refine AO.callS [(e50 p0), (eI64 p1)] (.fz 1 (t14.map eBool)) 17 rfl (by decide) ok35 rfl rfl rfl ⟨rfl, rfl, rfl, rfl, trivial⟩ (dfa_Reached_spec et14) ?_
                exact AO.nilE (ρ' := [(17, (.fz 1 (t14.map eBool)))]) (H' := [(n3, (.mem (e50 p0)))]) ⟨⟨_, rfl, rfl⟩, Sub.refl _⟩ ⟨rfl, trivial⟩ (Sub.refl _)
              · refine AO.weak (ρ' := [(2, (.ptr n3 0))]) (H' := [(n3, (.mem (e50 p0)))]) ⟨rfl, trivial⟩ (Sub.refl _) ?_
                refine AO.calm rfl 18 rfl (by decide) (e50 p0) (Calm.load 0 rfl rfl rfl (At.cast At.here rfl) ag50 sz50) ?_
                exact AO.nilE (ρ' := [(18, (e50 p0))]) (H' := [(n3, (.mem (e50 p0)))]) ⟨⟨_, rfl, rfl⟩, Sub.refl _⟩ ⟨rfl, trivial⟩ (Sub.refl _)
              · refine AO.weak (ρ' := [(1, (eI64 p1))]) (H' := [(n3, (.mem (e50 p0)))]) ⟨rfl, trivial⟩ (Sub.refl _) ?_
                refine AO.calm rfl 19 rfl (by decide) (eI64 p1) (Calm.move rfl rfl) ?_
                exact AO.nilE (ρ' := [(19, (eI64 p1))]) (H' := [(n3, (.mem (e50 p0)))]) ⟨⟨_, rfl, rfl⟩, Sub.refl _⟩ ⟨rfl, trivial⟩ (Sub.refl _)
              · refine AO.weak (ρ' := [(18, (e50 p0)), (19, (eI64 p1))]) (H' := [(n3, (.mem (e50 p0)))]) ⟨rfl, rfl, trivial⟩ (Sub.refl _) ?_
                refine AO.callS [(e50 p0), (eI64 p1)] (.fz 1 (t15.map eBool)) 20 rfl (by decide) ok36 rfl rfl rfl ⟨rfl, rfl, rfl, rfl, trivial⟩ (bosketref08_Reached_spec et15) ?_
                exact AO.nilE (ρ' := [(20, (.fz 1 (t15.map eBool)))]) (H' := [(n3, (.mem (e50 p0)))]) ⟨⟨_, rfl, rfl⟩, Sub.refl _⟩ ⟨rfl, trivial⟩ (Sub.refl _)
              · refine AO.weak (ρ' := [(17, (.fz 1 (t14.map eBool))), (20, (.fz 1 (t15.map eBool)))]) (H' := [(n3, (.mem (e50 p0)))]) ⟨rfl, rfl, trivial⟩ (Sub.refl _) ?_
                refine AO.callS [(.fz 1 (t14.map eBool)), (.fz 1 (t15.map eBool))] (eBool t16) 21 rfl (by decide) ok14 rfl rfl rfl ⟨rfl, rfl, rfl, rfl, trivial⟩ (bosketref06_Same_spec et16) ?_
                exact AO.nilE (ρ' := [(21, (eBool t16))]) (H' := [(n3, (.mem (e50 p0)))]) ⟨⟨_, rfl, rfl⟩, Sub.refl _⟩ ⟨rfl, trivial⟩ (Sub.refl _)
              · refine AO.weak (ρ' := [(21, (eBool t16))]) (H' := [(n3, (.mem (e50 p0)))]) ⟨rfl, trivial⟩ (Sub.refl _) ?_
                refine AO.calm rfl 22 rfl (by decide) (eBool t16) (Calm.move rfl rfl) ?_
                exact AO.nilE (ρ' := [(22, (eBool t16))]) (H' := [(n3, (.mem (e50 p0)))]) ⟨⟨_, rfl, rfl⟩, Sub.refl _⟩ ⟨rfl, trivial⟩ (Sub.refl _)
              · refine AO.weak (ρ' := [(22, (eBool t16))]) (H' := [(n3, (.mem (e50 p0)))]) ⟨rfl, trivial⟩ (Sub.refl _) ?_
                refine AO.skipG 7 false 22 rfl rfl (congrArg (fun b => some (AV.fl (Value.bool b))) (eq_false_of_ne_true hc17)) 23 rfl (by decide) ?_
                exact AO.nilE (ρ' := [(23, (.fl undef))]) (H' := [(n3, (.mem (e50 p0)))]) ⟨⟨_, rfl, rfl⟩, Sub.refl _⟩ ⟨rfl, trivial⟩ (Sub.refl _)
              · refine AO.weak (ρ' := [(22, (eBool t16))]) (H' := [(n3, (.mem (e50 p0)))]) ⟨rfl, trivial⟩ (Sub.refl _) ?_
                refine AO.skipG 7 false 22 rfl rfl (congrArg (fun b => some (AV.fl (Value.bool b))) (eq_false_of_ne_true hc17)) 24 rfl (by decide) ?_
                exact AO.nilE (ρ' := [(24, (.fl undef))]) (H' := [(n3, (.mem (e50 p0)))]) ⟨⟨_, rfl, rfl⟩, Sub.refl _⟩ ⟨rfl, trivial⟩ (Sub.refl _)
              · refine AO.weak (ρ' := [(22, (eBool t16))]) (H' := [(n3, (.mem (e50 p0)))]) ⟨rfl, trivial⟩ (Sub.refl _) ?_
                refine AO.skipG 7 false 22 rfl rfl (congrArg (fun b => some (AV.fl (Value.bool b))) (eq_false_of_ne_true hc17)) 25 rfl (by decide) ?_
                exact AO.nilE (ρ' := [(25, (.fl undef))]) (H' := [(n3, (.mem (e50 p0)))]) ⟨⟨_, rfl, rfl⟩, Sub.refl _⟩ ⟨rfl, trivial⟩ (Sub.refl _)
              · refine AO.weak (ρ' := [(22, (eBool t16))]) (H' := [(n3, (.mem (e50 p0)))]) ⟨rfl, trivial⟩ (Sub.refl _) ?_
                refine AO.skipG 7 false 22 rfl rfl (congrArg (fun b => some (AV.fl (Value.bool b))) (eq_false_of_ne_true hc17)) 26 rfl (by decide) ?_
                exact AO.nilE (ρ' := [(26, (.fl undef))]) (H' := [(n3, (.mem (e50 p0)))]) ⟨⟨_, rfl, rfl⟩, Sub.refl _⟩ ⟨rfl, trivial⟩ (Sub.refl _)
              · refine AO.weak (ρ' := [(22, (eBool t16))]) (H' := [(n3, (.mem (e50 p0)))]) ⟨rfl, trivial⟩ (Sub.refl _) ?_
                refine AO.skipG 7 false 22 rfl rfl (congrArg (fun b => some (AV.fl (Value.bool b))) (eq_false_of_ne_true hc17)) 27 rfl (by decide) ?_
                exact AO.nilE (ρ' := [(27, (.fl undef))]) (H' := [(n3, (.mem (e50 p0)))]) ⟨⟨_, rfl, rfl⟩, Sub.refl _⟩ ⟨rfl, trivial⟩ (Sub.refl _)
              · refine AO.weak (ρ' := [(22, (eBool t16)), (27, (.fl undef))]) (H' := [(n3, (.mem (e50 p0)))]) ⟨rfl, rfl, trivial⟩ (Sub.refl _) ?_
                refine AO.calm rfl 28 rfl (by decide) (eBool false) (Calm.pickF rfl (congrArg (fun b => some (AV.fl (Value.bool b))) (eq_false_of_ne_true hc17)) rfl) ?_
                exact AO.nilE (ρ' := [(28, (eBool false))]) (H' := [(n3, (.mem (e50 p0)))]) ⟨⟨_, rfl, rfl⟩, Sub.refl _⟩ ⟨rfl, trivial⟩ (Sub.refl _)
              · refine AO.weak (ρ' := [(28, (eBool false))]) (H' := [(n3, (.mem (e50 p0)))]) ⟨rfl, trivial⟩ (Sub.refl _) ?_
                refine AO.calm rfl 29 rfl (by decide) (eBool false) (Calm.move rfl rfl) ?_
                exact AO.nilE (ρ' := [(29, (eBool false))]) (H' := [(n3, (.mem (e50 p0)))]) ⟨⟨_, rfl, rfl⟩, Sub.refl _⟩ ⟨rfl, trivial⟩ (Sub.refl _)
              · refine AO.weak (ρ' := [(29, (eBool false))]) (H' := [(n3, (.mem (e50 p0)))]) ⟨rfl, trivial⟩ (Sub.refl _) ?_
                refine AO.skipG 14 false 29 rfl rfl rfl 30 rfl (by decide) ?_
                exact AO.nilE (ρ' := [(30, (.fl undef))]) (H' := [(n3, (.mem (e50 p0)))]) ⟨⟨_, rfl, rfl⟩, Sub.refl _⟩ ⟨rfl, trivial⟩ (Sub.refl _)
              · refine AO.weak (ρ' := [(29, (eBool false))]) (H' := [(n3, (.mem (e50 p0)))]) ⟨rfl, trivial⟩ (Sub.refl _) ?_
                refine AO.skipG 14 false 29 rfl rfl rfl 31 rfl (by decide) ?_
                exact AO.nilE (ρ' := [(31, (.fl undef))]) (H' := [(n3, (.mem (e50 p0)))]) ⟨⟨_, rfl, rfl⟩, Sub.refl _⟩ ⟨rfl, trivial⟩ (Sub.refl _)
              · refine AO.weak (ρ' := [(29, (eBool false))]) (H' := [(n3, (.mem (e50 p0)))]) ⟨rfl, trivial⟩ (Sub.refl _) ?_
                refine AO.skipG 14 false 29 rfl rfl rfl 32 rfl (by decide) ?_
                exact AO.nilE (ρ' := [(32, (.fl undef))]) (H' := [(n3, (.mem (e50 p0)))]) ⟨⟨_, rfl, rfl⟩, Sub.refl _⟩ ⟨rfl, trivial⟩ (Sub.refl _)
              · refine AO.weak (ρ' := [(29, (eBool false))]) (H' := [(n3, (.mem (e50 p0)))]) ⟨rfl, trivial⟩ (Sub.refl _) ?_
                refine AO.skipG 14 false 29 rfl rfl rfl 33 rfl (by decide) ?_
                exact AO.nilE (ρ' := [(33, (.fl undef))]) (H' := [(n3, (.mem (e50 p0)))]) ⟨⟨_, rfl, rfl⟩, Sub.refl _⟩ ⟨rfl, trivial⟩ (Sub.refl _)
              · refine AO.weak (ρ' := [(29, (eBool false))]) (H' := [(n3, (.mem (e50 p0)))]) ⟨rfl, trivial⟩ (Sub.refl _) ?_
                refine AO.skipG 14 false 29 rfl rfl rfl 34 rfl (by decide) ?_
                exact AO.nilE (ρ' := [(34, (.fl undef))]) (H' := [(n3, (.mem (e50 p0)))]) ⟨⟨_, rfl, rfl⟩, Sub.refl _⟩ ⟨rfl, trivial⟩ (Sub.refl _)
              · refine AO.weak (ρ' := [(29, (eBool false)), (34, (.fl undef))]) (H' := [(n3, (.mem (e50 p0)))]) ⟨rfl, rfl, trivial⟩ (Sub.refl _) ?_
                refine AO.calm rfl 35 rfl (by decide) (eBool false) (Calm.pickF rfl rfl rfl) ?_
                exact AO.nilE (ρ' := [(35, (eBool false))]) (H' := [(n3, (.mem (e50 p0)))]) ⟨⟨_, rfl, rfl⟩, Sub.refl _⟩ ⟨rfl, trivial⟩ (Sub.refl _)
              · refine AO.weak (ρ' := [(35, (eBool false))]) (H' := [(n3, (.mem (e50 p0)))]) ⟨rfl, trivial⟩ (Sub.refl _) ?_
                refine AO.calm rfl 36 rfl (by decide) (eBool false) (Calm.move rfl rfl) ?_
                exact AO.nilE (ρ' := [(36, (eBool false))]) (H' := [(n3, (.mem (e50 p0)))]) ⟨⟨_, rfl, rfl⟩, Sub.refl _⟩ ⟨rfl, trivial⟩ (Sub.refl _)
              · refine AO.weak (ρ' := [(36, (eBool false))]) (H' := [(n3, (.mem (e50 p0)))]) ⟨rfl, trivial⟩ (Sub.refl _) ?_
                refine AO.skipG 21 false 36 rfl rfl rfl 37 rfl (by decide) ?_
                exact AO.nilE (ρ' := [(37, (.fl undef))]) (H' := [(n3, (.mem (e50 p0)))]) ⟨⟨_, rfl, rfl⟩, Sub.refl _⟩ ⟨rfl, trivial⟩ (Sub.refl _)
              · refine AO.weak (ρ' := [(36, (eBool false))]) (H' := [(n3, (.mem (e50 p0)))]) ⟨rfl, trivial⟩ (Sub.refl _) ?_
                refine AO.skipG 21 false 36 rfl rfl rfl 38 rfl (by decide) ?_
                exact AO.nilE (ρ' := [(38, (.fl undef))]) (H' := [(n3, (.mem (e50 p0)))]) ⟨⟨_, rfl, rfl⟩, Sub.refl _⟩ ⟨rfl, trivial⟩ (Sub.refl _)
              · refine AO.weak (ρ' := [(36, (eBool false))]) (H' := [(n3, (.mem (e50 p0)))]) ⟨rfl, trivial⟩ (Sub.refl _) ?_
                refine AO.skipG 21 false 36 rfl rfl rfl 39 rfl (by decide) ?_
                exact AO.nilE (ρ' := [(39, (.fl undef))]) (H' := [(n3, (.mem (e50 p0)))]) ⟨⟨_, rfl, rfl⟩, Sub.refl _⟩ ⟨rfl, trivial⟩ (Sub.refl _)
              · refine AO.weak (ρ' := [(36, (eBool false))]) (H' := [(n3, (.mem (e50 p0)))]) ⟨rfl, trivial⟩ (Sub.refl _) ?_
                refine AO.skipG 21 false 36 rfl rfl rfl 40 rfl (by decide) ?_
                exact AO.nilE (ρ' := [(40, (.fl undef))]) (H' := [(n3, (.mem (e50 p0)))]) ⟨⟨_, rfl, rfl⟩, Sub.refl _⟩ ⟨rfl, trivial⟩ (Sub.refl _)
              · refine AO.weak (ρ' := [(36, (eBool false))]) (H' := [(n3, (.mem (e50 p0)))]) ⟨rfl, trivial⟩ (Sub.refl _) ?_
                refine AO.skipG 21 false 36 rfl rfl rfl 41 rfl (by decide) ?_
                exact AO.nilE (ρ' := [(41, (.fl undef))]) (H' := [(n3, (.mem (e50 p0)))]) ⟨⟨_, rfl, rfl⟩, Sub.refl _⟩ ⟨rfl, trivial⟩ (Sub.refl _)
              · refine AO.weak (ρ' := [(36, (eBool false)), (41, (.fl undef))]) (H' := [(n3, (.mem (e50 p0)))]) ⟨rfl, rfl, trivial⟩ (Sub.refl _) ?_
                refine AO.calm rfl 42 rfl (by decide) (eBool false) (Calm.pickF rfl rfl rfl) ?_
                exact AO.nilE (ρ' := [(42, (eBool false))]) (H' := [(n3, (.mem (e50 p0)))]) ⟨⟨_, rfl, rfl⟩, Sub.refl _⟩ ⟨rfl, trivial⟩ (Sub.refl _)
              · refine AO.weak (ρ' := [(42, (eBool false))]) (H' := [(n3, (.mem (e50 p0)))]) ⟨rfl, trivial⟩ (Sub.refl _) ?_
                refine AO.calm rfl 4 rfl (by decide) (eBool false) (Calm.assign rfl rfl) ?_
                exact AO.nilE (ρ' := [(4, (eBool false))]) (H' := [(n3, (.mem (e50 p0)))]) ⟨⟨_, rfl, rfl⟩, Sub.refl _⟩ ⟨rfl, trivial⟩ (Sub.refl _)
            · cases hq13
              exact ⟨rfl, rfl, rfl⟩
        · refine AW.ret (ρ' := [(4, (eBool b12))]) (H' := []) ⟨rfl, trivial⟩ (Sub.refl _) ?_
          have hr := Option.some.inj h
          subst hr
          exact ⟨[(eBool b12)], ⟨rfl, rfl, trivial⟩, rfl⟩
end Go.Avl.T3
