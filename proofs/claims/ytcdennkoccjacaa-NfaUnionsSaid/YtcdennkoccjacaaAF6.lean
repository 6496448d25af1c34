/- Parts: T3f4. -/
import Derived.Test.YtcdennkoccjacaaAF1
import Derived.Test.YtcdennkoccjacaaAF5
import Derived.Test.YtcdennkoccjacaaAF3
import Derived.Test.YtcdennkoccjacaaAF2
/- bosket/bosketlaw06.NfaUnions; printed by avmain.py. -/
namespace Go.Avl.T3
open Go Go.RowKit Go.Proofs Go.Avl
set_option linter.unusedVariables false
set_option maxRecDepth 100000
set_option maxHeartbeats 4000000
attribute [local irreducible] AW AO AQ Spec SpecH Calm

def bosketlaw06_NfaUnions_c0 (k : Nat) : Option Bool :=
  some (true)
def bosketlaw06_NfaUnions_l1 (k : Nat) (p0 : (List S24)) (p1 : ByteArray) (x9 : Int) (t10 : (S24 × (List Int))) (t20 : (List Bool)) : Nat → Int → Option Bool
  | 0, _ => none
  | j + 1, x21 =>
    if x21 < (p0.length : Int) then Option.bind (α := Bool) (if 0 ≤ x21 ∧ x21 < (t10.2.length : Int) then if (lget t10.2 x21) < (0 : Int) then some (true)
    else if 0 ≤ x21 ∧ x21 < (t10.2.length : Int) then if x9 ≤ (lget t10.2 x21) then some (true)
    else if 0 ≤ x21 ∧ x21 < (t10.2.length : Int) then if 0 ≤ (lget t10.2 x21) ∧ (lget t10.2 x21) < (t20.length : Int) then if 0 ≤ x21 ∧ x21 < (p0.length : Int) then (bosketref06_Run k (lget p0 x21) p1).bind fun t34 =>
    if 0 ≤ x21 ∧ x21 < (p0.length : Int) then if 0 ≤ ((lget p0 x21).f3) ∧ ((lget p0 x21).f3) < (t34.length : Int) then some (((lget t20 (lget t10.2 x21)) != (lget t34 ((lget p0 x21).f3))))
    else none
    else none
    else none
    else none
    else none
    else none
    else none) fun b25 =>
    if b25 = true then some (false)
    else (bosketlaw06_NfaUnions_l1 k p0 p1 x9 t10 t20 j) (w64 (x21 + (1 : Int)))
    else bosketlaw06_NfaUnions_c0 k
def bosketlaw06_NfaUnions_c2 (k : Nat) (p0 : (List S24)) (p1 : ByteArray) (x9 : Int) : Option Bool :=
  (nfa_Union k p0).bind fun t10 =>
  Option.bind (α := Bool) (if t10.1.f0 ≠ x9 then some (true)
  else if t10.1.f2 ≠ (0 : Int) then some (true)
  else if t10.1.f3 ≠ (0 : Int) then some (true)
  else (bosketref06_Right k t10.1).bind fun t17 =>
  if (!t17) = true then some (true)
  else some (decide ((t10.2.length : Int) ≠ (p0.length : Int)))) fun b12 =>
  if b12 = true then some (false)
  else (bosketref06_Run k t10.1 p1).bind fun t20 =>
  bosketlaw06_NfaUnions_l1 k p0 p1 x9 t10 t20 k (0 : Int)
def bosketlaw06_NfaUnions_l3 (k : Nat) (p0 : (List S24)) (p1 : ByteArray) : Nat → Int → Int → Option Bool
  | 0, _, _ => none
  | j + 1, x38, x39 =>
    if x39 < (p0.length : Int) then Option.bind (α := Bool) (if 0 ≤ x39 ∧ x39 < (p0.length : Int) then if (30 : Int) < ((lget p0 x39).f0) then some (true)
    else if 0 ≤ x39 ∧ x39 < (p0.length : Int) then if (100 : Int) < (((lget p0 x39).f1).length : Int) then some (true)
    else if 0 ≤ x39 ∧ x39 < (p0.length : Int) then (bosketref06_Right k (lget p0 x39)).bind fun t50 =>
    some (!t50)
    else none
    else none
    else none) fun b43 =>
    if b43 = true then some (true)
    else if 0 ≤ x39 ∧ x39 < (p0.length : Int) then (bosketlaw06_NfaUnions_l3 k p0 p1 j) (w64 (x38 + ((lget p0 x39).f0))) (w64 (x39 + (1 : Int)))
    else none
    else bosketlaw06_NfaUnions_c2 k p0 p1 x38
def bosketlaw06_NfaUnions (k : Nat) (p0 : (List S24)) (p1 : ByteArray) : Option Bool :=
  (bosketlaw06_awake k).bind fun t3 =>
  if (!t3) = true then some (false)
  else Option.bind (α := Bool) (if (6 : Int) < (p0.length : Int) then some (true)
  else some (decide ((12 : Int) < (p1.size : Int)))) fun b5 =>
  if b5 = true then some (true)
  else bosketlaw06_NfaUnions_l3 k p0 p1 k (1 : Int) (0 : Int)
theorem bosketlaw06_NfaUnions_spec {k : Nat} {p0 : (List S24)} {p1 : ByteArray} {r : Bool} (h : bosketlaw06_NfaUnions k p0 p1 = some r) : Spec Try.prog 4 [(.fz 4 (p0.map e24)), (eStr p1)] (eBool r) := by
  rw [bosketlaw06_NfaUnions.eq_1] at h
  refine Spec.intro (res := [.tmp 4]) Try.func4 rfl rfl rfl (Nat.le_of_ble_eq_true rfl) ?_
  refine AW.seq ?_
  refine AW.reg ?_
  refine AO.calm rfl 4 rfl (by decide) (eBool false) (Calm.assign rfl rfl) ?_
  refine AO.nil (ρ' := [(0, (.fz 4 (p0.map e24))), (1, (eStr p1))]) (H' := []) ⟨rfl, rfl, trivial⟩ (Sub.refl _) ?_
  refine AW.seq ?_
  refine AW.seq ?_
  refine AW.reg ?_
  obtain ⟨t3, et3, h⟩ := of_bind h
  refine AO.callS [] (eBool t3) 11 rfl (by decide) ok9 rfl rfl rfl trivial (bosketlaw06_awake_spec et3) ?_
  refine AO.calm rfl 12 rfl (by decide) (eBool (!t3)) (Calm.not rfl rfl) ?_
  refine AO.nil (ρ' := [(0, (.fz 4 (p0.map e24))), (1, (eStr p1)), (12, (eBool (!t3)))]) (H' := []) ⟨rfl, rfl, rfl, trivial⟩ (Sub.refl _) ?_
  by_cases hc4 : (!t3) = true
  · have h := (if_pos hc4).symm.trans h
    refine AW.condT' (!t3) rfl hc4 ?_
    refine AW.seq ?_
    refine AW.reg ?_
    refine AO.calm rfl 4 rfl (by decide) (eBool false) (Calm.assign rfl rfl) ?_
    refine AO.nil (ρ' := [(4, (eBool false))]) (H' := []) ⟨rfl, trivial⟩ (Sub.refl _) ?_
    refine AW.ret (ρ' := [(4, (eBool false))]) (H' := []) ⟨rfl, trivial⟩ (Sub.refl _) ?_
    have hr := Option.some.inj h
    subst hr
    exact ⟨[(eBool false)], ⟨rfl, rfl, trivial⟩, rfl⟩
  · have h := (if_neg hc4).symm.trans h
    refine AW.condF' (!t3) rfl hc4 ?_
    refine AW.skip (ρ' := [(0, (.fz 4 (p0.map e24))), (1, (eStr p1))]) (H' := []) ⟨rfl, rfl, trivial⟩ (Sub.refl _) ?_
    refine AW.seq ?_
    refine AW.seq ?_
    obtain ⟨b5, hq6, h⟩ := of_bind h
    refine AW.regM [(0, (.fz 4 (p0.map e24))), (1, (eStr p1)), (20, (eBool b5))] [] ?_ ?_
    · refine AO.calm rfl 13 rfl (by decide) (.fz 4 (p0.map e24)) (Calm.move rfl rfl) ?_
      refine AO.calm rfl 14 rfl (by decide) (eI64 (p0.length : Int)) (Calm.lenL rfl rfl Try.underlying42) ?_
      refine AO.calm rfl 15 rfl (by decide) (eBool (decide ((6 : Int) < (p0.length : Int)))) (Calm.int rfl rfl rfl rfl) ?_
      refine AO.calm rfl 16 rfl (by decide) (eBool (decide ((6 : Int) < (p0.length : Int)))) (Calm.move rfl rfl) ?_
      by_cases hc7 : (6 : Int) < (p0.length : Int)
      · have hq6 := (if_pos hc7).symm.trans hq6
        refine AO.skipG 3 true 16 rfl rfl (congrArg (fun b => some (AV.fl (Value.bool b))) (decide_eq_true hc7)) 17 rfl (by decide) ?_
        refine AO.skipG 3 true 16 rfl rfl (congrArg (fun b => some (AV.fl (Value.bool b))) (decide_eq_true hc7)) 18 rfl (by decide) ?_
        refine AO.skipG 3 true 16 rfl rfl (congrArg (fun b => some (AV.fl (Value.bool b))) (decide_eq_true hc7)) 19 rfl (by decide) ?_
        refine AO.calm rfl 20 rfl (by decide) (eBool true) (Calm.pickT rfl (congrArg (fun b => some (AV.fl (Value.bool b))) (decide_eq_true hc7)) rfl) ?_
        cases hq6
        refine AO.nilE ⟨rfl, rfl⟩ ?_ ?_
        · exact ⟨rfl, rfl, rfl, trivial⟩
        · exact (Sub.refl _)
      · have hq6 := (if_neg hc7).symm.trans hq6
        refine AO.calmG 3 false 16 rfl rfl (congrArg (fun b => some (AV.fl (Value.bool b))) (decide_eq_false hc7)) 17 rfl (by decide) (eStr p1) (Calm.move rfl rfl) ?_
        refine AO.calmG 3 false 16 rfl rfl (congrArg (fun b => some (AV.fl (Value.bool b))) (decide_eq_false hc7)) 18 rfl (by decide) (eI64 (p1.size : Int)) (Calm.lenStr rfl rfl Try.underlying9) ?_
        refine AO.calmG 3 false 16 rfl rfl (congrArg (fun b => some (AV.fl (Value.bool b))) (decide_eq_false hc7)) 19 rfl (by decide) (eBool (decide ((12 : Int) < (p1.size : Int)))) (Calm.int rfl rfl rfl rfl) ?_
        refine AO.calm rfl 20 rfl (by decide) (eBool (decide ((12 : Int) < (p1.size : Int)))) (Calm.pickF rfl (congrArg (fun b => some (AV.fl (Value.bool b))) (decide_eq_false hc7)) rfl) ?_
        cases hq6
        refine AO.nilE ⟨rfl, rfl⟩ ?_ ?_
        · exact ⟨rfl, rfl, rfl, trivial⟩
        · exact (Sub.refl _)
    · by_cases hc8 : b5 = true
      · have h := (if_pos hc8).symm.trans h
        refine AW.condT' b5 rfl hc8 ?_
        refine AW.seq ?_
        refine AW.reg ?_
        refine AO.calm rfl 4 rfl (by decide) (eBool true) (Calm.assign rfl rfl) ?_
        refine AO.nil (ρ' := [(4, (eBool true))]) (H' := []) ⟨rfl, trivial⟩ (Sub.refl _) ?_
        refine AW.ret (ρ' := [(4, (eBool true))]) (H' := []) ⟨rfl, trivial⟩ (Sub.refl _) ?_
        have hr := Option.some.inj h
        subst hr
        exact ⟨[(eBool true)], ⟨rfl, rfl, trivial⟩, rfl⟩
      · have h := (if_neg hc8).symm.trans h
        refine AW.condF' b5 rfl hc8 ?_
        refine AW.skip (ρ' := [(0, (.fz 4 (p0.map e24))), (1, (eStr p1))]) (H' := []) ⟨rfl, rfl, trivial⟩ (Sub.refl _) ?_
        refine AW.seq ?_
        refine AW.reg ?_
        refine AO.calm rfl 5 rfl (by decide) (eI64 (1 : Int)) (Calm.assign rfl rfl) ?_
        refine AO.nil (ρ' := [(0, (.fz 4 (p0.map e24))), (1, (eStr p1)), (5, (eI64 (1 : Int)))]) (H' := []) ⟨rfl, rfl, rfl, trivial⟩ (Sub.refl _) ?_
        refine AW.seq_mid (fun ρ H => ∃ (x9 : Int), ρ = [(0, (.fz 4 (p0.map e24))), (1, (eStr p1)), (5, (eI64 x9))] ∧ H = [] ∧ bosketlaw06_NfaUnions_c2 k p0 p1 x9 = some r) ?_ ?_
        · refine AW.seq ?_
          refine AW.reg ?_
          refine AO.calm rfl 6 rfl (by decide) (eI64 (0 : Int)) (Calm.assign rfl rfl) ?_
          refine AO.nil (ρ' := [(0, (.fz 4 (p0.map e24))), (1, (eStr p1)), (5, (eI64 (1 : Int))), (6, (eI64 (0 : Int)))]) (H' := []) ⟨rfl, rfl, rfl, rfl, trivial⟩ (Sub.refl _) ?_
          refine AW.block ?_
          refine AW.weak (ρ' := [(0, (.fz 4 (p0.map e24))), (1, (eStr p1)), (5, (eI64 (1 : Int))), (6, (eI64 (0 : Int)))]) (H' := []) ⟨rfl, rfl, rfl, rfl, trivial⟩ (Sub.refl _) ?_
          refine AW.loop (fun kq ρ H => ∃ (x38 : Int) (x39 : Int), ρ = [(0, (.fz 4 (p0.map e24))), (1, (eStr p1)), (5, (eI64 x38)), (6, (eI64 x39))] ∧ H = [] ∧ bosketlaw06_NfaUnions_l3 k p0 p1 kq x38 x39 = some r) k ⟨(1 : Int), (0 : Int), rfl, rfl, h⟩ ?_
          rintro kq41 _ _ ⟨x38, x39, rfl, rfl, h⟩
          cases kq41 with
          | zero => rw [bosketlaw06_NfaUnions_l3.eq_1] at h; cases h
          | succ kq41 =>
          rw [bosketlaw06_NfaUnions_l3.eq_2] at h
          generalize hrec40 : bosketlaw06_NfaUnions_l3 k p0 p1 kq41 = rec40 at h
          refine AW.seq ?_
          refine AW.seq ?_
          refine AW.reg ?_
          refine AO.calm rfl 21 rfl (by decide) (eI64 x39) (Calm.move rfl rfl) ?_
          refine AO.calm rfl 22 rfl (by decide) (.fz 4 (p0.map e24)) (Calm.move rfl rfl) ?_
          refine AO.calm rfl 23 rfl (by decide) (eI64 (p0.length : Int)) (Calm.lenL rfl rfl Try.underlying42) ?_
          refine AO.calm rfl 24 rfl (by decide) (eBool (decide (x39 < (p0.length : Int)))) (Calm.int rfl rfl rfl rfl) ?_
          refine AO.nil (ρ' := [(0, (.fz 4 (p0.map e24))), (1, (eStr p1)), (5, (eI64 x38)), (6, (eI64 x39)), (24, (eBool (decide (x39 < (p0.length : Int)))))]) (H' := []) ⟨rfl, rfl, rfl, rfl, rfl, trivial⟩ (Sub.refl _) ?_
          by_cases hc42 : x39 < (p0.length : Int)
          · have h := (if_pos hc42).symm.trans h
            refine AW.condP (x39 < (p0.length : Int)) rfl hc42 ?_
            refine AW.skip (ρ' := [(0, (.fz 4 (p0.map e24))), (1, (eStr p1)), (5, (eI64 x38)), (6, (eI64 x39))]) (H' := []) ⟨rfl, rfl, rfl, rfl, trivial⟩ (Sub.refl _) ?_
            refine AW.seq ?_
            refine AW.block ?_
            refine AW.seq ?_
            refine AW.seq ?_
            obtain ⟨b43, hq44, h⟩ := of_bind h
            refine AW.regM [(0, (.fz 4 (p0.map e24))), (1, (eStr p1)), (5, (eI64 x38)), (6, (eI64 x39)), (49, (eBool b43))] [] ?_ ?_
            · refine AO.calm rfl 27 rfl (by decide) (.fz 4 (p0.map e24)) (Calm.move rfl rfl) ?_
              refine AO.calm rfl 28 rfl (by decide) (eI64 x39) (Calm.move rfl rfl) ?_
              obtain ⟨hg45, hq44⟩ := of_guard hq44
              refine AO.calm rfl 29 rfl (by decide) (.rp (e24 (lget p0 x39))) (Calm.idxL (f := e24) rfl rfl rfl hg45 Try.underlying42 sz24) ?_
              refine AO.calm rfl 30 rfl (by decide) (.rp (eI64 ((lget p0 x39).f0))) (Calm.fldRp rfl rfl Try.underlying24 rfl sz3 (At.cast (At.fld0 At.here) rfl)) ?_
              refine AO.calm rfl 31 rfl (by decide) (eI64 ((lget p0 x39).f0)) (Calm.loadRp rfl rfl ag3 sz3) ?_
              refine AO.calm rfl 32 rfl (by decide) (eBool (decide ((30 : Int) < ((lget p0 x39).f0)))) (Calm.int rfl rfl rfl rfl) ?_
              refine AO.calm rfl 33 rfl (by decide) (eBool (decide ((30 : Int) < ((lget p0 x39).f0)))) (Calm.move rfl rfl) ?_
              by_cases hc46 : (30 : Int) < ((lget p0 x39).f0)
              · have hq44 := (if_pos hc46).symm.trans hq44
                refine AO.skipG 6 true 33 rfl rfl (congrArg (fun b => some (AV.fl (Value.bool b))) (decide_eq_true hc46)) 34 rfl (by decide) ?_
                refine AO.skipG 6 true 33 rfl rfl (congrArg (fun b => some (AV.fl (Value.bool b))) (decide_eq_true hc46)) 35 rfl (by decide) ?_
                refine AO.skipG 6 true 33 rfl rfl (congrArg (fun b => some (AV.fl (Value.bool b))) (decide_eq_true hc46)) 36 rfl (by decide) ?_
                refine AO.skipG 6 true 33 rfl rfl (congrArg (fun b => some (AV.fl (Value.bool b))) (decide_eq_true hc46)) 37 rfl (by decide) ?_
                refine AO.skipG 6 true 33 rfl rfl (congrArg (fun b => some (AV.fl (Value.bool b))) (decide_eq_true hc46)) 38 rfl (by decide) ?_
                refine AO.skipG 6 true 33 rfl rfl (congrArg (fun b => some (AV.fl (Value.bool b))) (decide_eq_true hc46)) 39 rfl (by decide) ?_
                refine AO.skipG 6 true 33 rfl rfl (congrArg (fun b => some (AV.fl (Value.bool b))) (decide_eq_true hc46)) 40 rfl (by decide) ?_
                refine AO.calm rfl 41 rfl (by decide) (eBool true) (Calm.pickT rfl (congrArg (fun b => some (AV.fl (Value.bool b))) (decide_eq_true hc46)) rfl) ?_
                refine AO.calm rfl 42 rfl (by decide) (eBool true) (Calm.move rfl rfl) ?_
                refine AO.skipG 15 true 42 rfl rfl rfl 43 rfl (by decide) ?_
                refine AO.skipG 15 true 42 rfl rfl rfl 44 rfl (by decide) ?_
                refine AO.skipG 15 true 42 rfl rfl rfl 45 rfl (by decide) ?_
                refine AO.skipG 15 true 42 rfl rfl rfl 46 rfl (by decide) ?_
                refine AO.skipG 15 true 42 rfl rfl rfl 47 rfl (by decide) ?_
                refine AO.skipG 15 true 42 rfl rfl rfl 48 rfl (by decide) ?_
                refine AO.calm rfl 49 rfl (by decide) (eBool true) (Calm.pickT rfl rfl rfl) ?_
                cases hq44
                refine AO.nilE ⟨rfl, rfl⟩ ?_ ?_
                · exact ⟨rfl, rfl, rfl, rfl, rfl, trivial⟩
                · exact (Sub.refl _)
              · have hq44 := (if_neg hc46).symm.trans hq44
                refine AO.calmG 6 false 33 rfl rfl (congrArg (fun b => some (AV.fl (Value.bool b))) (decide_eq_false hc46)) 34 rfl (by decide) (.fz 4 (p0.map e24)) (Calm.move rfl rfl) ?_
                refine AO.calmG 6 false 33 rfl rfl (congrArg (fun b => some (AV.fl (Value.bool b))) (decide_eq_false hc46)) 35 rfl (by decide) (eI64 x39) (Calm.move rfl rfl) ?_
                obtain ⟨hg47, hq44⟩ := of_guard hq44
                refine AO.calmG 6 false 33 rfl rfl (congrArg (fun b => some (AV.fl (Value.bool b))) (decide_eq_false hc46)) 36 rfl (by decide) (.rp (e24 (lget p0 x39))) (Calm.idxL (f := e24) rfl rfl rfl hg47 Try.underlying42 sz24) ?_
                refine AO.calmG 6 false 33 rfl rfl (congrArg (fun b => some (AV.fl (Value.bool b))) (decide_eq_false hc46)) 37 rfl (by decide) (.rp (.fz 7 (((lget p0 x39).f1).map e35))) (Calm.fldRp rfl rfl Try.underlying24 rfl sz22 (At.cast (At.fldS (At.fld0 At.here)) rfl)) ?_
                refine AO.calmG 6 false 33 rfl rfl (congrArg (fun b => some (AV.fl (Value.bool b))) (decide_eq_false hc46)) 38 rfl (by decide) (.fz 7 (((lget p0 x39).f1).map e35)) (Calm.loadRp rfl rfl ag22 sz22) ?_
                refine AO.calmG 6 false 33 rfl rfl (congrArg (fun b => some (AV.fl (Value.bool b))) (decide_eq_false hc46)) 39 rfl (by decide) (eI64 (((lget p0 x39).f1).length : Int)) (Calm.lenL rfl rfl Try.underlying22) ?_
                refine AO.calmG 6 false 33 rfl rfl (congrArg (fun b => some (AV.fl (Value.bool b))) (decide_eq_false hc46)) 40 rfl (by decide) (eBool (decide ((100 : Int) < (((lget p0 x39).f1).length : Int)))) (Calm.int rfl rfl rfl rfl) ?_
                refine AO.calm rfl 41 rfl (by decide) (eBool (decide ((100 : Int) < (((lget p0 x39).f1).length : Int)))) (Calm.pickF rfl (congrArg (fun b => some (AV.fl (Value.bool b))) (decide_eq_false hc46)) rfl) ?_
                refine AO.calm rfl 42 rfl (by decide) (eBool (decide ((100 : Int) < (((lget p0 x39).f1).length : Int)))) (Calm.move rfl rfl) ?_
                by_cases hc48 : (100 : Int) < (((lget p0 x39).f1).length : Int)
                · have hq44 := (if_pos hc48).symm.trans hq44
                  refine AO.skipG 15 true 42 rfl rfl (congrArg (fun b => some (AV.fl (Value.bool b))) (decide_eq_true hc48)) 43 rfl (by decide) ?_
                  refine AO.skipG 15 true 42 rfl rfl (congrArg (fun b => some (AV.fl (Value.bool b))) (decide_eq_true hc48)) 44 rfl (by decide) ?_
                  refine AO.skipG 15 true 42 rfl rfl (congrArg (fun b => some (AV.fl (Value.bool b))) (decide_eq_true hc48)) 45 rfl (by decide) ?_
                  refine AO.skipG 15 true 42 rfl rfl (congrArg (fun b => some (AV.fl (Value.bool b))) (decide_eq_true hc48)) 46 rfl (by decide) ?_
                  refine AO.skipG 15 true 42 rfl rfl (congrArg (fun b => some (AV.fl (Value.bool b))) (decide_eq_true hc48)) 47 rfl (by decide) ?_
                  refine AO.skipG 15 true 42 rfl rfl (congrArg (fun b => some (AV.fl (Value.bool b))) (decide_eq_true hc48)) 48 rfl (by decide) ?_
                  refine AO.calm rfl 49 rfl (by decide) (eBool true) (Calm.pickT rfl (congrArg (fun b => some (AV.fl (Value.bool b))) (decide_eq_true hc48)) rfl) ?_
                  cases hq44
                  refine AO.nilE ⟨rfl, rfl⟩ ?_ ?_
                  · exact ⟨rfl, rfl, rfl, rfl, rfl, trivial⟩
                  · exact (Sub.refl _)
                · have hq44 := (if_neg hc48).symm.trans hq44
                  refine AO.calmG 15 false 42 rfl rfl (congrArg (fun b => some (AV.fl (Value.bool b))) (decide_eq_false hc48)) 43 rfl (by decide) (.fz 4 (p0.map e24)) (Calm.move rfl rfl) ?_
                  refine AO.calmG 15 false 42 rfl rfl (congrArg (fun b => some (AV.fl (Value.bool b))) (decide_eq_false hc48)) 44 rfl (by decide) (eI64 x39) (Calm.move rfl rfl) ?_
                  obtain ⟨hg49, hq44⟩ := of_guard hq44
                  refine AO.calmG 15 false 42 rfl rfl (congrArg (fun b => some (AV.fl (Value.bool b))) (decide_eq_false hc48)) 45 rfl (by decide) (.rp (e24 (lget p0 x39))) (Calm.idxL (f := e24) rfl rfl rfl hg49 Try.underlying42 sz24) ?_
                  refine AO.calmG 15 false 42 rfl rfl (congrArg (fun b => some (AV.fl (Value.bool b))) (decide_eq_false hc48)) 46 rfl (by decide) (e24 (lget p0 x39)) (Calm.loadRp rfl rfl ag24 sz24) ?_
                  obtain ⟨t50, et50, hq44⟩ := of_bind hq44
                  refine AO.callG 15 false 42 [(e24 (lget p0 x39))] (eBool t50) 47 rfl (by decide) ok10 rfl rfl (congrArg (fun b => some (AV.fl (Value.bool b))) (decide_eq_false hc48)) rfl rfl ⟨rfl, rfl, trivial⟩ (bosketref06_Right_spec et50) ?_
                  refine AO.calmG 15 false 42 rfl rfl (congrArg (fun b => some (AV.fl (Value.bool b))) (decide_eq_false hc48)) 48 rfl (by decide) (eBool (!t50)) (Calm.not rfl rfl) ?_
                  refine AO.calm rfl 49 rfl (by decide) (eBool (!t50)) (Calm.pickF rfl (congrArg (fun b => some (AV.fl (Value.bool b))) (decide_eq_false hc48)) rfl) ?_
                  cases hq44
                  refine AO.nilE ⟨rfl, rfl⟩ ?_ ?_
                  · exact ⟨rfl, rfl, rfl, rfl, rfl, trivial⟩
                  · exact (Sub.refl _)
            · by_cases hc51 : b43 = true
              · have h := (if_pos hc51).symm.trans h
                refine AW.condT' b43 rfl hc51 ?_
                refine AW.seq ?_
                refine AW.reg ?_
                refine AO.calm rfl 4 rfl (by decide) (eBool true) (Calm.assign rfl rfl) ?_
                refine AO.nil (ρ' := [(4, (eBool true))]) (H' := []) ⟨rfl, trivial⟩ (Sub.refl _) ?_
                refine AW.ret (ρ' := [(4, (eBool true))]) (H' := []) ⟨rfl, trivial⟩ (Sub.refl _) ?_
                have hr := Option.some.inj h
                subst hr
                exact ⟨[(eBool true)], ⟨rfl, rfl, trivial⟩, rfl⟩
              · have h := (if_neg hc51).symm.trans h
                refine AW.condF' b43 rfl hc51 ?_
                refine AW.skip (ρ' := [(0, (.fz 4 (p0.map e24))), (1, (eStr p1)), (5, (eI64 x38)), (6, (eI64 x39))]) (H' := []) ⟨rfl, rfl, rfl, rfl, trivial⟩ (Sub.refl _) ?_
                refine AW.reg ?_
                refine AO.calm rfl 50 rfl (by decide) (eI64 x38) (Calm.move rfl rfl) ?_
                refine AO.calm rfl 51 rfl (by decide) (.fz 4 (p0.map e24)) (Calm.move rfl rfl) ?_
                refine AO.calm rfl 52 rfl (by decide) (eI64 x39) (Calm.move rfl rfl) ?_
                obtain ⟨hg52, h⟩ := of_guard h
                refine AO.calm rfl 53 rfl (by decide) (.rp (e24 (lget p0 x39))) (Calm.idxL (f := e24) rfl rfl rfl hg52 Try.underlying42 sz24) ?_
                refine AO.calm rfl 54 rfl (by decide) (.rp (eI64 ((lget p0 x39).f0))) (Calm.fldRp rfl rfl Try.underlying24 rfl sz3 (At.cast (At.fld0 At.here) rfl)) ?_
                refine AO.calm rfl 55 rfl (by decide) (eI64 ((lget p0 x39).f0)) (Calm.loadRp rfl rfl ag3 sz3) ?_
                refine AO.calm rfl 56 rfl (by decide) (eI64 (w64 (x38 + ((lget p0 x39).f0)))) (Calm.int rfl rfl rfl rfl) ?_
                refine AO.calm rfl 5 rfl (by decide) (eI64 (w64 (x38 + ((lget p0 x39).f0)))) (Calm.assign rfl rfl) ?_
                refine AO.nil (ρ' := [(0, (.fz 4 (p0.map e24))), (1, (eStr p1)), (5, (eI64 (w64 (x38 + ((lget p0 x39).f0))))), (6, (eI64 x39))]) (H' := []) ⟨rfl, rfl, rfl, rfl, trivial⟩ (Sub.refl _) ?_
                refine AW.reg ?_
                refine AO.calm rfl 25 rfl (by decide) (eI64 x39) (Calm.move rfl rfl) ?_
                refine AO.calm rfl 26 rfl (by decide) (eI64 (w64 (x39 + (1 : Int)))) (Calm.int rfl rfl rfl rfl) ?_
                refine AO.calm rfl 6 rfl (by decide) (eI64 (w64 (x39 + (1 : Int)))) (Calm.assign rfl rfl) ?_
                refine AO.nil (ρ' := [(0, (.fz 4 (p0.map e24))), (1, (eStr p1)), (5, (eI64 (w64 (x38 + ((lget p0 x39).f0))))), (6, (eI64 (w64 (x39 + (1 : Int)))))]) (H' := []) ⟨rfl, rfl, rfl, rfl, trivial⟩ (Sub.refl _) ?_
                exact ⟨kq41, Nat.lt_succ_self _, (w64 (x38 + ((lget p0 x39).f0))), (w64 (x39 + (1 : Int))), rfl, rfl, by rw [hrec40]; exact h⟩
          · have h := (if_neg hc42).symm.trans h
            refine AW.condN (x39 < (p0.length : Int)) rfl hc42 ?_
            refine AW.exit (ρ' := [(0, (.fz 4 (p0.map e24))), (1, (eStr p1)), (5, (eI64 x38))]) (H' := []) ⟨rfl, rfl, rfl, trivial⟩ (Sub.refl _) ?_
            exact ⟨x38, rfl, rfl, h⟩
        · rintro _ _ ⟨x9, rfl, rfl, h⟩
          rw [bosketlaw06_NfaUnions_c2.eq_1] at h
          refine AW.seq ?_
          refine AW.reg ?_
          refine AO.calm rfl 58 rfl (by decide) (.fz 4 (p0.map e24)) (Calm.move rfl rfl) ?_
          obtain ⟨t10, et10, h⟩ := of_bind h
          refine AO.callS [(.fz 4 (p0.map e24))] (.tup [(e24 t10.1), (.fz 1 (t10.2.map eI64))]) 59 rfl (by decide) ok20 rfl rfl rfl ⟨rfl, rfl, trivial⟩ (nfa_Union_spec et10) ?_
          refine AO.calm rfl 57 rfl (by decide) (.tup [(e24 t10.1), (.fz 1 (t10.2.map eI64))]) (Calm.move rfl rfl) ?_
          refine AO.calm rfl 60 rfl (by decide) (e24 t10.1) (Calm.extract rfl rfl rfl) ?_
          refine AO.calm rfl 61 rfl (by decide) (.fz 1 (t10.2.map eI64)) (Calm.extract rfl rfl rfl) ?_
          refine AO.alloc rfl 7 rfl (by decide) rfl zr24 lay24 fun n11 => ?_
          refine AO.store (X' := (e24 t10.1)) 0 rfl rfl rfl rfl rfl rfl (Put.cast Put.here rfl) rfl rfl sz24 rfl ?_
          refine AO.calm rfl 8 rfl (by decide) (.fz 1 (t10.2.map eI64)) (Calm.assign rfl rfl) ?_
          refine AO.nil (ρ' := [(0, (.fz 4 (p0.map e24))), (1, (eStr p1)), (5, (eI64 x9)), (7, (.ptr n11 0)), (8, (.fz 1 (t10.2.map eI64)))]) (H' := [(n11, (.mem (e24 t10.1)))]) ⟨rfl, rfl, rfl, rfl, rfl, trivial⟩ (Sub.refl _) ?_
          refine AW.seq ?_
          refine AW.seq ?_
          obtain ⟨b12, hq13, h⟩ := of_bind h
          refine AW.regM [(0, (.fz 4 (p0.map e24))), (1, (eStr p1)), (5, (eI64 x9)), (7, (.ptr n11 0)), (8, (.fz 1 (t10.2.map eI64))), (87, (eBool b12))] [(n11, (.mem (e24 t10.1)))] ?_ ?_
          · refine AO.calm rfl 62 rfl (by decide) (.ptr n11 0) (Calm.fldPtr rfl rfl Try.underlying24 rfl sz3 _ rfl) ?_
            refine AO.calm rfl 63 rfl (by decide) (eI64 t10.1.f0) (Calm.load 0 rfl rfl rfl (At.cast (At.fld0 At.here) rfl) ag3 sz3) ?_
            refine AO.calm rfl 64 rfl (by decide) (eI64 x9) (Calm.move rfl rfl) ?_
            refine AO.calm rfl 65 rfl (by decide) (eBool (decide (t10.1.f0 ≠ x9))) (Calm.int rfl rfl rfl rfl) ?_
            refine AO.calm rfl 66 rfl (by decide) (eBool (decide (t10.1.f0 ≠ x9))) (Calm.move rfl rfl) ?_
            by_cases hc14 : t10.1.f0 ≠ x9
            · have hq13 := (if_pos hc14).symm.trans hq13
              refine AO.skipG 4 true 66 rfl rfl (congrArg (fun b => some (AV.fl (Value.bool b))) (decide_eq_true hc14)) 67 rfl (by decide) ?_
              refine AO.skipG 4 true 66 rfl rfl (congrArg (fun b => some (AV.fl (Value.bool b))) (decide_eq_true hc14)) 68 rfl (by decide) ?_
              refine AO.skipG 4 true 66 rfl rfl (congrArg (fun b => some (AV.fl (Value.bool b))) (decide_eq_true hc14)) 69 rfl (by decide) ?_
              refine AO.calm rfl 70 rfl (by decide) (eBool true) (Calm.pickT rfl (congrArg (fun b => some (AV.fl (Value.bool b))) (decide_eq_true hc14)) rfl) ?_
              refine AO.calm rfl 71 rfl (by decide) (eBool true) (Calm.move rfl rfl) ?_
              refine AO.skipG 9 true 71 rfl rfl rfl 72 rfl (by decide) ?_
              refine AO.skipG 9 true 71 rfl rfl rfl 73 rfl (by decide) ?_
              refine AO.skipG 9 true 71 rfl rfl rfl 74 rfl (by decide) ?_
              refine AO.calm rfl 75 rfl (by decide) (eBool true) (Calm.pickT rfl rfl rfl) ?_
              refine AO.calm rfl 76 rfl (by decide) (eBool true) (Calm.move rfl rfl) ?_
              refine AO.skipG 14 true 76 rfl rfl rfl 77 rfl (by decide) ?_
              refine AO.skipG 14 true 76 rfl rfl rfl 78 rfl (by decide) ?_
              refine AO.skipG 14 true 76 rfl rfl rfl 79 rfl (by decide) ?_
              refine AO.calm rfl 80 rfl (by decide) (eBool true) (Calm.pickT rfl rfl rfl) ?_
              refine AO.calm rfl 81 rfl (by decide) (eBool true) (Calm.move rfl rfl) ?_
              refine AO.skipG 19 true 81 rfl rfl rfl 82 rfl (by decide) ?_
              refine AO.skipG 19 true 81 rfl rfl rfl 83 rfl (by decide) ?_
              refine AO.skipG 19 true 81 rfl rfl rfl 84 rfl (by decide) ?_
              refine AO.skipG 19 true 81 rfl rfl rfl 85 rfl (by decide) ?_
              refine AO.skipG 19 true 81 rfl rfl rfl 86 rfl (by decide) ?_
              refine AO.calm rfl 87 rfl (by decide) (eBool true) (Calm.pickT rfl rfl rfl) ?_
              cases hq13
              refine AO.nilE ⟨rfl, rfl⟩ ?_ ?_
              · exact ⟨rfl, rfl, rfl, rfl, rfl, rfl, trivial⟩
              · exact (Sub.refl _)
            · have hq13 := (if_neg hc14).symm.trans hq13
              refine AO.calmG 4 false 66 rfl rfl (congrArg (fun b => some (AV.fl (Value.bool b))) (decide_eq_false hc14)) 67 rfl (by decide) (.ptr n11 2) (Calm.fldPtr rfl rfl Try.underlying24 rfl sz3 _ rfl) ?_
              refine AO.calmG 4 false 66 rfl rfl (congrArg (fun b => some (AV.fl (Value.bool b))) (decide_eq_false hc14)) 68 rfl (by decide) (eI64 t10.1.f2) (Calm.load 0 rfl rfl rfl (At.cast (At.fldS (At.fldS (At.fld0 At.here))) rfl) ag3 sz3) ?_
              refine AO.calmG 4 false 66 rfl rfl (congrArg (fun b => some (AV.fl (Value.bool b))) (decide_eq_false hc14)) 69 rfl (by decide) (eBool (decide (t10.1.f2 ≠ (0 : Int)))) (Calm.int rfl rfl rfl rfl) ?_
              refine AO.calm rfl 70 rfl (by decide) (eBool (decide (t10.1.f2 ≠ (0 : Int)))) (Calm.pickF rfl (congrArg (fun b => some (AV.fl (Value.bool b))) (decide_eq_false hc14)) rfl) ?_
              refine AO.calm rfl 71 rfl (by decide) (eBool (decide (t10.1.f2 ≠ (0 : Int)))) (Calm.move rfl rfl) ?_
              by_cases hc15 : t10.1.f2 ≠ (0 : Int)
              · have hq13 := (if_pos hc15).symm.trans hq13
                refine AO.skipG 9 true 71 rfl rfl (congrArg (fun b => some (AV.fl (Value.bool b))) (decide_eq_true hc15)) 72 rfl (by decide) ?_
                refine AO.skipG 9 true 71 rfl rfl (congrArg (fun b => some (AV.fl (Value.bool b))) (decide_eq_true hc15)) 73 rfl (by decide) ?_
                refine AO.skipG 9 true 71 rfl rfl (congrArg (fun b => some (AV.fl (Value.bool b))) (decide_eq_true hc15)) 74 rfl (by decide) ?_
                refine AO.calm rfl 75 rfl (by decide) (eBool true) (Calm.pickT rfl (congrArg (fun b => some (AV.fl (Value.bool b))) (decide_eq_true hc15)) rfl) ?_
                refine AO.calm rfl 76 rfl (by decide) (eBool true) (Calm.move rfl rfl) ?_
                refine AO.skipG 14 true 76 rfl rfl rfl 77 rfl (by decide) ?_
                refine AO.skipG 14 true 76 rfl rfl rfl 78 rfl (by decide) ?_
                refine AO.skipG 14 true 76 rfl rfl rfl 79 rfl (by decide) ?_
                refine AO.calm rfl 80 rfl (by decide) (eBool true) (Calm.pickT rfl rfl rfl) ?_
                refine AO.calm rfl 81 rfl (by decide) (eBool true) (Calm.move rfl rfl) ?_
                refine AO.skipG 19 true 81 rfl rfl rfl 82 rfl (by decide) ?_
                refine AO.skipG 19 true 81 rfl rfl rfl 83 rfl (by decide) ?_
                refine AO.skipG 19 true 81 rfl rfl rfl 84 rfl (by decide) ?_
                refine AO.skipG 19 true 81 rfl rfl rfl 85 rfl (by decide) ?_
                refine AO.skipG 19 true 81 rfl rfl rfl 86 rfl (by decide) ?_
                refine AO.calm rfl 87 rfl (by decide) (eBool true) (Calm.pickT rfl rfl rfl) ?_
                cases hq13
                refine AO.nilE ⟨rfl, rfl⟩ ?_ ?_
                · exact ⟨rfl, rfl, rfl, rfl, rfl, rfl, trivial⟩
                · exact (Sub.refl _)
              · have hq13 := (if_neg hc15).symm.trans hq13
                refine AO.calmG 9 false 71 rfl rfl (congrArg (fun b => some (AV.fl (Value.bool b))) (decide_eq_false hc15)) 72 rfl (by decide) (.ptr n11 3) (Calm.fldPtr rfl rfl Try.underlying24 rfl sz3 _ rfl) ?_
                refine AO.calmG 9 false 71 rfl rfl (congrArg (fun b => some (AV.fl (Value.bool b))) (decide_eq_false hc15)) 73 rfl (by decide) (eI64 t10.1.f3) (Calm.load 0 rfl rfl rfl (At.cast (At.fldS (At.fldS (At.fldS (At.fld0 At.here)))) rfl) ag3 sz3) ?_
                refine AO.calmG 9 false 71 rfl rfl (congrArg (fun b => some (AV.fl (Value.bool b))) (decide_eq_false hc15)) 74 rfl (by decide) (eBool (decide (t10.1.f3 ≠ (0 : Int)))) (Calm.int rfl rfl rfl rfl) ?_
                refine AO.calm rfl 75 rfl (by decide) (eBool (decide (t10.1.f3 ≠ (0 : Int)))) (Calm.pickF rfl (congrArg (fun b => some (AV.fl (Value.bool b))) (decide_eq_false hc15)) rfl) ?_
                refine AO.calm rfl 76 rfl (by decide) (eBool (decide (t10.1.f3 ≠ (0 : Int)))) (Calm.move rfl rfl) ?_
                by_cases hc16 : t10.1.f3 ≠ (0 : Int)
                · have hq13 := (if_pos hc16).symm.trans hq13
                  refine AO.skipG 14 true 76 rfl rfl (congrArg (fun b => some (AV.fl (Value.bool b))) (decide_eq_true hc16)) 77 rfl (by decide) ?_
                  refine AO.skipG 14 true 76 rfl rfl (congrArg (fun b => some (AV.fl (Value.bool b))) (decide_eq_true hc16)) 78 rfl (by decide) ?_
                  refine AO.skipG 14 true 76 rfl rfl (congrArg (fun b => some (AV.fl (Value.bool b))) (decide_eq_true hc16)) 79 rfl (by decide) ?_
                  refine AO.calm rfl 80 rfl (by decide) (eBool true) (Calm.pickT rfl (congrArg (fun b => some (AV.fl (Value.bool b))) (decide_eq_true hc16)) rfl) ?_
                  refine AO.calm rfl 81 rfl (by decide) (eBool true) (Calm.move rfl rfl) ?_
                  refine AO.skipG 19 true 81 rfl rfl rfl 82 rfl (by decide) ?_
                  refine AO.skipG 19 true 81 rfl rfl rfl 83 rfl (by decide) ?_
                  refine AO.skipG 19 true 81 rfl rfl rfl 84 rfl (by decide) ?_
                  refine AO.skipG 19 true 81 rfl rfl rfl 85 rfl (by decide) ?_
                  refine AO.skipG 19 true 81 rfl rfl rfl 86 rfl (by decide) ?_
                  refine AO.calm rfl 87 rfl (by decide) (eBool true) (Calm.pickT rfl rfl rfl) ?_
                  cases hq13
                  refine AO.nilE ⟨rfl, rfl⟩ ?_ ?_
                  · exact ⟨rfl, rfl, rfl, rfl, rfl, rfl, trivial⟩
                  · exact (Sub.refl _)
                · have hq13 := (if_neg hc16).symm.trans hq13
                  refine AO.calmG 14 false 76 rfl rfl (congrArg (fun b => some (AV.fl (Value.bool b))) (decide_eq_false hc16)) 77 rfl (by decide) (e24 t10.1) (Calm.load 0 rfl rfl rfl (At.cast At.here rfl) ag24 sz24) ?_
                  obtain ⟨t17, et17, hq13⟩ := of_bind hq13
                  refine AO.callG 14 false 76 [(e24 t10.1)] (eBool t17) 78 rfl (by decide) ok10 rfl rfl (congrArg (fun b => some (AV.fl (Value.bool b))) (decide_eq_false hc16)) rfl rfl ⟨rfl, rfl, trivial⟩ (bosketref06_Right_spec et17) ?_
                  refine AO.calmG 14 false 76 rfl rfl (congrArg (fun b => some (AV.fl (Value.bool b))) (decide_eq_false hc16)) 79 rfl (by decide) (eBool (!t17)) (Calm.not rfl rfl) ?_
                  refine AO.calm rfl 80 rfl (by decide) (eBool (!t17)) (Calm.pickF rfl (congrArg (fun b => some (AV.fl (Value.bool b))) (decide_eq_false hc16)) rfl) ?_
                  refine AO.calm rfl 81 rfl (by decide) (eBool (!t17)) (Calm.move rfl rfl) ?_
                  by_cases hc18 : (!t17) = true
                  · have hq13 := (if_pos hc18).symm.trans hq13
                    refine AO.skipG 19 true 81 rfl rfl (congrArg (fun b => some (AV.fl (Value.bool b))) hc18) 82 rfl (by decide) ?_
                    refine AO.skipG 19 true 81 rfl rfl (congrArg (fun b => some (AV.fl (Value.bool b))) hc18) 83 rfl (by decide) ?_
                    refine AO.skipG 19 true 81 rfl rfl (congrArg (fun b => some (AV.fl (Value.bool b))) hc18) 84 rfl (by decide) ?_
                    refine AO.skipG 19 true 81 rfl rfl (congrArg (fun b => some (AV.fl (Value.bool b))) hc18) 85 rfl (by decide) ?_
                    refine AO.skipG 19 true 81 rfl rfl (congrArg (fun b => some (AV.fl (Value.bool b))) hc18) 86 rfl (by decide) ?_
                    refine AO.calm rfl 87 rfl (by decide) (eBool true) (Calm.pickT rfl (congrArg (fun b => some (AV.fl (Value.bool b))) hc18) rfl) ?_
                    cases hq13
                    refine AO.nilE ⟨rfl, rfl⟩ ?_ ?_
                    · exact ⟨rfl, rfl, rfl, rfl, rfl, rfl, trivial⟩
                    · exact (Sub.refl _)
                  · have hq13 := (if_neg hc18).symm.trans hq13
                    refine AO.calmG 19 false 81 rfl rfl (congrArg (fun b => some (AV.fl (Value.bool b))) (eq_false_of_ne_true hc18)) 82 rfl (by decide) (.fz 1 (t10.2.map eI64)) (Calm.move rfl rfl) ?_
                    refine AO.calmG 19 false 81 rfl rfl (congrArg (fun b => some (AV.fl (Value.bool b))) (eq_false_of_ne_true hc18)) 83 rfl (by decide) (eI64 (t10.2.length : Int)) (Calm.lenL rfl rfl Try.underlying43) ?_
                    refine AO.calmG 19 false 81 rfl rfl (congrArg (fun b => some (AV.fl (Value.bool b))) (eq_false_of_ne_true hc18)) 84 rfl (by decide) (.fz 4 (p0.map e24)) (Calm.move rfl rfl) ?_
                    refine AO.calmG 19 false 81 rfl rfl (congrArg (fun b => some (AV.fl (Value.bool b))) (eq_false_of_ne_true hc18)) 85 rfl (by decide) (eI64 (p0.length : Int)) (Calm.lenL rfl rfl Try.underlying42) ?_
                    refine AO.calmG 19 false 81 rfl rfl (congrArg (fun b => some (AV.fl (Value.bool b))) (eq_false_of_ne_true hc18)) 86 rfl (by decide) (eBool (decide ((t10.2.length : Int) ≠ (p0.length : Int)))) (Calm.int rfl rfl rfl rfl) ?_
                    refine AO.calm rfl 87 rfl (by decide) (eBool (decide ((t10.2.length : Int) ≠ (p0.length : Int)))) (Calm.pickF rfl (congrArg (fun b => some (AV.fl (Value.bool b))) (eq_false_of_ne_true hc18)) rfl) ?_
                    cases hq13
                    refine AO.nilE ⟨rfl, rfl⟩ ?_ ?_
                    · exact ⟨rfl, rfl, rfl, rfl, rfl, rfl, trivial⟩
                    · exact (Sub.refl _)
          · by_cases hc19 : b12 = true
            · have h := (if_pos hc19).symm.trans h
              refine AW.condT' b12 rfl hc19 ?_
              refine AW.seq ?_
              refine AW.reg ?_
              refine AO.calm rfl 4 rfl (by decide) (eBool false) (Calm.assign rfl rfl) ?_
              refine AO.nil (ρ' := [(4, (eBool false))]) (H' := []) ⟨rfl, trivial⟩ (Sub.nil _) ?_
              refine AW.ret (ρ' := [(4, (eBool false))]) (H' := []) ⟨rfl, trivial⟩ (Sub.refl _) ?_
              have hr := Option.some.inj h
              subst hr
              exact ⟨[(eBool false)], ⟨rfl, rfl, trivial⟩, rfl⟩
            · have h := (if_neg hc19).symm.trans h
              refine AW.condF' b12 rfl hc19 ?_
              refine AW.skip (ρ' := [(0, (.fz 4 (p0.map e24))), (1, (eStr p1)), (5, (eI64 x9)), (7, (.ptr n11 0)), (8, (.fz 1 (t10.2.map eI64)))]) (H' := [(n11, (.mem (e24 t10.1)))]) ⟨rfl, rfl, rfl, rfl, rfl, trivial⟩ (Sub.refl _) ?_
              refine AW.seq ?_
              refine AW.reg ?_
              refine AO.calm rfl 88 rfl (by decide) (e24 t10.1) (Calm.load 0 rfl rfl rfl (At.cast At.here rfl) ag24 sz24) ?_
              refine AO.calm rfl 89 rfl (by decide) (eStr p1) (Calm.move rfl rfl) ?_
              obtain ⟨t20, et20, h⟩ := of_bind h
              refine AO.callS [(e24 t10.1), (eStr p1)] (.fz 1 (t20.map eBool)) 90 rfl (by decide) ok19 rfl rfl rfl ⟨rfl, rfl, rfl, rfl, trivial⟩ (bosketref06_Run_spec et20) ?_
              refine AO.calm rfl 9 rfl (by decide) (.fz 1 (t20.map eBool)) (Calm.assign rfl rfl) ?_
              refine AO.nil (ρ' := [(0, (.fz 4 (p0.map e24))), (1, (eStr p1)), (5, (eI64 x9)), (8, (.fz 1 (t10.2.map eI64))), (9, (.fz 1 (t20.map eBool)))]) (H' := []) ⟨rfl, rfl, rfl, rfl, rfl, trivial⟩ (Sub.nil _) ?_
              refine AW.seq_mid (fun ρ H => ρ = [] ∧ H = [] ∧ bosketlaw06_NfaUnions_c0 k = some r) ?_ ?_
              · refine AW.seq ?_
                refine AW.reg ?_
                refine AO.calm rfl 10 rfl (by decide) (eI64 (0 : Int)) (Calm.assign rfl rfl) ?_
                refine AO.nil (ρ' := [(0, (.fz 4 (p0.map e24))), (1, (eStr p1)), (5, (eI64 x9)), (8, (.fz 1 (t10.2.map eI64))), (9, (.fz 1 (t20.map eBool))), (10, (eI64 (0 : Int)))]) (H' := []) ⟨rfl, rfl, rfl, rfl, rfl, rfl, trivial⟩ (Sub.refl _) ?_
                refine AW.block ?_
                refine AW.weak (ρ' := [(0, (.fz 4 (p0.map e24))), (1, (eStr p1)), (5, (eI64 x9)), (8, (.fz 1 (t10.2.map eI64))), (9, (.fz 1 (t20.map eBool))), (10, (eI64 (0 : Int)))]) (H' := []) ⟨rfl, rfl, rfl, rfl, rfl, rfl, trivial⟩ (Sub.refl _) ?_
                refine AW.loop (fun kq ρ H => ∃ (x21 : Int), ρ = [(0, (.fz 4 (p0.map e24))), (1, (eStr p1)), (5, (eI64 x9)), (8, (.fz 1 (t10.2.map eI64))), (9, (.fz 1 (t20.map eBool))), (10, (eI64 x21))] ∧ H = [] ∧ bosketlaw06_NfaUnions_l1 k p0 p1 x9 t10 t20 kq x21 = some r) k ⟨(0 : Int), rfl, rfl, h⟩ ?_
                rintro kq23 _ _ ⟨x21, rfl, rfl, h⟩
                cases kq23 with
                | zero => rw [bosketlaw06_NfaUnions_l1.eq_1] at h; cases h
                | succ kq23 =>
                rw [bosketlaw06_NfaUnions_l1.eq_2] at h
                generalize hrec22 : bosketlaw06_NfaUnions_l1 k p0 p1 x9 t10 t20 kq23 = rec22 at h
                refine AW.seq ?_
                refine AW.seq ?_
                refine AW.reg ?_
                refine AO.calm rfl 91 rfl (by decide) (eI64 x21) (Calm.move rfl rfl) ?_
                refine AO.calm rfl 92 rfl (by decide) (.fz 4 (p0.map e24)) (Calm.move rfl rfl) ?_
                refine AO.calm rfl 93 rfl (by decide) (eI64 (p0.length : Int)) (Calm.lenL rfl rfl Try.underlying42) ?_
                refine AO.calm rfl 94 rfl (by decide) (eBool (decide (x21 < (p0.length : Int)))) (Calm.int rfl rfl rfl rfl) ?_
                refine AO.nil (ρ' := [(0, (.fz 4 (p0.map e24))), (1, (eStr p1)), (5, (eI64 x9)), (8, (.fz 1 (t10.2.map eI64))), (9, (.fz 1 (t20.map eBool))), (10, (eI64 x21)), (94, (eBool (decide (x21 < (p0.length : Int)))))]) (H' := []) ⟨rfl, rfl, rfl, rfl, rfl, rfl, rfl, trivial⟩ (Sub.refl _) ?_
                by_cases hc24 : x21 < (p0.length : Int)
                · have h := (if_pos hc24).symm.trans h
                  refine AW.condP (x21 < (p0.length : Int)) rfl hc24 ?_
                  refine AW.skip (ρ' := [(0, (.fz 4 (p0.map e24))), (1, (eStr p1)), (5, (eI64 x9)), (8, (.fz 1 (t10.2.map eI64))), (9, (.fz 1 (t20.map eBool))), (10, (eI64 x21))]) (H' := []) ⟨rfl, rfl, rfl, rfl, rfl, rfl, trivial⟩ (Sub.refl _) ?_
                  refine AW.seq ?_
                  refine AW.block ?_
                  refine AW.seq ?_
                  obtain ⟨b25, hq26, h⟩ := of_bind h
                  refine AW.toM [(0, (.fz 4 (p0.map e24))), (1, (eStr p1)), (5, (eI64 x9)), (8, (.fz 1 (t10.2.map eI64))), (9, (.fz 1 (t20.map eBool))), (10, (eI64 x21)), (132, (eBool b25))] [] ?_ ?_
                  · obtain ⟨hg27, hq26⟩ := of_guard hq26
                    by_cases hc28 : (lget t10.2 x21) < (0 : Int)
                    · have hq26 := (if_pos hc28).symm.trans hq26
                      refine AW.regAny (by rfl) (by decide +kernel) [(.fz 1 (t10.2.map eI64)), (eI64 x21), (.rp (eI64 (lget t10.2 x21))), (eI64 (lget t10.2 x21)), (eBool (decide ((lget t10.2 x21) < (0 : Int)))), (eBool (decide ((lget t10.2 x21) < (0 : Int)))), (.fl undef), (.fl undef), (.fl undef), (.fl undef), (.fl undef), (.fl undef), (eBool true), (eBool true), (.fl undef), (.fl undef), (.fl undef), (.fl undef), (.fl undef), (.fl undef), (.fl undef), (.fl undef), (.fl undef), (.fl undef), (.fl undef), (.fl undef), (.fl undef), (.fl undef), (.fl undef), (.fl undef), (.fl undef), (.fl undef), (.fl undef), (.fl undef), (.fl undef), (eBool true)] [(0, (.fz 4 (p0.map e24))), (1, (eStr p1)), (5, (eI64 x9)), (8, (.fz 1 (t10.2.map eI64))), (9, (.fz 1 (t20.map eBool))), (10, (eI64 x21))] ⟨rfl, rfl, rfl, rfl, rfl, rfl, trivial⟩ rfl ?_ [(0, (.fz 4 (p0.map e24))), (1, (eStr p1)), (5, (eI64 x9)), (8, (.fz 1 (t10.2.map eI64))), (9, (.fz 1 (t20.map eBool))), (10, (eI64 x21)), (132, (eBool true))] [] ⟨rfl, rfl, rfl, rfl, rfl, rfl, rfl, trivial⟩ (Sub.refl _) ?_
                      · refine ⟨?_, ?_, ?_, ?_, ?_, ?_, ?_, ?_, ?_, ?_, ?_, ?_, ?_, ?_, ?_, ?_, ?_, ?_, ?_, ?_, ?_, ?_, ?_, ?_, ?_, ?_, ?_, ?_, ?_, ?_, ?_, ?_, ?_, ?_, ?_, ?_, trivial⟩
                        · refine AO.weak (ρ' := [(8, (.fz 1 (t10.2.map eI64)))]) (H' := []) ⟨rfl, trivial⟩ (Sub.refl _) ?_
                          refine AO.calm rfl 97 rfl (by decide) (.fz 1 (t10.2.map eI64)) (Calm.move rfl rfl) ?_
                          exact AO.nilE (ρ' := [(97, (.fz 1 (t10.2.map eI64)))]) (H' := []) ⟨⟨_, rfl, rfl⟩, Sub.refl _⟩ ⟨rfl, trivial⟩ (Sub.refl _)
                        · refine AO.weak (ρ' := [(10, (eI64 x21))]) (H' := []) ⟨rfl, trivial⟩ (Sub.refl _) ?_
                          refine AO.calm rfl 98 rfl (by decide) (eI64 x21) (Calm.move rfl rfl) ?_
                          exact AO.nilE (ρ' := [(98, (eI64 x21))]) (H' := []) ⟨⟨_, rfl, rfl⟩, Sub.refl _⟩ ⟨rfl, trivial⟩ (Sub.refl _)
                        · refine AO.weak (ρ' := [(97, (.fz 1 (t10.2.map eI64))), (98, (eI64 x21))]) (H' := []) ⟨rfl, rfl, trivial⟩ (Sub.refl _) ?_
                          refine AO.calm rfl 99 rfl (by decide) (.rp (eI64 (lget t10.2 x21))) (Calm.idxL (f := eI64) rfl rfl rfl hg27 Try.underlying43 sz3) ?_
                          exact AO.nilE (ρ' := [(99, (.rp (eI64 (lget t10.2 x21))))]) (H' := []) ⟨⟨_, rfl, rfl⟩, Sub.refl _⟩ ⟨rfl, trivial⟩ (Sub.refl _)
                        · refine AO.weak (ρ' := [(99, (.rp (eI64 (lget t10.2 x21))))]) (H' := []) ⟨rfl, trivial⟩ (Sub.refl _) ?_
                          refine AO.calm rfl 100 rfl (by decide) (eI64 (lget t10.2 x21)) (Calm.loadRp rfl rfl ag3 sz3) ?_
                          exact AO.nilE (ρ' := [(100, (eI64 (lget t10.2 x21)))]) (H' := []) ⟨⟨_, rfl, rfl⟩, Sub.refl _⟩ ⟨rfl, trivial⟩ (Sub.refl _)
                        · refine AO.weak (ρ' := [(100, (eI64 (lget t10.2 x21)))]) (H' := []) ⟨rfl, trivial⟩ (Sub.refl _) ?_
                          refine AO.calm rfl 101 rfl (by decide) (eBool (decide ((lget t10.2 x21) < (0 : Int)))) (Calm.int rfl rfl rfl rfl) ?_
                          exact AO.nilE (ρ' := [(101, (eBool (decide ((lget t10.2 x21) < (0 : Int)))))]) (H' := []) ⟨⟨_, rfl, rfl⟩, Sub.refl _⟩ ⟨rfl, trivial⟩ (Sub.refl _)
                        · refine AO.weak (ρ' := [(101, (eBool (decide ((lget t10.2 x21) < (0 : Int)))))]) (H' := []) ⟨rfl, trivial⟩ (Sub.refl _) ?_
                          refine AO.calm rfl 102 rfl (by decide) (eBool (decide ((lget t10.2 x21) < (0 : Int)))) (Calm.move rfl rfl) ?_
                          exact AO.nilE (ρ' := [(102, (eBool (decide ((lget t10.2 x21) < (0 : Int)))))]) (H' := []) ⟨⟨_, rfl, rfl⟩, Sub.refl _⟩ ⟨rfl, trivial⟩ (Sub.refl _)
                        · refine AO.weak (ρ' := [(102, (eBool (decide ((lget t10.2 x21) < (0 : Int)))))]) (H' := []) ⟨rfl, trivial⟩ (Sub.refl _) ?_
                          refine AO.skipG 5 true 102 rfl rfl (congrArg (fun b => some (AV.fl (Value.bool b))) (decide_eq_true hc28)) 103 rfl (by decide) ?_
                          exact AO.nilE (ρ' := [(103, (.fl undef))]) (H' := []) ⟨⟨_, rfl, rfl⟩, Sub.refl _⟩ ⟨rfl, trivial⟩ (Sub.refl _)
                        · refine AO.weak (ρ' := [(102, (eBool (decide ((lget t10.2 x21) < (0 : Int)))))]) (H' := []) ⟨rfl, trivial⟩ (Sub.refl _) ?_
                          refine AO.skipG 5 true 102 rfl rfl (congrArg (fun b => some (AV.fl (Value.bool b))) (decide_eq_true hc28)) 104 rfl (by decide) ?_
                          exact AO.nilE (ρ' := [(104, (.fl undef))]) (H' := []) ⟨⟨_, rfl, rfl⟩, Sub.refl _⟩ ⟨rfl, trivial⟩ (Sub.refl _)
                        · refine AO.weak (ρ' := [(102, (eBool (decide ((lget t10.2 x21) < (0 : Int)))))]) (H' := []) ⟨rfl, trivial⟩ (Sub.refl _) ?_
                          refine AO.skipG 5 true 102 rfl rfl (congrArg (fun b => some (AV.fl (Value.bool b))) (decide_eq_true hc28)) 105 rfl (by decide) ?_
                          exact AO.nilE (ρ' := [(105, (.fl undef))]) (H' := []) ⟨⟨_, rfl, rfl⟩, Sub.refl _⟩ ⟨rfl, trivial⟩ (Sub.refl _)
                        · refine AO.weak (ρ' := [(102, (eBool (decide ((lget t10.2 x21) < (0 : Int)))))]) (H' := []) ⟨rfl, trivial⟩ (Sub.refl _) ?_
                          refine AO.skipG 5 true 102 rfl rfl (congrArg (fun b => some (AV.fl (Value.bool b))) (decide_eq_true hc28)) 106 rfl (by decide) ?_
                          exact AO.nilE (ρ' := [(106, (.fl undef))]) (H' := []) ⟨⟨_, rfl, rfl⟩, Sub.refl _⟩ ⟨rfl, trivial⟩ (Sub.refl _)
                        · refine AO.weak (ρ' := [(102, (eBool (decide ((lget t10.2 x21) < (0 : Int)))))]) (H' := []) ⟨rfl, trivial⟩ (Sub.refl _) ?_
                          refine AO.skipG 5 true 102 rfl rfl (congrArg (fun b => some (AV.fl (Value.bool b))) (decide_eq_true hc28)) 107 rfl (by decide) ?_
                          exact AO.nilE (ρ' := [(107, (.fl undef))]) (H' := []) ⟨⟨_, rfl, rfl⟩, Sub.refl _⟩ ⟨rfl, trivial⟩ (Sub.refl _)
                        · refine AO.weak (ρ' := [(102, (eBool (decide ((lget t10.2 x21) < (0 : Int)))))]) (H' := []) ⟨rfl, trivial⟩ (Sub.refl _) ?_
                          refine AO.skipG 5 true 102 rfl rfl (congrArg (fun b => some (AV.fl (Value.bool b))) (decide_eq_true hc28)) 108 rfl (by decide) ?_
                          exact AO.nilE (ρ' := [(108, (.fl undef))]) (H' := []) ⟨⟨_, rfl, rfl⟩, Sub.refl _⟩ ⟨rfl, trivial⟩ (Sub.refl _)
                        · refine AO.weak (ρ' := [(102, (eBool (decide ((lget t10.2 x21) < (0 : Int))))), (108, (.fl undef))]) (H' := []) ⟨rfl, rfl, trivial⟩ (Sub.refl _) ?_
                          refine AO.calm rfl 109 rfl (by decide) (eBool true) (Calm.pickT rfl (congrArg (fun b => some (AV.fl (Value.bool b))) (decide_eq_true hc28)) rfl) ?_
                          exact AO.nilE (ρ' := [(109, (eBool true))]) (H' := []) ⟨⟨_, rfl, rfl⟩, Sub.refl _⟩ ⟨rfl, trivial⟩ (Sub.refl _)
                        · refine AO.weak (ρ' := [(109, (eBool true))]) (H' := []) ⟨rfl, trivial⟩ (Sub.refl _) ?_
                          refine AO.calm rfl 110 rfl (by decide) (eBool true) (Calm.move rfl rfl) ?_
                          exact AO.nilE (ρ' := [(110, (eBool true))]) (H' := []) ⟨⟨_, rfl, rfl⟩, Sub.refl _⟩ ⟨rfl, trivial⟩ (Sub.refl _)
                        · refine AO.weak (ρ' := [(110, (eBool true))]) (H' := []) ⟨rfl, trivial⟩ (Sub.refl _) ?_
                          refine AO.skipG 13 true 110 rfl rfl rfl 111 rfl (by decide) ?_
                          exact AO.nilE (ρ' := [(111, (.fl undef))]) (H' := []) ⟨⟨_, rfl, rfl⟩, Sub.refl _⟩ ⟨rfl, trivial⟩ (Sub.refl _)
                        · refine AO.weak (ρ' := [(110, (eBool true))]) (H' := []) ⟨rfl, trivial⟩ (Sub.refl _) ?_
                          refine AO.skipG 13 true 110 rfl rfl rfl 112 rfl (by decide) ?_
                          exact AO.nilE (ρ' := [(112, (.fl undef))]) (H' := []) ⟨⟨_, rfl, rfl⟩, Sub.refl _⟩ ⟨rfl, trivial⟩ (Sub.refl _)
                        · refine AO.weak (ρ' := [(110, (eBool true))]) (H' := []) ⟨rfl, trivial⟩ (Sub.refl _) ?_
                          refine AO.skipG 13 true 110 rfl rfl rfl 113 rfl (by decide) ?_
                          exact AO.nilE (ρ' := [(113, (.fl undef))]) (H' := []) ⟨⟨_, rfl, rfl⟩, Sub.refl _⟩ ⟨rfl, trivial⟩ (Sub.refl _)
                        · refine AO.weak (ρ' := [(110, (eBool true))]) (H' := []) ⟨rfl, trivial⟩ (Sub.refl _) ?_
                          refine AO.skipG 13 true 110 rfl rfl rfl 114 rfl (by decide) ?_
                          exact AO.nilE (ρ' := [(114, (.fl undef))]) (H' := []) ⟨⟨_, rfl, rfl⟩, Sub.refl _⟩ ⟨rfl, trivial⟩ (Sub.refl _)
                        · refine AO.weak (ρ' := [(110, (eBool true))]) (H' := []) ⟨rfl, trivial⟩ (Sub.refl _) ?_
                          refine AO.skipG 13 true 110 rfl rfl rfl 115 rfl (by decide) ?_
                          exact AO.nilE (ρ' := [(115, (.fl undef))]) (H' := []) ⟨⟨_, rfl, rfl⟩, Sub.refl _⟩ ⟨rfl, trivial⟩ (Sub.refl _)
                        · refine AO.weak (ρ' := [(110, (eBool true))]) (H' := []) ⟨rfl, trivial⟩ (Sub.refl _) ?_
                          refine AO.skipG 13 true 110 rfl rfl rfl 116 rfl (by decide) ?_
                          exact AO.nilE (ρ' := [(116, (.fl undef))]) (H' := []) ⟨⟨_, rfl, rfl⟩, Sub.refl _⟩ ⟨rfl, trivial⟩ (Sub.refl _)
                        · refine AO.weak (ρ' := [(110, (eBool true))]) (H' := []) ⟨rfl, trivial⟩ (Sub.refl _) ?_
                          refine AO.skipG 13 true 110 rfl rfl rfl 117 rfl (by decide) ?_
                          exact AO.nilE (ρ' := [(117, (.fl undef))]) (H' := []) ⟨⟨_, rfl, rfl⟩, Sub.refl _⟩ ⟨rfl, trivial⟩ (Sub.refl _)
                        · refine AO.weak (ρ' := [(110, (eBool true))]) (H' := []) ⟨rfl, trivial⟩ (Sub.refl _) ?_
                          refine AO.skipG 13 true 110 rfl rfl rfl 118 rfl (by decide) ?_
                          exact AO.nilE (ρ' := [(118, (.fl undef))]) (H' := []) ⟨⟨_, rfl, rfl⟩, Sub.refl _⟩ ⟨rfl, trivial⟩ (Sub.refl _)
                        · refine AO.weak (ρ' := [(110, (eBool true))]) (H' := []) ⟨rfl, trivial⟩ (Sub.refl _) ?_
                          refine AO.skipG 13 true 110 rfl rfl rfl 119 rfl (by decide) ?_
                          exact AO.nilE (ρ' := [(119, (.fl undef))]) (H' := []) ⟨⟨_, rfl, rfl⟩, Sub.refl _⟩ ⟨rfl, trivial⟩ (Sub.refl _)
                        · refine AO.weak (ρ' := [(110, (eBool true))]) (H' := []) ⟨rfl, trivial⟩ (Sub.refl _) ?_
                          refine AO.skipG 13 true 110 rfl rfl rfl 120 rfl (by decide) ?_
                          exact AO.nilE (ρ' := [(120, (.fl undef))]) (H' := []) ⟨⟨_, rfl, rfl⟩, Sub.refl _⟩ ⟨rfl, trivial⟩ (Sub.refl _)
                        · refine AO.weak (ρ' := [(110, (eBool true))]) (H' := []) ⟨rfl, trivial⟩ (Sub.refl _) ?_
                          refine AO.skipG 13 true 110 rfl rfl rfl 121 rfl (by decide) ?_
                          exact AO.nilE (ρ' := [(121, (.fl undef))]) (H' := []) ⟨⟨_, rfl, rfl⟩, Sub.refl _⟩ ⟨rfl, trivial⟩ (Sub.refl _)
                        · refine AO.weak (ρ' := [(110, (eBool true))]) (H' := []) ⟨rfl, trivial⟩ (Sub.refl _) ?_
                          refine AO.skipG 13 true 110 rfl rfl rfl 122 rfl (by decide) ?_
                          exact AO.nilE (ρ' := [(122, (.fl undef))]) (H' := []) ⟨⟨_, rfl, rfl⟩, Sub.refl _⟩ ⟨rfl, trivial⟩ (Sub.refl _)
                        · refine AO.weak (ρ' := [(110, (eBool true))]) (H' := []) ⟨rfl, trivial⟩ (Sub.refl _) ?_
                          refine AO.skipG 13 true 110 rfl rfl rfl 123 rfl (by decide) ?_
                          exact AO.nilE (ρ' := [(123, (.fl undef))]) (H' := []) ⟨⟨_, rfl, rfl⟩, Sub.refl _⟩ ⟨rfl, trivial⟩ (Sub.refl _)
                        · refine AO.weak (ρ' := [(110, (eBool true))]) (H' := []) ⟨rfl, trivial⟩ (Sub.refl _) ?_
                          refine AO.skipG 13 true 110 rfl rfl rfl 124 rfl (by decide) ?_
                          exact AO.nilE (ρ' := [(124, (.fl undef))]) (H' := []) ⟨⟨_, rfl, rfl⟩, Sub.refl _⟩ ⟨rfl, trivial⟩ (Sub.refl _)
                        · refine AO.weak (ρ' := [(110, (eBool true))]) (H' := []) ⟨rfl, trivial⟩ (Sub.refl _) ?_
                          refine AO.skipG 13 true 110 rfl rfl rfl 125 rfl (by decide) ?_
                          exact AO.nilE (ρ' := [(125, (.fl undef))]) (H' := []) ⟨⟨_, rfl, rfl⟩, Sub.refl _⟩ ⟨rfl, trivial⟩ (Sub.refl _)
                        · refine AO.weak (ρ' := [(110, (eBool true))]) (H' := []) ⟨rfl, trivial⟩ (Sub.refl _) ?_
                          refine AO.skipG 13 true 110 rfl rfl rfl 126 rfl (by decide) ?_
                          exact AO.nilE (ρ' := [(126, (.fl undef))]) (H' := []) ⟨⟨_, rfl, rfl⟩, Sub.refl _⟩ ⟨rfl, trivial⟩ (Sub.refl _)
                        · refine AO.weak (ρ' := [(110, (eBool true))]) (H' := []) ⟨rfl, trivial⟩ (Sub.refl _) ?_
                          refine AO.skipG 13 true 110 rfl rfl rfl 127 rfl (by decide) ?_
                          exact AO.nilE (ρ' := [(127, (.fl undef))]) (H' := []) ⟨⟨_, rfl, rfl⟩, Sub.refl _⟩ ⟨rfl, trivial⟩ (Sub.refl _)
                        · refine AO.weak (ρ' := [(110, (eBool true))]) (H' := []) ⟨rfl, trivial⟩ (Sub.refl _) ?_
                          refine AO.skipG 13 true 110 rfl rfl rfl 128 rfl (by decide) ?_
                          exact AO.nilE (ρ' := [(128, (.fl undef))]) (H' := []) ⟨⟨_, rfl, rfl⟩, Sub.refl _⟩ ⟨rfl, trivial⟩ (Sub.refl _)
                        · refine AO.weak (ρ' := [(110, (eBool true))]) (H' := []) ⟨rfl, trivial⟩ (Sub.refl _) ?_
                          refine AO.skipG 13 true 110 rfl rfl rfl 129 rfl (by decide) ?_
                          exact AO.nilE (ρ' := [(129, (.fl undef))]) (H' := []) ⟨⟨_, rfl, rfl⟩, Sub.refl _⟩ ⟨rfl, trivial⟩ (Sub.refl _)
                        · refine AO.weak (ρ' := [(110, (eBool true))]) (H' := []) ⟨rfl, trivial⟩ (Sub.refl _) ?_
                          refine AO.skipG 13 true 110 rfl rfl rfl 130 rfl (by decide) ?_
                          exact AO.nilE (ρ' := [(130, (.fl undef))]) (H' := []) ⟨⟨_, rfl, rfl⟩, Sub.refl _⟩ ⟨rfl, trivial⟩ (Sub.refl _)
                        · refine AO.weak (ρ' := [(110, (eBool true))]) (H' := []) ⟨rfl, trivial⟩ (Sub.refl _) ?_
                          refine AO.skipG 13 true 110 rfl rfl rfl 131 rfl (by decide) ?_
                          exact AO.nilE (ρ' := [(131, (.fl undef))]) (H' := []) ⟨⟨_, rfl, rfl⟩, Sub.refl _⟩ ⟨rfl, trivial⟩ (Sub.refl _)
                        · refine AO.weak (ρ' := [(110, (eBool true)), (131, (.fl undef))]) (H' := []) ⟨rfl, rfl, trivial⟩ (Sub.refl _) ?_
                          refine AO.calm rfl 132 rfl (by decide) (eBool true) (Calm.pickT rfl rfl rfl) ?_
                          exact AO.nilE (ρ' := [(132, (eBool true))]) (H' := []) ⟨⟨_, rfl, rfl⟩, Sub.refl _⟩ ⟨rfl, trivial⟩ (Sub.refl _)
                      · cases hq26
                        exact ⟨rfl, rfl, rfl⟩
                    · have hq26 := (if_neg hc28).symm.trans hq26
                      obtain ⟨hg29, hq26⟩ := of_guard hq26
                      by_cases hc30 : x9 ≤ (lget t10.2 x21)
                      · have hq26 := (if_pos hc30).symm.trans hq26
                        refine AW.regAny (by rfl) (by decide +kernel) [(.fz 1 (t10.2.map eI64)), (eI64 x21), (.rp (eI64 (lget t10.2 x21))), (eI64 (lget t10.2 x21)), (eBool (decide ((lget t10.2 x21) < (0 : Int)))), (eBool (decide ((lget t10.2 x21) < (0 : Int)))), (.fz 1 (t10.2.map eI64)), (eI64 x21), (.rp (eI64 (lget t10.2 x21))), (eI64 (lget t10.2 x21)), (eI64 x9), (eBool (decide (x9 ≤ (lget t10.2 x21)))), (eBool (decide (x9 ≤ (lget t10.2 x21)))), (eBool (decide (x9 ≤ (lget t10.2 x21)))), (.fl undef), (.fl undef), (.fl undef), (.fl undef), (.fl undef), (.fl undef), (.fl undef), (.fl undef), (.fl undef), (.fl undef), (.fl undef), (.fl undef), (.fl undef), (.fl undef), (.fl undef), (.fl undef), (.fl undef), (.fl undef), (.fl undef), (.fl undef), (.fl undef), (eBool true)] [(0, (.fz 4 (p0.map e24))), (1, (eStr p1)), (5, (eI64 x9)), (8, (.fz 1 (t10.2.map eI64))), (9, (.fz 1 (t20.map eBool))), (10, (eI64 x21))] ⟨rfl, rfl, rfl, rfl, rfl, rfl, trivial⟩ rfl ?_ [(0, (.fz 4 (p0.map e24))), (1, (eStr p1)), (5, (eI64 x9)), (8, (.fz 1 (t10.2.map eI64))), (9, (.fz 1 (t20.map eBool))), (10, (eI64 x21)), (132, (eBool true))] [] ⟨rfl, rfl, rfl, rfl, rfl, rfl, rfl, trivial⟩ (Sub.refl _) ?_
                        · refine ⟨?_, ?_, ?_, ?_, ?_, ?_, ?_, ?_, ?_, ?_, ?_, ?_, ?_, ?_, ?_, ?_, ?_, ?_, ?_, ?_, ?_, ?_, ?_, ?_, ?_, ?_, ?_, ?_, ?_, ?_, ?_, ?_, ?_, ?_, ?_, ?_, trivial⟩
                          · refine AO.weak (ρ' := [(8, (.fz 1 (t10.2.map eI64)))]) (H' := []) ⟨rfl, trivial⟩ (Sub.refl _) ?_
                            refine AO.calm rfl 97 rfl (by decide) (.fz 1 (t10.2.map eI64)) (Calm.move rfl rfl) ?_
                            exact AO.nilE (ρ' := [(97, (.fz 1 (t10.2.map eI64)))]) (H' := []) ⟨⟨_, rfl, rfl⟩, Sub.refl _⟩ ⟨rfl, trivial⟩ (Sub.refl _)
                          · refine AO.weak (ρ' := [(10, (eI64 x21))]) (H' := []) ⟨rfl, trivial⟩ (Sub.refl _) ?_
                            refine AO.calm rfl 98 rfl (by decide) (eI64 x21) (Calm.move rfl rfl) ?_
                            exact AO.nilE (ρ' := [(98, (eI64 x21))]) (H' := []) ⟨⟨_, rfl, rfl⟩, Sub.refl _⟩ ⟨rfl, trivial⟩ (Sub.refl _)
                          · refine AO.weak (ρ' := [(97, (.fz 1 (t10.2.map eI64))), (98, (eI64 x21))]) (H' := []) ⟨rfl, rfl, trivial⟩ (Sub.refl _) ?_
                            refine AO.calm rfl 99 rfl (by decide) (.rp (eI64 (lget t10.2 x21))) (Calm.idxL (f := eI64) rfl rfl rfl hg27 Try.underlying43 sz3) ?_
                            exact AO.nilE (ρ' := [(99, (.rp (eI64 (lget t10.2 x21))))]) (H' := []) ⟨⟨_, rfl, rfl⟩, Sub.refl _⟩ ⟨rfl, trivial⟩ (Sub.refl _)
                          · refine AO.weak (ρ' := [(99, (.rp (eI64 (lget t10.2 x21))))]) (H' := []) ⟨rfl, trivial⟩ (Sub.refl _) ?_
                            refine AO.calm rfl 100 rfl (by decide) (eI64 (lget t10.2 x21)) (Calm.loadRp rfl rfl ag3 sz3) ?_
                            exact AO.nilE (ρ' := [(100, (eI64 (lget t10.2 x21)))]) (H' := []) ⟨⟨_, rfl, rfl⟩, Sub.refl _⟩ ⟨rfl, trivial⟩ (Sub.refl _)
                          · refine AO.weak (ρ' := [(100, (eI64 (lget t10.2 x21)))]) (H' := []) ⟨rfl, trivial⟩ (Sub.refl _) ?_
                            refine AO.calm rfl 101 rfl (by decide) (eBool (decide ((lget t10.2 x21) < (0 : Int)))) (Calm.int rfl rfl rfl rfl) ?_
                            exact AO.nilE (ρ' := [(101, (eBool (decide ((lget t10.2 x21) < (0 : Int)))))]) (H' := []) ⟨⟨_, rfl, rfl⟩, Sub.refl _⟩ ⟨rfl, trivial⟩ (Sub.refl _)
                          · refine AO.weak (ρ' := [(101, (eBool (decide ((lget t10.2 x21) < (0 : Int)))))]) (H' := []) ⟨rfl, trivial⟩ (Sub.refl _) ?_
                            refine AO.calm rfl 102 rfl (by decide) (eBool (decide ((lget t10.2 x21) < (0 : Int)))) (Calm.move rfl rfl) ?_
                            exact AO.nilE (ρ' := [(102, (eBool (decide ((lget t10.2 x21) < (0 : Int)))))]) (H' := []) ⟨⟨_, rfl, rfl⟩, Sub.refl _⟩ ⟨rfl, trivial⟩ (Sub.refl _)
                          · refine AO.weak (ρ' := [(8, (.fz 1 (t10.2.map eI64))), (102, (eBool (decide ((lget t10.2 x21) < (0 : Int)))))]) (H' := []) ⟨rfl, rfl, trivial⟩ (Sub.refl _) ?_
                            refine AO.calmG 5 false 102 rfl rfl (congrArg (fun b => some (AV.fl (Value.bool b))) (decide_eq_false hc28)) 103 rfl (by decide) (.fz 1 (t10.2.map eI64)) (Calm.move rfl rfl) ?_
                            exact AO.nilE (ρ' := [(103, (.fz 1 (t10.2.map eI64)))]) (H' := []) ⟨⟨_, rfl, rfl⟩, Sub.refl _⟩ ⟨rfl, trivial⟩ (Sub.refl _)
                          · refine AO.weak (ρ' := [(10, (eI64 x21)), (102, (eBool (decide ((lget t10.2 x21) < (0 : Int)))))]) (H' := []) ⟨rfl, rfl, trivial⟩ (Sub.refl _) ?_
                            refine AO.calmG 5 false 102 rfl rfl (congrArg (fun b => some (AV.fl (Value.bool b))) (decide_eq_false hc28)) 104 rfl (by decide) (eI64 x21) (Calm.move rfl rfl) ?_
                            exact AO.nilE (ρ' := [(104, (eI64 x21))]) (H' := []) ⟨⟨_, rfl, rfl⟩, Sub.refl _⟩ ⟨rfl, trivial⟩ (Sub.refl _)
                          · refine AO.weak (ρ' := [(102, (eBool (decide ((lget t10.2 x21) < (0 : Int))))), (103, (.fz 1 (t10.2.map eI64))), (104, (eI64 x21))]) (H' := []) ⟨rfl, rfl, rfl, trivial⟩ (Sub.refl _) ?_
                            refine AO.calmG 5 false 102 rfl rfl (congrArg (fun b => some (AV.fl (Value.bool b))) (decide_eq_false hc28)) 105 rfl (by decide) (.rp (eI64 (lget t10.2 x21))) (Calm.idxL (f := eI64) rfl rfl rfl hg29 Try.underlying43 sz3) ?_
                            exact AO.nilE (ρ' := [(105, (.rp (eI64 (lget t10.2 x21))))]) (H' := []) ⟨⟨_, rfl, rfl⟩, Sub.refl _⟩ ⟨rfl, trivial⟩ (Sub.refl _)
                          · refine AO.weak (ρ' := [(102, (eBool (decide ((lget t10.2 x21) < (0 : Int))))), (105, (.rp (eI64 (lget t10.2 x21))))]) (H' := []) ⟨rfl, rfl, trivial⟩ (Sub.refl _) ?_
                            refine AO.calmG 5 false 102 rfl rfl (congrArg (fun b => some (AV.fl (Value.bool b))) (decide_eq_false hc28)) 106 rfl (by decide) (eI64 (lget t10.2 x21)) (Calm.loadRp rfl rfl ag3 sz3) ?_
                            exact AO.nilE (ρ' := [(106, (eI64 (lget t10.2 x21)))]) (H' := []) ⟨⟨_, rfl, rfl⟩, Sub.refl _⟩ ⟨rfl, trivial⟩ (Sub.refl _)
                          · refine AO.weak (ρ' := [(5, (eI64 x9)), (102, (eBool (decide ((lget t10.2 x21) < (0 : Int)))))]) (H' := []) ⟨rfl, rfl, trivial⟩ (Sub.refl _) ?_
                            refine AO.calmG 5 false 102 rfl rfl (congrArg (fun b => some (AV.fl (Value.bool b))) (decide_eq_false hc28)) 107 rfl (by decide) (eI64 x9) (Calm.move rfl rfl) ?_
                            exact AO.nilE (ρ' := [(107, (eI64 x9))]) (H' := []) ⟨⟨_, rfl, rfl⟩, Sub.refl _⟩ ⟨rfl, trivial⟩ (Sub.refl _)
                          · refine AO.weak (ρ' := [(102, (eBool (decide ((lget t10.2 x21) < (0 : Int))))), (106, (eI64 (lget t10.2 x21))), (107, (eI64 x9))]) (H' := []) ⟨rfl, rfl, rfl, trivial⟩ (Sub.refl _) ?_
                            refine AO.calmG 5 false 102 rfl rfl (congrArg (fun b => some (AV.fl (Value.bool b))) (decide_eq_false hc28)) 108 rfl (by decide) (eBool (decide (x9 ≤ (lget t10.2 x21)))) (Calm.int rfl rfl rfl rfl) ?_
                            exact AO.nilE (ρ' := [(108, (eBool (decide (x9 ≤ (lget t10.2 x21)))))]) (H' := []) ⟨⟨_, rfl, rfl⟩, Sub.refl _⟩ ⟨rfl, trivial⟩ (Sub.refl _)
                          · refine AO.weak (ρ' := [(102, (eBool (decide ((lget t10.2 x21) < (0 : Int))))), (108, (eBool (decide (x9 ≤ (lget t10.2 x21)))))]) (H' := []) ⟨rfl, rfl, trivial⟩ (Sub.refl _) ?_
                            refine AO.calm rfl 109 rfl (by decide) (eBool (decide (x9 ≤ (lget t10.2 x21)))) (Calm.pickF rfl (congrArg (fun b => some (AV.fl (Value.bool b))) (decide_eq_false hc28)) rfl) ?_
                            exact AO.nilE (ρ' := [(109, (eBool (decide (x9 ≤ (lget t10.2 x21)))))]) (H' := []) ⟨⟨_, rfl, rfl⟩, Sub.refl _⟩ ⟨rfl, trivial⟩ (Sub.refl _)
                          · refine AO.weak (ρ' := [(109, (eBool (decide (x9 ≤ (lget t10.2 x21)))))]) (H' := []) ⟨rfl, trivial⟩ (Sub.refl _) ?_
                            refine AO.calm rfl 110 rfl (by decide) (eBool (decide (x9 ≤ (lget t10.2 x21)))) (Calm.move rfl rfl) ?_
                            exact AO.nilE (ρ' := [(110, (eBool (decide (x9 ≤ (lget t10.2 x21)))))]) (H' := []) ⟨⟨_, rfl, rfl⟩, Sub.refl _⟩ ⟨rfl, trivial⟩ (Sub.refl _)
                          · refine AO.weak (ρ' := [(110, (eBool (decide (x9 ≤ (lget t10.2 x21)))))]) (H' := []) ⟨rfl, trivial⟩ (Sub.refl _) ?_
                            refine AO.skipG 13 true 110 rfl rfl (congrArg (fun b => some (AV.fl (Value.bool b))) (decide_eq_true hc30)) 111 rfl (by decide) ?_
                            exact AO.nilE (ρ' := [(111, (.fl undef))]) (H' := []) ⟨⟨_, rfl, rfl⟩, Sub.refl _⟩ ⟨rfl, trivial⟩ (Sub.refl _)
                          · refine AO.weak (ρ' := [(110, (eBool (decide (x9 ≤ (lget t10.2 x21)))))]) (H' := []) ⟨rfl, trivial⟩ (Sub.refl _) ?_
                            refine AO.skipG 13 true 110 rfl rfl (congrArg (fun b => some (AV.fl (Value.bool b))) (decide_eq_true hc30)) 112 rfl (by decide) ?_
                            exact AO.nilE (ρ' := [(112, (.fl undef))]) (H' := []) ⟨⟨_, rfl, rfl⟩, Sub.refl _⟩ ⟨rfl, trivial⟩ (Sub.refl _)
                          · refine AO.weak (ρ' := [(110, (eBool (decide (x9 ≤ (lget t10.2 x21)))))]) (H' := []) ⟨rfl, trivial⟩ (Sub.refl _) ?_
                            refine AO.skipG 13 true 110 rfl rfl (congrArg (fun b => some (AV.fl (Value.bool b))) (decide_eq_true hc30)) 113 rfl (by decide) ?_
                            exact AO.nilE (ρ' := [(113, (.fl undef))]) (H' := []) ⟨⟨_, rfl, rfl⟩, Sub.refl _⟩ ⟨rfl, trivial⟩ (Sub.refl _)
                          · refine AO.weak (ρ' := [(110, (eBool (decide (x9 ≤ (lget t10.2 x21)))))]) (H' := []) ⟨rfl, trivial⟩ (Sub.refl _) ?_
                            refine AO.skipG 13 true 110 rfl rfl (congrArg (fun b => some (AV.fl (Value.bool b))) (decide_eq_true hc30)) 114 rfl (by decide) ?_
                            exact AO.nilE (ρ' := [(114, (.fl undef))]) (H' := []) ⟨⟨_, rfl, rfl⟩, Sub.refl _⟩ ⟨rfl, trivial⟩ (Sub.refl _)
                          · refine AO.weak (ρ' := [(110, (eBool (decide (x9 ≤ (lget t10.2 x21)))))]) (H' := []) ⟨rfl, trivial⟩ (Sub.refl _) ?_
                            refine AO.skipG 13 true 110 rfl rfl (congrArg (fun b => some (AV.fl (Value.bool b))) (decide_eq_true hc30)) 115 rfl (by decide) ?_
                            exact AO.nilE (ρ' := [(115, (.fl undef))]) (H' := []) ⟨⟨_, rfl, rfl⟩, Sub.refl _⟩ ⟨rfl, trivial⟩ (Sub.refl _)
                          · refine AO.weak (ρ' := [(110, (eBool (decide (x9 ≤ (lget t10.2 x21)))))]) (H' := []) ⟨rfl, trivial⟩ (Sub.refl _) ?_
                            refine AO.skipG 13 true 110 rfl rfl (congrArg (fun b => some (AV.fl (Value.bool b))) (decide_eq_true hc30)) 116 rfl (by decide) ?_
                            exact AO.nilE (ρ' := [(116, (.fl undef))]) (H' := []) ⟨⟨_, rfl, rfl⟩, Sub.refl _⟩ ⟨rfl, trivial⟩ (Sub.refl _)
                          · refine AO.weak (ρ' := [(110, (eBool (decide (x9 ≤ (lget t10.2 x21)))))]) (H' := []) ⟨rfl, trivial⟩ (Sub.refl _) ?_
                            refine AO.skipG 13 true 110 rfl rfl (congrArg (fun b => some (AV.fl (Value.bool b))) (decide_eq_true hc30)) 117 rfl (by decide) ?_
                            exact AO.nilE (ρ' := [(117, (.fl undef))]) (H' := []) ⟨⟨_, rfl, rfl⟩, Sub.refl _⟩ ⟨rfl, trivial⟩ (Sub.refl _)
                          · refine AO.weak (ρ' := [(110, (eBool (decide (x9 ≤ (lget t10.2 x21)))))]) (H' := []) ⟨rfl, trivial⟩ (Sub.refl _) ?_
                            refine AO.skipG 13 true 110 rfl rfl (congrArg (fun b => some (AV.fl (Value.bool b))) (decide_eq_true hc30)) 118 rfl (by decide) ?_
                            exact AO.nilE (ρ' := [(118, (.fl undef))]) (H' := []) ⟨⟨_, rfl, rfl⟩, Sub.refl _⟩ ⟨rfl, trivial⟩ (Sub.refl _)
                          · refine AO.weak (ρ' := [(110, (eBool (decide (x9 ≤ (lget t10.2 x21)))))]) (H' := []) ⟨rfl, trivial⟩ (Sub.refl _) ?_
                            refine AO.skipG 13 true 110 rfl rfl (congrArg (fun b => some (AV.fl (Value.bool b))) (decide_eq_true hc30)) 119 rfl (by decide) ?_
                            exact AO.nilE (ρ' := [(119, (.fl undef))]) (H' := []) ⟨⟨_, rfl, rfl⟩, Sub.refl _⟩ ⟨rfl, trivial⟩ (Sub.refl _)
                          · refine AO.weak (ρ' := [(110, (eBool (decide (x9 ≤ (lget t10.2 x21)))))]) (H' := []) ⟨rfl, trivial⟩ (Sub.refl _) ?_
                            refine AO.skipG 13 true 110 rfl rfl (congrArg (fun b => some (AV.fl (Value.bool b))) (decide_eq_true hc30)) 120 rfl (by decide) ?_
                            exact AO.nilE (ρ' := [(120, (.fl undef))]) (H' := []) ⟨⟨_, rfl, rfl⟩, Sub.refl _⟩ ⟨rfl, trivial⟩ (Sub.refl _)
                          · refine AO.weak (ρ' := [(110, (eBool (decide (x9 ≤ (lget t10.2 x21)))))]) (H' := []) ⟨rfl, trivial⟩ (Sub.refl _) ?_
                            refine AO.skipG 13 true 110 rfl rfl (congrArg (fun b => some (AV.fl (Value.bool b))) (decide_eq_true hc30)) 121 rfl (by decide) ?_
                            exact AO.nilE (ρ' := [(121, (.fl undef))]) (H' := []) ⟨⟨_, rfl, rfl⟩, Sub.refl _⟩ ⟨rfl, trivial⟩ (Sub.refl _)
                          · refine AO.weak (ρ' := [(110, (eBool (decide (x9 ≤ (lget t10.2 x21)))))]) (H' := []) ⟨rfl, trivial⟩ (Sub.refl _) ?_
                            refine AO.skipG 13 true 110 rfl rfl (congrArg (fun b => some (AV.fl (Value.bool b))) (decide_eq_true hc30)) 122 rfl (by decide) ?_
                            exact AO.nilE (ρ' := [(122, (.fl undef))]) (H' := []) ⟨⟨_, rfl, rfl⟩, Sub.refl _⟩ ⟨rfl, trivial⟩ (Sub.refl _)
                          · refine AO.weak (ρ' := [(110, (eBool (decide (x9 ≤ (lget t10.2 x21)))))]) (H' := []) ⟨rfl, trivial⟩ (Sub.refl _) ?_
                            refine AO.skipG 13 true 110 rfl rfl (congrArg (fun b => some (AV.fl (Value.bool b))) (decide_eq_true hc30)) 123 rfl (by decide) ?_
                            exact AO.nilE (ρ' := [(123, (.fl undef))]) (H' := []) ⟨⟨_, rfl, rfl⟩, Sub.refl _⟩ ⟨rfl, trivial⟩ (Sub.refl _)
                          · refine AO.weak (ρ' := [(110, (eBool (decide (x9 ≤ (lget t10.2 x21)))))]) (H' := []) ⟨rfl, trivial⟩ (Sub.refl _) ?_
                            refine AO.skipG 13 true 110 rfl rfl (congrArg (fun b => some (AV.fl (Value.bool b))) (decide_eq_true hc30)) 124 rfl (by decide) ?_
                            exact AO.nilE (ρ' := [(124, (.fl undef))]) (H' := []) ⟨⟨_, rfl, rfl⟩, Sub.refl _⟩ ⟨rfl, trivial⟩ (Sub.refl _)
                          · refine AO.weak (ρ' := [(110, (eBool (decide (x9 ≤ (lget t10.2 x21)))))]) (H' := []) ⟨rfl, trivial⟩ (Sub.refl _) ?_
                            refine AO.skipG 13 true 110 rfl rfl (congrArg (fun b => some (AV.fl (Value.bool b))) (decide_eq_true hc30)) 125 rfl (by decide) ?_
                            exact AO.nilE (ρ' := [(125, (.fl undef))]) (H' := []) ⟨⟨_, rfl, rfl⟩, Sub.refl _⟩ ⟨rfl, trivial⟩ (Sub.refl _)
                          · refine AO.weak (ρ' := [(110, (eBool (decide (x9 ≤ (lget t10.2 x21)))))]) (H' := []) ⟨rfl, trivial⟩ (Sub.refl _) ?_
                            refine AO.skipG 13 true 110 rfl rfl (congrArg (fun b => some (AV.fl (Value.bool b))) (decide_eq_true hc30)) 126 rfl (by decide) ?_
                            exact AO.nilE (ρ' := [(126, (.fl undef))]) (H' := []) ⟨⟨_, rfl, rfl⟩, Sub.refl _⟩ ⟨rfl, trivial⟩ (Sub.refl _)
                          · refine AO.weak (ρ' := [(110, (eBool (decide (x9 ≤ (lget t10.2 x21)))))]) (H' := []) ⟨rfl, trivial⟩ (Sub.refl _) ?_
                            refine AO.skipG 13 true 110 rfl rfl (congrArg (fun b => some (AV.fl (Value.bool b))) (decide_eq_true hc30)) 127 rfl (by decide) ?_
                            exact AO.nilE (ρ' := [(127, (.fl undef))]) (H' := []) ⟨⟨_, rfl, rfl⟩, Sub.refl _⟩ ⟨rfl, trivial⟩ (Sub.refl _)
                          · refine AO.weak (ρ' := [(110, (eBool (decide (x9 ≤ (lget t10.2 x21)))))]) (H' := []) ⟨rfl, trivial⟩ (Sub.refl _) ?_
                            refine AO.skipG 13 true 110 rfl rfl (congrArg (fun b => some (AV.fl (Value.bool b))) (decide_eq_true hc30)) 128 rfl (by decide) ?_
                            exact AO.nilE (ρ' := [(128, (.fl undef))]) (H' := []) ⟨⟨_, rfl, rfl⟩, Sub.refl _⟩ ⟨rfl, trivial⟩ (Sub.refl _)
                          · refine AO.weak (ρ' := [(110, (eBool (decide (x9 ≤ (lget t10.2 x21)))))]) (H' := []) ⟨rfl, trivial⟩ (Sub.refl _) ?_
                            refine AO.skipG 13 true 110 rfl rfl (congrArg (fun b => some (AV.fl (Value.bool b))) (decide_eq_true hc30)) 129 rfl (by decide) ?_
                            exact AO.nilE (ρ' := [(129, (.fl undef))]) (H' := []) ⟨⟨_, rfl, rfl⟩, Sub.refl _⟩ ⟨rfl, trivial⟩ (Sub.refl _)
                          · refine AO.weak (ρ' := [(110, (eBool (decide (x9 ≤ (lget t10.2 x21)))))]) (H' := []) ⟨rfl, trivial⟩ (Sub.refl _) ?_
                            refine AO.skipG 13 true 110 rfl rfl (congrArg (fun b => some (AV.fl (Value.bool b))) (decide_eq_true hc30)) 130 rfl (by decide) ?_
                            exact AO.nilE (ρ' := [(130, (.fl undef))]) (H' := []) ⟨⟨_, rfl, rfl⟩, Sub.refl _⟩ ⟨rfl, trivial⟩ (Sub.refl _)
                          · refine AO.weak (ρ' := [(110, (eBool (decide (x9 ≤ (lget t10.2 x21)))))]) (H' := []) ⟨rfl, trivial⟩ (Sub.refl _) ?_
                            refine AO.skipG 13 true 110 rfl rfl (congrArg (fun b => some (AV.fl (Value.bool b))) (decide_eq_true hc30)) 131 rfl (by decide) ?_
                            exact AO.nilE (ρ' := [(131, (.fl undef))]) (H' := []) ⟨⟨_, rfl, rfl⟩, Sub.refl _⟩ ⟨rfl, trivial⟩ (Sub.refl _)
                          · refine AO.weak (ρ' := [(110, (eBool (decide (x9 ≤ (lget t10.2 x21))))), (131, (.fl undef))]) (H' := []) ⟨rfl, rfl, trivial⟩ (Sub.refl _) ?_
                            refine AO.calm rfl 132 rfl (by decide) (eBool true) (Calm.pickT rfl (congrArg (fun b => some (AV.fl (Value.bool b))) (decide_eq_true hc30)) rfl) ?_
                            exact AO.nilE (ρ' := [(132, (eBool true))]) (H' := []) ⟨⟨_, rfl, rfl⟩, Sub.refl _⟩ ⟨rfl, trivial⟩ (Sub.refl _)
                        · cases hq26
                          exact ⟨rfl, rfl, rfl⟩
                      · have hq26 := (if_neg hc30).symm.trans hq26
                        obtain ⟨hg31, hq26⟩ := of_guard hq26
                        obtain ⟨hg32, hq26⟩ := of_guard hq26
                        obtain ⟨hg33, hq26⟩ := of_guard hq26
                        obtain ⟨t34, et34, hq26⟩ := of_bind hq26
                        obtain ⟨hg35, hq26⟩ := of_guard hq26
                        obtain ⟨hg36, hq26⟩ := of_guard hq26
                        refine AW.regAny (by rfl) (by decide +kernel) [(.fz 1 (t10.2.map eI64)), (eI64 x21), (.rp (eI64 (lget t10.2 x21))), (eI64 (lget t10.2 x21)), (eBool (decide ((lget t10.2 x21) < (0 : Int)))), (eBool (decide ((lget t10.2 x21) < (0 : Int)))), (.fz 1 (t10.2.map eI64)), (eI64 x21), (.rp (eI64 (lget t10.2 x21))), (eI64 (lget t10.2 x21)), (eI64 x9), (eBool (decide (x9 ≤ (lget t10.2 x21)))), (eBool (decide (x9 ≤ (lget t10.2 x21)))), (eBool (decide (x9 ≤ (lget t10.2 x21)))), (.fz 1 (t20.map eBool)), (.fz 1 (t10.2.map eI64)), (eI64 x21), (.rp (eI64 (lget t10.2 x21))), (eI64 (lget t10.2 x21)), (.rp (eBool (lget t20 (lget t10.2 x21)))), (eBool (lget t20 (lget t10.2 x21))), (.fz 4 (p0.map e24)), (eI64 x21), (.rp (e24 (lget p0 x21))), (e24 (lget p0 x21)), (eStr p1), (.fz 1 (t34.map eBool)), (.fz 4 (p0.map e24)), (eI64 x21), (.rp (e24 (lget p0 x21))), (.rp (eI64 ((lget p0 x21).f3))), (eI64 ((lget p0 x21).f3)), (.rp (eBool (lget t34 ((lget p0 x21).f3)))), (eBool (lget t34 ((lget p0 x21).f3))), (eBool ((lget t20 (lget t10.2 x21)) != (lget t34 ((lget p0 x21).f3)))), (eBool ((lget t20 (lget t10.2 x21)) != (lget t34 ((lget p0 x21).f3))))] [(0, (.fz 4 (p0.map e24))), (1, (eStr p1)), (5, (eI64 x9)), (8, (.fz 1 (t10.2.map eI64))), (9, (.fz 1 (t20.map eBool))), (10, (eI64 x21))] ⟨rfl, rfl, rfl, rfl, rfl, rfl, trivial⟩ rfl ?_ [(0, (.fz 4 (p0.map e24))), (1, (eStr p1)), (5, (eI64 x9)), (8, (.fz 1 (t10.2.map eI64))), (9, (.fz 1 (t20.map eBool))), (10, (eI64 x21)), (132, (eBool ((lget t20 (lget t10.2 x21)) != (lget t34 ((lget p0 x21).f3)))))] [] ⟨rfl, rfl, rfl, rfl, rfl, rfl, rfl, trivial⟩ (Sub.refl _) ?_
                        · refine ⟨?_, ?_, ?_, ?_, ?_, ?_, ?_, ?_, ?_, ?_, ?_, ?_, ?_, ?_, ?_, ?_, ?_, ?_, ?_, ?_, ?_, ?_, ?_, ?_, ?_, ?_, ?_, ?_, ?_, ?_, ?_, ?_, ?_, ?_, ?_, ?_, trivial⟩
                          · refine AO.weak (ρ' := [(8, (.fz 1 (t10.2.map eI64)))]) (H' := []) ⟨rfl, trivial⟩ (Sub.refl _) ?_
                            refine AO.calm rfl 97 rfl (by decide) (.fz 1 (t10.2.map eI64)) (Calm.move rfl rfl) ?_
                            exact AO.nilE (ρ' := [(97, (.fz 1 (t10.2.map eI64)))]) (H' := []) ⟨⟨_, rfl, rfl⟩, Sub.refl _⟩ ⟨rfl, trivial⟩ (Sub.refl _)
                          · refine AO.weak (ρ' := [(10, (eI64 x21))]) (H' := []) ⟨rfl, trivial⟩ (Sub.refl _) ?_
                            refine AO.calm rfl 98 rfl (by decide) (eI64 x21) (Calm.move rfl rfl) ?_
                            exact AO.nilE (ρ' := [(98, (eI64 x21))]) (H' := []) ⟨⟨_, rfl, rfl⟩, Sub.refl _⟩ ⟨rfl, trivial⟩ (Sub.refl _)
                          · refine AO.weak (ρ' := [(97, (.fz 1 (t10.2.map eI64))), (98, (eI64 x21))]) (H' := []) ⟨rfl, rfl, trivial⟩ (Sub.refl _) ?_
                            refine AO.calm rfl 99 rfl (by decide) (.rp (eI64 (lget t10.2 x21))) (Calm.idxL (f := eI64) rfl rfl rfl hg27 Try.underlying43 sz3) ?_
                            exact AO.nilE (ρ' := [(99, (.rp (eI64 (lget t10.2 x21))))]) (H' := []) ⟨⟨_, rfl, rfl⟩, Sub.refl _⟩ ⟨rfl, trivial⟩ (Sub.refl _)
                          · refine AO.weak (ρ' := [(99, (.rp (eI64 (lget t10.2 x21))))]) (H' := []) ⟨rfl, trivial⟩ (Sub.refl _) ?_
                            refine AO.calm rfl 100 rfl (by decide) (eI64 (lget t10.2 x21)) (Calm.loadRp rfl rfl ag3 sz3) ?_
                            exact AO.nilE (ρ' := [(100, (eI64 (lget t10.2 x21)))]) (H' := []) ⟨⟨_, rfl, rfl⟩, Sub.refl _⟩ ⟨rfl, trivial⟩ (Sub.refl _)
                          · refine AO.weak (ρ' := [(100, (eI64 (lget t10.2 x21)))]) (H' := []) ⟨rfl, trivial⟩ (Sub.refl _) ?_
                            refine AO.calm rfl 101 rfl (by decide) (eBool (decide ((lget t10.2 x21) < (0 : Int)))) (Calm.int rfl rfl rfl rfl) ?_
                            exact AO.nilE (ρ' := [(101, (eBool (decide ((lget t10.2 x21) < (0 : Int)))))]) (H' := []) ⟨⟨_, rfl, rfl⟩, Sub.refl _⟩ ⟨rfl, trivial⟩ (Sub.refl _)
                          · refine AO.weak (ρ' := [(101, (eBool (decide ((lget t10.2 x21) < (0 : Int)))))]) (H' := []) ⟨rfl, trivial⟩ (Sub.refl _) ?_
                            refine AO.calm rfl 102 rfl (by decide) (eBool (decide ((lget t10.2 x21) < (0 : Int)))) (Calm.move rfl rfl) ?_
                            exact AO.nilE (ρ' := [(102, (eBool (decide ((lget t10.2 x21) < (0 : Int)))))]) (H' := []) ⟨⟨_, rfl, rfl⟩, Sub.refl _⟩ ⟨rfl, trivial⟩ (Sub.refl _)
                          · refine AO.weak (ρ' := [(8, (.fz 1 (t10.2.map eI64))), (102, (eBool (decide ((lget t10.2 x21) < (0 : Int)))))]) (H' := []) ⟨rfl, rfl, trivial⟩ (Sub.refl _) ?_
                            refine AO.calmG 5 false 102 rfl rfl (congrArg (fun b => some (AV.fl (Value.bool b))) (decide_eq_false hc28)) 103 rfl (by decide) (.fz 1 (t10.2.map eI64)) (Calm.move rfl rfl) ?_
                            exact AO.nilE (ρ' := [(103, (.fz 1 (t10.2.map eI64)))]) (H' := []) ⟨⟨_, rfl, rfl⟩, Sub.refl _⟩ ⟨rfl, trivial⟩ (Sub.refl _)
                          · refine AO.weak (ρ' := [(10, (eI64 x21)), (102, (eBool (decide ((lget t10.2 x21) < (0 : Int)))))]) (H' := []) ⟨rfl, rfl, trivial⟩ (Sub.refl _) ?_
                            refine AO.calmG 5 false 102 rfl rfl (congrArg (fun b => some (AV.fl (Value.bool b))) (decide_eq_false hc28)) 104 rfl (by decide) (eI64 x21) (Calm.move rfl rfl) ?_
                            exact AO.nilE (ρ' := [(104, (eI64 x21))]) (H' := []) ⟨⟨_, rfl, rfl⟩, Sub.refl _⟩ ⟨rfl, trivial⟩ (Sub.refl _)
                          · refine AO.weak (ρ' := [(102, (eBool (decide ((lget t10.2 x21) < (0 : Int))))), (103, (.fz 1 (t10.2.map eI64))), (104, (eI64 x21))]) (H' := []) ⟨rfl, rfl, rfl, trivial⟩ (Sub.refl _) ?_
                            refine AO.calmG 5 false 102 rfl rfl (congrArg (fun b => some (AV.fl (Value.bool b))) (decide_eq_false hc28)) 105 rfl (by decide) (.rp (eI64 (lget t10.2 x21))) (Calm.idxL (f := eI64) rfl rfl rfl hg29 Try.underlying43 sz3) ?_
                            exact AO.nilE (ρ' := [(105, (.rp (eI64 (lget t10.2 x21))))]) (H' := []) ⟨⟨_, rfl, rfl⟩, Sub.refl _⟩ ⟨rfl, trivial⟩ (Sub.refl _)
                          · refine AO.weak (ρ' := [(102, (eBool (decide ((lget t10.2 x21) < (0 : Int))))), (105, (.rp (eI64 (lget t10.2 x21))))]) (H' := []) ⟨rfl, rfl, trivial⟩ (Sub.refl _) ?_
                            refine AO.calmG 5 false 102 rfl rfl (congrArg (fun b => some (AV.fl (Value.bool b))) (decide_eq_false hc28)) 106 rfl (by decide) (eI64 (lget t10.2 x21)) (Calm.loadRp rfl rfl ag3 sz3) ?_
                            exact AO.nilE (ρ' := [(106, (eI64 (lget t10.2 x21)))]) (H' := []) ⟨⟨_, rfl, rfl⟩, Sub.refl _⟩ ⟨rfl, trivial⟩ (Sub.refl _)
                          · refine AO.weak (ρ' := [(5, (eI64 x9)), (102, (eBool (decide ((lget t10.2 x21) < (0 : Int)))))]) (H' := []) ⟨rfl, rfl, trivial⟩ (Sub.refl _) ?_
                            refine AO.calmG 5 false 102 rfl rfl (congrArg (fun b => some (AV.fl (Value.bool b))) (decide_eq_false hc28)) 107 rfl (by decide) (eI64 x9) (Calm.move rfl rfl) ?_
                            exact AO.nilE (ρ' := [(107, (eI64 x9))]) (H' := []) ⟨⟨_, rfl, rfl⟩, Sub.refl _⟩ ⟨rfl, trivial⟩ (Sub.refl _)
                          · refine AO.weak (ρ' := [(102, (eBool (decide ((lget t10.2 x21) < (0 : Int))))), (106, (eI64 (lget t10.2 x21))), (107, (eI64 x9))]) (H' := []) ⟨rfl, rfl, rfl, trivial⟩ (Sub.refl _) ?_
                            refine AO.calmG 5 false 102 rfl rfl (congrArg (fun b => some (AV.fl (Value.bool b))) (decide_eq_false hc28)) 108 rfl (by decide) (eBool (decide (x9 ≤ (lget t10.2 x21)))) (Calm.int rfl rfl rfl rfl) ?_
                            exact AO.nilE (ρ' := [(108, (eBool (decide (x9 ≤ (lget t10.2 x21)))))]) (H' := []) ⟨⟨_, rfl, rfl⟩, Sub.refl _⟩ ⟨rfl, trivial⟩ (Sub.refl _)
                          · refine AO.weak (ρ' := [(102, (eBool (decide ((lget t10.2 x21) < (0 : Int))))), (108, (eBool (decide (x9 ≤ (lget t10.2 x21)))))]) (H' := []) ⟨rfl, rfl, trivial⟩ (Sub.refl _) ?_
                            refine AO.calm rfl 109 rfl (by decide) (eBool (decide (x9 ≤ (lget t10.2 x21)))) (Calm.pickF rfl (congrArg (fun b => some (AV.fl (Value.bool b))) (decide_eq_false hc28)) rfl) ?_
                            exact AO.nilE (ρ' := [(109, (eBool (decide (x9 ≤ (lget t10.2 x21)))))]) (H' := []) ⟨⟨_, rfl, rfl⟩, Sub.refl _⟩ ⟨rfl, trivial⟩ (Sub.refl _)
                          · refine AO.weak (ρ' := [(109, (eBool (decide (x9 ≤ (lget t10.2 x21)))))]) (H' := []) ⟨rfl, trivial⟩ (Sub.refl _) ?_
                            refine AO.calm rfl 110 rfl (by decide) (eBool (decide (x9 ≤ (lget t10.2 x21)))) (Calm.move rfl rfl) ?_
                            exact AO.nilE (ρ' := [(110, (eBool (decide (x9 ≤ (lget t10.2 x21)))))]) (H' := []) ⟨⟨_, rfl, rfl⟩, Sub.refl _⟩ ⟨rfl, trivial⟩ (Sub.refl _)
                          · refine AO.weak (ρ' := [(9, (.fz 1 (t20.map eBool))), (110, (eBool (decide (x9 ≤ (lget t10.2 x21)))))]) (H' := []) ⟨rfl, rfl, trivial⟩ (Sub.refl _) ?_
                            refine AO.calmG 13 false 110 rfl rfl (congrArg (fun b => some (AV.fl (Value.bool b))) (decide_eq_false hc30)) 111 rfl (by decide) (.fz 1 (t20.map eBool)) (Calm.move rfl rfl) ?_
                            exact AO.nilE (ρ' := [(111, (.fz 1 (t20.map eBool)))]) (H' := []) ⟨⟨_, rfl, rfl⟩, Sub.refl _⟩ ⟨rfl, trivial⟩ (Sub.refl _)
                          · refine AO.weak (ρ' := [(8, (.fz 1 (t10.2.map eI64))), (110, (eBool (decide (x9 ≤ (lget t10.2 x21)))))]) (H' := []) ⟨rfl, rfl, trivial⟩ (Sub.refl _) ?_
                            refine AO.calmG 13 false 110 rfl rfl (congrArg (fun b => some (AV.fl (Value.bool b))) (decide_eq_false hc30)) 112 rfl (by decide) (.fz 1 (t10.2.map eI64)) (Calm.move rfl rfl) ?_
                            exact AO.nilE (ρ' := [(112, (.fz 1 (t10.2.map eI64)))]) (H' := []) ⟨⟨_, rfl, rfl⟩, Sub.refl _⟩ ⟨rfl, trivial⟩ (Sub.refl _)
                          · refine AO.weak (ρ' := [(10, (eI64 x21)), (110, (eBool (decide (x9 ≤ (lget t10.2 x21)))))]) (H' := []) ⟨rfl, rfl, trivial⟩ (Sub.refl _) ?_
                            refine AO.calmG 13 false 110 rfl rfl (congrArg (fun b => some (AV.fl (Value.bool b))) (decide_eq_false hc30)) 113 rfl (by decide) (eI64 x21) (Calm.move rfl rfl) ?_
                            exact AO.nilE (ρ' := [(113, (eI64 x21))]) (H' := []) ⟨⟨_, rfl, rfl⟩, Sub.refl _⟩ ⟨rfl, trivial⟩ (Sub.refl _)
                          · refine AO.weak (ρ' := [(110, (eBool (decide (x9 ≤ (lget t10.2 x21))))), (112, (.fz 1 (t10.2.map eI64))), (113, (eI64 x21))]) (H' := []) ⟨rfl, rfl, rfl, trivial⟩ (Sub.refl _) ?_
                            refine AO.calmG 13 false 110 rfl rfl (congrArg (fun b => some (AV.fl (Value.bool b))) (decide_eq_false hc30)) 114 rfl (by decide) (.rp (eI64 (lget t10.2 x21))) (Calm.idxL (f := eI64) rfl rfl rfl hg31 Try.underlying43 sz3) ?_
                            exact AO.nilE (ρ' := [(114, (.rp (eI64 (lget t10.2 x21))))]) (H' := []) ⟨⟨_, rfl, rfl⟩, Sub.refl _⟩ ⟨rfl, trivial⟩ (Sub.refl _)
                          · refine AO.weak (ρ' := [(110, (eBool (decide (x9 ≤ (lget t10.2 x21))))), (114, (.rp (eI64 (lget t10.2 x21))))]) (H' := []) ⟨rfl, rfl, trivial⟩ (Sub.refl _) ?_
                            refine AO.calmG 13 false 110 rfl rfl (congrArg (fun b => some (AV.fl (Value.bool b))) (decide_eq_false hc30)) 115 rfl (by decide) (eI64 (lget t10.2 x21)) (Calm.loadRp rfl rfl ag3 sz3) ?_
                            exact AO.nilE (ρ' := [(115, (eI64 (lget t10.2 x21)))]) (H' := []) ⟨⟨_, rfl, rfl⟩, Sub.refl _⟩ ⟨rfl, trivial⟩ (Sub.refl _)
                          · refine AO.weak (ρ' := [(110, (eBool (decide (x9 ≤ (lget t10.2 x21))))), (111, (.fz 1 (t20.map eBool))), (115, (eI64 (lget t10.2 x21)))]) (H' := []) ⟨rfl, rfl, rfl, trivial⟩ (Sub.refl _) ?_
                            refine AO.calmG 13 false 110 rfl rfl (congrArg (fun b => some (AV.fl (Value.bool b))) (decide_eq_false hc30)) 116 rfl (by decide) (.rp (eBool (lget t20 (lget t10.2 x21)))) (Calm.idxL (f := eBool) rfl rfl rfl hg32 Try.underlying25 sz4) ?_
                            exact AO.nilE (ρ' := [(116, (.rp (eBool (lget t20 (lget t10.2 x21)))))]) (H' := []) ⟨⟨_, rfl, rfl⟩, Sub.refl _⟩ ⟨rfl, trivial⟩ (Sub.refl _)
                          · refine AO.weak (ρ' := [(110, (eBool (decide (x9 ≤ (lget t10.2 x21))))), (116, (.rp (eBool (lget t20 (lget t10.2 x21)))))]) (H' := []) ⟨rfl, rfl, trivial⟩ (Sub.refl _) ?_
                            refine AO.calmG 13 false 110 rfl rfl (congrArg (fun b => some (AV.fl (Value.bool b))) (decide_eq_false hc30)) 117 rfl (by decide) (eBool (lget t20 (lget t10.2 x21))) (Calm.loadRp rfl rfl ag4 sz4) ?_
                            exact AO.nilE (ρ' := [(117, (eBool (lget t20 (lget t10.2 x21))))]) (H' := []) ⟨⟨_, rfl, rfl⟩, Sub.refl _⟩ ⟨rfl, trivial⟩ (Sub.refl _)
                          · refine AO.weak (ρ' := [(0, (.fz 4 (p0.map e24))), (110, (eBool (decide (x9 ≤ (lget t10.2 x21)))))]) (H' := []) ⟨rfl, rfl, trivial⟩ (Sub.refl _) ?_
                            refine AO.calmG 13 false 110 rfl rfl (congrArg (fun b => some (AV.fl (Value.bool b))) (decide_eq_false hc30)) 118 rfl (by decide) (.fz 4 (p0.map e24)) (Calm.move rfl rfl) ?_
                            exact AO.nilE (ρ' := [(118, (.fz 4 (p0.map e24)))]) (H' := []) ⟨⟨_, rfl, rfl⟩, Sub.refl _⟩ ⟨rfl, trivial⟩ (Sub.refl _)
                          · refine AO.weak (ρ' := [(10, (eI64 x21)), (110, (eBool (decide (x9 ≤ (lget t10.2 x21)))))]) (H' := []) ⟨rfl, rfl, trivial⟩ (Sub.refl _) ?_
                            refine AO.calmG 13 false 110 rfl rfl (congrArg (fun b => some (AV.fl (Value.bool b))) (decide_eq_false hc30)) 119 rfl (by decide) (eI64 x21) (Calm.move rfl rfl) ?_
                            exact AO.nilE (ρ' := [(119, (eI64 x21))]) (H' := []) ⟨⟨_, rfl, rfl⟩, Sub.refl _⟩ ⟨rfl, trivial⟩ (Sub.refl _)
                          · refine AO.weak (ρ' := [(110, (eBool (decide (x9 ≤ (lget t10.2 x21))))), (118, (.fz 4 (p0.map e24))), (119, (eI64 x21))]) (H' := []) ⟨rfl, rfl, rfl, trivial⟩ (Sub.refl _) ?_
                            refine AO.calmG 13 false 110 rfl rfl (congrArg (fun b => some (AV.fl (Value.bool b))) (decide_eq_false hc30)) 120 rfl (by decide) (.rp (e24 (lget p0 x21))) (Calm.idxL (f := e24) rfl rfl rfl hg33 Try.underlying42 sz24) ?_
                            exact AO.nilE (ρ' := [(120, (.rp (e24 (lget p0 x21))))]) (H' := []) ⟨⟨_, rfl, rfl⟩, Sub.refl _⟩ ⟨rfl, trivial⟩ (Sub.refl _)
                          · refine AO.weak (ρ' := [(110, (eBool (decide (x9 ≤ (lget t10.2 x21))))), (120, (.rp (e24 (lget p0 x21))))]) (H' := []) ⟨rfl, rfl, trivial⟩ (Sub.refl _) ?_
                            refine AO.calmG 13 false 110 rfl rfl (congrArg (fun b => some (AV.fl (Value.bool b))) (decide_eq_false hc30)) 121 rfl (by decide) (e24 (lget p0 x21)) (Calm.loadRp rfl rfl ag24 sz24) ?_
                            exact AO.nilE (ρ' := [(121, (e24 (lget p0 x21)))]) (H' := []) ⟨⟨_, rfl, rfl⟩, Sub.refl _⟩ ⟨rfl, trivial⟩ (Sub.refl _)
                          · refine AO.weak (ρ' := [(1, (eStr p1)), (110, (eBool (decide (x9 ≤ (lget t10.2 x21)))))]) (H' := []) ⟨rfl, rfl, trivial⟩ (Sub.refl _) ?_
                            refine AO.calmG 13 false 110 rfl rfl (congrArg (fun b => some (AV.fl (Value.bool b))) (decide_eq_false hc30)) 122 rfl (by decide) (eStr p1) (Calm.move rfl rfl) ?_
                            exact AO.nilE (ρ' := [(122, (eStr p1))]) (H' := []) ⟨⟨_, rfl, rfl⟩, Sub.refl _⟩ ⟨rfl, trivial⟩ (Sub.refl _)
                          · refine AO.weak (ρ' := [(110, (eBool (decide (x9 ≤ (lget t10.2 x21))))), (121, (e24 (lget p0 x21))), (122, (eStr p1))]) (H' := []) ⟨rfl, rfl, rfl, trivial⟩ (Sub.refl _) ?_
                            refine AO.callG 13 false 110 [(e24 (lget p0 x21)), (eStr p1)] (.fz 1 (t34.map eBool)) 123 rfl (by decide) ok19 rfl rfl (congrArg (fun b => some (AV.fl (Value.bool b))) (decide_eq_false hc30)) rfl rfl ⟨rfl, rfl, rfl, rfl, trivial⟩ (bosketref06_Run_spec et34) ?_
                            exact AO.nilE (ρ' := [(123, (.fz 1 (t34.map eBool)))]) (H' := []) ⟨⟨_, rfl, rfl⟩, Sub.refl _⟩ ⟨rfl, trivial⟩ (Sub.refl _)
                          · refine AO.weak (ρ' := [(0, (.fz 4 (p0.map e24))), (110, (eBool (decide (x9 ≤ (lget t10.2 x21)))))]) (H' := []) ⟨rfl, rfl, trivial⟩ (Sub.refl _) ?_
                            refine AO.calmG 13 false 110 rfl rfl (congrArg (fun b => some (AV.fl (Value.bool b))) (decide_eq_false hc30)) 124 rfl (by decide) (.fz 4 (p0.map e24)) (Calm.move rfl rfl) ?_
                            exact AO.nilE (ρ' := [(124, (.fz 4 (p0.map e24)))]) (H' := []) ⟨⟨_, rfl, rfl⟩, Sub.refl _⟩ ⟨rfl, trivial⟩ (Sub.refl _)
                          · refine AO.weak (ρ' := [(10, (eI64 x21)), (110, (eBool (decide (x9 ≤ (lget t10.2 x21)))))]) (H' := []) ⟨rfl, rfl, trivial⟩ (Sub.refl _) ?_
                            refine AO.calmG 13 false 110 rfl rfl (congrArg (fun b => some (AV.fl (Value.bool b))) (decide_eq_false hc30)) 125 rfl (by decide) (eI64 x21) (Calm.move rfl rfl) ?_
                            exact AO.nilE (ρ' := [(125, (eI64 x21))]) (H' := []) ⟨⟨_, rfl, rfl⟩, Sub.refl _⟩ ⟨rfl, trivial⟩ (Sub.refl _)
                          · refine AO.weak (ρ' := [(110, (eBool (decide (x9 ≤ (lget t10.2 x21))))), (124, (.fz 4 (p0.map e24))), (125, (eI64 x21))]) (H' := []) ⟨rfl, rfl, rfl, trivial⟩ (Sub.refl _) ?_
                            refine AO.calmG 13 false 110 rfl rfl (congrArg (fun b => some (AV.fl (Value.bool b))) (decide_eq_false hc30)) 126 rfl (by decide) (.rp (e24 (lget p0 x21))) (Calm.idxL (f := e24) rfl rfl rfl hg35 Try.underlying42 sz24) ?_
                            exact AO.nilE (ρ' := [(126, (.rp (e24 (lget p0 x21))))]) (H' := []) ⟨⟨_, rfl, rfl⟩, Sub.refl _⟩ ⟨rfl, trivial⟩ (Sub.refl _)
                          · refine AO.weak (ρ' := [(110, (eBool (decide (x9 ≤ (lget t10.2 x21))))), (126, (.rp (e24 (lget p0 x21))))]) (H' := []) ⟨rfl, rfl, trivial⟩ (Sub.refl _) ?_
                            refine AO.calmG 13 false 110 rfl rfl (congrArg (fun b => some (AV.fl (Value.bool b))) (decide_eq_false hc30)) 127 rfl (by decide) (.rp (eI64 ((lget p0 x21).f3))) (Calm.fldRp rfl rfl Try.underlying24 rfl sz3 (At.cast (At.fldS (At.fldS (At.fldS (At.fld0 At.here)))) rfl)) ?_
                            exact AO.nilE (ρ' := [(127, (.rp (eI64 ((lget p0 x21).f3))))]) (H' := []) ⟨⟨_, rfl, rfl⟩, Sub.refl _⟩ ⟨rfl, trivial⟩ (Sub.refl _)
                          · refine AO.weak (ρ' := [(110, (eBool (decide (x9 ≤ (lget t10.2 x21))))), (127, (.rp (eI64 ((lget p0 x21).f3))))]) (H' := []) ⟨rfl, rfl, trivial⟩ (Sub.refl _) ?_
                            refine AO.calmG 13 false 110 rfl rfl (congrArg (fun b => some (AV.fl (Value.bool b))) (decide_eq_false hc30)) 128 rfl (by decide) (eI64 ((lget p0 x21).f3)) (Calm.loadRp rfl rfl ag3 sz3) ?_
                            exact AO.nilE (ρ' := [(128, (eI64 ((lget p0 x21).f3)))]) (H' := []) ⟨⟨_, rfl, rfl⟩, Sub.refl _⟩ ⟨rfl, trivial⟩ (Sub.refl _)
                          · refine AO.weak (ρ' := [(110, (eBool (decide (x9 ≤ (lget t10.2 x21))))), (123, (.fz 1 (t34.map eBool))), (128, (eI64 ((lget p0 x21).f3)))]) (H' := []) ⟨rfl, rfl, rfl, trivial⟩ (Sub.refl _) ?_
                            refine AO.calmG 13 false 110 rfl rfl (congrArg (fun b => some (AV.fl (Value.bool b))) (decide_eq_false hc30)) 129 rfl (by decide) (.rp (eBool (lget t34 ((lget p0 x21).f3)))) (Calm.idxL (f := eBool) rfl rfl rfl hg36 Try.underlying25 sz4) ?_
                            exact AO.nilE (ρ' := [(129, (.rp (eBool (lget t34 ((lget p0 x21).f3)))))]) (H' := []) ⟨⟨_, rfl, rfl⟩, Sub.refl _⟩ ⟨rfl, trivial⟩ (Sub.refl _)
                          · refine AO.weak (ρ' := [(110, (eBool (decide (x9 ≤ (lget t10.2 x21))))), (129, (.rp (eBool (lget t34 ((lget p0 x21).f3)))))]) (H' := []) ⟨rfl, rfl, trivial⟩ (Sub.refl _) ?_
                            refine AO.calmG 13 false 110 rfl rfl (congrArg (fun b => some (AV.fl (Value.bool b))) (decide_eq_false hc30)) 130 rfl (by decide) (eBool (lget t34 ((lget p0 x21).f3))) (Calm.loadRp rfl rfl ag4 sz4) ?_
                            exact AO.nilE (ρ' := [(130, (eBool (lget t34 ((lget p0 x21).f3))))]) (H' := []) ⟨⟨_, rfl, rfl⟩, Sub.refl _⟩ ⟨rfl, trivial⟩ (Sub.refl _)
                          · refine AO.weak (ρ' := [(110, (eBool (decide (x9 ≤ (lget t10.2 x21))))), (117, (eBool (lget t20 (lget t10.2 x21)))), (130, (eBool (lget t34 ((lget p0 x21).f3))))]) (H' := []) ⟨rfl, rfl, rfl, trivial⟩ (Sub.refl _) ?_
                            refine AO.calmG 13 false 110 rfl rfl (congrArg (fun b => some (AV.fl (Value.bool b))) (decide_eq_false hc30)) 131 rfl (by decide) (eBool ((lget t20 (lget t10.2 x21)) != (lget t34 ((lget p0 x21).f3)))) (Calm.boolNe rfl rfl rfl Try.underlying4) ?_
                            exact AO.nilE (ρ' := [(131, (eBool ((lget t20 (lget t10.2 x21)) != (lget t34 ((lget p0 x21).f3)))))]) (H' := []) ⟨⟨_, rfl, rfl⟩, Sub.refl _⟩ ⟨rfl, trivial⟩ (Sub.refl _)
                          · refine AO.weak (ρ' := [(110, (eBool (decide (x9 ≤ (lget t10.2 x21))))), (131, (eBool ((lget t20 (lget t10.2 x21)) != (lget t34 ((lget p0 x21).f3)))))]) (H' := []) ⟨rfl, rfl, trivial⟩ (Sub.refl _) ?_
                            refine AO.calm rfl 132 rfl (by decide) (eBool ((lget t20 (lget t10.2 x21)) != (lget t34 ((lget p0 x21).f3)))) (Calm.pickF rfl (congrArg (fun b => some (AV.fl (Value.bool b))) (decide_eq_false hc30)) rfl) ?_
                            exact AO.nilE (ρ' := [(132, (eBool ((lget t20 (lget t10.2 x21)) != (lget t34 ((lget p0 x21).f3)))))]) (H' := []) ⟨⟨_, rfl, rfl⟩, Sub.refl _⟩ ⟨rfl, trivial⟩ (Sub.refl _)
                        · cases hq26
                          exact ⟨rfl, rfl, rfl⟩
                  · by_cases hc37 : b25 = true
                    · have h := (if_pos hc37).symm.trans h
                      refine AW.condT' b25 rfl hc37 ?_
                      refine AW.seq ?_
                      refine AW.reg ?_
                      refine AO.calm rfl 4 rfl (by decide) (eBool false) (Calm.assign rfl rfl) ?_
                      refine AO.nil (ρ' := [(4, (eBool false))]) (H' := []) ⟨rfl, trivial⟩ (Sub.refl _) ?_
                      refine AW.ret (ρ' := [(4, (eBool false))]) (H' := []) ⟨rfl, trivial⟩ (Sub.refl _) ?_
                      have hr := Option.some.inj h
                      subst hr
                      exact ⟨[(eBool false)], ⟨rfl, rfl, trivial⟩, rfl⟩
                    · have h := (if_neg hc37).symm.trans h
                      refine AW.condF' b25 rfl hc37 ?_
                      refine AW.skip (ρ' := [(0, (.fz 4 (p0.map e24))), (1, (eStr p1)), (5, (eI64 x9)), (8, (.fz 1 (t10.2.map eI64))), (9, (.fz 1 (t20.map eBool))), (10, (eI64 x21))]) (H' := []) ⟨rfl, rfl, rfl, rfl, rfl, rfl, trivial⟩ (Sub.refl _) ?_
                      refine AW.reg ?_
                      refine AO.calm rfl 95 rfl (by decide) (eI64 x21) (Calm.move rfl rfl) ?_
                      refine AO.calm rfl 96 rfl (by decide) (eI64 (w64 (x21 + (1 : Int)))) (Calm.int rfl rfl rfl rfl) ?_
                      refine AO.calm rfl 10 rfl (by decide) (eI64 (w64 (x21 + (1 : Int)))) (Calm.assign rfl rfl) ?_
                      refine AO.nil (ρ' := [(0, (.fz 4 (p0.map e24))), (1, (eStr p1)), (5, (eI64 x9)), (8, (.fz 1 (t10.2.map eI64))), (9, (.fz 1 (t20.map eBool))), (10, (eI64 (w64 (x21 + (1 : Int)))))]) (H' := []) ⟨rfl, rfl, rfl, rfl, rfl, rfl, trivial⟩ (Sub.refl _) ?_
                      exact ⟨kq23, Nat.lt_succ_self _, (w64 (x21 + (1 : Int))), rfl, rfl, by rw [hrec22]; exact h⟩
                · have h := (if_neg hc24).symm.trans h
                  refine AW.condN (x21 < (p0.length : Int)) rfl hc24 ?_
                  refine AW.exit (ρ' := []) (H' := []) trivial (Sub.refl _) ?_
                  exact ⟨rfl, rfl, h⟩
              · rintro _ _ ⟨rfl, rfl, h⟩
                rw [bosketlaw06_NfaUnions_c0.eq_1] at h
                refine AW.seq ?_
                refine AW.reg ?_
                refine AO.calm rfl 4 rfl (by decide) (eBool true) (Calm.assign rfl rfl) ?_
                refine AO.nil (ρ' := [(4, (eBool true))]) (H' := []) ⟨rfl, trivial⟩ (Sub.refl _) ?_
                refine AW.ret (ρ' := [(4, (eBool true))]) (H' := []) ⟨rfl, trivial⟩ (Sub.refl _) ?_
                have hr := Option.some.inj h
                subst hr
                exact ⟨[(eBool true)], ⟨rfl, rfl, trivial⟩, rfl⟩
end Go.Avl.T3
