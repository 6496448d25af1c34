/- Parts: T3f27, T3f35, T3f36. -/
import Derived.Test.YtcdennkoccjacaaAF1
import Derived.Test.YtcdennkoccjacaaAF3
/- bosket/dfa.Right; printed by avmain.py. -/
namespace Go.Avl.T3
open Go Go.RowKit Go.Proofs Go.Avl
set_option linter.unusedVariables false
set_option maxRecDepth 100000
set_option maxHeartbeats 4000000
attribute [local irreducible] AW AO AQ Spec SpecH Calm

def dfa_Right_c0 (k : Nat) : Option Bool :=
  some (true)
def dfa_Right_c1 (k : Nat) (rec12 : (Int → Option Bool)) (x11 : Int) : Option Bool :=
  rec12 (w64 (x11 + (1 : Int)))
def dfa_Right_l2 (k : Nat) (rec12 : (Int → Option Bool)) (p0 : S50) (x11 : Int) : Nat → Int → Option Bool
  | 0, _ => none
  | j + 1, x23 =>
    if x23 < ((lget p0.f1 x11).length : Int) then if 0 ≤ x23 ∧ x23 < ((lget p0.f1 x11).length : Int) then Option.bind (α := Bool) (if (lget (lget p0.f1 x11) x23) < (-1 : Int) then some (true)
    else some (decide ((p0.f1.length : Int) ≤ (lget (lget p0.f1 x11) x23)))) fun b28 =>
    if b28 = true then some (false)
    else (dfa_Right_l2 k rec12 p0 x11 j) (w64 (x23 + (1 : Int)))
    else none
    else dfa_Right_c1 k rec12 x11
def dfa_Right_l3 (k : Nat) (p0 : S50) (t8 : Int) : Nat → Int → Option Bool
  | 0, _ => none
  | j + 1, x11 =>
    if x11 < (p0.f1.length : Int) then if 0 ≤ x11 ∧ x11 < (p0.f1.length : Int) then Option.bind (α := Bool) (if ((lget p0.f1 x11).length : Int) ≠ t8 then some (true)
    else if 0 ≤ x11 ∧ x11 < (p0.f2.length : Int) then if (lget p0.f2 x11) < (-1 : Int) then some (true)
    else if 0 ≤ x11 ∧ x11 < (p0.f2.length : Int) then some (decide ((32768 : Int) ≤ (lget p0.f2 x11)))
    else none
    else none) fun b16 =>
    if b16 = true then some (false)
    else dfa_Right_l2 k (dfa_Right_l3 k p0 t8 j) p0 x11 k (0 : Int)
    else none
    else dfa_Right_c0 k
def dfa_Right (k : Nat) (p0 : S50) : Option Bool :=
  Option.bind (α := Bool) (if (p0.f1.length : Int) = (0 : Int) then some (true)
  else if (32768 : Int) < (p0.f1.length : Int) then some (true)
  else some (decide ((p0.f2.length : Int) ≠ (p0.f1.length : Int)))) fun b3 =>
  if b3 = true then some (false)
  else (byteset_Count k p0.f0).bind fun t8 =>
  (dfa_gapless k p0.f0 t8).bind fun t9 =>
  if (!t9) = true then some (false)
  else dfa_Right_l3 k p0 t8 k (0 : Int)
theorem dfa_Right_spec {k : Nat} {p0 : S50} {r : Bool} (h : dfa_Right k p0 = some r) : Spec Try.prog 27 [(e50 p0)] (eBool r) := by
  rw [dfa_Right.eq_1] at h
  refine Spec.intro (res := [.tmp 2]) Try.func27 rfl rfl rfl (Nat.le_of_ble_eq_true rfl) ?_
  refine AW.seq ?_
  refine AW.reg ?_
  refine AO.box rfl 1 rfl (by decide) rfl rfl rfl fun n2 => ?_
  refine AO.calm rfl 2 rfl (by decide) (eBool false) (Calm.assign rfl rfl) ?_
  refine AO.nil (ρ' := [(1, (.ptr n2 0))]) (H' := [(n2, (.mem (e50 p0)))]) ⟨rfl, trivial⟩ (Sub.refl _) ?_
  refine AW.seq ?_
  refine AW.reg ?_
  refine AO.calm rfl 9 rfl (by decide) (.ptr n2 256) (Calm.fldPtr rfl rfl Try.underlying50 rfl sz48 _ rfl) ?_
  refine AO.calm rfl 10 rfl (by decide) (.fz 1 (p0.f1.map e43)) (Calm.load 0 rfl rfl rfl (At.cast (At.fldS (At.fld0 At.here)) rfl) ag48 sz48) ?_
  refine AO.calm rfl 11 rfl (by decide) (eI64 (p0.f1.length : Int)) (Calm.lenL rfl rfl Try.underlying48) ?_
  refine AO.calm rfl 3 rfl (by decide) (eI64 (p0.f1.length : Int)) (Calm.assign rfl rfl) ?_
  refine AO.nil (ρ' := [(1, (.ptr n2 0)), (3, (eI64 (p0.f1.length : Int)))]) (H' := [(n2, (.mem (e50 p0)))]) ⟨rfl, rfl, trivial⟩ (Sub.refl _) ?_
  refine AW.seq ?_
  refine AW.seq ?_
  obtain ⟨b3, hq4, h⟩ := of_bind h
  refine AW.regM [(1, (.ptr n2 0)), (3, (eI64 (p0.f1.length : Int))), (24, (eBool b3))] [(n2, (.mem (e50 p0)))] ?_ ?_
  · refine AO.calm rfl 12 rfl (by decide) (eI64 (p0.f1.length : Int)) (Calm.move rfl rfl) ?_
    refine AO.calm rfl 13 rfl (by decide) (eBool (decide ((p0.f1.length : Int) = (0 : Int)))) (Calm.int rfl rfl rfl rfl) ?_
    refine AO.calm rfl 14 rfl (by decide) (eBool (decide ((p0.f1.length : Int) = (0 : Int)))) (Calm.move rfl rfl) ?_
    by_cases hc5 : (p0.f1.length : Int) = (0 : Int)
    · have hq4 := (if_pos hc5).symm.trans hq4
      refine AO.skipG 2 true 14 rfl rfl (congrArg (fun b => some (AV.fl (Value.bool b))) (decide_eq_true hc5)) 15 rfl (by decide) ?_
      refine AO.skipG 2 true 14 rfl rfl (congrArg (fun b => some (AV.fl (Value.bool b))) (decide_eq_true hc5)) 16 rfl (by decide) ?_
      refine AO.calm rfl 17 rfl (by decide) (eBool true) (Calm.pickT rfl (congrArg (fun b => some (AV.fl (Value.bool b))) (decide_eq_true hc5)) rfl) ?_
      refine AO.calm rfl 18 rfl (by decide) (eBool true) (Calm.move rfl rfl) ?_
      refine AO.skipG 6 true 18 rfl rfl rfl 19 rfl (by decide) ?_
      refine AO.skipG 6 true 18 rfl rfl rfl 20 rfl (by decide) ?_
      refine AO.skipG 6 true 18 rfl rfl rfl 21 rfl (by decide) ?_
      refine AO.skipG 6 true 18 rfl rfl rfl 22 rfl (by decide) ?_
      refine AO.skipG 6 true 18 rfl rfl rfl 23 rfl (by decide) ?_
      refine AO.calm rfl 24 rfl (by decide) (eBool true) (Calm.pickT rfl rfl rfl) ?_
      cases hq4
      refine AO.nilE ⟨rfl, rfl⟩ ?_ ?_
      · exact ⟨rfl, rfl, rfl, trivial⟩
      · exact (Sub.refl _)
    · have hq4 := (if_neg hc5).symm.trans hq4
      refine AO.calmG 2 false 14 rfl rfl (congrArg (fun b => some (AV.fl (Value.bool b))) (decide_eq_false hc5)) 15 rfl (by decide) (eI64 (p0.f1.length : Int)) (Calm.move rfl rfl) ?_
      refine AO.calmG 2 false 14 rfl rfl (congrArg (fun b => some (AV.fl (Value.bool b))) (decide_eq_false hc5)) 16 rfl (by decide) (eBool (decide ((32768 : Int) < (p0.f1.length : Int)))) (Calm.int rfl rfl rfl rfl) ?_
      refine AO.calm rfl 17 rfl (by decide) (eBool (decide ((32768 : Int) < (p0.f1.length : Int)))) (Calm.pickF rfl (congrArg (fun b => some (AV.fl (Value.bool b))) (decide_eq_false hc5)) rfl) ?_
      refine AO.calm rfl 18 rfl (by decide) (eBool (decide ((32768 : Int) < (p0.f1.length : Int)))) (Calm.move rfl rfl) ?_
      by_cases hc6 : (32768 : Int) < (p0.f1.length : Int)
      · have hq4 := (if_pos hc6).symm.trans hq4
        refine AO.skipG 6 true 18 rfl rfl (congrArg (fun b => some (AV.fl (Value.bool b))) (decide_eq_true hc6)) 19 rfl (by decide) ?_
        refine AO.skipG 6 true 18 rfl rfl (congrArg (fun b => some (AV.fl (Value.bool b))) (decide_eq_true hc6)) 20 rfl (by decide) ?_
        refine AO.skipG 6 true 18 rfl rfl (congrArg (fun b => some (AV.fl (Value.bool b))) (decide_eq_true hc6)) 21 rfl (by decide) ?_
        refine AO.skipG 6 true 18 rfl rfl (congrArg (fun b => some (AV.fl (Value.bool b))) (decide_eq_true hc6)) 22 rfl (by decide) ?_
        refine AO.skipG 6 true 18 rfl rfl (congrArg (fun b => some (AV.fl (Value.bool b))) (decide_eq_true hc6)) 23 rfl (by decide) ?_
        refine AO.calm rfl 24 rfl (by decide) (eBool true) (Calm.pickT rfl (congrArg (fun b => some (AV.fl (Value.bool b))) (decide_eq_true hc6)) rfl) ?_
        cases hq4
        refine AO.nilE ⟨rfl, rfl⟩ ?_ ?_
        · exact ⟨rfl, rfl, rfl, trivial⟩
        · exact (Sub.refl _)
      · have hq4 := (if_neg hc6).symm.trans hq4
        refine AO.calmG 6 false 18 rfl rfl (congrArg (fun b => some (AV.fl (Value.bool b))) (decide_eq_false hc6)) 19 rfl (by decide) (.ptr n2 257) (Calm.fldPtr rfl rfl Try.underlying50 rfl sz43 _ rfl) ?_
        refine AO.calmG 6 false 18 rfl rfl (congrArg (fun b => some (AV.fl (Value.bool b))) (decide_eq_false hc6)) 20 rfl (by decide) (.fz 1 (p0.f2.map eI64)) (Calm.load 0 rfl rfl rfl (At.cast (At.fldS (At.fldS (At.fld0 At.here))) rfl) ag43 sz43) ?_
        refine AO.calmG 6 false 18 rfl rfl (congrArg (fun b => some (AV.fl (Value.bool b))) (decide_eq_false hc6)) 21 rfl (by decide) (eI64 (p0.f2.length : Int)) (Calm.lenL rfl rfl Try.underlying43) ?_
        refine AO.calmG 6 false 18 rfl rfl (congrArg (fun b => some (AV.fl (Value.bool b))) (decide_eq_false hc6)) 22 rfl (by decide) (eI64 (p0.f1.length : Int)) (Calm.move rfl rfl) ?_
        refine AO.calmG 6 false 18 rfl rfl (congrArg (fun b => some (AV.fl (Value.bool b))) (decide_eq_false hc6)) 23 rfl (by decide) (eBool (decide ((p0.f2.length : Int) ≠ (p0.f1.length : Int)))) (Calm.int rfl rfl rfl rfl) ?_
        refine AO.calm rfl 24 rfl (by decide) (eBool (decide ((p0.f2.length : Int) ≠ (p0.f1.length : Int)))) (Calm.pickF rfl (congrArg (fun b => some (AV.fl (Value.bool b))) (decide_eq_false hc6)) rfl) ?_
        cases hq4
        refine AO.nilE ⟨rfl, rfl⟩ ?_ ?_
        · exact ⟨rfl, rfl, rfl, trivial⟩
        · exact (Sub.refl _)
  · by_cases hc7 : b3 = true
    · have h := (if_pos hc7).symm.trans h
      refine AW.condT' b3 rfl hc7 ?_
      refine AW.seq ?_
      refine AW.reg ?_
      refine AO.calm rfl 2 rfl (by decide) (eBool false) (Calm.assign rfl rfl) ?_
      refine AO.nil (ρ' := [(2, (eBool false))]) (H' := []) ⟨rfl, trivial⟩ (Sub.nil _) ?_
      refine AW.ret (ρ' := [(2, (eBool false))]) (H' := []) ⟨rfl, trivial⟩ (Sub.refl _) ?_
      have hr := Option.some.inj h
      subst hr
      exact ⟨[(eBool false)], ⟨rfl, rfl, trivial⟩, rfl⟩
    · have h := (if_neg hc7).symm.trans h
      refine AW.condF' b3 rfl hc7 ?_
      refine AW.skip (ρ' := [(1, (.ptr n2 0)), (3, (eI64 (p0.f1.length : Int)))]) (H' := [(n2, (.mem (e50 p0)))]) ⟨rfl, rfl, trivial⟩ (Sub.refl _) ?_
      refine AW.seq ?_
      refine AW.reg ?_
      refine AO.calm rfl 25 rfl (by decide) (.ptr n2 0) (Calm.fldPtr rfl rfl Try.underlying50 rfl sz47 _ rfl) ?_
      refine AO.calm rfl 26 rfl (by decide) (.ar 1 (p0.f0.toList.map eU8)) (Calm.load 0 rfl rfl rfl (At.cast (At.fld0 At.here) rfl) ag47 (by rw [sz47]; simp [AV.size])) ?_
      obtain ⟨t8, et8, h⟩ := of_bind h
      refine AO.callS [(.ar 1 (p0.f0.toList.map eU8))] (eI64 t8) 27 rfl (by decide) ok52 rfl rfl rfl ⟨rfl, rfl, trivial⟩ (byteset_Count_spec et8) ?_
      refine AO.calm rfl 4 rfl (by decide) (eI64 t8) (Calm.assign rfl rfl) ?_
      refine AO.nil (ρ' := [(1, (.ptr n2 0)), (3, (eI64 (p0.f1.length : Int))), (4, (eI64 t8))]) (H' := [(n2, (.mem (e50 p0)))]) ⟨rfl, rfl, rfl, trivial⟩ (Sub.refl _) ?_
      refine AW.seq ?_
      refine AW.seq ?_
      refine AW.reg ?_
      refine AO.calm rfl 28 rfl (by decide) (.ptr n2 0) (Calm.fldPtr rfl rfl Try.underlying50 rfl sz47 _ rfl) ?_
      refine AO.calm rfl 29 rfl (by decide) (.ar 1 (p0.f0.toList.map eU8)) (Calm.load 0 rfl rfl rfl (At.cast (At.fld0 At.here) rfl) ag47 (by rw [sz47]; simp [AV.size])) ?_
      refine AO.calm rfl 30 rfl (by decide) (eI64 t8) (Calm.move rfl rfl) ?_
      obtain ⟨t9, et9, h⟩ := of_bind h
      refine AO.callS [(.ar 1 (p0.f0.toList.map eU8)), (eI64 t8)] (eBool t9) 31 rfl (by decide) ok53 rfl rfl rfl ⟨rfl, rfl, rfl, rfl, trivial⟩ (dfa_gapless_spec et9) ?_
      refine AO.calm rfl 32 rfl (by decide) (eBool (!t9)) (Calm.not rfl rfl) ?_
      refine AO.nil (ρ' := [(1, (.ptr n2 0)), (3, (eI64 (p0.f1.length : Int))), (4, (eI64 t8)), (32, (eBool (!t9)))]) (H' := [(n2, (.mem (e50 p0)))]) ⟨rfl, rfl, rfl, rfl, trivial⟩ (Sub.refl _) ?_
      by_cases hc10 : (!t9) = true
      · have h := (if_pos hc10).symm.trans h
        refine AW.condT' (!t9) rfl hc10 ?_
        refine AW.seq ?_
        refine AW.reg ?_
        refine AO.calm rfl 2 rfl (by decide) (eBool false) (Calm.assign rfl rfl) ?_
        refine AO.nil (ρ' := [(2, (eBool false))]) (H' := []) ⟨rfl, trivial⟩ (Sub.nil _) ?_
        refine AW.ret (ρ' := [(2, (eBool false))]) (H' := []) ⟨rfl, trivial⟩ (Sub.refl _) ?_
        have hr := Option.some.inj h
        subst hr
        exact ⟨[(eBool false)], ⟨rfl, rfl, trivial⟩, rfl⟩
      · have h := (if_neg hc10).symm.trans h
        refine AW.condF' (!t9) rfl hc10 ?_
        refine AW.skip (ρ' := [(1, (.ptr n2 0)), (3, (eI64 (p0.f1.length : Int))), (4, (eI64 t8))]) (H' := [(n2, (.mem (e50 p0)))]) ⟨rfl, rfl, rfl, trivial⟩ (Sub.refl _) ?_
        refine AW.seq_mid (fun ρ H => ρ = [] ∧ H = [] ∧ dfa_Right_c0 k = some r) ?_ ?_
        · refine AW.seq ?_
          refine AW.reg ?_
          refine AO.calm rfl 33 rfl (by decide) (.ptr n2 256) (Calm.fldPtr rfl rfl Try.underlying50 rfl sz48 _ rfl) ?_
          refine AO.calm rfl 34 rfl (by decide) (.fz 1 (p0.f1.map e43)) (Calm.load 0 rfl rfl rfl (At.cast (At.fldS (At.fld0 At.here)) rfl) ag48 sz48) ?_
          refine AO.calm rfl 35 rfl (by decide) (eI64 (p0.f1.length : Int)) (Calm.lenL rfl rfl Try.underlying48) ?_
          refine AO.calm rfl 36 rfl (by decide) (eI64 (0 : Int)) (Calm.move rfl rfl) ?_
          refine AO.nil (ρ' := [(1, (.ptr n2 0)), (3, (eI64 (p0.f1.length : Int))), (4, (eI64 t8)), (34, (.fz 1 (p0.f1.map e43))), (35, (eI64 (p0.f1.length : Int))), (36, (eI64 (0 : Int)))]) (H' := [(n2, (.mem (e50 p0)))]) ⟨rfl, rfl, rfl, rfl, rfl, rfl, trivial⟩ (Sub.refl _) ?_
          refine AW.block ?_
          refine AW.weak (ρ' := [(1, (.ptr n2 0)), (3, (eI64 (p0.f1.length : Int))), (4, (eI64 t8)), (34, (.fz 1 (p0.f1.map e43))), (35, (eI64 (p0.f1.length : Int))), (36, (eI64 (0 : Int)))]) (H' := [(n2, (.mem (e50 p0)))]) ⟨rfl, rfl, rfl, rfl, rfl, rfl, trivial⟩ (Sub.refl _) ?_
          refine AW.loop (fun kq ρ H => ∃ (x11 : Int), ρ = [(1, (.ptr n2 0)), (3, (eI64 (p0.f1.length : Int))), (4, (eI64 t8)), (34, (.fz 1 (p0.f1.map e43))), (35, (eI64 (p0.f1.length : Int))), (36, (eI64 x11))] ∧ H = [(n2, (.mem (e50 p0)))] ∧ dfa_Right_l3 k p0 t8 kq x11 = some r) k ⟨(0 : Int), rfl, rfl, h⟩ ?_
          rintro kq13 _ _ ⟨x11, rfl, rfl, h⟩
          cases kq13 with
          | zero => rw [dfa_Right_l3.eq_1] at h; cases h
          | succ kq13 =>
          rw [dfa_Right_l3.eq_2] at h
          generalize hrec12 : dfa_Right_l3 k p0 t8 kq13 = rec12 at h
          refine AW.seq ?_
          refine AW.reg ?_
          refine AO.calm rfl 37 rfl (by decide) (eBool (decide (x11 < (p0.f1.length : Int)))) (Calm.int rfl rfl rfl rfl) ?_
          refine AO.nil (ρ' := [(1, (.ptr n2 0)), (3, (eI64 (p0.f1.length : Int))), (4, (eI64 t8)), (34, (.fz 1 (p0.f1.map e43))), (35, (eI64 (p0.f1.length : Int))), (36, (eI64 x11)), (37, (eBool (decide (x11 < (p0.f1.length : Int)))))]) (H' := [(n2, (.mem (e50 p0)))]) ⟨rfl, rfl, rfl, rfl, rfl, rfl, rfl, trivial⟩ (Sub.refl _) ?_
          refine AW.seq ?_
          by_cases hc14 : x11 < (p0.f1.length : Int)
          · have h := (if_pos hc14).symm.trans h
            refine AW.condP (x11 < (p0.f1.length : Int)) rfl hc14 ?_
            refine AW.skip (ρ' := [(1, (.ptr n2 0)), (3, (eI64 (p0.f1.length : Int))), (4, (eI64 t8)), (34, (.fz 1 (p0.f1.map e43))), (35, (eI64 (p0.f1.length : Int))), (36, (eI64 x11))]) (H' := [(n2, (.mem (e50 p0)))]) ⟨rfl, rfl, rfl, rfl, rfl, rfl, trivial⟩ (Sub.refl _) ?_
            refine AW.seq_mid (fun ρ H => ρ = [(1, (.ptr n2 0)), (3, (eI64 (p0.f1.length : Int))), (4, (eI64 t8)), (34, (.fz 1 (p0.f1.map e43))), (35, (eI64 (p0.f1.length : Int))), (36, (eI64 x11))] ∧ H = [(n2, (.mem (e50 p0)))] ∧ dfa_Right_c1 k rec12 x11 = some r) ?_ ?_
            · refine AW.block ?_
              refine AW.seq ?_
              refine AW.reg ?_
              refine AO.calm rfl 38 rfl (by decide) (eI64 x11) (Calm.move rfl rfl) ?_
              obtain ⟨hg15, h⟩ := of_guard h
              refine AO.calm rfl 39 rfl (by decide) (.rp (.fz 1 ((lget p0.f1 x11).map eI64))) (Calm.idxL (f := e43) rfl rfl rfl hg15 Try.underlying48 sz43) ?_
              refine AO.calm rfl 40 rfl (by decide) (.fz 1 ((lget p0.f1 x11).map eI64)) (Calm.loadRp rfl rfl ag43 sz43) ?_
              refine AO.calm rfl 5 rfl (by decide) (eI64 x11) (Calm.assign rfl rfl) ?_
              refine AO.calm rfl 6 rfl (by decide) (.fz 1 ((lget p0.f1 x11).map eI64)) (Calm.assign rfl rfl) ?_
              refine AO.nil (ρ' := [(1, (.ptr n2 0)), (3, (eI64 (p0.f1.length : Int))), (4, (eI64 t8)), (5, (eI64 x11)), (6, (.fz 1 ((lget p0.f1 x11).map eI64))), (34, (.fz 1 (p0.f1.map e43))), (35, (eI64 (p0.f1.length : Int))), (36, (eI64 x11))]) (H' := [(n2, (.mem (e50 p0)))]) ⟨rfl, rfl, rfl, rfl, rfl, rfl, rfl, rfl, trivial⟩ (Sub.refl _) ?_
              refine AW.seq ?_
              refine AW.seq ?_
              obtain ⟨b16, hq17, h⟩ := of_bind h
              refine AW.regM [(1, (.ptr n2 0)), (3, (eI64 (p0.f1.length : Int))), (4, (eI64 t8)), (6, (.fz 1 ((lget p0.f1 x11).map eI64))), (34, (.fz 1 (p0.f1.map e43))), (35, (eI64 (p0.f1.length : Int))), (36, (eI64 x11)), (60, (eBool b16))] [(n2, (.mem (e50 p0)))] ?_ ?_
              · refine AO.calm rfl 41 rfl (by decide) (.fz 1 ((lget p0.f1 x11).map eI64)) (Calm.move rfl rfl) ?_
                refine AO.calm rfl 42 rfl (by decide) (eI64 ((lget p0.f1 x11).length : Int)) (Calm.lenL rfl rfl Try.underlying43) ?_
                refine AO.calm rfl 43 rfl (by decide) (eI64 t8) (Calm.move rfl rfl) ?_
                refine AO.calm rfl 44 rfl (by decide) (eBool (decide (((lget p0.f1 x11).length : Int) ≠ t8))) (Calm.int rfl rfl rfl rfl) ?_
                refine AO.calm rfl 45 rfl (by decide) (eBool (decide (((lget p0.f1 x11).length : Int) ≠ t8))) (Calm.move rfl rfl) ?_
                by_cases hc18 : ((lget p0.f1 x11).length : Int) ≠ t8
                · have hq17 := (if_pos hc18).symm.trans hq17
                  refine AO.skipG 4 true 45 rfl rfl (congrArg (fun b => some (AV.fl (Value.bool b))) (decide_eq_true hc18)) 46 rfl (by decide) ?_
                  refine AO.skipG 4 true 45 rfl rfl (congrArg (fun b => some (AV.fl (Value.bool b))) (decide_eq_true hc18)) 47 rfl (by decide) ?_
                  refine AO.skipG 4 true 45 rfl rfl (congrArg (fun b => some (AV.fl (Value.bool b))) (decide_eq_true hc18)) 48 rfl (by decide) ?_
                  refine AO.skipG 4 true 45 rfl rfl (congrArg (fun b => some (AV.fl (Value.bool b))) (decide_eq_true hc18)) 49 rfl (by decide) ?_
                  refine AO.skipG 4 true 45 rfl rfl (congrArg (fun b => some (AV.fl (Value.bool b))) (decide_eq_true hc18)) 50 rfl (by decide) ?_
                  refine AO.skipG 4 true 45 rfl rfl (congrArg (fun b => some (AV.fl (Value.bool b))) (decide_eq_true hc18)) 51 rfl (by decide) ?_
                  refine AO.calm rfl 52 rfl (by decide) (eBool true) (Calm.pickT rfl (congrArg (fun b => some (AV.fl (Value.bool b))) (decide_eq_true hc18)) rfl) ?_
                  refine AO.calm rfl 53 rfl (by decide) (eBool true) (Calm.move rfl rfl) ?_
                  refine AO.skipG 12 true 53 rfl rfl rfl 54 rfl (by decide) ?_
                  refine AO.skipG 12 true 53 rfl rfl rfl 55 rfl (by decide) ?_
                  refine AO.skipG 12 true 53 rfl rfl rfl 56 rfl (by decide) ?_
                  refine AO.skipG 12 true 53 rfl rfl rfl 57 rfl (by decide) ?_
                  refine AO.skipG 12 true 53 rfl rfl rfl 58 rfl (by decide) ?_
                  refine AO.skipG 12 true 53 rfl rfl rfl 59 rfl (by decide) ?_
                  refine AO.calm rfl 60 rfl (by decide) (eBool true) (Calm.pickT rfl rfl rfl) ?_
                  cases hq17
                  refine AO.nilE ⟨rfl, rfl⟩ ?_ ?_
                  · exact ⟨rfl, rfl, rfl, rfl, rfl, rfl, rfl, rfl, trivial⟩
                  · exact (Sub.refl _)
                · have hq17 := (if_neg hc18).symm.trans hq17
                  refine AO.calmG 4 false 45 rfl rfl (congrArg (fun b => some (AV.fl (Value.bool b))) (decide_eq_false hc18)) 46 rfl (by decide) (.ptr n2 257) (Calm.fldPtr rfl rfl Try.underlying50 rfl sz43 _ rfl) ?_
                  refine AO.calmG 4 false 45 rfl rfl (congrArg (fun b => some (AV.fl (Value.bool b))) (decide_eq_false hc18)) 47 rfl (by decide) (.fz 1 (p0.f2.map eI64)) (Calm.load 0 rfl rfl rfl (At.cast (At.fldS (At.fldS (At.fld0 At.here))) rfl) ag43 sz43) ?_
                  refine AO.calmG 4 false 45 rfl rfl (congrArg (fun b => some (AV.fl (Value.bool b))) (decide_eq_false hc18)) 48 rfl (by decide) (eI64 x11) (Calm.move rfl rfl) ?_
                  obtain ⟨hg19, hq17⟩ := of_guard hq17
                  refine AO.calmG 4 false 45 rfl rfl (congrArg (fun b => some (AV.fl (Value.bool b))) (decide_eq_false hc18)) 49 rfl (by decide) (.rp (eI64 (lget p0.f2 x11))) (Calm.idxL (f := eI64) rfl rfl rfl hg19 Try.underlying43 sz3) ?_
                  refine AO.calmG 4 false 45 rfl rfl (congrArg (fun b => some (AV.fl (Value.bool b))) (decide_eq_false hc18)) 50 rfl (by decide) (eI64 (lget p0.f2 x11)) (Calm.loadRp rfl rfl ag3 sz3) ?_
                  refine AO.calmG 4 false 45 rfl rfl (congrArg (fun b => some (AV.fl (Value.bool b))) (decide_eq_false hc18)) 51 rfl (by decide) (eBool (decide ((lget p0.f2 x11) < (-1 : Int)))) (Calm.int rfl rfl rfl rfl) ?_
                  refine AO.calm rfl 52 rfl (by decide) (eBool (decide ((lget p0.f2 x11) < (-1 : Int)))) (Calm.pickF rfl (congrArg (fun b => some (AV.fl (Value.bool b))) (decide_eq_false hc18)) rfl) ?_
                  refine AO.calm rfl 53 rfl (by decide) (eBool (decide ((lget p0.f2 x11) < (-1 : Int)))) (Calm.move rfl rfl) ?_
                  by_cases hc20 : (lget p0.f2 x11) < (-1 : Int)
                  · have hq17 := (if_pos hc20).symm.trans hq17
                    refine AO.skipG 12 true 53 rfl rfl (congrArg (fun b => some (AV.fl (Value.bool b))) (decide_eq_true hc20)) 54 rfl (by decide) ?_
                    refine AO.skipG 12 true 53 rfl rfl (congrArg (fun b => some (AV.fl (Value.bool b))) (decide_eq_true hc20)) 55 rfl (by decide) ?_
                    refine AO.skipG 12 true 53 rfl rfl (congrArg (fun b => some (AV.fl (Value.bool b))) (decide_eq_true hc20)) 56 rfl (by decide) ?_
                    refine AO.skipG 12 true 53 rfl rfl (congrArg (fun b => some (AV.fl (Value.bool b))) (decide_eq_true hc20)) 57 rfl (by decide) ?_
                    refine AO.skipG 12 true 53 rfl rfl (congrArg (fun b => some (AV.fl (Value.bool b))) (decide_eq_true hc20)) 58 rfl (by decide) ?_
                    refine AO.skipG 12 true 53 rfl rfl (congrArg (fun b => some (AV.fl (Value.bool b))) (decide_eq_true hc20)) 59 rfl (by decide) ?_
                    refine AO.calm rfl 60 rfl (by decide) (eBool true) (Calm.pickT rfl (congrArg (fun b => some (AV.fl (Value.bool b))) (decide_eq_true hc20)) rfl) ?_
                    cases hq17
                    refine AO.nilE ⟨rfl, rfl⟩ ?_ ?_
                    · exact ⟨rfl, rfl, rfl, rfl, rfl, rfl, rfl, rfl, trivial⟩
                    · exact (Sub.refl _)
                  · have hq17 := (if_neg hc20).symm.trans hq17
                    refine AO.calmG 12 false 53 rfl rfl (congrArg (fun b => some (AV.fl (Value.bool b))) (decide_eq_false hc20)) 54 rfl (by decide) (.ptr n2 257) (Calm.fldPtr rfl rfl Try.underlying50 rfl sz43 _ rfl) ?_
                    refine AO.calmG 12 false 53 rfl rfl (congrArg (fun b => some (AV.fl (Value.bool b))) (decide_eq_false hc20)) 55 rfl (by decide) (.fz 1 (p0.f2.map eI64)) (Calm.load 0 rfl rfl rfl (At.cast (At.fldS (At.fldS (At.fld0 At.here))) rfl) ag43 sz43) ?_
                    refine AO.calmG 12 false 53 rfl rfl (congrArg (fun b => some (AV.fl (Value.bool b))) (decide_eq_false hc20)) 56 rfl (by decide) (eI64 x11) (Calm.move rfl rfl) ?_
                    obtain ⟨hg21, hq17⟩ := of_guard hq17
                    refine AO.calmG 12 false 53 rfl rfl (congrArg (fun b => some (AV.fl (Value.bool b))) (decide_eq_false hc20)) 57 rfl (by decide) (.rp (eI64 (lget p0.f2 x11))) (Calm.idxL (f := eI64) rfl rfl rfl hg21 Try.underlying43 sz3) ?_
                    refine AO.calmG 12 false 53 rfl rfl (congrArg (fun b => some (AV.fl (Value.bool b))) (decide_eq_false hc20)) 58 rfl (by decide) (eI64 (lget p0.f2 x11)) (Calm.loadRp rfl rfl ag3 sz3) ?_
                    refine AO.calmG 12 false 53 rfl rfl (congrArg (fun b => some (AV.fl (Value.bool b))) (decide_eq_false hc20)) 59 rfl (by decide) (eBool (decide ((32768 : Int) ≤ (lget p0.f2 x11)))) (Calm.int rfl rfl rfl rfl) ?_
                    refine AO.calm rfl 60 rfl (by decide) (eBool (decide ((32768 : Int) ≤ (lget p0.f2 x11)))) (Calm.pickF rfl (congrArg (fun b => some (AV.fl (Value.bool b))) (decide_eq_false hc20)) rfl) ?_
                    cases hq17
                    refine AO.nilE ⟨rfl, rfl⟩ ?_ ?_
                    · exact ⟨rfl, rfl, rfl, rfl, rfl, rfl, rfl, rfl, trivial⟩
                    · exact (Sub.refl _)
              · by_cases hc22 : b16 = true
                · have h := (if_pos hc22).symm.trans h
                  refine AW.condT' b16 rfl hc22 ?_
                  refine AW.seq ?_
                  refine AW.reg ?_
                  refine AO.calm rfl 2 rfl (by decide) (eBool false) (Calm.assign rfl rfl) ?_
                  refine AO.nil (ρ' := [(2, (eBool false))]) (H' := []) ⟨rfl, trivial⟩ (Sub.nil _) ?_
                  refine AW.ret (ρ' := [(2, (eBool false))]) (H' := []) ⟨rfl, trivial⟩ (Sub.refl _) ?_
                  have hr := Option.some.inj h
                  subst hr
                  exact ⟨[(eBool false)], ⟨rfl, rfl, trivial⟩, rfl⟩
                · have h := (if_neg hc22).symm.trans h
                  refine AW.condF' b16 rfl hc22 ?_
                  refine AW.skip (ρ' := [(1, (.ptr n2 0)), (3, (eI64 (p0.f1.length : Int))), (4, (eI64 t8)), (6, (.fz 1 ((lget p0.f1 x11).map eI64))), (34, (.fz 1 (p0.f1.map e43))), (35, (eI64 (p0.f1.length : Int))), (36, (eI64 x11))]) (H' := [(n2, (.mem (e50 p0)))]) ⟨rfl, rfl, rfl, rfl, rfl, rfl, rfl, trivial⟩ (Sub.refl _) ?_
                  refine AW.seq ?_
                  refine AW.reg ?_
                  refine AO.calm rfl 61 rfl (by decide) (.fz 1 ((lget p0.f1 x11).map eI64)) (Calm.move rfl rfl) ?_
                  refine AO.calm rfl 62 rfl (by decide) (eI64 ((lget p0.f1 x11).length : Int)) (Calm.lenL rfl rfl Try.underlying43) ?_
                  refine AO.calm rfl 63 rfl (by decide) (eI64 (0 : Int)) (Calm.move rfl rfl) ?_
                  refine AO.nil (ρ' := [(1, (.ptr n2 0)), (3, (eI64 (p0.f1.length : Int))), (4, (eI64 t8)), (34, (.fz 1 (p0.f1.map e43))), (35, (eI64 (p0.f1.length : Int))), (36, (eI64 x11)), (61, (.fz 1 ((lget p0.f1 x11).map eI64))), (62, (eI64 ((lget p0.f1 x11).length : Int))), (63, (eI64 (0 : Int)))]) (H' := [(n2, (.mem (e50 p0)))]) ⟨rfl, rfl, rfl, rfl, rfl, rfl, rfl, rfl, rfl, trivial⟩ (Sub.refl _) ?_
                  refine AW.block ?_
                  refine AW.weak (ρ' := [(1, (.ptr n2 0)), (3, (eI64 (p0.f1.length : Int))), (4, (eI64 t8)), (34, (.fz 1 (p0.f1.map e43))), (35, (eI64 (p0.f1.length : Int))), (36, (eI64 x11)), (61, (.fz 1 ((lget p0.f1 x11).map eI64))), (62, (eI64 ((lget p0.f1 x11).length : Int))), (63, (eI64 (0 : Int)))]) (H' := [(n2, (.mem (e50 p0)))]) ⟨rfl, rfl, rfl, rfl, rfl, rfl, rfl, rfl, rfl, trivial⟩ (Sub.refl _) ?_
                  refine AW.loop (fun kq ρ H => ∃ (x23 : Int), ρ = [(1, (.ptr n2 0)), (3, (eI64 (p0.f1.length : Int))), (4, (eI64 t8)), (34, (.fz 1 (p0.f1.map e43))), (35, (eI64 (p0.f1.length : Int))), (36, (eI64 x11)), (61, (.fz 1 ((lget p0.f1 x11).map eI64))), (62, (eI64 ((lget p0.f1 x11).length : Int))), (63, (eI64 x23))] ∧ H = [(n2, (.mem (e50 p0)))] ∧ dfa_Right_l2 k rec12 p0 x11 kq x23 = some r) k ⟨(0 : Int), rfl, rfl, h⟩ ?_
                  rintro kq25 _ _ ⟨x23, rfl, rfl, h⟩
                  cases kq25 with
                  | zero => rw [dfa_Right_l2.eq_1] at h; cases h
                  | succ kq25 =>
                  rw [dfa_Right_l2.eq_2] at h
                  generalize hrec24 : dfa_Right_l2 k rec12 p0 x11 kq25 = rec24 at h
                  refine AW.seq ?_
                  refine AW.reg ?_
                  refine AO.calm rfl 64 rfl (by decide) (eBool (decide (x23 < ((lget p0.f1 x11).length : Int)))) (Calm.int rfl rfl rfl rfl) ?_
                  refine AO.nil (ρ' := [(1, (.ptr n2 0)), (3, (eI64 (p0.f1.length : Int))), (4, (eI64 t8)), (34, (.fz 1 (p0.f1.map e43))), (35, (eI64 (p0.f1.length : Int))), (36, (eI64 x11)), (61, (.fz 1 ((lget p0.f1 x11).map eI64))), (62, (eI64 ((lget p0.f1 x11).length : Int))), (63, (eI64 x23)), (64, (eBool (decide (x23 < ((lget p0.f1 x11).length : Int)))))]) (H' := [(n2, (.mem (e50 p0)))]) ⟨rfl, rfl, rfl, rfl, rfl, rfl, rfl, rfl, rfl, rfl, trivial⟩ (Sub.refl _) ?_
                  refine AW.seq ?_
                  by_cases hc26 : x23 < ((lget p0.f1 x11).length : Int)
                  · have h := (if_pos hc26).symm.trans h
                    refine AW.condP (x23 < ((lget p0.f1 x11).length : Int)) rfl hc26 ?_
                    refine AW.skip (ρ' := [(1, (.ptr n2 0)), (3, (eI64 (p0.f1.length : Int))), (4, (eI64 t8)), (34, (.fz 1 (p0.f1.map e43))), (35, (eI64 (p0.f1.length : Int))), (36, (eI64 x11)), (61, (.fz 1 ((lget p0.f1 x11).map eI64))), (62, (eI64 ((lget p0.f1 x11).length : Int))), (63, (eI64 x23))]) (H' := [(n2, (.mem (e50 p0)))]) ⟨rfl, rfl, rfl, rfl, rfl, rfl, rfl, rfl, rfl, trivial⟩ (Sub.refl _) ?_
                    refine AW.seq ?_
                    refine AW.block ?_
                    refine AW.seq ?_
                    refine AW.reg ?_
                    obtain ⟨hg27, h⟩ := of_guard h
                    refine AO.calm rfl 65 rfl (by decide) (.rp (eI64 (lget (lget p0.f1 x11) x23))) (Calm.idxL (f := eI64) rfl rfl rfl hg27 Try.underlying43 sz3) ?_
                    refine AO.calm rfl 66 rfl (by decide) (eI64 (lget (lget p0.f1 x11) x23)) (Calm.loadRp rfl rfl ag3 sz3) ?_
                    refine AO.calm rfl 8 rfl (by decide) (eI64 (lget (lget p0.f1 x11) x23)) (Calm.assign rfl rfl) ?_
                    refine AO.nil (ρ' := [(1, (.ptr n2 0)), (3, (eI64 (p0.f1.length : Int))), (4, (eI64 t8)), (8, (eI64 (lget (lget p0.f1 x11) x23))), (34, (.fz 1 (p0.f1.map e43))), (35, (eI64 (p0.f1.length : Int))), (36, (eI64 x11)), (61, (.fz 1 ((lget p0.f1 x11).map eI64))), (62, (eI64 ((lget p0.f1 x11).length : Int))), (63, (eI64 x23))]) (H' := [(n2, (.mem (e50 p0)))]) ⟨rfl, rfl, rfl, rfl, rfl, rfl, rfl, rfl, rfl, rfl, trivial⟩ (Sub.refl _) ?_
                    refine AW.seq ?_
                    obtain ⟨b28, hq29, h⟩ := of_bind h
                    refine AW.regM [(1, (.ptr n2 0)), (3, (eI64 (p0.f1.length : Int))), (4, (eI64 t8)), (34, (.fz 1 (p0.f1.map e43))), (35, (eI64 (p0.f1.length : Int))), (36, (eI64 x11)), (61, (.fz 1 ((lget p0.f1 x11).map eI64))), (62, (eI64 ((lget p0.f1 x11).length : Int))), (63, (eI64 x23)), (73, (eBool b28))] [(n2, (.mem (e50 p0)))] ?_ ?_
                    · refine AO.calm rfl 67 rfl (by decide) (eI64 (lget (lget p0.f1 x11) x23)) (Calm.move rfl rfl) ?_
                      refine AO.calm rfl 68 rfl (by decide) (eBool (decide ((lget (lget p0.f1 x11) x23) < (-1 : Int)))) (Calm.int rfl rfl rfl rfl) ?_
                      refine AO.calm rfl 69 rfl (by decide) (eBool (decide ((lget (lget p0.f1 x11) x23) < (-1 : Int)))) (Calm.move rfl rfl) ?_
                      by_cases hc30 : (lget (lget p0.f1 x11) x23) < (-1 : Int)
                      · have hq29 := (if_pos hc30).symm.trans hq29
                        refine AO.skipG 2 true 69 rfl rfl (congrArg (fun b => some (AV.fl (Value.bool b))) (decide_eq_true hc30)) 70 rfl (by decide) ?_
                        refine AO.skipG 2 true 69 rfl rfl (congrArg (fun b => some (AV.fl (Value.bool b))) (decide_eq_true hc30)) 71 rfl (by decide) ?_
                        refine AO.skipG 2 true 69 rfl rfl (congrArg (fun b => some (AV.fl (Value.bool b))) (decide_eq_true hc30)) 72 rfl (by decide) ?_
                        refine AO.calm rfl 73 rfl (by decide) (eBool true) (Calm.pickT rfl (congrArg (fun b => some (AV.fl (Value.bool b))) (decide_eq_true hc30)) rfl) ?_
                        cases hq29
                        refine AO.nilE ⟨rfl, rfl⟩ ?_ ?_
                        · exact ⟨rfl, rfl, rfl, rfl, rfl, rfl, rfl, rfl, rfl, rfl, trivial⟩
                        · exact (Sub.refl _)
                      · have hq29 := (if_neg hc30).symm.trans hq29
                        refine AO.calmG 2 false 69 rfl rfl (congrArg (fun b => some (AV.fl (Value.bool b))) (decide_eq_false hc30)) 70 rfl (by decide) (eI64 (lget (lget p0.f1 x11) x23)) (Calm.move rfl rfl) ?_
                        refine AO.calmG 2 false 69 rfl rfl (congrArg (fun b => some (AV.fl (Value.bool b))) (decide_eq_false hc30)) 71 rfl (by decide) (eI64 (p0.f1.length : Int)) (Calm.move rfl rfl) ?_
                        refine AO.calmG 2 false 69 rfl rfl (congrArg (fun b => some (AV.fl (Value.bool b))) (decide_eq_false hc30)) 72 rfl (by decide) (eBool (decide ((p0.f1.length : Int) ≤ (lget (lget p0.f1 x11) x23)))) (Calm.int rfl rfl rfl rfl) ?_
                        refine AO.calm rfl 73 rfl (by decide) (eBool (decide ((p0.f1.length : Int) ≤ (lget (lget p0.f1 x11) x23)))) (Calm.pickF rfl (congrArg (fun b => some (AV.fl (Value.bool b))) (decide_eq_false hc30)) rfl) ?_
                        cases hq29
                        refine AO.nilE ⟨rfl, rfl⟩ ?_ ?_
                        · exact ⟨rfl, rfl, rfl, rfl, rfl, rfl, rfl, rfl, rfl, rfl, trivial⟩
                        · exact (Sub.refl _)
                    · by_cases hc31 : b28 = true
                      · have h := (if_pos hc31).symm.trans h
                        refine AW.condT' b28 rfl hc31 ?_
                        refine AW.seq ?_
                        refine AW.reg ?_
                        refine AO.calm rfl 2 rfl (by decide) (eBool false) (Calm.assign rfl rfl) ?_
                        refine AO.nil (ρ' := [(2, (eBool false))]) (H' := []) ⟨rfl, trivial⟩ (Sub.nil _) ?_
                        refine AW.ret (ρ' := [(2, (eBool false))]) (H' := []) ⟨rfl, trivial⟩ (Sub.refl _) ?_
                        have hr := Option.some.inj h
                        subst hr
                        exact ⟨[(eBool false)], ⟨rfl, rfl, trivial⟩, rfl⟩
                      · have h := (if_neg hc31).symm.trans h
                        refine AW.condF' b28 rfl hc31 ?_
                        refine AW.skip (ρ' := [(1, (.ptr n2 0)), (3, (eI64 (p0.f1.length : Int))), (4, (eI64 t8)), (34, (.fz 1 (p0.f1.map e43))), (35, (eI64 (p0.f1.length : Int))), (36, (eI64 x11)), (61, (.fz 1 ((lget p0.f1 x11).map eI64))), (62, (eI64 ((lget p0.f1 x11).length : Int))), (63, (eI64 x23))]) (H' := [(n2, (.mem (e50 p0)))]) ⟨rfl, rfl, rfl, rfl, rfl, rfl, rfl, rfl, rfl, trivial⟩ (Sub.refl _) ?_
                        refine AW.reg ?_
                        refine AO.calm rfl 74 rfl (by decide) (eI64 (w64 (x23 + (1 : Int)))) (Calm.int rfl rfl rfl rfl) ?_
                        refine AO.calm rfl 63 rfl (by decide) (eI64 (w64 (x23 + (1 : Int)))) (Calm.move rfl rfl) ?_
                        refine AO.nil (ρ' := [(1, (.ptr n2 0)), (3, (eI64 (p0.f1.length : Int))), (4, (eI64 t8)), (34, (.fz 1 (p0.f1.map e43))), (35, (eI64 (p0.f1.length : Int))), (36, (eI64 x11)), (61, (.fz 1 ((lget p0.f1 x11).map eI64))), (62, (eI64 ((lget p0.f1 x11).length : Int))), (63, (eI64 (w64 (x23 + (1 : Int)))))]) (H' := [(n2, (.mem (e50 p0)))]) ⟨rfl, rfl, rfl, rfl, rfl, rfl, rfl, rfl, rfl, trivial⟩ (Sub.refl _) ?_
                        exact ⟨kq25, Nat.lt_succ_self _, (w64 (x23 + (1 : Int))), rfl, rfl, by rw [hrec24]; exact h⟩
                  · have h := (if_neg hc26).symm.trans h
                    refine AW.condN (x23 < ((lget p0.f1 x11).length : Int)) rfl hc26 ?_
                    refine AW.exit (ρ' := [(1, (.ptr n2 0)), (3, (eI64 (p0.f1.length : Int))), (4, (eI64 t8)), (34, (.fz 1 (p0.f1.map e43))), (35, (eI64 (p0.f1.length : Int))), (36, (eI64 x11))]) (H' := [(n2, (.mem (e50 p0)))]) ⟨rfl, rfl, rfl, rfl, rfl, rfl, trivial⟩ (Sub.refl _) ?_
                    exact ⟨rfl, rfl, h⟩
            · rintro _ _ ⟨rfl, rfl, h⟩
              rw [dfa_Right_c1.eq_1] at h
              refine AW.reg ?_
              refine AO.calm rfl 75 rfl (by decide) (eI64 (w64 (x11 + (1 : Int)))) (Calm.int rfl rfl rfl rfl) ?_
              refine AO.calm rfl 36 rfl (by decide) (eI64 (w64 (x11 + (1 : Int)))) (Calm.move rfl rfl) ?_
              refine AO.nil (ρ' := [(1, (.ptr n2 0)), (3, (eI64 (p0.f1.length : Int))), (4, (eI64 t8)), (34, (.fz 1 (p0.f1.map e43))), (35, (eI64 (p0.f1.length : Int))), (36, (eI64 (w64 (x11 + (1 : Int)))))]) (H' := [(n2, (.mem (e50 p0)))]) ⟨rfl, rfl, rfl, rfl, rfl, rfl, trivial⟩ (Sub.refl _) ?_
              exact ⟨kq13, Nat.lt_succ_self _, (w64 (x11 + (1 : Int))), rfl, rfl, by rw [hrec12]; exact h⟩
          · have h := (if_neg hc14).symm.trans h
            refine AW.condN (x11 < (p0.f1.length : Int)) rfl hc14 ?_
            refine AW.exit (ρ' := []) (H' := []) trivial (Sub.nil _) ?_
            exact ⟨rfl, rfl, h⟩
        · rintro _ _ ⟨rfl, rfl, h⟩
          rw [dfa_Right_c0.eq_1] at h
          refine AW.seq ?_
          refine AW.reg ?_
          refine AO.calm rfl 2 rfl (by decide) (eBool true) (Calm.assign rfl rfl) ?_
          refine AO.nil (ρ' := [(2, (eBool true))]) (H' := []) ⟨rfl, trivial⟩ (Sub.refl _) ?_
          refine AW.ret (ρ' := [(2, (eBool true))]) (H' := []) ⟨rfl, trivial⟩ (Sub.refl _) ?_
          have hr := Option.some.inj h
          subst hr
          exact ⟨[(eBool true)], ⟨rfl, rfl, trivial⟩, rfl⟩
end Go.Avl.T3
/- bosket/dfa.Reached; printed by avmain.py. -/
namespace Go.Avl.T3
open Go Go.RowKit Go.Proofs Go.Avl
set_option linter.unusedVariables false
set_option maxRecDepth 100000
set_option maxHeartbeats 4000000
attribute [local irreducible] AW AO AQ Spec SpecH Calm

def dfa_Reached_c0 (k : Nat) (x11 : (List Bool)) : Option (List Bool) :=
  some (x11)
def dfa_Reached_c1 (k : Nat) (rec27 : ((List Bool) → (List Int) → Int → Option (List Bool))) (x26 : Int) (x30 : (List Bool)) (x32 : (List Int)) : Option (List Bool) :=
  rec27 x30 x32 (w64 (x26 + (1 : Int)))
def dfa_Reached_l2 (k : Nat) (rec16 : ((List Bool) → (List Int) → Option (List Bool))) (p0 : S50) (x15 : (List Int)) : Nat → (List Bool) → (List Int) → Int → Option (List Bool)
  | 0, _, _, _ => none
  | j + 1, x23, x25, x26 =>
    if x26 < ((lget p0.f1 (lget x15 (0 : Int))).length : Int) then if 0 ≤ x26 ∧ x26 < ((lget p0.f1 (lget x15 (0 : Int))).length : Int) then Option.bind (α := Bool) (if (0 : Int) ≤ (lget (lget p0.f1 (lget x15 (0 : Int))) x26) then if (lget (lget p0.f1 (lget x15 (0 : Int))) x26) < (x23.length : Int) then if 0 ≤ (lget (lget p0.f1 (lget x15 (0 : Int))) x26) ∧ (lget (lget p0.f1 (lget x15 (0 : Int))) x26) < (x23.length : Int) then some (!(lget x23 (lget (lget p0.f1 (lget x15 (0 : Int))) x26)))
    else none
    else some (false)
    else some (false)) fun b34 =>
    if b34 = true then if 0 ≤ (lget (lget p0.f1 (lget x15 (0 : Int))) x26) ∧ (lget (lget p0.f1 (lget x15 (0 : Int))) x26) < (x23.length : Int) then if (x25 ++ ([(lget (lget p0.f1 (lget x15 (0 : Int))) x26)] : List Int)).length * 8 ≤ 140737488355328 then dfa_Reached_c1 k (dfa_Reached_l2 k rec16 p0 x15 j) x26 (lset x23 (lget (lget p0.f1 (lget x15 (0 : Int))) x26) true) (x25 ++ ([(lget (lget p0.f1 (lget x15 (0 : Int))) x26)] : List Int))
    else none
    else none
    else dfa_Reached_c1 k (dfa_Reached_l2 k rec16 p0 x15 j) x26 x23 x25
    else none
    else rec16 x23 x25
def dfa_Reached_l3 (k : Nat) (p0 : S50) : Nat → (List Bool) → (List Int) → Option (List Bool)
  | 0, _, _ => none
  | j + 1, x13, x15 =>
    if (0 : Int) < (x15.length : Int) then if 0 ≤ (0 : Int) ∧ (0 : Int) < (x15.length : Int) then if 0 ≤ (1 : Int) ∧ (1 : Int) ≤ (x15.length : Int) then if 0 ≤ (lget x15 (0 : Int)) ∧ (lget x15 (0 : Int)) < (p0.f1.length : Int) then dfa_Reached_l2 k (dfa_Reached_l3 k p0 j) p0 x15 k x13 (x15.drop (1 : Int).toNat) (0 : Int)
    else none
    else none
    else none
    else dfa_Reached_c0 k x13
def dfa_Reached (k : Nat) (p0 : S50) (p1 : Int) : Option (List Bool) :=
  if 0 ≤ (p0.f1.length : Int) ∧ (p0.f1.length : Int) * (1 : Int) ≤ 140737488355328 ∧ (p0.f1.length : Int) ≤ 9223372036854775807 then Option.bind (α := Bool) (if p1 < (0 : Int) then some (true)
  else some (decide (((List.replicate (p0.f1.length : Int).toNat false).length : Int) ≤ p1))) fun b6 =>
  if b6 = true then some ((List.replicate (p0.f1.length : Int).toNat false))
  else if 0 ≤ p1 ∧ p1 < ((List.replicate (p0.f1.length : Int).toNat false).length : Int) then dfa_Reached_l3 k p0 k (lset (List.replicate (p0.f1.length : Int).toNat false) p1 true) ([p1] : List Int)
  else none
  else none
theorem dfa_Reached_spec {k : Nat} {p0 : S50} {p1 : Int} {r : (List Bool)} (h : dfa_Reached k p0 p1 = some r) : Spec Try.prog 35 [(e50 p0), (eI64 p1)] (e25 r) := by
  rw [dfa_Reached.eq_1] at h
  refine Spec.intro (res := [.tmp 4]) Try.func35 rfl rfl rfl (Nat.le_of_ble_eq_true rfl) ?_
  refine AW.seq ?_
  refine AW.reg ?_
  refine AO.box rfl 2 rfl (by decide) rfl rfl rfl fun n3 => ?_
  refine AO.calm rfl 4 rfl (by decide) (.fl (.slice none 0 0)) (Calm.assign rfl rfl) ?_
  refine AO.nil (ρ' := [(1, (eI64 p1)), (2, (.ptr n3 0))]) (H' := [(n3, (.mem (e50 p0)))]) ⟨rfl, rfl, trivial⟩ (Sub.refl _) ?_
  refine AW.seq ?_
  refine AW.reg ?_
  refine AO.calm rfl 10 rfl (by decide) (.ptr n3 256) (Calm.fldPtr rfl rfl Try.underlying50 rfl sz48 _ rfl) ?_
  refine AO.calm rfl 11 rfl (by decide) (.fz 1 (p0.f1.map e43)) (Calm.load 0 rfl rfl rfl (At.cast (At.fldS (At.fld0 At.here)) rfl) ag48 sz48) ?_
  refine AO.calm rfl 12 rfl (by decide) (eI64 (p0.f1.length : Int)) (Calm.lenL rfl rfl Try.underlying48) ?_
  obtain ⟨hg5, h⟩ := of_guard h
  refine AO.makeL (f := eBool) false rfl 13 rfl (by decide) rfl rfl rfl Try.underlying25 sz4 by4 zr4 lay4 rfl hg5 fun n4 => ?_
  refine AO.calm rfl 5 rfl (by decide) (.own n4 0 (List.replicate (p0.f1.length : Int).toNat false).length) (Calm.assign rfl rfl) ?_
  refine AO.nil (ρ' := [(1, (eI64 p1)), (2, (.ptr n3 0)), (5, (.own n4 0 (List.replicate (p0.f1.length : Int).toNat false).length))]) (H' := [(n3, (.mem (e50 p0))), (n4, (.mem (.ar 1 ((List.replicate (p0.f1.length : Int).toNat false).map eBool))))]) ⟨rfl, rfl, rfl, trivial⟩ (Sub.cons 1 rfl (Sub.cons 0 rfl (Sub.nil _))) ?_
  refine AW.seq ?_
  refine AW.seq ?_
  obtain ⟨b6, hq7, h⟩ := of_bind h
  refine AW.regM [(1, (eI64 p1)), (2, (.ptr n3 0)), (5, (.own n4 0 (List.replicate (p0.f1.length : Int).toNat false).length)), (21, (eBool b6))] [(n3, (.mem (e50 p0))), (n4, (.mem (.ar 1 ((List.replicate (p0.f1.length : Int).toNat false).map eBool))))] ?_ ?_
  · refine AO.calm rfl 14 rfl (by decide) (eI64 p1) (Calm.move rfl rfl) ?_
    refine AO.calm rfl 15 rfl (by decide) (eBool (decide (p1 < (0 : Int)))) (Calm.int rfl rfl rfl rfl) ?_
    refine AO.calm rfl 16 rfl (by decide) (eBool (decide (p1 < (0 : Int)))) (Calm.move rfl rfl) ?_
    by_cases hc8 : p1 < (0 : Int)
    · have hq7 := (if_pos hc8).symm.trans hq7
      refine AO.skipG 2 true 16 rfl rfl (congrArg (fun b => some (AV.fl (Value.bool b))) (decide_eq_true hc8)) 17 rfl (by decide) ?_
      refine AO.skipG 2 true 16 rfl rfl (congrArg (fun b => some (AV.fl (Value.bool b))) (decide_eq_true hc8)) 18 rfl (by decide) ?_
      refine AO.skipG 2 true 16 rfl rfl (congrArg (fun b => some (AV.fl (Value.bool b))) (decide_eq_true hc8)) 19 rfl (by decide) ?_
      refine AO.skipG 2 true 16 rfl rfl (congrArg (fun b => some (AV.fl (Value.bool b))) (decide_eq_true hc8)) 20 rfl (by decide) ?_
      refine AO.calm rfl 21 rfl (by decide) (eBool true) (Calm.pickT rfl (congrArg (fun b => some (AV.fl (Value.bool b))) (decide_eq_true hc8)) rfl) ?_
      cases hq7
      refine AO.nilE ⟨rfl, rfl⟩ ?_ ?_
      · exact ⟨rfl, rfl, rfl, rfl, trivial⟩
      · exact (Sub.refl _)
    · have hq7 := (if_neg hc8).symm.trans hq7
      refine AO.calmG 2 false 16 rfl rfl (congrArg (fun b => some (AV.fl (Value.bool b))) (decide_eq_false hc8)) 17 rfl (by decide) (eI64 p1) (Calm.move rfl rfl) ?_
      refine AO.calmG 2 false 16 rfl rfl (congrArg (fun b => some (AV.fl (Value.bool b))) (decide_eq_false hc8)) 18 rfl (by decide) (.own n4 0 (List.replicate (p0.f1.length : Int).toNat false).length) (Calm.move rfl rfl) ?_
      refine AO.calmG 2 false 16 rfl rfl (congrArg (fun b => some (AV.fl (Value.bool b))) (decide_eq_false hc8)) 19 rfl (by decide) (eI64 ((List.replicate (p0.f1.length : Int).toNat false).length : Int)) (Calm.lenOwn rfl rfl Try.underlying25) ?_
      refine AO.calmG 2 false 16 rfl rfl (congrArg (fun b => some (AV.fl (Value.bool b))) (decide_eq_false hc8)) 20 rfl (by decide) (eBool (decide (((List.replicate (p0.f1.length : Int).toNat false).length : Int) ≤ p1))) (Calm.int rfl rfl rfl rfl) ?_
      refine AO.calm rfl 21 rfl (by decide) (eBool (decide (((List.replicate (p0.f1.length : Int).toNat false).length : Int) ≤ p1))) (Calm.pickF rfl (congrArg (fun b => some (AV.fl (Value.bool b))) (decide_eq_false hc8)) rfl) ?_
      cases hq7
      refine AO.nilE ⟨rfl, rfl⟩ ?_ ?_
      · exact ⟨rfl, rfl, rfl, rfl, trivial⟩
      · exact (Sub.refl _)
  · by_cases hc9 : b6 = true
    · have h := (if_pos hc9).symm.trans h
      refine AW.condT' b6 rfl hc9 ?_
      refine AW.seq ?_
      refine AW.reg ?_
      refine AO.calm rfl 22 rfl (by decide) (.own n4 0 (List.replicate (p0.f1.length : Int).toNat false).length) (Calm.move rfl rfl) ?_
      refine AO.calm rfl 4 rfl (by decide) (.own n4 0 (List.replicate (p0.f1.length : Int).toNat false).length) (Calm.assign rfl rfl) ?_
      refine AO.nil (ρ' := [(4, (.own n4 0 (List.replicate (p0.f1.length : Int).toNat false).length))]) (H' := [(n4, (.mem (.ar 1 ((List.replicate (p0.f1.length : Int).toNat false).map eBool))))]) ⟨rfl, trivial⟩ (Sub.cons 1 rfl (Sub.nil _)) ?_
      refine AW.freezeS 0 [(4, (.fz 1 ((List.replicate (p0.f1.length : Int).toNat false).map eBool)))] rfl ⟨fz_all rfl, trivial⟩ ?_
      refine AW.ret (ρ' := [(4, (.fz 1 ((List.replicate (p0.f1.length : Int).toNat false).map eBool)))]) (H' := []) ⟨rfl, trivial⟩ (Sub.refl _) ?_
      have hr := Option.some.inj h
      subst hr
      exact ⟨[(.fz 1 ((List.replicate (p0.f1.length : Int).toNat false).map eBool))], ⟨rfl, rfl, trivial⟩, rfl⟩
    · have h := (if_neg hc9).symm.trans h
      refine AW.condF' b6 rfl hc9 ?_
      refine AW.skip (ρ' := [(1, (eI64 p1)), (2, (.ptr n3 0)), (5, (.own n4 0 (List.replicate (p0.f1.length : Int).toNat false).length))]) (H' := [(n3, (.mem (e50 p0))), (n4, (.mem (.ar 1 ((List.replicate (p0.f1.length : Int).toNat false).map eBool))))]) ⟨rfl, rfl, rfl, trivial⟩ (Sub.refl _) ?_
      refine AW.seq ?_
      refine AW.reg ?_
      refine AO.calm rfl 23 rfl (by decide) (.own n4 0 (List.replicate (p0.f1.length : Int).toNat false).length) (Calm.move rfl rfl) ?_
      refine AO.calm rfl 24 rfl (by decide) (eI64 p1) (Calm.move rfl rfl) ?_
      obtain ⟨hg10, h⟩ := of_guard h
      refine AO.calm rfl 25 rfl (by decide) (.ptr n4 (p1.toNat * 1 + 0)) (Calm.idxO 1 rfl rfl rfl rfl hg10 Try.underlying25 sz4) ?_
      refine AO.store (X' := (.ar 1 ((lset (List.replicate (p0.f1.length : Int).toNat false) p1 true).map eBool))) 1 rfl rfl rfl rfl rfl rfl (Put.cast (Put.lidx p1 true hg10.1 hg10.2 Put.here) (by omega)) rfl rfl sz4 rfl ?_
      refine AO.coe 5 (y' := (.own n4 0 (lset (List.replicate (p0.f1.length : Int).toNat false) p1 true).length)) rfl (fun _ _ h => lset_own h) ?_
      refine AO.coe 23 (y' := (.own n4 0 (lset (List.replicate (p0.f1.length : Int).toNat false) p1 true).length)) rfl (fun _ _ h => lset_own h) ?_
      refine AO.nil (ρ' := [(1, (eI64 p1)), (2, (.ptr n3 0)), (5, (.own n4 0 (lset (List.replicate (p0.f1.length : Int).toNat false) p1 true).length))]) (H' := [(n3, (.mem (e50 p0))), (n4, (.mem (.ar 1 ((lset (List.replicate (p0.f1.length : Int).toNat false) p1 true).map eBool))))]) ⟨rfl, rfl, rfl, trivial⟩ (Sub.refl _) ?_
      refine AW.seq_mid (fun ρ H => ∃ (x11 : (List Bool)), ρ = [(5, (.own n4 0 x11.length))] ∧ H = [(n4, (.mem (.ar 1 (x11.map eBool))))] ∧ dfa_Reached_c0 k x11 = some r) ?_ ?_
      · refine AW.seq ?_
        refine AW.reg ?_
        refine AO.calm rfl 26 rfl (by decide) (eI64 p1) (Calm.move rfl rfl) ?_
        refine AO.lit (Z := (eI64 (0 : Int))) (xs := (([p1] : List Int).map eI64)) (qs := [(0, (eI64 p1))]) rfl 27 rfl (by decide) rfl ⟨rfl, rfl, rfl, trivial⟩ Try.underlying43 sz3 zr3 lay3 rfl (by decide) (litOK (z := 1) [(eI64 p1)] rfl ⟨⟨rfl, rfl⟩, trivial⟩) rfl fun n12 => ?_
        refine AO.calm rfl 6 rfl (by decide) (.own n12 0 ([p1] : List Int).length) (Calm.assign rfl rfl) ?_
        refine AO.nil (ρ' := [(2, (.ptr n3 0)), (5, (.own n4 0 (lset (List.replicate (p0.f1.length : Int).toNat false) p1 true).length)), (6, (.own n12 0 ([p1] : List Int).length))]) (H' := [(n3, (.mem (e50 p0))), (n4, (.mem (.ar 1 ((lset (List.replicate (p0.f1.length : Int).toNat false) p1 true).map eBool)))), (n12, (.mem (.ar 1 (([p1] : List Int).map eI64))))]) ⟨rfl, rfl, rfl, trivial⟩ (Sub.cons 1 rfl (Sub.cons 1 rfl (Sub.cons 0 rfl (Sub.nil _)))) ?_
        refine AW.block ?_
        refine AW.weak (ρ' := [(2, (.ptr n3 0)), (5, (.own n4 0 (lset (List.replicate (p0.f1.length : Int).toNat false) p1 true).length)), (6, (.own n12 0 ([p1] : List Int).length))]) (H' := [(n3, (.mem (e50 p0))), (n4, (.mem (.ar 1 ((lset (List.replicate (p0.f1.length : Int).toNat false) p1 true).map eBool)))), (n12, (.mem (.ar 1 (([p1] : List Int).map eI64))))]) ⟨rfl, rfl, rfl, trivial⟩ (Sub.refl _) ?_
        refine AW.loop (fun kq ρ H => ∃ (n14 : Nat) (x13 : (List Bool)) (x15 : (List Int)), ρ = [(2, (.ptr n3 0)), (5, (.own n4 0 x13.length)), (6, (.own n14 0 x15.length))] ∧ H = [(n3, (.mem (e50 p0))), (n4, (.mem (.ar 1 (x13.map eBool)))), (n14, (.mem (.ar 1 (x15.map eI64))))] ∧ dfa_Reached_l3 k p0 kq x13 x15 = some r) k ⟨n12, (lset (List.replicate (p0.f1.length : Int).toNat false) p1 true), ([p1] : List Int), rfl, rfl, h⟩ ?_
        rintro kq17 _ _ ⟨n14, x13, x15, rfl, rfl, h⟩
        cases kq17 with
        | zero => rw [dfa_Reached_l3.eq_1] at h; cases h
        | succ kq17 =>
        rw [dfa_Reached_l3.eq_2] at h
        generalize hrec16 : dfa_Reached_l3 k p0 kq17 = rec16 at h
        refine AW.seq ?_
        refine AW.seq ?_
        refine AW.reg ?_
        refine AO.calm rfl 28 rfl (by decide) (.own n14 0 x15.length) (Calm.move rfl rfl) ?_
        refine AO.calm rfl 29 rfl (by decide) (eI64 (x15.length : Int)) (Calm.lenOwn rfl rfl Try.underlying43) ?_
        refine AO.calm rfl 30 rfl (by decide) (eBool (decide ((0 : Int) < (x15.length : Int)))) (Calm.int rfl rfl rfl rfl) ?_
        refine AO.nil (ρ' := [(2, (.ptr n3 0)), (5, (.own n4 0 x13.length)), (6, (.own n14 0 x15.length)), (30, (eBool (decide ((0 : Int) < (x15.length : Int)))))]) (H' := [(n3, (.mem (e50 p0))), (n4, (.mem (.ar 1 (x13.map eBool)))), (n14, (.mem (.ar 1 (x15.map eI64))))]) ⟨rfl, rfl, rfl, rfl, trivial⟩ (Sub.refl _) ?_
        by_cases hc18 : (0 : Int) < (x15.length : Int)
        · have h := (if_pos hc18).symm.trans h
          refine AW.condP ((0 : Int) < (x15.length : Int)) rfl hc18 ?_
          refine AW.skip (ρ' := [(2, (.ptr n3 0)), (5, (.own n4 0 x13.length)), (6, (.own n14 0 x15.length))]) (H' := [(n3, (.mem (e50 p0))), (n4, (.mem (.ar 1 (x13.map eBool)))), (n14, (.mem (.ar 1 (x15.map eI64))))]) ⟨rfl, rfl, rfl, trivial⟩ (Sub.refl _) ?_
          refine AW.block ?_
          refine AW.seq ?_
          refine AW.reg ?_
          refine AO.calm rfl 31 rfl (by decide) (.own n14 0 x15.length) (Calm.move rfl rfl) ?_
          obtain ⟨hg19, h⟩ := of_guard h
          refine AO.calm rfl 32 rfl (by decide) (.ptr n14 ((0 : Int).toNat * 1 + 0)) (Calm.idxO 2 rfl rfl rfl rfl hg19 Try.underlying43 sz3) ?_
          refine AO.calm rfl 33 rfl (by decide) (eI64 (lget x15 (0 : Int))) (Calm.load 2 rfl rfl rfl (At.cast (At.lidx (0 : Int) hg19.1 hg19.2 At.here) (by omega)) ag3 sz3) ?_
          refine AO.calm rfl 7 rfl (by decide) (eI64 (lget x15 (0 : Int))) (Calm.assign rfl rfl) ?_
          refine AO.nil (ρ' := [(2, (.ptr n3 0)), (5, (.own n4 0 x13.length)), (6, (.own n14 0 x15.length)), (7, (eI64 (lget x15 (0 : Int))))]) (H' := [(n3, (.mem (e50 p0))), (n4, (.mem (.ar 1 (x13.map eBool)))), (n14, (.mem (.ar 1 (x15.map eI64))))]) ⟨rfl, rfl, rfl, rfl, trivial⟩ (Sub.refl _) ?_
          refine AW.seq ?_
          refine AW.reg ?_
          refine AO.calm rfl 34 rfl (by decide) (.own n14 0 x15.length) (Calm.move rfl rfl) ?_
          obtain ⟨hg20, h⟩ := of_guard h
          refine AO.sufNew (l := x15) (f := eI64) 2 35 rfl (by decide) rfl rfl rfl rfl rfl hg20 Try.underlying43 sz3 fun n21 => ?_
          refine AO.calm rfl 6 rfl (by decide) (.own n21 0 (x15.drop (1 : Int).toNat).length) (Calm.assign rfl rfl) ?_
          refine AO.nil (ρ' := [(2, (.ptr n3 0)), (5, (.own n4 0 x13.length)), (6, (.own n21 0 (x15.drop (1 : Int).toNat).length)), (7, (eI64 (lget x15 (0 : Int))))]) (H' := [(n3, (.mem (e50 p0))), (n4, (.mem (.ar 1 (x13.map eBool)))), (n21, (.mem (.ar 1 ((x15.drop (1 : Int).toNat).map eI64))))]) ⟨rfl, rfl, rfl, rfl, trivial⟩ (Sub.refl _) ?_
          refine AW.seq ?_
          refine AW.reg ?_
          refine AO.calm rfl 36 rfl (by decide) (.ptr n3 256) (Calm.fldPtr rfl rfl Try.underlying50 rfl sz48 _ rfl) ?_
          refine AO.calm rfl 37 rfl (by decide) (.fz 1 (p0.f1.map e43)) (Calm.load 0 rfl rfl rfl (At.cast (At.fldS (At.fld0 At.here)) rfl) ag48 sz48) ?_
          refine AO.calm rfl 38 rfl (by decide) (eI64 (lget x15 (0 : Int))) (Calm.move rfl rfl) ?_
          obtain ⟨hg22, h⟩ := of_guard h
          refine AO.calm rfl 39 rfl (by decide) (.rp (.fz 1 ((lget p0.f1 (lget x15 (0 : Int))).map eI64))) (Calm.idxL (f := e43) rfl rfl rfl hg22 Try.underlying48 sz43) ?_
          refine AO.calm rfl 40 rfl (by decide) (.fz 1 ((lget p0.f1 (lget x15 (0 : Int))).map eI64)) (Calm.loadRp rfl rfl ag43 sz43) ?_
          refine AO.calm rfl 41 rfl (by decide) (eI64 ((lget p0.f1 (lget x15 (0 : Int))).length : Int)) (Calm.lenL rfl rfl Try.underlying43) ?_
          refine AO.calm rfl 42 rfl (by decide) (eI64 (0 : Int)) (Calm.move rfl rfl) ?_
          refine AO.nil (ρ' := [(2, (.ptr n3 0)), (5, (.own n4 0 x13.length)), (6, (.own n21 0 (x15.drop (1 : Int).toNat).length)), (40, (.fz 1 ((lget p0.f1 (lget x15 (0 : Int))).map eI64))), (41, (eI64 ((lget p0.f1 (lget x15 (0 : Int))).length : Int))), (42, (eI64 (0 : Int)))]) (H' := [(n3, (.mem (e50 p0))), (n4, (.mem (.ar 1 (x13.map eBool)))), (n21, (.mem (.ar 1 ((x15.drop (1 : Int).toNat).map eI64))))]) ⟨rfl, rfl, rfl, rfl, rfl, rfl, trivial⟩ (Sub.refl _) ?_
          refine AW.block ?_
          refine AW.weak (ρ' := [(2, (.ptr n3 0)), (5, (.own n4 0 x13.length)), (6, (.own n21 0 (x15.drop (1 : Int).toNat).length)), (40, (.fz 1 ((lget p0.f1 (lget x15 (0 : Int))).map eI64))), (41, (eI64 ((lget p0.f1 (lget x15 (0 : Int))).length : Int))), (42, (eI64 (0 : Int)))]) (H' := [(n3, (.mem (e50 p0))), (n4, (.mem (.ar 1 (x13.map eBool)))), (n21, (.mem (.ar 1 ((x15.drop (1 : Int).toNat).map eI64))))]) ⟨rfl, rfl, rfl, rfl, rfl, rfl, trivial⟩ (Sub.refl _) ?_
          refine AW.loop (fun kq ρ H => ∃ (n24 : Nat) (x23 : (List Bool)) (x25 : (List Int)) (x26 : Int), ρ = [(2, (.ptr n3 0)), (5, (.own n4 0 x23.length)), (6, (.own n24 0 x25.length)), (40, (.fz 1 ((lget p0.f1 (lget x15 (0 : Int))).map eI64))), (41, (eI64 ((lget p0.f1 (lget x15 (0 : Int))).length : Int))), (42, (eI64 x26))] ∧ H = [(n3, (.mem (e50 p0))), (n4, (.mem (.ar 1 (x23.map eBool)))), (n24, (.mem (.ar 1 (x25.map eI64))))] ∧ dfa_Reached_l2 k rec16 p0 x15 kq x23 x25 x26 = some r) k ⟨n21, x13, (x15.drop (1 : Int).toNat), (0 : Int), rfl, rfl, h⟩ ?_
          rintro kq28 _ _ ⟨n24, x23, x25, x26, rfl, rfl, h⟩
          cases kq28 with
          | zero => rw [dfa_Reached_l2.eq_1] at h; cases h
          | succ kq28 =>
          rw [dfa_Reached_l2.eq_2] at h
          generalize hrec27 : dfa_Reached_l2 k rec16 p0 x15 kq28 = rec27 at h
          refine AW.seq ?_
          refine AW.reg ?_
          refine AO.calm rfl 43 rfl (by decide) (eBool (decide (x26 < ((lget p0.f1 (lget x15 (0 : Int))).length : Int)))) (Calm.int rfl rfl rfl rfl) ?_
          refine AO.nil (ρ' := [(2, (.ptr n3 0)), (5, (.own n4 0 x23.length)), (6, (.own n24 0 x25.length)), (40, (.fz 1 ((lget p0.f1 (lget x15 (0 : Int))).map eI64))), (41, (eI64 ((lget p0.f1 (lget x15 (0 : Int))).length : Int))), (42, (eI64 x26)), (43, (eBool (decide (x26 < ((lget p0.f1 (lget x15 (0 : Int))).length : Int)))))]) (H' := [(n3, (.mem (e50 p0))), (n4, (.mem (.ar 1 (x23.map eBool)))), (n24, (.mem (.ar 1 (x25.map eI64))))]) ⟨rfl, rfl, rfl, rfl, rfl, rfl, rfl, trivial⟩ (Sub.refl _) ?_
          refine AW.seq ?_
          by_cases hc29 : x26 < ((lget p0.f1 (lget x15 (0 : Int))).length : Int)
          · have h := (if_pos hc29).symm.trans h
            refine AW.condP (x26 < ((lget p0.f1 (lget x15 (0 : Int))).length : Int)) rfl hc29 ?_
            refine AW.skip (ρ' := [(2, (.ptr n3 0)), (5, (.own n4 0 x23.length)), (6, (.own n24 0 x25.length)), (40, (.fz 1 ((lget p0.f1 (lget x15 (0 : Int))).map eI64))), (41, (eI64 ((lget p0.f1 (lget x15 (0 : Int))).length : Int))), (42, (eI64 x26))]) (H' := [(n3, (.mem (e50 p0))), (n4, (.mem (.ar 1 (x23.map eBool)))), (n24, (.mem (.ar 1 (x25.map eI64))))]) ⟨rfl, rfl, rfl, rfl, rfl, rfl, trivial⟩ (Sub.refl _) ?_
            refine AW.seq_mid (fun ρ H => ∃ (n31 : Nat) (x30 : (List Bool)) (x32 : (List Int)), ρ = [(2, (.ptr n3 0)), (5, (.own n4 0 x30.length)), (6, (.own n31 0 x32.length)), (40, (.fz 1 ((lget p0.f1 (lget x15 (0 : Int))).map eI64))), (41, (eI64 ((lget p0.f1 (lget x15 (0 : Int))).length : Int))), (42, (eI64 x26))] ∧ H = [(n3, (.mem (e50 p0))), (n4, (.mem (.ar 1 (x30.map eBool)))), (n31, (.mem (.ar 1 (x32.map eI64))))] ∧ dfa_Reached_c1 k rec27 x26 x30 x32 = some r) ?_ ?_
            · refine AW.block ?_
              refine AW.seq ?_
              refine AW.reg ?_
              obtain ⟨hg33, h⟩ := of_guard h
              refine AO.calm rfl 44 rfl (by decide) (.rp (eI64 (lget (lget p0.f1 (lget x15 (0 : Int))) x26))) (Calm.idxL (f := eI64) rfl rfl rfl hg33 Try.underlying43 sz3) ?_
              refine AO.calm rfl 45 rfl (by decide) (eI64 (lget (lget p0.f1 (lget x15 (0 : Int))) x26)) (Calm.loadRp rfl rfl ag3 sz3) ?_
              refine AO.calm rfl 9 rfl (by decide) (eI64 (lget (lget p0.f1 (lget x15 (0 : Int))) x26)) (Calm.assign rfl rfl) ?_
              refine AO.nil (ρ' := [(2, (.ptr n3 0)), (5, (.own n4 0 x23.length)), (6, (.own n24 0 x25.length)), (9, (eI64 (lget (lget p0.f1 (lget x15 (0 : Int))) x26))), (40, (.fz 1 ((lget p0.f1 (lget x15 (0 : Int))).map eI64))), (41, (eI64 ((lget p0.f1 (lget x15 (0 : Int))).length : Int))), (42, (eI64 x26))]) (H' := [(n3, (.mem (e50 p0))), (n4, (.mem (.ar 1 (x23.map eBool)))), (n24, (.mem (.ar 1 (x25.map eI64))))]) ⟨rfl, rfl, rfl, rfl, rfl, rfl, rfl, trivial⟩ (Sub.refl _) ?_
              refine AW.seq ?_
              obtain ⟨b34, hq35, h⟩ := of_bind h
              refine AW.regM [(2, (.ptr n3 0)), (5, (.own n4 0 x23.length)), (6, (.own n24 0 x25.length)), (9, (eI64 (lget (lget p0.f1 (lget x15 (0 : Int))) x26))), (40, (.fz 1 ((lget p0.f1 (lget x15 (0 : Int))).map eI64))), (41, (eI64 ((lget p0.f1 (lget x15 (0 : Int))).length : Int))), (42, (eI64 x26)), (60, (eBool b34))] [(n3, (.mem (e50 p0))), (n4, (.mem (.ar 1 (x23.map eBool)))), (n24, (.mem (.ar 1 (x25.map eI64))))] ?_ ?_
              · refine AO.calm rfl 46 rfl (by decide) (eI64 (lget (lget p0.f1 (lget x15 (0 : Int))) x26)) (Calm.move rfl rfl) ?_
                refine AO.calm rfl 47 rfl (by decide) (eBool (decide ((0 : Int) ≤ (lget (lget p0.f1 (lget x15 (0 : Int))) x26)))) (Calm.int rfl rfl rfl rfl) ?_
                refine AO.calm rfl 48 rfl (by decide) (eBool (decide ((0 : Int) ≤ (lget (lget p0.f1 (lget x15 (0 : Int))) x26)))) (Calm.move rfl rfl) ?_
                by_cases hc36 : (0 : Int) ≤ (lget (lget p0.f1 (lget x15 (0 : Int))) x26)
                · have hq35 := (if_pos hc36).symm.trans hq35
                  refine AO.calmG 2 true 48 rfl rfl (congrArg (fun b => some (AV.fl (Value.bool b))) (decide_eq_true hc36)) 49 rfl (by decide) (eI64 (lget (lget p0.f1 (lget x15 (0 : Int))) x26)) (Calm.move rfl rfl) ?_
                  refine AO.calmG 2 true 48 rfl rfl (congrArg (fun b => some (AV.fl (Value.bool b))) (decide_eq_true hc36)) 50 rfl (by decide) (.own n4 0 x23.length) (Calm.move rfl rfl) ?_
                  refine AO.calmG 2 true 48 rfl rfl (congrArg (fun b => some (AV.fl (Value.bool b))) (decide_eq_true hc36)) 51 rfl (by decide) (eI64 (x23.length : Int)) (Calm.lenOwn rfl rfl Try.underlying25) ?_
                  refine AO.calmG 2 true 48 rfl rfl (congrArg (fun b => some (AV.fl (Value.bool b))) (decide_eq_true hc36)) 52 rfl (by decide) (eBool (decide ((lget (lget p0.f1 (lget x15 (0 : Int))) x26) < (x23.length : Int)))) (Calm.int rfl rfl rfl rfl) ?_
                  refine AO.calm rfl 53 rfl (by decide) (eBool (decide ((lget (lget p0.f1 (lget x15 (0 : Int))) x26) < (x23.length : Int)))) (Calm.pickT rfl (congrArg (fun b => some (AV.fl (Value.bool b))) (decide_eq_true hc36)) rfl) ?_
                  refine AO.calm rfl 54 rfl (by decide) (eBool (decide ((lget (lget p0.f1 (lget x15 (0 : Int))) x26) < (x23.length : Int)))) (Calm.move rfl rfl) ?_
                  by_cases hc37 : (lget (lget p0.f1 (lget x15 (0 : Int))) x26) < (x23.length : Int)
                  · have hq35 := (if_pos hc37).symm.trans hq35
                    refine AO.calmG 8 true 54 rfl rfl (congrArg (fun b => some (AV.fl (Value.bool b))) (decide_eq_true hc37)) 55 rfl (by decide) (.own n4 0 x23.length) (Calm.move rfl rfl) ?_
                    refine AO.calmG 8 true 54 rfl rfl (congrArg (fun b => some (AV.fl (Value.bool b))) (decide_eq_true hc37)) 56 rfl (by decide) (eI64 (lget (lget p0.f1 (lget x15 (0 : Int))) x26)) (Calm.move rfl rfl) ?_
                    obtain ⟨hg38, hq35⟩ := of_guard hq35
                    refine AO.calmG 8 true 54 rfl rfl (congrArg (fun b => some (AV.fl (Value.bool b))) (decide_eq_true hc37)) 57 rfl (by decide) (.ptr n4 ((lget (lget p0.f1 (lget x15 (0 : Int))) x26).toNat * 1 + 0)) (Calm.idxO 1 rfl rfl rfl rfl hg38 Try.underlying25 sz4) ?_
                    refine AO.calmG 8 true 54 rfl rfl (congrArg (fun b => some (AV.fl (Value.bool b))) (decide_eq_true hc37)) 58 rfl (by decide) (eBool (lget x23 (lget (lget p0.f1 (lget x15 (0 : Int))) x26))) (Calm.load 1 rfl rfl rfl (At.cast (At.lidx (lget (lget p0.f1 (lget x15 (0 : Int))) x26) hg38.1 hg38.2 At.here) (by omega)) ag4 sz4) ?_
                    refine AO.calmG 8 true 54 rfl rfl (congrArg (fun b => some (AV.fl (Value.bool b))) (decide_eq_true hc37)) 59 rfl (by decide) (eBool (!(lget x23 (lget (lget p0.f1 (lget x15 (0 : Int))) x26)))) (Calm.not rfl rfl) ?_
                    refine AO.calm rfl 60 rfl (by decide) (eBool (!(lget x23 (lget (lget p0.f1 (lget x15 (0 : Int))) x26)))) (Calm.pickT rfl (congrArg (fun b => some (AV.fl (Value.bool b))) (decide_eq_true hc37)) rfl) ?_
                    cases hq35
                    refine AO.nilE ⟨rfl, rfl⟩ ?_ ?_
                    · exact ⟨rfl, rfl, rfl, rfl, rfl, rfl, rfl, rfl, trivial⟩
                    · exact (Sub.refl _)
                  · have hq35 := (if_neg hc37).symm.trans hq35
                    refine AO.skipG 8 false 54 rfl rfl (congrArg (fun b => some (AV.fl (Value.bool b))) (decide_eq_false hc37)) 55 rfl (by decide) ?_
                    refine AO.skipG 8 false 54 rfl rfl (congrArg (fun b => some (AV.fl (Value.bool b))) (decide_eq_false hc37)) 56 rfl (by decide) ?_
                    refine AO.skipG 8 false 54 rfl rfl (congrArg (fun b => some (AV.fl (Value.bool b))) (decide_eq_false hc37)) 57 rfl (by decide) ?_
                    refine AO.skipG 8 false 54 rfl rfl (congrArg (fun b => some (AV.fl (Value.bool b))) (decide_eq_false hc37)) 58 rfl (by decide) ?_
                    refine AO.skipG 8 false 54 rfl rfl (congrArg (fun b => some (AV.fl (Value.bool b))) (decide_eq_false hc37)) 59 rfl (by decide) ?_
                    refine AO.calm rfl 60 rfl (by decide) (eBool false) (Calm.pickF rfl (congrArg (fun b => some (AV.fl (Value.bool b))) (decide_eq_false hc37)) rfl) ?_
                    cases hq35
                    refine AO.nilE ⟨rfl, rfl⟩ ?_ ?_
                    · exact ⟨rfl, rfl, rfl, rfl, rfl, rfl, rfl, rfl, trivial⟩
                    · exact (Sub.refl _)
                · have hq35 := (if_neg hc36).symm.trans hq35
                  refine AO.skipG 2 false 48 rfl rfl (congrArg (fun b => some (AV.fl (Value.bool b))) (decide_eq_false hc36)) 49 rfl (by decide) ?_
                  refine AO.skipG 2 false 48 rfl rfl (congrArg (fun b => some (AV.fl (Value.bool b))) (decide_eq_false hc36)) 50 rfl (by decide) ?_
                  refine AO.skipG 2 false 48 rfl rfl (congrArg (fun b => some (AV.fl (Value.bool b))) (decide_eq_false hc36)) 51 rfl (by decide) ?_
                  refine AO.skipG 2 false 48 rfl rfl (congrArg (fun b => some (AV.fl (Value.bool b))) (decide_eq_false hc36)) 52 rfl (by decide) ?_
                  refine AO.calm rfl 53 rfl (by decide) (eBool false) (Calm.pickF rfl (congrArg (fun b => some (AV.fl (Value.bool b))) (decide_eq_false hc36)) rfl) ?_
                  refine AO.calm rfl 54 rfl (by decide) (eBool false) (Calm.move rfl rfl) ?_
                  refine AO.skipG 8 false 54 rfl rfl rfl 55 rfl (by decide) ?_
                  refine AO.skipG 8 false 54 rfl rfl rfl 56 rfl (by decide) ?_
                  refine AO.skipG 8 false 54 rfl rfl rfl 57 rfl (by decide) ?_
                  refine AO.skipG 8 false 54 rfl rfl rfl 58 rfl (by decide) ?_
                  refine AO.skipG 8 false 54 rfl rfl rfl 59 rfl (by decide) ?_
                  refine AO.calm rfl 60 rfl (by decide) (eBool false) (Calm.pickF rfl rfl rfl) ?_
                  cases hq35
                  refine AO.nilE ⟨rfl, rfl⟩ ?_ ?_
                  · exact ⟨rfl, rfl, rfl, rfl, rfl, rfl, rfl, rfl, trivial⟩
                  · exact (Sub.refl _)
              · by_cases hc39 : b34 = true
                · have h := (if_pos hc39).symm.trans h
                  refine AW.condT' b34 rfl hc39 ?_
                  refine AW.seq ?_
                  refine AW.reg ?_
                  refine AO.calm rfl 61 rfl (by decide) (.own n4 0 x23.length) (Calm.move rfl rfl) ?_
                  refine AO.calm rfl 62 rfl (by decide) (eI64 (lget (lget p0.f1 (lget x15 (0 : Int))) x26)) (Calm.move rfl rfl) ?_
                  obtain ⟨hg40, h⟩ := of_guard h
                  refine AO.calm rfl 63 rfl (by decide) (.ptr n4 ((lget (lget p0.f1 (lget x15 (0 : Int))) x26).toNat * 1 + 0)) (Calm.idxO 1 rfl rfl rfl rfl hg40 Try.underlying25 sz4) ?_
                  refine AO.store (X' := (.ar 1 ((lset x23 (lget (lget p0.f1 (lget x15 (0 : Int))) x26) true).map eBool))) 1 rfl rfl rfl rfl rfl rfl (Put.cast (Put.lidx (lget (lget p0.f1 (lget x15 (0 : Int))) x26) true hg40.1 hg40.2 Put.here) (by omega)) rfl rfl sz4 rfl ?_
                  refine AO.coe 5 (y' := (.own n4 0 (lset x23 (lget (lget p0.f1 (lget x15 (0 : Int))) x26) true).length)) rfl (fun _ _ h => lset_own h) ?_
                  refine AO.coe 61 (y' := (.own n4 0 (lset x23 (lget (lget p0.f1 (lget x15 (0 : Int))) x26) true).length)) rfl (fun _ _ h => lset_own h) ?_
                  refine AO.nil (ρ' := [(2, (.ptr n3 0)), (5, (.own n4 0 (lset x23 (lget (lget p0.f1 (lget x15 (0 : Int))) x26) true).length)), (6, (.own n24 0 x25.length)), (9, (eI64 (lget (lget p0.f1 (lget x15 (0 : Int))) x26))), (40, (.fz 1 ((lget p0.f1 (lget x15 (0 : Int))).map eI64))), (41, (eI64 ((lget p0.f1 (lget x15 (0 : Int))).length : Int))), (42, (eI64 x26))]) (H' := [(n3, (.mem (e50 p0))), (n4, (.mem (.ar 1 ((lset x23 (lget (lget p0.f1 (lget x15 (0 : Int))) x26) true).map eBool)))), (n24, (.mem (.ar 1 (x25.map eI64))))]) ⟨rfl, rfl, rfl, rfl, rfl, rfl, rfl, trivial⟩ (Sub.refl _) ?_
                  refine AW.reg ?_
                  refine AO.calm rfl 64 rfl (by decide) (.own n24 0 x25.length) (Calm.move rfl rfl) ?_
                  refine AO.calm rfl 65 rfl (by decide) (eI64 (lget (lget p0.f1 (lget x15 (0 : Int))) x26)) (Calm.move rfl rfl) ?_
                  refine AO.lit (Z := (eI64 (0 : Int))) (xs := (([(lget (lget p0.f1 (lget x15 (0 : Int))) x26)] : List Int).map eI64)) (qs := [(0, (eI64 (lget (lget p0.f1 (lget x15 (0 : Int))) x26)))]) rfl 66 rfl (by decide) rfl ⟨rfl, rfl, rfl, trivial⟩ Try.underlying43 sz3 zr3 lay3 rfl (by decide) (litOK (z := 1) [(eI64 (lget (lget p0.f1 (lget x15 (0 : Int))) x26))] rfl ⟨⟨rfl, rfl⟩, trivial⟩) rfl fun n41 => ?_
                  obtain ⟨hg43, h⟩ := of_guard h
                  refine AO.appendL (l := x25) (m := ([(lget (lget p0.f1 (lget x15 (0 : Int))) x26)] : List Int)) 3 67 rfl (by decide) rfl rfl rfl rfl rfl (Src.ownL (f := eI64) (l := ([(lget (lget p0.f1 (lget x15 (0 : Int))) x26)] : List Int)) 0 rfl) Try.underlying43 Try.underlying43 sz3 by3 zr3 rfl hg43 (by decide) fun n42 => ?_
                  refine AO.calm rfl 6 rfl (by decide) (.own n42 0 (x25 ++ ([(lget (lget p0.f1 (lget x15 (0 : Int))) x26)] : List Int)).length) (Calm.assign rfl rfl) ?_
                  refine AO.nil (ρ' := [(2, (.ptr n3 0)), (5, (.own n4 0 (lset x23 (lget (lget p0.f1 (lget x15 (0 : Int))) x26) true).length)), (6, (.own n42 0 (x25 ++ ([(lget (lget p0.f1 (lget x15 (0 : Int))) x26)] : List Int)).length)), (40, (.fz 1 ((lget p0.f1 (lget x15 (0 : Int))).map eI64))), (41, (eI64 ((lget p0.f1 (lget x15 (0 : Int))).length : Int))), (42, (eI64 x26))]) (H' := [(n3, (.mem (e50 p0))), (n4, (.mem (.ar 1 ((lset x23 (lget (lget p0.f1 (lget x15 (0 : Int))) x26) true).map eBool)))), (n42, (.mem (.ar 1 ((x25 ++ ([(lget (lget p0.f1 (lget x15 (0 : Int))) x26)] : List Int)).map eI64))))]) ⟨rfl, rfl, rfl, rfl, rfl, rfl, trivial⟩ (Sub.cons 1 rfl (Sub.cons 1 rfl (Sub.cons 1 rfl (Sub.nil _)))) ?_
                  exact ⟨n42, (lset x23 (lget (lget p0.f1 (lget x15 (0 : Int))) x26) true), (x25 ++ ([(lget (lget p0.f1 (lget x15 (0 : Int))) x26)] : List Int)), rfl, rfl, h⟩
                · have h := (if_neg hc39).symm.trans h
                  refine AW.condF' b34 rfl hc39 ?_
                  refine AW.skip (ρ' := [(2, (.ptr n3 0)), (5, (.own n4 0 x23.length)), (6, (.own n24 0 x25.length)), (40, (.fz 1 ((lget p0.f1 (lget x15 (0 : Int))).map eI64))), (41, (eI64 ((lget p0.f1 (lget x15 (0 : Int))).length : Int))), (42, (eI64 x26))]) (H' := [(n3, (.mem (e50 p0))), (n4, (.mem (.ar 1 (x23.map eBool)))), (n24, (.mem (.ar 1 (x25.map eI64))))]) ⟨rfl, rfl, rfl, rfl, rfl, rfl, trivial⟩ (Sub.refl _) ?_
                  exact ⟨n24, x23, x25, rfl, rfl, h⟩
            · rintro _ _ ⟨n31, x30, x32, rfl, rfl, h⟩
              rw [dfa_Reached_c1.eq_1] at h
              refine AW.reg ?_
              refine AO.calm rfl 68 rfl (by decide) (eI64 (w64 (x26 + (1 : Int)))) (Calm.int rfl rfl rfl rfl) ?_
              refine AO.calm rfl 42 rfl (by decide) (eI64 (w64 (x26 + (1 : Int)))) (Calm.move rfl rfl) ?_
              refine AO.nil (ρ' := [(2, (.ptr n3 0)), (5, (.own n4 0 x30.length)), (6, (.own n31 0 x32.length)), (40, (.fz 1 ((lget p0.f1 (lget x15 (0 : Int))).map eI64))), (41, (eI64 ((lget p0.f1 (lget x15 (0 : Int))).length : Int))), (42, (eI64 (w64 (x26 + (1 : Int)))))]) (H' := [(n3, (.mem (e50 p0))), (n4, (.mem (.ar 1 (x30.map eBool)))), (n31, (.mem (.ar 1 (x32.map eI64))))]) ⟨rfl, rfl, rfl, rfl, rfl, rfl, trivial⟩ (Sub.refl _) ?_
              exact ⟨kq28, Nat.lt_succ_self _, n31, x30, x32, (w64 (x26 + (1 : Int))), rfl, rfl, by rw [hrec27]; exact h⟩
          · have h := (if_neg hc29).symm.trans h
            refine AW.condN (x26 < ((lget p0.f1 (lget x15 (0 : Int))).length : Int)) rfl hc29 ?_
            refine AW.exit (ρ' := [(2, (.ptr n3 0)), (5, (.own n4 0 x23.length)), (6, (.own n24 0 x25.length))]) (H' := [(n3, (.mem (e50 p0))), (n4, (.mem (.ar 1 (x23.map eBool)))), (n24, (.mem (.ar 1 (x25.map eI64))))]) ⟨rfl, rfl, rfl, trivial⟩ (Sub.refl _) ?_
            exact ⟨kq17, Nat.lt_succ_self _, n24, x23, x25, rfl, rfl, by rw [hrec16]; exact h⟩
        · have h := (if_neg hc18).symm.trans h
          refine AW.condN ((0 : Int) < (x15.length : Int)) rfl hc18 ?_
          refine AW.exit (ρ' := [(5, (.own n4 0 x13.length))]) (H' := [(n4, (.mem (.ar 1 (x13.map eBool))))]) ⟨rfl, trivial⟩ (Sub.cons 1 rfl (Sub.nil _)) ?_
          exact ⟨x13, rfl, rfl, h⟩
      · rintro _ _ ⟨x11, rfl, rfl, h⟩
        rw [dfa_Reached_c0.eq_1] at h
        refine AW.seq ?_
        refine AW.reg ?_
        refine AO.calm rfl 69 rfl (by decide) (.own n4 0 x11.length) (Calm.move rfl rfl) ?_
        refine AO.calm rfl 4 rfl (by decide) (.own n4 0 x11.length) (Calm.assign rfl rfl) ?_
        refine AO.nil (ρ' := [(4, (.own n4 0 x11.length))]) (H' := [(n4, (.mem (.ar 1 (x11.map eBool))))]) ⟨rfl, trivial⟩ (Sub.refl _) ?_
        refine AW.freezeS 0 [(4, (.fz 1 (x11.map eBool)))] rfl ⟨fz_all rfl, trivial⟩ ?_
        refine AW.ret (ρ' := [(4, (.fz 1 (x11.map eBool)))]) (H' := []) ⟨rfl, trivial⟩ (Sub.refl _) ?_
        have hr := Option.some.inj h
        subst hr
        exact ⟨[(.fz 1 (x11.map eBool))], ⟨rfl, rfl, trivial⟩, rfl⟩
end Go.Avl.T3
/- bosket/bosketref08.Reached; printed by avmain.py. -/
namespace Go.Avl.T3
open Go Go.RowKit Go.Proofs Go.Avl
set_option linter.unusedVariables false
set_option maxRecDepth 100000
set_option maxHeartbeats 4000000
attribute [local irreducible] AW AO AQ Spec SpecH Calm

def bosketref08_Reached_c0 (k : Nat) (x11 : (List Bool)) : Option (List Bool) :=
  some (x11)
def bosketref08_Reached_c1 (k : Nat) (rec14 : ((List Bool) → Int → Option (List Bool))) (x13 : Int) (x17 : (List Bool)) : Option (List Bool) :=
  rec14 x17 (w64 (x13 + (1 : Int)))
def bosketref08_Reached_c2 (k : Nat) (rec20 : ((List Bool) → Int → Option (List Bool))) (x19 : Int) (x23 : (List Bool)) : Option (List Bool) :=
  rec20 x23 (w64 (x19 + (1 : Int)))
def bosketref08_Reached_c3 (k : Nat) (rec26 : ((List Bool) → Int → Option (List Bool))) (x25 : Int) (x34 : (List Bool)) : Option (List Bool) :=
  rec26 x34 (w64 (x25 + (1 : Int)))
def bosketref08_Reached_l4 (k : Nat) (rec20 : ((List Bool) → Int → Option (List Bool))) (p0 : S50) (x19 : Int) : Nat → (List Bool) → Int → Option (List Bool)
  | 0, _, _ => none
  | j + 1, x24, x25 =>
    Option.bind (α := Bool) (if 0 ≤ x19 ∧ x19 < (x24.length : Int) then if (lget x24 x19) = true then if 0 ≤ x19 ∧ x19 < (p0.f1.length : Int) then some (decide (x25 < ((lget p0.f1 x19).length : Int)))
    else none
    else some (false)
    else none) fun b28 =>
    if b28 = true then if 0 ≤ x19 ∧ x19 < (p0.f1.length : Int) then if 0 ≤ x25 ∧ x25 < ((lget p0.f1 x19).length : Int) then if (0 : Int) ≤ (lget (lget p0.f1 x19) x25) then if 0 ≤ (lget (lget p0.f1 x19) x25) ∧ (lget (lget p0.f1 x19) x25) < (x24.length : Int) then bosketref08_Reached_c3 k (bosketref08_Reached_l4 k rec20 p0 x19 j) x25 (lset x24 (lget (lget p0.f1 x19) x25) true)
    else none
    else bosketref08_Reached_c3 k (bosketref08_Reached_l4 k rec20 p0 x19 j) x25 x24
    else none
    else none
    else bosketref08_Reached_c2 k rec20 x19 x24
def bosketref08_Reached_l5 (k : Nat) (rec14 : ((List Bool) → Int → Option (List Bool))) (p0 : S50) (x13 : Int) : Nat → (List Bool) → Int → Option (List Bool)
  | 0, _, _ => none
  | j + 1, x18, x19 =>
    if x19 < (x18.length : Int) then bosketref08_Reached_l4 k (bosketref08_Reached_l5 k rec14 p0 x13 j) p0 x19 k x18 (0 : Int)
    else bosketref08_Reached_c1 k rec14 x13 x18
def bosketref08_Reached_l6 (k : Nat) (p0 : S50) : Nat → (List Bool) → Int → Option (List Bool)
  | 0, _, _ => none
  | j + 1, x12, x13 =>
    if x13 < (x12.length : Int) then bosketref08_Reached_l5 k (bosketref08_Reached_l6 k p0 j) p0 x13 k x12 (0 : Int)
    else bosketref08_Reached_c0 k x12
def bosketref08_Reached (k : Nat) (p0 : S50) (p1 : Int) : Option (List Bool) :=
  if 0 ≤ (p0.f1.length : Int) ∧ (p0.f1.length : Int) * (1 : Int) ≤ 140737488355328 ∧ (p0.f1.length : Int) ≤ 9223372036854775807 then Option.bind (α := Bool) (if p1 < (0 : Int) then some (true)
  else some (decide (((List.replicate (p0.f1.length : Int).toNat false).length : Int) ≤ p1))) fun b6 =>
  if b6 = true then some ((List.replicate (p0.f1.length : Int).toNat false))
  else if 0 ≤ p1 ∧ p1 < ((List.replicate (p0.f1.length : Int).toNat false).length : Int) then bosketref08_Reached_l6 k p0 k (lset (List.replicate (p0.f1.length : Int).toNat false) p1 true) (0 : Int)
  else none
  else none
theorem bosketref08_Reached_spec {k : Nat} {p0 : S50} {p1 : Int} {r : (List Bool)} (h : bosketref08_Reached k p0 p1 = some r) : Spec Try.prog 36 [(e50 p0), (eI64 p1)] (e25 r) := by
  rw [bosketref08_Reached.eq_1] at h
  refine Spec.intro (res := [.tmp 4]) Try.func36 rfl rfl rfl (Nat.le_of_ble_eq_true rfl) ?_
  refine AW.seq ?_
  refine AW.reg ?_
  refine AO.box rfl 2 rfl (by decide) rfl rfl rfl fun n3 => ?_
  refine AO.calm rfl 4 rfl (by decide) (.fl (.slice none 0 0)) (Calm.assign rfl rfl) ?_
  refine AO.nil (ρ' := [(1, (eI64 p1)), (2, (.ptr n3 0))]) (H' := [(n3, (.mem (e50 p0)))]) ⟨rfl, rfl, trivial⟩ (Sub.refl _) ?_
  refine AW.seq ?_
  refine AW.reg ?_
  refine AO.calm rfl 10 rfl (by decide) (.ptr n3 256) (Calm.fldPtr rfl rfl Try.underlying50 rfl sz48 _ rfl) ?_
  refine AO.calm rfl 11 rfl (by decide) (.fz 1 (p0.f1.map e43)) (Calm.load 0 rfl rfl rfl (At.cast (At.fldS (At.fld0 At.here)) rfl) ag48 sz48) ?_
  refine AO.calm rfl 12 rfl (by decide) (eI64 (p0.f1.length : Int)) (Calm.lenL rfl rfl Try.underlying48) ?_
  obtain ⟨hg5, h⟩ := of_guard h
  refine AO.makeL (f := eBool) false rfl 13 rfl (by decide) rfl rfl rfl Try.underlying25 sz4 by4 zr4 lay4 rfl hg5 fun n4 => ?_
  refine AO.calm rfl 5 rfl (by decide) (.own n4 0 (List.replicate (p0.f1.length : Int).toNat false).length) (Calm.assign rfl rfl) ?_
  refine AO.nil (ρ' := [(1, (eI64 p1)), (2, (.ptr n3 0)), (5, (.own n4 0 (List.replicate (p0.f1.length : Int).toNat false).length))]) (H' := [(n3, (.mem (e50 p0))), (n4, (.mem (.ar 1 ((List.replicate (p0.f1.length : Int).toNat false).map eBool))))]) ⟨rfl, rfl, rfl, trivial⟩ (Sub.cons 1 rfl (Sub.cons 0 rfl (Sub.nil _))) ?_
  refine AW.seq ?_
  refine AW.seq ?_
  obtain ⟨b6, hq7, h⟩ := of_bind h
  refine AW.regM [(1, (eI64 p1)), (2, (.ptr n3 0)), (5, (.own n4 0 (List.replicate (p0.f1.length : Int).toNat false).length)), (21, (eBool b6))] [(n3, (.mem (e50 p0))), (n4, (.mem (.ar 1 ((List.replicate (p0.f1.length : Int).toNat false).map eBool))))] ?_ ?_
  · refine AO.calm rfl 14 rfl (by decide) (eI64 p1) (Calm.move rfl rfl) ?_
    refine AO.calm rfl 15 rfl (by decide) (eBool (decide (p1 < (0 : Int)))) (Calm.int rfl rfl rfl rfl) ?_
    refine AO.calm rfl 16 rfl (by decide) (eBool (decide (p1 < (0 : Int)))) (Calm.move rfl rfl) ?_
    by_cases hc8 : p1 < (0 : Int)
    · have hq7 := (if_pos hc8).symm.trans hq7
      refine AO.skipG 2 true 16 rfl rfl (congrArg (fun b => some (AV.fl (Value.bool b))) (decide_eq_true hc8)) 17 rfl (by decide) ?_
      refine AO.skipG 2 true 16 rfl rfl (congrArg (fun b => some (AV.fl (Value.bool b))) (decide_eq_true hc8)) 18 rfl (by decide) ?_
      refine AO.skipG 2 true 16 rfl rfl (congrArg (fun b => some (AV.fl (Value.bool b))) (decide_eq_true hc8)) 19 rfl (by decide) ?_
      refine AO.skipG 2 true 16 rfl rfl (congrArg (fun b => some (AV.fl (Value.bool b))) (decide_eq_true hc8)) 20 rfl (by decide) ?_
      refine AO.calm rfl 21 rfl (by decide) (eBool true) (Calm.pickT rfl (congrArg (fun b => some (AV.fl (Value.bool b))) (decide_eq_true hc8)) rfl) ?_
      cases hq7
      refine AO.nilE ⟨rfl, rfl⟩ ?_ ?_
      · exact ⟨rfl, rfl, rfl, rfl, trivial⟩
      · exact (Sub.refl _)
    · have hq7 := (if_neg hc8).symm.trans hq7
      refine AO.calmG 2 false 16 rfl rfl (congrArg (fun b => some (AV.fl (Value.bool b))) (decide_eq_false hc8)) 17 rfl (by decide) (eI64 p1) (Calm.move rfl rfl) ?_
      refine AO.calmG 2 false 16 rfl rfl (congrArg (fun b => some (AV.fl (Value.bool b))) (decide_eq_false hc8)) 18 rfl (by decide) (.own n4 0 (List.replicate (p0.f1.length : Int).toNat false).length) (Calm.move rfl rfl) ?_
      refine AO.calmG 2 false 16 rfl rfl (congrArg (fun b => some (AV.fl (Value.bool b))) (decide_eq_false hc8)) 19 rfl (by decide) (eI64 ((List.replicate (p0.f1.length : Int).toNat false).length : Int)) (Calm.lenOwn rfl rfl Try.underlying25) ?_
      refine AO.calmG 2 false 16 rfl rfl (congrArg (fun b => some (AV.fl (Value.bool b))) (decide_eq_false hc8)) 20 rfl (by decide) (eBool (decide (((List.replicate (p0.f1.length : Int).toNat false).length : Int) ≤ p1))) (Calm.int rfl rfl rfl rfl) ?_
      refine AO.calm rfl 21 rfl (by decide) (eBool (decide (((List.replicate (p0.f1.length : Int).toNat false).length : Int) ≤ p1))) (Calm.pickF rfl (congrArg (fun b => some (AV.fl (Value.bool b))) (decide_eq_false hc8)) rfl) ?_
      cases hq7
      refine AO.nilE ⟨rfl, rfl⟩ ?_ ?_
      · exact ⟨rfl, rfl, rfl, rfl, trivial⟩
      · exact (Sub.refl _)
  · by_cases hc9 : b6 = true
    · have h := (if_pos hc9).symm.trans h
      refine AW.condT' b6 rfl hc9 ?_
      refine AW.seq ?_
      refine AW.reg ?_
      refine AO.calm rfl 22 rfl (by decide) (.own n4 0 (List.replicate (p0.f1.length : Int).toNat false).length) (Calm.move rfl rfl) ?_
      refine AO.calm rfl 4 rfl (by decide) (.own n4 0 (List.replicate (p0.f1.length : Int).toNat false).length) (Calm.assign rfl rfl) ?_
      refine AO.nil (ρ' := [(4, (.own n4 0 (List.replicate (p0.f1.length : Int).toNat false).length))]) (H' := [(n4, (.mem (.ar 1 ((List.replicate (p0.f1.length : Int).toNat false).map eBool))))]) ⟨rfl, trivial⟩ (Sub.cons 1 rfl (Sub.nil _)) ?_
      refine AW.freezeS 0 [(4, (.fz 1 ((List.replicate (p0.f1.length : Int).toNat false).map eBool)))] rfl ⟨fz_all rfl, trivial⟩ ?_
      refine AW.ret (ρ' := [(4, (.fz 1 ((List.replicate (p0.f1.length : Int).toNat false).map eBool)))]) (H' := []) ⟨rfl, trivial⟩ (Sub.refl _) ?_
      have hr := Option.some.inj h
      subst hr
      exact ⟨[(.fz 1 ((List.replicate (p0.f1.length : Int).toNat false).map eBool))], ⟨rfl, rfl, trivial⟩, rfl⟩
    · have h := (if_neg hc9).symm.trans h
      refine AW.condF' b6 rfl hc9 ?_
      refine AW.skip (ρ' := [(1, (eI64 p1)), (2, (.ptr n3 0)), (5, (.own n4 0 (List.replicate (p0.f1.length : Int).toNat false).length))]) (H' := [(n3, (.mem (e50 p0))), (n4, (.mem (.ar 1 ((List.replicate (p0.f1.length : Int).toNat false).map eBool))))]) ⟨rfl, rfl, rfl, trivial⟩ (Sub.refl _) ?_
      refine AW.seq ?_
      refine AW.reg ?_
      refine AO.calm rfl 23 rfl (by decide) (.own n4 0 (List.replicate (p0.f1.length : Int).toNat false).length) (Calm.move rfl rfl) ?_
      refine AO.calm rfl 24 rfl (by decide) (eI64 p1) (Calm.move rfl rfl) ?_
      obtain ⟨hg10, h⟩ := of_guard h
      refine AO.calm rfl 25 rfl (by decide) (.ptr n4 (p1.toNat * 1 + 0)) (Calm.idxO 1 rfl rfl rfl rfl hg10 Try.underlying25 sz4) ?_
      refine AO.store (X' := (.ar 1 ((lset (List.replicate (p0.f1.length : Int).toNat false) p1 true).map eBool))) 1 rfl rfl rfl rfl rfl rfl (Put.cast (Put.lidx p1 true hg10.1 hg10.2 Put.here) (by omega)) rfl rfl sz4 rfl ?_
      refine AO.coe 5 (y' := (.own n4 0 (lset (List.replicate (p0.f1.length : Int).toNat false) p1 true).length)) rfl (fun _ _ h => lset_own h) ?_
      refine AO.coe 23 (y' := (.own n4 0 (lset (List.replicate (p0.f1.length : Int).toNat false) p1 true).length)) rfl (fun _ _ h => lset_own h) ?_
      refine AO.nil (ρ' := [(2, (.ptr n3 0)), (5, (.own n4 0 (lset (List.replicate (p0.f1.length : Int).toNat false) p1 true).length))]) (H' := [(n3, (.mem (e50 p0))), (n4, (.mem (.ar 1 ((lset (List.replicate (p0.f1.length : Int).toNat false) p1 true).map eBool))))]) ⟨rfl, rfl, trivial⟩ (Sub.refl _) ?_
      refine AW.seq_mid (fun ρ H => ∃ (x11 : (List Bool)), ρ = [(5, (.own n4 0 x11.length))] ∧ H = [(n4, (.mem (.ar 1 (x11.map eBool))))] ∧ bosketref08_Reached_c0 k x11 = some r) ?_ ?_
      · refine AW.seq ?_
        refine AW.reg ?_
        refine AO.calm rfl 6 rfl (by decide) (eI64 (0 : Int)) (Calm.assign rfl rfl) ?_
        refine AO.nil (ρ' := [(2, (.ptr n3 0)), (5, (.own n4 0 (lset (List.replicate (p0.f1.length : Int).toNat false) p1 true).length)), (6, (eI64 (0 : Int)))]) (H' := [(n3, (.mem (e50 p0))), (n4, (.mem (.ar 1 ((lset (List.replicate (p0.f1.length : Int).toNat false) p1 true).map eBool))))]) ⟨rfl, rfl, rfl, trivial⟩ (Sub.refl _) ?_
        refine AW.block ?_
        refine AW.weak (ρ' := [(2, (.ptr n3 0)), (5, (.own n4 0 (lset (List.replicate (p0.f1.length : Int).toNat false) p1 true).length)), (6, (eI64 (0 : Int)))]) (H' := [(n3, (.mem (e50 p0))), (n4, (.mem (.ar 1 ((lset (List.replicate (p0.f1.length : Int).toNat false) p1 true).map eBool))))]) ⟨rfl, rfl, rfl, trivial⟩ (Sub.refl _) ?_
        refine AW.loop (fun kq ρ H => ∃ (x12 : (List Bool)) (x13 : Int), ρ = [(2, (.ptr n3 0)), (5, (.own n4 0 x12.length)), (6, (eI64 x13))] ∧ H = [(n3, (.mem (e50 p0))), (n4, (.mem (.ar 1 (x12.map eBool))))] ∧ bosketref08_Reached_l6 k p0 kq x12 x13 = some r) k ⟨(lset (List.replicate (p0.f1.length : Int).toNat false) p1 true), (0 : Int), rfl, rfl, h⟩ ?_
        rintro kq15 _ _ ⟨x12, x13, rfl, rfl, h⟩
        cases kq15 with
        | zero => rw [bosketref08_Reached_l6.eq_1] at h; cases h
        | succ kq15 =>
        rw [bosketref08_Reached_l6.eq_2] at h
        generalize hrec14 : bosketref08_Reached_l6 k p0 kq15 = rec14 at h
        refine AW.seq ?_
        refine AW.seq ?_
        refine AW.reg ?_
        refine AO.calm rfl 26 rfl (by decide) (eI64 x13) (Calm.move rfl rfl) ?_
        refine AO.calm rfl 27 rfl (by decide) (.own n4 0 x12.length) (Calm.move rfl rfl) ?_
        refine AO.calm rfl 28 rfl (by decide) (eI64 (x12.length : Int)) (Calm.lenOwn rfl rfl Try.underlying25) ?_
        refine AO.calm rfl 29 rfl (by decide) (eBool (decide (x13 < (x12.length : Int)))) (Calm.int rfl rfl rfl rfl) ?_
        refine AO.nil (ρ' := [(2, (.ptr n3 0)), (5, (.own n4 0 x12.length)), (6, (eI64 x13)), (29, (eBool (decide (x13 < (x12.length : Int)))))]) (H' := [(n3, (.mem (e50 p0))), (n4, (.mem (.ar 1 (x12.map eBool))))]) ⟨rfl, rfl, rfl, rfl, trivial⟩ (Sub.refl _) ?_
        by_cases hc16 : x13 < (x12.length : Int)
        · have h := (if_pos hc16).symm.trans h
          refine AW.condP (x13 < (x12.length : Int)) rfl hc16 ?_
          refine AW.skip (ρ' := [(2, (.ptr n3 0)), (5, (.own n4 0 x12.length)), (6, (eI64 x13))]) (H' := [(n3, (.mem (e50 p0))), (n4, (.mem (.ar 1 (x12.map eBool))))]) ⟨rfl, rfl, rfl, trivial⟩ (Sub.refl _) ?_
          refine AW.seq_mid (fun ρ H => ∃ (x17 : (List Bool)), ρ = [(2, (.ptr n3 0)), (5, (.own n4 0 x17.length)), (6, (eI64 x13))] ∧ H = [(n3, (.mem (e50 p0))), (n4, (.mem (.ar 1 (x17.map eBool))))] ∧ bosketref08_Reached_c1 k rec14 x13 x17 = some r) ?_ ?_
          · refine AW.block ?_
            refine AW.seq ?_
            refine AW.reg ?_
            refine AO.calm rfl 7 rfl (by decide) (eI64 (0 : Int)) (Calm.assign rfl rfl) ?_
            refine AO.nil (ρ' := [(2, (.ptr n3 0)), (5, (.own n4 0 x12.length)), (6, (eI64 x13)), (7, (eI64 (0 : Int)))]) (H' := [(n3, (.mem (e50 p0))), (n4, (.mem (.ar 1 (x12.map eBool))))]) ⟨rfl, rfl, rfl, rfl, trivial⟩ (Sub.refl _) ?_
            refine AW.block ?_
            refine AW.weak (ρ' := [(2, (.ptr n3 0)), (5, (.own n4 0 x12.length)), (6, (eI64 x13)), (7, (eI64 (0 : Int)))]) (H' := [(n3, (.mem (e50 p0))), (n4, (.mem (.ar 1 (x12.map eBool))))]) ⟨rfl, rfl, rfl, rfl, trivial⟩ (Sub.refl _) ?_
            refine AW.loop (fun kq ρ H => ∃ (x18 : (List Bool)) (x19 : Int), ρ = [(2, (.ptr n3 0)), (5, (.own n4 0 x18.length)), (6, (eI64 x13)), (7, (eI64 x19))] ∧ H = [(n3, (.mem (e50 p0))), (n4, (.mem (.ar 1 (x18.map eBool))))] ∧ bosketref08_Reached_l5 k rec14 p0 x13 kq x18 x19 = some r) k ⟨x12, (0 : Int), rfl, rfl, h⟩ ?_
            rintro kq21 _ _ ⟨x18, x19, rfl, rfl, h⟩
            cases kq21 with
            | zero => rw [bosketref08_Reached_l5.eq_1] at h; cases h
            | succ kq21 =>
            rw [bosketref08_Reached_l5.eq_2] at h
            generalize hrec20 : bosketref08_Reached_l5 k rec14 p0 x13 kq21 = rec20 at h
            refine AW.seq ?_
            refine AW.seq ?_
            refine AW.reg ?_
            refine AO.calm rfl 32 rfl (by decide) (eI64 x19) (Calm.move rfl rfl) ?_
            refine AO.calm rfl 33 rfl (by decide) (.own n4 0 x18.length) (Calm.move rfl rfl) ?_
            refine AO.calm rfl 34 rfl (by decide) (eI64 (x18.length : Int)) (Calm.lenOwn rfl rfl Try.underlying25) ?_
            refine AO.calm rfl 35 rfl (by decide) (eBool (decide (x19 < (x18.length : Int)))) (Calm.int rfl rfl rfl rfl) ?_
            refine AO.nil (ρ' := [(2, (.ptr n3 0)), (5, (.own n4 0 x18.length)), (6, (eI64 x13)), (7, (eI64 x19)), (35, (eBool (decide (x19 < (x18.length : Int)))))]) (H' := [(n3, (.mem (e50 p0))), (n4, (.mem (.ar 1 (x18.map eBool))))]) ⟨rfl, rfl, rfl, rfl, rfl, trivial⟩ (Sub.refl _) ?_
            by_cases hc22 : x19 < (x18.length : Int)
            · have h := (if_pos hc22).symm.trans h
              refine AW.condP (x19 < (x18.length : Int)) rfl hc22 ?_
              refine AW.skip (ρ' := [(2, (.ptr n3 0)), (5, (.own n4 0 x18.length)), (6, (eI64 x13)), (7, (eI64 x19))]) (H' := [(n3, (.mem (e50 p0))), (n4, (.mem (.ar 1 (x18.map eBool))))]) ⟨rfl, rfl, rfl, rfl, trivial⟩ (Sub.refl _) ?_
              refine AW.seq_mid (fun ρ H => ∃ (x23 : (List Bool)), ρ = [(2, (.ptr n3 0)), (5, (.own n4 0 x23.length)), (6, (eI64 x13)), (7, (eI64 x19))] ∧ H = [(n3, (.mem (e50 p0))), (n4, (.mem (.ar 1 (x23.map eBool))))] ∧ bosketref08_Reached_c2 k rec20 x19 x23 = some r) ?_ ?_
              · refine AW.block ?_
                refine AW.seq ?_
                refine AW.reg ?_
                refine AO.calm rfl 8 rfl (by decide) (eI64 (0 : Int)) (Calm.assign rfl rfl) ?_
                refine AO.nil (ρ' := [(2, (.ptr n3 0)), (5, (.own n4 0 x18.length)), (6, (eI64 x13)), (7, (eI64 x19)), (8, (eI64 (0 : Int)))]) (H' := [(n3, (.mem (e50 p0))), (n4, (.mem (.ar 1 (x18.map eBool))))]) ⟨rfl, rfl, rfl, rfl, rfl, trivial⟩ (Sub.refl _) ?_
                refine AW.block ?_
                refine AW.weak (ρ' := [(2, (.ptr n3 0)), (5, (.own n4 0 x18.length)), (6, (eI64 x13)), (7, (eI64 x19)), (8, (eI64 (0 : Int)))]) (H' := [(n3, (.mem (e50 p0))), (n4, (.mem (.ar 1 (x18.map eBool))))]) ⟨rfl, rfl, rfl, rfl, rfl, trivial⟩ (Sub.refl _) ?_
                refine AW.loop (fun kq ρ H => ∃ (x24 : (List Bool)) (x25 : Int), ρ = [(2, (.ptr n3 0)), (5, (.own n4 0 x24.length)), (6, (eI64 x13)), (7, (eI64 x19)), (8, (eI64 x25))] ∧ H = [(n3, (.mem (e50 p0))), (n4, (.mem (.ar 1 (x24.map eBool))))] ∧ bosketref08_Reached_l4 k rec20 p0 x19 kq x24 x25 = some r) k ⟨x18, (0 : Int), rfl, rfl, h⟩ ?_
                rintro kq27 _ _ ⟨x24, x25, rfl, rfl, h⟩
                cases kq27 with
                | zero => rw [bosketref08_Reached_l4.eq_1] at h; cases h
                | succ kq27 =>
                rw [bosketref08_Reached_l4.eq_2] at h
                generalize hrec26 : bosketref08_Reached_l4 k rec20 p0 x19 kq27 = rec26 at h
                refine AW.seq ?_
                refine AW.seq ?_
                obtain ⟨b28, hq29, h⟩ := of_bind h
                refine AW.regM [(2, (.ptr n3 0)), (5, (.own n4 0 x24.length)), (6, (eI64 x13)), (7, (eI64 x19)), (8, (eI64 x25)), (51, (eBool b28))] [(n3, (.mem (e50 p0))), (n4, (.mem (.ar 1 (x24.map eBool))))] ?_ ?_
                · refine AO.calm rfl 38 rfl (by decide) (.own n4 0 x24.length) (Calm.move rfl rfl) ?_
                  refine AO.calm rfl 39 rfl (by decide) (eI64 x19) (Calm.move rfl rfl) ?_
                  obtain ⟨hg30, hq29⟩ := of_guard hq29
                  refine AO.calm rfl 40 rfl (by decide) (.ptr n4 (x19.toNat * 1 + 0)) (Calm.idxO 1 rfl rfl rfl rfl hg30 Try.underlying25 sz4) ?_
                  refine AO.calm rfl 41 rfl (by decide) (eBool (lget x24 x19)) (Calm.load 1 rfl rfl rfl (At.cast (At.lidx x19 hg30.1 hg30.2 At.here) (by omega)) ag4 sz4) ?_
                  refine AO.calm rfl 42 rfl (by decide) (eBool (lget x24 x19)) (Calm.move rfl rfl) ?_
                  by_cases hc31 : (lget x24 x19) = true
                  · have hq29 := (if_pos hc31).symm.trans hq29
                    refine AO.calmG 4 true 42 rfl rfl (congrArg (fun b => some (AV.fl (Value.bool b))) hc31) 43 rfl (by decide) (eI64 x25) (Calm.move rfl rfl) ?_
                    refine AO.calmG 4 true 42 rfl rfl (congrArg (fun b => some (AV.fl (Value.bool b))) hc31) 44 rfl (by decide) (.ptr n3 256) (Calm.fldPtr rfl rfl Try.underlying50 rfl sz48 _ rfl) ?_
                    refine AO.calmG 4 true 42 rfl rfl (congrArg (fun b => some (AV.fl (Value.bool b))) hc31) 45 rfl (by decide) (.fz 1 (p0.f1.map e43)) (Calm.load 0 rfl rfl rfl (At.cast (At.fldS (At.fld0 At.here)) rfl) ag48 sz48) ?_
                    refine AO.calmG 4 true 42 rfl rfl (congrArg (fun b => some (AV.fl (Value.bool b))) hc31) 46 rfl (by decide) (eI64 x19) (Calm.move rfl rfl) ?_
                    obtain ⟨hg32, hq29⟩ := of_guard hq29
                    refine AO.calmG 4 true 42 rfl rfl (congrArg (fun b => some (AV.fl (Value.bool b))) hc31) 47 rfl (by decide) (.rp (.fz 1 ((lget p0.f1 x19).map eI64))) (Calm.idxL (f := e43) rfl rfl rfl hg32 Try.underlying48 sz43) ?_
                    refine AO.calmG 4 true 42 rfl rfl (congrArg (fun b => some (AV.fl (Value.bool b))) hc31) 48 rfl (by decide) (.fz 1 ((lget p0.f1 x19).map eI64)) (Calm.loadRp rfl rfl ag43 sz43) ?_
                    refine AO.calmG 4 true 42 rfl rfl (congrArg (fun b => some (AV.fl (Value.bool b))) hc31) 49 rfl (by decide) (eI64 ((lget p0.f1 x19).length : Int)) (Calm.lenL rfl rfl Try.underlying43) ?_
                    refine AO.calmG 4 true 42 rfl rfl (congrArg (fun b => some (AV.fl (Value.bool b))) hc31) 50 rfl (by decide) (eBool (decide (x25 < ((lget p0.f1 x19).length : Int)))) (Calm.int rfl rfl rfl rfl) ?_
                    refine AO.calm rfl 51 rfl (by decide) (eBool (decide (x25 < ((lget p0.f1 x19).length : Int)))) (Calm.pickT rfl (congrArg (fun b => some (AV.fl (Value.bool b))) hc31) rfl) ?_
                    cases hq29
                    refine AO.nilE ⟨rfl, rfl⟩ ?_ ?_
                    · exact ⟨rfl, rfl, rfl, rfl, rfl, rfl, trivial⟩
                    · exact (Sub.refl _)
                  · have hq29 := (if_neg hc31).symm.trans hq29
                    refine AO.skipG 4 false 42 rfl rfl (congrArg (fun b => some (AV.fl (Value.bool b))) (eq_false_of_ne_true hc31)) 43 rfl (by decide) ?_
                    refine AO.skipG 4 false 42 rfl rfl (congrArg (fun b => some (AV.fl (Value.bool b))) (eq_false_of_ne_true hc31)) 44 rfl (by decide) ?_
                    refine AO.skipG 4 false 42 rfl rfl (congrArg (fun b => some (AV.fl (Value.bool b))) (eq_false_of_ne_true hc31)) 45 rfl (by decide) ?_
                    refine AO.skipG 4 false 42 rfl rfl (congrArg (fun b => some (AV.fl (Value.bool b))) (eq_false_of_ne_true hc31)) 46 rfl (by decide) ?_
                    refine AO.skipG 4 false 42 rfl rfl (congrArg (fun b => some (AV.fl (Value.bool b))) (eq_false_of_ne_true hc31)) 47 rfl (by decide) ?_
                    refine AO.skipG 4 false 42 rfl rfl (congrArg (fun b => some (AV.fl (Value.bool b))) (eq_false_of_ne_true hc31)) 48 rfl (by decide) ?_
                    refine AO.skipG 4 false 42 rfl rfl (congrArg (fun b => some (AV.fl (Value.bool b))) (eq_false_of_ne_true hc31)) 49 rfl (by decide) ?_
                    refine AO.skipG 4 false 42 rfl rfl (congrArg (fun b => some (AV.fl (Value.bool b))) (eq_false_of_ne_true hc31)) 50 rfl (by decide) ?_
                    refine AO.calm rfl 51 rfl (by decide) (eBool false) (Calm.pickF rfl (congrArg (fun b => some (AV.fl (Value.bool b))) (eq_false_of_ne_true hc31)) rfl) ?_
                    cases hq29
                    refine AO.nilE ⟨rfl, rfl⟩ ?_ ?_
                    · exact ⟨rfl, rfl, rfl, rfl, rfl, rfl, trivial⟩
                    · exact (Sub.refl _)
                · by_cases hc33 : b28 = true
                  · have h := (if_pos hc33).symm.trans h
                    refine AW.condT' b28 rfl hc33 ?_
                    refine AW.skip (ρ' := [(2, (.ptr n3 0)), (5, (.own n4 0 x24.length)), (6, (eI64 x13)), (7, (eI64 x19)), (8, (eI64 x25))]) (H' := [(n3, (.mem (e50 p0))), (n4, (.mem (.ar 1 (x24.map eBool))))]) ⟨rfl, rfl, rfl, rfl, rfl, trivial⟩ (Sub.refl _) ?_
                    refine AW.seq_mid (fun ρ H => ∃ (x34 : (List Bool)), ρ = [(2, (.ptr n3 0)), (5, (.own n4 0 x34.length)), (6, (eI64 x13)), (7, (eI64 x19)), (8, (eI64 x25))] ∧ H = [(n3, (.mem (e50 p0))), (n4, (.mem (.ar 1 (x34.map eBool))))] ∧ bosketref08_Reached_c3 k rec26 x25 x34 = some r) ?_ ?_
                    · refine AW.block ?_
                      refine AW.seq ?_
                      refine AW.reg ?_
                      refine AO.calm rfl 54 rfl (by decide) (.ptr n3 256) (Calm.fldPtr rfl rfl Try.underlying50 rfl sz48 _ rfl) ?_
                      refine AO.calm rfl 55 rfl (by decide) (.fz 1 (p0.f1.map e43)) (Calm.load 0 rfl rfl rfl (At.cast (At.fldS (At.fld0 At.here)) rfl) ag48 sz48) ?_
                      refine AO.calm rfl 56 rfl (by decide) (eI64 x19) (Calm.move rfl rfl) ?_
                      obtain ⟨hg35, h⟩ := of_guard h
                      refine AO.calm rfl 57 rfl (by decide) (.rp (.fz 1 ((lget p0.f1 x19).map eI64))) (Calm.idxL (f := e43) rfl rfl rfl hg35 Try.underlying48 sz43) ?_
                      refine AO.calm rfl 58 rfl (by decide) (.fz 1 ((lget p0.f1 x19).map eI64)) (Calm.loadRp rfl rfl ag43 sz43) ?_
                      refine AO.calm rfl 59 rfl (by decide) (eI64 x25) (Calm.move rfl rfl) ?_
                      obtain ⟨hg36, h⟩ := of_guard h
                      refine AO.calm rfl 60 rfl (by decide) (.rp (eI64 (lget (lget p0.f1 x19) x25))) (Calm.idxL (f := eI64) rfl rfl rfl hg36 Try.underlying43 sz3) ?_
                      refine AO.calm rfl 61 rfl (by decide) (eI64 (lget (lget p0.f1 x19) x25)) (Calm.loadRp rfl rfl ag3 sz3) ?_
                      refine AO.calm rfl 9 rfl (by decide) (eI64 (lget (lget p0.f1 x19) x25)) (Calm.assign rfl rfl) ?_
                      refine AO.nil (ρ' := [(2, (.ptr n3 0)), (5, (.own n4 0 x24.length)), (6, (eI64 x13)), (7, (eI64 x19)), (8, (eI64 x25)), (9, (eI64 (lget (lget p0.f1 x19) x25)))]) (H' := [(n3, (.mem (e50 p0))), (n4, (.mem (.ar 1 (x24.map eBool))))]) ⟨rfl, rfl, rfl, rfl, rfl, rfl, trivial⟩ (Sub.refl _) ?_
                      refine AW.seq ?_
                      refine AW.reg ?_
                      refine AO.calm rfl 62 rfl (by decide) (eI64 (lget (lget p0.f1 x19) x25)) (Calm.move rfl rfl) ?_
                      refine AO.calm rfl 63 rfl (by decide) (eBool (decide ((0 : Int) ≤ (lget (lget p0.f1 x19) x25)))) (Calm.int rfl rfl rfl rfl) ?_
                      refine AO.nil (ρ' := [(2, (.ptr n3 0)), (5, (.own n4 0 x24.length)), (6, (eI64 x13)), (7, (eI64 x19)), (8, (eI64 x25)), (9, (eI64 (lget (lget p0.f1 x19) x25))), (63, (eBool (decide ((0 : Int) ≤ (lget (lget p0.f1 x19) x25)))))]) (H' := [(n3, (.mem (e50 p0))), (n4, (.mem (.ar 1 (x24.map eBool))))]) ⟨rfl, rfl, rfl, rfl, rfl, rfl, rfl, trivial⟩ (Sub.refl _) ?_
                      by_cases hc37 : (0 : Int) ≤ (lget (lget p0.f1 x19) x25)
                      · have h := (if_pos hc37).symm.trans h
                        refine AW.condP ((0 : Int) ≤ (lget (lget p0.f1 x19) x25)) rfl hc37 ?_
                        refine AW.reg ?_
                        refine AO.calm rfl 64 rfl (by decide) (.own n4 0 x24.length) (Calm.move rfl rfl) ?_
                        refine AO.calm rfl 65 rfl (by decide) (eI64 (lget (lget p0.f1 x19) x25)) (Calm.move rfl rfl) ?_
                        obtain ⟨hg38, h⟩ := of_guard h
                        refine AO.calm rfl 66 rfl (by decide) (.ptr n4 ((lget (lget p0.f1 x19) x25).toNat * 1 + 0)) (Calm.idxO 1 rfl rfl rfl rfl hg38 Try.underlying25 sz4) ?_
                        refine AO.store (X' := (.ar 1 ((lset x24 (lget (lget p0.f1 x19) x25) true).map eBool))) 1 rfl rfl rfl rfl rfl rfl (Put.cast (Put.lidx (lget (lget p0.f1 x19) x25) true hg38.1 hg38.2 Put.here) (by omega)) rfl rfl sz4 rfl ?_
                        refine AO.coe 5 (y' := (.own n4 0 (lset x24 (lget (lget p0.f1 x19) x25) true).length)) rfl (fun _ _ h => lset_own h) ?_
                        refine AO.coe 64 (y' := (.own n4 0 (lset x24 (lget (lget p0.f1 x19) x25) true).length)) rfl (fun _ _ h => lset_own h) ?_
                        refine AO.nil (ρ' := [(2, (.ptr n3 0)), (5, (.own n4 0 (lset x24 (lget (lget p0.f1 x19) x25) true).length)), (6, (eI64 x13)), (7, (eI64 x19)), (8, (eI64 x25))]) (H' := [(n3, (.mem (e50 p0))), (n4, (.mem (.ar 1 ((lset x24 (lget (lget p0.f1 x19) x25) true).map eBool))))]) ⟨rfl, rfl, rfl, rfl, rfl, trivial⟩ (Sub.refl _) ?_
                        exact ⟨(lset x24 (lget (lget p0.f1 x19) x25) true), rfl, rfl, h⟩
                      · have h := (if_neg hc37).symm.trans h
                        refine AW.condN ((0 : Int) ≤ (lget (lget p0.f1 x19) x25)) rfl hc37 ?_
                        refine AW.skip (ρ' := [(2, (.ptr n3 0)), (5, (.own n4 0 x24.length)), (6, (eI64 x13)), (7, (eI64 x19)), (8, (eI64 x25))]) (H' := [(n3, (.mem (e50 p0))), (n4, (.mem (.ar 1 (x24.map eBool))))]) ⟨rfl, rfl, rfl, rfl, rfl, trivial⟩ (Sub.refl _) ?_
                        exact ⟨x24, rfl, rfl, h⟩
                    · rintro _ _ ⟨x34, rfl, rfl, h⟩
                      rw [bosketref08_Reached_c3.eq_1] at h
                      refine AW.reg ?_
                      refine AO.calm rfl 52 rfl (by decide) (eI64 x25) (Calm.move rfl rfl) ?_
                      refine AO.calm rfl 53 rfl (by decide) (eI64 (w64 (x25 + (1 : Int)))) (Calm.int rfl rfl rfl rfl) ?_
                      refine AO.calm rfl 8 rfl (by decide) (eI64 (w64 (x25 + (1 : Int)))) (Calm.assign rfl rfl) ?_
                      refine AO.nil (ρ' := [(2, (.ptr n3 0)), (5, (.own n4 0 x34.length)), (6, (eI64 x13)), (7, (eI64 x19)), (8, (eI64 (w64 (x25 + (1 : Int)))))]) (H' := [(n3, (.mem (e50 p0))), (n4, (.mem (.ar 1 (x34.map eBool))))]) ⟨rfl, rfl, rfl, rfl, rfl, trivial⟩ (Sub.refl _) ?_
                      exact ⟨kq27, Nat.lt_succ_self _, x34, (w64 (x25 + (1 : Int))), rfl, rfl, by rw [hrec26]; exact h⟩
                  · have h := (if_neg hc33).symm.trans h
                    refine AW.condF' b28 rfl hc33 ?_
                    refine AW.exit (ρ' := [(2, (.ptr n3 0)), (5, (.own n4 0 x24.length)), (6, (eI64 x13)), (7, (eI64 x19))]) (H' := [(n3, (.mem (e50 p0))), (n4, (.mem (.ar 1 (x24.map eBool))))]) ⟨rfl, rfl, rfl, rfl, trivial⟩ (Sub.refl _) ?_
                    exact ⟨x24, rfl, rfl, h⟩
              · rintro _ _ ⟨x23, rfl, rfl, h⟩
                rw [bosketref08_Reached_c2.eq_1] at h
                refine AW.reg ?_
                refine AO.calm rfl 36 rfl (by decide) (eI64 x19) (Calm.move rfl rfl) ?_
                refine AO.calm rfl 37 rfl (by decide) (eI64 (w64 (x19 + (1 : Int)))) (Calm.int rfl rfl rfl rfl) ?_
                refine AO.calm rfl 7 rfl (by decide) (eI64 (w64 (x19 + (1 : Int)))) (Calm.assign rfl rfl) ?_
                refine AO.nil (ρ' := [(2, (.ptr n3 0)), (5, (.own n4 0 x23.length)), (6, (eI64 x13)), (7, (eI64 (w64 (x19 + (1 : Int)))))]) (H' := [(n3, (.mem (e50 p0))), (n4, (.mem (.ar 1 (x23.map eBool))))]) ⟨rfl, rfl, rfl, rfl, trivial⟩ (Sub.refl _) ?_
                exact ⟨kq21, Nat.lt_succ_self _, x23, (w64 (x19 + (1 : Int))), rfl, rfl, by rw [hrec20]; exact h⟩
            · have h := (if_neg hc22).symm.trans h
              refine AW.condN (x19 < (x18.length : Int)) rfl hc22 ?_
              refine AW.exit (ρ' := [(2, (.ptr n3 0)), (5, (.own n4 0 x18.length)), (6, (eI64 x13))]) (H' := [(n3, (.mem (e50 p0))), (n4, (.mem (.ar 1 (x18.map eBool))))]) ⟨rfl, rfl, rfl, trivial⟩ (Sub.refl _) ?_
              exact ⟨x18, rfl, rfl, h⟩
          · rintro _ _ ⟨x17, rfl, rfl, h⟩
            rw [bosketref08_Reached_c1.eq_1] at h
            refine AW.reg ?_
            refine AO.calm rfl 30 rfl (by decide) (eI64 x13) (Calm.move rfl rfl) ?_
            refine AO.calm rfl 31 rfl (by decide) (eI64 (w64 (x13 + (1 : Int)))) (Calm.int rfl rfl rfl rfl) ?_
            refine AO.calm rfl 6 rfl (by decide) (eI64 (w64 (x13 + (1 : Int)))) (Calm.assign rfl rfl) ?_
            refine AO.nil (ρ' := [(2, (.ptr n3 0)), (5, (.own n4 0 x17.length)), (6, (eI64 (w64 (x13 + (1 : Int)))))]) (H' := [(n3, (.mem (e50 p0))), (n4, (.mem (.ar 1 (x17.map eBool))))]) ⟨rfl, rfl, rfl, trivial⟩ (Sub.refl _) ?_
            exact ⟨kq15, Nat.lt_succ_self _, x17, (w64 (x13 + (1 : Int))), rfl, rfl, by rw [hrec14]; exact h⟩
        · have h := (if_neg hc16).symm.trans h
          refine AW.condN (x13 < (x12.length : Int)) rfl hc16 ?_
          refine AW.exit (ρ' := [(5, (.own n4 0 x12.length))]) (H' := [(n4, (.mem (.ar 1 (x12.map eBool))))]) ⟨rfl, trivial⟩ (Sub.cons 1 rfl (Sub.nil _)) ?_
          exact ⟨x12, rfl, rfl, h⟩
      · rintro _ _ ⟨x11, rfl, rfl, h⟩
        rw [bosketref08_Reached_c0.eq_1] at h
        refine AW.seq ?_
        refine AW.reg ?_
        refine AO.calm rfl 67 rfl (by decide) (.own n4 0 x11.length) (Calm.move rfl rfl) ?_
        refine AO.calm rfl 4 rfl (by decide) (.own n4 0 x11.length) (Calm.assign rfl rfl) ?_
        refine AO.nil (ρ' := [(4, (.own n4 0 x11.length))]) (H' := [(n4, (.mem (.ar 1 (x11.map eBool))))]) ⟨rfl, trivial⟩ (Sub.refl _) ?_
        refine AW.freezeS 0 [(4, (.fz 1 (x11.map eBool)))] rfl ⟨fz_all rfl, trivial⟩ ?_
        refine AW.ret (ρ' := [(4, (.fz 1 (x11.map eBool)))]) (H' := []) ⟨rfl, trivial⟩ (Sub.refl _) ?_
        have hr := Option.some.inj h
        subst hr
        exact ⟨[(.fz 1 (x11.map eBool))], ⟨rfl, rfl, trivial⟩, rfl⟩
end Go.Avl.T3
