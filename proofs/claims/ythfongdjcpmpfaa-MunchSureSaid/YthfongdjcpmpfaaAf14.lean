/- bosket/bosketref08.Right; printed by avmain.py. -/
import Derived.Test.YthfongdjcpmpfaaAB
import Derived.Test.YthfongdjcpmpfaaAf53
import Derived.Test.YthfongdjcpmpfaaAf54
namespace Go.Avl.T1
open Go Go.RowKit Go.Proofs Go.Avl
set_option linter.unusedVariables false
set_option maxRecDepth 100000
set_option maxHeartbeats 4000000
attribute [local irreducible] AW AO AQ Spec SpecH Calm

def bosketref08_Right_c0 (k : Nat) : Option Bool :=
  some (true)
def bosketref08_Right_c1 (k : Nat) (rec11 : (Int → Option Bool)) (x10 : Int) : Option Bool :=
  rec11 (w64 (x10 + (1 : Int)))
def bosketref08_Right_l2 (k : Nat) (rec11 : (Int → Option Bool)) (p0 : S26) (x10 : Int) : Nat → Int → Option Bool
  | 0, _ => none
  | j + 1, x23 =>
    if 0 ≤ x10 ∧ x10 < (p0.f1.length : Int) then if x23 < ((lget p0.f1 x10).length : Int) then Option.bind (α := Bool) (if 0 ≤ x10 ∧ x10 < (p0.f1.length : Int) then if 0 ≤ x23 ∧ x23 < ((lget p0.f1 x10).length : Int) then if (lget (lget p0.f1 x10) x23) < (-1 : Int) then some (true)
    else if 0 ≤ x10 ∧ x10 < (p0.f1.length : Int) then if 0 ≤ x23 ∧ x23 < ((lget p0.f1 x10).length : Int) then some (decide ((p0.f1.length : Int) ≤ (lget (lget p0.f1 x10) x23)))
    else none
    else none
    else none
    else none) fun b28 =>
    if b28 = true then some (false)
    else (bosketref08_Right_l2 k rec11 p0 x10 j) (w64 (x23 + (1 : Int)))
    else bosketref08_Right_c1 k rec11 x10
    else none
def bosketref08_Right_l3 (k : Nat) (p0 : S26) : Nat → Int → Option Bool
  | 0, _ => none
  | j + 1, x10 =>
    if x10 < (p0.f1.length : Int) then Option.bind (α := Bool) (if 0 ≤ x10 ∧ x10 < (p0.f1.length : Int) then (bosketref08_classes k p0).bind fun t17 =>
    if ((lget p0.f1 x10).length : Int) ≠ t17 then some (true)
    else if 0 ≤ x10 ∧ x10 < (p0.f2.length : Int) then if (lget p0.f2 x10) < (-1 : Int) then some (true)
    else if 0 ≤ x10 ∧ x10 < (p0.f2.length : Int) then some (decide ((32768 : Int) ≤ (lget p0.f2 x10)))
    else none
    else none
    else none) fun b14 =>
    if b14 = true then some (false)
    else bosketref08_Right_l2 k (bosketref08_Right_l3 k p0 j) p0 x10 k (0 : Int)
    else bosketref08_Right_c0 k
def bosketref08_Right (k : Nat) (p0 : S26) : Option Bool :=
  Option.bind (α := Bool) (if (p0.f1.length : Int) < (1 : Int) then some (true)
  else if (32768 : Int) < (p0.f1.length : Int) then some (true)
  else if (p0.f2.length : Int) ≠ (p0.f1.length : Int) then some (true)
  else (bosketref08_gapless k p0).bind fun t8 =>
  some (!t8)) fun b3 =>
  if b3 = true then some (false)
  else bosketref08_Right_l3 k p0 k (0 : Int)
theorem bosketref08_Right_spec {k : Nat} {p0 : S26} {r : Bool} (h : bosketref08_Right k p0 = some r) : Spec Try.prog 14 [(e26 p0)] (eBool r) := by
  rw [bosketref08_Right.eq_1] at h
  refine Spec.intro (res := [.tmp 2]) Try.func14 rfl rfl rfl (Nat.le_of_ble_eq_true rfl) ?_
  refine AW.seq ?_
  refine AW.reg ?_
  refine AO.box rfl 1 rfl (by decide) rfl rfl rfl fun n2 => ?_
  refine AO.calm rfl 2 rfl (by decide) (eBool false) (Calm.assign rfl rfl) ?_
  refine AO.nil (ρ' := [(1, (.ptr n2 0))]) (H' := [(n2, .mem (e26 p0))]) ⟨rfl, trivial⟩ (Sub.refl _) ?_
  refine AW.seq ?_
  refine AW.reg ?_
  refine AO.calm rfl 6 rfl (by decide) (.ptr n2 256) (Calm.fldPtr rfl rfl Try.underlying26 rfl sz23 _ rfl) ?_
  refine AO.calm rfl 7 rfl (by decide) (.fz 1 (p0.f1.map e24)) (Calm.load 0 rfl rfl rfl (At.cast (At.fldS (At.fld0 At.here)) rfl) ag23 sz23) ?_
  refine AO.calm rfl 8 rfl (by decide) (eI64 (p0.f1.length : Int)) (Calm.lenL rfl rfl Try.underlying23) ?_
  refine AO.calm rfl 3 rfl (by decide) (eI64 (p0.f1.length : Int)) (Calm.assign rfl rfl) ?_
  refine AO.nil (ρ' := [(1, (.ptr n2 0)), (3, (eI64 (p0.f1.length : Int)))]) (H' := [(n2, .mem (e26 p0))]) ⟨rfl, rfl, trivial⟩ (Sub.refl _) ?_
  refine AW.seq ?_
  refine AW.seq ?_
  obtain ⟨b3, hq4, h⟩ := of_bind h
  refine AW.regM [(1, (.ptr n2 0)), (3, (eI64 (p0.f1.length : Int))), (26, (eBool b3))] [(n2, .mem (e26 p0))] ?_ ?_
  · refine AO.calm rfl 9 rfl (by decide) (eI64 (p0.f1.length : Int)) (Calm.move rfl rfl) ?_
    refine AO.calm rfl 10 rfl (by decide) (eBool (decide ((p0.f1.length : Int) < (1 : Int)))) (Calm.int rfl rfl rfl rfl) ?_
    refine AO.calm rfl 11 rfl (by decide) (eBool (decide ((p0.f1.length : Int) < (1 : Int)))) (Calm.move rfl rfl) ?_
    by_cases hc5 : (p0.f1.length : Int) < (1 : Int)
    · have hq4 := (if_pos hc5).symm.trans hq4
      refine AO.skipG 2 true 11 rfl rfl (congrArg (fun b => some (AV.fl (Value.bool b))) (decide_eq_true hc5)) 12 rfl (by decide) ?_
      refine AO.skipG 2 true 11 rfl rfl (congrArg (fun b => some (AV.fl (Value.bool b))) (decide_eq_true hc5)) 13 rfl (by decide) ?_
      refine AO.calm rfl 14 rfl (by decide) (eBool true) (Calm.pickT rfl (congrArg (fun b => some (AV.fl (Value.bool b))) (decide_eq_true hc5)) rfl) ?_
      refine AO.calm rfl 15 rfl (by decide) (eBool true) (Calm.move rfl rfl) ?_
      refine AO.skipG 6 true 15 rfl rfl rfl 16 rfl (by decide) ?_
      refine AO.skipG 6 true 15 rfl rfl rfl 17 rfl (by decide) ?_
      refine AO.skipG 6 true 15 rfl rfl rfl 18 rfl (by decide) ?_
      refine AO.skipG 6 true 15 rfl rfl rfl 19 rfl (by decide) ?_
      refine AO.skipG 6 true 15 rfl rfl rfl 20 rfl (by decide) ?_
      refine AO.calm rfl 21 rfl (by decide) (eBool true) (Calm.pickT rfl rfl rfl) ?_
      refine AO.calm rfl 22 rfl (by decide) (eBool true) (Calm.move rfl rfl) ?_
      refine AO.skipG 13 true 22 rfl rfl rfl 23 rfl (by decide) ?_
      refine AO.skipG 13 true 22 rfl rfl rfl 24 rfl (by decide) ?_
      refine AO.skipG 13 true 22 rfl rfl rfl 25 rfl (by decide) ?_
      refine AO.calm rfl 26 rfl (by decide) (eBool true) (Calm.pickT rfl rfl rfl) ?_
      cases hq4
      refine AO.nilE ⟨rfl, rfl⟩ ?_ ?_
      · exact ⟨rfl, rfl, rfl, trivial⟩
      · exact (Sub.refl _)
    · have hq4 := (if_neg hc5).symm.trans hq4
      refine AO.calmG 2 false 11 rfl rfl (congrArg (fun b => some (AV.fl (Value.bool b))) (decide_eq_false hc5)) 12 rfl (by decide) (eI64 (p0.f1.length : Int)) (Calm.move rfl rfl) ?_
      refine AO.calmG 2 false 11 rfl rfl (congrArg (fun b => some (AV.fl (Value.bool b))) (decide_eq_false hc5)) 13 rfl (by decide) (eBool (decide ((32768 : Int) < (p0.f1.length : Int)))) (Calm.int rfl rfl rfl rfl) ?_
      refine AO.calm rfl 14 rfl (by decide) (eBool (decide ((32768 : Int) < (p0.f1.length : Int)))) (Calm.pickF rfl (congrArg (fun b => some (AV.fl (Value.bool b))) (decide_eq_false hc5)) rfl) ?_
      refine AO.calm rfl 15 rfl (by decide) (eBool (decide ((32768 : Int) < (p0.f1.length : Int)))) (Calm.move rfl rfl) ?_
      by_cases hc6 : (32768 : Int) < (p0.f1.length : Int)
      · have hq4 := (if_pos hc6).symm.trans hq4
        refine AO.skipG 6 true 15 rfl rfl (congrArg (fun b => some (AV.fl (Value.bool b))) (decide_eq_true hc6)) 16 rfl (by decide) ?_
        refine AO.skipG 6 true 15 rfl rfl (congrArg (fun b => some (AV.fl (Value.bool b))) (decide_eq_true hc6)) 17 rfl (by decide) ?_
        refine AO.skipG 6 true 15 rfl rfl (congrArg (fun b => some (AV.fl (Value.bool b))) (decide_eq_true hc6)) 18 rfl (by decide) ?_
        refine AO.skipG 6 true 15 rfl rfl (congrArg (fun b => some (AV.fl (Value.bool b))) (decide_eq_true hc6)) 19 rfl (by decide) ?_
        refine AO.skipG 6 true 15 rfl rfl (congrArg (fun b => some (AV.fl (Value.bool b))) (decide_eq_true hc6)) 20 rfl (by decide) ?_
        refine AO.calm rfl 21 rfl (by decide) (eBool true) (Calm.pickT rfl (congrArg (fun b => some (AV.fl (Value.bool b))) (decide_eq_true hc6)) rfl) ?_
        refine AO.calm rfl 22 rfl (by decide) (eBool true) (Calm.move rfl rfl) ?_
        refine AO.skipG 13 true 22 rfl rfl rfl 23 rfl (by decide) ?_
        refine AO.skipG 13 true 22 rfl rfl rfl 24 rfl (by decide) ?_
        refine AO.skipG 13 true 22 rfl rfl rfl 25 rfl (by decide) ?_
        refine AO.calm rfl 26 rfl (by decide) (eBool true) (Calm.pickT rfl rfl rfl) ?_
        cases hq4
        refine AO.nilE ⟨rfl, rfl⟩ ?_ ?_
        · exact ⟨rfl, rfl, rfl, trivial⟩
        · exact (Sub.refl _)
      · have hq4 := (if_neg hc6).symm.trans hq4
        refine AO.calmG 6 false 15 rfl rfl (congrArg (fun b => some (AV.fl (Value.bool b))) (decide_eq_false hc6)) 16 rfl (by decide) (.ptr n2 257) (Calm.fldPtr rfl rfl Try.underlying26 rfl sz24 _ rfl) ?_
        refine AO.calmG 6 false 15 rfl rfl (congrArg (fun b => some (AV.fl (Value.bool b))) (decide_eq_false hc6)) 17 rfl (by decide) (.fz 1 (p0.f2.map eI64)) (Calm.load 0 rfl rfl rfl (At.cast (At.fldS (At.fldS (At.fld0 At.here))) rfl) ag24 sz24) ?_
        refine AO.calmG 6 false 15 rfl rfl (congrArg (fun b => some (AV.fl (Value.bool b))) (decide_eq_false hc6)) 18 rfl (by decide) (eI64 (p0.f2.length : Int)) (Calm.lenL rfl rfl Try.underlying24) ?_
        refine AO.calmG 6 false 15 rfl rfl (congrArg (fun b => some (AV.fl (Value.bool b))) (decide_eq_false hc6)) 19 rfl (by decide) (eI64 (p0.f1.length : Int)) (Calm.move rfl rfl) ?_
        refine AO.calmG 6 false 15 rfl rfl (congrArg (fun b => some (AV.fl (Value.bool b))) (decide_eq_false hc6)) 20 rfl (by decide) (eBool (decide ((p0.f2.length : Int) ≠ (p0.f1.length : Int)))) (Calm.int rfl rfl rfl rfl) ?_
        refine AO.calm rfl 21 rfl (by decide) (eBool (decide ((p0.f2.length : Int) ≠ (p0.f1.length : Int)))) (Calm.pickF rfl (congrArg (fun b => some (AV.fl (Value.bool b))) (decide_eq_false hc6)) rfl) ?_
        refine AO.calm rfl 22 rfl (by decide) (eBool (decide ((p0.f2.length : Int) ≠ (p0.f1.length : Int)))) (Calm.move rfl rfl) ?_
        by_cases hc7 : (p0.f2.length : Int) ≠ (p0.f1.length : Int)
        · have hq4 := (if_pos hc7).symm.trans hq4
          refine AO.skipG 13 true 22 rfl rfl (congrArg (fun b => some (AV.fl (Value.bool b))) (decide_eq_true hc7)) 23 rfl (by decide) ?_
          refine AO.skipG 13 true 22 rfl rfl (congrArg (fun b => some (AV.fl (Value.bool b))) (decide_eq_true hc7)) 24 rfl (by decide) ?_
          refine AO.skipG 13 true 22 rfl rfl (congrArg (fun b => some (AV.fl (Value.bool b))) (decide_eq_true hc7)) 25 rfl (by decide) ?_
          refine AO.calm rfl 26 rfl (by decide) (eBool true) (Calm.pickT rfl (congrArg (fun b => some (AV.fl (Value.bool b))) (decide_eq_true hc7)) rfl) ?_
          cases hq4
          refine AO.nilE ⟨rfl, rfl⟩ ?_ ?_
          · exact ⟨rfl, rfl, rfl, trivial⟩
          · exact (Sub.refl _)
        · have hq4 := (if_neg hc7).symm.trans hq4
          refine AO.calmG 13 false 22 rfl rfl (congrArg (fun b => some (AV.fl (Value.bool b))) (decide_eq_false hc7)) 23 rfl (by decide) (e26 p0) (Calm.load 0 rfl rfl rfl (At.cast At.here rfl) ag26 sz26) ?_
          obtain ⟨t8, et8, hq4⟩ := of_bind hq4
          refine AO.callG 13 false 22 [(e26 p0)] (eBool t8) 24 rfl (by decide) ok53 rfl rfl (congrArg (fun b => some (AV.fl (Value.bool b))) (decide_eq_false hc7)) rfl rfl ⟨rfl, rfl, trivial⟩ (bosketref08_gapless_spec et8) ?_
          refine AO.calmG 13 false 22 rfl rfl (congrArg (fun b => some (AV.fl (Value.bool b))) (decide_eq_false hc7)) 25 rfl (by decide) (eBool (!t8)) (Calm.not rfl rfl) ?_
          refine AO.calm rfl 26 rfl (by decide) (eBool (!t8)) (Calm.pickF rfl (congrArg (fun b => some (AV.fl (Value.bool b))) (decide_eq_false hc7)) rfl) ?_
          cases hq4
          refine AO.nilE ⟨rfl, rfl⟩ ?_ ?_
          · exact ⟨rfl, rfl, rfl, trivial⟩
          · exact (Sub.refl _)
  · by_cases hc9 : b3 = true
    · have h := (if_pos hc9).symm.trans h
      refine AW.condT' b3 rfl hc9 ?_
      refine AW.seq ?_
      refine AW.reg ?_
      refine AO.calm rfl 2 rfl (by decide) (eBool false) (Calm.assign rfl rfl) ?_
      refine AO.nil (ρ' := [(2, (eBool false))]) (H' := []) ⟨rfl, trivial⟩ (Sub.nil _) ?_
      refine AW.ret (ρ' := [(2, (eBool false))]) (H' := []) ⟨rfl, trivial⟩ (Sub.refl _) ?_
      have hr := Option.some.inj h
      subst hr
      exact ⟨[(eBool false)], ⟨rfl, rfl, trivial⟩, rfl⟩
    · have h := (if_neg hc9).symm.trans h
      refine AW.condF' b3 rfl hc9 ?_
      refine AW.skip (ρ' := [(1, (.ptr n2 0)), (3, (eI64 (p0.f1.length : Int)))]) (H' := [(n2, .mem (e26 p0))]) ⟨rfl, rfl, trivial⟩ (Sub.refl _) ?_
      refine AW.seq_mid (fun ρ H => ρ = [] ∧ H = [] ∧ bosketref08_Right_c0 k = some r) ?_ ?_
      · refine AW.seq ?_
        refine AW.reg ?_
        refine AO.calm rfl 4 rfl (by decide) (eI64 (0 : Int)) (Calm.assign rfl rfl) ?_
        refine AO.nil (ρ' := [(1, (.ptr n2 0)), (3, (eI64 (p0.f1.length : Int))), (4, (eI64 (0 : Int)))]) (H' := [(n2, .mem (e26 p0))]) ⟨rfl, rfl, rfl, trivial⟩ (Sub.refl _) ?_
        refine AW.block ?_
        refine AW.weak (ρ' := [(1, (.ptr n2 0)), (3, (eI64 (p0.f1.length : Int))), (4, (eI64 (0 : Int)))]) (H' := [(n2, .mem (e26 p0))]) ⟨rfl, rfl, rfl, trivial⟩ (Sub.refl _) ?_
        refine AW.loop (fun kq ρ H => ∃ (x10 : Int), ρ = [(1, (.ptr n2 0)), (3, (eI64 (p0.f1.length : Int))), (4, (eI64 x10))] ∧ H = [(n2, .mem (e26 p0))] ∧ bosketref08_Right_l3 k p0 kq x10 = some r) k ⟨(0 : Int), rfl, rfl, h⟩ ?_
        rintro kq12 _ _ ⟨x10, rfl, rfl, h⟩
        cases kq12 with
        | zero => rw [bosketref08_Right_l3.eq_1] at h; cases h
        | succ kq12 =>
        rw [bosketref08_Right_l3.eq_2] at h
        generalize hrec11 : bosketref08_Right_l3 k p0 kq12 = rec11 at h
        refine AW.seq ?_
        refine AW.seq ?_
        refine AW.reg ?_
        refine AO.calm rfl 27 rfl (by decide) (eI64 x10) (Calm.move rfl rfl) ?_
        refine AO.calm rfl 28 rfl (by decide) (eI64 (p0.f1.length : Int)) (Calm.move rfl rfl) ?_
        refine AO.calm rfl 29 rfl (by decide) (eBool (decide (x10 < (p0.f1.length : Int)))) (Calm.int rfl rfl rfl rfl) ?_
        refine AO.nil (ρ' := [(1, (.ptr n2 0)), (3, (eI64 (p0.f1.length : Int))), (4, (eI64 x10)), (29, (eBool (decide (x10 < (p0.f1.length : Int)))))]) (H' := [(n2, .mem (e26 p0))]) ⟨rfl, rfl, rfl, rfl, trivial⟩ (Sub.refl _) ?_
        by_cases hc13 : x10 < (p0.f1.length : Int)
        · have h := (if_pos hc13).symm.trans h
          refine AW.condP (x10 < (p0.f1.length : Int)) rfl hc13 ?_
          refine AW.skip (ρ' := [(1, (.ptr n2 0)), (3, (eI64 (p0.f1.length : Int))), (4, (eI64 x10))]) (H' := [(n2, .mem (e26 p0))]) ⟨rfl, rfl, rfl, trivial⟩ (Sub.refl _) ?_
          refine AW.seq_mid (fun ρ H => ρ = [(1, (.ptr n2 0)), (3, (eI64 (p0.f1.length : Int))), (4, (eI64 x10))] ∧ H = [(n2, .mem (e26 p0))] ∧ bosketref08_Right_c1 k rec11 x10 = some r) ?_ ?_
          · refine AW.block ?_
            refine AW.seq ?_
            refine AW.seq ?_
            obtain ⟨b14, hq15, h⟩ := of_bind h
            refine AW.regQM (by rfl) (by decide +kernel) [(1, (.ptr n2 0)), (3, (eI64 (p0.f1.length : Int))), (4, (eI64 x10)), (56, (eBool b14))] ?_ ?_
            · refine AQ.calm rfl 32 rfl (by decide) (.ptr n2 256) (Calm.fldPtr rfl rfl Try.underlying26 rfl sz23 _ rfl) ?_
              refine AQ.calm rfl 33 rfl (by decide) (.fz 1 (p0.f1.map e24)) (Calm.load 0 rfl rfl rfl (At.cast (At.fldS (At.fld0 At.here)) rfl) ag23 sz23) ?_
              refine AQ.calm rfl 34 rfl (by decide) (eI64 x10) (Calm.move rfl rfl) ?_
              obtain ⟨hg16, hq15⟩ := of_guard hq15
              refine AQ.calm rfl 35 rfl (by decide) (.rp (.fz 1 ((lget p0.f1 x10).map eI64))) (Calm.idxL (f := e24) rfl rfl rfl hg16 Try.underlying23 sz24) ?_
              refine AQ.calm rfl 36 rfl (by decide) (.fz 1 ((lget p0.f1 x10).map eI64)) (Calm.loadRp rfl rfl ag24 sz24) ?_
              refine AQ.calm rfl 37 rfl (by decide) (eI64 ((lget p0.f1 x10).length : Int)) (Calm.lenL rfl rfl Try.underlying24) ?_
              refine AQ.calm rfl 38 rfl (by decide) (e26 p0) (Calm.load 0 rfl rfl rfl (At.cast At.here rfl) ag26 sz26) ?_
              obtain ⟨t17, et17, hq15⟩ := of_bind hq15
              refine AQ.calm rfl 39 rfl (by decide) (eI64 t17) (Calm.call (args := [(e26 p0)]) rfl rfl ok54 ⟨rfl, rfl, trivial⟩ rfl (bosketref08_classes_spec et17)) ?_
              refine AQ.calm rfl 40 rfl (by decide) (eBool (decide (((lget p0.f1 x10).length : Int) ≠ t17))) (Calm.int rfl rfl rfl rfl) ?_
              refine AQ.calm rfl 41 rfl (by decide) (eBool (decide (((lget p0.f1 x10).length : Int) ≠ t17))) (Calm.move rfl rfl) ?_
              by_cases hc18 : ((lget p0.f1 x10).length : Int) ≠ t17
              · have hq15 := (if_pos hc18).symm.trans hq15
                refine AQ.skipG 9 true 41 rfl rfl (congrArg (fun b => some (AV.fl (Value.bool b))) (decide_eq_true hc18)) 42 rfl (by decide) ?_
                refine AQ.skipG 9 true 41 rfl rfl (congrArg (fun b => some (AV.fl (Value.bool b))) (decide_eq_true hc18)) 43 rfl (by decide) ?_
                refine AQ.skipG 9 true 41 rfl rfl (congrArg (fun b => some (AV.fl (Value.bool b))) (decide_eq_true hc18)) 44 rfl (by decide) ?_
                refine AQ.skipG 9 true 41 rfl rfl (congrArg (fun b => some (AV.fl (Value.bool b))) (decide_eq_true hc18)) 45 rfl (by decide) ?_
                refine AQ.skipG 9 true 41 rfl rfl (congrArg (fun b => some (AV.fl (Value.bool b))) (decide_eq_true hc18)) 46 rfl (by decide) ?_
                refine AQ.skipG 9 true 41 rfl rfl (congrArg (fun b => some (AV.fl (Value.bool b))) (decide_eq_true hc18)) 47 rfl (by decide) ?_
                refine AQ.calm rfl 48 rfl (by decide) (eBool true) (Calm.pickT rfl (congrArg (fun b => some (AV.fl (Value.bool b))) (decide_eq_true hc18)) rfl) ?_
                refine AQ.calm rfl 49 rfl (by decide) (eBool true) (Calm.move rfl rfl) ?_
                refine AQ.skipG 17 true 49 rfl rfl rfl 50 rfl (by decide) ?_
                refine AQ.skipG 17 true 49 rfl rfl rfl 51 rfl (by decide) ?_
                refine AQ.skipG 17 true 49 rfl rfl rfl 52 rfl (by decide) ?_
                refine AQ.skipG 17 true 49 rfl rfl rfl 53 rfl (by decide) ?_
                refine AQ.skipG 17 true 49 rfl rfl rfl 54 rfl (by decide) ?_
                refine AQ.skipG 17 true 49 rfl rfl rfl 55 rfl (by decide) ?_
                refine AQ.calm rfl 56 rfl (by decide) (eBool true) (Calm.pickT rfl rfl rfl) ?_
                cases hq15
                refine AQ.nilE rfl ?_
                exact ⟨rfl, rfl, rfl, rfl, trivial⟩
              · have hq15 := (if_neg hc18).symm.trans hq15
                refine AQ.calmG 9 false 41 rfl rfl (congrArg (fun b => some (AV.fl (Value.bool b))) (decide_eq_false hc18)) 42 rfl (by decide) (.ptr n2 257) (Calm.fldPtr rfl rfl Try.underlying26 rfl sz24 _ rfl) ?_
                refine AQ.calmG 9 false 41 rfl rfl (congrArg (fun b => some (AV.fl (Value.bool b))) (decide_eq_false hc18)) 43 rfl (by decide) (.fz 1 (p0.f2.map eI64)) (Calm.load 0 rfl rfl rfl (At.cast (At.fldS (At.fldS (At.fld0 At.here))) rfl) ag24 sz24) ?_
                refine AQ.calmG 9 false 41 rfl rfl (congrArg (fun b => some (AV.fl (Value.bool b))) (decide_eq_false hc18)) 44 rfl (by decide) (eI64 x10) (Calm.move rfl rfl) ?_
                obtain ⟨hg19, hq15⟩ := of_guard hq15
                refine AQ.calmG 9 false 41 rfl rfl (congrArg (fun b => some (AV.fl (Value.bool b))) (decide_eq_false hc18)) 45 rfl (by decide) (.rp (eI64 (lget p0.f2 x10))) (Calm.idxL (f := eI64) rfl rfl rfl hg19 Try.underlying24 sz3) ?_
                refine AQ.calmG 9 false 41 rfl rfl (congrArg (fun b => some (AV.fl (Value.bool b))) (decide_eq_false hc18)) 46 rfl (by decide) (eI64 (lget p0.f2 x10)) (Calm.loadRp rfl rfl ag3 sz3) ?_
                refine AQ.calmG 9 false 41 rfl rfl (congrArg (fun b => some (AV.fl (Value.bool b))) (decide_eq_false hc18)) 47 rfl (by decide) (eBool (decide ((lget p0.f2 x10) < (-1 : Int)))) (Calm.int rfl rfl rfl rfl) ?_
                refine AQ.calm rfl 48 rfl (by decide) (eBool (decide ((lget p0.f2 x10) < (-1 : Int)))) (Calm.pickF rfl (congrArg (fun b => some (AV.fl (Value.bool b))) (decide_eq_false hc18)) rfl) ?_
                refine AQ.calm rfl 49 rfl (by decide) (eBool (decide ((lget p0.f2 x10) < (-1 : Int)))) (Calm.move rfl rfl) ?_
                by_cases hc20 : (lget p0.f2 x10) < (-1 : Int)
                · have hq15 := (if_pos hc20).symm.trans hq15
                  refine AQ.skipG 17 true 49 rfl rfl (congrArg (fun b => some (AV.fl (Value.bool b))) (decide_eq_true hc20)) 50 rfl (by decide) ?_
                  refine AQ.skipG 17 true 49 rfl rfl (congrArg (fun b => some (AV.fl (Value.bool b))) (decide_eq_true hc20)) 51 rfl (by decide) ?_
                  refine AQ.skipG 17 true 49 rfl rfl (congrArg (fun b => some (AV.fl (Value.bool b))) (decide_eq_true hc20)) 52 rfl (by decide) ?_
                  refine AQ.skipG 17 true 49 rfl rfl (congrArg (fun b => some (AV.fl (Value.bool b))) (decide_eq_true hc20)) 53 rfl (by decide) ?_
                  refine AQ.skipG 17 true 49 rfl rfl (congrArg (fun b => some (AV.fl (Value.bool b))) (decide_eq_true hc20)) 54 rfl (by decide) ?_
                  refine AQ.skipG 17 true 49 rfl rfl (congrArg (fun b => some (AV.fl (Value.bool b))) (decide_eq_true hc20)) 55 rfl (by decide) ?_
                  refine AQ.calm rfl 56 rfl (by decide) (eBool true) (Calm.pickT rfl (congrArg (fun b => some (AV.fl (Value.bool b))) (decide_eq_true hc20)) rfl) ?_
                  cases hq15
                  refine AQ.nilE rfl ?_
                  exact ⟨rfl, rfl, rfl, rfl, trivial⟩
                · have hq15 := (if_neg hc20).symm.trans hq15
                  refine AQ.calmG 17 false 49 rfl rfl (congrArg (fun b => some (AV.fl (Value.bool b))) (decide_eq_false hc20)) 50 rfl (by decide) (.ptr n2 257) (Calm.fldPtr rfl rfl Try.underlying26 rfl sz24 _ rfl) ?_
                  refine AQ.calmG 17 false 49 rfl rfl (congrArg (fun b => some (AV.fl (Value.bool b))) (decide_eq_false hc20)) 51 rfl (by decide) (.fz 1 (p0.f2.map eI64)) (Calm.load 0 rfl rfl rfl (At.cast (At.fldS (At.fldS (At.fld0 At.here))) rfl) ag24 sz24) ?_
                  refine AQ.calmG 17 false 49 rfl rfl (congrArg (fun b => some (AV.fl (Value.bool b))) (decide_eq_false hc20)) 52 rfl (by decide) (eI64 x10) (Calm.move rfl rfl) ?_
                  obtain ⟨hg21, hq15⟩ := of_guard hq15
                  refine AQ.calmG 17 false 49 rfl rfl (congrArg (fun b => some (AV.fl (Value.bool b))) (decide_eq_false hc20)) 53 rfl (by decide) (.rp (eI64 (lget p0.f2 x10))) (Calm.idxL (f := eI64) rfl rfl rfl hg21 Try.underlying24 sz3) ?_
                  refine AQ.calmG 17 false 49 rfl rfl (congrArg (fun b => some (AV.fl (Value.bool b))) (decide_eq_false hc20)) 54 rfl (by decide) (eI64 (lget p0.f2 x10)) (Calm.loadRp rfl rfl ag3 sz3) ?_
                  refine AQ.calmG 17 false 49 rfl rfl (congrArg (fun b => some (AV.fl (Value.bool b))) (decide_eq_false hc20)) 55 rfl (by decide) (eBool (decide ((32768 : Int) ≤ (lget p0.f2 x10)))) (Calm.int rfl rfl rfl rfl) ?_
                  refine AQ.calm rfl 56 rfl (by decide) (eBool (decide ((32768 : Int) ≤ (lget p0.f2 x10)))) (Calm.pickF rfl (congrArg (fun b => some (AV.fl (Value.bool b))) (decide_eq_false hc20)) rfl) ?_
                  cases hq15
                  refine AQ.nilE rfl ?_
                  exact ⟨rfl, rfl, rfl, rfl, trivial⟩
            · by_cases hc22 : b14 = true
              · have h := (if_pos hc22).symm.trans h
                refine AW.condT' b14 rfl hc22 ?_
                refine AW.seq ?_
                refine AW.reg ?_
                refine AO.calm rfl 2 rfl (by decide) (eBool false) (Calm.assign rfl rfl) ?_
                refine AO.nil (ρ' := [(2, (eBool false))]) (H' := []) ⟨rfl, trivial⟩ (Sub.nil _) ?_
                refine AW.ret (ρ' := [(2, (eBool false))]) (H' := []) ⟨rfl, trivial⟩ (Sub.refl _) ?_
                have hr := Option.some.inj h
                subst hr
                exact ⟨[(eBool false)], ⟨rfl, rfl, trivial⟩, rfl⟩
              · have h := (if_neg hc22).symm.trans h
                refine AW.condF' b14 rfl hc22 ?_
                refine AW.skip (ρ' := [(1, (.ptr n2 0)), (3, (eI64 (p0.f1.length : Int))), (4, (eI64 x10))]) (H' := [(n2, .mem (e26 p0))]) ⟨rfl, rfl, rfl, trivial⟩ (Sub.refl _) ?_
                refine AW.seq ?_
                refine AW.reg ?_
                refine AO.calm rfl 5 rfl (by decide) (eI64 (0 : Int)) (Calm.assign rfl rfl) ?_
                refine AO.nil (ρ' := [(1, (.ptr n2 0)), (3, (eI64 (p0.f1.length : Int))), (4, (eI64 x10)), (5, (eI64 (0 : Int)))]) (H' := [(n2, .mem (e26 p0))]) ⟨rfl, rfl, rfl, rfl, trivial⟩ (Sub.refl _) ?_
                refine AW.block ?_
                refine AW.weak (ρ' := [(1, (.ptr n2 0)), (3, (eI64 (p0.f1.length : Int))), (4, (eI64 x10)), (5, (eI64 (0 : Int)))]) (H' := [(n2, .mem (e26 p0))]) ⟨rfl, rfl, rfl, rfl, trivial⟩ (Sub.refl _) ?_
                refine AW.loop (fun kq ρ H => ∃ (x23 : Int), ρ = [(1, (.ptr n2 0)), (3, (eI64 (p0.f1.length : Int))), (4, (eI64 x10)), (5, (eI64 x23))] ∧ H = [(n2, .mem (e26 p0))] ∧ bosketref08_Right_l2 k rec11 p0 x10 kq x23 = some r) k ⟨(0 : Int), rfl, rfl, h⟩ ?_
                rintro kq25 _ _ ⟨x23, rfl, rfl, h⟩
                cases kq25 with
                | zero => rw [bosketref08_Right_l2.eq_1] at h; cases h
                | succ kq25 =>
                rw [bosketref08_Right_l2.eq_2] at h
                generalize hrec24 : bosketref08_Right_l2 k rec11 p0 x10 kq25 = rec24 at h
                refine AW.seq ?_
                refine AW.seq ?_
                refine AW.reg ?_
                refine AO.calm rfl 57 rfl (by decide) (eI64 x23) (Calm.move rfl rfl) ?_
                refine AO.calm rfl 58 rfl (by decide) (.ptr n2 256) (Calm.fldPtr rfl rfl Try.underlying26 rfl sz23 _ rfl) ?_
                refine AO.calm rfl 59 rfl (by decide) (.fz 1 (p0.f1.map e24)) (Calm.load 0 rfl rfl rfl (At.cast (At.fldS (At.fld0 At.here)) rfl) ag23 sz23) ?_
                refine AO.calm rfl 60 rfl (by decide) (eI64 x10) (Calm.move rfl rfl) ?_
                obtain ⟨hg26, h⟩ := of_guard h
                refine AO.calm rfl 61 rfl (by decide) (.rp (.fz 1 ((lget p0.f1 x10).map eI64))) (Calm.idxL (f := e24) rfl rfl rfl hg26 Try.underlying23 sz24) ?_
                refine AO.calm rfl 62 rfl (by decide) (.fz 1 ((lget p0.f1 x10).map eI64)) (Calm.loadRp rfl rfl ag24 sz24) ?_
                refine AO.calm rfl 63 rfl (by decide) (eI64 ((lget p0.f1 x10).length : Int)) (Calm.lenL rfl rfl Try.underlying24) ?_
                refine AO.calm rfl 64 rfl (by decide) (eBool (decide (x23 < ((lget p0.f1 x10).length : Int)))) (Calm.int rfl rfl rfl rfl) ?_
                refine AO.nil (ρ' := [(1, (.ptr n2 0)), (3, (eI64 (p0.f1.length : Int))), (4, (eI64 x10)), (5, (eI64 x23)), (64, (eBool (decide (x23 < ((lget p0.f1 x10).length : Int)))))]) (H' := [(n2, .mem (e26 p0))]) ⟨rfl, rfl, rfl, rfl, rfl, trivial⟩ (Sub.refl _) ?_
                by_cases hc27 : x23 < ((lget p0.f1 x10).length : Int)
                · have h := (if_pos hc27).symm.trans h
                  refine AW.condP (x23 < ((lget p0.f1 x10).length : Int)) rfl hc27 ?_
                  refine AW.skip (ρ' := [(1, (.ptr n2 0)), (3, (eI64 (p0.f1.length : Int))), (4, (eI64 x10)), (5, (eI64 x23))]) (H' := [(n2, .mem (e26 p0))]) ⟨rfl, rfl, rfl, rfl, trivial⟩ (Sub.refl _) ?_
                  refine AW.seq ?_
                  refine AW.block ?_
                  refine AW.seq ?_
                  obtain ⟨b28, hq29, h⟩ := of_bind h
                  refine AW.regM [(1, (.ptr n2 0)), (3, (eI64 (p0.f1.length : Int))), (4, (eI64 x10)), (5, (eI64 x23)), (87, (eBool b28))] [(n2, .mem (e26 p0))] ?_ ?_
                  · refine AO.calm rfl 67 rfl (by decide) (.ptr n2 256) (Calm.fldPtr rfl rfl Try.underlying26 rfl sz23 _ rfl) ?_
                    refine AO.calm rfl 68 rfl (by decide) (.fz 1 (p0.f1.map e24)) (Calm.load 0 rfl rfl rfl (At.cast (At.fldS (At.fld0 At.here)) rfl) ag23 sz23) ?_
                    refine AO.calm rfl 69 rfl (by decide) (eI64 x10) (Calm.move rfl rfl) ?_
                    obtain ⟨hg30, hq29⟩ := of_guard hq29
                    refine AO.calm rfl 70 rfl (by decide) (.rp (.fz 1 ((lget p0.f1 x10).map eI64))) (Calm.idxL (f := e24) rfl rfl rfl hg30 Try.underlying23 sz24) ?_
                    refine AO.calm rfl 71 rfl (by decide) (.fz 1 ((lget p0.f1 x10).map eI64)) (Calm.loadRp rfl rfl ag24 sz24) ?_
                    refine AO.calm rfl 72 rfl (by decide) (eI64 x23) (Calm.move rfl rfl) ?_
                    obtain ⟨hg31, hq29⟩ := of_guard hq29
                    refine AO.calm rfl 73 rfl (by decide) (.rp (eI64 (lget (lget p0.f1 x10) x23))) (Calm.idxL (f := eI64) rfl rfl rfl hg31 Try.underlying24 sz3) ?_
                    refine AO.calm rfl 74 rfl (by decide) (eI64 (lget (lget p0.f1 x10) x23)) (Calm.loadRp rfl rfl ag3 sz3) ?_
                    refine AO.calm rfl 75 rfl (by decide) (eBool (decide ((lget (lget p0.f1 x10) x23) < (-1 : Int)))) (Calm.int rfl rfl rfl rfl) ?_
                    refine AO.calm rfl 76 rfl (by decide) (eBool (decide ((lget (lget p0.f1 x10) x23) < (-1 : Int)))) (Calm.move rfl rfl) ?_
                    by_cases hc32 : (lget (lget p0.f1 x10) x23) < (-1 : Int)
                    · have hq29 := (if_pos hc32).symm.trans hq29
                      refine AO.skipG 9 true 76 rfl rfl (congrArg (fun b => some (AV.fl (Value.bool b))) (decide_eq_true hc32)) 77 rfl (by decide) ?_
                      refine AO.skipG 9 true 76 rfl rfl (congrArg (fun b => some (AV.fl (Value.bool b))) (decide_eq_true hc32)) 78 rfl (by decide) ?_
                      refine AO.skipG 9 true 76 rfl rfl (congrArg (fun b => some (AV.fl (Value.bool b))) (decide_eq_true hc32)) 79 rfl (by decide) ?_
                      refine AO.skipG 9 true 76 rfl rfl (congrArg (fun b => some (AV.fl (Value.bool b))) (decide_eq_true hc32)) 80 rfl (by decide) ?_
                      refine AO.skipG 9 true 76 rfl rfl (congrArg (fun b => some (AV.fl (Value.bool b))) (decide_eq_true hc32)) 81 rfl (by decide) ?_
                      refine AO.skipG 9 true 76 rfl rfl (congrArg (fun b => some (AV.fl (Value.bool b))) (decide_eq_true hc32)) 82 rfl (by decide) ?_
                      refine AO.skipG 9 true 76 rfl rfl (congrArg (fun b => some (AV.fl (Value.bool b))) (decide_eq_true hc32)) 83 rfl (by decide) ?_
                      refine AO.skipG 9 true 76 rfl rfl (congrArg (fun b => some (AV.fl (Value.bool b))) (decide_eq_true hc32)) 84 rfl (by decide) ?_
                      refine AO.skipG 9 true 76 rfl rfl (congrArg (fun b => some (AV.fl (Value.bool b))) (decide_eq_true hc32)) 85 rfl (by decide) ?_
                      refine AO.skipG 9 true 76 rfl rfl (congrArg (fun b => some (AV.fl (Value.bool b))) (decide_eq_true hc32)) 86 rfl (by decide) ?_
                      refine AO.calm rfl 87 rfl (by decide) (eBool true) (Calm.pickT rfl (congrArg (fun b => some (AV.fl (Value.bool b))) (decide_eq_true hc32)) rfl) ?_
                      cases hq29
                      refine AO.nilE ⟨rfl, rfl⟩ ?_ ?_
                      · exact ⟨rfl, rfl, rfl, rfl, rfl, trivial⟩
                      · exact (Sub.refl _)
                    · have hq29 := (if_neg hc32).symm.trans hq29
                      refine AO.calmG 9 false 76 rfl rfl (congrArg (fun b => some (AV.fl (Value.bool b))) (decide_eq_false hc32)) 77 rfl (by decide) (.ptr n2 256) (Calm.fldPtr rfl rfl Try.underlying26 rfl sz23 _ rfl) ?_
                      refine AO.calmG 9 false 76 rfl rfl (congrArg (fun b => some (AV.fl (Value.bool b))) (decide_eq_false hc32)) 78 rfl (by decide) (.fz 1 (p0.f1.map e24)) (Calm.load 0 rfl rfl rfl (At.cast (At.fldS (At.fld0 At.here)) rfl) ag23 sz23) ?_
                      refine AO.calmG 9 false 76 rfl rfl (congrArg (fun b => some (AV.fl (Value.bool b))) (decide_eq_false hc32)) 79 rfl (by decide) (eI64 x10) (Calm.move rfl rfl) ?_
                      obtain ⟨hg33, hq29⟩ := of_guard hq29
                      refine AO.calmG 9 false 76 rfl rfl (congrArg (fun b => some (AV.fl (Value.bool b))) (decide_eq_false hc32)) 80 rfl (by decide) (.rp (.fz 1 ((lget p0.f1 x10).map eI64))) (Calm.idxL (f := e24) rfl rfl rfl hg33 Try.underlying23 sz24) ?_
                      refine AO.calmG 9 false 76 rfl rfl (congrArg (fun b => some (AV.fl (Value.bool b))) (decide_eq_false hc32)) 81 rfl (by decide) (.fz 1 ((lget p0.f1 x10).map eI64)) (Calm.loadRp rfl rfl ag24 sz24) ?_
                      refine AO.calmG 9 false 76 rfl rfl (congrArg (fun b => some (AV.fl (Value.bool b))) (decide_eq_false hc32)) 82 rfl (by decide) (eI64 x23) (Calm.move rfl rfl) ?_
                      obtain ⟨hg34, hq29⟩ := of_guard hq29
                      refine AO.calmG 9 false 76 rfl rfl (congrArg (fun b => some (AV.fl (Value.bool b))) (decide_eq_false hc32)) 83 rfl (by decide) (.rp (eI64 (lget (lget p0.f1 x10) x23))) (Calm.idxL (f := eI64) rfl rfl rfl hg34 Try.underlying24 sz3) ?_
                      refine AO.calmG 9 false 76 rfl rfl (congrArg (fun b => some (AV.fl (Value.bool b))) (decide_eq_false hc32)) 84 rfl (by decide) (eI64 (lget (lget p0.f1 x10) x23)) (Calm.loadRp rfl rfl ag3 sz3) ?_
                      refine AO.calmG 9 false 76 rfl rfl (congrArg (fun b => some (AV.fl (Value.bool b))) (decide_eq_false hc32)) 85 rfl (by decide) (eI64 (p0.f1.length : Int)) (Calm.move rfl rfl) ?_
                      refine AO.calmG 9 false 76 rfl rfl (congrArg (fun b => some (AV.fl (Value.bool b))) (decide_eq_false hc32)) 86 rfl (by decide) (eBool (decide ((p0.f1.length : Int) ≤ (lget (lget p0.f1 x10) x23)))) (Calm.int rfl rfl rfl rfl) ?_
                      refine AO.calm rfl 87 rfl (by decide) (eBool (decide ((p0.f1.length : Int) ≤ (lget (lget p0.f1 x10) x23)))) (Calm.pickF rfl (congrArg (fun b => some (AV.fl (Value.bool b))) (decide_eq_false hc32)) rfl) ?_
                      cases hq29
                      refine AO.nilE ⟨rfl, rfl⟩ ?_ ?_
                      · exact ⟨rfl, rfl, rfl, rfl, rfl, trivial⟩
                      · exact (Sub.refl _)
                  · by_cases hc35 : b28 = true
                    · have h := (if_pos hc35).symm.trans h
                      refine AW.condT' b28 rfl hc35 ?_
                      refine AW.seq ?_
                      refine AW.reg ?_
                      refine AO.calm rfl 2 rfl (by decide) (eBool false) (Calm.assign rfl rfl) ?_
                      refine AO.nil (ρ' := [(2, (eBool false))]) (H' := []) ⟨rfl, trivial⟩ (Sub.nil _) ?_
                      refine AW.ret (ρ' := [(2, (eBool false))]) (H' := []) ⟨rfl, trivial⟩ (Sub.refl _) ?_
                      have hr := Option.some.inj h
                      subst hr
                      exact ⟨[(eBool false)], ⟨rfl, rfl, trivial⟩, rfl⟩
                    · have h := (if_neg hc35).symm.trans h
                      refine AW.condF' b28 rfl hc35 ?_
                      refine AW.skip (ρ' := [(1, (.ptr n2 0)), (3, (eI64 (p0.f1.length : Int))), (4, (eI64 x10)), (5, (eI64 x23))]) (H' := [(n2, .mem (e26 p0))]) ⟨rfl, rfl, rfl, rfl, trivial⟩ (Sub.refl _) ?_
                      refine AW.reg ?_
                      refine AO.calm rfl 65 rfl (by decide) (eI64 x23) (Calm.move rfl rfl) ?_
                      refine AO.calm rfl 66 rfl (by decide) (eI64 (w64 (x23 + (1 : Int)))) (Calm.int rfl rfl rfl rfl) ?_
                      refine AO.calm rfl 5 rfl (by decide) (eI64 (w64 (x23 + (1 : Int)))) (Calm.assign rfl rfl) ?_
                      refine AO.nil (ρ' := [(1, (.ptr n2 0)), (3, (eI64 (p0.f1.length : Int))), (4, (eI64 x10)), (5, (eI64 (w64 (x23 + (1 : Int)))))]) (H' := [(n2, .mem (e26 p0))]) ⟨rfl, rfl, rfl, rfl, trivial⟩ (Sub.refl _) ?_
                      exact ⟨kq25, Nat.lt_succ_self _, (w64 (x23 + (1 : Int))), rfl, rfl, by rw [hrec24]; exact h⟩
                · have h := (if_neg hc27).symm.trans h
                  refine AW.condN (x23 < ((lget p0.f1 x10).length : Int)) rfl hc27 ?_
                  refine AW.exit (ρ' := [(1, (.ptr n2 0)), (3, (eI64 (p0.f1.length : Int))), (4, (eI64 x10))]) (H' := [(n2, .mem (e26 p0))]) ⟨rfl, rfl, rfl, trivial⟩ (Sub.refl _) ?_
                  exact ⟨rfl, rfl, h⟩
          · rintro _ _ ⟨rfl, rfl, h⟩
            rw [bosketref08_Right_c1.eq_1] at h
            refine AW.reg ?_
            refine AO.calm rfl 30 rfl (by decide) (eI64 x10) (Calm.move rfl rfl) ?_
            refine AO.calm rfl 31 rfl (by decide) (eI64 (w64 (x10 + (1 : Int)))) (Calm.int rfl rfl rfl rfl) ?_
            refine AO.calm rfl 4 rfl (by decide) (eI64 (w64 (x10 + (1 : Int)))) (Calm.assign rfl rfl) ?_
            refine AO.nil (ρ' := [(1, (.ptr n2 0)), (3, (eI64 (p0.f1.length : Int))), (4, (eI64 (w64 (x10 + (1 : Int)))))]) (H' := [(n2, .mem (e26 p0))]) ⟨rfl, rfl, rfl, trivial⟩ (Sub.refl _) ?_
            exact ⟨kq12, Nat.lt_succ_self _, (w64 (x10 + (1 : Int))), rfl, rfl, by rw [hrec11]; exact h⟩
        · have h := (if_neg hc13).symm.trans h
          refine AW.condN (x10 < (p0.f1.length : Int)) rfl hc13 ?_
          refine AW.exit (ρ' := []) (H' := []) trivial (Sub.nil _) ?_
          exact ⟨rfl, rfl, h⟩
      · rintro _ _ ⟨rfl, rfl, h⟩
        rw [bosketref08_Right_c0.eq_1] at h
        refine AW.seq ?_
        refine AW.reg ?_
        refine AO.calm rfl 2 rfl (by decide) (eBool true) (Calm.assign rfl rfl) ?_
        refine AO.nil (ρ' := [(2, (eBool true))]) (H' := []) ⟨rfl, trivial⟩ (Sub.refl _) ?_
        refine AW.ret (ρ' := [(2, (eBool true))]) (H' := []) ⟨rfl, trivial⟩ (Sub.refl _) ?_
        have hr := Option.some.inj h
        subst hr
        exact ⟨[(eBool true)], ⟨rfl, rfl, trivial⟩, rfl⟩
end Go.Avl.T1
