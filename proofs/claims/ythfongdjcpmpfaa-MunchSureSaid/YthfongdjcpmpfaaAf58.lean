/- bosket/bosketref08.Step; printed by avmain.py. -/
import Derived.Test.YthfongdjcpmpfaaAB
namespace Go.Avl.T1
open Go Go.RowKit Go.Proofs Go.Avl
set_option linter.unusedVariables false
set_option maxRecDepth 100000
set_option maxHeartbeats 4000000
attribute [local irreducible] AW AO AQ Spec SpecH Calm

def bosketref08_Step (k : Nat) (p0 : S26) (p1 : Int) (p2 : Int) : Option Int :=
  Option.bind (α := Bool) (if p1 < (0 : Int) then some (true)
  else if (p0.f1.length : Int) ≤ p1 then some (true)
  else if 0 ≤ p2 ∧ p2 < (256 : Int) then if 0 ≤ p1 ∧ p1 < (p0.f1.length : Int) then some (decide (((lget p0.f1 p1).length : Int) ≤ (w64 (vget p0.f0 p2))))
  else none
  else none) fun b5 =>
  if b5 = true then some ((-1 : Int))
  else if 0 ≤ p1 ∧ p1 < (p0.f1.length : Int) then if 0 ≤ p2 ∧ p2 < (256 : Int) then if 0 ≤ (vget p0.f0 p2) ∧ (vget p0.f0 p2) < ((lget p0.f1 p1).length : Int) then some ((lget (lget p0.f1 p1) (vget p0.f0 p2)))
  else none
  else none
  else none
theorem bosketref08_Step_spec {k : Nat} {p0 : S26} {p1 : Int} {p2 : Int} {r : Int} (h : bosketref08_Step k p0 p1 p2 = some r) : Spec Try.prog 58 [(e26 p0), (eI64 p1), (eI64 p2)] (eI64 r) := by
  rw [bosketref08_Step.eq_1] at h
  refine Spec.intro (res := [.tmp 6]) Try.func58 rfl rfl rfl (Nat.le_of_ble_eq_true rfl) ?_
  refine AW.seq ?_
  refine AW.reg ?_
  refine AO.box rfl 3 rfl (by decide) rfl rfl rfl fun n4 => ?_
  refine AO.calm rfl 6 rfl (by decide) (eI64 (0 : Int)) (Calm.assign rfl rfl) ?_
  refine AO.nil (ρ' := [(1, (eI64 p1)), (2, (eI64 p2)), (3, (.ptr n4 0))]) (H' := [(n4, .mem (e26 p0))]) ⟨rfl, rfl, rfl, trivial⟩ (Sub.refl _) ?_
  refine AW.seq ?_
  refine AW.seq ?_
  obtain ⟨b5, hq6, h⟩ := of_bind h
  refine AW.regQM (by rfl) (by decide +kernel) [(1, (eI64 p1)), (2, (eI64 p2)), (3, (.ptr n4 0)), (29, (eBool b5))] ?_ ?_
  · refine AQ.calm rfl 7 rfl (by decide) (eI64 p1) (Calm.move rfl rfl) ?_
    refine AQ.calm rfl 8 rfl (by decide) (eBool (decide (p1 < (0 : Int)))) (Calm.int rfl rfl rfl rfl) ?_
    refine AQ.calm rfl 9 rfl (by decide) (eBool (decide (p1 < (0 : Int)))) (Calm.move rfl rfl) ?_
    by_cases hc7 : p1 < (0 : Int)
    · have hq6 := (if_pos hc7).symm.trans hq6
      refine AQ.skipG 2 true 9 rfl rfl (congrArg (fun b => some (AV.fl (Value.bool b))) (decide_eq_true hc7)) 10 rfl (by decide) ?_
      refine AQ.skipG 2 true 9 rfl rfl (congrArg (fun b => some (AV.fl (Value.bool b))) (decide_eq_true hc7)) 11 rfl (by decide) ?_
      refine AQ.skipG 2 true 9 rfl rfl (congrArg (fun b => some (AV.fl (Value.bool b))) (decide_eq_true hc7)) 12 rfl (by decide) ?_
      refine AQ.skipG 2 true 9 rfl rfl (congrArg (fun b => some (AV.fl (Value.bool b))) (decide_eq_true hc7)) 13 rfl (by decide) ?_
      refine AQ.skipG 2 true 9 rfl rfl (congrArg (fun b => some (AV.fl (Value.bool b))) (decide_eq_true hc7)) 14 rfl (by decide) ?_
      refine AQ.calm rfl 15 rfl (by decide) (eBool true) (Calm.pickT rfl (congrArg (fun b => some (AV.fl (Value.bool b))) (decide_eq_true hc7)) rfl) ?_
      refine AQ.calm rfl 16 rfl (by decide) (eBool true) (Calm.move rfl rfl) ?_
      refine AQ.skipG 9 true 16 rfl rfl rfl 17 rfl (by decide) ?_
      refine AQ.skipG 9 true 16 rfl rfl rfl 18 rfl (by decide) ?_
      refine AQ.skipG 9 true 16 rfl rfl rfl 19 rfl (by decide) ?_
      refine AQ.skipG 9 true 16 rfl rfl rfl 20 rfl (by decide) ?_
      refine AQ.skipG 9 true 16 rfl rfl rfl 21 rfl (by decide) ?_
      refine AQ.skipG 9 true 16 rfl rfl rfl 22 rfl (by decide) ?_
      refine AQ.skipG 9 true 16 rfl rfl rfl 23 rfl (by decide) ?_
      refine AQ.skipG 9 true 16 rfl rfl rfl 24 rfl (by decide) ?_
      refine AQ.skipG 9 true 16 rfl rfl rfl 25 rfl (by decide) ?_
      refine AQ.skipG 9 true 16 rfl rfl rfl 26 rfl (by decide) ?_
      refine AQ.skipG 9 true 16 rfl rfl rfl 27 rfl (by decide) ?_
      refine AQ.skipG 9 true 16 rfl rfl rfl 28 rfl (by decide) ?_
      refine AQ.calm rfl 29 rfl (by decide) (eBool true) (Calm.pickT rfl rfl rfl) ?_
      cases hq6
      refine AQ.nilE rfl ?_
      exact ⟨rfl, rfl, rfl, rfl, trivial⟩
    · have hq6 := (if_neg hc7).symm.trans hq6
      refine AQ.calmG 2 false 9 rfl rfl (congrArg (fun b => some (AV.fl (Value.bool b))) (decide_eq_false hc7)) 10 rfl (by decide) (eI64 p1) (Calm.move rfl rfl) ?_
      refine AQ.calmG 2 false 9 rfl rfl (congrArg (fun b => some (AV.fl (Value.bool b))) (decide_eq_false hc7)) 11 rfl (by decide) (.ptr n4 256) (Calm.fldPtr rfl rfl Try.underlying26 rfl sz23 _ rfl) ?_
      refine AQ.calmG 2 false 9 rfl rfl (congrArg (fun b => some (AV.fl (Value.bool b))) (decide_eq_false hc7)) 12 rfl (by decide) (.fz 1 (p0.f1.map e24)) (Calm.load 0 rfl rfl rfl (At.cast (At.fldS (At.fld0 At.here)) rfl) ag23 sz23) ?_
      refine AQ.calmG 2 false 9 rfl rfl (congrArg (fun b => some (AV.fl (Value.bool b))) (decide_eq_false hc7)) 13 rfl (by decide) (eI64 (p0.f1.length : Int)) (Calm.lenL rfl rfl Try.underlying23) ?_
      refine AQ.calmG 2 false 9 rfl rfl (congrArg (fun b => some (AV.fl (Value.bool b))) (decide_eq_false hc7)) 14 rfl (by decide) (eBool (decide ((p0.f1.length : Int) ≤ p1))) (Calm.int rfl rfl rfl rfl) ?_
      refine AQ.calm rfl 15 rfl (by decide) (eBool (decide ((p0.f1.length : Int) ≤ p1))) (Calm.pickF rfl (congrArg (fun b => some (AV.fl (Value.bool b))) (decide_eq_false hc7)) rfl) ?_
      refine AQ.calm rfl 16 rfl (by decide) (eBool (decide ((p0.f1.length : Int) ≤ p1))) (Calm.move rfl rfl) ?_
      by_cases hc8 : (p0.f1.length : Int) ≤ p1
      · have hq6 := (if_pos hc8).symm.trans hq6
        refine AQ.skipG 9 true 16 rfl rfl (congrArg (fun b => some (AV.fl (Value.bool b))) (decide_eq_true hc8)) 17 rfl (by decide) ?_
        refine AQ.skipG 9 true 16 rfl rfl (congrArg (fun b => some (AV.fl (Value.bool b))) (decide_eq_true hc8)) 18 rfl (by decide) ?_
        refine AQ.skipG 9 true 16 rfl rfl (congrArg (fun b => some (AV.fl (Value.bool b))) (decide_eq_true hc8)) 19 rfl (by decide) ?_
        refine AQ.skipG 9 true 16 rfl rfl (congrArg (fun b => some (AV.fl (Value.bool b))) (decide_eq_true hc8)) 20 rfl (by decide) ?_
        refine AQ.skipG 9 true 16 rfl rfl (congrArg (fun b => some (AV.fl (Value.bool b))) (decide_eq_true hc8)) 21 rfl (by decide) ?_
        refine AQ.skipG 9 true 16 rfl rfl (congrArg (fun b => some (AV.fl (Value.bool b))) (decide_eq_true hc8)) 22 rfl (by decide) ?_
        refine AQ.skipG 9 true 16 rfl rfl (congrArg (fun b => some (AV.fl (Value.bool b))) (decide_eq_true hc8)) 23 rfl (by decide) ?_
        refine AQ.skipG 9 true 16 rfl rfl (congrArg (fun b => some (AV.fl (Value.bool b))) (decide_eq_true hc8)) 24 rfl (by decide) ?_
        refine AQ.skipG 9 true 16 rfl rfl (congrArg (fun b => some (AV.fl (Value.bool b))) (decide_eq_true hc8)) 25 rfl (by decide) ?_
        refine AQ.skipG 9 true 16 rfl rfl (congrArg (fun b => some (AV.fl (Value.bool b))) (decide_eq_true hc8)) 26 rfl (by decide) ?_
        refine AQ.skipG 9 true 16 rfl rfl (congrArg (fun b => some (AV.fl (Value.bool b))) (decide_eq_true hc8)) 27 rfl (by decide) ?_
        refine AQ.skipG 9 true 16 rfl rfl (congrArg (fun b => some (AV.fl (Value.bool b))) (decide_eq_true hc8)) 28 rfl (by decide) ?_
        refine AQ.calm rfl 29 rfl (by decide) (eBool true) (Calm.pickT rfl (congrArg (fun b => some (AV.fl (Value.bool b))) (decide_eq_true hc8)) rfl) ?_
        cases hq6
        refine AQ.nilE rfl ?_
        exact ⟨rfl, rfl, rfl, rfl, trivial⟩
      · have hq6 := (if_neg hc8).symm.trans hq6
        refine AQ.calmG 9 false 16 rfl rfl (congrArg (fun b => some (AV.fl (Value.bool b))) (decide_eq_false hc8)) 17 rfl (by decide) (eI64 p2) (Calm.move rfl rfl) ?_
        refine AQ.calmG 9 false 16 rfl rfl (congrArg (fun b => some (AV.fl (Value.bool b))) (decide_eq_false hc8)) 18 rfl (by decide) (.ptr n4 0) (Calm.fldPtr rfl rfl Try.underlying26 rfl sz22 _ rfl) ?_
        obtain ⟨hg9, hq6⟩ := of_guard hq6
        refine AQ.calmG 9 false 16 rfl rfl (congrArg (fun b => some (AV.fl (Value.bool b))) (decide_eq_false hc8)) 19 rfl (by decide) (.ptr n4 (0 + p2.toNat * 1)) (Calm.idxP rfl rfl rfl hg9 Try.underlying22 sz5) ?_
        refine AQ.calmG 9 false 16 rfl rfl (congrArg (fun b => some (AV.fl (Value.bool b))) (decide_eq_false hc8)) 20 rfl (by decide) (eU8 (vget p0.f0 p2)) (Calm.load 0 rfl rfl rfl (At.cast (At.fld0 (At.vidx p2 hg9.1 hg9.2 At.here)) (by omega)) ag5 sz5) ?_
        refine AQ.calmG 9 false 16 rfl rfl (congrArg (fun b => some (AV.fl (Value.bool b))) (decide_eq_false hc8)) 21 rfl (by decide) (eI64 (w64 (vget p0.f0 p2))) (Calm.conv rfl rfl Try.underlying5 Try.underlying3) ?_
        refine AQ.calmG 9 false 16 rfl rfl (congrArg (fun b => some (AV.fl (Value.bool b))) (decide_eq_false hc8)) 22 rfl (by decide) (.ptr n4 256) (Calm.fldPtr rfl rfl Try.underlying26 rfl sz23 _ rfl) ?_
        refine AQ.calmG 9 false 16 rfl rfl (congrArg (fun b => some (AV.fl (Value.bool b))) (decide_eq_false hc8)) 23 rfl (by decide) (.fz 1 (p0.f1.map e24)) (Calm.load 0 rfl rfl rfl (At.cast (At.fldS (At.fld0 At.here)) rfl) ag23 sz23) ?_
        refine AQ.calmG 9 false 16 rfl rfl (congrArg (fun b => some (AV.fl (Value.bool b))) (decide_eq_false hc8)) 24 rfl (by decide) (eI64 p1) (Calm.move rfl rfl) ?_
        obtain ⟨hg10, hq6⟩ := of_guard hq6
        refine AQ.calmG 9 false 16 rfl rfl (congrArg (fun b => some (AV.fl (Value.bool b))) (decide_eq_false hc8)) 25 rfl (by decide) (.rp (.fz 1 ((lget p0.f1 p1).map eI64))) (Calm.idxL (f := e24) rfl rfl rfl hg10 Try.underlying23 sz24) ?_
        refine AQ.calmG 9 false 16 rfl rfl (congrArg (fun b => some (AV.fl (Value.bool b))) (decide_eq_false hc8)) 26 rfl (by decide) (.fz 1 ((lget p0.f1 p1).map eI64)) (Calm.loadRp rfl rfl ag24 sz24) ?_
        refine AQ.calmG 9 false 16 rfl rfl (congrArg (fun b => some (AV.fl (Value.bool b))) (decide_eq_false hc8)) 27 rfl (by decide) (eI64 ((lget p0.f1 p1).length : Int)) (Calm.lenL rfl rfl Try.underlying24) ?_
        refine AQ.calmG 9 false 16 rfl rfl (congrArg (fun b => some (AV.fl (Value.bool b))) (decide_eq_false hc8)) 28 rfl (by decide) (eBool (decide (((lget p0.f1 p1).length : Int) ≤ (w64 (vget p0.f0 p2))))) (Calm.int rfl rfl rfl rfl) ?_
        refine AQ.calm rfl 29 rfl (by decide) (eBool (decide (((lget p0.f1 p1).length : Int) ≤ (w64 (vget p0.f0 p2))))) (Calm.pickF rfl (congrArg (fun b => some (AV.fl (Value.bool b))) (decide_eq_false hc8)) rfl) ?_
        cases hq6
        refine AQ.nilE rfl ?_
        exact ⟨rfl, rfl, rfl, rfl, trivial⟩
  · by_cases hc11 : b5 = true
    · have h := (if_pos hc11).symm.trans h
      refine AW.condT' b5 rfl hc11 ?_
      refine AW.seq ?_
      refine AW.reg ?_
      refine AO.calm rfl 6 rfl (by decide) (eI64 (-1 : Int)) (Calm.assign rfl rfl) ?_
      refine AO.nil (ρ' := [(6, (eI64 (-1 : Int)))]) (H' := []) ⟨rfl, trivial⟩ (Sub.nil _) ?_
      refine AW.ret (ρ' := [(6, (eI64 (-1 : Int)))]) (H' := []) ⟨rfl, trivial⟩ (Sub.refl _) ?_
      have hr := Option.some.inj h
      subst hr
      exact ⟨[(eI64 (-1 : Int))], ⟨rfl, rfl, trivial⟩, rfl⟩
    · have h := (if_neg hc11).symm.trans h
      refine AW.condF' b5 rfl hc11 ?_
      refine AW.skip (ρ' := [(1, (eI64 p1)), (2, (eI64 p2)), (3, (.ptr n4 0))]) (H' := [(n4, .mem (e26 p0))]) ⟨rfl, rfl, rfl, trivial⟩ (Sub.refl _) ?_
      refine AW.seq ?_
      refine AW.regQ (by rfl) (by decide +kernel) ?_
      refine AQ.calm rfl 30 rfl (by decide) (.ptr n4 256) (Calm.fldPtr rfl rfl Try.underlying26 rfl sz23 _ rfl) ?_
      refine AQ.calm rfl 31 rfl (by decide) (.fz 1 (p0.f1.map e24)) (Calm.load 0 rfl rfl rfl (At.cast (At.fldS (At.fld0 At.here)) rfl) ag23 sz23) ?_
      refine AQ.calm rfl 32 rfl (by decide) (eI64 p1) (Calm.move rfl rfl) ?_
      obtain ⟨hg12, h⟩ := of_guard h
      refine AQ.calm rfl 33 rfl (by decide) (.rp (.fz 1 ((lget p0.f1 p1).map eI64))) (Calm.idxL (f := e24) rfl rfl rfl hg12 Try.underlying23 sz24) ?_
      refine AQ.calm rfl 34 rfl (by decide) (.fz 1 ((lget p0.f1 p1).map eI64)) (Calm.loadRp rfl rfl ag24 sz24) ?_
      refine AQ.calm rfl 35 rfl (by decide) (eI64 p2) (Calm.move rfl rfl) ?_
      refine AQ.calm rfl 36 rfl (by decide) (.ptr n4 0) (Calm.fldPtr rfl rfl Try.underlying26 rfl sz22 _ rfl) ?_
      obtain ⟨hg13, h⟩ := of_guard h
      refine AQ.calm rfl 37 rfl (by decide) (.ptr n4 (0 + p2.toNat * 1)) (Calm.idxP rfl rfl rfl hg13 Try.underlying22 sz5) ?_
      refine AQ.calm rfl 38 rfl (by decide) (eU8 (vget p0.f0 p2)) (Calm.load 0 rfl rfl rfl (At.cast (At.fld0 (At.vidx p2 hg13.1 hg13.2 At.here)) (by omega)) ag5 sz5) ?_
      obtain ⟨hg14, h⟩ := of_guard h
      refine AQ.calm rfl 39 rfl (by decide) (.rp (eI64 (lget (lget p0.f1 p1) (vget p0.f0 p2)))) (Calm.idxL (f := eI64) rfl rfl rfl hg14 Try.underlying24 sz3) ?_
      refine AQ.calm rfl 40 rfl (by decide) (eI64 (lget (lget p0.f1 p1) (vget p0.f0 p2))) (Calm.loadRp rfl rfl ag3 sz3) ?_
      refine AQ.calm rfl 6 rfl (by decide) (eI64 (lget (lget p0.f1 p1) (vget p0.f0 p2))) (Calm.assign rfl rfl) ?_
      refine AQ.nil (ρ' := [(6, (eI64 (lget (lget p0.f1 p1) (vget p0.f0 p2))))]) ⟨rfl, trivial⟩ ?_
      refine AW.ret (ρ' := [(6, (eI64 (lget (lget p0.f1 p1) (vget p0.f0 p2))))]) (H' := []) ⟨rfl, trivial⟩ (Sub.nil _) ?_
      have hr := Option.some.inj h
      subst hr
      exact ⟨[(eI64 (lget (lget p0.f1 p1) (vget p0.f0 p2)))], ⟨rfl, rfl, trivial⟩, rfl⟩
end Go.Avl.T1
