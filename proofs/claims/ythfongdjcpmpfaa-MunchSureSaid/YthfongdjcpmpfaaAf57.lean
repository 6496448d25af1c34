/- bosket/bosketref08.Mark; printed by avmain.py. -/
import Derived.Test.YthfongdjcpmpfaaAB
namespace Go.Avl.T1
open Go Go.RowKit Go.Proofs Go.Avl
set_option linter.unusedVariables false
set_option maxRecDepth 100000
set_option maxHeartbeats 4000000
attribute [local irreducible] AW AO AQ Spec SpecH Calm

def bosketref08_Mark (k : Nat) (p0 : S26) (p1 : Int) : Option Int :=
  Option.bind (α := Bool) (if p1 < (0 : Int) then some (true)
  else some (decide ((p0.f2.length : Int) ≤ p1))) fun b4 =>
  if b4 = true then some ((-1 : Int))
  else if 0 ≤ p1 ∧ p1 < (p0.f2.length : Int) then some ((lget p0.f2 p1))
  else none
theorem bosketref08_Mark_spec {k : Nat} {p0 : S26} {p1 : Int} {r : Int} (h : bosketref08_Mark k p0 p1 = some r) : Spec Try.prog 57 [(e26 p0), (eI64 p1)] (eI64 r) := by
  rw [bosketref08_Mark.eq_1] at h
  refine Spec.intro (res := [.tmp 4]) Try.func57 rfl rfl rfl (Nat.le_of_ble_eq_true rfl) ?_
  refine AW.seq ?_
  refine AW.reg ?_
  refine AO.box rfl 2 rfl (by decide) rfl rfl rfl fun n3 => ?_
  refine AO.calm rfl 4 rfl (by decide) (eI64 (0 : Int)) (Calm.assign rfl rfl) ?_
  refine AO.nil (ρ' := [(1, (eI64 p1)), (2, (.ptr n3 0))]) (H' := [(n3, .mem (e26 p0))]) ⟨rfl, rfl, trivial⟩ (Sub.refl _) ?_
  refine AW.seq ?_
  refine AW.seq ?_
  obtain ⟨b4, hq5, h⟩ := of_bind h
  refine AW.regM [(1, (eI64 p1)), (2, (.ptr n3 0)), (13, (eBool b4))] [(n3, .mem (e26 p0))] ?_ ?_
  · refine AO.calm rfl 5 rfl (by decide) (eI64 p1) (Calm.move rfl rfl) ?_
    refine AO.calm rfl 6 rfl (by decide) (eBool (decide (p1 < (0 : Int)))) (Calm.int rfl rfl rfl rfl) ?_
    refine AO.calm rfl 7 rfl (by decide) (eBool (decide (p1 < (0 : Int)))) (Calm.move rfl rfl) ?_
    by_cases hc6 : p1 < (0 : Int)
    · have hq5 := (if_pos hc6).symm.trans hq5
      refine AO.skipG 2 true 7 rfl rfl (congrArg (fun b => some (AV.fl (Value.bool b))) (decide_eq_true hc6)) 8 rfl (by decide) ?_
      refine AO.skipG 2 true 7 rfl rfl (congrArg (fun b => some (AV.fl (Value.bool b))) (decide_eq_true hc6)) 9 rfl (by decide) ?_
      refine AO.skipG 2 true 7 rfl rfl (congrArg (fun b => some (AV.fl (Value.bool b))) (decide_eq_true hc6)) 10 rfl (by decide) ?_
      refine AO.skipG 2 true 7 rfl rfl (congrArg (fun b => some (AV.fl (Value.bool b))) (decide_eq_true hc6)) 11 rfl (by decide) ?_
      refine AO.skipG 2 true 7 rfl rfl (congrArg (fun b => some (AV.fl (Value.bool b))) (decide_eq_true hc6)) 12 rfl (by decide) ?_
      refine AO.calm rfl 13 rfl (by decide) (eBool true) (Calm.pickT rfl (congrArg (fun b => some (AV.fl (Value.bool b))) (decide_eq_true hc6)) rfl) ?_
      cases hq5
      refine AO.nilE ⟨rfl, rfl⟩ ?_ ?_
      · exact ⟨rfl, rfl, rfl, trivial⟩
      · exact (Sub.refl _)
    · have hq5 := (if_neg hc6).symm.trans hq5
      refine AO.calmG 2 false 7 rfl rfl (congrArg (fun b => some (AV.fl (Value.bool b))) (decide_eq_false hc6)) 8 rfl (by decide) (eI64 p1) (Calm.move rfl rfl) ?_
      refine AO.calmG 2 false 7 rfl rfl (congrArg (fun b => some (AV.fl (Value.bool b))) (decide_eq_false hc6)) 9 rfl (by decide) (.ptr n3 257) (Calm.fldPtr rfl rfl Try.underlying26 rfl sz24 _ rfl) ?_
      refine AO.calmG 2 false 7 rfl rfl (congrArg (fun b => some (AV.fl (Value.bool b))) (decide_eq_false hc6)) 10 rfl (by decide) (.fz 1 (p0.f2.map eI64)) (Calm.load 0 rfl rfl rfl (At.cast (At.fldS (At.fldS (At.fld0 At.here))) rfl) ag24 sz24) ?_
      refine AO.calmG 2 false 7 rfl rfl (congrArg (fun b => some (AV.fl (Value.bool b))) (decide_eq_false hc6)) 11 rfl (by decide) (eI64 (p0.f2.length : Int)) (Calm.lenL rfl rfl Try.underlying24) ?_
      refine AO.calmG 2 false 7 rfl rfl (congrArg (fun b => some (AV.fl (Value.bool b))) (decide_eq_false hc6)) 12 rfl (by decide) (eBool (decide ((p0.f2.length : Int) ≤ p1))) (Calm.int rfl rfl rfl rfl) ?_
      refine AO.calm rfl 13 rfl (by decide) (eBool (decide ((p0.f2.length : Int) ≤ p1))) (Calm.pickF rfl (congrArg (fun b => some (AV.fl (Value.bool b))) (decide_eq_false hc6)) rfl) ?_
      cases hq5
      refine AO.nilE ⟨rfl, rfl⟩ ?_ ?_
      · exact ⟨rfl, rfl, rfl, trivial⟩
      · exact (Sub.refl _)
  · by_cases hc7 : b4 = true
    · have h := (if_pos hc7).symm.trans h
      refine AW.condT' b4 rfl hc7 ?_
      refine AW.seq ?_
      refine AW.reg ?_
      refine AO.calm rfl 4 rfl (by decide) (eI64 (-1 : Int)) (Calm.assign rfl rfl) ?_
      refine AO.nil (ρ' := [(4, (eI64 (-1 : Int)))]) (H' := []) ⟨rfl, trivial⟩ (Sub.nil _) ?_
      refine AW.ret (ρ' := [(4, (eI64 (-1 : Int)))]) (H' := []) ⟨rfl, trivial⟩ (Sub.refl _) ?_
      have hr := Option.some.inj h
      subst hr
      exact ⟨[(eI64 (-1 : Int))], ⟨rfl, rfl, trivial⟩, rfl⟩
    · have h := (if_neg hc7).symm.trans h
      refine AW.condF' b4 rfl hc7 ?_
      refine AW.skip (ρ' := [(1, (eI64 p1)), (2, (.ptr n3 0))]) (H' := [(n3, .mem (e26 p0))]) ⟨rfl, rfl, trivial⟩ (Sub.refl _) ?_
      refine AW.seq ?_
      refine AW.reg ?_
      refine AO.calm rfl 14 rfl (by decide) (.ptr n3 257) (Calm.fldPtr rfl rfl Try.underlying26 rfl sz24 _ rfl) ?_
      refine AO.calm rfl 15 rfl (by decide) (.fz 1 (p0.f2.map eI64)) (Calm.load 0 rfl rfl rfl (At.cast (At.fldS (At.fldS (At.fld0 At.here))) rfl) ag24 sz24) ?_
      refine AO.calm rfl 16 rfl (by decide) (eI64 p1) (Calm.move rfl rfl) ?_
      obtain ⟨hg8, h⟩ := of_guard h
      refine AO.calm rfl 17 rfl (by decide) (.rp (eI64 (lget p0.f2 p1))) (Calm.idxL (f := eI64) rfl rfl rfl hg8 Try.underlying24 sz3) ?_
      refine AO.calm rfl 18 rfl (by decide) (eI64 (lget p0.f2 p1)) (Calm.loadRp rfl rfl ag3 sz3) ?_
      refine AO.calm rfl 4 rfl (by decide) (eI64 (lget p0.f2 p1)) (Calm.assign rfl rfl) ?_
      refine AO.nil (ρ' := [(4, (eI64 (lget p0.f2 p1)))]) (H' := []) ⟨rfl, trivial⟩ (Sub.nil _) ?_
      refine AW.ret (ρ' := [(4, (eI64 (lget p0.f2 p1)))]) (H' := []) ⟨rfl, trivial⟩ (Sub.refl _) ?_
      have hr := Option.some.inj h
      subst hr
      exact ⟨[(eI64 (lget p0.f2 p1))], ⟨rfl, rfl, trivial⟩, rfl⟩
end Go.Avl.T1
