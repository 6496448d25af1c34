/- bosket/munch.Alone; printed by avmain.py. -/
import Derived.Test.YthfongdjcpmpfaaAB
import Derived.Test.YthfongdjcpmpfaaAf15
namespace Go.Avl.T1
open Go Go.RowKit Go.Proofs Go.Avl
set_option linter.unusedVariables false
set_option maxRecDepth 100000
set_option maxHeartbeats 4000000
attribute [local irreducible] AW AO AQ Spec SpecH Calm

def munch_Alone (k : Nat) (p0 : S26) (p1 : ByteArray) : Option Int :=
  (munch_Longest k p0 p1 (0 : Int)).bind fun t4 =>
  Option.bind (α := Bool) (if p1 = (ByteArray.mk #[]) then some (true)
  else some (decide (t4.2 ≠ (p1.size : Int)))) fun b5 =>
  if b5 = true then some ((-1 : Int))
  else some (t4.1)
theorem munch_Alone_spec {k : Nat} {p0 : S26} {p1 : ByteArray} {r : Int} (h : munch_Alone k p0 p1 = some r) : Spec Try.prog 17 [(e26 p0), (eStr p1)] (eI64 r) := by
  rw [munch_Alone.eq_1] at h
  refine Spec.intro (res := [.tmp 4]) Try.func17 rfl rfl rfl (Nat.le_of_ble_eq_true rfl) ?_
  refine AW.seq ?_
  refine AW.reg ?_
  refine AO.box rfl 2 rfl (by decide) rfl rfl rfl fun n3 => ?_
  refine AO.calm rfl 4 rfl (by decide) (eI64 (0 : Int)) (Calm.assign rfl rfl) ?_
  refine AO.nil (ρ' := [(1, (eStr p1)), (2, (.ptr n3 0))]) (H' := [(n3, .mem (e26 p0))]) ⟨rfl, rfl, trivial⟩ (Sub.refl _) ?_
  refine AW.seq ?_
  refine AW.reg ?_
  refine AO.calm rfl 8 rfl (by decide) (e26 p0) (Calm.load 0 rfl rfl rfl (At.cast At.here rfl) ag26 sz26) ?_
  refine AO.calm rfl 9 rfl (by decide) (eStr p1) (Calm.move rfl rfl) ?_
  obtain ⟨t4, et4, h⟩ := of_bind h
  refine AO.callS [(e26 p0), (eStr p1), (eI64 (0 : Int))] (.tup [(eI64 t4.1), (eI64 t4.2)]) 10 rfl (by decide) ok15 rfl rfl rfl ⟨rfl, rfl, rfl, rfl, rfl, rfl, trivial⟩ (munch_Longest_spec et4) ?_
  refine AO.calm rfl 7 rfl (by decide) (.tup [(eI64 t4.1), (eI64 t4.2)]) (Calm.move rfl rfl) ?_
  refine AO.calm rfl 11 rfl (by decide) (eI64 t4.1) (Calm.extract rfl rfl rfl) ?_
  refine AO.calm rfl 12 rfl (by decide) (eI64 t4.2) (Calm.extract rfl rfl rfl) ?_
  refine AO.calm rfl 5 rfl (by decide) (eI64 t4.1) (Calm.assign rfl rfl) ?_
  refine AO.calm rfl 6 rfl (by decide) (eI64 t4.2) (Calm.assign rfl rfl) ?_
  refine AO.nil (ρ' := [(1, (eStr p1)), (5, (eI64 t4.1)), (6, (eI64 t4.2))]) (H' := []) ⟨rfl, rfl, rfl, trivial⟩ (Sub.nil _) ?_
  refine AW.seq ?_
  refine AW.seq ?_
  obtain ⟨b5, hq6, h⟩ := of_bind h
  refine AW.regM [(5, (eI64 t4.1)), (20, (eBool b5))] [] ?_ ?_
  · refine AO.calm rfl 13 rfl (by decide) (eStr p1) (Calm.move rfl rfl) ?_
    refine AO.calm rfl 14 rfl (by decide) (eBool (decide (p1 = (ByteArray.mk #[])))) (Calm.str rfl rfl rfl rfl) ?_
    refine AO.calm rfl 15 rfl (by decide) (eBool (decide (p1 = (ByteArray.mk #[])))) (Calm.move rfl rfl) ?_
    by_cases hc7 : p1 = (ByteArray.mk #[])
    · have hq6 := (if_pos hc7).symm.trans hq6
      refine AO.skipG 2 true 15 rfl rfl (congrArg (fun b => some (AV.fl (Value.bool b))) (decide_eq_true hc7)) 16 rfl (by decide) ?_
      refine AO.skipG 2 true 15 rfl rfl (congrArg (fun b => some (AV.fl (Value.bool b))) (decide_eq_true hc7)) 17 rfl (by decide) ?_
      refine AO.skipG 2 true 15 rfl rfl (congrArg (fun b => some (AV.fl (Value.bool b))) (decide_eq_true hc7)) 18 rfl (by decide) ?_
      refine AO.skipG 2 true 15 rfl rfl (congrArg (fun b => some (AV.fl (Value.bool b))) (decide_eq_true hc7)) 19 rfl (by decide) ?_
      refine AO.calm rfl 20 rfl (by decide) (eBool true) (Calm.pickT rfl (congrArg (fun b => some (AV.fl (Value.bool b))) (decide_eq_true hc7)) rfl) ?_
      cases hq6
      refine AO.nilE ⟨rfl, rfl⟩ ?_ ?_
      · exact ⟨rfl, rfl, trivial⟩
      · exact (Sub.refl _)
    · have hq6 := (if_neg hc7).symm.trans hq6
      refine AO.calmG 2 false 15 rfl rfl (congrArg (fun b => some (AV.fl (Value.bool b))) (decide_eq_false hc7)) 16 rfl (by decide) (eI64 t4.2) (Calm.move rfl rfl) ?_
      refine AO.calmG 2 false 15 rfl rfl (congrArg (fun b => some (AV.fl (Value.bool b))) (decide_eq_false hc7)) 17 rfl (by decide) (eStr p1) (Calm.move rfl rfl) ?_
      refine AO.calmG 2 false 15 rfl rfl (congrArg (fun b => some (AV.fl (Value.bool b))) (decide_eq_false hc7)) 18 rfl (by decide) (eI64 (p1.size : Int)) (Calm.lenStr rfl rfl Try.underlying9) ?_
      refine AO.calmG 2 false 15 rfl rfl (congrArg (fun b => some (AV.fl (Value.bool b))) (decide_eq_false hc7)) 19 rfl (by decide) (eBool (decide (t4.2 ≠ (p1.size : Int)))) (Calm.int rfl rfl rfl rfl) ?_
      refine AO.calm rfl 20 rfl (by decide) (eBool (decide (t4.2 ≠ (p1.size : Int)))) (Calm.pickF rfl (congrArg (fun b => some (AV.fl (Value.bool b))) (decide_eq_false hc7)) rfl) ?_
      cases hq6
      refine AO.nilE ⟨rfl, rfl⟩ ?_ ?_
      · exact ⟨rfl, rfl, trivial⟩
      · exact (Sub.refl _)
  · by_cases hc8 : b5 = true
    · have h := (if_pos hc8).symm.trans h
      refine AW.condT' b5 rfl hc8 ?_
      refine AW.seq ?_
      refine AW.reg ?_
      refine AO.calm rfl 4 rfl (by decide) (eI64 (-1 : Int)) (Calm.assign rfl rfl) ?_
      refine AO.nil (ρ' := [(4, (eI64 (-1 : Int)))]) (H' := []) ⟨rfl, trivial⟩ (Sub.refl _) ?_
      refine AW.ret (ρ' := [(4, (eI64 (-1 : Int)))]) (H' := []) ⟨rfl, trivial⟩ (Sub.refl _) ?_
      have hr := Option.some.inj h
      subst hr
      exact ⟨[(eI64 (-1 : Int))], ⟨rfl, rfl, trivial⟩, rfl⟩
    · have h := (if_neg hc8).symm.trans h
      refine AW.condF' b5 rfl hc8 ?_
      refine AW.skip (ρ' := [(5, (eI64 t4.1))]) (H' := []) ⟨rfl, trivial⟩ (Sub.refl _) ?_
      refine AW.seq ?_
      refine AW.reg ?_
      refine AO.calm rfl 21 rfl (by decide) (eI64 t4.1) (Calm.move rfl rfl) ?_
      refine AO.calm rfl 4 rfl (by decide) (eI64 t4.1) (Calm.assign rfl rfl) ?_
      refine AO.nil (ρ' := [(4, (eI64 t4.1))]) (H' := []) ⟨rfl, trivial⟩ (Sub.refl _) ?_
      refine AW.ret (ρ' := [(4, (eI64 t4.1))]) (H' := []) ⟨rfl, trivial⟩ (Sub.refl _) ?_
      have hr := Option.some.inj h
      subst hr
      exact ⟨[(eI64 t4.1)], ⟨rfl, rfl, trivial⟩, rfl⟩
end Go.Avl.T1
