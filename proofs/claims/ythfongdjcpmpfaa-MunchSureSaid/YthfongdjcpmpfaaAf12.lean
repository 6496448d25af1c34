/- bosket/bosketlaw12.awake; printed by avmain.py. -/
import Derived.Test.YthfongdjcpmpfaaAB
import Derived.Test.YthfongdjcpmpfaaAf52
import Derived.Test.YthfongdjcpmpfaaAf32
namespace Go.Avl.T1
open Go Go.RowKit Go.Proofs Go.Avl
set_option linter.unusedVariables false
set_option maxRecDepth 100000
set_option maxHeartbeats 4000000
attribute [local irreducible] AW AO AQ Spec SpecH Calm

def bosketlaw12_awake (k : Nat) : Option Bool :=
  (bosketlaw12_machine k).bind fun t1 =>
  (munch_All k t1 (ByteArray.mk #[97, 97, 97, 98])).bind fun t2 =>
  Option.bind (α := Bool) (if t2.2.2 = (0 : Int) then if t2.2.1 = (4 : Int) then if (t2.1.length : Int) = (2 : Int) then if 0 ≤ (0 : Int) ∧ (0 : Int) < (t2.1.length : Int) then if ((lget t2.1 (0 : Int)).f1) = (ByteArray.mk #[97]) then if 0 ≤ (1 : Int) ∧ (1 : Int) < (t2.1.length : Int) then some (decide ((lget t2.1 (1 : Int)) = (S61.mk (1 : Int) (ByteArray.mk #[97, 97, 98]) (1 : Int))))
  else none
  else some (false)
  else none
  else some (false)
  else some (false)
  else some (false)) fun b3 =>
  some (b3)
theorem bosketlaw12_awake_spec {k : Nat}  {r : Bool} (h : bosketlaw12_awake k = some r) : Spec Try.prog 12 [] (eBool r) := by
  rw [bosketlaw12_awake.eq_1] at h
  refine Spec.intro (res := [.tmp 0]) Try.func12 rfl rfl rfl (Nat.le_of_ble_eq_true rfl) ?_
  refine AW.seq ?_
  refine AW.reg ?_
  refine AO.calm rfl 0 rfl (by decide) (eBool false) (Calm.assign rfl rfl) ?_
  refine AO.nil (ρ' := []) (H' := []) trivial (Sub.refl _) ?_
  refine AW.seq ?_
  refine AW.reg ?_
  obtain ⟨t1, et1, h⟩ := of_bind h
  refine AO.callS [] (e26 t1) 5 rfl (by decide) ok52 rfl rfl rfl trivial (bosketlaw12_machine_spec et1) ?_
  obtain ⟨t2, et2, h⟩ := of_bind h
  refine AO.callS [(e26 t1), (eStr (ByteArray.mk #[97, 97, 97, 98]))] (.tup [(.fz 3 (t2.1.map e61)), (eI64 t2.2.1), (eI64 t2.2.2)]) 6 rfl (by decide) ok32 rfl rfl rfl ⟨rfl, rfl, rfl, rfl, trivial⟩ (munch_All_spec et2) ?_
  refine AO.calm rfl 4 rfl (by decide) (.tup [(.fz 3 (t2.1.map e61)), (eI64 t2.2.1), (eI64 t2.2.2)]) (Calm.move rfl rfl) ?_
  refine AO.calm rfl 7 rfl (by decide) (.fz 3 (t2.1.map e61)) (Calm.extract rfl rfl rfl) ?_
  refine AO.calm rfl 8 rfl (by decide) (eI64 t2.2.1) (Calm.extract rfl rfl rfl) ?_
  refine AO.calm rfl 9 rfl (by decide) (eI64 t2.2.2) (Calm.extract rfl rfl rfl) ?_
  refine AO.calm rfl 1 rfl (by decide) (.fz 3 (t2.1.map e61)) (Calm.assign rfl rfl) ?_
  refine AO.calm rfl 2 rfl (by decide) (eI64 t2.2.1) (Calm.assign rfl rfl) ?_
  refine AO.calm rfl 3 rfl (by decide) (eI64 t2.2.2) (Calm.assign rfl rfl) ?_
  refine AO.nil (ρ' := [(1, (.fz 3 (t2.1.map e61))), (2, (eI64 t2.2.1)), (3, (eI64 t2.2.2))]) (H' := []) ⟨rfl, rfl, rfl, trivial⟩ (Sub.refl _) ?_
  refine AW.seq ?_
  obtain ⟨b3, hq4, h⟩ := of_bind h
  refine AW.regM [(0, (eBool b3))] [] ?_ ?_
  · refine AO.calm rfl 10 rfl (by decide) (eI64 t2.2.2) (Calm.move rfl rfl) ?_
    refine AO.calm rfl 11 rfl (by decide) (eBool (decide (t2.2.2 = (0 : Int)))) (Calm.int rfl rfl rfl rfl) ?_
    refine AO.calm rfl 12 rfl (by decide) (eBool (decide (t2.2.2 = (0 : Int)))) (Calm.move rfl rfl) ?_
    by_cases hc5 : t2.2.2 = (0 : Int)
    · have hq4 := (if_pos hc5).symm.trans hq4
      refine AO.calmG 2 true 12 rfl rfl (congrArg (fun b => some (AV.fl (Value.bool b))) (decide_eq_true hc5)) 13 rfl (by decide) (eI64 t2.2.1) (Calm.move rfl rfl) ?_
      refine AO.calmG 2 true 12 rfl rfl (congrArg (fun b => some (AV.fl (Value.bool b))) (decide_eq_true hc5)) 14 rfl (by decide) (eBool (decide (t2.2.1 = (4 : Int)))) (Calm.int rfl rfl rfl rfl) ?_
      refine AO.calm rfl 15 rfl (by decide) (eBool (decide (t2.2.1 = (4 : Int)))) (Calm.pickT rfl (congrArg (fun b => some (AV.fl (Value.bool b))) (decide_eq_true hc5)) rfl) ?_
      refine AO.calm rfl 16 rfl (by decide) (eBool (decide (t2.2.1 = (4 : Int)))) (Calm.move rfl rfl) ?_
      by_cases hc6 : t2.2.1 = (4 : Int)
      · have hq4 := (if_pos hc6).symm.trans hq4
        refine AO.calmG 6 true 16 rfl rfl (congrArg (fun b => some (AV.fl (Value.bool b))) (decide_eq_true hc6)) 17 rfl (by decide) (.fz 3 (t2.1.map e61)) (Calm.move rfl rfl) ?_
        refine AO.calmG 6 true 16 rfl rfl (congrArg (fun b => some (AV.fl (Value.bool b))) (decide_eq_true hc6)) 18 rfl (by decide) (eI64 (t2.1.length : Int)) (Calm.lenL rfl rfl Try.underlying55) ?_
        refine AO.calmG 6 true 16 rfl rfl (congrArg (fun b => some (AV.fl (Value.bool b))) (decide_eq_true hc6)) 19 rfl (by decide) (eBool (decide ((t2.1.length : Int) = (2 : Int)))) (Calm.int rfl rfl rfl rfl) ?_
        refine AO.calm rfl 20 rfl (by decide) (eBool (decide ((t2.1.length : Int) = (2 : Int)))) (Calm.pickT rfl (congrArg (fun b => some (AV.fl (Value.bool b))) (decide_eq_true hc6)) rfl) ?_
        refine AO.calm rfl 21 rfl (by decide) (eBool (decide ((t2.1.length : Int) = (2 : Int)))) (Calm.move rfl rfl) ?_
        by_cases hc7 : (t2.1.length : Int) = (2 : Int)
        · have hq4 := (if_pos hc7).symm.trans hq4
          refine AO.calmG 11 true 21 rfl rfl (congrArg (fun b => some (AV.fl (Value.bool b))) (decide_eq_true hc7)) 22 rfl (by decide) (.fz 3 (t2.1.map e61)) (Calm.move rfl rfl) ?_
          obtain ⟨hg8, hq4⟩ := of_guard hq4
          refine AO.calmG 11 true 21 rfl rfl (congrArg (fun b => some (AV.fl (Value.bool b))) (decide_eq_true hc7)) 23 rfl (by decide) (.rp (e61 (lget t2.1 (0 : Int)))) (Calm.idxL (f := e61) rfl rfl rfl hg8 Try.underlying55 sz61) ?_
          refine AO.calmG 11 true 21 rfl rfl (congrArg (fun b => some (AV.fl (Value.bool b))) (decide_eq_true hc7)) 24 rfl (by decide) (.rp (eStr ((lget t2.1 (0 : Int)).f1))) (Calm.fldRp rfl rfl Try.underlying61 rfl sz9 (At.cast (At.fldS (At.fld0 At.here)) rfl)) ?_
          refine AO.calmG 11 true 21 rfl rfl (congrArg (fun b => some (AV.fl (Value.bool b))) (decide_eq_true hc7)) 25 rfl (by decide) (eStr ((lget t2.1 (0 : Int)).f1)) (Calm.loadRp rfl rfl ag9 sz9) ?_
          refine AO.calmG 11 true 21 rfl rfl (congrArg (fun b => some (AV.fl (Value.bool b))) (decide_eq_true hc7)) 26 rfl (by decide) (eBool (decide (((lget t2.1 (0 : Int)).f1) = (ByteArray.mk #[97])))) (Calm.str rfl rfl rfl rfl) ?_
          refine AO.calm rfl 27 rfl (by decide) (eBool (decide (((lget t2.1 (0 : Int)).f1) = (ByteArray.mk #[97])))) (Calm.pickT rfl (congrArg (fun b => some (AV.fl (Value.bool b))) (decide_eq_true hc7)) rfl) ?_
          refine AO.calm rfl 28 rfl (by decide) (eBool (decide (((lget t2.1 (0 : Int)).f1) = (ByteArray.mk #[97])))) (Calm.move rfl rfl) ?_
          by_cases hc9 : ((lget t2.1 (0 : Int)).f1) = (ByteArray.mk #[97])
          · have hq4 := (if_pos hc9).symm.trans hq4
            refine AO.calmG 18 true 28 rfl rfl (congrArg (fun b => some (AV.fl (Value.bool b))) (decide_eq_true hc9)) 29 rfl (by decide) (.fz 3 (t2.1.map e61)) (Calm.move rfl rfl) ?_
            obtain ⟨hg10, hq4⟩ := of_guard hq4
            refine AO.calmG 18 true 28 rfl rfl (congrArg (fun b => some (AV.fl (Value.bool b))) (decide_eq_true hc9)) 30 rfl (by decide) (.rp (e61 (lget t2.1 (1 : Int)))) (Calm.idxL (f := e61) rfl rfl rfl hg10 Try.underlying55 sz61) ?_
            refine AO.calmG 18 true 28 rfl rfl (congrArg (fun b => some (AV.fl (Value.bool b))) (decide_eq_true hc9)) 31 rfl (by decide) (e61 (lget t2.1 (1 : Int))) (Calm.loadRp rfl rfl ag61 sz61) ?_
            refine AO.calmG 18 true 28 rfl rfl (congrArg (fun b => some (AV.fl (Value.bool b))) (decide_eq_true hc9)) 32 rfl (by decide) (.st [(1, (eI64 (1 : Int))), (1, (eStr (ByteArray.mk #[97, 97, 98]))), (1, (eI64 (1 : Int)))]) (Calm.build (qs := [(0, (eI64 (1 : Int))), (1, (eStr (ByteArray.mk #[97, 97, 98]))), (2, (eI64 (1 : Int)))]) rfl ⟨rfl, rfl, rfl, rfl, rfl, rfl, rfl, rfl, rfl, trivial⟩ Try.underlying61 rfl zr61 lay61 (.cons rfl rfl rfl rfl (Put.cast (Put.fld0 Put.here) rfl) (.cons rfl rfl rfl rfl (Put.cast (Put.fldS (Put.fld0 Put.here)) rfl) (.cons rfl rfl rfl rfl (Put.cast (Put.fldS (Put.fldS (Put.fld0 Put.here))) rfl) .nil))) rfl) ?_
            refine AO.calmG 18 true 28 rfl rfl (congrArg (fun b => some (AV.fl (Value.bool b))) (decide_eq_true hc9)) 33 rfl (by decide) (eBool (decide ((lget t2.1 (1 : Int)) = (S61.mk (1 : Int) (ByteArray.mk #[97, 97, 98]) (1 : Int))))) (Calm.eqS rfl rfl rfl eg61 (eqk61 (lget t2.1 (1 : Int)) (S61.mk (1 : Int) (ByteArray.mk #[97, 97, 98]) (1 : Int))) (by decide)) ?_
            refine AO.calm rfl 34 rfl (by decide) (eBool (decide ((lget t2.1 (1 : Int)) = (S61.mk (1 : Int) (ByteArray.mk #[97, 97, 98]) (1 : Int))))) (Calm.pickT rfl (congrArg (fun b => some (AV.fl (Value.bool b))) (decide_eq_true hc9)) rfl) ?_
            refine AO.calm rfl 0 rfl (by decide) (eBool (decide ((lget t2.1 (1 : Int)) = (S61.mk (1 : Int) (ByteArray.mk #[97, 97, 98]) (1 : Int))))) (Calm.assign rfl rfl) ?_
            cases hq4
            refine AO.nilE ⟨rfl, rfl⟩ ?_ ?_
            · exact ⟨rfl, trivial⟩
            · exact (Sub.refl _)
          · have hq4 := (if_neg hc9).symm.trans hq4
            refine AO.skipG 18 false 28 rfl rfl (congrArg (fun b => some (AV.fl (Value.bool b))) (decide_eq_false hc9)) 29 rfl (by decide) ?_
            refine AO.skipG 18 false 28 rfl rfl (congrArg (fun b => some (AV.fl (Value.bool b))) (decide_eq_false hc9)) 30 rfl (by decide) ?_
            refine AO.skipG 18 false 28 rfl rfl (congrArg (fun b => some (AV.fl (Value.bool b))) (decide_eq_false hc9)) 31 rfl (by decide) ?_
            refine AO.skipG 18 false 28 rfl rfl (congrArg (fun b => some (AV.fl (Value.bool b))) (decide_eq_false hc9)) 32 rfl (by decide) ?_
            refine AO.skipG 18 false 28 rfl rfl (congrArg (fun b => some (AV.fl (Value.bool b))) (decide_eq_false hc9)) 33 rfl (by decide) ?_
            refine AO.calm rfl 34 rfl (by decide) (eBool false) (Calm.pickF rfl (congrArg (fun b => some (AV.fl (Value.bool b))) (decide_eq_false hc9)) rfl) ?_
            refine AO.calm rfl 0 rfl (by decide) (eBool false) (Calm.assign rfl rfl) ?_
            cases hq4
            refine AO.nilE ⟨rfl, rfl⟩ ?_ ?_
            · exact ⟨rfl, trivial⟩
            · exact (Sub.refl _)
        · have hq4 := (if_neg hc7).symm.trans hq4
          refine AO.skipG 11 false 21 rfl rfl (congrArg (fun b => some (AV.fl (Value.bool b))) (decide_eq_false hc7)) 22 rfl (by decide) ?_
          refine AO.skipG 11 false 21 rfl rfl (congrArg (fun b => some (AV.fl (Value.bool b))) (decide_eq_false hc7)) 23 rfl (by decide) ?_
          refine AO.skipG 11 false 21 rfl rfl (congrArg (fun b => some (AV.fl (Value.bool b))) (decide_eq_false hc7)) 24 rfl (by decide) ?_
          refine AO.skipG 11 false 21 rfl rfl (congrArg (fun b => some (AV.fl (Value.bool b))) (decide_eq_false hc7)) 25 rfl (by decide) ?_
          refine AO.skipG 11 false 21 rfl rfl (congrArg (fun b => some (AV.fl (Value.bool b))) (decide_eq_false hc7)) 26 rfl (by decide) ?_
          refine AO.calm rfl 27 rfl (by decide) (eBool false) (Calm.pickF rfl (congrArg (fun b => some (AV.fl (Value.bool b))) (decide_eq_false hc7)) rfl) ?_
          refine AO.calm rfl 28 rfl (by decide) (eBool false) (Calm.move rfl rfl) ?_
          refine AO.skipG 18 false 28 rfl rfl rfl 29 rfl (by decide) ?_
          refine AO.skipG 18 false 28 rfl rfl rfl 30 rfl (by decide) ?_
          refine AO.skipG 18 false 28 rfl rfl rfl 31 rfl (by decide) ?_
          refine AO.skipG 18 false 28 rfl rfl rfl 32 rfl (by decide) ?_
          refine AO.skipG 18 false 28 rfl rfl rfl 33 rfl (by decide) ?_
          refine AO.calm rfl 34 rfl (by decide) (eBool false) (Calm.pickF rfl rfl rfl) ?_
          refine AO.calm rfl 0 rfl (by decide) (eBool false) (Calm.assign rfl rfl) ?_
          cases hq4
          refine AO.nilE ⟨rfl, rfl⟩ ?_ ?_
          · exact ⟨rfl, trivial⟩
          · exact (Sub.refl _)
      · have hq4 := (if_neg hc6).symm.trans hq4
        refine AO.skipG 6 false 16 rfl rfl (congrArg (fun b => some (AV.fl (Value.bool b))) (decide_eq_false hc6)) 17 rfl (by decide) ?_
        refine AO.skipG 6 false 16 rfl rfl (congrArg (fun b => some (AV.fl (Value.bool b))) (decide_eq_false hc6)) 18 rfl (by decide) ?_
        refine AO.skipG 6 false 16 rfl rfl (congrArg (fun b => some (AV.fl (Value.bool b))) (decide_eq_false hc6)) 19 rfl (by decide) ?_
        refine AO.calm rfl 20 rfl (by decide) (eBool false) (Calm.pickF rfl (congrArg (fun b => some (AV.fl (Value.bool b))) (decide_eq_false hc6)) rfl) ?_
        refine AO.calm rfl 21 rfl (by decide) (eBool false) (Calm.move rfl rfl) ?_
        refine AO.skipG 11 false 21 rfl rfl rfl 22 rfl (by decide) ?_
        refine AO.skipG 11 false 21 rfl rfl rfl 23 rfl (by decide) ?_
        refine AO.skipG 11 false 21 rfl rfl rfl 24 rfl (by decide) ?_
        refine AO.skipG 11 false 21 rfl rfl rfl 25 rfl (by decide) ?_
        refine AO.skipG 11 false 21 rfl rfl rfl 26 rfl (by decide) ?_
        refine AO.calm rfl 27 rfl (by decide) (eBool false) (Calm.pickF rfl rfl rfl) ?_
        refine AO.calm rfl 28 rfl (by decide) (eBool false) (Calm.move rfl rfl) ?_
        refine AO.skipG 18 false 28 rfl rfl rfl 29 rfl (by decide) ?_
        refine AO.skipG 18 false 28 rfl rfl rfl 30 rfl (by decide) ?_
        refine AO.skipG 18 false 28 rfl rfl rfl 31 rfl (by decide) ?_
        refine AO.skipG 18 false 28 rfl rfl rfl 32 rfl (by decide) ?_
        refine AO.skipG 18 false 28 rfl rfl rfl 33 rfl (by decide) ?_
        refine AO.calm rfl 34 rfl (by decide) (eBool false) (Calm.pickF rfl rfl rfl) ?_
        refine AO.calm rfl 0 rfl (by decide) (eBool false) (Calm.assign rfl rfl) ?_
        cases hq4
        refine AO.nilE ⟨rfl, rfl⟩ ?_ ?_
        · exact ⟨rfl, trivial⟩
        · exact (Sub.refl _)
    · have hq4 := (if_neg hc5).symm.trans hq4
      refine AO.skipG 2 false 12 rfl rfl (congrArg (fun b => some (AV.fl (Value.bool b))) (decide_eq_false hc5)) 13 rfl (by decide) ?_
      refine AO.skipG 2 false 12 rfl rfl (congrArg (fun b => some (AV.fl (Value.bool b))) (decide_eq_false hc5)) 14 rfl (by decide) ?_
      refine AO.calm rfl 15 rfl (by decide) (eBool false) (Calm.pickF rfl (congrArg (fun b => some (AV.fl (Value.bool b))) (decide_eq_false hc5)) rfl) ?_
      refine AO.calm rfl 16 rfl (by decide) (eBool false) (Calm.move rfl rfl) ?_
      refine AO.skipG 6 false 16 rfl rfl rfl 17 rfl (by decide) ?_
      refine AO.skipG 6 false 16 rfl rfl rfl 18 rfl (by decide) ?_
      refine AO.skipG 6 false 16 rfl rfl rfl 19 rfl (by decide) ?_
      refine AO.calm rfl 20 rfl (by decide) (eBool false) (Calm.pickF rfl rfl rfl) ?_
      refine AO.calm rfl 21 rfl (by decide) (eBool false) (Calm.move rfl rfl) ?_
      refine AO.skipG 11 false 21 rfl rfl rfl 22 rfl (by decide) ?_
      refine AO.skipG 11 false 21 rfl rfl rfl 23 rfl (by decide) ?_
      refine AO.skipG 11 false 21 rfl rfl rfl 24 rfl (by decide) ?_
      refine AO.skipG 11 false 21 rfl rfl rfl 25 rfl (by decide) ?_
      refine AO.skipG 11 false 21 rfl rfl rfl 26 rfl (by decide) ?_
      refine AO.calm rfl 27 rfl (by decide) (eBool false) (Calm.pickF rfl rfl rfl) ?_
      refine AO.calm rfl 28 rfl (by decide) (eBool false) (Calm.move rfl rfl) ?_
      refine AO.skipG 18 false 28 rfl rfl rfl 29 rfl (by decide) ?_
      refine AO.skipG 18 false 28 rfl rfl rfl 30 rfl (by decide) ?_
      refine AO.skipG 18 false 28 rfl rfl rfl 31 rfl (by decide) ?_
      refine AO.skipG 18 false 28 rfl rfl rfl 32 rfl (by decide) ?_
      refine AO.skipG 18 false 28 rfl rfl rfl 33 rfl (by decide) ?_
      refine AO.calm rfl 34 rfl (by decide) (eBool false) (Calm.pickF rfl rfl rfl) ?_
      refine AO.calm rfl 0 rfl (by decide) (eBool false) (Calm.assign rfl rfl) ?_
      cases hq4
      refine AO.nilE ⟨rfl, rfl⟩ ?_ ?_
      · exact ⟨rfl, trivial⟩
      · exact (Sub.refl _)
  · refine AW.ret (ρ' := [(0, (eBool b3))]) (H' := []) ⟨rfl, trivial⟩ (Sub.refl _) ?_
    have hr := Option.some.inj h
    subst hr
    exact ⟨[(eBool b3)], ⟨rfl, rfl, trivial⟩, rfl⟩
end Go.Avl.T1
