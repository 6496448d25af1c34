/- bosket/bosketlaw12.MunchSame; printed by avmain.py. -/
import Derived.Test.YthfongdjcpmpfaaAB
import Derived.Test.YthfongdjcpmpfaaAf12
import Derived.Test.YthfongdjcpmpfaaAf35
import Derived.Test.YthfongdjcpmpfaaAf36
import Derived.Test.YthfongdjcpmpfaaAf34
namespace Go.Avl.T1
open Go Go.RowKit Go.Proofs Go.Avl
set_option linter.unusedVariables false
set_option maxRecDepth 100000
set_option maxHeartbeats 4000000
attribute [local irreducible] AW AO AQ Spec SpecH Calm

def bosketlaw12_MunchSame_c0 (k : Nat) (p0 : (List S61)) (p1 : (List S61)) (x9 : ByteArray) : Option Bool :=
  Option.bind (α := Bool) ((munch_Same k p0 p1).bind fun t12 =>
  (bosketref12_Same k p0 p1).bind fun t13 =>
  if (t12 == t13) = true then (munch_Same k p0 p0).bind fun t15 =>
  if t15 = true then (munch_Text k p0).bind fun t17 =>
  some (decide (t17 = x9))
  else some (false)
  else some (false)) fun b10 =>
  some (b10)
def bosketlaw12_MunchSame_l1 (k : Nat) (p0 : (List S61)) (p1 : (List S61)) : Nat → ByteArray → Int → Option Bool
  | 0, _, _ => none
  | j + 1, x18, x19 =>
    if x19 < (p0.length : Int) then if 0 ≤ x19 ∧ x19 < (p0.length : Int) then if (100 : Int) < (((lget p0 x19).f1).size : Int) then some (true)
    else if 0 ≤ x19 ∧ x19 < (p0.length : Int) then if x18.size + ((lget p0 x19).f1).size ≤ 9223372036854775807 then (bosketlaw12_MunchSame_l1 k p0 p1 j) (x18 ++ ((lget p0 x19).f1)) (w64 (x19 + (1 : Int)))
    else none
    else none
    else none
    else bosketlaw12_MunchSame_c0 k p0 p1 x18
def bosketlaw12_MunchSame (k : Nat) (p0 : (List S61)) (p1 : (List S61)) : Option Bool :=
  (bosketlaw12_awake k).bind fun t3 =>
  if (!t3) = true then some (false)
  else Option.bind (α := Bool) (if (50 : Int) < (p0.length : Int) then some (true)
  else some (decide ((50 : Int) < (p1.length : Int)))) fun b5 =>
  if b5 = true then some (true)
  else bosketlaw12_MunchSame_l1 k p0 p1 k (ByteArray.mk #[]) (0 : Int)
theorem bosketlaw12_MunchSame_spec {k : Nat} {p0 : (List S61)} {p1 : (List S61)} {r : Bool} (h : bosketlaw12_MunchSame k p0 p1 = some r) : Spec Try.prog 8 [(.fz 3 (p0.map e61)), (.fz 3 (p1.map e61))] (eBool r) := by
  rw [bosketlaw12_MunchSame.eq_1] at h
  refine Spec.intro (res := [.tmp 4]) Try.func8 rfl rfl rfl (Nat.le_of_ble_eq_true rfl) ?_
  refine AW.seq ?_
  refine AW.reg ?_
  refine AO.calm rfl 4 rfl (by decide) (eBool false) (Calm.assign rfl rfl) ?_
  refine AO.nil (ρ' := [(0, (.fz 3 (p0.map e61))), (1, (.fz 3 (p1.map e61)))]) (H' := []) ⟨rfl, rfl, trivial⟩ (Sub.refl _) ?_
  refine AW.seq ?_
  refine AW.seq ?_
  refine AW.reg ?_
  obtain ⟨t3, et3, h⟩ := of_bind h
  refine AO.callS [] (eBool t3) 7 rfl (by decide) ok12 rfl rfl rfl trivial (bosketlaw12_awake_spec et3) ?_
  refine AO.calm rfl 8 rfl (by decide) (eBool (!t3)) (Calm.not rfl rfl) ?_
  refine AO.nil (ρ' := [(0, (.fz 3 (p0.map e61))), (1, (.fz 3 (p1.map e61))), (8, (eBool (!t3)))]) (H' := []) ⟨rfl, rfl, rfl, trivial⟩ (Sub.refl _) ?_
  by_cases hc4 : (!t3) = true
  · have h := (if_pos hc4).symm.trans h
    refine AW.condT' (!t3) rfl hc4 ?_
    refine AW.seq ?_
    refine AW.reg ?_
    refine AO.calm rfl 4 rfl (by decide) (eBool false) (Calm.assign rfl rfl) ?_
    refine AO.nil (ρ' := [(4, (eBool false))]) (H' := []) ⟨rfl, trivial⟩ (Sub.refl _) ?_
    refine AW.ret (ρ' := [(4, (eBool false))]) (H' := []) ⟨rfl, trivial⟩ (Sub.refl _) ?_
    have hr := Option.some.inj h
    subst hr
    exact ⟨[(eBool false)], ⟨rfl, rfl, trivial⟩, rfl⟩
  · have h := (if_neg hc4).symm.trans h
    refine AW.condF' (!t3) rfl hc4 ?_
    refine AW.skip (ρ' := [(0, (.fz 3 (p0.map e61))), (1, (.fz 3 (p1.map e61)))]) (H' := []) ⟨rfl, rfl, trivial⟩ (Sub.refl _) ?_
    refine AW.seq ?_
    refine AW.seq ?_
    obtain ⟨b5, hq6, h⟩ := of_bind h
    refine AW.regM [(0, (.fz 3 (p0.map e61))), (1, (.fz 3 (p1.map e61))), (16, (eBool b5))] [] ?_ ?_
    · refine AO.calm rfl 9 rfl (by decide) (.fz 3 (p0.map e61)) (Calm.move rfl rfl) ?_
      refine AO.calm rfl 10 rfl (by decide) (eI64 (p0.length : Int)) (Calm.lenL rfl rfl Try.underlying55) ?_
      refine AO.calm rfl 11 rfl (by decide) (eBool (decide ((50 : Int) < (p0.length : Int)))) (Calm.int rfl rfl rfl rfl) ?_
      refine AO.calm rfl 12 rfl (by decide) (eBool (decide ((50 : Int) < (p0.length : Int)))) (Calm.move rfl rfl) ?_
      by_cases hc7 : (50 : Int) < (p0.length : Int)
      · have hq6 := (if_pos hc7).symm.trans hq6
        refine AO.skipG 3 true 12 rfl rfl (congrArg (fun b => some (AV.fl (Value.bool b))) (decide_eq_true hc7)) 13 rfl (by decide) ?_
        refine AO.skipG 3 true 12 rfl rfl (congrArg (fun b => some (AV.fl (Value.bool b))) (decide_eq_true hc7)) 14 rfl (by decide) ?_
        refine AO.skipG 3 true 12 rfl rfl (congrArg (fun b => some (AV.fl (Value.bool b))) (decide_eq_true hc7)) 15 rfl (by decide) ?_
        refine AO.calm rfl 16 rfl (by decide) (eBool true) (Calm.pickT rfl (congrArg (fun b => some (AV.fl (Value.bool b))) (decide_eq_true hc7)) rfl) ?_
        cases hq6
        refine AO.nilE ⟨rfl, rfl⟩ ?_ ?_
        · exact ⟨rfl, rfl, rfl, trivial⟩
        · exact (Sub.refl _)
      · have hq6 := (if_neg hc7).symm.trans hq6
        refine AO.calmG 3 false 12 rfl rfl (congrArg (fun b => some (AV.fl (Value.bool b))) (decide_eq_false hc7)) 13 rfl (by decide) (.fz 3 (p1.map e61)) (Calm.move rfl rfl) ?_
        refine AO.calmG 3 false 12 rfl rfl (congrArg (fun b => some (AV.fl (Value.bool b))) (decide_eq_false hc7)) 14 rfl (by decide) (eI64 (p1.length : Int)) (Calm.lenL rfl rfl Try.underlying55) ?_
        refine AO.calmG 3 false 12 rfl rfl (congrArg (fun b => some (AV.fl (Value.bool b))) (decide_eq_false hc7)) 15 rfl (by decide) (eBool (decide ((50 : Int) < (p1.length : Int)))) (Calm.int rfl rfl rfl rfl) ?_
        refine AO.calm rfl 16 rfl (by decide) (eBool (decide ((50 : Int) < (p1.length : Int)))) (Calm.pickF rfl (congrArg (fun b => some (AV.fl (Value.bool b))) (decide_eq_false hc7)) rfl) ?_
        cases hq6
        refine AO.nilE ⟨rfl, rfl⟩ ?_ ?_
        · exact ⟨rfl, rfl, rfl, trivial⟩
        · exact (Sub.refl _)
    · by_cases hc8 : b5 = true
      · have h := (if_pos hc8).symm.trans h
        refine AW.condT' b5 rfl hc8 ?_
        refine AW.seq ?_
        refine AW.reg ?_
        refine AO.calm rfl 4 rfl (by decide) (eBool true) (Calm.assign rfl rfl) ?_
        refine AO.nil (ρ' := [(4, (eBool true))]) (H' := []) ⟨rfl, trivial⟩ (Sub.refl _) ?_
        refine AW.ret (ρ' := [(4, (eBool true))]) (H' := []) ⟨rfl, trivial⟩ (Sub.refl _) ?_
        have hr := Option.some.inj h
        subst hr
        exact ⟨[(eBool true)], ⟨rfl, rfl, trivial⟩, rfl⟩
      · have h := (if_neg hc8).symm.trans h
        refine AW.condF' b5 rfl hc8 ?_
        refine AW.skip (ρ' := [(0, (.fz 3 (p0.map e61))), (1, (.fz 3 (p1.map e61)))]) (H' := []) ⟨rfl, rfl, trivial⟩ (Sub.refl _) ?_
        refine AW.seq ?_
        refine AW.reg ?_
        refine AO.calm rfl 5 rfl (by decide) (eStr (ByteArray.mk #[])) (Calm.assign rfl rfl) ?_
        refine AO.nil (ρ' := [(0, (.fz 3 (p0.map e61))), (1, (.fz 3 (p1.map e61))), (5, (eStr (ByteArray.mk #[])))]) (H' := []) ⟨rfl, rfl, rfl, trivial⟩ (Sub.refl _) ?_
        refine AW.seq_mid (fun ρ H => ∃ (x9 : ByteArray), ρ = [(0, (.fz 3 (p0.map e61))), (1, (.fz 3 (p1.map e61))), (5, (eStr x9))] ∧ H = [] ∧ bosketlaw12_MunchSame_c0 k p0 p1 x9 = some r) ?_ ?_
        · refine AW.seq ?_
          refine AW.reg ?_
          refine AO.calm rfl 6 rfl (by decide) (eI64 (0 : Int)) (Calm.assign rfl rfl) ?_
          refine AO.nil (ρ' := [(0, (.fz 3 (p0.map e61))), (1, (.fz 3 (p1.map e61))), (5, (eStr (ByteArray.mk #[]))), (6, (eI64 (0 : Int)))]) (H' := []) ⟨rfl, rfl, rfl, rfl, trivial⟩ (Sub.refl _) ?_
          refine AW.block ?_
          refine AW.weak (ρ' := [(0, (.fz 3 (p0.map e61))), (1, (.fz 3 (p1.map e61))), (5, (eStr (ByteArray.mk #[]))), (6, (eI64 (0 : Int)))]) (H' := []) ⟨rfl, rfl, rfl, rfl, trivial⟩ (Sub.refl _) ?_
          refine AW.loop (fun kq ρ H => ∃ (x18 : ByteArray) (x19 : Int), ρ = [(0, (.fz 3 (p0.map e61))), (1, (.fz 3 (p1.map e61))), (5, (eStr x18)), (6, (eI64 x19))] ∧ H = [] ∧ bosketlaw12_MunchSame_l1 k p0 p1 kq x18 x19 = some r) k ⟨(ByteArray.mk #[]), (0 : Int), rfl, rfl, h⟩ ?_
          rintro kq21 _ _ ⟨x18, x19, rfl, rfl, h⟩
          cases kq21 with
          | zero => rw [bosketlaw12_MunchSame_l1.eq_1] at h; cases h
          | succ kq21 =>
          rw [bosketlaw12_MunchSame_l1.eq_2] at h
          generalize hrec20 : bosketlaw12_MunchSame_l1 k p0 p1 kq21 = rec20 at h
          refine AW.seq ?_
          refine AW.seq ?_
          refine AW.reg ?_
          refine AO.calm rfl 17 rfl (by decide) (eI64 x19) (Calm.move rfl rfl) ?_
          refine AO.calm rfl 18 rfl (by decide) (.fz 3 (p0.map e61)) (Calm.move rfl rfl) ?_
          refine AO.calm rfl 19 rfl (by decide) (eI64 (p0.length : Int)) (Calm.lenL rfl rfl Try.underlying55) ?_
          refine AO.calm rfl 20 rfl (by decide) (eBool (decide (x19 < (p0.length : Int)))) (Calm.int rfl rfl rfl rfl) ?_
          refine AO.nil (ρ' := [(0, (.fz 3 (p0.map e61))), (1, (.fz 3 (p1.map e61))), (5, (eStr x18)), (6, (eI64 x19)), (20, (eBool (decide (x19 < (p0.length : Int)))))]) (H' := []) ⟨rfl, rfl, rfl, rfl, rfl, trivial⟩ (Sub.refl _) ?_
          by_cases hc22 : x19 < (p0.length : Int)
          · have h := (if_pos hc22).symm.trans h
            refine AW.condP (x19 < (p0.length : Int)) rfl hc22 ?_
            refine AW.skip (ρ' := [(0, (.fz 3 (p0.map e61))), (1, (.fz 3 (p1.map e61))), (5, (eStr x18)), (6, (eI64 x19))]) (H' := []) ⟨rfl, rfl, rfl, rfl, trivial⟩ (Sub.refl _) ?_
            refine AW.seq ?_
            refine AW.block ?_
            refine AW.seq ?_
            refine AW.seq ?_
            refine AW.reg ?_
            refine AO.calm rfl 23 rfl (by decide) (.fz 3 (p0.map e61)) (Calm.move rfl rfl) ?_
            refine AO.calm rfl 24 rfl (by decide) (eI64 x19) (Calm.move rfl rfl) ?_
            obtain ⟨hg23, h⟩ := of_guard h
            refine AO.calm rfl 25 rfl (by decide) (.rp (e61 (lget p0 x19))) (Calm.idxL (f := e61) rfl rfl rfl hg23 Try.underlying55 sz61) ?_
            refine AO.calm rfl 26 rfl (by decide) (.rp (eStr ((lget p0 x19).f1))) (Calm.fldRp rfl rfl Try.underlying61 rfl sz9 (At.cast (At.fldS (At.fld0 At.here)) rfl)) ?_
            refine AO.calm rfl 27 rfl (by decide) (eStr ((lget p0 x19).f1)) (Calm.loadRp rfl rfl ag9 sz9) ?_
            refine AO.calm rfl 28 rfl (by decide) (eI64 (((lget p0 x19).f1).size : Int)) (Calm.lenStr rfl rfl Try.underlying9) ?_
            refine AO.calm rfl 29 rfl (by decide) (eBool (decide ((100 : Int) < (((lget p0 x19).f1).size : Int)))) (Calm.int rfl rfl rfl rfl) ?_
            refine AO.nil (ρ' := [(0, (.fz 3 (p0.map e61))), (1, (.fz 3 (p1.map e61))), (5, (eStr x18)), (6, (eI64 x19)), (29, (eBool (decide ((100 : Int) < (((lget p0 x19).f1).size : Int)))))]) (H' := []) ⟨rfl, rfl, rfl, rfl, rfl, trivial⟩ (Sub.refl _) ?_
            by_cases hc24 : (100 : Int) < (((lget p0 x19).f1).size : Int)
            · have h := (if_pos hc24).symm.trans h
              refine AW.condP ((100 : Int) < (((lget p0 x19).f1).size : Int)) rfl hc24 ?_
              refine AW.seq ?_
              refine AW.reg ?_
              refine AO.calm rfl 4 rfl (by decide) (eBool true) (Calm.assign rfl rfl) ?_
              refine AO.nil (ρ' := [(4, (eBool true))]) (H' := []) ⟨rfl, trivial⟩ (Sub.refl _) ?_
              refine AW.ret (ρ' := [(4, (eBool true))]) (H' := []) ⟨rfl, trivial⟩ (Sub.refl _) ?_
              have hr := Option.some.inj h
              subst hr
              exact ⟨[(eBool true)], ⟨rfl, rfl, trivial⟩, rfl⟩
            · have h := (if_neg hc24).symm.trans h
              refine AW.condN ((100 : Int) < (((lget p0 x19).f1).size : Int)) rfl hc24 ?_
              refine AW.skip (ρ' := [(0, (.fz 3 (p0.map e61))), (1, (.fz 3 (p1.map e61))), (5, (eStr x18)), (6, (eI64 x19))]) (H' := []) ⟨rfl, rfl, rfl, rfl, trivial⟩ (Sub.refl _) ?_
              refine AW.reg ?_
              refine AO.calm rfl 30 rfl (by decide) (eStr x18) (Calm.move rfl rfl) ?_
              refine AO.calm rfl 31 rfl (by decide) (.fz 3 (p0.map e61)) (Calm.move rfl rfl) ?_
              refine AO.calm rfl 32 rfl (by decide) (eI64 x19) (Calm.move rfl rfl) ?_
              obtain ⟨hg25, h⟩ := of_guard h
              refine AO.calm rfl 33 rfl (by decide) (.rp (e61 (lget p0 x19))) (Calm.idxL (f := e61) rfl rfl rfl hg25 Try.underlying55 sz61) ?_
              refine AO.calm rfl 34 rfl (by decide) (.rp (eStr ((lget p0 x19).f1))) (Calm.fldRp rfl rfl Try.underlying61 rfl sz9 (At.cast (At.fldS (At.fld0 At.here)) rfl)) ?_
              refine AO.calm rfl 35 rfl (by decide) (eStr ((lget p0 x19).f1)) (Calm.loadRp rfl rfl ag9 sz9) ?_
              obtain ⟨hg26, h⟩ := of_guard h
              refine AO.calm rfl 36 rfl (by decide) (eStr (x18 ++ ((lget p0 x19).f1))) (Calm.cat rfl rfl rfl hg26) ?_
              refine AO.calm rfl 5 rfl (by decide) (eStr (x18 ++ ((lget p0 x19).f1))) (Calm.assign rfl rfl) ?_
              refine AO.nil (ρ' := [(0, (.fz 3 (p0.map e61))), (1, (.fz 3 (p1.map e61))), (5, (eStr (x18 ++ ((lget p0 x19).f1)))), (6, (eI64 x19))]) (H' := []) ⟨rfl, rfl, rfl, rfl, trivial⟩ (Sub.refl _) ?_
              refine AW.reg ?_
              refine AO.calm rfl 21 rfl (by decide) (eI64 x19) (Calm.move rfl rfl) ?_
              refine AO.calm rfl 22 rfl (by decide) (eI64 (w64 (x19 + (1 : Int)))) (Calm.int rfl rfl rfl rfl) ?_
              refine AO.calm rfl 6 rfl (by decide) (eI64 (w64 (x19 + (1 : Int)))) (Calm.assign rfl rfl) ?_
              refine AO.nil (ρ' := [(0, (.fz 3 (p0.map e61))), (1, (.fz 3 (p1.map e61))), (5, (eStr (x18 ++ ((lget p0 x19).f1)))), (6, (eI64 (w64 (x19 + (1 : Int)))))]) (H' := []) ⟨rfl, rfl, rfl, rfl, trivial⟩ (Sub.refl _) ?_
              exact ⟨kq21, Nat.lt_succ_self _, (x18 ++ ((lget p0 x19).f1)), (w64 (x19 + (1 : Int))), rfl, rfl, by rw [hrec20]; exact h⟩
          · have h := (if_neg hc22).symm.trans h
            refine AW.condN (x19 < (p0.length : Int)) rfl hc22 ?_
            refine AW.exit (ρ' := [(0, (.fz 3 (p0.map e61))), (1, (.fz 3 (p1.map e61))), (5, (eStr x18))]) (H' := []) ⟨rfl, rfl, rfl, trivial⟩ (Sub.refl _) ?_
            exact ⟨x18, rfl, rfl, h⟩
        · rintro _ _ ⟨x9, rfl, rfl, h⟩
          rw [bosketlaw12_MunchSame_c0.eq_1] at h
          refine AW.seq ?_
          obtain ⟨b10, hq11, h⟩ := of_bind h
          refine AW.regM [(4, (eBool b10))] [] ?_ ?_
          · refine AO.calm rfl 37 rfl (by decide) (.fz 3 (p0.map e61)) (Calm.move rfl rfl) ?_
            refine AO.calm rfl 38 rfl (by decide) (.fz 3 (p1.map e61)) (Calm.move rfl rfl) ?_
            obtain ⟨t12, et12, hq11⟩ := of_bind hq11
            refine AO.callS [(.fz 3 (p0.map e61)), (.fz 3 (p1.map e61))] (eBool t12) 39 rfl (by decide) ok35 rfl rfl rfl ⟨rfl, rfl, rfl, rfl, trivial⟩ (munch_Same_spec et12) ?_
            refine AO.calm rfl 40 rfl (by decide) (.fz 3 (p0.map e61)) (Calm.move rfl rfl) ?_
            refine AO.calm rfl 41 rfl (by decide) (.fz 3 (p1.map e61)) (Calm.move rfl rfl) ?_
            obtain ⟨t13, et13, hq11⟩ := of_bind hq11
            refine AO.callS [(.fz 3 (p0.map e61)), (.fz 3 (p1.map e61))] (eBool t13) 42 rfl (by decide) ok36 rfl rfl rfl ⟨rfl, rfl, rfl, rfl, trivial⟩ (bosketref12_Same_spec et13) ?_
            refine AO.calm rfl 43 rfl (by decide) (eBool (t12 == t13)) (Calm.boolEq rfl rfl rfl Try.underlying4) ?_
            refine AO.calm rfl 44 rfl (by decide) (eBool (t12 == t13)) (Calm.move rfl rfl) ?_
            by_cases hc14 : (t12 == t13) = true
            · have hq11 := (if_pos hc14).symm.trans hq11
              refine AO.calmG 7 true 44 rfl rfl (congrArg (fun b => some (AV.fl (Value.bool b))) hc14) 45 rfl (by decide) (.fz 3 (p0.map e61)) (Calm.move rfl rfl) ?_
              refine AO.calmG 7 true 44 rfl rfl (congrArg (fun b => some (AV.fl (Value.bool b))) hc14) 46 rfl (by decide) (.fz 3 (p0.map e61)) (Calm.move rfl rfl) ?_
              obtain ⟨t15, et15, hq11⟩ := of_bind hq11
              refine AO.callG 7 true 44 [(.fz 3 (p0.map e61)), (.fz 3 (p0.map e61))] (eBool t15) 47 rfl (by decide) ok35 rfl rfl (congrArg (fun b => some (AV.fl (Value.bool b))) hc14) rfl rfl ⟨rfl, rfl, rfl, rfl, trivial⟩ (munch_Same_spec et15) ?_
              refine AO.calm rfl 48 rfl (by decide) (eBool t15) (Calm.pickT rfl (congrArg (fun b => some (AV.fl (Value.bool b))) hc14) rfl) ?_
              refine AO.calm rfl 49 rfl (by decide) (eBool t15) (Calm.move rfl rfl) ?_
              by_cases hc16 : t15 = true
              · have hq11 := (if_pos hc16).symm.trans hq11
                refine AO.calmG 12 true 49 rfl rfl (congrArg (fun b => some (AV.fl (Value.bool b))) hc16) 50 rfl (by decide) (.fz 3 (p0.map e61)) (Calm.move rfl rfl) ?_
                obtain ⟨t17, et17, hq11⟩ := of_bind hq11
                refine AO.callG 12 true 49 [(.fz 3 (p0.map e61))] (eStr t17) 51 rfl (by decide) ok34 rfl rfl (congrArg (fun b => some (AV.fl (Value.bool b))) hc16) rfl rfl ⟨rfl, rfl, trivial⟩ (munch_Text_spec et17) ?_
                refine AO.calmG 12 true 49 rfl rfl (congrArg (fun b => some (AV.fl (Value.bool b))) hc16) 52 rfl (by decide) (eStr x9) (Calm.move rfl rfl) ?_
                refine AO.calmG 12 true 49 rfl rfl (congrArg (fun b => some (AV.fl (Value.bool b))) hc16) 53 rfl (by decide) (eBool (decide (t17 = x9))) (Calm.str rfl rfl rfl rfl) ?_
                refine AO.calm rfl 54 rfl (by decide) (eBool (decide (t17 = x9))) (Calm.pickT rfl (congrArg (fun b => some (AV.fl (Value.bool b))) hc16) rfl) ?_
                refine AO.calm rfl 4 rfl (by decide) (eBool (decide (t17 = x9))) (Calm.assign rfl rfl) ?_
                cases hq11
                refine AO.nilE ⟨rfl, rfl⟩ ?_ ?_
                · exact ⟨rfl, trivial⟩
                · exact (Sub.refl _)
              · have hq11 := (if_neg hc16).symm.trans hq11
                refine AO.skipG 12 false 49 rfl rfl (congrArg (fun b => some (AV.fl (Value.bool b))) (eq_false_of_ne_true hc16)) 50 rfl (by decide) ?_
                refine AO.skipG 12 false 49 rfl rfl (congrArg (fun b => some (AV.fl (Value.bool b))) (eq_false_of_ne_true hc16)) 51 rfl (by decide) ?_
                refine AO.skipG 12 false 49 rfl rfl (congrArg (fun b => some (AV.fl (Value.bool b))) (eq_false_of_ne_true hc16)) 52 rfl (by decide) ?_
                refine AO.skipG 12 false 49 rfl rfl (congrArg (fun b => some (AV.fl (Value.bool b))) (eq_false_of_ne_true hc16)) 53 rfl (by decide) ?_
                refine AO.calm rfl 54 rfl (by decide) (eBool false) (Calm.pickF rfl (congrArg (fun b => some (AV.fl (Value.bool b))) (eq_false_of_ne_true hc16)) rfl) ?_
                refine AO.calm rfl 4 rfl (by decide) (eBool false) (Calm.assign rfl rfl) ?_
                cases hq11
                refine AO.nilE ⟨rfl, rfl⟩ ?_ ?_
                · exact ⟨rfl, trivial⟩
                · exact (Sub.refl _)
            · have hq11 := (if_neg hc14).symm.trans hq11
              refine AO.skipG 7 false 44 rfl rfl (congrArg (fun b => some (AV.fl (Value.bool b))) (eq_false_of_ne_true hc14)) 45 rfl (by decide) ?_
              refine AO.skipG 7 false 44 rfl rfl (congrArg (fun b => some (AV.fl (Value.bool b))) (eq_false_of_ne_true hc14)) 46 rfl (by decide) ?_
              refine AO.skipG 7 false 44 rfl rfl (congrArg (fun b => some (AV.fl (Value.bool b))) (eq_false_of_ne_true hc14)) 47 rfl (by decide) ?_
              refine AO.calm rfl 48 rfl (by decide) (eBool false) (Calm.pickF rfl (congrArg (fun b => some (AV.fl (Value.bool b))) (eq_false_of_ne_true hc14)) rfl) ?_
              refine AO.calm rfl 49 rfl (by decide) (eBool false) (Calm.move rfl rfl) ?_
              refine AO.skipG 12 false 49 rfl rfl rfl 50 rfl (by decide) ?_
              refine AO.skipG 12 false 49 rfl rfl rfl 51 rfl (by decide) ?_
              refine AO.skipG 12 false 49 rfl rfl rfl 52 rfl (by decide) ?_
              refine AO.skipG 12 false 49 rfl rfl rfl 53 rfl (by decide) ?_
              refine AO.calm rfl 54 rfl (by decide) (eBool false) (Calm.pickF rfl rfl rfl) ?_
              refine AO.calm rfl 4 rfl (by decide) (eBool false) (Calm.assign rfl rfl) ?_
              cases hq11
              refine AO.nilE ⟨rfl, rfl⟩ ?_ ?_
              · exact ⟨rfl, trivial⟩
              · exact (Sub.refl _)
          · refine AW.ret (ρ' := [(4, (eBool b10))]) (H' := []) ⟨rfl, trivial⟩ (Sub.refl _) ?_
            have hr := Option.some.inj h
            subst hr
            exact ⟨[(eBool b10)], ⟨rfl, rfl, trivial⟩, rfl⟩
end Go.Avl.T1
