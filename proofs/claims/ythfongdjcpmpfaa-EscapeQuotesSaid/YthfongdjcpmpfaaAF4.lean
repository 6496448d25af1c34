/- Parts: T1f50, T1f51, T1f11. -/
import Derived.Test.YthfongdjcpmpfaaAF1
import Derived.Test.YthfongdjcpmpfaaAF3
import Derived.Test.YthfongdjcpmpfaaAF2
/- bosket/bosketref03.Unquote; printed by avmain.py. -/
namespace Go.Avl.T1
open Go Go.RowKit Go.Proofs Go.Avl
set_option linter.unusedVariables false
set_option maxRecDepth 100000
set_option maxHeartbeats 4000000
attribute [local irreducible] AW AO AQ Spec SpecH Calm

def bosketref03_Unquote_c0 (k : Nat) (p0 : ByteArray) (p1 : Int) (x8 : ByteArray) (x9 : Int) : Option (ByteArray × Int × Bool) :=
  Option.bind (α := Bool) (if (p0.size : Int) ≤ x9 then some (true)
  else if 0 ≤ x9 ∧ x9 < (p0.size : Int) then some (decide ((byteAt p0 x9) ≠ p1))
  else none) fun b10 =>
  if b10 = true then some ((ByteArray.mk #[]), (0 : Int), false)
  else some (x8, (w64 (x9 + (1 : Int))), true)
def bosketref03_Unquote_l1 (k : Nat) (p0 : ByteArray) (p1 : Int) : Nat → ByteArray → Int → Option (ByteArray × Int × Bool)
  | 0, _, _ => none
  | j + 1, x15, x16 =>
    Option.bind (α := Bool) (if x16 < (p0.size : Int) then if 0 ≤ x16 ∧ x16 < (p0.size : Int) then if (byteAt p0 x16) ≠ p1 then if 0 ≤ x16 ∧ x16 < (p0.size : Int) then some (decide ((byteAt p0 x16) ≠ (10 : Int)))
    else none
    else some (false)
    else none
    else some (false)) fun b19 =>
    if b19 = true then if 0 ≤ x16 ∧ x16 ≤ (p0.size : Int) ∧ (p0.size : Int) ≤ (p0.size : Int) then (bosketref03_Read k (p0.extract x16.toNat (p0.size : Int).toNat)).bind fun t27 =>
    if (!t27.2.2) = true then some ((ByteArray.mk #[]), (0 : Int), false)
    else if x15.size + (strOfNums ([t27.1] : List Int)).size ≤ 9223372036854775807 then (bosketref03_Unquote_l1 k p0 p1 j) (x15 ++ (strOfNums ([t27.1] : List Int))) (w64 (x16 + t27.2.1))
    else none
    else none
    else bosketref03_Unquote_c0 k p0 p1 x15 x16
def bosketref03_Unquote (k : Nat) (p0 : ByteArray) (p1 : Int) : Option (ByteArray × Int × Bool) :=
  Option.bind (α := Bool) (if p0 = (ByteArray.mk #[]) then some (true)
  else if 0 ≤ (0 : Int) ∧ (0 : Int) < (p0.size : Int) then some (decide ((byteAt p0 (0 : Int)) ≠ p1))
  else none) fun b3 =>
  if b3 = true then some ((ByteArray.mk #[]), (0 : Int), false)
  else bosketref03_Unquote_l1 k p0 p1 k (ByteArray.mk #[]) (1 : Int)
theorem bosketref03_Unquote_spec {k : Nat} {p0 : ByteArray} {p1 : Int} {r : (ByteArray × Int × Bool)} (h : bosketref03_Unquote k p0 p1 = some r) : Spec Try.prog 50 [(eStr p0), (eU8 p1)] (.tup [(eStr r.1), (eI64 r.2.1), (eBool r.2.2)]) := by
  rw [bosketref03_Unquote.eq_1] at h
  refine Spec.intro (res := [.tmp 4, .tmp 5, .tmp 6]) Try.func50 rfl rfl rfl (Nat.le_of_ble_eq_true rfl) ?_
  refine AW.seq ?_
  refine AW.reg ?_
  refine AO.calm rfl 4 rfl (by decide) (eStr (ByteArray.mk #[])) (Calm.assign rfl rfl) ?_
  refine AO.calm rfl 5 rfl (by decide) (eI64 (0 : Int)) (Calm.assign rfl rfl) ?_
  refine AO.calm rfl 6 rfl (by decide) (eBool false) (Calm.assign rfl rfl) ?_
  refine AO.nil (ρ' := [(0, (eStr p0)), (1, (eU8 p1))]) (H' := []) ⟨rfl, rfl, trivial⟩ (Sub.refl _) ?_
  refine AW.seq ?_
  refine AW.seq ?_
  obtain ⟨b3, hq4, h⟩ := of_bind h
  refine AW.regM [(0, (eStr p0)), (1, (eU8 p1)), (19, (eBool b3))] [] ?_ ?_
  · refine AO.calm rfl 12 rfl (by decide) (eStr p0) (Calm.move rfl rfl) ?_
    refine AO.calm rfl 13 rfl (by decide) (eBool (decide (p0 = (ByteArray.mk #[])))) (Calm.str rfl rfl rfl rfl) ?_
    refine AO.calm rfl 14 rfl (by decide) (eBool (decide (p0 = (ByteArray.mk #[])))) (Calm.move rfl rfl) ?_
    by_cases hc5 : p0 = (ByteArray.mk #[])
    · have hq4 := (if_pos hc5).symm.trans hq4
      refine AO.skipG 2 true 14 rfl rfl (congrArg (fun b => some (AV.fl (Value.bool b))) (decide_eq_true hc5)) 15 rfl (by decide) ?_
      refine AO.skipG 2 true 14 rfl rfl (congrArg (fun b => some (AV.fl (Value.bool b))) (decide_eq_true hc5)) 16 rfl (by decide) ?_
      refine AO.skipG 2 true 14 rfl rfl (congrArg (fun b => some (AV.fl (Value.bool b))) (decide_eq_true hc5)) 17 rfl (by decide) ?_
      refine AO.skipG 2 true 14 rfl rfl (congrArg (fun b => some (AV.fl (Value.bool b))) (decide_eq_true hc5)) 18 rfl (by decide) ?_
      refine AO.calm rfl 19 rfl (by decide) (eBool true) (Calm.pickT rfl (congrArg (fun b => some (AV.fl (Value.bool b))) (decide_eq_true hc5)) rfl) ?_
      cases hq4
      refine AO.nilE ⟨rfl, rfl⟩ ?_ ?_
      · exact ⟨rfl, rfl, rfl, trivial⟩
      · exact (Sub.refl _)
    · have hq4 := (if_neg hc5).symm.trans hq4
      refine AO.calmG 2 false 14 rfl rfl (congrArg (fun b => some (AV.fl (Value.bool b))) (decide_eq_false hc5)) 15 rfl (by decide) (eStr p0) (Calm.move rfl rfl) ?_
      obtain ⟨hg6, hq4⟩ := of_guard hq4
      refine AO.calmG 2 false 14 rfl rfl (congrArg (fun b => some (AV.fl (Value.bool b))) (decide_eq_false hc5)) 16 rfl (by decide) (eU8 (byteAt p0 (0 : Int))) (Calm.idxS rfl rfl rfl hg6 Try.underlying9) ?_
      refine AO.calmG 2 false 14 rfl rfl (congrArg (fun b => some (AV.fl (Value.bool b))) (decide_eq_false hc5)) 17 rfl (by decide) (eU8 p1) (Calm.move rfl rfl) ?_
      refine AO.calmG 2 false 14 rfl rfl (congrArg (fun b => some (AV.fl (Value.bool b))) (decide_eq_false hc5)) 18 rfl (by decide) (eBool (decide ((byteAt p0 (0 : Int)) ≠ p1))) (Calm.int rfl rfl rfl rfl) ?_
      refine AO.calm rfl 19 rfl (by decide) (eBool (decide ((byteAt p0 (0 : Int)) ≠ p1))) (Calm.pickF rfl (congrArg (fun b => some (AV.fl (Value.bool b))) (decide_eq_false hc5)) rfl) ?_
      cases hq4
      refine AO.nilE ⟨rfl, rfl⟩ ?_ ?_
      · exact ⟨rfl, rfl, rfl, trivial⟩
      · exact (Sub.refl _)
  · by_cases hc7 : b3 = true
    · have h := (if_pos hc7).symm.trans h
      refine AW.condT' b3 rfl hc7 ?_
      refine AW.seq ?_
      refine AW.reg ?_
      refine AO.calm rfl 4 rfl (by decide) (eStr (ByteArray.mk #[])) (Calm.assign rfl rfl) ?_
      refine AO.calm rfl 5 rfl (by decide) (eI64 (0 : Int)) (Calm.assign rfl rfl) ?_
      refine AO.calm rfl 6 rfl (by decide) (eBool false) (Calm.assign rfl rfl) ?_
      refine AO.nil (ρ' := [(4, (eStr (ByteArray.mk #[]))), (5, (eI64 (0 : Int))), (6, (eBool false))]) (H' := []) ⟨rfl, rfl, rfl, trivial⟩ (Sub.refl _) ?_
      refine AW.ret (ρ' := [(4, (eStr (ByteArray.mk #[]))), (5, (eI64 (0 : Int))), (6, (eBool false))]) (H' := []) ⟨rfl, rfl, rfl, trivial⟩ (Sub.refl _) ?_
      have hr := Option.some.inj h
      subst hr
      exact ⟨[(eStr (ByteArray.mk #[])), (eI64 (0 : Int)), (eBool false)], ⟨rfl, rfl, rfl, rfl, rfl, rfl, trivial⟩, rfl⟩
    · have h := (if_neg hc7).symm.trans h
      refine AW.condF' b3 rfl hc7 ?_
      refine AW.skip (ρ' := [(0, (eStr p0)), (1, (eU8 p1))]) (H' := []) ⟨rfl, rfl, trivial⟩ (Sub.refl _) ?_
      refine AW.seq ?_
      refine AW.reg ?_
      refine AO.calm rfl 7 rfl (by decide) (eStr (ByteArray.mk #[])) (Calm.assign rfl rfl) ?_
      refine AO.calm rfl 8 rfl (by decide) (eI64 (1 : Int)) (Calm.assign rfl rfl) ?_
      refine AO.nil (ρ' := [(0, (eStr p0)), (1, (eU8 p1)), (7, (eStr (ByteArray.mk #[]))), (8, (eI64 (1 : Int)))]) (H' := []) ⟨rfl, rfl, rfl, rfl, trivial⟩ (Sub.refl _) ?_
      refine AW.seq_mid (fun ρ H => ∃ (x8 : ByteArray) (x9 : Int), ρ = [(0, (eStr p0)), (1, (eU8 p1)), (7, (eStr x8)), (8, (eI64 x9))] ∧ H = [] ∧ bosketref03_Unquote_c0 k p0 p1 x8 x9 = some r) ?_ ?_
      · refine AW.block ?_
        refine AW.weak (ρ' := [(0, (eStr p0)), (1, (eU8 p1)), (7, (eStr (ByteArray.mk #[]))), (8, (eI64 (1 : Int)))]) (H' := []) ⟨rfl, rfl, rfl, rfl, trivial⟩ (Sub.refl _) ?_
        refine AW.loop (fun kq ρ H => ∃ (x15 : ByteArray) (x16 : Int), ρ = [(0, (eStr p0)), (1, (eU8 p1)), (7, (eStr x15)), (8, (eI64 x16))] ∧ H = [] ∧ bosketref03_Unquote_l1 k p0 p1 kq x15 x16 = some r) k ⟨(ByteArray.mk #[]), (1 : Int), rfl, rfl, h⟩ ?_
        rintro kq18 _ _ ⟨x15, x16, rfl, rfl, h⟩
        cases kq18 with
        | zero => rw [bosketref03_Unquote_l1.eq_1] at h; cases h
        | succ kq18 =>
        rw [bosketref03_Unquote_l1.eq_2] at h
        generalize hrec17 : bosketref03_Unquote_l1 k p0 p1 kq18 = rec17 at h
        refine AW.seq ?_
        refine AW.seq ?_
        obtain ⟨b19, hq20, h⟩ := of_bind h
        refine AW.regM [(0, (eStr p0)), (1, (eU8 p1)), (7, (eStr x15)), (8, (eI64 x16)), (36, (eBool b19))] [] ?_ ?_
        · refine AO.calm rfl 20 rfl (by decide) (eI64 x16) (Calm.move rfl rfl) ?_
          refine AO.calm rfl 21 rfl (by decide) (eStr p0) (Calm.move rfl rfl) ?_
          refine AO.calm rfl 22 rfl (by decide) (eI64 (p0.size : Int)) (Calm.lenStr rfl rfl Try.underlying9) ?_
          refine AO.calm rfl 23 rfl (by decide) (eBool (decide (x16 < (p0.size : Int)))) (Calm.int rfl rfl rfl rfl) ?_
          refine AO.calm rfl 24 rfl (by decide) (eBool (decide (x16 < (p0.size : Int)))) (Calm.move rfl rfl) ?_
          by_cases hc21 : x16 < (p0.size : Int)
          · have hq20 := (if_pos hc21).symm.trans hq20
            refine AO.calmG 4 true 24 rfl rfl (congrArg (fun b => some (AV.fl (Value.bool b))) (decide_eq_true hc21)) 25 rfl (by decide) (eStr p0) (Calm.move rfl rfl) ?_
            refine AO.calmG 4 true 24 rfl rfl (congrArg (fun b => some (AV.fl (Value.bool b))) (decide_eq_true hc21)) 26 rfl (by decide) (eI64 x16) (Calm.move rfl rfl) ?_
            obtain ⟨hg22, hq20⟩ := of_guard hq20
            refine AO.calmG 4 true 24 rfl rfl (congrArg (fun b => some (AV.fl (Value.bool b))) (decide_eq_true hc21)) 27 rfl (by decide) (eU8 (byteAt p0 x16)) (Calm.idxS rfl rfl rfl hg22 Try.underlying9) ?_
            refine AO.calmG 4 true 24 rfl rfl (congrArg (fun b => some (AV.fl (Value.bool b))) (decide_eq_true hc21)) 28 rfl (by decide) (eU8 p1) (Calm.move rfl rfl) ?_
            refine AO.calmG 4 true 24 rfl rfl (congrArg (fun b => some (AV.fl (Value.bool b))) (decide_eq_true hc21)) 29 rfl (by decide) (eBool (decide ((byteAt p0 x16) ≠ p1))) (Calm.int rfl rfl rfl rfl) ?_
            refine AO.calm rfl 30 rfl (by decide) (eBool (decide ((byteAt p0 x16) ≠ p1))) (Calm.pickT rfl (congrArg (fun b => some (AV.fl (Value.bool b))) (decide_eq_true hc21)) rfl) ?_
            refine AO.calm rfl 31 rfl (by decide) (eBool (decide ((byteAt p0 x16) ≠ p1))) (Calm.move rfl rfl) ?_
            by_cases hc23 : (byteAt p0 x16) ≠ p1
            · have hq20 := (if_pos hc23).symm.trans hq20
              refine AO.calmG 11 true 31 rfl rfl (congrArg (fun b => some (AV.fl (Value.bool b))) (decide_eq_true hc23)) 32 rfl (by decide) (eStr p0) (Calm.move rfl rfl) ?_
              refine AO.calmG 11 true 31 rfl rfl (congrArg (fun b => some (AV.fl (Value.bool b))) (decide_eq_true hc23)) 33 rfl (by decide) (eI64 x16) (Calm.move rfl rfl) ?_
              obtain ⟨hg24, hq20⟩ := of_guard hq20
              refine AO.calmG 11 true 31 rfl rfl (congrArg (fun b => some (AV.fl (Value.bool b))) (decide_eq_true hc23)) 34 rfl (by decide) (eU8 (byteAt p0 x16)) (Calm.idxS rfl rfl rfl hg24 Try.underlying9) ?_
              refine AO.calmG 11 true 31 rfl rfl (congrArg (fun b => some (AV.fl (Value.bool b))) (decide_eq_true hc23)) 35 rfl (by decide) (eBool (decide ((byteAt p0 x16) ≠ (10 : Int)))) (Calm.int rfl rfl rfl rfl) ?_
              refine AO.calm rfl 36 rfl (by decide) (eBool (decide ((byteAt p0 x16) ≠ (10 : Int)))) (Calm.pickT rfl (congrArg (fun b => some (AV.fl (Value.bool b))) (decide_eq_true hc23)) rfl) ?_
              cases hq20
              refine AO.nilE ⟨rfl, rfl⟩ ?_ ?_
              · exact ⟨rfl, rfl, rfl, rfl, rfl, trivial⟩
              · exact (Sub.refl _)
            · have hq20 := (if_neg hc23).symm.trans hq20
              refine AO.skipG 11 false 31 rfl rfl (congrArg (fun b => some (AV.fl (Value.bool b))) (decide_eq_false hc23)) 32 rfl (by decide) ?_
              refine AO.skipG 11 false 31 rfl rfl (congrArg (fun b => some (AV.fl (Value.bool b))) (decide_eq_false hc23)) 33 rfl (by decide) ?_
              refine AO.skipG 11 false 31 rfl rfl (congrArg (fun b => some (AV.fl (Value.bool b))) (decide_eq_false hc23)) 34 rfl (by decide) ?_
              refine AO.skipG 11 false 31 rfl rfl (congrArg (fun b => some (AV.fl (Value.bool b))) (decide_eq_false hc23)) 35 rfl (by decide) ?_
              refine AO.calm rfl 36 rfl (by decide) (eBool false) (Calm.pickF rfl (congrArg (fun b => some (AV.fl (Value.bool b))) (decide_eq_false hc23)) rfl) ?_
              cases hq20
              refine AO.nilE ⟨rfl, rfl⟩ ?_ ?_
              · exact ⟨rfl, rfl, rfl, rfl, rfl, trivial⟩
              · exact (Sub.refl _)
          · have hq20 := (if_neg hc21).symm.trans hq20
            refine AO.skipG 4 false 24 rfl rfl (congrArg (fun b => some (AV.fl (Value.bool b))) (decide_eq_false hc21)) 25 rfl (by decide) ?_
            refine AO.skipG 4 false 24 rfl rfl (congrArg (fun b => some (AV.fl (Value.bool b))) (decide_eq_false hc21)) 26 rfl (by decide) ?_
            refine AO.skipG 4 false 24 rfl rfl (congrArg (fun b => some (AV.fl (Value.bool b))) (decide_eq_false hc21)) 27 rfl (by decide) ?_
            refine AO.skipG 4 false 24 rfl rfl (congrArg (fun b => some (AV.fl (Value.bool b))) (decide_eq_false hc21)) 28 rfl (by decide) ?_
            refine AO.skipG 4 false 24 rfl rfl (congrArg (fun b => some (AV.fl (Value.bool b))) (decide_eq_false hc21)) 29 rfl (by decide) ?_
            refine AO.calm rfl 30 rfl (by decide) (eBool false) (Calm.pickF rfl (congrArg (fun b => some (AV.fl (Value.bool b))) (decide_eq_false hc21)) rfl) ?_
            refine AO.calm rfl 31 rfl (by decide) (eBool false) (Calm.move rfl rfl) ?_
            refine AO.skipG 11 false 31 rfl rfl rfl 32 rfl (by decide) ?_
            refine AO.skipG 11 false 31 rfl rfl rfl 33 rfl (by decide) ?_
            refine AO.skipG 11 false 31 rfl rfl rfl 34 rfl (by decide) ?_
            refine AO.skipG 11 false 31 rfl rfl rfl 35 rfl (by decide) ?_
            refine AO.calm rfl 36 rfl (by decide) (eBool false) (Calm.pickF rfl rfl rfl) ?_
            cases hq20
            refine AO.nilE ⟨rfl, rfl⟩ ?_ ?_
            · exact ⟨rfl, rfl, rfl, rfl, rfl, trivial⟩
            · exact (Sub.refl _)
        · by_cases hc25 : b19 = true
          · have h := (if_pos hc25).symm.trans h
            refine AW.condT' b19 rfl hc25 ?_
            refine AW.skip (ρ' := [(0, (eStr p0)), (1, (eU8 p1)), (7, (eStr x15)), (8, (eI64 x16))]) (H' := []) ⟨rfl, rfl, rfl, rfl, trivial⟩ (Sub.refl _) ?_
            refine AW.block ?_
            refine AW.seq ?_
            refine AW.reg ?_
            refine AO.calm rfl 38 rfl (by decide) (eStr p0) (Calm.move rfl rfl) ?_
            refine AO.calm rfl 39 rfl (by decide) (eI64 x16) (Calm.move rfl rfl) ?_
            obtain ⟨hg26, h⟩ := of_guard h
            refine AO.calm rfl 40 rfl (by decide) (eStr (p0.extract x16.toNat (p0.size : Int).toNat)) (Calm.sliceS rfl rfl rfl rfl hg26 Try.underlying9) ?_
            obtain ⟨t27, et27, h⟩ := of_bind h
            refine AO.callS [(eStr (p0.extract x16.toNat (p0.size : Int).toNat))] (.tup [(eU8 t27.1), (eI64 t27.2.1), (eBool t27.2.2)]) 41 rfl (by decide) ok45 rfl rfl rfl ⟨rfl, rfl, trivial⟩ (bosketref03_Read_spec et27) ?_
            refine AO.calm rfl 37 rfl (by decide) (.tup [(eU8 t27.1), (eI64 t27.2.1), (eBool t27.2.2)]) (Calm.move rfl rfl) ?_
            refine AO.calm rfl 42 rfl (by decide) (eU8 t27.1) (Calm.extract rfl rfl rfl) ?_
            refine AO.calm rfl 43 rfl (by decide) (eI64 t27.2.1) (Calm.extract rfl rfl rfl) ?_
            refine AO.calm rfl 44 rfl (by decide) (eBool t27.2.2) (Calm.extract rfl rfl rfl) ?_
            refine AO.calm rfl 9 rfl (by decide) (eU8 t27.1) (Calm.assign rfl rfl) ?_
            refine AO.calm rfl 10 rfl (by decide) (eI64 t27.2.1) (Calm.assign rfl rfl) ?_
            refine AO.calm rfl 11 rfl (by decide) (eBool t27.2.2) (Calm.assign rfl rfl) ?_
            refine AO.nil (ρ' := [(0, (eStr p0)), (1, (eU8 p1)), (7, (eStr x15)), (8, (eI64 x16)), (9, (eU8 t27.1)), (10, (eI64 t27.2.1)), (11, (eBool t27.2.2))]) (H' := []) ⟨rfl, rfl, rfl, rfl, rfl, rfl, rfl, trivial⟩ (Sub.refl _) ?_
            refine AW.seq ?_
            refine AW.seq ?_
            refine AW.reg ?_
            refine AO.calm rfl 45 rfl (by decide) (eBool t27.2.2) (Calm.move rfl rfl) ?_
            refine AO.calm rfl 46 rfl (by decide) (eBool (!t27.2.2)) (Calm.not rfl rfl) ?_
            refine AO.nil (ρ' := [(0, (eStr p0)), (1, (eU8 p1)), (7, (eStr x15)), (8, (eI64 x16)), (9, (eU8 t27.1)), (10, (eI64 t27.2.1)), (46, (eBool (!t27.2.2)))]) (H' := []) ⟨rfl, rfl, rfl, rfl, rfl, rfl, rfl, trivial⟩ (Sub.refl _) ?_
            by_cases hc28 : (!t27.2.2) = true
            · have h := (if_pos hc28).symm.trans h
              refine AW.condT' (!t27.2.2) rfl hc28 ?_
              refine AW.seq ?_
              refine AW.reg ?_
              refine AO.calm rfl 4 rfl (by decide) (eStr (ByteArray.mk #[])) (Calm.assign rfl rfl) ?_
              refine AO.calm rfl 5 rfl (by decide) (eI64 (0 : Int)) (Calm.assign rfl rfl) ?_
              refine AO.calm rfl 6 rfl (by decide) (eBool false) (Calm.assign rfl rfl) ?_
              refine AO.nil (ρ' := [(4, (eStr (ByteArray.mk #[]))), (5, (eI64 (0 : Int))), (6, (eBool false))]) (H' := []) ⟨rfl, rfl, rfl, trivial⟩ (Sub.refl _) ?_
              refine AW.ret (ρ' := [(4, (eStr (ByteArray.mk #[]))), (5, (eI64 (0 : Int))), (6, (eBool false))]) (H' := []) ⟨rfl, rfl, rfl, trivial⟩ (Sub.refl _) ?_
              have hr := Option.some.inj h
              subst hr
              exact ⟨[(eStr (ByteArray.mk #[])), (eI64 (0 : Int)), (eBool false)], ⟨rfl, rfl, rfl, rfl, rfl, rfl, trivial⟩, rfl⟩
            · have h := (if_neg hc28).symm.trans h
              refine AW.condF' (!t27.2.2) rfl hc28 ?_
              refine AW.skip (ρ' := [(0, (eStr p0)), (1, (eU8 p1)), (7, (eStr x15)), (8, (eI64 x16)), (9, (eU8 t27.1)), (10, (eI64 t27.2.1))]) (H' := []) ⟨rfl, rfl, rfl, rfl, rfl, rfl, trivial⟩ (Sub.refl _) ?_
              refine AW.seq ?_
              refine AW.reg ?_
              refine AO.calm rfl 47 rfl (by decide) (eStr x15) (Calm.move rfl rfl) ?_
              refine AO.calm rfl 48 rfl (by decide) (eU8 t27.1) (Calm.move rfl rfl) ?_
              refine AO.lit (Z := (eU8 (0 : Int))) (xs := (([t27.1] : List Int).map eU8)) (qs := [(0, (eU8 t27.1))]) rfl 49 rfl (by decide) rfl ⟨rfl, rfl, rfl, trivial⟩ Try.underlying87 sz5 zr5 lay5 rfl (by decide) (litOK (z := 1) [(eU8 t27.1)] rfl ⟨⟨rfl, rfl⟩, trivial⟩) rfl fun n29 => ?_
              refine AO.calm rfl 50 rfl (by decide) (eStr (strOfNums ([t27.1] : List Int))) (Calm.strO 0 rfl rfl rfl Try.underlying87 Try.underlying9 Try.underlying5) ?_
              obtain ⟨hg30, h⟩ := of_guard h
              refine AO.calm rfl 51 rfl (by decide) (eStr (x15 ++ (strOfNums ([t27.1] : List Int)))) (Calm.cat rfl rfl rfl hg30) ?_
              refine AO.calm rfl 7 rfl (by decide) (eStr (x15 ++ (strOfNums ([t27.1] : List Int)))) (Calm.assign rfl rfl) ?_
              refine AO.nil (ρ' := [(0, (eStr p0)), (1, (eU8 p1)), (7, (eStr (x15 ++ (strOfNums ([t27.1] : List Int))))), (8, (eI64 x16)), (10, (eI64 t27.2.1))]) (H' := []) ⟨rfl, rfl, rfl, rfl, rfl, trivial⟩ (Sub.nil _) ?_
              refine AW.reg ?_
              refine AO.calm rfl 52 rfl (by decide) (eI64 x16) (Calm.move rfl rfl) ?_
              refine AO.calm rfl 53 rfl (by decide) (eI64 t27.2.1) (Calm.move rfl rfl) ?_
              refine AO.calm rfl 54 rfl (by decide) (eI64 (w64 (x16 + t27.2.1))) (Calm.int rfl rfl rfl rfl) ?_
              refine AO.calm rfl 8 rfl (by decide) (eI64 (w64 (x16 + t27.2.1))) (Calm.assign rfl rfl) ?_
              refine AO.nil (ρ' := [(0, (eStr p0)), (1, (eU8 p1)), (7, (eStr (x15 ++ (strOfNums ([t27.1] : List Int))))), (8, (eI64 (w64 (x16 + t27.2.1))))]) (H' := []) ⟨rfl, rfl, rfl, rfl, trivial⟩ (Sub.refl _) ?_
              exact ⟨kq18, Nat.lt_succ_self _, (x15 ++ (strOfNums ([t27.1] : List Int))), (w64 (x16 + t27.2.1)), rfl, rfl, by rw [hrec17]; exact h⟩
          · have h := (if_neg hc25).symm.trans h
            refine AW.condF' b19 rfl hc25 ?_
            refine AW.exit (ρ' := [(0, (eStr p0)), (1, (eU8 p1)), (7, (eStr x15)), (8, (eI64 x16))]) (H' := []) ⟨rfl, rfl, rfl, rfl, trivial⟩ (Sub.refl _) ?_
            exact ⟨x15, x16, rfl, rfl, h⟩
      · rintro _ _ ⟨x8, x9, rfl, rfl, h⟩
        rw [bosketref03_Unquote_c0.eq_1] at h
        refine AW.seq ?_
        refine AW.seq ?_
        obtain ⟨b10, hq11, h⟩ := of_bind h
        refine AW.regM [(7, (eStr x8)), (8, (eI64 x9)), (65, (eBool b10))] [] ?_ ?_
        · refine AO.calm rfl 55 rfl (by decide) (eI64 x9) (Calm.move rfl rfl) ?_
          refine AO.calm rfl 56 rfl (by decide) (eStr p0) (Calm.move rfl rfl) ?_
          refine AO.calm rfl 57 rfl (by decide) (eI64 (p0.size : Int)) (Calm.lenStr rfl rfl Try.underlying9) ?_
          refine AO.calm rfl 58 rfl (by decide) (eBool (decide ((p0.size : Int) ≤ x9))) (Calm.int rfl rfl rfl rfl) ?_
          refine AO.calm rfl 59 rfl (by decide) (eBool (decide ((p0.size : Int) ≤ x9))) (Calm.move rfl rfl) ?_
          by_cases hc12 : (p0.size : Int) ≤ x9
          · have hq11 := (if_pos hc12).symm.trans hq11
            refine AO.skipG 4 true 59 rfl rfl (congrArg (fun b => some (AV.fl (Value.bool b))) (decide_eq_true hc12)) 60 rfl (by decide) ?_
            refine AO.skipG 4 true 59 rfl rfl (congrArg (fun b => some (AV.fl (Value.bool b))) (decide_eq_true hc12)) 61 rfl (by decide) ?_
            refine AO.skipG 4 true 59 rfl rfl (congrArg (fun b => some (AV.fl (Value.bool b))) (decide_eq_true hc12)) 62 rfl (by decide) ?_
            refine AO.skipG 4 true 59 rfl rfl (congrArg (fun b => some (AV.fl (Value.bool b))) (decide_eq_true hc12)) 63 rfl (by decide) ?_
            refine AO.skipG 4 true 59 rfl rfl (congrArg (fun b => some (AV.fl (Value.bool b))) (decide_eq_true hc12)) 64 rfl (by decide) ?_
            refine AO.calm rfl 65 rfl (by decide) (eBool true) (Calm.pickT rfl (congrArg (fun b => some (AV.fl (Value.bool b))) (decide_eq_true hc12)) rfl) ?_
            cases hq11
            refine AO.nilE ⟨rfl, rfl⟩ ?_ ?_
            · exact ⟨rfl, rfl, rfl, trivial⟩
            · exact (Sub.refl _)
          · have hq11 := (if_neg hc12).symm.trans hq11
            refine AO.calmG 4 false 59 rfl rfl (congrArg (fun b => some (AV.fl (Value.bool b))) (decide_eq_false hc12)) 60 rfl (by decide) (eStr p0) (Calm.move rfl rfl) ?_
            refine AO.calmG 4 false 59 rfl rfl (congrArg (fun b => some (AV.fl (Value.bool b))) (decide_eq_false hc12)) 61 rfl (by decide) (eI64 x9) (Calm.move rfl rfl) ?_
            obtain ⟨hg13, hq11⟩ := of_guard hq11
            refine AO.calmG 4 false 59 rfl rfl (congrArg (fun b => some (AV.fl (Value.bool b))) (decide_eq_false hc12)) 62 rfl (by decide) (eU8 (byteAt p0 x9)) (Calm.idxS rfl rfl rfl hg13 Try.underlying9) ?_
            refine AO.calmG 4 false 59 rfl rfl (congrArg (fun b => some (AV.fl (Value.bool b))) (decide_eq_false hc12)) 63 rfl (by decide) (eU8 p1) (Calm.move rfl rfl) ?_
            refine AO.calmG 4 false 59 rfl rfl (congrArg (fun b => some (AV.fl (Value.bool b))) (decide_eq_false hc12)) 64 rfl (by decide) (eBool (decide ((byteAt p0 x9) ≠ p1))) (Calm.int rfl rfl rfl rfl) ?_
            refine AO.calm rfl 65 rfl (by decide) (eBool (decide ((byteAt p0 x9) ≠ p1))) (Calm.pickF rfl (congrArg (fun b => some (AV.fl (Value.bool b))) (decide_eq_false hc12)) rfl) ?_
            cases hq11
            refine AO.nilE ⟨rfl, rfl⟩ ?_ ?_
            · exact ⟨rfl, rfl, rfl, trivial⟩
            · exact (Sub.refl _)
        · by_cases hc14 : b10 = true
          · have h := (if_pos hc14).symm.trans h
            refine AW.condT' b10 rfl hc14 ?_
            refine AW.seq ?_
            refine AW.reg ?_
            refine AO.calm rfl 4 rfl (by decide) (eStr (ByteArray.mk #[])) (Calm.assign rfl rfl) ?_
            refine AO.calm rfl 5 rfl (by decide) (eI64 (0 : Int)) (Calm.assign rfl rfl) ?_
            refine AO.calm rfl 6 rfl (by decide) (eBool false) (Calm.assign rfl rfl) ?_
            refine AO.nil (ρ' := [(4, (eStr (ByteArray.mk #[]))), (5, (eI64 (0 : Int))), (6, (eBool false))]) (H' := []) ⟨rfl, rfl, rfl, trivial⟩ (Sub.refl _) ?_
            refine AW.ret (ρ' := [(4, (eStr (ByteArray.mk #[]))), (5, (eI64 (0 : Int))), (6, (eBool false))]) (H' := []) ⟨rfl, rfl, rfl, trivial⟩ (Sub.refl _) ?_
            have hr := Option.some.inj h
            subst hr
            exact ⟨[(eStr (ByteArray.mk #[])), (eI64 (0 : Int)), (eBool false)], ⟨rfl, rfl, rfl, rfl, rfl, rfl, trivial⟩, rfl⟩
          · have h := (if_neg hc14).symm.trans h
            refine AW.condF' b10 rfl hc14 ?_
            refine AW.skip (ρ' := [(7, (eStr x8)), (8, (eI64 x9))]) (H' := []) ⟨rfl, rfl, trivial⟩ (Sub.refl _) ?_
            refine AW.seq ?_
            refine AW.reg ?_
            refine AO.calm rfl 66 rfl (by decide) (eStr x8) (Calm.move rfl rfl) ?_
            refine AO.calm rfl 67 rfl (by decide) (eI64 x9) (Calm.move rfl rfl) ?_
            refine AO.calm rfl 68 rfl (by decide) (eI64 (w64 (x9 + (1 : Int)))) (Calm.int rfl rfl rfl rfl) ?_
            refine AO.calm rfl 4 rfl (by decide) (eStr x8) (Calm.assign rfl rfl) ?_
            refine AO.calm rfl 5 rfl (by decide) (eI64 (w64 (x9 + (1 : Int)))) (Calm.assign rfl rfl) ?_
            refine AO.calm rfl 6 rfl (by decide) (eBool true) (Calm.assign rfl rfl) ?_
            refine AO.nil (ρ' := [(4, (eStr x8)), (5, (eI64 (w64 (x9 + (1 : Int))))), (6, (eBool true))]) (H' := []) ⟨rfl, rfl, rfl, trivial⟩ (Sub.refl _) ?_
            refine AW.ret (ρ' := [(4, (eStr x8)), (5, (eI64 (w64 (x9 + (1 : Int))))), (6, (eBool true))]) (H' := []) ⟨rfl, rfl, rfl, trivial⟩ (Sub.refl _) ?_
            have hr := Option.some.inj h
            subst hr
            exact ⟨[(eStr x8), (eI64 (w64 (x9 + (1 : Int)))), (eBool true)], ⟨rfl, rfl, rfl, rfl, rfl, rfl, trivial⟩, rfl⟩
end Go.Avl.T1
/- bosket/bosketref03.Quote; printed by avmain.py. -/
namespace Go.Avl.T1
open Go Go.RowKit Go.Proofs Go.Avl
set_option linter.unusedVariables false
set_option maxRecDepth 100000
set_option maxHeartbeats 4000000
attribute [local irreducible] AW AO AQ Spec SpecH Calm

def bosketref03_Quote_c0 (k : Nat) (p1 : Int) (x4 : ByteArray) : Option ByteArray :=
  if x4.size + (strOfNums ([p1] : List Int)).size ≤ 9223372036854775807 then some ((x4 ++ (strOfNums ([p1] : List Int))))
  else none
def bosketref03_Quote_l1 (k : Nat) (p0 : ByteArray) (p1 : Int) : Nat → ByteArray → Int → Option ByteArray
  | 0, _, _ => none
  | j + 1, x7, x8 =>
    if x8 < (p0.size : Int) then if 0 ≤ x8 ∧ x8 < (p0.size : Int) then (bosketref03_Byte k (byteAt p0 x8) (strOfNums ([p1] : List Int))).bind fun t14 =>
    if x7.size + t14.size ≤ 9223372036854775807 then (bosketref03_Quote_l1 k p0 p1 j) (x7 ++ t14) (w64 (x8 + (1 : Int)))
    else none
    else none
    else bosketref03_Quote_c0 k p1 x7
def bosketref03_Quote (k : Nat) (p0 : ByteArray) (p1 : Int) : Option ByteArray :=
  bosketref03_Quote_l1 k p0 p1 k (strOfNums ([p1] : List Int)) (0 : Int)
theorem bosketref03_Quote_spec {k : Nat} {p0 : ByteArray} {p1 : Int} {r : ByteArray} (h : bosketref03_Quote k p0 p1 = some r) : Spec Try.prog 51 [(eStr p0), (eU8 p1)] (eStr r) := by
  rw [bosketref03_Quote.eq_1] at h
  refine Spec.intro (res := [.tmp 4]) Try.func51 rfl rfl rfl (Nat.le_of_ble_eq_true rfl) ?_
  refine AW.seq ?_
  refine AW.reg ?_
  refine AO.calm rfl 4 rfl (by decide) (eStr (ByteArray.mk #[])) (Calm.assign rfl rfl) ?_
  refine AO.nil (ρ' := [(0, (eStr p0)), (1, (eU8 p1))]) (H' := []) ⟨rfl, rfl, trivial⟩ (Sub.refl _) ?_
  refine AW.seq ?_
  refine AW.reg ?_
  refine AO.calm rfl 7 rfl (by decide) (eU8 p1) (Calm.move rfl rfl) ?_
  refine AO.lit (Z := (eU8 (0 : Int))) (xs := (([p1] : List Int).map eU8)) (qs := [(0, (eU8 p1))]) rfl 8 rfl (by decide) rfl ⟨rfl, rfl, rfl, trivial⟩ Try.underlying87 sz5 zr5 lay5 rfl (by decide) (litOK (z := 1) [(eU8 p1)] rfl ⟨⟨rfl, rfl⟩, trivial⟩) rfl fun n3 => ?_
  refine AO.calm rfl 9 rfl (by decide) (eStr (strOfNums ([p1] : List Int))) (Calm.strO 0 rfl rfl rfl Try.underlying87 Try.underlying9 Try.underlying5) ?_
  refine AO.calm rfl 5 rfl (by decide) (eStr (strOfNums ([p1] : List Int))) (Calm.assign rfl rfl) ?_
  refine AO.nil (ρ' := [(0, (eStr p0)), (1, (eU8 p1)), (5, (eStr (strOfNums ([p1] : List Int))))]) (H' := []) ⟨rfl, rfl, rfl, trivial⟩ (Sub.nil _) ?_
  refine AW.seq_mid (fun ρ H => ∃ (x4 : ByteArray), ρ = [(1, (eU8 p1)), (5, (eStr x4))] ∧ H = [] ∧ bosketref03_Quote_c0 k p1 x4 = some r) ?_ ?_
  · refine AW.seq ?_
    refine AW.reg ?_
    refine AO.calm rfl 6 rfl (by decide) (eI64 (0 : Int)) (Calm.assign rfl rfl) ?_
    refine AO.nil (ρ' := [(0, (eStr p0)), (1, (eU8 p1)), (5, (eStr (strOfNums ([p1] : List Int)))), (6, (eI64 (0 : Int)))]) (H' := []) ⟨rfl, rfl, rfl, rfl, trivial⟩ (Sub.refl _) ?_
    refine AW.block ?_
    refine AW.weak (ρ' := [(0, (eStr p0)), (1, (eU8 p1)), (5, (eStr (strOfNums ([p1] : List Int)))), (6, (eI64 (0 : Int)))]) (H' := []) ⟨rfl, rfl, rfl, rfl, trivial⟩ (Sub.refl _) ?_
    refine AW.loop (fun kq ρ H => ∃ (x7 : ByteArray) (x8 : Int), ρ = [(0, (eStr p0)), (1, (eU8 p1)), (5, (eStr x7)), (6, (eI64 x8))] ∧ H = [] ∧ bosketref03_Quote_l1 k p0 p1 kq x7 x8 = some r) k ⟨(strOfNums ([p1] : List Int)), (0 : Int), rfl, rfl, h⟩ ?_
    rintro kq10 _ _ ⟨x7, x8, rfl, rfl, h⟩
    cases kq10 with
    | zero => rw [bosketref03_Quote_l1.eq_1] at h; cases h
    | succ kq10 =>
    rw [bosketref03_Quote_l1.eq_2] at h
    generalize hrec9 : bosketref03_Quote_l1 k p0 p1 kq10 = rec9 at h
    refine AW.seq ?_
    refine AW.seq ?_
    refine AW.reg ?_
    refine AO.calm rfl 10 rfl (by decide) (eI64 x8) (Calm.move rfl rfl) ?_
    refine AO.calm rfl 11 rfl (by decide) (eStr p0) (Calm.move rfl rfl) ?_
    refine AO.calm rfl 12 rfl (by decide) (eI64 (p0.size : Int)) (Calm.lenStr rfl rfl Try.underlying9) ?_
    refine AO.calm rfl 13 rfl (by decide) (eBool (decide (x8 < (p0.size : Int)))) (Calm.int rfl rfl rfl rfl) ?_
    refine AO.nil (ρ' := [(0, (eStr p0)), (1, (eU8 p1)), (5, (eStr x7)), (6, (eI64 x8)), (13, (eBool (decide (x8 < (p0.size : Int)))))]) (H' := []) ⟨rfl, rfl, rfl, rfl, rfl, trivial⟩ (Sub.refl _) ?_
    by_cases hc11 : x8 < (p0.size : Int)
    · have h := (if_pos hc11).symm.trans h
      refine AW.condP (x8 < (p0.size : Int)) rfl hc11 ?_
      refine AW.skip (ρ' := [(0, (eStr p0)), (1, (eU8 p1)), (5, (eStr x7)), (6, (eI64 x8))]) (H' := []) ⟨rfl, rfl, rfl, rfl, trivial⟩ (Sub.refl _) ?_
      refine AW.seq ?_
      refine AW.block ?_
      obtain ⟨hg12, h⟩ := of_guard h
      obtain ⟨t14, et14, h⟩ := of_bind h
      obtain ⟨hg15, h⟩ := of_guard h
      refine AW.regAny (by rfl) (by decide +kernel) [(eStr x7), (eStr p0), (eI64 x8), (eU8 (byteAt p0 x8)), (eU8 p1), (.fz 1 (([p1] : List Int).map eU8)), (eStr (strOfNums ([p1] : List Int))), (eStr t14), (eStr (x7 ++ t14)), (eStr (x7 ++ t14))] [(0, (eStr p0)), (1, (eU8 p1)), (5, (eStr x7)), (6, (eI64 x8))] ⟨rfl, rfl, rfl, rfl, trivial⟩ rfl ?_ [(0, (eStr p0)), (1, (eU8 p1)), (5, (eStr (x7 ++ t14))), (6, (eI64 x8))] [] ⟨rfl, rfl, rfl, rfl, trivial⟩ (Sub.refl _) ?_
      · refine ⟨?_, ?_, ?_, ?_, ?_, ?_, ?_, ?_, ?_, ?_, trivial⟩
        · refine AO.weak (ρ' := [(5, (eStr x7))]) (H' := []) ⟨rfl, trivial⟩ (Sub.refl _) ?_
          refine AO.calm rfl 16 rfl (by decide) (eStr x7) (Calm.move rfl rfl) ?_
          exact AO.nilE (ρ' := [(16, (eStr x7))]) (H' := []) ⟨⟨_, rfl, rfl⟩, Sub.refl _⟩ ⟨rfl, trivial⟩ (Sub.refl _)
        · refine AO.weak (ρ' := [(0, (eStr p0))]) (H' := []) ⟨rfl, trivial⟩ (Sub.refl _) ?_
          refine AO.calm rfl 17 rfl (by decide) (eStr p0) (Calm.move rfl rfl) ?_
          exact AO.nilE (ρ' := [(17, (eStr p0))]) (H' := []) ⟨⟨_, rfl, rfl⟩, Sub.refl _⟩ ⟨rfl, trivial⟩ (Sub.refl _)
        · refine AO.weak (ρ' := [(6, (eI64 x8))]) (H' := []) ⟨rfl, trivial⟩ (Sub.refl _) ?_
          refine AO.calm rfl 18 rfl (by decide) (eI64 x8) (Calm.move rfl rfl) ?_
          exact AO.nilE (ρ' := [(18, (eI64 x8))]) (H' := []) ⟨⟨_, rfl, rfl⟩, Sub.refl _⟩ ⟨rfl, trivial⟩ (Sub.refl _)
        · refine AO.weak (ρ' := [(17, (eStr p0)), (18, (eI64 x8))]) (H' := []) ⟨rfl, rfl, trivial⟩ (Sub.refl _) ?_
          refine AO.calm rfl 19 rfl (by decide) (eU8 (byteAt p0 x8)) (Calm.idxS rfl rfl rfl hg12 Try.underlying9) ?_
          exact AO.nilE (ρ' := [(19, (eU8 (byteAt p0 x8)))]) (H' := []) ⟨⟨_, rfl, rfl⟩, Sub.refl _⟩ ⟨rfl, trivial⟩ (Sub.refl _)
        · refine AO.weak (ρ' := [(1, (eU8 p1))]) (H' := []) ⟨rfl, trivial⟩ (Sub.refl _) ?_
          refine AO.calm rfl 20 rfl (by decide) (eU8 p1) (Calm.move rfl rfl) ?_
          exact AO.nilE (ρ' := [(20, (eU8 p1))]) (H' := []) ⟨⟨_, rfl, rfl⟩, Sub.refl _⟩ ⟨rfl, trivial⟩ (Sub.refl _)
        · refine AO.weak (ρ' := [(20, (eU8 p1))]) (H' := []) ⟨rfl, trivial⟩ (Sub.refl _) ?_
          refine AO.lit (Z := (eU8 (0 : Int))) (xs := (([p1] : List Int).map eU8)) (qs := [(0, (eU8 p1))]) rfl 21 rfl (by decide) rfl ⟨rfl, rfl, rfl, trivial⟩ Try.underlying87 sz5 zr5 lay5 rfl (by decide) (litOK (z := 1) [(eU8 p1)] rfl ⟨⟨rfl, rfl⟩, trivial⟩) rfl fun n13 => ?_
          refine AO.freezeS 0 [(21, (.fz 1 (([p1] : List Int).map eU8)))] rfl ⟨fz_all rfl, trivial⟩ ?_
          exact AO.nilE (ρ' := [(21, (.fz 1 (([p1] : List Int).map eU8)))]) (H' := []) ⟨⟨_, rfl, rfl⟩, Sub.refl _⟩ ⟨rfl, trivial⟩ (Sub.refl _)
        · refine AO.weak (ρ' := [(21, (.fz 1 (([p1] : List Int).map eU8)))]) (H' := []) ⟨rfl, trivial⟩ (Sub.refl _) ?_
          refine AO.calm rfl 22 rfl (by decide) (eStr (strOfNums ([p1] : List Int))) (Calm.strL rfl rfl Try.underlying87 Try.underlying9 Try.underlying5) ?_
          exact AO.nilE (ρ' := [(22, (eStr (strOfNums ([p1] : List Int))))]) (H' := []) ⟨⟨_, rfl, rfl⟩, Sub.refl _⟩ ⟨rfl, trivial⟩ (Sub.refl _)
        · refine AO.weak (ρ' := [(19, (eU8 (byteAt p0 x8))), (22, (eStr (strOfNums ([p1] : List Int))))]) (H' := []) ⟨rfl, rfl, trivial⟩ (Sub.refl _) ?_
          refine AO.callS [(eU8 (byteAt p0 x8)), (eStr (strOfNums ([p1] : List Int)))] (eStr t14) 23 rfl (by decide) ok46 rfl rfl rfl ⟨rfl, rfl, rfl, rfl, trivial⟩ (bosketref03_Byte_spec et14) ?_
          exact AO.nilE (ρ' := [(23, (eStr t14))]) (H' := []) ⟨⟨_, rfl, rfl⟩, Sub.refl _⟩ ⟨rfl, trivial⟩ (Sub.refl _)
        · refine AO.weak (ρ' := [(16, (eStr x7)), (23, (eStr t14))]) (H' := []) ⟨rfl, rfl, trivial⟩ (Sub.refl _) ?_
          refine AO.calm rfl 24 rfl (by decide) (eStr (x7 ++ t14)) (Calm.cat rfl rfl rfl hg15) ?_
          exact AO.nilE (ρ' := [(24, (eStr (x7 ++ t14)))]) (H' := []) ⟨⟨_, rfl, rfl⟩, Sub.refl _⟩ ⟨rfl, trivial⟩ (Sub.refl _)
        · refine AO.weak (ρ' := [(24, (eStr (x7 ++ t14)))]) (H' := []) ⟨rfl, trivial⟩ (Sub.refl _) ?_
          refine AO.calm rfl 5 rfl (by decide) (eStr (x7 ++ t14)) (Calm.assign rfl rfl) ?_
          exact AO.nilE (ρ' := [(5, (eStr (x7 ++ t14)))]) (H' := []) ⟨⟨_, rfl, rfl⟩, Sub.refl _⟩ ⟨rfl, trivial⟩ (Sub.refl _)
      · refine AW.reg ?_
        refine AO.calm rfl 14 rfl (by decide) (eI64 x8) (Calm.move rfl rfl) ?_
        refine AO.calm rfl 15 rfl (by decide) (eI64 (w64 (x8 + (1 : Int)))) (Calm.int rfl rfl rfl rfl) ?_
        refine AO.calm rfl 6 rfl (by decide) (eI64 (w64 (x8 + (1 : Int)))) (Calm.assign rfl rfl) ?_
        refine AO.nil (ρ' := [(0, (eStr p0)), (1, (eU8 p1)), (5, (eStr (x7 ++ t14))), (6, (eI64 (w64 (x8 + (1 : Int)))))]) (H' := []) ⟨rfl, rfl, rfl, rfl, trivial⟩ (Sub.refl _) ?_
        exact ⟨kq10, Nat.lt_succ_self _, (x7 ++ t14), (w64 (x8 + (1 : Int))), rfl, rfl, by rw [hrec9]; exact h⟩
    · have h := (if_neg hc11).symm.trans h
      refine AW.condN (x8 < (p0.size : Int)) rfl hc11 ?_
      refine AW.exit (ρ' := [(1, (eU8 p1)), (5, (eStr x7))]) (H' := []) ⟨rfl, rfl, trivial⟩ (Sub.refl _) ?_
      exact ⟨x7, rfl, rfl, h⟩
  · rintro _ _ ⟨x4, rfl, rfl, h⟩
    rw [bosketref03_Quote_c0.eq_1] at h
    refine AW.seq ?_
    refine AW.reg ?_
    refine AO.calm rfl 25 rfl (by decide) (eStr x4) (Calm.move rfl rfl) ?_
    refine AO.calm rfl 26 rfl (by decide) (eU8 p1) (Calm.move rfl rfl) ?_
    refine AO.lit (Z := (eU8 (0 : Int))) (xs := (([p1] : List Int).map eU8)) (qs := [(0, (eU8 p1))]) rfl 27 rfl (by decide) rfl ⟨rfl, rfl, rfl, trivial⟩ Try.underlying87 sz5 zr5 lay5 rfl (by decide) (litOK (z := 1) [(eU8 p1)] rfl ⟨⟨rfl, rfl⟩, trivial⟩) rfl fun n5 => ?_
    refine AO.calm rfl 28 rfl (by decide) (eStr (strOfNums ([p1] : List Int))) (Calm.strO 0 rfl rfl rfl Try.underlying87 Try.underlying9 Try.underlying5) ?_
    obtain ⟨hg6, h⟩ := of_guard h
    refine AO.calm rfl 29 rfl (by decide) (eStr (x4 ++ (strOfNums ([p1] : List Int)))) (Calm.cat rfl rfl rfl hg6) ?_
    refine AO.calm rfl 4 rfl (by decide) (eStr (x4 ++ (strOfNums ([p1] : List Int)))) (Calm.assign rfl rfl) ?_
    refine AO.nil (ρ' := [(4, (eStr (x4 ++ (strOfNums ([p1] : List Int)))))]) (H' := []) ⟨rfl, trivial⟩ (Sub.nil _) ?_
    refine AW.ret (ρ' := [(4, (eStr (x4 ++ (strOfNums ([p1] : List Int)))))]) (H' := []) ⟨rfl, trivial⟩ (Sub.refl _) ?_
    have hr := Option.some.inj h
    subst hr
    exact ⟨[(eStr (x4 ++ (strOfNums ([p1] : List Int))))], ⟨rfl, rfl, trivial⟩, rfl⟩
end Go.Avl.T1
/- bosket/bosketlaw03.EscapeQuotes; printed by avmain.py. -/
namespace Go.Avl.T1
open Go Go.RowKit Go.Proofs Go.Avl
set_option linter.unusedVariables false
set_option maxRecDepth 100000
set_option maxHeartbeats 4000000
attribute [local irreducible] AW AO AQ Spec SpecH Calm

def bosketlaw03_EscapeQuotes (k : Nat) (p0 : ByteArray) (p1 : ByteArray) (p2 : Int) : Option Bool :=
  (bosketlaw03_awake k).bind fun t4 =>
  if (!t4) = true then some (false)
  else Option.bind (α := Bool) (if (300 : Int) < (p0.size : Int) then some (true)
  else some (decide ((300 : Int) < (p1.size : Int)))) fun b6 =>
  if b6 = true then some (true)
  else (bosketlaw03_quote k p2).bind fun t10 =>
  (escape_Quote k p0 t10).bind fun t11 =>
  if t11.size + p1.size ≤ 9223372036854775807 then (escape_Unquote k (t11 ++ p1) t10).bind fun t13 =>
  (escape_Unquote k p1 t10).bind fun t14 =>
  (bosketref03_Unquote k p1 t10).bind fun t15 =>
  Option.bind (α := Bool) ((bosketref03_Quote k p0 t10).bind fun t18 =>
  if t11 = t18 then if t13.2.2 = true then if t13.1 = p0 then if t13.2.1 = (t11.size : Int) then if t14.1 = t15.1 then if t14.2.1 = t15.2.1 then some ((t14.2.2 == t15.2.2))
  else some (false)
  else some (false)
  else some (false)
  else some (false)
  else some (false)
  else some (false)) fun b16 =>
  some (b16)
  else none
theorem bosketlaw03_EscapeQuotes_spec {k : Nat} {p0 : ByteArray} {p1 : ByteArray} {p2 : Int} {r : Bool} (h : bosketlaw03_EscapeQuotes k p0 p1 p2 = some r) : Spec Try.prog 11 [(eStr p0), (eStr p1), (eU8 p2)] (eBool r) := by
  rw [bosketlaw03_EscapeQuotes.eq_1] at h
  refine Spec.intro (res := [.tmp 6]) Try.func11 rfl rfl rfl (Nat.le_of_ble_eq_true rfl) ?_
  refine AW.seq ?_
  refine AW.reg ?_
  refine AO.calm rfl 6 rfl (by decide) (eBool false) (Calm.assign rfl rfl) ?_
  refine AO.nil (ρ' := [(0, (eStr p0)), (1, (eStr p1)), (2, (eU8 p2))]) (H' := []) ⟨rfl, rfl, rfl, trivial⟩ (Sub.refl _) ?_
  refine AW.seq ?_
  refine AW.seq ?_
  refine AW.reg ?_
  obtain ⟨t4, et4, h⟩ := of_bind h
  refine AO.callS [] (eBool t4) 18 rfl (by decide) ok37 rfl rfl rfl trivial (bosketlaw03_awake_spec et4) ?_
  refine AO.calm rfl 19 rfl (by decide) (eBool (!t4)) (Calm.not rfl rfl) ?_
  refine AO.nil (ρ' := [(0, (eStr p0)), (1, (eStr p1)), (2, (eU8 p2)), (19, (eBool (!t4)))]) (H' := []) ⟨rfl, rfl, rfl, rfl, trivial⟩ (Sub.refl _) ?_
  by_cases hc5 : (!t4) = true
  · have h := (if_pos hc5).symm.trans h
    refine AW.condT' (!t4) rfl hc5 ?_
    refine AW.seq ?_
    refine AW.reg ?_
    refine AO.calm rfl 6 rfl (by decide) (eBool false) (Calm.assign rfl rfl) ?_
    refine AO.nil (ρ' := [(6, (eBool false))]) (H' := []) ⟨rfl, trivial⟩ (Sub.refl _) ?_
    refine AW.ret (ρ' := [(6, (eBool false))]) (H' := []) ⟨rfl, trivial⟩ (Sub.refl _) ?_
    have hr := Option.some.inj h
    subst hr
    exact ⟨[(eBool false)], ⟨rfl, rfl, trivial⟩, rfl⟩
  · have h := (if_neg hc5).symm.trans h
    refine AW.condF' (!t4) rfl hc5 ?_
    refine AW.skip (ρ' := [(0, (eStr p0)), (1, (eStr p1)), (2, (eU8 p2))]) (H' := []) ⟨rfl, rfl, rfl, trivial⟩ (Sub.refl _) ?_
    refine AW.seq ?_
    refine AW.seq ?_
    obtain ⟨b6, hq7, h⟩ := of_bind h
    refine AW.regM [(0, (eStr p0)), (1, (eStr p1)), (2, (eU8 p2)), (27, (eBool b6))] [] ?_ ?_
    · refine AO.calm rfl 20 rfl (by decide) (eStr p0) (Calm.move rfl rfl) ?_
      refine AO.calm rfl 21 rfl (by decide) (eI64 (p0.size : Int)) (Calm.lenStr rfl rfl Try.underlying9) ?_
      refine AO.calm rfl 22 rfl (by decide) (eBool (decide ((300 : Int) < (p0.size : Int)))) (Calm.int rfl rfl rfl rfl) ?_
      refine AO.calm rfl 23 rfl (by decide) (eBool (decide ((300 : Int) < (p0.size : Int)))) (Calm.move rfl rfl) ?_
      by_cases hc8 : (300 : Int) < (p0.size : Int)
      · have hq7 := (if_pos hc8).symm.trans hq7
        refine AO.skipG 3 true 23 rfl rfl (congrArg (fun b => some (AV.fl (Value.bool b))) (decide_eq_true hc8)) 24 rfl (by decide) ?_
        refine AO.skipG 3 true 23 rfl rfl (congrArg (fun b => some (AV.fl (Value.bool b))) (decide_eq_true hc8)) 25 rfl (by decide) ?_
        refine AO.skipG 3 true 23 rfl rfl (congrArg (fun b => some (AV.fl (Value.bool b))) (decide_eq_true hc8)) 26 rfl (by decide) ?_
        refine AO.calm rfl 27 rfl (by decide) (eBool true) (Calm.pickT rfl (congrArg (fun b => some (AV.fl (Value.bool b))) (decide_eq_true hc8)) rfl) ?_
        cases hq7
        refine AO.nilE ⟨rfl, rfl⟩ ?_ ?_
        · exact ⟨rfl, rfl, rfl, rfl, trivial⟩
        · exact (Sub.refl _)
      · have hq7 := (if_neg hc8).symm.trans hq7
        refine AO.calmG 3 false 23 rfl rfl (congrArg (fun b => some (AV.fl (Value.bool b))) (decide_eq_false hc8)) 24 rfl (by decide) (eStr p1) (Calm.move rfl rfl) ?_
        refine AO.calmG 3 false 23 rfl rfl (congrArg (fun b => some (AV.fl (Value.bool b))) (decide_eq_false hc8)) 25 rfl (by decide) (eI64 (p1.size : Int)) (Calm.lenStr rfl rfl Try.underlying9) ?_
        refine AO.calmG 3 false 23 rfl rfl (congrArg (fun b => some (AV.fl (Value.bool b))) (decide_eq_false hc8)) 26 rfl (by decide) (eBool (decide ((300 : Int) < (p1.size : Int)))) (Calm.int rfl rfl rfl rfl) ?_
        refine AO.calm rfl 27 rfl (by decide) (eBool (decide ((300 : Int) < (p1.size : Int)))) (Calm.pickF rfl (congrArg (fun b => some (AV.fl (Value.bool b))) (decide_eq_false hc8)) rfl) ?_
        cases hq7
        refine AO.nilE ⟨rfl, rfl⟩ ?_ ?_
        · exact ⟨rfl, rfl, rfl, rfl, trivial⟩
        · exact (Sub.refl _)
    · by_cases hc9 : b6 = true
      · have h := (if_pos hc9).symm.trans h
        refine AW.condT' b6 rfl hc9 ?_
        refine AW.seq ?_
        refine AW.reg ?_
        refine AO.calm rfl 6 rfl (by decide) (eBool true) (Calm.assign rfl rfl) ?_
        refine AO.nil (ρ' := [(6, (eBool true))]) (H' := []) ⟨rfl, trivial⟩ (Sub.refl _) ?_
        refine AW.ret (ρ' := [(6, (eBool true))]) (H' := []) ⟨rfl, trivial⟩ (Sub.refl _) ?_
        have hr := Option.some.inj h
        subst hr
        exact ⟨[(eBool true)], ⟨rfl, rfl, trivial⟩, rfl⟩
      · have h := (if_neg hc9).symm.trans h
        refine AW.condF' b6 rfl hc9 ?_
        refine AW.skip (ρ' := [(0, (eStr p0)), (1, (eStr p1)), (2, (eU8 p2))]) (H' := []) ⟨rfl, rfl, rfl, trivial⟩ (Sub.refl _) ?_
        refine AW.seq ?_
        refine AW.reg ?_
        refine AO.calm rfl 28 rfl (by decide) (eU8 p2) (Calm.move rfl rfl) ?_
        obtain ⟨t10, et10, h⟩ := of_bind h
        refine AO.callS [(eU8 p2)] (eU8 t10) 29 rfl (by decide) ok47 rfl rfl rfl ⟨rfl, rfl, trivial⟩ (bosketlaw03_quote_spec et10) ?_
        refine AO.calm rfl 7 rfl (by decide) (eU8 t10) (Calm.assign rfl rfl) ?_
        refine AO.nil (ρ' := [(0, (eStr p0)), (1, (eStr p1)), (7, (eU8 t10))]) (H' := []) ⟨rfl, rfl, rfl, trivial⟩ (Sub.refl _) ?_
        refine AW.seq ?_
        refine AW.reg ?_
        refine AO.calm rfl 30 rfl (by decide) (eStr p0) (Calm.move rfl rfl) ?_
        refine AO.calm rfl 31 rfl (by decide) (eU8 t10) (Calm.move rfl rfl) ?_
        obtain ⟨t11, et11, h⟩ := of_bind h
        refine AO.callS [(eStr p0), (eU8 t10)] (eStr t11) 32 rfl (by decide) ok48 rfl rfl rfl ⟨rfl, rfl, rfl, rfl, trivial⟩ (escape_Quote_spec et11) ?_
        refine AO.calm rfl 8 rfl (by decide) (eStr t11) (Calm.assign rfl rfl) ?_
        refine AO.nil (ρ' := [(0, (eStr p0)), (1, (eStr p1)), (7, (eU8 t10)), (8, (eStr t11))]) (H' := []) ⟨rfl, rfl, rfl, rfl, trivial⟩ (Sub.refl _) ?_
        refine AW.seq ?_
        refine AW.reg ?_
        refine AO.calm rfl 34 rfl (by decide) (eStr t11) (Calm.move rfl rfl) ?_
        refine AO.calm rfl 35 rfl (by decide) (eStr p1) (Calm.move rfl rfl) ?_
        obtain ⟨hg12, h⟩ := of_guard h
        refine AO.calm rfl 36 rfl (by decide) (eStr (t11 ++ p1)) (Calm.cat rfl rfl rfl hg12) ?_
        refine AO.calm rfl 37 rfl (by decide) (eU8 t10) (Calm.move rfl rfl) ?_
        obtain ⟨t13, et13, h⟩ := of_bind h
        refine AO.callS [(eStr (t11 ++ p1)), (eU8 t10)] (.tup [(eStr t13.1), (eI64 t13.2.1), (eBool t13.2.2)]) 38 rfl (by decide) ok49 rfl rfl rfl ⟨rfl, rfl, rfl, rfl, trivial⟩ (escape_Unquote_spec et13) ?_
        refine AO.calm rfl 33 rfl (by decide) (.tup [(eStr t13.1), (eI64 t13.2.1), (eBool t13.2.2)]) (Calm.move rfl rfl) ?_
        refine AO.calm rfl 39 rfl (by decide) (eStr t13.1) (Calm.extract rfl rfl rfl) ?_
        refine AO.calm rfl 40 rfl (by decide) (eI64 t13.2.1) (Calm.extract rfl rfl rfl) ?_
        refine AO.calm rfl 41 rfl (by decide) (eBool t13.2.2) (Calm.extract rfl rfl rfl) ?_
        refine AO.calm rfl 9 rfl (by decide) (eStr t13.1) (Calm.assign rfl rfl) ?_
        refine AO.calm rfl 10 rfl (by decide) (eI64 t13.2.1) (Calm.assign rfl rfl) ?_
        refine AO.calm rfl 11 rfl (by decide) (eBool t13.2.2) (Calm.assign rfl rfl) ?_
        refine AO.nil (ρ' := [(0, (eStr p0)), (1, (eStr p1)), (7, (eU8 t10)), (8, (eStr t11)), (9, (eStr t13.1)), (10, (eI64 t13.2.1)), (11, (eBool t13.2.2))]) (H' := []) ⟨rfl, rfl, rfl, rfl, rfl, rfl, rfl, trivial⟩ (Sub.refl _) ?_
        refine AW.seq ?_
        refine AW.reg ?_
        refine AO.calm rfl 43 rfl (by decide) (eStr p1) (Calm.move rfl rfl) ?_
        refine AO.calm rfl 44 rfl (by decide) (eU8 t10) (Calm.move rfl rfl) ?_
        obtain ⟨t14, et14, h⟩ := of_bind h
        refine AO.callS [(eStr p1), (eU8 t10)] (.tup [(eStr t14.1), (eI64 t14.2.1), (eBool t14.2.2)]) 45 rfl (by decide) ok49 rfl rfl rfl ⟨rfl, rfl, rfl, rfl, trivial⟩ (escape_Unquote_spec et14) ?_
        refine AO.calm rfl 42 rfl (by decide) (.tup [(eStr t14.1), (eI64 t14.2.1), (eBool t14.2.2)]) (Calm.move rfl rfl) ?_
        refine AO.calm rfl 46 rfl (by decide) (eStr t14.1) (Calm.extract rfl rfl rfl) ?_
        refine AO.calm rfl 47 rfl (by decide) (eI64 t14.2.1) (Calm.extract rfl rfl rfl) ?_
        refine AO.calm rfl 48 rfl (by decide) (eBool t14.2.2) (Calm.extract rfl rfl rfl) ?_
        refine AO.calm rfl 12 rfl (by decide) (eStr t14.1) (Calm.assign rfl rfl) ?_
        refine AO.calm rfl 13 rfl (by decide) (eI64 t14.2.1) (Calm.assign rfl rfl) ?_
        refine AO.calm rfl 14 rfl (by decide) (eBool t14.2.2) (Calm.assign rfl rfl) ?_
        refine AO.nil (ρ' := [(0, (eStr p0)), (1, (eStr p1)), (7, (eU8 t10)), (8, (eStr t11)), (9, (eStr t13.1)), (10, (eI64 t13.2.1)), (11, (eBool t13.2.2)), (12, (eStr t14.1)), (13, (eI64 t14.2.1)), (14, (eBool t14.2.2))]) (H' := []) ⟨rfl, rfl, rfl, rfl, rfl, rfl, rfl, rfl, rfl, rfl, trivial⟩ (Sub.refl _) ?_
        refine AW.seq ?_
        refine AW.reg ?_
        refine AO.calm rfl 50 rfl (by decide) (eStr p1) (Calm.move rfl rfl) ?_
        refine AO.calm rfl 51 rfl (by decide) (eU8 t10) (Calm.move rfl rfl) ?_
        obtain ⟨t15, et15, h⟩ := of_bind h
        refine AO.callS [(eStr p1), (eU8 t10)] (.tup [(eStr t15.1), (eI64 t15.2.1), (eBool t15.2.2)]) 52 rfl (by decide) ok50 rfl rfl rfl ⟨rfl, rfl, rfl, rfl, trivial⟩ (bosketref03_Unquote_spec et15) ?_
        refine AO.calm rfl 49 rfl (by decide) (.tup [(eStr t15.1), (eI64 t15.2.1), (eBool t15.2.2)]) (Calm.move rfl rfl) ?_
        refine AO.calm rfl 53 rfl (by decide) (eStr t15.1) (Calm.extract rfl rfl rfl) ?_
        refine AO.calm rfl 54 rfl (by decide) (eI64 t15.2.1) (Calm.extract rfl rfl rfl) ?_
        refine AO.calm rfl 55 rfl (by decide) (eBool t15.2.2) (Calm.extract rfl rfl rfl) ?_
        refine AO.calm rfl 15 rfl (by decide) (eStr t15.1) (Calm.assign rfl rfl) ?_
        refine AO.calm rfl 16 rfl (by decide) (eI64 t15.2.1) (Calm.assign rfl rfl) ?_
        refine AO.calm rfl 17 rfl (by decide) (eBool t15.2.2) (Calm.assign rfl rfl) ?_
        refine AO.nil (ρ' := [(0, (eStr p0)), (7, (eU8 t10)), (8, (eStr t11)), (9, (eStr t13.1)), (10, (eI64 t13.2.1)), (11, (eBool t13.2.2)), (12, (eStr t14.1)), (13, (eI64 t14.2.1)), (14, (eBool t14.2.2)), (15, (eStr t15.1)), (16, (eI64 t15.2.1)), (17, (eBool t15.2.2))]) (H' := []) ⟨rfl, rfl, rfl, rfl, rfl, rfl, rfl, rfl, rfl, rfl, rfl, rfl, trivial⟩ (Sub.refl _) ?_
        refine AW.seq ?_
        obtain ⟨b16, hq17, h⟩ := of_bind h
        refine AW.regM [(6, (eBool b16))] [] ?_ ?_
        · refine AO.calm rfl 56 rfl (by decide) (eStr t11) (Calm.move rfl rfl) ?_
          refine AO.calm rfl 57 rfl (by decide) (eStr p0) (Calm.move rfl rfl) ?_
          refine AO.calm rfl 58 rfl (by decide) (eU8 t10) (Calm.move rfl rfl) ?_
          obtain ⟨t18, et18, hq17⟩ := of_bind hq17
          refine AO.callS [(eStr p0), (eU8 t10)] (eStr t18) 59 rfl (by decide) ok51 rfl rfl rfl ⟨rfl, rfl, rfl, rfl, trivial⟩ (bosketref03_Quote_spec et18) ?_
          refine AO.calm rfl 60 rfl (by decide) (eBool (decide (t11 = t18))) (Calm.str rfl rfl rfl rfl) ?_
          refine AO.calm rfl 61 rfl (by decide) (eBool (decide (t11 = t18))) (Calm.move rfl rfl) ?_
          by_cases hc19 : t11 = t18
          · have hq17 := (if_pos hc19).symm.trans hq17
            refine AO.calmG 5 true 61 rfl rfl (congrArg (fun b => some (AV.fl (Value.bool b))) (decide_eq_true hc19)) 62 rfl (by decide) (eBool t13.2.2) (Calm.move rfl rfl) ?_
            refine AO.calm rfl 63 rfl (by decide) (eBool t13.2.2) (Calm.pickT rfl (congrArg (fun b => some (AV.fl (Value.bool b))) (decide_eq_true hc19)) rfl) ?_
            refine AO.calm rfl 64 rfl (by decide) (eBool t13.2.2) (Calm.move rfl rfl) ?_
            by_cases hc20 : t13.2.2 = true
            · have hq17 := (if_pos hc20).symm.trans hq17
              refine AO.calmG 8 true 64 rfl rfl (congrArg (fun b => some (AV.fl (Value.bool b))) hc20) 65 rfl (by decide) (eStr t13.1) (Calm.move rfl rfl) ?_
              refine AO.calmG 8 true 64 rfl rfl (congrArg (fun b => some (AV.fl (Value.bool b))) hc20) 66 rfl (by decide) (eStr p0) (Calm.move rfl rfl) ?_
              refine AO.calmG 8 true 64 rfl rfl (congrArg (fun b => some (AV.fl (Value.bool b))) hc20) 67 rfl (by decide) (eBool (decide (t13.1 = p0))) (Calm.str rfl rfl rfl rfl) ?_
              refine AO.calm rfl 68 rfl (by decide) (eBool (decide (t13.1 = p0))) (Calm.pickT rfl (congrArg (fun b => some (AV.fl (Value.bool b))) hc20) rfl) ?_
              refine AO.calm rfl 69 rfl (by decide) (eBool (decide (t13.1 = p0))) (Calm.move rfl rfl) ?_
              by_cases hc21 : t13.1 = p0
              · have hq17 := (if_pos hc21).symm.trans hq17
                refine AO.calmG 13 true 69 rfl rfl (congrArg (fun b => some (AV.fl (Value.bool b))) (decide_eq_true hc21)) 70 rfl (by decide) (eI64 t13.2.1) (Calm.move rfl rfl) ?_
                refine AO.calmG 13 true 69 rfl rfl (congrArg (fun b => some (AV.fl (Value.bool b))) (decide_eq_true hc21)) 71 rfl (by decide) (eStr t11) (Calm.move rfl rfl) ?_
                refine AO.calmG 13 true 69 rfl rfl (congrArg (fun b => some (AV.fl (Value.bool b))) (decide_eq_true hc21)) 72 rfl (by decide) (eI64 (t11.size : Int)) (Calm.lenStr rfl rfl Try.underlying9) ?_
                refine AO.calmG 13 true 69 rfl rfl (congrArg (fun b => some (AV.fl (Value.bool b))) (decide_eq_true hc21)) 73 rfl (by decide) (eBool (decide (t13.2.1 = (t11.size : Int)))) (Calm.int rfl rfl rfl rfl) ?_
                refine AO.calm rfl 74 rfl (by decide) (eBool (decide (t13.2.1 = (t11.size : Int)))) (Calm.pickT rfl (congrArg (fun b => some (AV.fl (Value.bool b))) (decide_eq_true hc21)) rfl) ?_
                refine AO.calm rfl 75 rfl (by decide) (eBool (decide (t13.2.1 = (t11.size : Int)))) (Calm.move rfl rfl) ?_
                by_cases hc22 : t13.2.1 = (t11.size : Int)
                · have hq17 := (if_pos hc22).symm.trans hq17
                  refine AO.calmG 19 true 75 rfl rfl (congrArg (fun b => some (AV.fl (Value.bool b))) (decide_eq_true hc22)) 76 rfl (by decide) (eStr t14.1) (Calm.move rfl rfl) ?_
                  refine AO.calmG 19 true 75 rfl rfl (congrArg (fun b => some (AV.fl (Value.bool b))) (decide_eq_true hc22)) 77 rfl (by decide) (eStr t15.1) (Calm.move rfl rfl) ?_
                  refine AO.calmG 19 true 75 rfl rfl (congrArg (fun b => some (AV.fl (Value.bool b))) (decide_eq_true hc22)) 78 rfl (by decide) (eBool (decide (t14.1 = t15.1))) (Calm.str rfl rfl rfl rfl) ?_
                  refine AO.calm rfl 79 rfl (by decide) (eBool (decide (t14.1 = t15.1))) (Calm.pickT rfl (congrArg (fun b => some (AV.fl (Value.bool b))) (decide_eq_true hc22)) rfl) ?_
                  refine AO.calm rfl 80 rfl (by decide) (eBool (decide (t14.1 = t15.1))) (Calm.move rfl rfl) ?_
                  by_cases hc23 : t14.1 = t15.1
                  · have hq17 := (if_pos hc23).symm.trans hq17
                    refine AO.calmG 24 true 80 rfl rfl (congrArg (fun b => some (AV.fl (Value.bool b))) (decide_eq_true hc23)) 81 rfl (by decide) (eI64 t14.2.1) (Calm.move rfl rfl) ?_
                    refine AO.calmG 24 true 80 rfl rfl (congrArg (fun b => some (AV.fl (Value.bool b))) (decide_eq_true hc23)) 82 rfl (by decide) (eI64 t15.2.1) (Calm.move rfl rfl) ?_
                    refine AO.calmG 24 true 80 rfl rfl (congrArg (fun b => some (AV.fl (Value.bool b))) (decide_eq_true hc23)) 83 rfl (by decide) (eBool (decide (t14.2.1 = t15.2.1))) (Calm.int rfl rfl rfl rfl) ?_
                    refine AO.calm rfl 84 rfl (by decide) (eBool (decide (t14.2.1 = t15.2.1))) (Calm.pickT rfl (congrArg (fun b => some (AV.fl (Value.bool b))) (decide_eq_true hc23)) rfl) ?_
                    refine AO.calm rfl 85 rfl (by decide) (eBool (decide (t14.2.1 = t15.2.1))) (Calm.move rfl rfl) ?_
                    by_cases hc24 : t14.2.1 = t15.2.1
                    · have hq17 := (if_pos hc24).symm.trans hq17
                      refine AO.calmG 29 true 85 rfl rfl (congrArg (fun b => some (AV.fl (Value.bool b))) (decide_eq_true hc24)) 86 rfl (by decide) (eBool t14.2.2) (Calm.move rfl rfl) ?_
                      refine AO.calmG 29 true 85 rfl rfl (congrArg (fun b => some (AV.fl (Value.bool b))) (decide_eq_true hc24)) 87 rfl (by decide) (eBool t15.2.2) (Calm.move rfl rfl) ?_
                      refine AO.calmG 29 true 85 rfl rfl (congrArg (fun b => some (AV.fl (Value.bool b))) (decide_eq_true hc24)) 88 rfl (by decide) (eBool (t14.2.2 == t15.2.2)) (Calm.boolEq rfl rfl rfl Try.underlying4) ?_
                      refine AO.calm rfl 89 rfl (by decide) (eBool (t14.2.2 == t15.2.2)) (Calm.pickT rfl (congrArg (fun b => some (AV.fl (Value.bool b))) (decide_eq_true hc24)) rfl) ?_
                      refine AO.calm rfl 6 rfl (by decide) (eBool (t14.2.2 == t15.2.2)) (Calm.assign rfl rfl) ?_
                      cases hq17
                      refine AO.nilE ⟨rfl, rfl⟩ ?_ ?_
                      · exact ⟨rfl, trivial⟩
                      · exact (Sub.refl _)
                    · have hq17 := (if_neg hc24).symm.trans hq17
                      refine AO.skipG 29 false 85 rfl rfl (congrArg (fun b => some (AV.fl (Value.bool b))) (decide_eq_false hc24)) 86 rfl (by decide) ?_
                      refine AO.skipG 29 false 85 rfl rfl (congrArg (fun b => some (AV.fl (Value.bool b))) (decide_eq_false hc24)) 87 rfl (by decide) ?_
                      refine AO.skipG 29 false 85 rfl rfl (congrArg (fun b => some (AV.fl (Value.bool b))) (decide_eq_false hc24)) 88 rfl (by decide) ?_
                      refine AO.calm rfl 89 rfl (by decide) (eBool false) (Calm.pickF rfl (congrArg (fun b => some (AV.fl (Value.bool b))) (decide_eq_false hc24)) rfl) ?_
                      refine AO.calm rfl 6 rfl (by decide) (eBool false) (Calm.assign rfl rfl) ?_
                      cases hq17
                      refine AO.nilE ⟨rfl, rfl⟩ ?_ ?_
                      · exact ⟨rfl, trivial⟩
                      · exact (Sub.refl _)
                  · have hq17 := (if_neg hc23).symm.trans hq17
                    refine AO.skipG 24 false 80 rfl rfl (congrArg (fun b => some (AV.fl (Value.bool b))) (decide_eq_false hc23)) 81 rfl (by decide) ?_
                    refine AO.skipG 24 false 80 rfl rfl (congrArg (fun b => some (AV.fl (Value.bool b))) (decide_eq_false hc23)) 82 rfl (by decide) ?_
                    refine AO.skipG 24 false 80 rfl rfl (congrArg (fun b => some (AV.fl (Value.bool b))) (decide_eq_false hc23)) 83 rfl (by decide) ?_
                    refine AO.calm rfl 84 rfl (by decide) (eBool false) (Calm.pickF rfl (congrArg (fun b => some (AV.fl (Value.bool b))) (decide_eq_false hc23)) rfl) ?_
                    refine AO.calm rfl 85 rfl (by decide) (eBool false) (Calm.move rfl rfl) ?_
                    refine AO.skipG 29 false 85 rfl rfl rfl 86 rfl (by decide) ?_
                    refine AO.skipG 29 false 85 rfl rfl rfl 87 rfl (by decide) ?_
                    refine AO.skipG 29 false 85 rfl rfl rfl 88 rfl (by decide) ?_
                    refine AO.calm rfl 89 rfl (by decide) (eBool false) (Calm.pickF rfl rfl rfl) ?_
                    refine AO.calm rfl 6 rfl (by decide) (eBool false) (Calm.assign rfl rfl) ?_
                    cases hq17
                    refine AO.nilE ⟨rfl, rfl⟩ ?_ ?_
                    · exact ⟨rfl, trivial⟩
                    · exact (Sub.refl _)
                · have hq17 := (if_neg hc22).symm.trans hq17
                  refine AO.skipG 19 false 75 rfl rfl (congrArg (fun b => some (AV.fl (Value.bool b))) (decide_eq_false hc22)) 76 rfl (by decide) ?_
                  refine AO.skipG 19 false 75 rfl rfl (congrArg (fun b => some (AV.fl (Value.bool b))) (decide_eq_false hc22)) 77 rfl (by decide) ?_
                  refine AO.skipG 19 false 75 rfl rfl (congrArg (fun b => some (AV.fl (Value.bool b))) (decide_eq_false hc22)) 78 rfl (by decide) ?_
                  refine AO.calm rfl 79 rfl (by decide) (eBool false) (Calm.pickF rfl (congrArg (fun b => some (AV.fl (Value.bool b))) (decide_eq_false hc22)) rfl) ?_
                  refine AO.calm rfl 80 rfl (by decide) (eBool false) (Calm.move rfl rfl) ?_
                  refine AO.skipG 24 false 80 rfl rfl rfl 81 rfl (by decide) ?_
                  refine AO.skipG 24 false 80 rfl rfl rfl 82 rfl (by decide) ?_
                  refine AO.skipG 24 false 80 rfl rfl rfl 83 rfl (by decide) ?_
                  refine AO.calm rfl 84 rfl (by decide) (eBool false) (Calm.pickF rfl rfl rfl) ?_
                  refine AO.calm rfl 85 rfl (by decide) (eBool false) (Calm.move rfl rfl) ?_
                  refine AO.skipG 29 false 85 rfl rfl rfl 86 rfl (by decide) ?_
                  refine AO.skipG 29 false 85 rfl rfl rfl 87 rfl (by decide) ?_
                  refine AO.skipG 29 false 85 rfl rfl rfl 88 rfl (by decide) ?_
                  refine AO.calm rfl 89 rfl (by decide) (eBool false) (Calm.pickF rfl rfl rfl) ?_
                  refine AO.calm rfl 6 rfl (by decide) (eBool false) (Calm.assign rfl rfl) ?_
                  cases hq17
                  refine AO.nilE ⟨rfl, rfl⟩ ?_ ?_
                  · exact ⟨rfl, trivial⟩
                  · exact (Sub.refl _)
              · have hq17 := (if_neg hc21).symm.trans hq17
                refine AO.skipG 13 false 69 rfl rfl (congrArg (fun b => some (AV.fl (Value.bool b))) (decide_eq_false hc21)) 70 rfl (by decide) ?_
                refine AO.skipG 13 false 69 rfl rfl (congrArg (fun b => some (AV.fl (Value.bool b))) (decide_eq_false hc21)) 71 rfl (by decide) ?_
                refine AO.skipG 13 false 69 rfl rfl (congrArg (fun b => some (AV.fl (Value.bool b))) (decide_eq_false hc21)) 72 rfl (by decide) ?_
                refine AO.skipG 13 false 69 rfl rfl (congrArg (fun b => some (AV.fl (Value.bool b))) (decide_eq_false hc21)) 73 rfl (by decide) ?_
                refine AO.calm rfl 74 rfl (by decide) (eBool false) (Calm.pickF rfl (congrArg (fun b => some (AV.fl (Value.bool b))) (decide_eq_false hc21)) rfl) ?_
                refine AO.calm rfl 75 rfl (by decide) (eBool false) (Calm.move rfl rfl) ?_
                refine AO.skipG 19 false 75 rfl rfl rfl 76 rfl (by decide) ?_
                refine AO.skipG 19 false 75 rfl rfl rfl 77 rfl (by decide) ?_
                refine AO.skipG 19 false 75 rfl rfl rfl 78 rfl (by decide) ?_
                refine AO.calm rfl 79 rfl (by decide) (eBool false) (Calm.pickF rfl rfl rfl) ?_
                refine AO.calm rfl 80 rfl (by decide) (eBool false) (Calm.move rfl rfl) ?_
                refine AO.skipG 24 false 80 rfl rfl rfl 81 rfl (by decide) ?_
                refine AO.skipG 24 false 80 rfl rfl rfl 82 rfl (by decide) ?_
                refine AO.skipG 24 false 80 rfl rfl rfl 83 rfl (by decide) ?_
                refine AO.calm rfl 84 rfl (by decide) (eBool false) (Calm.pickF rfl rfl rfl) ?_
                refine AO.calm rfl 85 rfl (by decide) (eBool false) (Calm.move rfl rfl) ?_
                refine AO.skipG 29 false 85 rfl rfl rfl 86 rfl (by decide) ?_
                refine AO.skipG 29 false 85 rfl rfl rfl 87 rfl (by decide) ?_
                refine AO.skipG 29 false 85 rfl rfl rfl 88 rfl (by decide) ?_
                refine AO.calm rfl 89 rfl (by decide) (eBool false) (Calm.pickF rfl rfl rfl) ?_
                refine AO.calm rfl 6 rfl (by decide) (eBool false) (Calm.assign rfl rfl) ?_
                cases hq17
                refine AO.nilE ⟨rfl, rfl⟩ ?_ ?_
                · exact ⟨rfl, trivial⟩
                · exact (Sub.refl _)
            · have hq17 := (if_neg hc20).symm.trans hq17
              refine AO.skipG 8 false 64 rfl rfl (congrArg (fun b => some (AV.fl (Value.bool b))) (eq_false_of_ne_true hc20)) 65 rfl (by decide) ?_
              refine AO.skipG 8 false 64 rfl rfl (congrArg (fun b => some (AV.fl (Value.bool b))) (eq_false_of_ne_true hc20)) 66 rfl (by decide) ?_
              refine AO.skipG 8 false 64 rfl rfl (congrArg (fun b => some (AV.fl (Value.bool b))) (eq_false_of_ne_true hc20)) 67 rfl (by decide) ?_
              refine AO.calm rfl 68 rfl (by decide) (eBool false) (Calm.pickF rfl (congrArg (fun b => some (AV.fl (Value.bool b))) (eq_false_of_ne_true hc20)) rfl) ?_
              refine AO.calm rfl 69 rfl (by decide) (eBool false) (Calm.move rfl rfl) ?_
              refine AO.skipG 13 false 69 rfl rfl rfl 70 rfl (by decide) ?_
              refine AO.skipG 13 false 69 rfl rfl rfl 71 rfl (by decide) ?_
              refine AO.skipG 13 false 69 rfl rfl rfl 72 rfl (by decide) ?_
              refine AO.skipG 13 false 69 rfl rfl rfl 73 rfl (by decide) ?_
              refine AO.calm rfl 74 rfl (by decide) (eBool false) (Calm.pickF rfl rfl rfl) ?_
              refine AO.calm rfl 75 rfl (by decide) (eBool false) (Calm.move rfl rfl) ?_
              refine AO.skipG 19 false 75 rfl rfl rfl 76 rfl (by decide) ?_
              refine AO.skipG 19 false 75 rfl rfl rfl 77 rfl (by decide) ?_
              refine AO.skipG 19 false 75 rfl rfl rfl 78 rfl (by decide) ?_
              refine AO.calm rfl 79 rfl (by decide) (eBool false) (Calm.pickF rfl rfl rfl) ?_
              refine AO.calm rfl 80 rfl (by decide) (eBool false) (Calm.move rfl rfl) ?_
              refine AO.skipG 24 false 80 rfl rfl rfl 81 rfl (by decide) ?_
              refine AO.skipG 24 false 80 rfl rfl rfl 82 rfl (by decide) ?_
              refine AO.skipG 24 false 80 rfl rfl rfl 83 rfl (by decide) ?_
              refine AO.calm rfl 84 rfl (by decide) (eBool false) (Calm.pickF rfl rfl rfl) ?_
              refine AO.calm rfl 85 rfl (by decide) (eBool false) (Calm.move rfl rfl) ?_
              refine AO.skipG 29 false 85 rfl rfl rfl 86 rfl (by decide) ?_
              refine AO.skipG 29 false 85 rfl rfl rfl 87 rfl (by decide) ?_
              refine AO.skipG 29 false 85 rfl rfl rfl 88 rfl (by decide) ?_
              refine AO.calm rfl 89 rfl (by decide) (eBool false) (Calm.pickF rfl rfl rfl) ?_
              refine AO.calm rfl 6 rfl (by decide) (eBool false) (Calm.assign rfl rfl) ?_
              cases hq17
              refine AO.nilE ⟨rfl, rfl⟩ ?_ ?_
              · exact ⟨rfl, trivial⟩
              · exact (Sub.refl _)
          · have hq17 := (if_neg hc19).symm.trans hq17
            refine AO.skipG 5 false 61 rfl rfl (congrArg (fun b => some (AV.fl (Value.bool b))) (decide_eq_false hc19)) 62 rfl (by decide) ?_
            refine AO.calm rfl 63 rfl (by decide) (eBool false) (Calm.pickF rfl (congrArg (fun b => some (AV.fl (Value.bool b))) (decide_eq_false hc19)) rfl) ?_
            refine AO.calm rfl 64 rfl (by decide) (eBool false) (Calm.move rfl rfl) ?_
            refine AO.skipG 8 false 64 rfl rfl rfl 65 rfl (by decide) ?_
            refine AO.skipG 8 false 64 rfl rfl rfl 66 rfl (by decide) ?_
            refine AO.skipG 8 false 64 rfl rfl rfl 67 rfl (by decide) ?_
            refine AO.calm rfl 68 rfl (by decide) (eBool false) (Calm.pickF rfl rfl rfl) ?_
            refine AO.calm rfl 69 rfl (by decide) (eBool false) (Calm.move rfl rfl) ?_
            refine AO.skipG 13 false 69 rfl rfl rfl 70 rfl (by decide) ?_
            refine AO.skipG 13 false 69 rfl rfl rfl 71 rfl (by decide) ?_
            refine AO.skipG 13 false 69 rfl rfl rfl 72 rfl (by decide) ?_
            refine AO.skipG 13 false 69 rfl rfl rfl 73 rfl (by decide) ?_
            refine AO.calm rfl 74 rfl (by decide) (eBool false) (Calm.pickF rfl rfl rfl) ?_
            refine AO.calm rfl 75 rfl (by decide) (eBool false) (Calm.move rfl rfl) ?_
            refine AO.skipG 19 false 75 rfl rfl rfl 76 rfl (by decide) ?_
            refine AO.skipG 19 false 75 rfl rfl rfl 77 rfl (by decide) ?_
            refine AO.skipG 19 false 75 rfl rfl rfl 78 rfl (by decide) ?_
            refine AO.calm rfl 79 rfl (by decide) (eBool false) (Calm.pickF rfl rfl rfl) ?_
            refine AO.calm rfl 80 rfl (by decide) (eBool false) (Calm.move rfl rfl) ?_
            refine AO.skipG 24 false 80 rfl rfl rfl 81 rfl (by decide) ?_
            refine AO.skipG 24 false 80 rfl rfl rfl 82 rfl (by decide) ?_
            refine AO.skipG 24 false 80 rfl rfl rfl 83 rfl (by decide) ?_
            refine AO.calm rfl 84 rfl (by decide) (eBool false) (Calm.pickF rfl rfl rfl) ?_
            refine AO.calm rfl 85 rfl (by decide) (eBool false) (Calm.move rfl rfl) ?_
            refine AO.skipG 29 false 85 rfl rfl rfl 86 rfl (by decide) ?_
            refine AO.skipG 29 false 85 rfl rfl rfl 87 rfl (by decide) ?_
            refine AO.skipG 29 false 85 rfl rfl rfl 88 rfl (by decide) ?_
            refine AO.calm rfl 89 rfl (by decide) (eBool false) (Calm.pickF rfl rfl rfl) ?_
            refine AO.calm rfl 6 rfl (by decide) (eBool false) (Calm.assign rfl rfl) ?_
            cases hq17
            refine AO.nilE ⟨rfl, rfl⟩ ?_ ?_
            · exact ⟨rfl, trivial⟩
            · exact (Sub.refl _)
        · refine AW.ret (ρ' := [(6, (eBool b16))]) (H' := []) ⟨rfl, trivial⟩ (Sub.refl _) ?_
          have hr := Option.some.inj h
          subst hr
          exact ⟨[(eBool b16)], ⟨rfl, rfl, trivial⟩, rfl⟩
end Go.Avl.T1
