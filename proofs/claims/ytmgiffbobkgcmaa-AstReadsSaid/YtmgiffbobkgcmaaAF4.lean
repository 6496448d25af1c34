/- Parts: T2f61, T2f98, T2f87. -/
import Derived.Test.YtmgiffbobkgcmaaAF1
import Derived.Test.YtmgiffbobkgcmaaAF3
/- bosket/bosketref03.Quote; printed by avmain.py. -/
namespace Go.Avl.T2
open Go Go.RowKit Go.Proofs Go.Avl
set_option linter.unusedVariables false
set_option maxRecDepth 100000
set_option maxHeartbeats 4000000
attribute [local irreducible] AW AO AQ Spec SpecH Calm

def bosketref03_Quote_c0 (k : Nat) (p1 : Int) (x4 : ByteArray) : Option ByteArray :=
  if x4.size + (strOfNums ([p1] : List Int)).size ≤ 9223372036854775807 then some ((x4 ++ (strOfNums ([p1] : List Int))))
  else none
def bosketref03_Quote_l1 (k : Nat) (p0 : ByteArray) (p1 : Int) : Nat → ByteArray → Int → Option ByteArray
  | 0, _, _ => none
  | j + 1, x7, x8 =>
    if x8 < (p0.size : Int) then if 0 ≤ x8 ∧ x8 < (p0.size : Int) then (bosketref03_Byte k (byteAt p0 x8) (strOfNums ([p1] : List Int))).bind fun t14 =>
    if x7.size + t14.size ≤ 9223372036854775807 then (bosketref03_Quote_l1 k p0 p1 j) (x7 ++ t14) (w64 (x8 + (1 : Int)))
    else none
    else none
    else bosketref03_Quote_c0 k p1 x7
def bosketref03_Quote (k : Nat) (p0 : ByteArray) (p1 : Int) : Option ByteArray :=
  bosketref03_Quote_l1 k p0 p1 k (strOfNums ([p1] : List Int)) (0 : Int)
theorem bosketref03_Quote_spec {k : Nat} {p0 : ByteArray} {p1 : Int} {r : ByteArray} (h : bosketref03_Quote k p0 p1 = some r) : Spec Try.prog 61 [(eStr p0), (eU8 p1)] (eStr r) := by
  rw [bosketref03_Quote.eq_1] at h
  refine Spec.intro (res := [.tmp 4]) Try.func61 rfl rfl rfl (Nat.le_of_ble_eq_true rfl) ?_
  refine AW.seq ?_
  refine AW.reg ?_
  refine AO.calm rfl 4 rfl (by decide) (eStr (ByteArray.mk #[])) (Calm.assign rfl rfl) ?_
  refine AO.nil (ρ' := [(0, (eStr p0)), (1, (eU8 p1))]) (H' := []) ⟨rfl, rfl, trivial⟩ (Sub.refl _) ?_
  refine AW.seq ?_
  refine AW.reg ?_
  refine AO.calm rfl 7 rfl (by decide) (eU8 p1) (Calm.move rfl rfl) ?_
  refine AO.lit (Z := (eU8 (0 : Int))) (xs := (([p1] : List Int).map eU8)) (qs := [(0, (eU8 p1))]) rfl 8 rfl (by decide) rfl ⟨rfl, rfl, rfl, trivial⟩ Try.underlying84 sz5 zr5 lay5 rfl (by decide) (litOK (z := 1) [(eU8 p1)] rfl ⟨⟨rfl, rfl⟩, trivial⟩) rfl fun n3 => ?_
  refine AO.calm rfl 9 rfl (by decide) (eStr (strOfNums ([p1] : List Int))) (Calm.strO 0 rfl rfl rfl Try.underlying84 Try.underlying9 Try.underlying5) ?_
  refine AO.calm rfl 5 rfl (by decide) (eStr (strOfNums ([p1] : List Int))) (Calm.assign rfl rfl) ?_
  refine AO.nil (ρ' := [(0, (eStr p0)), (1, (eU8 p1)), (5, (eStr (strOfNums ([p1] : List Int))))]) (H' := []) ⟨rfl, rfl, rfl, trivial⟩ (Sub.nil _) ?_
  refine AW.seq_mid (fun ρ H => ∃ (x4 : ByteArray), ρ = [(1, (eU8 p1)), (5, (eStr x4))] ∧ H = [] ∧ bosketref03_Quote_c0 k p1 x4 = some r) ?_ ?_
  · refine AW.seq ?_
    refine AW.reg ?_
    refine AO.calm rfl 6 rfl (by decide) (eI64 (0 : Int)) (Calm.assign rfl rfl) ?_
    refine AO.nil (ρ' := [(0, (eStr p0)), (1, (eU8 p1)), (5, (eStr (strOfNums ([p1] : List Int)))), (6, (eI64 (0 : Int)))]) (H' := []) ⟨rfl, rfl, rfl, rfl, trivial⟩ (Sub.refl _) ?_
    refine AW.block ?_
    refine AW.weak (ρ' := [(0, (eStr p0)), (1, (eU8 p1)), (5, (eStr (strOfNums ([p1] : List Int)))), (6, (eI64 (0 : Int)))]) (H' := []) ⟨rfl, rfl, rfl, rfl, trivial⟩ (Sub.refl _) ?_
    refine AW.loop (fun kq ρ H => ∃ (x7 : ByteArray) (x8 : Int), ρ = [(0, (eStr p0)), (1, (eU8 p1)), (5, (eStr x7)), (6, (eI64 x8))] ∧ H = [] ∧ bosketref03_Quote_l1 k p0 p1 kq x7 x8 = some r) k ⟨(strOfNums ([p1] : List Int)), (0 : Int), rfl, rfl, h⟩ ?_
    rintro kq10 _ _ ⟨x7, x8, rfl, rfl, h⟩
    cases kq10 with
    | zero => rw [bosketref03_Quote_l1.eq_1] at h; cases h
    | succ kq10 =>
    rw [bosketref03_Quote_l1.eq_2] at h
    generalize hrec9 : bosketref03_Quote_l1 k p0 p1 kq10 = rec9 at h
    refine AW.seq ?_
    refine AW.seq ?_
    refine AW.reg ?_
    refine AO.calm rfl 10 rfl (by decide) (eI64 x8) (Calm.move rfl rfl) ?_
    refine AO.calm rfl 11 rfl (by decide) (eStr p0) (Calm.move rfl rfl) ?_
    refine AO.calm rfl 12 rfl (by decide) (eI64 (p0.size : Int)) (Calm.lenStr rfl rfl Try.underlying9) ?_
    refine AO.calm rfl 13 rfl (by decide) (eBool (decide (x8 < (p0.size : Int)))) (Calm.int rfl rfl rfl rfl) ?_
    refine AO.nil (ρ' := [(0, (eStr p0)), (1, (eU8 p1)), (5, (eStr x7)), (6, (eI64 x8)), (13, (eBool (decide (x8 < (p0.size : Int)))))]) (H' := []) ⟨rfl, rfl, rfl, rfl, rfl, trivial⟩ (Sub.refl _) ?_
    by_cases hc11 : x8 < (p0.size : Int)
    · have h := (if_pos hc11).symm.trans h
      refine AW.condP (x8 < (p0.size : Int)) rfl hc11 ?_
      refine AW.skip (ρ' := [(0, (eStr p0)), (1, (eU8 p1)), (5, (eStr x7)), (6, (eI64 x8))]) (H' := []) ⟨rfl, rfl, rfl, rfl, trivial⟩ (Sub.refl _) ?_
      refine AW.seq ?_
      refine AW.block ?_
      obtain ⟨hg12, h⟩ := of_guard h
      obtain ⟨t14, et14, h⟩ := of_bind h
      obtain ⟨hg15, h⟩ := of_guard h
      refine AW.regAny (by rfl) (by decide +kernel) [(eStr x7), (eStr p0), (eI64 x8), (eU8 (byteAt p0 x8)), (eU8 p1), (.fz 1 (([p1] : List Int).map eU8)), (eStr (strOfNums ([p1] : List Int))), (eStr t14), (eStr (x7 ++ t14)), (eStr (x7 ++ t14))] [(0, (eStr p0)), (1, (eU8 p1)), (5, (eStr x7)), (6, (eI64 x8))] ⟨rfl, rfl, rfl, rfl, trivial⟩ rfl ?_ [(0, (eStr p0)), (1, (eU8 p1)), (5, (eStr (x7 ++ t14))), (6, (eI64 x8))] [] ⟨rfl, rfl, rfl, rfl, trivial⟩ (Sub.refl _) ?_
      · refine ⟨?_, ?_, ?_, ?_, ?_, ?_, ?_, ?_, ?_, ?_, trivial⟩
        · refine AO.weak (ρ' := [(5, (eStr x7))]) (H' := []) ⟨rfl, trivial⟩ (Sub.refl _) ?_
          refine AO.calm rfl 16 rfl (by decide) (eStr x7) (Calm.move rfl rfl) ?_
          exact AO.nilE (ρ' := [(16, (eStr x7))]) (H' := []) ⟨⟨_, rfl, rfl⟩, Sub.refl _⟩ ⟨rfl, trivial⟩ (Sub.refl _)
        · refine AO.weak (ρ' := [(0, (eStr p0))]) (H' := []) ⟨rfl, trivial⟩ (Sub.refl _) ?_
          refine AO.calm rfl 17 rfl (by decide) (eStr p0) (Calm.move rfl rfl) ?_
          exact AO.nilE (ρ' := [(17, (eStr p0))]) (H' := []) ⟨⟨_, rfl, rfl⟩, Sub.refl _⟩ ⟨rfl, trivial⟩ (Sub.refl _)
        · refine AO.weak (ρ' := [(6, (eI64 x8))]) (H' := []) ⟨rfl, trivial⟩ (Sub.refl _) ?_
          refine AO.calm rfl 18 rfl (by decide) (eI64 x8) (Calm.move rfl rfl) ?_
          exact AO.nilE (ρ' := [(18, (eI64 x8))]) (H' := []) ⟨⟨_, rfl, rfl⟩, Sub.refl _⟩ ⟨rfl, trivial⟩ (Sub.refl _)
        · refine AO.weak (ρ' := [(17, (eStr p0)), (18, (eI64 x8))]) (H' := []) ⟨rfl, rfl, trivial⟩ (Sub.refl _) ?_
          refine AO.calm rfl 19 rfl (by decide) (eU8 (byteAt p0 x8)) (Calm.idxS rfl rfl rfl hg12 Try.underlying9) ?_
          exact AO.nilE (ρ' := [(19, (eU8 (byteAt p0 x8)))]) (H' := []) ⟨⟨_, rfl, rfl⟩, Sub.refl _⟩ ⟨rfl, trivial⟩ (Sub.refl _)
        · refine AO.weak (ρ' := [(1, (eU8 p1))]) (H' := []) ⟨rfl, trivial⟩ (Sub.refl _) ?_
          refine AO.calm rfl 20 rfl (by decide) (eU8 p1) (Calm.move rfl rfl) ?_
          exact AO.nilE (ρ' := [(20, (eU8 p1))]) (H' := []) ⟨⟨_, rfl, rfl⟩, Sub.refl _⟩ ⟨rfl, trivial⟩ (Sub.refl _)
        · refine AO.weak (ρ' := [(20, (eU8 p1))]) (H' := []) ⟨rfl, trivial⟩ (Sub.refl _) ?_
          refine AO.lit (Z := (eU8 (0 : Int))) (xs := (([p1] : List Int).map eU8)) (qs := [(0, (eU8 p1))]) rfl 21 rfl (by decide) rfl ⟨rfl, rfl, rfl, trivial⟩ Try.underlying84 sz5 zr5 lay5 rfl (by decide) (litOK (z := 1) [(eU8 p1)] rfl ⟨⟨rfl, rfl⟩, trivial⟩) rfl fun n13 => ?_
          refine AO.freezeS 0 [(21, (.fz 1 (([p1] : List Int).map eU8)))] rfl ⟨fz_all rfl, trivial⟩ ?_
          exact AO.nilE (ρ' := [(21, (.fz 1 (([p1] : List Int).map eU8)))]) (H' := []) ⟨⟨_, rfl, rfl⟩, Sub.refl _⟩ ⟨rfl, trivial⟩ (Sub.refl _)
        · refine AO.weak (ρ' := [(21, (.fz 1 (([p1] : List Int).map eU8)))]) (H' := []) ⟨rfl, trivial⟩ (Sub.refl _) ?_
          refine AO.calm rfl 22 rfl (by decide) (eStr (strOfNums ([p1] : List Int))) (Calm.strL rfl rfl Try.underlying84 Try.underlying9 Try.underlying5) ?_
          exact AO.nilE (ρ' := [(22, (eStr (strOfNums ([p1] : List Int))))]) (H' := []) ⟨⟨_, rfl, rfl⟩, Sub.refl _⟩ ⟨rfl, trivial⟩ (Sub.refl _)
        · refine AO.weak (ρ' := [(19, (eU8 (byteAt p0 x8))), (22, (eStr (strOfNums ([p1] : List Int))))]) (H' := []) ⟨rfl, rfl, trivial⟩ (Sub.refl _) ?_
          refine AO.callS [(eU8 (byteAt p0 x8)), (eStr (strOfNums ([p1] : List Int)))] (eStr t14) 23 rfl (by decide) ok82 rfl rfl rfl ⟨rfl, rfl, rfl, rfl, trivial⟩ (bosketref03_Byte_spec et14) ?_
          exact AO.nilE (ρ' := [(23, (eStr t14))]) (H' := []) ⟨⟨_, rfl, rfl⟩, Sub.refl _⟩ ⟨rfl, trivial⟩ (Sub.refl _)
        · refine AO.weak (ρ' := [(16, (eStr x7)), (23, (eStr t14))]) (H' := []) ⟨rfl, rfl, trivial⟩ (Sub.refl _) ?_
          refine AO.calm rfl 24 rfl (by decide) (eStr (x7 ++ t14)) (Calm.cat rfl rfl rfl hg15) ?_
          exact AO.nilE (ρ' := [(24, (eStr (x7 ++ t14)))]) (H' := []) ⟨⟨_, rfl, rfl⟩, Sub.refl _⟩ ⟨rfl, trivial⟩ (Sub.refl _)
        · refine AO.weak (ρ' := [(24, (eStr (x7 ++ t14)))]) (H' := []) ⟨rfl, trivial⟩ (Sub.refl _) ?_
          refine AO.calm rfl 5 rfl (by decide) (eStr (x7 ++ t14)) (Calm.assign rfl rfl) ?_
          exact AO.nilE (ρ' := [(5, (eStr (x7 ++ t14)))]) (H' := []) ⟨⟨_, rfl, rfl⟩, Sub.refl _⟩ ⟨rfl, trivial⟩ (Sub.refl _)
      · refine AW.reg ?_
        refine AO.calm rfl 14 rfl (by decide) (eI64 x8) (Calm.move rfl rfl) ?_
        refine AO.calm rfl 15 rfl (by decide) (eI64 (w64 (x8 + (1 : Int)))) (Calm.int rfl rfl rfl rfl) ?_
        refine AO.calm rfl 6 rfl (by decide) (eI64 (w64 (x8 + (1 : Int)))) (Calm.assign rfl rfl) ?_
        refine AO.nil (ρ' := [(0, (eStr p0)), (1, (eU8 p1)), (5, (eStr (x7 ++ t14))), (6, (eI64 (w64 (x8 + (1 : Int)))))]) (H' := []) ⟨rfl, rfl, rfl, rfl, trivial⟩ (Sub.refl _) ?_
        exact ⟨kq10, Nat.lt_succ_self _, (x7 ++ t14), (w64 (x8 + (1 : Int))), rfl, rfl, by rw [hrec9]; exact h⟩
    · have h := (if_neg hc11).symm.trans h
      refine AW.condN (x8 < (p0.size : Int)) rfl hc11 ?_
      refine AW.exit (ρ' := [(1, (eU8 p1)), (5, (eStr x7))]) (H' := []) ⟨rfl, rfl, trivial⟩ (Sub.refl _) ?_
      exact ⟨x7, rfl, rfl, h⟩
  · rintro _ _ ⟨x4, rfl, rfl, h⟩
    rw [bosketref03_Quote_c0.eq_1] at h
    refine AW.seq ?_
    refine AW.reg ?_
    refine AO.calm rfl 25 rfl (by decide) (eStr x4) (Calm.move rfl rfl) ?_
    refine AO.calm rfl 26 rfl (by decide) (eU8 p1) (Calm.move rfl rfl) ?_
    refine AO.lit (Z := (eU8 (0 : Int))) (xs := (([p1] : List Int).map eU8)) (qs := [(0, (eU8 p1))]) rfl 27 rfl (by decide) rfl ⟨rfl, rfl, rfl, trivial⟩ Try.underlying84 sz5 zr5 lay5 rfl (by decide) (litOK (z := 1) [(eU8 p1)] rfl ⟨⟨rfl, rfl⟩, trivial⟩) rfl fun n5 => ?_
    refine AO.calm rfl 28 rfl (by decide) (eStr (strOfNums ([p1] : List Int))) (Calm.strO 0 rfl rfl rfl Try.underlying84 Try.underlying9 Try.underlying5) ?_
    obtain ⟨hg6, h⟩ := of_guard h
    refine AO.calm rfl 29 rfl (by decide) (eStr (x4 ++ (strOfNums ([p1] : List Int)))) (Calm.cat rfl rfl rfl hg6) ?_
    refine AO.calm rfl 4 rfl (by decide) (eStr (x4 ++ (strOfNums ([p1] : List Int)))) (Calm.assign rfl rfl) ?_
    refine AO.nil (ρ' := [(4, (eStr (x4 ++ (strOfNums ([p1] : List Int)))))]) (H' := []) ⟨rfl, trivial⟩ (Sub.nil _) ?_
    refine AW.ret (ρ' := [(4, (eStr (x4 ++ (strOfNums ([p1] : List Int)))))]) (H' := []) ⟨rfl, trivial⟩ (Sub.refl _) ?_
    have hr := Option.some.inj h
    subst hr
    exact ⟨[(eStr (x4 ++ (strOfNums ([p1] : List Int))))], ⟨rfl, rfl, trivial⟩, rfl⟩
end Go.Avl.T2
/- bosket/escape.value; printed by avmain.py. -/
namespace Go.Avl.T2
open Go Go.RowKit Go.Proofs Go.Avl
set_option linter.unusedVariables false
set_option maxRecDepth 100000
set_option maxHeartbeats 4000000
attribute [local irreducible] AW AO AQ Spec SpecH Calm

def escape_value (k : Nat) (p0 : Int) : Option Int :=
  Option.bind (α := Bool) (if (48 : Int) ≤ p0 then some (decide (p0 ≤ (57 : Int)))
  else some (false)) fun b2 =>
  if b2 = true then some ((w64 (w8 (p0 - (48 : Int)))))
  else Option.bind (α := Bool) (if (97 : Int) ≤ p0 then some (decide (p0 ≤ (102 : Int)))
  else some (false)) fun b6 =>
  if b6 = true then some ((w64 ((w64 (w8 (p0 - (97 : Int)))) + (10 : Int))))
  else some ((-1 : Int))
theorem escape_value_spec {k : Nat} {p0 : Int} {r : Int} (h : escape_value k p0 = some r) : Spec Try.prog 98 [(eU8 p0)] (eI64 r) := by
  rw [escape_value.eq_1] at h
  refine Spec.intro (res := [.tmp 2]) Try.func98 rfl rfl rfl (Nat.le_of_ble_eq_true rfl) ?_
  refine AW.seq ?_
  refine AW.reg ?_
  refine AO.calm rfl 2 rfl (by decide) (eI64 (0 : Int)) (Calm.assign rfl rfl) ?_
  refine AO.nil (ρ' := [(0, (eU8 p0))]) (H' := []) ⟨rfl, trivial⟩ (Sub.refl _) ?_
  refine AW.seq ?_
  refine AW.block ?_
  refine AW.seq ?_
  obtain ⟨b2, hq3, h⟩ := of_bind h
  refine AW.regM [(0, (eU8 p0)), (3, (eBool b2))] [] ?_ ?_
  · refine AO.calm rfl 4 rfl (by decide) (eU8 p0) (Calm.move rfl rfl) ?_
    refine AO.calm rfl 5 rfl (by decide) (eBool (decide ((48 : Int) ≤ p0))) (Calm.int rfl rfl rfl rfl) ?_
    refine AO.calm rfl 6 rfl (by decide) (eBool (decide ((48 : Int) ≤ p0))) (Calm.move rfl rfl) ?_
    by_cases hc4 : (48 : Int) ≤ p0
    · have hq3 := (if_pos hc4).symm.trans hq3
      refine AO.calmG 2 true 6 rfl rfl (congrArg (fun b => some (AV.fl (Value.bool b))) (decide_eq_true hc4)) 7 rfl (by decide) (eU8 p0) (Calm.move rfl rfl) ?_
      refine AO.calmG 2 true 6 rfl rfl (congrArg (fun b => some (AV.fl (Value.bool b))) (decide_eq_true hc4)) 8 rfl (by decide) (eBool (decide (p0 ≤ (57 : Int)))) (Calm.int rfl rfl rfl rfl) ?_
      refine AO.calm rfl 9 rfl (by decide) (eBool (decide (p0 ≤ (57 : Int)))) (Calm.pickT rfl (congrArg (fun b => some (AV.fl (Value.bool b))) (decide_eq_true hc4)) rfl) ?_
      refine AO.calm rfl 3 rfl (by decide) (eBool (decide (p0 ≤ (57 : Int)))) (Calm.assign rfl rfl) ?_
      cases hq3
      refine AO.nilE ⟨rfl, rfl⟩ ?_ ?_
      · exact ⟨rfl, rfl, trivial⟩
      · exact (Sub.refl _)
    · have hq3 := (if_neg hc4).symm.trans hq3
      refine AO.skipG 2 false 6 rfl rfl (congrArg (fun b => some (AV.fl (Value.bool b))) (decide_eq_false hc4)) 7 rfl (by decide) ?_
      refine AO.skipG 2 false 6 rfl rfl (congrArg (fun b => some (AV.fl (Value.bool b))) (decide_eq_false hc4)) 8 rfl (by decide) ?_
      refine AO.calm rfl 9 rfl (by decide) (eBool false) (Calm.pickF rfl (congrArg (fun b => some (AV.fl (Value.bool b))) (decide_eq_false hc4)) rfl) ?_
      refine AO.calm rfl 3 rfl (by decide) (eBool false) (Calm.assign rfl rfl) ?_
      cases hq3
      refine AO.nilE ⟨rfl, rfl⟩ ?_ ?_
      · exact ⟨rfl, rfl, trivial⟩
      · exact (Sub.refl _)
  · by_cases hc5 : b2 = true
    · have h := (if_pos hc5).symm.trans h
      refine AW.condT' b2 rfl hc5 ?_
      refine AW.seq ?_
      refine AW.reg ?_
      refine AO.calm rfl 10 rfl (by decide) (eU8 p0) (Calm.move rfl rfl) ?_
      refine AO.calm rfl 11 rfl (by decide) (eU8 (w8 (p0 - (48 : Int)))) (Calm.int rfl rfl rfl rfl) ?_
      refine AO.calm rfl 12 rfl (by decide) (eI64 (w64 (w8 (p0 - (48 : Int))))) (Calm.conv rfl rfl Try.underlying5 Try.underlying3) ?_
      refine AO.calm rfl 2 rfl (by decide) (eI64 (w64 (w8 (p0 - (48 : Int))))) (Calm.assign rfl rfl) ?_
      refine AO.nil (ρ' := [(2, (eI64 (w64 (w8 (p0 - (48 : Int))))))]) (H' := []) ⟨rfl, trivial⟩ (Sub.refl _) ?_
      refine AW.ret (ρ' := [(2, (eI64 (w64 (w8 (p0 - (48 : Int))))))]) (H' := []) ⟨rfl, trivial⟩ (Sub.refl _) ?_
      have hr := Option.some.inj h
      subst hr
      exact ⟨[(eI64 (w64 (w8 (p0 - (48 : Int)))))], ⟨rfl, rfl, trivial⟩, rfl⟩
    · have h := (if_neg hc5).symm.trans h
      refine AW.condF' b2 rfl hc5 ?_
      refine AW.seq ?_
      obtain ⟨b6, hq7, h⟩ := of_bind h
      refine AW.regM [(0, (eU8 p0)), (13, (eBool b6))] [] ?_ ?_
      · refine AO.calm rfl 14 rfl (by decide) (eU8 p0) (Calm.move rfl rfl) ?_
        refine AO.calm rfl 15 rfl (by decide) (eBool (decide ((97 : Int) ≤ p0))) (Calm.int rfl rfl rfl rfl) ?_
        refine AO.calm rfl 16 rfl (by decide) (eBool (decide ((97 : Int) ≤ p0))) (Calm.move rfl rfl) ?_
        by_cases hc8 : (97 : Int) ≤ p0
        · have hq7 := (if_pos hc8).symm.trans hq7
          refine AO.calmG 2 true 16 rfl rfl (congrArg (fun b => some (AV.fl (Value.bool b))) (decide_eq_true hc8)) 17 rfl (by decide) (eU8 p0) (Calm.move rfl rfl) ?_
          refine AO.calmG 2 true 16 rfl rfl (congrArg (fun b => some (AV.fl (Value.bool b))) (decide_eq_true hc8)) 18 rfl (by decide) (eBool (decide (p0 ≤ (102 : Int)))) (Calm.int rfl rfl rfl rfl) ?_
          refine AO.calm rfl 19 rfl (by decide) (eBool (decide (p0 ≤ (102 : Int)))) (Calm.pickT rfl (congrArg (fun b => some (AV.fl (Value.bool b))) (decide_eq_true hc8)) rfl) ?_
          refine AO.calm rfl 13 rfl (by decide) (eBool (decide (p0 ≤ (102 : Int)))) (Calm.assign rfl rfl) ?_
          cases hq7
          refine AO.nilE ⟨rfl, rfl⟩ ?_ ?_
          · exact ⟨rfl, rfl, trivial⟩
          · exact (Sub.refl _)
        · have hq7 := (if_neg hc8).symm.trans hq7
          refine AO.skipG 2 false 16 rfl rfl (congrArg (fun b => some (AV.fl (Value.bool b))) (decide_eq_false hc8)) 17 rfl (by decide) ?_
          refine AO.skipG 2 false 16 rfl rfl (congrArg (fun b => some (AV.fl (Value.bool b))) (decide_eq_false hc8)) 18 rfl (by decide) ?_
          refine AO.calm rfl 19 rfl (by decide) (eBool false) (Calm.pickF rfl (congrArg (fun b => some (AV.fl (Value.bool b))) (decide_eq_false hc8)) rfl) ?_
          refine AO.calm rfl 13 rfl (by decide) (eBool false) (Calm.assign rfl rfl) ?_
          cases hq7
          refine AO.nilE ⟨rfl, rfl⟩ ?_ ?_
          · exact ⟨rfl, rfl, trivial⟩
          · exact (Sub.refl _)
      · by_cases hc9 : b6 = true
        · have h := (if_pos hc9).symm.trans h
          refine AW.condT' b6 rfl hc9 ?_
          refine AW.seq ?_
          refine AW.reg ?_
          refine AO.calm rfl 20 rfl (by decide) (eU8 p0) (Calm.move rfl rfl) ?_
          refine AO.calm rfl 21 rfl (by decide) (eU8 (w8 (p0 - (97 : Int)))) (Calm.int rfl rfl rfl rfl) ?_
          refine AO.calm rfl 22 rfl (by decide) (eI64 (w64 (w8 (p0 - (97 : Int))))) (Calm.conv rfl rfl Try.underlying5 Try.underlying3) ?_
          refine AO.calm rfl 23 rfl (by decide) (eI64 (w64 ((w64 (w8 (p0 - (97 : Int)))) + (10 : Int)))) (Calm.int rfl rfl rfl rfl) ?_
          refine AO.calm rfl 2 rfl (by decide) (eI64 (w64 ((w64 (w8 (p0 - (97 : Int)))) + (10 : Int)))) (Calm.assign rfl rfl) ?_
          refine AO.nil (ρ' := [(2, (eI64 (w64 ((w64 (w8 (p0 - (97 : Int)))) + (10 : Int)))))]) (H' := []) ⟨rfl, trivial⟩ (Sub.refl _) ?_
          refine AW.ret (ρ' := [(2, (eI64 (w64 ((w64 (w8 (p0 - (97 : Int)))) + (10 : Int)))))]) (H' := []) ⟨rfl, trivial⟩ (Sub.refl _) ?_
          have hr := Option.some.inj h
          subst hr
          exact ⟨[(eI64 (w64 ((w64 (w8 (p0 - (97 : Int)))) + (10 : Int))))], ⟨rfl, rfl, trivial⟩, rfl⟩
        · have h := (if_neg hc9).symm.trans h
          refine AW.condF' b6 rfl hc9 ?_
          refine AW.skip (ρ' := []) (H' := []) trivial (Sub.refl _) ?_
          refine AW.seq ?_
          refine AW.reg ?_
          refine AO.calm rfl 2 rfl (by decide) (eI64 (-1 : Int)) (Calm.assign rfl rfl) ?_
          refine AO.nil (ρ' := [(2, (eI64 (-1 : Int)))]) (H' := []) ⟨rfl, trivial⟩ (Sub.refl _) ?_
          refine AW.ret (ρ' := [(2, (eI64 (-1 : Int)))]) (H' := []) ⟨rfl, trivial⟩ (Sub.refl _) ?_
          have hr := Option.some.inj h
          subst hr
          exact ⟨[(eI64 (-1 : Int))], ⟨rfl, rfl, trivial⟩, rfl⟩
end Go.Avl.T2
/- bosket/escape.Read; printed by avmain.py. -/
namespace Go.Avl.T2
open Go Go.RowKit Go.Proofs Go.Avl
set_option linter.unusedVariables false
set_option maxRecDepth 100000
set_option maxHeartbeats 4000000
attribute [local irreducible] AW AO AQ Spec SpecH Calm

def escape_Read_c0 (k : Nat) (p0 : ByteArray) : Option (Int × Int × Bool) :=
  Option.bind (α := Bool) (if (48 : Int) ≤ (byteAt p0 (1 : Int)) then if (byteAt p0 (1 : Int)) ≤ (57 : Int) then some (true)
  else if (97 : Int) ≤ (byteAt p0 (1 : Int)) then if (byteAt p0 (1 : Int)) ≤ (122 : Int) then some (true)
  else if (65 : Int) ≤ (byteAt p0 (1 : Int)) then if (byteAt p0 (1 : Int)) ≤ (90 : Int) then some (true)
  else if (byteAt p0 (1 : Int)) < (32 : Int) then some (true)
  else some (decide ((126 : Int) < (byteAt p0 (1 : Int))))
  else if (byteAt p0 (1 : Int)) < (32 : Int) then some (true)
  else some (decide ((126 : Int) < (byteAt p0 (1 : Int))))
  else if (65 : Int) ≤ (byteAt p0 (1 : Int)) then if (byteAt p0 (1 : Int)) ≤ (90 : Int) then some (true)
  else if (byteAt p0 (1 : Int)) < (32 : Int) then some (true)
  else some (decide ((126 : Int) < (byteAt p0 (1 : Int))))
  else if (byteAt p0 (1 : Int)) < (32 : Int) then some (true)
  else some (decide ((126 : Int) < (byteAt p0 (1 : Int))))
  else if (97 : Int) ≤ (byteAt p0 (1 : Int)) then if (byteAt p0 (1 : Int)) ≤ (122 : Int) then some (true)
  else if (65 : Int) ≤ (byteAt p0 (1 : Int)) then if (byteAt p0 (1 : Int)) ≤ (90 : Int) then some (true)
  else if (byteAt p0 (1 : Int)) < (32 : Int) then some (true)
  else some (decide ((126 : Int) < (byteAt p0 (1 : Int))))
  else if (byteAt p0 (1 : Int)) < (32 : Int) then some (true)
  else some (decide ((126 : Int) < (byteAt p0 (1 : Int))))
  else if (65 : Int) ≤ (byteAt p0 (1 : Int)) then if (byteAt p0 (1 : Int)) ≤ (90 : Int) then some (true)
  else if (byteAt p0 (1 : Int)) < (32 : Int) then some (true)
  else some (decide ((126 : Int) < (byteAt p0 (1 : Int))))
  else if (byteAt p0 (1 : Int)) < (32 : Int) then some (true)
  else some (decide ((126 : Int) < (byteAt p0 (1 : Int))))) fun b8 =>
  if b8 = true then some ((0 : Int), (0 : Int), false)
  else some ((byteAt p0 (1 : Int)), (2 : Int), true)
def escape_Read_c1 (k : Nat) : Option (Int × Int × Bool) :=
  some ((0 : Int), (0 : Int), false)
def escape_Read_c2 (k : Nat) (p0 : ByteArray) : Option (Int × Int × Bool) :=
  Option.bind (α := Bool) (if (4 : Int) ≤ (p0.size : Int) then if 0 ≤ (2 : Int) ∧ (2 : Int) < (p0.size : Int) then (escape_value k (byteAt p0 (2 : Int))).bind fun t37 =>
  if (0 : Int) ≤ t37 then if 0 ≤ (3 : Int) ∧ (3 : Int) < (p0.size : Int) then (escape_value k (byteAt p0 (3 : Int))).bind fun t40 =>
  some (decide ((0 : Int) ≤ t40))
  else none
  else some (false)
  else none
  else some (false)) fun b33 =>
  if b33 = true then if 0 ≤ (2 : Int) ∧ (2 : Int) < (p0.size : Int) then (escape_value k (byteAt p0 (2 : Int))).bind fun t43 =>
  if 0 ≤ (3 : Int) ∧ (3 : Int) < (p0.size : Int) then (escape_value k (byteAt p0 (3 : Int))).bind fun t45 =>
  some ((w8 (bits .or .i64 (IntKind.i64.wrap (t43 * 2 ^ (min (4 : Int).toNat IntKind.i64.bits))) t45)), (4 : Int), true)
  else none
  else none
  else escape_Read_c1 k
def escape_Read_c3 (k : Nat) : Option (Int × Int × Bool) :=
  some ((13 : Int), (2 : Int), true)
def escape_Read_c4 (k : Nat) : Option (Int × Int × Bool) :=
  some ((9 : Int), (2 : Int), true)
def escape_Read_c5 (k : Nat) : Option (Int × Int × Bool) :=
  some ((10 : Int), (2 : Int), true)
def escape_Read (k : Nat) (p0 : ByteArray) : Option (Int × Int × Bool) :=
  if p0 = (ByteArray.mk #[]) then some ((0 : Int), (0 : Int), false)
  else if 0 ≤ (0 : Int) ∧ (0 : Int) < (p0.size : Int) then if (byteAt p0 (0 : Int)) ≠ (92 : Int) then if 0 ≤ (0 : Int) ∧ (0 : Int) < (p0.size : Int) then some ((byteAt p0 (0 : Int)), (1 : Int), true)
  else none
  else if (p0.size : Int) < (2 : Int) then some ((0 : Int), (0 : Int), false)
  else if 0 ≤ (1 : Int) ∧ (1 : Int) < (p0.size : Int) then if (byteAt p0 (1 : Int)) = (110 : Int) then escape_Read_c5 k
  else if (byteAt p0 (1 : Int)) = (116 : Int) then escape_Read_c4 k
  else if (byteAt p0 (1 : Int)) = (114 : Int) then escape_Read_c3 k
  else if (byteAt p0 (1 : Int)) = (120 : Int) then escape_Read_c2 k p0
  else if (byteAt p0 (1 : Int)) = (0 : Int) then escape_Read_c1 k
  else escape_Read_c0 k p0
  else none
  else none
theorem escape_Read_spec {k : Nat} {p0 : ByteArray} {r : (Int × Int × Bool)} (h : escape_Read k p0 = some r) : Spec Try.prog 87 [(eStr p0)] (.tup [(eU8 r.1), (eI64 r.2.1), (eBool r.2.2)]) := by
  rw [escape_Read.eq_1] at h
  refine Spec.intro (res := [.tmp 2, .tmp 3, .tmp 4]) Try.func87 rfl rfl rfl (Nat.le_of_ble_eq_true rfl) ?_
  refine AW.seq ?_
  refine AW.reg ?_
  refine AO.calm rfl 2 rfl (by decide) (eU8 (0 : Int)) (Calm.assign rfl rfl) ?_
  refine AO.calm rfl 3 rfl (by decide) (eI64 (0 : Int)) (Calm.assign rfl rfl) ?_
  refine AO.calm rfl 4 rfl (by decide) (eBool false) (Calm.assign rfl rfl) ?_
  refine AO.nil (ρ' := [(0, (eStr p0))]) (H' := []) ⟨rfl, trivial⟩ (Sub.refl _) ?_
  refine AW.seq ?_
  refine AW.block ?_
  refine AW.seq ?_
  refine AW.reg ?_
  refine AO.calm rfl 7 rfl (by decide) (eStr p0) (Calm.move rfl rfl) ?_
  refine AO.calm rfl 8 rfl (by decide) (eBool (decide (p0 = (ByteArray.mk #[])))) (Calm.str rfl rfl rfl rfl) ?_
  refine AO.calm rfl 6 rfl (by decide) (eBool (decide (p0 = (ByteArray.mk #[])))) (Calm.assign rfl rfl) ?_
  refine AO.nil (ρ' := [(0, (eStr p0)), (6, (eBool (decide (p0 = (ByteArray.mk #[])))))]) (H' := []) ⟨rfl, rfl, trivial⟩ (Sub.refl _) ?_
  by_cases hc2 : p0 = (ByteArray.mk #[])
  · have h := (if_pos hc2).symm.trans h
    refine AW.condP (p0 = (ByteArray.mk #[])) rfl hc2 ?_
    refine AW.seq ?_
    refine AW.reg ?_
    refine AO.calm rfl 2 rfl (by decide) (eU8 (0 : Int)) (Calm.assign rfl rfl) ?_
    refine AO.calm rfl 3 rfl (by decide) (eI64 (0 : Int)) (Calm.assign rfl rfl) ?_
    refine AO.calm rfl 4 rfl (by decide) (eBool false) (Calm.assign rfl rfl) ?_
    refine AO.nil (ρ' := [(2, (eU8 (0 : Int))), (3, (eI64 (0 : Int))), (4, (eBool false))]) (H' := []) ⟨rfl, rfl, rfl, trivial⟩ (Sub.refl _) ?_
    refine AW.ret (ρ' := [(2, (eU8 (0 : Int))), (3, (eI64 (0 : Int))), (4, (eBool false))]) (H' := []) ⟨rfl, rfl, rfl, trivial⟩ (Sub.refl _) ?_
    have hr := Option.some.inj h
    subst hr
    exact ⟨[(eU8 (0 : Int)), (eI64 (0 : Int)), (eBool false)], ⟨rfl, rfl, rfl, rfl, rfl, rfl, trivial⟩, rfl⟩
  · have h := (if_neg hc2).symm.trans h
    refine AW.condN (p0 = (ByteArray.mk #[])) rfl hc2 ?_
    refine AW.seq ?_
    refine AW.reg ?_
    refine AO.calm rfl 10 rfl (by decide) (eStr p0) (Calm.move rfl rfl) ?_
    obtain ⟨hg3, h⟩ := of_guard h
    refine AO.calm rfl 11 rfl (by decide) (eU8 (byteAt p0 (0 : Int))) (Calm.idxS rfl rfl rfl hg3 Try.underlying9) ?_
    refine AO.calm rfl 12 rfl (by decide) (eBool (decide ((byteAt p0 (0 : Int)) ≠ (92 : Int)))) (Calm.int rfl rfl rfl rfl) ?_
    refine AO.calm rfl 9 rfl (by decide) (eBool (decide ((byteAt p0 (0 : Int)) ≠ (92 : Int)))) (Calm.assign rfl rfl) ?_
    refine AO.nil (ρ' := [(0, (eStr p0)), (9, (eBool (decide ((byteAt p0 (0 : Int)) ≠ (92 : Int)))))]) (H' := []) ⟨rfl, rfl, trivial⟩ (Sub.refl _) ?_
    by_cases hc4 : (byteAt p0 (0 : Int)) ≠ (92 : Int)
    · have h := (if_pos hc4).symm.trans h
      refine AW.condP ((byteAt p0 (0 : Int)) ≠ (92 : Int)) rfl hc4 ?_
      refine AW.seq ?_
      refine AW.reg ?_
      refine AO.calm rfl 13 rfl (by decide) (eStr p0) (Calm.move rfl rfl) ?_
      obtain ⟨hg5, h⟩ := of_guard h
      refine AO.calm rfl 14 rfl (by decide) (eU8 (byteAt p0 (0 : Int))) (Calm.idxS rfl rfl rfl hg5 Try.underlying9) ?_
      refine AO.calm rfl 2 rfl (by decide) (eU8 (byteAt p0 (0 : Int))) (Calm.assign rfl rfl) ?_
      refine AO.calm rfl 3 rfl (by decide) (eI64 (1 : Int)) (Calm.assign rfl rfl) ?_
      refine AO.calm rfl 4 rfl (by decide) (eBool true) (Calm.assign rfl rfl) ?_
      refine AO.nil (ρ' := [(2, (eU8 (byteAt p0 (0 : Int)))), (3, (eI64 (1 : Int))), (4, (eBool true))]) (H' := []) ⟨rfl, rfl, rfl, trivial⟩ (Sub.refl _) ?_
      refine AW.ret (ρ' := [(2, (eU8 (byteAt p0 (0 : Int)))), (3, (eI64 (1 : Int))), (4, (eBool true))]) (H' := []) ⟨rfl, rfl, rfl, trivial⟩ (Sub.refl _) ?_
      have hr := Option.some.inj h
      subst hr
      exact ⟨[(eU8 (byteAt p0 (0 : Int))), (eI64 (1 : Int)), (eBool true)], ⟨rfl, rfl, rfl, rfl, rfl, rfl, trivial⟩, rfl⟩
    · have h := (if_neg hc4).symm.trans h
      refine AW.condN ((byteAt p0 (0 : Int)) ≠ (92 : Int)) rfl hc4 ?_
      refine AW.seq ?_
      refine AW.reg ?_
      refine AO.calm rfl 16 rfl (by decide) (eStr p0) (Calm.move rfl rfl) ?_
      refine AO.calm rfl 17 rfl (by decide) (eI64 (p0.size : Int)) (Calm.lenStr rfl rfl Try.underlying9) ?_
      refine AO.calm rfl 18 rfl (by decide) (eBool (decide ((p0.size : Int) < (2 : Int)))) (Calm.int rfl rfl rfl rfl) ?_
      refine AO.calm rfl 15 rfl (by decide) (eBool (decide ((p0.size : Int) < (2 : Int)))) (Calm.assign rfl rfl) ?_
      refine AO.nil (ρ' := [(0, (eStr p0)), (15, (eBool (decide ((p0.size : Int) < (2 : Int)))))]) (H' := []) ⟨rfl, rfl, trivial⟩ (Sub.refl _) ?_
      by_cases hc6 : (p0.size : Int) < (2 : Int)
      · have h := (if_pos hc6).symm.trans h
        refine AW.condP ((p0.size : Int) < (2 : Int)) rfl hc6 ?_
        refine AW.seq ?_
        refine AW.reg ?_
        refine AO.calm rfl 2 rfl (by decide) (eU8 (0 : Int)) (Calm.assign rfl rfl) ?_
        refine AO.calm rfl 3 rfl (by decide) (eI64 (0 : Int)) (Calm.assign rfl rfl) ?_
        refine AO.calm rfl 4 rfl (by decide) (eBool false) (Calm.assign rfl rfl) ?_
        refine AO.nil (ρ' := [(2, (eU8 (0 : Int))), (3, (eI64 (0 : Int))), (4, (eBool false))]) (H' := []) ⟨rfl, rfl, rfl, trivial⟩ (Sub.refl _) ?_
        refine AW.ret (ρ' := [(2, (eU8 (0 : Int))), (3, (eI64 (0 : Int))), (4, (eBool false))]) (H' := []) ⟨rfl, rfl, rfl, trivial⟩ (Sub.refl _) ?_
        have hr := Option.some.inj h
        subst hr
        exact ⟨[(eU8 (0 : Int)), (eI64 (0 : Int)), (eBool false)], ⟨rfl, rfl, rfl, rfl, rfl, rfl, trivial⟩, rfl⟩
      · have h := (if_neg hc6).symm.trans h
        refine AW.condN ((p0.size : Int) < (2 : Int)) rfl hc6 ?_
        refine AW.skip (ρ' := [(0, (eStr p0))]) (H' := []) ⟨rfl, trivial⟩ (Sub.refl _) ?_
        refine AW.seq ?_
        refine AW.reg ?_
        refine AO.calm rfl 19 rfl (by decide) (eStr p0) (Calm.move rfl rfl) ?_
        obtain ⟨hg7, h⟩ := of_guard h
        refine AO.calm rfl 20 rfl (by decide) (eU8 (byteAt p0 (1 : Int))) (Calm.idxS rfl rfl rfl hg7 Try.underlying9) ?_
        refine AO.calm rfl 5 rfl (by decide) (eU8 (byteAt p0 (1 : Int))) (Calm.assign rfl rfl) ?_
        refine AO.nil (ρ' := [(0, (eStr p0)), (5, (eU8 (byteAt p0 (1 : Int))))]) (H' := []) ⟨rfl, rfl, trivial⟩ (Sub.refl _) ?_
        refine AW.seq_mid (fun ρ H => ρ = [(5, (eU8 (byteAt p0 (1 : Int))))] ∧ H = [] ∧ escape_Read_c0 k p0 = some r) ?_ ?_
        · refine AW.seq ?_
          refine AW.reg ?_
          refine AO.calm rfl 21 rfl (by decide) (eU8 (byteAt p0 (1 : Int))) (Calm.move rfl rfl) ?_
          refine AO.nil (ρ' := [(0, (eStr p0)), (5, (eU8 (byteAt p0 (1 : Int)))), (21, (eU8 (byteAt p0 (1 : Int))))]) (H' := []) ⟨rfl, rfl, rfl, trivial⟩ (Sub.refl _) ?_
          refine AW.block ?_
          refine AW.seq_mid (fun ρ H => ρ = [] ∧ H = [] ∧ escape_Read_c1 k = some r) ?_ ?_
          · refine AW.block ?_
            refine AW.seq_mid (fun ρ H => ρ = [(0, (eStr p0))] ∧ H = [] ∧ escape_Read_c2 k p0 = some r) ?_ ?_
            · refine AW.block ?_
              refine AW.seq_mid (fun ρ H => ρ = [] ∧ H = [] ∧ escape_Read_c3 k = some r) ?_ ?_
              · refine AW.block ?_
                refine AW.seq_mid (fun ρ H => ρ = [] ∧ H = [] ∧ escape_Read_c4 k = some r) ?_ ?_
                · refine AW.block ?_
                  refine AW.seq_mid (fun ρ H => ρ = [] ∧ H = [] ∧ escape_Read_c5 k = some r) ?_ ?_
                  · refine AW.block ?_
                    refine AW.seq ?_
                    refine AW.seq ?_
                    refine AW.seq ?_
                    refine AW.reg ?_
                    refine AO.calm rfl 23 rfl (by decide) (eBool (decide ((byteAt p0 (1 : Int)) = (110 : Int)))) (Calm.int rfl rfl rfl rfl) ?_
                    refine AO.calm rfl 22 rfl (by decide) (eBool (decide ((byteAt p0 (1 : Int)) = (110 : Int)))) (Calm.assign rfl rfl) ?_
                    refine AO.nil (ρ' := [(0, (eStr p0)), (5, (eU8 (byteAt p0 (1 : Int)))), (21, (eU8 (byteAt p0 (1 : Int)))), (22, (eBool (decide ((byteAt p0 (1 : Int)) = (110 : Int)))))]) (H' := []) ⟨rfl, rfl, rfl, rfl, trivial⟩ (Sub.refl _) ?_
                    by_cases hc46 : (byteAt p0 (1 : Int)) = (110 : Int)
                    · have h := (if_pos hc46).symm.trans h
                      refine AW.condP ((byteAt p0 (1 : Int)) = (110 : Int)) rfl hc46 ?_
                      refine AW.exit (ρ' := []) (H' := []) trivial (Sub.refl _) ?_
                      exact ⟨rfl, rfl, h⟩
                    · have h := (if_neg hc46).symm.trans h
                      refine AW.condN ((byteAt p0 (1 : Int)) = (110 : Int)) rfl hc46 ?_
                      refine AW.skip (ρ' := [(0, (eStr p0)), (5, (eU8 (byteAt p0 (1 : Int)))), (21, (eU8 (byteAt p0 (1 : Int))))]) (H' := []) ⟨rfl, rfl, rfl, trivial⟩ (Sub.refl _) ?_
                      refine AW.seq ?_
                      refine AW.seq ?_
                      refine AW.reg ?_
                      refine AO.calm rfl 25 rfl (by decide) (eBool (decide ((byteAt p0 (1 : Int)) = (116 : Int)))) (Calm.int rfl rfl rfl rfl) ?_
                      refine AO.calm rfl 24 rfl (by decide) (eBool (decide ((byteAt p0 (1 : Int)) = (116 : Int)))) (Calm.assign rfl rfl) ?_
                      refine AO.nil (ρ' := [(0, (eStr p0)), (5, (eU8 (byteAt p0 (1 : Int)))), (21, (eU8 (byteAt p0 (1 : Int)))), (24, (eBool (decide ((byteAt p0 (1 : Int)) = (116 : Int)))))]) (H' := []) ⟨rfl, rfl, rfl, rfl, trivial⟩ (Sub.refl _) ?_
                      by_cases hc47 : (byteAt p0 (1 : Int)) = (116 : Int)
                      · have h := (if_pos hc47).symm.trans h
                        refine AW.condP ((byteAt p0 (1 : Int)) = (116 : Int)) rfl hc47 ?_
                        refine AW.exit (ρ' := []) (H' := []) trivial (Sub.refl _) ?_
                        exact ⟨rfl, rfl, h⟩
                      · have h := (if_neg hc47).symm.trans h
                        refine AW.condN ((byteAt p0 (1 : Int)) = (116 : Int)) rfl hc47 ?_
                        refine AW.skip (ρ' := [(0, (eStr p0)), (5, (eU8 (byteAt p0 (1 : Int)))), (21, (eU8 (byteAt p0 (1 : Int))))]) (H' := []) ⟨rfl, rfl, rfl, trivial⟩ (Sub.refl _) ?_
                        refine AW.seq ?_
                        refine AW.seq ?_
                        refine AW.reg ?_
                        refine AO.calm rfl 27 rfl (by decide) (eBool (decide ((byteAt p0 (1 : Int)) = (114 : Int)))) (Calm.int rfl rfl rfl rfl) ?_
                        refine AO.calm rfl 26 rfl (by decide) (eBool (decide ((byteAt p0 (1 : Int)) = (114 : Int)))) (Calm.assign rfl rfl) ?_
                        refine AO.nil (ρ' := [(0, (eStr p0)), (5, (eU8 (byteAt p0 (1 : Int)))), (21, (eU8 (byteAt p0 (1 : Int)))), (26, (eBool (decide ((byteAt p0 (1 : Int)) = (114 : Int)))))]) (H' := []) ⟨rfl, rfl, rfl, rfl, trivial⟩ (Sub.refl _) ?_
                        by_cases hc48 : (byteAt p0 (1 : Int)) = (114 : Int)
                        · have h := (if_pos hc48).symm.trans h
                          refine AW.condP ((byteAt p0 (1 : Int)) = (114 : Int)) rfl hc48 ?_
                          refine AW.exit (ρ' := []) (H' := []) trivial (Sub.refl _) ?_
                          exact ⟨rfl, rfl, h⟩
                        · have h := (if_neg hc48).symm.trans h
                          refine AW.condN ((byteAt p0 (1 : Int)) = (114 : Int)) rfl hc48 ?_
                          refine AW.skip (ρ' := [(0, (eStr p0)), (5, (eU8 (byteAt p0 (1 : Int)))), (21, (eU8 (byteAt p0 (1 : Int))))]) (H' := []) ⟨rfl, rfl, rfl, trivial⟩ (Sub.refl _) ?_
                          refine AW.seq ?_
                          refine AW.seq ?_
                          refine AW.reg ?_
                          refine AO.calm rfl 29 rfl (by decide) (eBool (decide ((byteAt p0 (1 : Int)) = (120 : Int)))) (Calm.int rfl rfl rfl rfl) ?_
                          refine AO.calm rfl 28 rfl (by decide) (eBool (decide ((byteAt p0 (1 : Int)) = (120 : Int)))) (Calm.assign rfl rfl) ?_
                          refine AO.nil (ρ' := [(0, (eStr p0)), (5, (eU8 (byteAt p0 (1 : Int)))), (21, (eU8 (byteAt p0 (1 : Int)))), (28, (eBool (decide ((byteAt p0 (1 : Int)) = (120 : Int)))))]) (H' := []) ⟨rfl, rfl, rfl, rfl, trivial⟩ (Sub.refl _) ?_
                          by_cases hc49 : (byteAt p0 (1 : Int)) = (120 : Int)
                          · have h := (if_pos hc49).symm.trans h
                            refine AW.condP ((byteAt p0 (1 : Int)) = (120 : Int)) rfl hc49 ?_
                            refine AW.exit (ρ' := [(0, (eStr p0))]) (H' := []) ⟨rfl, trivial⟩ (Sub.refl _) ?_
                            exact ⟨rfl, rfl, h⟩
                          · have h := (if_neg hc49).symm.trans h
                            refine AW.condN ((byteAt p0 (1 : Int)) = (120 : Int)) rfl hc49 ?_
                            refine AW.skip (ρ' := [(5, (eU8 (byteAt p0 (1 : Int)))), (21, (eU8 (byteAt p0 (1 : Int))))]) (H' := []) ⟨rfl, rfl, trivial⟩ (Sub.refl _) ?_
                            refine AW.seq ?_
                            refine AW.reg ?_
                            refine AO.calm rfl 31 rfl (by decide) (eBool (decide ((byteAt p0 (1 : Int)) = (0 : Int)))) (Calm.int rfl rfl rfl rfl) ?_
                            refine AO.calm rfl 30 rfl (by decide) (eBool (decide ((byteAt p0 (1 : Int)) = (0 : Int)))) (Calm.assign rfl rfl) ?_
                            refine AO.nil (ρ' := [(5, (eU8 (byteAt p0 (1 : Int)))), (30, (eBool (decide ((byteAt p0 (1 : Int)) = (0 : Int)))))]) (H' := []) ⟨rfl, rfl, trivial⟩ (Sub.refl _) ?_
                            by_cases hc50 : (byteAt p0 (1 : Int)) = (0 : Int)
                            · have h := (if_pos hc50).symm.trans h
                              refine AW.condP ((byteAt p0 (1 : Int)) = (0 : Int)) rfl hc50 ?_
                              refine AW.exit (ρ' := []) (H' := []) trivial (Sub.refl _) ?_
                              exact ⟨rfl, rfl, h⟩
                            · have h := (if_neg hc50).symm.trans h
                              refine AW.condN ((byteAt p0 (1 : Int)) = (0 : Int)) rfl hc50 ?_
                              refine AW.skip (ρ' := [(5, (eU8 (byteAt p0 (1 : Int))))]) (H' := []) ⟨rfl, trivial⟩ (Sub.refl _) ?_
                              refine AW.exit (ρ' := [(5, (eU8 (byteAt p0 (1 : Int))))]) (H' := []) ⟨rfl, trivial⟩ (Sub.refl _) ?_
                              exact ⟨rfl, rfl, h⟩
                  · rintro _ _ ⟨rfl, rfl, h⟩
                    rw [escape_Read_c5.eq_1] at h
                    refine AW.seq ?_
                    refine AW.seq ?_
                    refine AW.reg ?_
                    refine AO.calm rfl 2 rfl (by decide) (eU8 (10 : Int)) (Calm.assign rfl rfl) ?_
                    refine AO.calm rfl 3 rfl (by decide) (eI64 (2 : Int)) (Calm.assign rfl rfl) ?_
                    refine AO.calm rfl 4 rfl (by decide) (eBool true) (Calm.assign rfl rfl) ?_
                    refine AO.nil (ρ' := [(2, (eU8 (10 : Int))), (3, (eI64 (2 : Int))), (4, (eBool true))]) (H' := []) ⟨rfl, rfl, rfl, trivial⟩ (Sub.refl _) ?_
                    refine AW.ret (ρ' := [(2, (eU8 (10 : Int))), (3, (eI64 (2 : Int))), (4, (eBool true))]) (H' := []) ⟨rfl, rfl, rfl, trivial⟩ (Sub.refl _) ?_
                    have hr := Option.some.inj h
                    subst hr
                    exact ⟨[(eU8 (10 : Int)), (eI64 (2 : Int)), (eBool true)], ⟨rfl, rfl, rfl, rfl, rfl, rfl, trivial⟩, rfl⟩
                · rintro _ _ ⟨rfl, rfl, h⟩
                  rw [escape_Read_c4.eq_1] at h
                  refine AW.seq ?_
                  refine AW.seq ?_
                  refine AW.reg ?_
                  refine AO.calm rfl 2 rfl (by decide) (eU8 (9 : Int)) (Calm.assign rfl rfl) ?_
                  refine AO.calm rfl 3 rfl (by decide) (eI64 (2 : Int)) (Calm.assign rfl rfl) ?_
                  refine AO.calm rfl 4 rfl (by decide) (eBool true) (Calm.assign rfl rfl) ?_
                  refine AO.nil (ρ' := [(2, (eU8 (9 : Int))), (3, (eI64 (2 : Int))), (4, (eBool true))]) (H' := []) ⟨rfl, rfl, rfl, trivial⟩ (Sub.refl _) ?_
                  refine AW.ret (ρ' := [(2, (eU8 (9 : Int))), (3, (eI64 (2 : Int))), (4, (eBool true))]) (H' := []) ⟨rfl, rfl, rfl, trivial⟩ (Sub.refl _) ?_
                  have hr := Option.some.inj h
                  subst hr
                  exact ⟨[(eU8 (9 : Int)), (eI64 (2 : Int)), (eBool true)], ⟨rfl, rfl, rfl, rfl, rfl, rfl, trivial⟩, rfl⟩
              · rintro _ _ ⟨rfl, rfl, h⟩
                rw [escape_Read_c3.eq_1] at h
                refine AW.seq ?_
                refine AW.seq ?_
                refine AW.reg ?_
                refine AO.calm rfl 2 rfl (by decide) (eU8 (13 : Int)) (Calm.assign rfl rfl) ?_
                refine AO.calm rfl 3 rfl (by decide) (eI64 (2 : Int)) (Calm.assign rfl rfl) ?_
                refine AO.calm rfl 4 rfl (by decide) (eBool true) (Calm.assign rfl rfl) ?_
                refine AO.nil (ρ' := [(2, (eU8 (13 : Int))), (3, (eI64 (2 : Int))), (4, (eBool true))]) (H' := []) ⟨rfl, rfl, rfl, trivial⟩ (Sub.refl _) ?_
                refine AW.ret (ρ' := [(2, (eU8 (13 : Int))), (3, (eI64 (2 : Int))), (4, (eBool true))]) (H' := []) ⟨rfl, rfl, rfl, trivial⟩ (Sub.refl _) ?_
                have hr := Option.some.inj h
                subst hr
                exact ⟨[(eU8 (13 : Int)), (eI64 (2 : Int)), (eBool true)], ⟨rfl, rfl, rfl, rfl, rfl, rfl, trivial⟩, rfl⟩
            · rintro _ _ ⟨rfl, rfl, h⟩
              rw [escape_Read_c2.eq_1] at h
              refine AW.seq ?_
              obtain ⟨b33, hq34, h⟩ := of_bind h
              refine AW.regM [(0, (eStr p0)), (46, (eBool b33))] [] ?_ ?_
              · refine AO.calm rfl 32 rfl (by decide) (eStr p0) (Calm.move rfl rfl) ?_
                refine AO.calm rfl 33 rfl (by decide) (eI64 (p0.size : Int)) (Calm.lenStr rfl rfl Try.underlying9) ?_
                refine AO.calm rfl 34 rfl (by decide) (eBool (decide ((4 : Int) ≤ (p0.size : Int)))) (Calm.int rfl rfl rfl rfl) ?_
                refine AO.calm rfl 35 rfl (by decide) (eBool (decide ((4 : Int) ≤ (p0.size : Int)))) (Calm.move rfl rfl) ?_
                by_cases hc35 : (4 : Int) ≤ (p0.size : Int)
                · have hq34 := (if_pos hc35).symm.trans hq34
                  refine AO.calmG 3 true 35 rfl rfl (congrArg (fun b => some (AV.fl (Value.bool b))) (decide_eq_true hc35)) 36 rfl (by decide) (eStr p0) (Calm.move rfl rfl) ?_
                  obtain ⟨hg36, hq34⟩ := of_guard hq34
                  refine AO.calmG 3 true 35 rfl rfl (congrArg (fun b => some (AV.fl (Value.bool b))) (decide_eq_true hc35)) 37 rfl (by decide) (eU8 (byteAt p0 (2 : Int))) (Calm.idxS rfl rfl rfl hg36 Try.underlying9) ?_
                  obtain ⟨t37, et37, hq34⟩ := of_bind hq34
                  refine AO.callG 3 true 35 [(eU8 (byteAt p0 (2 : Int)))] (eI64 t37) 38 rfl (by decide) ok98 rfl rfl (congrArg (fun b => some (AV.fl (Value.bool b))) (decide_eq_true hc35)) rfl rfl ⟨rfl, rfl, trivial⟩ (escape_value_spec et37) ?_
                  refine AO.calmG 3 true 35 rfl rfl (congrArg (fun b => some (AV.fl (Value.bool b))) (decide_eq_true hc35)) 39 rfl (by decide) (eBool (decide ((0 : Int) ≤ t37))) (Calm.int rfl rfl rfl rfl) ?_
                  refine AO.calm rfl 40 rfl (by decide) (eBool (decide ((0 : Int) ≤ t37))) (Calm.pickT rfl (congrArg (fun b => some (AV.fl (Value.bool b))) (decide_eq_true hc35)) rfl) ?_
                  refine AO.calm rfl 41 rfl (by decide) (eBool (decide ((0 : Int) ≤ t37))) (Calm.move rfl rfl) ?_
                  by_cases hc38 : (0 : Int) ≤ t37
                  · have hq34 := (if_pos hc38).symm.trans hq34
                    refine AO.calmG 9 true 41 rfl rfl (congrArg (fun b => some (AV.fl (Value.bool b))) (decide_eq_true hc38)) 42 rfl (by decide) (eStr p0) (Calm.move rfl rfl) ?_
                    obtain ⟨hg39, hq34⟩ := of_guard hq34
                    refine AO.calmG 9 true 41 rfl rfl (congrArg (fun b => some (AV.fl (Value.bool b))) (decide_eq_true hc38)) 43 rfl (by decide) (eU8 (byteAt p0 (3 : Int))) (Calm.idxS rfl rfl rfl hg39 Try.underlying9) ?_
                    obtain ⟨t40, et40, hq34⟩ := of_bind hq34
                    refine AO.callG 9 true 41 [(eU8 (byteAt p0 (3 : Int)))] (eI64 t40) 44 rfl (by decide) ok98 rfl rfl (congrArg (fun b => some (AV.fl (Value.bool b))) (decide_eq_true hc38)) rfl rfl ⟨rfl, rfl, trivial⟩ (escape_value_spec et40) ?_
                    refine AO.calmG 9 true 41 rfl rfl (congrArg (fun b => some (AV.fl (Value.bool b))) (decide_eq_true hc38)) 45 rfl (by decide) (eBool (decide ((0 : Int) ≤ t40))) (Calm.int rfl rfl rfl rfl) ?_
                    refine AO.calm rfl 46 rfl (by decide) (eBool (decide ((0 : Int) ≤ t40))) (Calm.pickT rfl (congrArg (fun b => some (AV.fl (Value.bool b))) (decide_eq_true hc38)) rfl) ?_
                    cases hq34
                    refine AO.nilE ⟨rfl, rfl⟩ ?_ ?_
                    · exact ⟨rfl, rfl, trivial⟩
                    · exact (Sub.refl _)
                  · have hq34 := (if_neg hc38).symm.trans hq34
                    refine AO.skipG 9 false 41 rfl rfl (congrArg (fun b => some (AV.fl (Value.bool b))) (decide_eq_false hc38)) 42 rfl (by decide) ?_
                    refine AO.skipG 9 false 41 rfl rfl (congrArg (fun b => some (AV.fl (Value.bool b))) (decide_eq_false hc38)) 43 rfl (by decide) ?_
                    refine AO.skipG 9 false 41 rfl rfl (congrArg (fun b => some (AV.fl (Value.bool b))) (decide_eq_false hc38)) 44 rfl (by decide) ?_
                    refine AO.skipG 9 false 41 rfl rfl (congrArg (fun b => some (AV.fl (Value.bool b))) (decide_eq_false hc38)) 45 rfl (by decide) ?_
                    refine AO.calm rfl 46 rfl (by decide) (eBool false) (Calm.pickF rfl (congrArg (fun b => some (AV.fl (Value.bool b))) (decide_eq_false hc38)) rfl) ?_
                    cases hq34
                    refine AO.nilE ⟨rfl, rfl⟩ ?_ ?_
                    · exact ⟨rfl, rfl, trivial⟩
                    · exact (Sub.refl _)
                · have hq34 := (if_neg hc35).symm.trans hq34
                  refine AO.skipG 3 false 35 rfl rfl (congrArg (fun b => some (AV.fl (Value.bool b))) (decide_eq_false hc35)) 36 rfl (by decide) ?_
                  refine AO.skipG 3 false 35 rfl rfl (congrArg (fun b => some (AV.fl (Value.bool b))) (decide_eq_false hc35)) 37 rfl (by decide) ?_
                  refine AO.skipG 3 false 35 rfl rfl (congrArg (fun b => some (AV.fl (Value.bool b))) (decide_eq_false hc35)) 38 rfl (by decide) ?_
                  refine AO.skipG 3 false 35 rfl rfl (congrArg (fun b => some (AV.fl (Value.bool b))) (decide_eq_false hc35)) 39 rfl (by decide) ?_
                  refine AO.calm rfl 40 rfl (by decide) (eBool false) (Calm.pickF rfl (congrArg (fun b => some (AV.fl (Value.bool b))) (decide_eq_false hc35)) rfl) ?_
                  refine AO.calm rfl 41 rfl (by decide) (eBool false) (Calm.move rfl rfl) ?_
                  refine AO.skipG 9 false 41 rfl rfl rfl 42 rfl (by decide) ?_
                  refine AO.skipG 9 false 41 rfl rfl rfl 43 rfl (by decide) ?_
                  refine AO.skipG 9 false 41 rfl rfl rfl 44 rfl (by decide) ?_
                  refine AO.skipG 9 false 41 rfl rfl rfl 45 rfl (by decide) ?_
                  refine AO.calm rfl 46 rfl (by decide) (eBool false) (Calm.pickF rfl rfl rfl) ?_
                  cases hq34
                  refine AO.nilE ⟨rfl, rfl⟩ ?_ ?_
                  · exact ⟨rfl, rfl, trivial⟩
                  · exact (Sub.refl _)
              · by_cases hc41 : b33 = true
                · have h := (if_pos hc41).symm.trans h
                  refine AW.condT' b33 rfl hc41 ?_
                  refine AW.seq ?_
                  refine AW.regQ (by rfl) (by decide +kernel) ?_
                  refine AQ.calm rfl 47 rfl (by decide) (eStr p0) (Calm.move rfl rfl) ?_
                  obtain ⟨hg42, h⟩ := of_guard h
                  refine AQ.calm rfl 48 rfl (by decide) (eU8 (byteAt p0 (2 : Int))) (Calm.idxS rfl rfl rfl hg42 Try.underlying9) ?_
                  obtain ⟨t43, et43, h⟩ := of_bind h
                  refine AQ.calm rfl 49 rfl (by decide) (eI64 t43) (Calm.call (args := [(eU8 (byteAt p0 (2 : Int)))]) rfl rfl ok98 ⟨rfl, rfl, trivial⟩ rfl (escape_value_spec et43)) ?_
                  refine AQ.calm rfl 50 rfl (by decide) (eI64 (IntKind.i64.wrap (t43 * 2 ^ (min (4 : Int).toNat IntKind.i64.bits)))) (Calm.shl rfl rfl rfl (by decide)) ?_
                  refine AQ.calm rfl 51 rfl (by decide) (eStr p0) (Calm.move rfl rfl) ?_
                  obtain ⟨hg44, h⟩ := of_guard h
                  refine AQ.calm rfl 52 rfl (by decide) (eU8 (byteAt p0 (3 : Int))) (Calm.idxS rfl rfl rfl hg44 Try.underlying9) ?_
                  obtain ⟨t45, et45, h⟩ := of_bind h
                  refine AQ.calm rfl 53 rfl (by decide) (eI64 t45) (Calm.call (args := [(eU8 (byteAt p0 (3 : Int)))]) rfl rfl ok98 ⟨rfl, rfl, trivial⟩ rfl (escape_value_spec et45)) ?_
                  refine AQ.calm rfl 54 rfl (by decide) (eI64 (bits .or .i64 (IntKind.i64.wrap (t43 * 2 ^ (min (4 : Int).toNat IntKind.i64.bits))) t45)) (Calm.int rfl rfl rfl rfl) ?_
                  refine AQ.calm rfl 55 rfl (by decide) (eU8 (w8 (bits .or .i64 (IntKind.i64.wrap (t43 * 2 ^ (min (4 : Int).toNat IntKind.i64.bits))) t45))) (Calm.conv rfl rfl Try.underlying3 Try.underlying5) ?_
                  refine AQ.calm rfl 2 rfl (by decide) (eU8 (w8 (bits .or .i64 (IntKind.i64.wrap (t43 * 2 ^ (min (4 : Int).toNat IntKind.i64.bits))) t45))) (Calm.assign rfl rfl) ?_
                  refine AQ.calm rfl 3 rfl (by decide) (eI64 (4 : Int)) (Calm.assign rfl rfl) ?_
                  refine AQ.calm rfl 4 rfl (by decide) (eBool true) (Calm.assign rfl rfl) ?_
                  refine AQ.nil (ρ' := [(2, (eU8 (w8 (bits .or .i64 (IntKind.i64.wrap (t43 * 2 ^ (min (4 : Int).toNat IntKind.i64.bits))) t45)))), (3, (eI64 (4 : Int))), (4, (eBool true))]) ⟨rfl, rfl, rfl, trivial⟩ ?_
                  refine AW.ret (ρ' := [(2, (eU8 (w8 (bits .or .i64 (IntKind.i64.wrap (t43 * 2 ^ (min (4 : Int).toNat IntKind.i64.bits))) t45)))), (3, (eI64 (4 : Int))), (4, (eBool true))]) (H' := []) ⟨rfl, rfl, rfl, trivial⟩ (Sub.refl _) ?_
                  have hr := Option.some.inj h
                  subst hr
                  exact ⟨[(eU8 (w8 (bits .or .i64 (IntKind.i64.wrap (t43 * 2 ^ (min (4 : Int).toNat IntKind.i64.bits))) t45))), (eI64 (4 : Int)), (eBool true)], ⟨rfl, rfl, rfl, rfl, rfl, rfl, trivial⟩, rfl⟩
                · have h := (if_neg hc41).symm.trans h
                  refine AW.condF' b33 rfl hc41 ?_
                  refine AW.skip (ρ' := []) (H' := []) trivial (Sub.refl _) ?_
                  exact ⟨rfl, rfl, h⟩
          · rintro _ _ ⟨rfl, rfl, h⟩
            rw [escape_Read_c1.eq_1] at h
            refine AW.seq ?_
            refine AW.seq ?_
            refine AW.reg ?_
            refine AO.calm rfl 2 rfl (by decide) (eU8 (0 : Int)) (Calm.assign rfl rfl) ?_
            refine AO.calm rfl 3 rfl (by decide) (eI64 (0 : Int)) (Calm.assign rfl rfl) ?_
            refine AO.calm rfl 4 rfl (by decide) (eBool false) (Calm.assign rfl rfl) ?_
            refine AO.nil (ρ' := [(2, (eU8 (0 : Int))), (3, (eI64 (0 : Int))), (4, (eBool false))]) (H' := []) ⟨rfl, rfl, rfl, trivial⟩ (Sub.refl _) ?_
            refine AW.ret (ρ' := [(2, (eU8 (0 : Int))), (3, (eI64 (0 : Int))), (4, (eBool false))]) (H' := []) ⟨rfl, rfl, rfl, trivial⟩ (Sub.refl _) ?_
            have hr := Option.some.inj h
            subst hr
            exact ⟨[(eU8 (0 : Int)), (eI64 (0 : Int)), (eBool false)], ⟨rfl, rfl, rfl, rfl, rfl, rfl, trivial⟩, rfl⟩
        · rintro _ _ ⟨rfl, rfl, h⟩
          rw [escape_Read_c0.eq_1] at h
          refine AW.seq ?_
          refine AW.seq ?_
          obtain ⟨b8, hq9, h⟩ := of_bind h
          refine AW.regM [(5, (eU8 (byteAt p0 (1 : Int)))), (85, (eBool b8))] [] ?_ ?_
          · refine AO.calm rfl 56 rfl (by decide) (eU8 (byteAt p0 (1 : Int))) (Calm.move rfl rfl) ?_
            refine AO.calm rfl 57 rfl (by decide) (eBool (decide ((48 : Int) ≤ (byteAt p0 (1 : Int))))) (Calm.int rfl rfl rfl rfl) ?_
            refine AO.calm rfl 58 rfl (by decide) (eBool (decide ((48 : Int) ≤ (byteAt p0 (1 : Int))))) (Calm.move rfl rfl) ?_
            by_cases hc10 : (48 : Int) ≤ (byteAt p0 (1 : Int))
            · have hq9 := (if_pos hc10).symm.trans hq9
              refine AO.calmG 2 true 58 rfl rfl (congrArg (fun b => some (AV.fl (Value.bool b))) (decide_eq_true hc10)) 59 rfl (by decide) (eU8 (byteAt p0 (1 : Int))) (Calm.move rfl rfl) ?_
              refine AO.calmG 2 true 58 rfl rfl (congrArg (fun b => some (AV.fl (Value.bool b))) (decide_eq_true hc10)) 60 rfl (by decide) (eBool (decide ((byteAt p0 (1 : Int)) ≤ (57 : Int)))) (Calm.int rfl rfl rfl rfl) ?_
              refine AO.calm rfl 61 rfl (by decide) (eBool (decide ((byteAt p0 (1 : Int)) ≤ (57 : Int)))) (Calm.pickT rfl (congrArg (fun b => some (AV.fl (Value.bool b))) (decide_eq_true hc10)) rfl) ?_
              refine AO.calm rfl 62 rfl (by decide) (eBool (decide ((byteAt p0 (1 : Int)) ≤ (57 : Int)))) (Calm.move rfl rfl) ?_
              by_cases hc11 : (byteAt p0 (1 : Int)) ≤ (57 : Int)
              · have hq9 := (if_pos hc11).symm.trans hq9
                refine AO.skipG 6 true 62 rfl rfl (congrArg (fun b => some (AV.fl (Value.bool b))) (decide_eq_true hc11)) 63 rfl (by decide) ?_
                refine AO.skipG 6 true 62 rfl rfl (congrArg (fun b => some (AV.fl (Value.bool b))) (decide_eq_true hc11)) 64 rfl (by decide) ?_
                refine AO.skipG 6 true 62 rfl rfl (congrArg (fun b => some (AV.fl (Value.bool b))) (decide_eq_true hc11)) 65 rfl (by decide) ?_
                refine AO.skipU 9 true 65 rfl rfl rfl 66 rfl (by decide) ?_
                refine AO.skipU 9 true 65 rfl rfl rfl 67 rfl (by decide) ?_
                refine AO.skipG 6 true 62 rfl rfl (congrArg (fun b => some (AV.fl (Value.bool b))) (decide_eq_true hc11)) 68 rfl (by decide) ?_
                refine AO.calm rfl 69 rfl (by decide) (eBool true) (Calm.pickT rfl (congrArg (fun b => some (AV.fl (Value.bool b))) (decide_eq_true hc11)) rfl) ?_
                refine AO.calm rfl 70 rfl (by decide) (eBool true) (Calm.move rfl rfl) ?_
                refine AO.skipG 14 true 70 rfl rfl rfl 71 rfl (by decide) ?_
                refine AO.skipG 14 true 70 rfl rfl rfl 72 rfl (by decide) ?_
                refine AO.skipG 14 true 70 rfl rfl rfl 73 rfl (by decide) ?_
                refine AO.skipU 17 true 73 rfl rfl rfl 74 rfl (by decide) ?_
                refine AO.skipU 17 true 73 rfl rfl rfl 75 rfl (by decide) ?_
                refine AO.skipG 14 true 70 rfl rfl rfl 76 rfl (by decide) ?_
                refine AO.calm rfl 77 rfl (by decide) (eBool true) (Calm.pickT rfl rfl rfl) ?_
                refine AO.calm rfl 78 rfl (by decide) (eBool true) (Calm.move rfl rfl) ?_
                refine AO.skipG 22 true 78 rfl rfl rfl 79 rfl (by decide) ?_
                refine AO.skipG 22 true 78 rfl rfl rfl 80 rfl (by decide) ?_
                refine AO.calm rfl 81 rfl (by decide) (eBool true) (Calm.pickT rfl rfl rfl) ?_
                refine AO.calm rfl 82 rfl (by decide) (eBool true) (Calm.move rfl rfl) ?_
                refine AO.skipG 26 true 82 rfl rfl rfl 83 rfl (by decide) ?_
                refine AO.skipG 26 true 82 rfl rfl rfl 84 rfl (by decide) ?_
                refine AO.calm rfl 85 rfl (by decide) (eBool true) (Calm.pickT rfl rfl rfl) ?_
                cases hq9
                refine AO.nilE ⟨rfl, rfl⟩ ?_ ?_
                · exact ⟨rfl, rfl, trivial⟩
                · exact (Sub.refl _)
              · have hq9 := (if_neg hc11).symm.trans hq9
                refine AO.calmG 6 false 62 rfl rfl (congrArg (fun b => some (AV.fl (Value.bool b))) (decide_eq_false hc11)) 63 rfl (by decide) (eU8 (byteAt p0 (1 : Int))) (Calm.move rfl rfl) ?_
                refine AO.calmG 6 false 62 rfl rfl (congrArg (fun b => some (AV.fl (Value.bool b))) (decide_eq_false hc11)) 64 rfl (by decide) (eBool (decide ((97 : Int) ≤ (byteAt p0 (1 : Int))))) (Calm.int rfl rfl rfl rfl) ?_
                refine AO.calmG 6 false 62 rfl rfl (congrArg (fun b => some (AV.fl (Value.bool b))) (decide_eq_false hc11)) 65 rfl (by decide) (eBool (decide ((97 : Int) ≤ (byteAt p0 (1 : Int))))) (Calm.move rfl rfl) ?_
                by_cases hc12 : (97 : Int) ≤ (byteAt p0 (1 : Int))
                · have hq9 := (if_pos hc12).symm.trans hq9
                  refine AO.calmG 9 true 65 rfl rfl (congrArg (fun b => some (AV.fl (Value.bool b))) (decide_eq_true hc12)) 66 rfl (by decide) (eU8 (byteAt p0 (1 : Int))) (Calm.move rfl rfl) ?_
                  refine AO.calmG 9 true 65 rfl rfl (congrArg (fun b => some (AV.fl (Value.bool b))) (decide_eq_true hc12)) 67 rfl (by decide) (eBool (decide ((byteAt p0 (1 : Int)) ≤ (122 : Int)))) (Calm.int rfl rfl rfl rfl) ?_
                  refine AO.calmG 6 false 62 rfl rfl (congrArg (fun b => some (AV.fl (Value.bool b))) (decide_eq_false hc11)) 68 rfl (by decide) (eBool (decide ((byteAt p0 (1 : Int)) ≤ (122 : Int)))) (Calm.pickT rfl (congrArg (fun b => some (AV.fl (Value.bool b))) (decide_eq_true hc12)) rfl) ?_
                  refine AO.calm rfl 69 rfl (by decide) (eBool (decide ((byteAt p0 (1 : Int)) ≤ (122 : Int)))) (Calm.pickF rfl (congrArg (fun b => some (AV.fl (Value.bool b))) (decide_eq_false hc11)) rfl) ?_
                  refine AO.calm rfl 70 rfl (by decide) (eBool (decide ((byteAt p0 (1 : Int)) ≤ (122 : Int)))) (Calm.move rfl rfl) ?_
                  by_cases hc13 : (byteAt p0 (1 : Int)) ≤ (122 : Int)
                  · have hq9 := (if_pos hc13).symm.trans hq9
                    refine AO.skipG 14 true 70 rfl rfl (congrArg (fun b => some (AV.fl (Value.bool b))) (decide_eq_true hc13)) 71 rfl (by decide) ?_
                    refine AO.skipG 14 true 70 rfl rfl (congrArg (fun b => some (AV.fl (Value.bool b))) (decide_eq_true hc13)) 72 rfl (by decide) ?_
                    refine AO.skipG 14 true 70 rfl rfl (congrArg (fun b => some (AV.fl (Value.bool b))) (decide_eq_true hc13)) 73 rfl (by decide) ?_
                    refine AO.skipU 17 true 73 rfl rfl rfl 74 rfl (by decide) ?_
                    refine AO.skipU 17 true 73 rfl rfl rfl 75 rfl (by decide) ?_
                    refine AO.skipG 14 true 70 rfl rfl (congrArg (fun b => some (AV.fl (Value.bool b))) (decide_eq_true hc13)) 76 rfl (by decide) ?_
                    refine AO.calm rfl 77 rfl (by decide) (eBool true) (Calm.pickT rfl (congrArg (fun b => some (AV.fl (Value.bool b))) (decide_eq_true hc13)) rfl) ?_
                    refine AO.calm rfl 78 rfl (by decide) (eBool true) (Calm.move rfl rfl) ?_
                    refine AO.skipG 22 true 78 rfl rfl rfl 79 rfl (by decide) ?_
                    refine AO.skipG 22 true 78 rfl rfl rfl 80 rfl (by decide) ?_
                    refine AO.calm rfl 81 rfl (by decide) (eBool true) (Calm.pickT rfl rfl rfl) ?_
                    refine AO.calm rfl 82 rfl (by decide) (eBool true) (Calm.move rfl rfl) ?_
                    refine AO.skipG 26 true 82 rfl rfl rfl 83 rfl (by decide) ?_
                    refine AO.skipG 26 true 82 rfl rfl rfl 84 rfl (by decide) ?_
                    refine AO.calm rfl 85 rfl (by decide) (eBool true) (Calm.pickT rfl rfl rfl) ?_
                    cases hq9
                    refine AO.nilE ⟨rfl, rfl⟩ ?_ ?_
                    · exact ⟨rfl, rfl, trivial⟩
                    · exact (Sub.refl _)
                  · have hq9 := (if_neg hc13).symm.trans hq9
                    refine AO.calmG 14 false 70 rfl rfl (congrArg (fun b => some (AV.fl (Value.bool b))) (decide_eq_false hc13)) 71 rfl (by decide) (eU8 (byteAt p0 (1 : Int))) (Calm.move rfl rfl) ?_
                    refine AO.calmG 14 false 70 rfl rfl (congrArg (fun b => some (AV.fl (Value.bool b))) (decide_eq_false hc13)) 72 rfl (by decide) (eBool (decide ((65 : Int) ≤ (byteAt p0 (1 : Int))))) (Calm.int rfl rfl rfl rfl) ?_
                    refine AO.calmG 14 false 70 rfl rfl (congrArg (fun b => some (AV.fl (Value.bool b))) (decide_eq_false hc13)) 73 rfl (by decide) (eBool (decide ((65 : Int) ≤ (byteAt p0 (1 : Int))))) (Calm.move rfl rfl) ?_
                    by_cases hc14 : (65 : Int) ≤ (byteAt p0 (1 : Int))
                    · have hq9 := (if_pos hc14).symm.trans hq9
                      refine AO.calmG 17 true 73 rfl rfl (congrArg (fun b => some (AV.fl (Value.bool b))) (decide_eq_true hc14)) 74 rfl (by decide) (eU8 (byteAt p0 (1 : Int))) (Calm.move rfl rfl) ?_
                      refine AO.calmG 17 true 73 rfl rfl (congrArg (fun b => some (AV.fl (Value.bool b))) (decide_eq_true hc14)) 75 rfl (by decide) (eBool (decide ((byteAt p0 (1 : Int)) ≤ (90 : Int)))) (Calm.int rfl rfl rfl rfl) ?_
                      refine AO.calmG 14 false 70 rfl rfl (congrArg (fun b => some (AV.fl (Value.bool b))) (decide_eq_false hc13)) 76 rfl (by decide) (eBool (decide ((byteAt p0 (1 : Int)) ≤ (90 : Int)))) (Calm.pickT rfl (congrArg (fun b => some (AV.fl (Value.bool b))) (decide_eq_true hc14)) rfl) ?_
                      refine AO.calm rfl 77 rfl (by decide) (eBool (decide ((byteAt p0 (1 : Int)) ≤ (90 : Int)))) (Calm.pickF rfl (congrArg (fun b => some (AV.fl (Value.bool b))) (decide_eq_false hc13)) rfl) ?_
                      refine AO.calm rfl 78 rfl (by decide) (eBool (decide ((byteAt p0 (1 : Int)) ≤ (90 : Int)))) (Calm.move rfl rfl) ?_
                      by_cases hc15 : (byteAt p0 (1 : Int)) ≤ (90 : Int)
                      · have hq9 := (if_pos hc15).symm.trans hq9
                        refine AO.skipG 22 true 78 rfl rfl (congrArg (fun b => some (AV.fl (Value.bool b))) (decide_eq_true hc15)) 79 rfl (by decide) ?_
                        refine AO.skipG 22 true 78 rfl rfl (congrArg (fun b => some (AV.fl (Value.bool b))) (decide_eq_true hc15)) 80 rfl (by decide) ?_
                        refine AO.calm rfl 81 rfl (by decide) (eBool true) (Calm.pickT rfl (congrArg (fun b => some (AV.fl (Value.bool b))) (decide_eq_true hc15)) rfl) ?_
                        refine AO.calm rfl 82 rfl (by decide) (eBool true) (Calm.move rfl rfl) ?_
                        refine AO.skipG 26 true 82 rfl rfl rfl 83 rfl (by decide) ?_
                        refine AO.skipG 26 true 82 rfl rfl rfl 84 rfl (by decide) ?_
                        refine AO.calm rfl 85 rfl (by decide) (eBool true) (Calm.pickT rfl rfl rfl) ?_
                        cases hq9
                        refine AO.nilE ⟨rfl, rfl⟩ ?_ ?_
                        · exact ⟨rfl, rfl, trivial⟩
                        · exact (Sub.refl _)
                      · have hq9 := (if_neg hc15).symm.trans hq9
                        refine AO.calmG 22 false 78 rfl rfl (congrArg (fun b => some (AV.fl (Value.bool b))) (decide_eq_false hc15)) 79 rfl (by decide) (eU8 (byteAt p0 (1 : Int))) (Calm.move rfl rfl) ?_
                        refine AO.calmG 22 false 78 rfl rfl (congrArg (fun b => some (AV.fl (Value.bool b))) (decide_eq_false hc15)) 80 rfl (by decide) (eBool (decide ((byteAt p0 (1 : Int)) < (32 : Int)))) (Calm.int rfl rfl rfl rfl) ?_
                        refine AO.calm rfl 81 rfl (by decide) (eBool (decide ((byteAt p0 (1 : Int)) < (32 : Int)))) (Calm.pickF rfl (congrArg (fun b => some (AV.fl (Value.bool b))) (decide_eq_false hc15)) rfl) ?_
                        refine AO.calm rfl 82 rfl (by decide) (eBool (decide ((byteAt p0 (1 : Int)) < (32 : Int)))) (Calm.move rfl rfl) ?_
                        by_cases hc16 : (byteAt p0 (1 : Int)) < (32 : Int)
                        · have hq9 := (if_pos hc16).symm.trans hq9
                          refine AO.skipG 26 true 82 rfl rfl (congrArg (fun b => some (AV.fl (Value.bool b))) (decide_eq_true hc16)) 83 rfl (by decide) ?_
                          refine AO.skipG 26 true 82 rfl rfl (congrArg (fun b => some (AV.fl (Value.bool b))) (decide_eq_true hc16)) 84 rfl (by decide) ?_
                          refine AO.calm rfl 85 rfl (by decide) (eBool true) (Calm.pickT rfl (congrArg (fun b => some (AV.fl (Value.bool b))) (decide_eq_true hc16)) rfl) ?_
                          cases hq9
                          refine AO.nilE ⟨rfl, rfl⟩ ?_ ?_
                          · exact ⟨rfl, rfl, trivial⟩
                          · exact (Sub.refl _)
                        · have hq9 := (if_neg hc16).symm.trans hq9
                          refine AO.calmG 26 false 82 rfl rfl (congrArg (fun b => some (AV.fl (Value.bool b))) (decide_eq_false hc16)) 83 rfl (by decide) (eU8 (byteAt p0 (1 : Int))) (Calm.move rfl rfl) ?_
                          refine AO.calmG 26 false 82 rfl rfl (congrArg (fun b => some (AV.fl (Value.bool b))) (decide_eq_false hc16)) 84 rfl (by decide) (eBool (decide ((126 : Int) < (byteAt p0 (1 : Int))))) (Calm.int rfl rfl rfl rfl) ?_
                          refine AO.calm rfl 85 rfl (by decide) (eBool (decide ((126 : Int) < (byteAt p0 (1 : Int))))) (Calm.pickF rfl (congrArg (fun b => some (AV.fl (Value.bool b))) (decide_eq_false hc16)) rfl) ?_
                          cases hq9
                          refine AO.nilE ⟨rfl, rfl⟩ ?_ ?_
                          · exact ⟨rfl, rfl, trivial⟩
                          · exact (Sub.refl _)
                    · have hq9 := (if_neg hc14).symm.trans hq9
                      refine AO.skipG 17 false 73 rfl rfl (congrArg (fun b => some (AV.fl (Value.bool b))) (decide_eq_false hc14)) 74 rfl (by decide) ?_
                      refine AO.skipG 17 false 73 rfl rfl (congrArg (fun b => some (AV.fl (Value.bool b))) (decide_eq_false hc14)) 75 rfl (by decide) ?_
                      refine AO.calmG 14 false 70 rfl rfl (congrArg (fun b => some (AV.fl (Value.bool b))) (decide_eq_false hc13)) 76 rfl (by decide) (eBool false) (Calm.pickF rfl (congrArg (fun b => some (AV.fl (Value.bool b))) (decide_eq_false hc14)) rfl) ?_
                      refine AO.calm rfl 77 rfl (by decide) (eBool false) (Calm.pickF rfl (congrArg (fun b => some (AV.fl (Value.bool b))) (decide_eq_false hc13)) rfl) ?_
                      refine AO.calm rfl 78 rfl (by decide) (eBool false) (Calm.move rfl rfl) ?_
                      refine AO.calmG 22 false 78 rfl rfl rfl 79 rfl (by decide) (eU8 (byteAt p0 (1 : Int))) (Calm.move rfl rfl) ?_
                      refine AO.calmG 22 false 78 rfl rfl rfl 80 rfl (by decide) (eBool (decide ((byteAt p0 (1 : Int)) < (32 : Int)))) (Calm.int rfl rfl rfl rfl) ?_
                      refine AO.calm rfl 81 rfl (by decide) (eBool (decide ((byteAt p0 (1 : Int)) < (32 : Int)))) (Calm.pickF rfl rfl rfl) ?_
                      refine AO.calm rfl 82 rfl (by decide) (eBool (decide ((byteAt p0 (1 : Int)) < (32 : Int)))) (Calm.move rfl rfl) ?_
                      by_cases hc17 : (byteAt p0 (1 : Int)) < (32 : Int)
                      · have hq9 := (if_pos hc17).symm.trans hq9
                        refine AO.skipG 26 true 82 rfl rfl (congrArg (fun b => some (AV.fl (Value.bool b))) (decide_eq_true hc17)) 83 rfl (by decide) ?_
                        refine AO.skipG 26 true 82 rfl rfl (congrArg (fun b => some (AV.fl (Value.bool b))) (decide_eq_true hc17)) 84 rfl (by decide) ?_
                        refine AO.calm rfl 85 rfl (by decide) (eBool true) (Calm.pickT rfl (congrArg (fun b => some (AV.fl (Value.bool b))) (decide_eq_true hc17)) rfl) ?_
                        cases hq9
                        refine AO.nilE ⟨rfl, rfl⟩ ?_ ?_
                        · exact ⟨rfl, rfl, trivial⟩
                        · exact (Sub.refl _)
                      · have hq9 := (if_neg hc17).symm.trans hq9
                        refine AO.calmG 26 false 82 rfl rfl (congrArg (fun b => some (AV.fl (Value.bool b))) (decide_eq_false hc17)) 83 rfl (by decide) (eU8 (byteAt p0 (1 : Int))) (Calm.move rfl rfl) ?_
                        refine AO.calmG 26 false 82 rfl rfl (congrArg (fun b => some (AV.fl (Value.bool b))) (decide_eq_false hc17)) 84 rfl (by decide) (eBool (decide ((126 : Int) < (byteAt p0 (1 : Int))))) (Calm.int rfl rfl rfl rfl) ?_
                        refine AO.calm rfl 85 rfl (by decide) (eBool (decide ((126 : Int) < (byteAt p0 (1 : Int))))) (Calm.pickF rfl (congrArg (fun b => some (AV.fl (Value.bool b))) (decide_eq_false hc17)) rfl) ?_
                        cases hq9
                        refine AO.nilE ⟨rfl, rfl⟩ ?_ ?_
                        · exact ⟨rfl, rfl, trivial⟩
                        · exact (Sub.refl _)
                · have hq9 := (if_neg hc12).symm.trans hq9
                  refine AO.skipG 9 false 65 rfl rfl (congrArg (fun b => some (AV.fl (Value.bool b))) (decide_eq_false hc12)) 66 rfl (by decide) ?_
                  refine AO.skipG 9 false 65 rfl rfl (congrArg (fun b => some (AV.fl (Value.bool b))) (decide_eq_false hc12)) 67 rfl (by decide) ?_
                  refine AO.calmG 6 false 62 rfl rfl (congrArg (fun b => some (AV.fl (Value.bool b))) (decide_eq_false hc11)) 68 rfl (by decide) (eBool false) (Calm.pickF rfl (congrArg (fun b => some (AV.fl (Value.bool b))) (decide_eq_false hc12)) rfl) ?_
                  refine AO.calm rfl 69 rfl (by decide) (eBool false) (Calm.pickF rfl (congrArg (fun b => some (AV.fl (Value.bool b))) (decide_eq_false hc11)) rfl) ?_
                  refine AO.calm rfl 70 rfl (by decide) (eBool false) (Calm.move rfl rfl) ?_
                  refine AO.calmG 14 false 70 rfl rfl rfl 71 rfl (by decide) (eU8 (byteAt p0 (1 : Int))) (Calm.move rfl rfl) ?_
                  refine AO.calmG 14 false 70 rfl rfl rfl 72 rfl (by decide) (eBool (decide ((65 : Int) ≤ (byteAt p0 (1 : Int))))) (Calm.int rfl rfl rfl rfl) ?_
                  refine AO.calmG 14 false 70 rfl rfl rfl 73 rfl (by decide) (eBool (decide ((65 : Int) ≤ (byteAt p0 (1 : Int))))) (Calm.move rfl rfl) ?_
                  by_cases hc18 : (65 : Int) ≤ (byteAt p0 (1 : Int))
                  · have hq9 := (if_pos hc18).symm.trans hq9
                    refine AO.calmG 17 true 73 rfl rfl (congrArg (fun b => some (AV.fl (Value.bool b))) (decide_eq_true hc18)) 74 rfl (by decide) (eU8 (byteAt p0 (1 : Int))) (Calm.move rfl rfl) ?_
                    refine AO.calmG 17 true 73 rfl rfl (congrArg (fun b => some (AV.fl (Value.bool b))) (decide_eq_true hc18)) 75 rfl (by decide) (eBool (decide ((byteAt p0 (1 : Int)) ≤ (90 : Int)))) (Calm.int rfl rfl rfl rfl) ?_
                    refine AO.calmG 14 false 70 rfl rfl rfl 76 rfl (by decide) (eBool (decide ((byteAt p0 (1 : Int)) ≤ (90 : Int)))) (Calm.pickT rfl (congrArg (fun b => some (AV.fl (Value.bool b))) (decide_eq_true hc18)) rfl) ?_
                    refine AO.calm rfl 77 rfl (by decide) (eBool (decide ((byteAt p0 (1 : Int)) ≤ (90 : Int)))) (Calm.pickF rfl rfl rfl) ?_
                    refine AO.calm rfl 78 rfl (by decide) (eBool (decide ((byteAt p0 (1 : Int)) ≤ (90 : Int)))) (Calm.move rfl rfl) ?_
                    by_cases hc19 : (byteAt p0 (1 : Int)) ≤ (90 : Int)
                    · have hq9 := (if_pos hc19).symm.trans hq9
                      refine AO.skipG 22 true 78 rfl rfl (congrArg (fun b => some (AV.fl (Value.bool b))) (decide_eq_true hc19)) 79 rfl (by decide) ?_
                      refine AO.skipG 22 true 78 rfl rfl (congrArg (fun b => some (AV.fl (Value.bool b))) (decide_eq_true hc19)) 80 rfl (by decide) ?_
                      refine AO.calm rfl 81 rfl (by decide) (eBool true) (Calm.pickT rfl (congrArg (fun b => some (AV.fl (Value.bool b))) (decide_eq_true hc19)) rfl) ?_
                      refine AO.calm rfl 82 rfl (by decide) (eBool true) (Calm.move rfl rfl) ?_
                      refine AO.skipG 26 true 82 rfl rfl rfl 83 rfl (by decide) ?_
                      refine AO.skipG 26 true 82 rfl rfl rfl 84 rfl (by decide) ?_
                      refine AO.calm rfl 85 rfl (by decide) (eBool true) (Calm.pickT rfl rfl rfl) ?_
                      cases hq9
                      refine AO.nilE ⟨rfl, rfl⟩ ?_ ?_
                      · exact ⟨rfl, rfl, trivial⟩
                      · exact (Sub.refl _)
                    · have hq9 := (if_neg hc19).symm.trans hq9
                      refine AO.calmG 22 false 78 rfl rfl (congrArg (fun b => some (AV.fl (Value.bool b))) (decide_eq_false hc19)) 79 rfl (by decide) (eU8 (byteAt p0 (1 : Int))) (Calm.move rfl rfl) ?_
                      refine AO.calmG 22 false 78 rfl rfl (congrArg (fun b => some (AV.fl (Value.bool b))) (decide_eq_false hc19)) 80 rfl (by decide) (eBool (decide ((byteAt p0 (1 : Int)) < (32 : Int)))) (Calm.int rfl rfl rfl rfl) ?_
                      refine AO.calm rfl 81 rfl (by decide) (eBool (decide ((byteAt p0 (1 : Int)) < (32 : Int)))) (Calm.pickF rfl (congrArg (fun b => some (AV.fl (Value.bool b))) (decide_eq_false hc19)) rfl) ?_
                      refine AO.calm rfl 82 rfl (by decide) (eBool (decide ((byteAt p0 (1 : Int)) < (32 : Int)))) (Calm.move rfl rfl) ?_
                      by_cases hc20 : (byteAt p0 (1 : Int)) < (32 : Int)
                      · have hq9 := (if_pos hc20).symm.trans hq9
                        refine AO.skipG 26 true 82 rfl rfl (congrArg (fun b => some (AV.fl (Value.bool b))) (decide_eq_true hc20)) 83 rfl (by decide) ?_
                        refine AO.skipG 26 true 82 rfl rfl (congrArg (fun b => some (AV.fl (Value.bool b))) (decide_eq_true hc20)) 84 rfl (by decide) ?_
                        refine AO.calm rfl 85 rfl (by decide) (eBool true) (Calm.pickT rfl (congrArg (fun b => some (AV.fl (Value.bool b))) (decide_eq_true hc20)) rfl) ?_
                        cases hq9
                        refine AO.nilE ⟨rfl, rfl⟩ ?_ ?_
                        · exact ⟨rfl, rfl, trivial⟩
                        · exact (Sub.refl _)
                      · have hq9 := (if_neg hc20).symm.trans hq9
                        refine AO.calmG 26 false 82 rfl rfl (congrArg (fun b => some (AV.fl (Value.bool b))) (decide_eq_false hc20)) 83 rfl (by decide) (eU8 (byteAt p0 (1 : Int))) (Calm.move rfl rfl) ?_
                        refine AO.calmG 26 false 82 rfl rfl (congrArg (fun b => some (AV.fl (Value.bool b))) (decide_eq_false hc20)) 84 rfl (by decide) (eBool (decide ((126 : Int) < (byteAt p0 (1 : Int))))) (Calm.int rfl rfl rfl rfl) ?_
                        refine AO.calm rfl 85 rfl (by decide) (eBool (decide ((126 : Int) < (byteAt p0 (1 : Int))))) (Calm.pickF rfl (congrArg (fun b => some (AV.fl (Value.bool b))) (decide_eq_false hc20)) rfl) ?_
                        cases hq9
                        refine AO.nilE ⟨rfl, rfl⟩ ?_ ?_
                        · exact ⟨rfl, rfl, trivial⟩
                        · exact (Sub.refl _)
                  · have hq9 := (if_neg hc18).symm.trans hq9
                    refine AO.skipG 17 false 73 rfl rfl (congrArg (fun b => some (AV.fl (Value.bool b))) (decide_eq_false hc18)) 74 rfl (by decide) ?_
                    refine AO.skipG 17 false 73 rfl rfl (congrArg (fun b => some (AV.fl (Value.bool b))) (decide_eq_false hc18)) 75 rfl (by decide) ?_
                    refine AO.calmG 14 false 70 rfl rfl rfl 76 rfl (by decide) (eBool false) (Calm.pickF rfl (congrArg (fun b => some (AV.fl (Value.bool b))) (decide_eq_false hc18)) rfl) ?_
                    refine AO.calm rfl 77 rfl (by decide) (eBool false) (Calm.pickF rfl rfl rfl) ?_
                    refine AO.calm rfl 78 rfl (by decide) (eBool false) (Calm.move rfl rfl) ?_
                    refine AO.calmG 22 false 78 rfl rfl rfl 79 rfl (by decide) (eU8 (byteAt p0 (1 : Int))) (Calm.move rfl rfl) ?_
                    refine AO.calmG 22 false 78 rfl rfl rfl 80 rfl (by decide) (eBool (decide ((byteAt p0 (1 : Int)) < (32 : Int)))) (Calm.int rfl rfl rfl rfl) ?_
                    refine AO.calm rfl 81 rfl (by decide) (eBool (decide ((byteAt p0 (1 : Int)) < (32 : Int)))) (Calm.pickF rfl rfl rfl) ?_
                    refine AO.calm rfl 82 rfl (by decide) (eBool (decide ((byteAt p0 (1 : Int)) < (32 : Int)))) (Calm.move rfl rfl) ?_
                    by_cases hc21 : (byteAt p0 (1 : Int)) < (32 : Int)
                    · have hq9 := (if_pos hc21).symm.trans hq9
                      refine AO.skipG 26 true 82 rfl rfl (congrArg (fun b => some (AV.fl (Value.bool b))) (decide_eq_true hc21)) 83 rfl (by decide) ?_
                      refine AO.skipG 26 true 82 rfl rfl (congrArg (fun b => some (AV.fl (Value.bool b))) (decide_eq_true hc21)) 84 rfl (by decide) ?_
                      refine AO.calm rfl 85 rfl (by decide) (eBool true) (Calm.pickT rfl (congrArg (fun b => some (AV.fl (Value.bool b))) (decide_eq_true hc21)) rfl) ?_
                      cases hq9
                      refine AO.nilE ⟨rfl, rfl⟩ ?_ ?_
                      · exact ⟨rfl, rfl, trivial⟩
                      · exact (Sub.refl _)
                    · have hq9 := (if_neg hc21).symm.trans hq9
                      refine AO.calmG 26 false 82 rfl rfl (congrArg (fun b => some (AV.fl (Value.bool b))) (decide_eq_false hc21)) 83 rfl (by decide) (eU8 (byteAt p0 (1 : Int))) (Calm.move rfl rfl) ?_
                      refine AO.calmG 26 false 82 rfl rfl (congrArg (fun b => some (AV.fl (Value.bool b))) (decide_eq_false hc21)) 84 rfl (by decide) (eBool (decide ((126 : Int) < (byteAt p0 (1 : Int))))) (Calm.int rfl rfl rfl rfl) ?_
                      refine AO.calm rfl 85 rfl (by decide) (eBool (decide ((126 : Int) < (byteAt p0 (1 : Int))))) (Calm.pickF rfl (congrArg (fun b => some (AV.fl (Value.bool b))) (decide_eq_false hc21)) rfl) ?_
                      cases hq9
                      refine AO.nilE ⟨rfl, rfl⟩ ?_ ?_
                      · exact ⟨rfl, rfl, trivial⟩
                      · exact (Sub.refl _)
            · have hq9 := (if_neg hc10).symm.trans hq9
              refine AO.skipG 2 false 58 rfl rfl (congrArg (fun b => some (AV.fl (Value.bool b))) (decide_eq_false hc10)) 59 rfl (by decide) ?_
              refine AO.skipG 2 false 58 rfl rfl (congrArg (fun b => some (AV.fl (Value.bool b))) (decide_eq_false hc10)) 60 rfl (by decide) ?_
              refine AO.calm rfl 61 rfl (by decide) (eBool false) (Calm.pickF rfl (congrArg (fun b => some (AV.fl (Value.bool b))) (decide_eq_false hc10)) rfl) ?_
              refine AO.calm rfl 62 rfl (by decide) (eBool false) (Calm.move rfl rfl) ?_
              refine AO.calmG 6 false 62 rfl rfl rfl 63 rfl (by decide) (eU8 (byteAt p0 (1 : Int))) (Calm.move rfl rfl) ?_
              refine AO.calmG 6 false 62 rfl rfl rfl 64 rfl (by decide) (eBool (decide ((97 : Int) ≤ (byteAt p0 (1 : Int))))) (Calm.int rfl rfl rfl rfl) ?_
              refine AO.calmG 6 false 62 rfl rfl rfl 65 rfl (by decide) (eBool (decide ((97 : Int) ≤ (byteAt p0 (1 : Int))))) (Calm.move rfl rfl) ?_
              by_cases hc22 : (97 : Int) ≤ (byteAt p0 (1 : Int))
              · have hq9 := (if_pos hc22).symm.trans hq9
                refine AO.calmG 9 true 65 rfl rfl (congrArg (fun b => some (AV.fl (Value.bool b))) (decide_eq_true hc22)) 66 rfl (by decide) (eU8 (byteAt p0 (1 : Int))) (Calm.move rfl rfl) ?_
                refine AO.calmG 9 true 65 rfl rfl (congrArg (fun b => some (AV.fl (Value.bool b))) (decide_eq_true hc22)) 67 rfl (by decide) (eBool (decide ((byteAt p0 (1 : Int)) ≤ (122 : Int)))) (Calm.int rfl rfl rfl rfl) ?_
                refine AO.calmG 6 false 62 rfl rfl rfl 68 rfl (by decide) (eBool (decide ((byteAt p0 (1 : Int)) ≤ (122 : Int)))) (Calm.pickT rfl (congrArg (fun b => some (AV.fl (Value.bool b))) (decide_eq_true hc22)) rfl) ?_
                refine AO.calm rfl 69 rfl (by decide) (eBool (decide ((byteAt p0 (1 : Int)) ≤ (122 : Int)))) (Calm.pickF rfl rfl rfl) ?_
                refine AO.calm rfl 70 rfl (by decide) (eBool (decide ((byteAt p0 (1 : Int)) ≤ (122 : Int)))) (Calm.move rfl rfl) ?_
                by_cases hc23 : (byteAt p0 (1 : Int)) ≤ (122 : Int)
                · have hq9 := (if_pos hc23).symm.trans hq9
                  refine AO.skipG 14 true 70 rfl rfl (congrArg (fun b => some (AV.fl (Value.bool b))) (decide_eq_true hc23)) 71 rfl (by decide) ?_
                  refine AO.skipG 14 true 70 rfl rfl (congrArg (fun b => some (AV.fl (Value.bool b))) (decide_eq_true hc23)) 72 rfl (by decide) ?_
                  refine AO.skipG 14 true 70 rfl rfl (congrArg (fun b => some (AV.fl (Value.bool b))) (decide_eq_true hc23)) 73 rfl (by decide) ?_
                  refine AO.skipU 17 true 73 rfl rfl rfl 74 rfl (by decide) ?_
                  refine AO.skipU 17 true 73 rfl rfl rfl 75 rfl (by decide) ?_
                  refine AO.skipG 14 true 70 rfl rfl (congrArg (fun b => some (AV.fl (Value.bool b))) (decide_eq_true hc23)) 76 rfl (by decide) ?_
                  refine AO.calm rfl 77 rfl (by decide) (eBool true) (Calm.pickT rfl (congrArg (fun b => some (AV.fl (Value.bool b))) (decide_eq_true hc23)) rfl) ?_
                  refine AO.calm rfl 78 rfl (by decide) (eBool true) (Calm.move rfl rfl) ?_
                  refine AO.skipG 22 true 78 rfl rfl rfl 79 rfl (by decide) ?_
                  refine AO.skipG 22 true 78 rfl rfl rfl 80 rfl (by decide) ?_
                  refine AO.calm rfl 81 rfl (by decide) (eBool true) (Calm.pickT rfl rfl rfl) ?_
                  refine AO.calm rfl 82 rfl (by decide) (eBool true) (Calm.move rfl rfl) ?_
                  refine AO.skipG 26 true 82 rfl rfl rfl 83 rfl (by decide) ?_
                  refine AO.skipG 26 true 82 rfl rfl rfl 84 rfl (by decide) ?_
                  refine AO.calm rfl 85 rfl (by decide) (eBool true) (Calm.pickT rfl rfl rfl) ?_
                  cases hq9
                  refine AO.nilE ⟨rfl, rfl⟩ ?_ ?_
                  · exact ⟨rfl, rfl, trivial⟩
                  · exact (Sub.refl _)
                · have hq9 := (if_neg hc23).symm.trans hq9
                  refine AO.calmG 14 false 70 rfl rfl (congrArg (fun b => some (AV.fl (Value.bool b))) (decide_eq_false hc23)) 71 rfl (by decide) (eU8 (byteAt p0 (1 : Int))) (Calm.move rfl rfl) ?_
                  refine AO.calmG 14 false 70 rfl rfl (congrArg (fun b => some (AV.fl (Value.bool b))) (decide_eq_false hc23)) 72 rfl (by decide) (eBool (decide ((65 : Int) ≤ (byteAt p0 (1 : Int))))) (Calm.int rfl rfl rfl rfl) ?_
                  refine AO.calmG 14 false 70 rfl rfl (congrArg (fun b => some (AV.fl (Value.bool b))) (decide_eq_false hc23)) 73 rfl (by decide) (eBool (decide ((65 : Int) ≤ (byteAt p0 (1 : Int))))) (Calm.move rfl rfl) ?_
                  by_cases hc24 : (65 : Int) ≤ (byteAt p0 (1 : Int))
                  · have hq9 := (if_pos hc24).symm.trans hq9
                    refine AO.calmG 17 true 73 rfl rfl (congrArg (fun b => some (AV.fl (Value.bool b))) (decide_eq_true hc24)) 74 rfl (by decide) (eU8 (byteAt p0 (1 : Int))) (Calm.move rfl rfl) ?_
                    refine AO.calmG 17 true 73 rfl rfl (congrArg (fun b => some (AV.fl (Value.bool b))) (decide_eq_true hc24)) 75 rfl (by decide) (eBool (decide ((byteAt p0 (1 : Int)) ≤ (90 : Int)))) (Calm.int rfl rfl rfl rfl) ?_
                    refine AO.calmG 14 false 70 rfl rfl (congrArg (fun b => some (AV.fl (Value.bool b))) (decide_eq_false hc23)) 76 rfl (by decide) (eBool (decide ((byteAt p0 (1 : Int)) ≤ (90 : Int)))) (Calm.pickT rfl (congrArg (fun b => some (AV.fl (Value.bool b))) (decide_eq_true hc24)) rfl) ?_
                    refine AO.calm rfl 77 rfl (by decide) (eBool (decide ((byteAt p0 (1 : Int)) ≤ (90 : Int)))) (Calm.pickF rfl (congrArg (fun b => some (AV.fl (Value.bool b))) (decide_eq_false hc23)) rfl) ?_
                    refine AO.calm rfl 78 rfl (by decide) (eBool (decide ((byteAt p0 (1 : Int)) ≤ (90 : Int)))) (Calm.move rfl rfl) ?_
                    by_cases hc25 : (byteAt p0 (1 : Int)) ≤ (90 : Int)
                    · have hq9 := (if_pos hc25).symm.trans hq9
                      refine AO.skipG 22 true 78 rfl rfl (congrArg (fun b => some (AV.fl (Value.bool b))) (decide_eq_true hc25)) 79 rfl (by decide) ?_
                      refine AO.skipG 22 true 78 rfl rfl (congrArg (fun b => some (AV.fl (Value.bool b))) (decide_eq_true hc25)) 80 rfl (by decide) ?_
                      refine AO.calm rfl 81 rfl (by decide) (eBool true) (Calm.pickT rfl (congrArg (fun b => some (AV.fl (Value.bool b))) (decide_eq_true hc25)) rfl) ?_
                      refine AO.calm rfl 82 rfl (by decide) (eBool true) (Calm.move rfl rfl) ?_
                      refine AO.skipG 26 true 82 rfl rfl rfl 83 rfl (by decide) ?_
                      refine AO.skipG 26 true 82 rfl rfl rfl 84 rfl (by decide) ?_
                      refine AO.calm rfl 85 rfl (by decide) (eBool true) (Calm.pickT rfl rfl rfl) ?_
                      cases hq9
                      refine AO.nilE ⟨rfl, rfl⟩ ?_ ?_
                      · exact ⟨rfl, rfl, trivial⟩
                      · exact (Sub.refl _)
                    · have hq9 := (if_neg hc25).symm.trans hq9
                      refine AO.calmG 22 false 78 rfl rfl (congrArg (fun b => some (AV.fl (Value.bool b))) (decide_eq_false hc25)) 79 rfl (by decide) (eU8 (byteAt p0 (1 : Int))) (Calm.move rfl rfl) ?_
                      refine AO.calmG 22 false 78 rfl rfl (congrArg (fun b => some (AV.fl (Value.bool b))) (decide_eq_false hc25)) 80 rfl (by decide) (eBool (decide ((byteAt p0 (1 : Int)) < (32 : Int)))) (Calm.int rfl rfl rfl rfl) ?_
                      refine AO.calm rfl 81 rfl (by decide) (eBool (decide ((byteAt p0 (1 : Int)) < (32 : Int)))) (Calm.pickF rfl (congrArg (fun b => some (AV.fl (Value.bool b))) (decide_eq_false hc25)) rfl) ?_
                      refine AO.calm rfl 82 rfl (by decide) (eBool (decide ((byteAt p0 (1 : Int)) < (32 : Int)))) (Calm.move rfl rfl) ?_
                      by_cases hc26 : (byteAt p0 (1 : Int)) < (32 : Int)
                      · have hq9 := (if_pos hc26).symm.trans hq9
                        refine AO.skipG 26 true 82 rfl rfl (congrArg (fun b => some (AV.fl (Value.bool b))) (decide_eq_true hc26)) 83 rfl (by decide) ?_
                        refine AO.skipG 26 true 82 rfl rfl (congrArg (fun b => some (AV.fl (Value.bool b))) (decide_eq_true hc26)) 84 rfl (by decide) ?_
                        refine AO.calm rfl 85 rfl (by decide) (eBool true) (Calm.pickT rfl (congrArg (fun b => some (AV.fl (Value.bool b))) (decide_eq_true hc26)) rfl) ?_
                        cases hq9
                        refine AO.nilE ⟨rfl, rfl⟩ ?_ ?_
                        · exact ⟨rfl, rfl, trivial⟩
                        · exact (Sub.refl _)
                      · have hq9 := (if_neg hc26).symm.trans hq9
                        refine AO.calmG 26 false 82 rfl rfl (congrArg (fun b => some (AV.fl (Value.bool b))) (decide_eq_false hc26)) 83 rfl (by decide) (eU8 (byteAt p0 (1 : Int))) (Calm.move rfl rfl) ?_
                        refine AO.calmG 26 false 82 rfl rfl (congrArg (fun b => some (AV.fl (Value.bool b))) (decide_eq_false hc26)) 84 rfl (by decide) (eBool (decide ((126 : Int) < (byteAt p0 (1 : Int))))) (Calm.int rfl rfl rfl rfl) ?_
                        refine AO.calm rfl 85 rfl (by decide) (eBool (decide ((126 : Int) < (byteAt p0 (1 : Int))))) (Calm.pickF rfl (congrArg (fun b => some (AV.fl (Value.bool b))) (decide_eq_false hc26)) rfl) ?_
                        cases hq9
                        refine AO.nilE ⟨rfl, rfl⟩ ?_ ?_
                        · exact ⟨rfl, rfl, trivial⟩
                        · exact (Sub.refl _)
                  · have hq9 := (if_neg hc24).symm.trans hq9
                    refine AO.skipG 17 false 73 rfl rfl (congrArg (fun b => some (AV.fl (Value.bool b))) (decide_eq_false hc24)) 74 rfl (by decide) ?_
                    refine AO.skipG 17 false 73 rfl rfl (congrArg (fun b => some (AV.fl (Value.bool b))) (decide_eq_false hc24)) 75 rfl (by decide) ?_
                    refine AO.calmG 14 false 70 rfl rfl (congrArg (fun b => some (AV.fl (Value.bool b))) (decide_eq_false hc23)) 76 rfl (by decide) (eBool false) (Calm.pickF rfl (congrArg (fun b => some (AV.fl (Value.bool b))) (decide_eq_false hc24)) rfl) ?_
                    refine AO.calm rfl 77 rfl (by decide) (eBool false) (Calm.pickF rfl (congrArg (fun b => some (AV.fl (Value.bool b))) (decide_eq_false hc23)) rfl) ?_
                    refine AO.calm rfl 78 rfl (by decide) (eBool false) (Calm.move rfl rfl) ?_
                    refine AO.calmG 22 false 78 rfl rfl rfl 79 rfl (by decide) (eU8 (byteAt p0 (1 : Int))) (Calm.move rfl rfl) ?_
                    refine AO.calmG 22 false 78 rfl rfl rfl 80 rfl (by decide) (eBool (decide ((byteAt p0 (1 : Int)) < (32 : Int)))) (Calm.int rfl rfl rfl rfl) ?_
                    refine AO.calm rfl 81 rfl (by decide) (eBool (decide ((byteAt p0 (1 : Int)) < (32 : Int)))) (Calm.pickF rfl rfl rfl) ?_
                    refine AO.calm rfl 82 rfl (by decide) (eBool (decide ((byteAt p0 (1 : Int)) < (32 : Int)))) (Calm.move rfl rfl) ?_
                    by_cases hc27 : (byteAt p0 (1 : Int)) < (32 : Int)
                    · have hq9 := (if_pos hc27).symm.trans hq9
                      refine AO.skipG 26 true 82 rfl rfl (congrArg (fun b => some (AV.fl (Value.bool b))) (decide_eq_true hc27)) 83 rfl (by decide) ?_
                      refine AO.skipG 26 true 82 rfl rfl (congrArg (fun b => some (AV.fl (Value.bool b))) (decide_eq_true hc27)) 84 rfl (by decide) ?_
                      refine AO.calm rfl 85 rfl (by decide) (eBool true) (Calm.pickT rfl (congrArg (fun b => some (AV.fl (Value.bool b))) (decide_eq_true hc27)) rfl) ?_
                      cases hq9
                      refine AO.nilE ⟨rfl, rfl⟩ ?_ ?_
                      · exact ⟨rfl, rfl, trivial⟩
                      · exact (Sub.refl _)
                    · have hq9 := (if_neg hc27).symm.trans hq9
                      refine AO.calmG 26 false 82 rfl rfl (congrArg (fun b => some (AV.fl (Value.bool b))) (decide_eq_false hc27)) 83 rfl (by decide) (eU8 (byteAt p0 (1 : Int))) (Calm.move rfl rfl) ?_
                      refine AO.calmG 26 false 82 rfl rfl (congrArg (fun b => some (AV.fl (Value.bool b))) (decide_eq_false hc27)) 84 rfl (by decide) (eBool (decide ((126 : Int) < (byteAt p0 (1 : Int))))) (Calm.int rfl rfl rfl rfl) ?_
                      refine AO.calm rfl 85 rfl (by decide) (eBool (decide ((126 : Int) < (byteAt p0 (1 : Int))))) (Calm.pickF rfl (congrArg (fun b => some (AV.fl (Value.bool b))) (decide_eq_false hc27)) rfl) ?_
                      cases hq9
                      refine AO.nilE ⟨rfl, rfl⟩ ?_ ?_
                      · exact ⟨rfl, rfl, trivial⟩
                      · exact (Sub.refl _)
              · have hq9 := (if_neg hc22).symm.trans hq9
                refine AO.skipG 9 false 65 rfl rfl (congrArg (fun b => some (AV.fl (Value.bool b))) (decide_eq_false hc22)) 66 rfl (by decide) ?_
                refine AO.skipG 9 false 65 rfl rfl (congrArg (fun b => some (AV.fl (Value.bool b))) (decide_eq_false hc22)) 67 rfl (by decide) ?_
                refine AO.calmG 6 false 62 rfl rfl rfl 68 rfl (by decide) (eBool false) (Calm.pickF rfl (congrArg (fun b => some (AV.fl (Value.bool b))) (decide_eq_false hc22)) rfl) ?_
                refine AO.calm rfl 69 rfl (by decide) (eBool false) (Calm.pickF rfl rfl rfl) ?_
                refine AO.calm rfl 70 rfl (by decide) (eBool false) (Calm.move rfl rfl) ?_
                refine AO.calmG 14 false 70 rfl rfl rfl 71 rfl (by decide) (eU8 (byteAt p0 (1 : Int))) (Calm.move rfl rfl) ?_
                refine AO.calmG 14 false 70 rfl rfl rfl 72 rfl (by decide) (eBool (decide ((65 : Int) ≤ (byteAt p0 (1 : Int))))) (Calm.int rfl rfl rfl rfl) ?_
                refine AO.calmG 14 false 70 rfl rfl rfl 73 rfl (by decide) (eBool (decide ((65 : Int) ≤ (byteAt p0 (1 : Int))))) (Calm.move rfl rfl) ?_
                by_cases hc28 : (65 : Int) ≤ (byteAt p0 (1 : Int))
                · have hq9 := (if_pos hc28).symm.trans hq9
                  refine AO.calmG 17 true 73 rfl rfl (congrArg (fun b => some (AV.fl (Value.bool b))) (decide_eq_true hc28)) 74 rfl (by decide) (eU8 (byteAt p0 (1 : Int))) (Calm.move rfl rfl) ?_
                  refine AO.calmG 17 true 73 rfl rfl (congrArg (fun b => some (AV.fl (Value.bool b))) (decide_eq_true hc28)) 75 rfl (by decide) (eBool (decide ((byteAt p0 (1 : Int)) ≤ (90 : Int)))) (Calm.int rfl rfl rfl rfl) ?_
                  refine AO.calmG 14 false 70 rfl rfl rfl 76 rfl (by decide) (eBool (decide ((byteAt p0 (1 : Int)) ≤ (90 : Int)))) (Calm.pickT rfl (congrArg (fun b => some (AV.fl (Value.bool b))) (decide_eq_true hc28)) rfl) ?_
                  refine AO.calm rfl 77 rfl (by decide) (eBool (decide ((byteAt p0 (1 : Int)) ≤ (90 : Int)))) (Calm.pickF rfl rfl rfl) ?_
                  refine AO.calm rfl 78 rfl (by decide) (eBool (decide ((byteAt p0 (1 : Int)) ≤ (90 : Int)))) (Calm.move rfl rfl) ?_
                  by_cases hc29 : (byteAt p0 (1 : Int)) ≤ (90 : Int)
                  · have hq9 := (if_pos hc29).symm.trans hq9
                    refine AO.skipG 22 true 78 rfl rfl (congrArg (fun b => some (AV.fl (Value.bool b))) (decide_eq_true hc29)) 79 rfl (by decide) ?_
                    refine AO.skipG 22 true 78 rfl rfl (congrArg (fun b => some (AV.fl (Value.bool b))) (decide_eq_true hc29)) 80 rfl (by decide) ?_
                    refine AO.calm rfl 81 rfl (by decide) (eBool true) (Calm.pickT rfl (congrArg (fun b => some (AV.fl (Value.bool b))) (decide_eq_true hc29)) rfl) ?_
                    refine AO.calm rfl 82 rfl (by decide) (eBool true) (Calm.move rfl rfl) ?_
                    refine AO.skipG 26 true 82 rfl rfl rfl 83 rfl (by decide) ?_
                    refine AO.skipG 26 true 82 rfl rfl rfl 84 rfl (by decide) ?_
                    refine AO.calm rfl 85 rfl (by decide) (eBool true) (Calm.pickT rfl rfl rfl) ?_
                    cases hq9
                    refine AO.nilE ⟨rfl, rfl⟩ ?_ ?_
                    · exact ⟨rfl, rfl, trivial⟩
                    · exact (Sub.refl _)
                  · have hq9 := (if_neg hc29).symm.trans hq9
                    refine AO.calmG 22 false 78 rfl rfl (congrArg (fun b => some (AV.fl (Value.bool b))) (decide_eq_false hc29)) 79 rfl (by decide) (eU8 (byteAt p0 (1 : Int))) (Calm.move rfl rfl) ?_
                    refine AO.calmG 22 false 78 rfl rfl (congrArg (fun b => some (AV.fl (Value.bool b))) (decide_eq_false hc29)) 80 rfl (by decide) (eBool (decide ((byteAt p0 (1 : Int)) < (32 : Int)))) (Calm.int rfl rfl rfl rfl) ?_
                    refine AO.calm rfl 81 rfl (by decide) (eBool (decide ((byteAt p0 (1 : Int)) < (32 : Int)))) (Calm.pickF rfl (congrArg (fun b => some (AV.fl (Value.bool b))) (decide_eq_false hc29)) rfl) ?_
                    refine AO.calm rfl 82 rfl (by decide) (eBool (decide ((byteAt p0 (1 : Int)) < (32 : Int)))) (Calm.move rfl rfl) ?_
                    by_cases hc30 : (byteAt p0 (1 : Int)) < (32 : Int)
                    · have hq9 := (if_pos hc30).symm.trans hq9
                      refine AO.skipG 26 true 82 rfl rfl (congrArg (fun b => some (AV.fl (Value.bool b))) (decide_eq_true hc30)) 83 rfl (by decide) ?_
                      refine AO.skipG 26 true 82 rfl rfl (congrArg (fun b => some (AV.fl (Value.bool b))) (decide_eq_true hc30)) 84 rfl (by decide) ?_
                      refine AO.calm rfl 85 rfl (by decide) (eBool true) (Calm.pickT rfl (congrArg (fun b => some (AV.fl (Value.bool b))) (decide_eq_true hc30)) rfl) ?_
                      cases hq9
                      refine AO.nilE ⟨rfl, rfl⟩ ?_ ?_
                      · exact ⟨rfl, rfl, trivial⟩
                      · exact (Sub.refl _)
                    · have hq9 := (if_neg hc30).symm.trans hq9
                      refine AO.calmG 26 false 82 rfl rfl (congrArg (fun b => some (AV.fl (Value.bool b))) (decide_eq_false hc30)) 83 rfl (by decide) (eU8 (byteAt p0 (1 : Int))) (Calm.move rfl rfl) ?_
                      refine AO.calmG 26 false 82 rfl rfl (congrArg (fun b => some (AV.fl (Value.bool b))) (decide_eq_false hc30)) 84 rfl (by decide) (eBool (decide ((126 : Int) < (byteAt p0 (1 : Int))))) (Calm.int rfl rfl rfl rfl) ?_
                      refine AO.calm rfl 85 rfl (by decide) (eBool (decide ((126 : Int) < (byteAt p0 (1 : Int))))) (Calm.pickF rfl (congrArg (fun b => some (AV.fl (Value.bool b))) (decide_eq_false hc30)) rfl) ?_
                      cases hq9
                      refine AO.nilE ⟨rfl, rfl⟩ ?_ ?_
                      · exact ⟨rfl, rfl, trivial⟩
                      · exact (Sub.refl _)
                · have hq9 := (if_neg hc28).symm.trans hq9
                  refine AO.skipG 17 false 73 rfl rfl (congrArg (fun b => some (AV.fl (Value.bool b))) (decide_eq_false hc28)) 74 rfl (by decide) ?_
                  refine AO.skipG 17 false 73 rfl rfl (congrArg (fun b => some (AV.fl (Value.bool b))) (decide_eq_false hc28)) 75 rfl (by decide) ?_
                  refine AO.calmG 14 false 70 rfl rfl rfl 76 rfl (by decide) (eBool false) (Calm.pickF rfl (congrArg (fun b => some (AV.fl (Value.bool b))) (decide_eq_false hc28)) rfl) ?_
                  refine AO.calm rfl 77 rfl (by decide) (eBool false) (Calm.pickF rfl rfl rfl) ?_
                  refine AO.calm rfl 78 rfl (by decide) (eBool false) (Calm.move rfl rfl) ?_
                  refine AO.calmG 22 false 78 rfl rfl rfl 79 rfl (by decide) (eU8 (byteAt p0 (1 : Int))) (Calm.move rfl rfl) ?_
                  refine AO.calmG 22 false 78 rfl rfl rfl 80 rfl (by decide) (eBool (decide ((byteAt p0 (1 : Int)) < (32 : Int)))) (Calm.int rfl rfl rfl rfl) ?_
                  refine AO.calm rfl 81 rfl (by decide) (eBool (decide ((byteAt p0 (1 : Int)) < (32 : Int)))) (Calm.pickF rfl rfl rfl) ?_
                  refine AO.calm rfl 82 rfl (by decide) (eBool (decide ((byteAt p0 (1 : Int)) < (32 : Int)))) (Calm.move rfl rfl) ?_
                  by_cases hc31 : (byteAt p0 (1 : Int)) < (32 : Int)
                  · have hq9 := (if_pos hc31).symm.trans hq9
                    refine AO.skipG 26 true 82 rfl rfl (congrArg (fun b => some (AV.fl (Value.bool b))) (decide_eq_true hc31)) 83 rfl (by decide) ?_
                    refine AO.skipG 26 true 82 rfl rfl (congrArg (fun b => some (AV.fl (Value.bool b))) (decide_eq_true hc31)) 84 rfl (by decide) ?_
                    refine AO.calm rfl 85 rfl (by decide) (eBool true) (Calm.pickT rfl (congrArg (fun b => some (AV.fl (Value.bool b))) (decide_eq_true hc31)) rfl) ?_
                    cases hq9
                    refine AO.nilE ⟨rfl, rfl⟩ ?_ ?_
                    · exact ⟨rfl, rfl, trivial⟩
                    · exact (Sub.refl _)
                  · have hq9 := (if_neg hc31).symm.trans hq9
                    refine AO.calmG 26 false 82 rfl rfl (congrArg (fun b => some (AV.fl (Value.bool b))) (decide_eq_false hc31)) 83 rfl (by decide) (eU8 (byteAt p0 (1 : Int))) (Calm.move rfl rfl) ?_
                    refine AO.calmG 26 false 82 rfl rfl (congrArg (fun b => some (AV.fl (Value.bool b))) (decide_eq_false hc31)) 84 rfl (by decide) (eBool (decide ((126 : Int) < (byteAt p0 (1 : Int))))) (Calm.int rfl rfl rfl rfl) ?_
                    refine AO.calm rfl 85 rfl (by decide) (eBool (decide ((126 : Int) < (byteAt p0 (1 : Int))))) (Calm.pickF rfl (congrArg (fun b => some (AV.fl (Value.bool b))) (decide_eq_false hc31)) rfl) ?_
                    cases hq9
                    refine AO.nilE ⟨rfl, rfl⟩ ?_ ?_
                    · exact ⟨rfl, rfl, trivial⟩
                    · exact (Sub.refl _)
          · by_cases hc32 : b8 = true
            · have h := (if_pos hc32).symm.trans h
              refine AW.condT' b8 rfl hc32 ?_
              refine AW.seq ?_
              refine AW.reg ?_
              refine AO.calm rfl 2 rfl (by decide) (eU8 (0 : Int)) (Calm.assign rfl rfl) ?_
              refine AO.calm rfl 3 rfl (by decide) (eI64 (0 : Int)) (Calm.assign rfl rfl) ?_
              refine AO.calm rfl 4 rfl (by decide) (eBool false) (Calm.assign rfl rfl) ?_
              refine AO.nil (ρ' := [(2, (eU8 (0 : Int))), (3, (eI64 (0 : Int))), (4, (eBool false))]) (H' := []) ⟨rfl, rfl, rfl, trivial⟩ (Sub.refl _) ?_
              refine AW.ret (ρ' := [(2, (eU8 (0 : Int))), (3, (eI64 (0 : Int))), (4, (eBool false))]) (H' := []) ⟨rfl, rfl, rfl, trivial⟩ (Sub.refl _) ?_
              have hr := Option.some.inj h
              subst hr
              exact ⟨[(eU8 (0 : Int)), (eI64 (0 : Int)), (eBool false)], ⟨rfl, rfl, rfl, rfl, rfl, rfl, trivial⟩, rfl⟩
            · have h := (if_neg hc32).symm.trans h
              refine AW.condF' b8 rfl hc32 ?_
              refine AW.skip (ρ' := [(5, (eU8 (byteAt p0 (1 : Int))))]) (H' := []) ⟨rfl, trivial⟩ (Sub.refl _) ?_
              refine AW.seq ?_
              refine AW.reg ?_
              refine AO.calm rfl 86 rfl (by decide) (eU8 (byteAt p0 (1 : Int))) (Calm.move rfl rfl) ?_
              refine AO.calm rfl 2 rfl (by decide) (eU8 (byteAt p0 (1 : Int))) (Calm.assign rfl rfl) ?_
              refine AO.calm rfl 3 rfl (by decide) (eI64 (2 : Int)) (Calm.assign rfl rfl) ?_
              refine AO.calm rfl 4 rfl (by decide) (eBool true) (Calm.assign rfl rfl) ?_
              refine AO.nil (ρ' := [(2, (eU8 (byteAt p0 (1 : Int)))), (3, (eI64 (2 : Int))), (4, (eBool true))]) (H' := []) ⟨rfl, rfl, rfl, trivial⟩ (Sub.refl _) ?_
              refine AW.ret (ρ' := [(2, (eU8 (byteAt p0 (1 : Int)))), (3, (eI64 (2 : Int))), (4, (eBool true))]) (H' := []) ⟨rfl, rfl, rfl, trivial⟩ (Sub.refl _) ?_
              have hr := Option.some.inj h
              subst hr
              exact ⟨[(eU8 (byteAt p0 (1 : Int))), (eI64 (2 : Int)), (eBool true)], ⟨rfl, rfl, rfl, rfl, rfl, rfl, trivial⟩, rfl⟩
end Go.Avl.T2
