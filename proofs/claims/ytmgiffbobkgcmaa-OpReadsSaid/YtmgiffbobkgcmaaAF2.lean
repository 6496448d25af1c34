/- Parts: T2f19, T2f17, T2f18, T2f4, T2f13, T2f57, T2f15. -/
import Derived.Test.YtmgiffbobkgcmaaAF1
/- bosket/bosketref13.Digits; printed by avmain.py. -/
namespace Go.Avl.T2
open Go Go.RowKit Go.Proofs Go.Avl
set_option linter.unusedVariables false
set_option maxRecDepth 100000
set_option maxHeartbeats 4000000
attribute [local irreducible] AW AO AQ Spec SpecH Calm

def bosketref13_Digits_c0 (k : Nat) (p0 : Int) (x3 : ByteArray) : Option ByteArray :=
  if p0 < (0 : Int) then if (ByteArray.mk #[45]).size + x3.size ≤ 9223372036854775807 then some (((ByteArray.mk #[45]) ++ x3))
  else none
  else some (x3)
def bosketref13_Digits_c1 (k : Nat) (rec8 : (Int → ByteArray → Option ByteArray)) (x6 : Int) (x7 : ByteArray) (x11 : Int) : Option ByteArray :=
  if (strOfNums ([(w8 (w64 ((48 : Int) + x11)))] : List Int)).size + x7.size ≤ 9223372036854775807 then (some ((strOfNums ([(w8 (w64 ((48 : Int) + x11)))] : List Int)) ++ x7)).bind fun x14 =>
  rec8 (IntKind.i64.wrap (x6.tdiv (10 : Int))) x14
  else none
def bosketref13_Digits_l2 (k : Nat) (p0 : Int) : Nat → Int → ByteArray → Option ByteArray
  | 0, _, _ => none
  | j + 1, x6, x7 =>
    if x6 ≠ (0 : Int) then if (x6.tmod (10 : Int)) < (0 : Int) then bosketref13_Digits_c1 k (bosketref13_Digits_l2 k p0 j) x6 x7 (IntKind.i64.wrap (0 - (x6.tmod (10 : Int))))
    else bosketref13_Digits_c1 k (bosketref13_Digits_l2 k p0 j) x6 x7 (x6.tmod (10 : Int))
    else bosketref13_Digits_c0 k p0 x7
def bosketref13_Digits (k : Nat) (p0 : Int) : Option ByteArray :=
  if p0 = (0 : Int) then some ((ByteArray.mk #[48]))
  else bosketref13_Digits_l2 k p0 k p0 (ByteArray.mk #[])
theorem bosketref13_Digits_spec {k : Nat} {p0 : Int} {r : ByteArray} (h : bosketref13_Digits k p0 = some r) : Spec Try.prog 19 [(eI64 p0)] (eStr r) := by
  rw [bosketref13_Digits.eq_1] at h
  refine Spec.intro (res := [.tmp 2]) Try.func19 rfl rfl rfl (Nat.le_of_ble_eq_true rfl) ?_
  refine AW.seq ?_
  refine AW.reg ?_
  refine AO.calm rfl 2 rfl (by decide) (eStr (ByteArray.mk #[])) (Calm.assign rfl rfl) ?_
  refine AO.nil (ρ' := [(0, (eI64 p0))]) (H' := []) ⟨rfl, trivial⟩ (Sub.refl _) ?_
  refine AW.seq ?_
  refine AW.reg ?_
  refine AO.calm rfl 6 rfl (by decide) (eI64 p0) (Calm.move rfl rfl) ?_
  refine AO.calm rfl 7 rfl (by decide) (eBool (decide (p0 < (0 : Int)))) (Calm.int rfl rfl rfl rfl) ?_
  refine AO.calm rfl 3 rfl (by decide) (eStr (ByteArray.mk #[])) (Calm.assign rfl rfl) ?_
  refine AO.calm rfl 4 rfl (by decide) (eBool (decide (p0 < (0 : Int)))) (Calm.assign rfl rfl) ?_
  refine AO.nil (ρ' := [(0, (eI64 p0)), (3, (eStr (ByteArray.mk #[]))), (4, (eBool (decide (p0 < (0 : Int)))))]) (H' := []) ⟨rfl, rfl, rfl, trivial⟩ (Sub.refl _) ?_
  refine AW.seq ?_
  refine AW.seq ?_
  refine AW.reg ?_
  refine AO.calm rfl 8 rfl (by decide) (eI64 p0) (Calm.move rfl rfl) ?_
  refine AO.calm rfl 9 rfl (by decide) (eBool (decide (p0 = (0 : Int)))) (Calm.int rfl rfl rfl rfl) ?_
  refine AO.nil (ρ' := [(0, (eI64 p0)), (3, (eStr (ByteArray.mk #[]))), (4, (eBool (decide (p0 < (0 : Int))))), (9, (eBool (decide (p0 = (0 : Int)))))]) (H' := []) ⟨rfl, rfl, rfl, rfl, trivial⟩ (Sub.refl _) ?_
  by_cases hc2 : p0 = (0 : Int)
  · have h := (if_pos hc2).symm.trans h
    refine AW.condP (p0 = (0 : Int)) rfl hc2 ?_
    refine AW.seq ?_
    refine AW.reg ?_
    refine AO.calm rfl 2 rfl (by decide) (eStr (ByteArray.mk #[48])) (Calm.assign rfl rfl) ?_
    refine AO.nil (ρ' := [(2, (eStr (ByteArray.mk #[48])))]) (H' := []) ⟨rfl, trivial⟩ (Sub.refl _) ?_
    refine AW.ret (ρ' := [(2, (eStr (ByteArray.mk #[48])))]) (H' := []) ⟨rfl, trivial⟩ (Sub.refl _) ?_
    have hr := Option.some.inj h
    subst hr
    exact ⟨[(eStr (ByteArray.mk #[48]))], ⟨rfl, rfl, trivial⟩, rfl⟩
  · have h := (if_neg hc2).symm.trans h
    refine AW.condN (p0 = (0 : Int)) rfl hc2 ?_
    refine AW.skip (ρ' := [(0, (eI64 p0)), (3, (eStr (ByteArray.mk #[]))), (4, (eBool (decide (p0 < (0 : Int)))))]) (H' := []) ⟨rfl, rfl, rfl, trivial⟩ (Sub.refl _) ?_
    refine AW.seq_mid (fun ρ H => ∃ (x3 : ByteArray), ρ = [(3, (eStr x3)), (4, (eBool (decide (p0 < (0 : Int)))))] ∧ H = [] ∧ bosketref13_Digits_c0 k p0 x3 = some r) ?_ ?_
    · refine AW.block ?_
      refine AW.weak (ρ' := [(0, (eI64 p0)), (3, (eStr (ByteArray.mk #[]))), (4, (eBool (decide (p0 < (0 : Int)))))]) (H' := []) ⟨rfl, rfl, rfl, trivial⟩ (Sub.refl _) ?_
      refine AW.loop (fun kq ρ H => ∃ (x6 : Int) (x7 : ByteArray), ρ = [(0, (eI64 x6)), (3, (eStr x7)), (4, (eBool (decide (p0 < (0 : Int)))))] ∧ H = [] ∧ bosketref13_Digits_l2 k p0 kq x6 x7 = some r) k ⟨p0, (ByteArray.mk #[]), rfl, rfl, h⟩ ?_
      rintro kq9 _ _ ⟨x6, x7, rfl, rfl, h⟩
      cases kq9 with
      | zero => rw [bosketref13_Digits_l2.eq_1] at h; cases h
      | succ kq9 =>
      rw [bosketref13_Digits_l2.eq_2] at h
      generalize hrec8 : bosketref13_Digits_l2 k p0 kq9 = rec8 at h
      refine AW.seq ?_
      refine AW.seq ?_
      refine AW.reg ?_
      refine AO.calm rfl 10 rfl (by decide) (eI64 x6) (Calm.move rfl rfl) ?_
      refine AO.calm rfl 11 rfl (by decide) (eBool (decide (x6 ≠ (0 : Int)))) (Calm.int rfl rfl rfl rfl) ?_
      refine AO.nil (ρ' := [(0, (eI64 x6)), (3, (eStr x7)), (4, (eBool (decide (p0 < (0 : Int))))), (11, (eBool (decide (x6 ≠ (0 : Int)))))]) (H' := []) ⟨rfl, rfl, rfl, rfl, trivial⟩ (Sub.refl _) ?_
      by_cases hc10 : x6 ≠ (0 : Int)
      · have h := (if_pos hc10).symm.trans h
        refine AW.condP (x6 ≠ (0 : Int)) rfl hc10 ?_
        refine AW.skip (ρ' := [(0, (eI64 x6)), (3, (eStr x7)), (4, (eBool (decide (p0 < (0 : Int)))))]) (H' := []) ⟨rfl, rfl, rfl, trivial⟩ (Sub.refl _) ?_
        refine AW.block ?_
        refine AW.seq ?_
        refine AW.reg ?_
        refine AO.calm rfl 12 rfl (by decide) (eI64 x6) (Calm.move rfl rfl) ?_
        refine AO.calm rfl 13 rfl (by decide) (eI64 (x6.tmod (10 : Int))) (Calm.rem rfl rfl rfl (by decide)) ?_
        refine AO.calm rfl 5 rfl (by decide) (eI64 (x6.tmod (10 : Int))) (Calm.assign rfl rfl) ?_
        refine AO.nil (ρ' := [(0, (eI64 x6)), (3, (eStr x7)), (4, (eBool (decide (p0 < (0 : Int))))), (5, (eI64 (x6.tmod (10 : Int))))]) (H' := []) ⟨rfl, rfl, rfl, rfl, trivial⟩ (Sub.refl _) ?_
        refine AW.seq_mid (fun ρ H => ∃ (x11 : Int), ρ = [(0, (eI64 x6)), (3, (eStr x7)), (4, (eBool (decide (p0 < (0 : Int))))), (5, (eI64 x11))] ∧ H = [] ∧ bosketref13_Digits_c1 k rec8 x6 x7 x11 = some r) ?_ ?_
        · refine AW.seq ?_
          refine AW.reg ?_
          refine AO.calm rfl 14 rfl (by decide) (eI64 (x6.tmod (10 : Int))) (Calm.move rfl rfl) ?_
          refine AO.calm rfl 15 rfl (by decide) (eBool (decide ((x6.tmod (10 : Int)) < (0 : Int)))) (Calm.int rfl rfl rfl rfl) ?_
          refine AO.nil (ρ' := [(0, (eI64 x6)), (3, (eStr x7)), (4, (eBool (decide (p0 < (0 : Int))))), (5, (eI64 (x6.tmod (10 : Int)))), (15, (eBool (decide ((x6.tmod (10 : Int)) < (0 : Int)))))]) (H' := []) ⟨rfl, rfl, rfl, rfl, rfl, trivial⟩ (Sub.refl _) ?_
          by_cases hc15 : (x6.tmod (10 : Int)) < (0 : Int)
          · have h := (if_pos hc15).symm.trans h
            refine AW.condP ((x6.tmod (10 : Int)) < (0 : Int)) rfl hc15 ?_
            refine AW.reg ?_
            refine AO.calm rfl 16 rfl (by decide) (eI64 (x6.tmod (10 : Int))) (Calm.move rfl rfl) ?_
            refine AO.calm rfl 17 rfl (by decide) (eI64 (IntKind.i64.wrap (0 - (x6.tmod (10 : Int))))) (Calm.neg rfl rfl) ?_
            refine AO.calm rfl 5 rfl (by decide) (eI64 (IntKind.i64.wrap (0 - (x6.tmod (10 : Int))))) (Calm.assign rfl rfl) ?_
            refine AO.nil (ρ' := [(0, (eI64 x6)), (3, (eStr x7)), (4, (eBool (decide (p0 < (0 : Int))))), (5, (eI64 (IntKind.i64.wrap (0 - (x6.tmod (10 : Int))))))]) (H' := []) ⟨rfl, rfl, rfl, rfl, trivial⟩ (Sub.refl _) ?_
            exact ⟨(IntKind.i64.wrap (0 - (x6.tmod (10 : Int)))), rfl, rfl, h⟩
          · have h := (if_neg hc15).symm.trans h
            refine AW.condN ((x6.tmod (10 : Int)) < (0 : Int)) rfl hc15 ?_
            refine AW.skip (ρ' := [(0, (eI64 x6)), (3, (eStr x7)), (4, (eBool (decide (p0 < (0 : Int))))), (5, (eI64 (x6.tmod (10 : Int))))]) (H' := []) ⟨rfl, rfl, rfl, rfl, trivial⟩ (Sub.refl _) ?_
            exact ⟨(x6.tmod (10 : Int)), rfl, rfl, h⟩
        · rintro _ _ ⟨x11, rfl, rfl, h⟩
          rw [bosketref13_Digits_c1.eq_1] at h
          refine AW.seq ?_
          refine AW.reg ?_
          refine AO.calm rfl 18 rfl (by decide) (eI64 x11) (Calm.move rfl rfl) ?_
          refine AO.calm rfl 19 rfl (by decide) (eI64 (w64 ((48 : Int) + x11))) (Calm.int rfl rfl rfl rfl) ?_
          refine AO.calm rfl 20 rfl (by decide) (eU8 (w8 (w64 ((48 : Int) + x11)))) (Calm.conv rfl rfl Try.underlying3 Try.underlying5) ?_
          refine AO.lit (Z := (eU8 (0 : Int))) (xs := (([(w8 (w64 ((48 : Int) + x11)))] : List Int).map eU8)) (qs := [(0, (eU8 (w8 (w64 ((48 : Int) + x11)))))]) rfl 21 rfl (by decide) rfl ⟨rfl, rfl, rfl, trivial⟩ Try.underlying84 sz5 zr5 lay5 rfl (by decide) (litOK (z := 1) [(eU8 (w8 (w64 ((48 : Int) + x11))))] rfl ⟨⟨rfl, rfl⟩, trivial⟩) rfl fun n12 => ?_
          refine AO.calm rfl 22 rfl (by decide) (eStr (strOfNums ([(w8 (w64 ((48 : Int) + x11)))] : List Int))) (Calm.strO 0 rfl rfl rfl Try.underlying84 Try.underlying9 Try.underlying5) ?_
          refine AO.calm rfl 23 rfl (by decide) (eStr x7) (Calm.move rfl rfl) ?_
          obtain ⟨hg13, h⟩ := of_guard h
          refine AO.calm rfl 24 rfl (by decide) (eStr ((strOfNums ([(w8 (w64 ((48 : Int) + x11)))] : List Int)) ++ x7)) (Calm.cat rfl rfl rfl hg13) ?_
          obtain ⟨x14, ex14, h⟩ := of_bind h
          refine AO.calm rfl 3 rfl (by decide) (eStr x14) (Calm.assign rfl (congrArg (fun x => some (eStr x)) (Option.some.inj ex14))) ?_
          refine AO.nil (ρ' := [(0, (eI64 x6)), (3, (eStr x14)), (4, (eBool (decide (p0 < (0 : Int)))))]) (H' := []) ⟨rfl, rfl, rfl, trivial⟩ (Sub.nil _) ?_
          refine AW.reg ?_
          refine AO.calm rfl 25 rfl (by decide) (eI64 x6) (Calm.move rfl rfl) ?_
          refine AO.calm rfl 26 rfl (by decide) (eI64 (IntKind.i64.wrap (x6.tdiv (10 : Int)))) (Calm.quo rfl rfl rfl (by decide)) ?_
          refine AO.calm rfl 0 rfl (by decide) (eI64 (IntKind.i64.wrap (x6.tdiv (10 : Int)))) (Calm.assign rfl rfl) ?_
          refine AO.nil (ρ' := [(0, (eI64 (IntKind.i64.wrap (x6.tdiv (10 : Int))))), (3, (eStr x14)), (4, (eBool (decide (p0 < (0 : Int)))))]) (H' := []) ⟨rfl, rfl, rfl, trivial⟩ (Sub.refl _) ?_
          exact ⟨kq9, Nat.lt_succ_self _, (IntKind.i64.wrap (x6.tdiv (10 : Int))), x14, rfl, rfl, by rw [hrec8]; exact h⟩
      · have h := (if_neg hc10).symm.trans h
        refine AW.condN (x6 ≠ (0 : Int)) rfl hc10 ?_
        refine AW.exit (ρ' := [(3, (eStr x7)), (4, (eBool (decide (p0 < (0 : Int)))))]) (H' := []) ⟨rfl, rfl, trivial⟩ (Sub.refl _) ?_
        exact ⟨x7, rfl, rfl, h⟩
    · rintro _ _ ⟨x3, rfl, rfl, h⟩
      rw [bosketref13_Digits_c0.eq_1] at h
      refine AW.seq ?_
      refine AW.seq ?_
      refine AW.reg ?_
      refine AO.calm rfl 27 rfl (by decide) (eBool (decide (p0 < (0 : Int)))) (Calm.move rfl rfl) ?_
      refine AO.nil (ρ' := [(3, (eStr x3)), (27, (eBool (decide (p0 < (0 : Int)))))]) (H' := []) ⟨rfl, rfl, trivial⟩ (Sub.refl _) ?_
      by_cases hc4 : p0 < (0 : Int)
      · have h := (if_pos hc4).symm.trans h
        refine AW.condP (p0 < (0 : Int)) rfl hc4 ?_
        refine AW.seq ?_
        refine AW.reg ?_
        refine AO.calm rfl 28 rfl (by decide) (eStr x3) (Calm.move rfl rfl) ?_
        obtain ⟨hg5, h⟩ := of_guard h
        refine AO.calm rfl 29 rfl (by decide) (eStr ((ByteArray.mk #[45]) ++ x3)) (Calm.cat rfl rfl rfl hg5) ?_
        refine AO.calm rfl 2 rfl (by decide) (eStr ((ByteArray.mk #[45]) ++ x3)) (Calm.assign rfl rfl) ?_
        refine AO.nil (ρ' := [(2, (eStr ((ByteArray.mk #[45]) ++ x3)))]) (H' := []) ⟨rfl, trivial⟩ (Sub.refl _) ?_
        refine AW.ret (ρ' := [(2, (eStr ((ByteArray.mk #[45]) ++ x3)))]) (H' := []) ⟨rfl, trivial⟩ (Sub.refl _) ?_
        have hr := Option.some.inj h
        subst hr
        exact ⟨[(eStr ((ByteArray.mk #[45]) ++ x3))], ⟨rfl, rfl, trivial⟩, rfl⟩
      · have h := (if_neg hc4).symm.trans h
        refine AW.condN (p0 < (0 : Int)) rfl hc4 ?_
        refine AW.skip (ρ' := [(3, (eStr x3))]) (H' := []) ⟨rfl, trivial⟩ (Sub.refl _) ?_
        refine AW.seq ?_
        refine AW.reg ?_
        refine AO.calm rfl 30 rfl (by decide) (eStr x3) (Calm.move rfl rfl) ?_
        refine AO.calm rfl 2 rfl (by decide) (eStr x3) (Calm.assign rfl rfl) ?_
        refine AO.nil (ρ' := [(2, (eStr x3))]) (H' := []) ⟨rfl, trivial⟩ (Sub.refl _) ?_
        refine AW.ret (ρ' := [(2, (eStr x3))]) (H' := []) ⟨rfl, trivial⟩ (Sub.refl _) ?_
        have hr := Option.some.inj h
        subst hr
        exact ⟨[(eStr x3)], ⟨rfl, rfl, trivial⟩, rfl⟩
end Go.Avl.T2
/- bosket/bosketref13.Number; printed by avmain.py. -/
namespace Go.Avl.T2
open Go Go.RowKit Go.Proofs Go.Avl
set_option linter.unusedVariables false
set_option maxRecDepth 100000
set_option maxHeartbeats 4000000
attribute [local irreducible] AW AO AQ Spec SpecH Calm

def bosketref13_Number_c0 (k : Nat) (p0 : ByteArray) (x7 : Int) : Option (Int × Bool) :=
  (bosketref13_Digits k x7).bind fun t8 =>
  if t8 ≠ p0 then some ((0 : Int), false)
  else some (x7, true)
def bosketref13_Number_c1 (k : Nat) (p0 : ByteArray) (b2 : Bool) (x6 : Int) : Option (Int × Bool) :=
  if (!b2) = true then bosketref13_Number_c0 k p0 (IntKind.i64.wrap (0 - x6))
  else bosketref13_Number_c0 k p0 x6
def bosketref13_Number_c2 (k : Nat) (rec13 : (Int → Int → Option (Int × Bool))) (x12 : Int) (x19 : Int) : Option (Int × Bool) :=
  rec13 x19 (w64 (x12 + (1 : Int)))
def bosketref13_Number_l3 (k : Nat) (p0 : ByteArray) (b2 : Bool) : Nat → Int → Int → Option (Int × Bool)
  | 0, _, _ => none
  | j + 1, x11, x12 =>
    Option.bind (α := Bool) (if x12 < (p0.size : Int) then some (decide (x12 < (20 : Int)))
    else some (false)) fun b15 =>
    if b15 = true then Option.bind (α := Bool) (if 0 ≤ x12 ∧ x12 < (p0.size : Int) then if (48 : Int) ≤ (byteAt p0 x12) then if 0 ≤ x12 ∧ x12 < (p0.size : Int) then some (decide ((byteAt p0 x12) ≤ (57 : Int)))
    else none
    else some (false)
    else none) fun b20 =>
    if b20 = true then if 0 ≤ x12 ∧ x12 < (p0.size : Int) then (some (w64 ((w64 (x11 * (10 : Int))) - (w64 (w8 ((byteAt p0 x12) - (48 : Int))))))).bind fun x27 =>
    bosketref13_Number_c2 k (bosketref13_Number_l3 k p0 b2 j) x12 x27
    else none
    else bosketref13_Number_c2 k (bosketref13_Number_l3 k p0 b2 j) x12 x11
    else bosketref13_Number_c1 k p0 b2 x11
def bosketref13_Number (k : Nat) (p0 : ByteArray) : Option (Int × Bool) :=
  Option.bind (α := Bool) (if (0 : Int) < (p0.size : Int) then if 0 ≤ (0 : Int) ∧ (0 : Int) < (p0.size : Int) then some (decide ((byteAt p0 (0 : Int)) = (45 : Int)))
  else none
  else some (false)) fun b2 =>
  bosketref13_Number_l3 k p0 b2 k (0 : Int) (0 : Int)
theorem bosketref13_Number_spec {k : Nat} {p0 : ByteArray} {r : (Int × Bool)} (h : bosketref13_Number k p0 = some r) : Spec Try.prog 17 [(eStr p0)] (.tup [(eI64 r.1), (eBool r.2)]) := by
  rw [bosketref13_Number.eq_1] at h
  refine Spec.intro (res := [.tmp 2, .tmp 3]) Try.func17 rfl rfl rfl (Nat.le_of_ble_eq_true rfl) ?_
  refine AW.seq ?_
  refine AW.reg ?_
  refine AO.calm rfl 2 rfl (by decide) (eI64 (0 : Int)) (Calm.assign rfl rfl) ?_
  refine AO.calm rfl 3 rfl (by decide) (eBool false) (Calm.assign rfl rfl) ?_
  refine AO.nil (ρ' := [(0, (eStr p0))]) (H' := []) ⟨rfl, trivial⟩ (Sub.refl _) ?_
  refine AW.seq ?_
  obtain ⟨b2, hq3, h⟩ := of_bind h
  refine AW.regQM (by rfl) (by decide +kernel) [(0, (eStr p0)), (4, (eI64 (0 : Int))), (5, (eBool b2))] ?_ ?_
  · refine AQ.calm rfl 7 rfl (by decide) (eStr p0) (Calm.move rfl rfl) ?_
    refine AQ.calm rfl 8 rfl (by decide) (eI64 (p0.size : Int)) (Calm.lenStr rfl rfl Try.underlying9) ?_
    refine AQ.calm rfl 9 rfl (by decide) (eBool (decide ((0 : Int) < (p0.size : Int)))) (Calm.int rfl rfl rfl rfl) ?_
    refine AQ.calm rfl 10 rfl (by decide) (eBool (decide ((0 : Int) < (p0.size : Int)))) (Calm.move rfl rfl) ?_
    by_cases hc4 : (0 : Int) < (p0.size : Int)
    · have hq3 := (if_pos hc4).symm.trans hq3
      refine AQ.calmG 3 true 10 rfl rfl (congrArg (fun b => some (AV.fl (Value.bool b))) (decide_eq_true hc4)) 11 rfl (by decide) (eStr p0) (Calm.move rfl rfl) ?_
      obtain ⟨hg5, hq3⟩ := of_guard hq3
      refine AQ.calmG 3 true 10 rfl rfl (congrArg (fun b => some (AV.fl (Value.bool b))) (decide_eq_true hc4)) 12 rfl (by decide) (eU8 (byteAt p0 (0 : Int))) (Calm.idxS rfl rfl rfl hg5 Try.underlying9) ?_
      refine AQ.calmG 3 true 10 rfl rfl (congrArg (fun b => some (AV.fl (Value.bool b))) (decide_eq_true hc4)) 13 rfl (by decide) (eBool (decide ((byteAt p0 (0 : Int)) = (45 : Int)))) (Calm.int rfl rfl rfl rfl) ?_
      refine AQ.calm rfl 14 rfl (by decide) (eBool (decide ((byteAt p0 (0 : Int)) = (45 : Int)))) (Calm.pickT rfl (congrArg (fun b => some (AV.fl (Value.bool b))) (decide_eq_true hc4)) rfl) ?_
      refine AQ.calm rfl 4 rfl (by decide) (eI64 (0 : Int)) (Calm.assign rfl rfl) ?_
      refine AQ.calm rfl 5 rfl (by decide) (eBool (decide ((byteAt p0 (0 : Int)) = (45 : Int)))) (Calm.assign rfl rfl) ?_
      cases hq3
      refine AQ.nilE rfl ?_
      exact ⟨rfl, rfl, rfl, trivial⟩
    · have hq3 := (if_neg hc4).symm.trans hq3
      refine AQ.skipG 3 false 10 rfl rfl (congrArg (fun b => some (AV.fl (Value.bool b))) (decide_eq_false hc4)) 11 rfl (by decide) ?_
      refine AQ.skipG 3 false 10 rfl rfl (congrArg (fun b => some (AV.fl (Value.bool b))) (decide_eq_false hc4)) 12 rfl (by decide) ?_
      refine AQ.skipG 3 false 10 rfl rfl (congrArg (fun b => some (AV.fl (Value.bool b))) (decide_eq_false hc4)) 13 rfl (by decide) ?_
      refine AQ.calm rfl 14 rfl (by decide) (eBool false) (Calm.pickF rfl (congrArg (fun b => some (AV.fl (Value.bool b))) (decide_eq_false hc4)) rfl) ?_
      refine AQ.calm rfl 4 rfl (by decide) (eI64 (0 : Int)) (Calm.assign rfl rfl) ?_
      refine AQ.calm rfl 5 rfl (by decide) (eBool false) (Calm.assign rfl rfl) ?_
      cases hq3
      refine AQ.nilE rfl ?_
      exact ⟨rfl, rfl, rfl, trivial⟩
  · refine AW.seq_mid (fun ρ H => ∃ (x6 : Int), ρ = [(0, (eStr p0)), (4, (eI64 x6)), (5, (eBool b2))] ∧ H = [] ∧ bosketref13_Number_c1 k p0 b2 x6 = some r) ?_ ?_
    · refine AW.seq ?_
      refine AW.reg ?_
      refine AO.calm rfl 6 rfl (by decide) (eI64 (0 : Int)) (Calm.assign rfl rfl) ?_
      refine AO.nil (ρ' := [(0, (eStr p0)), (4, (eI64 (0 : Int))), (5, (eBool b2)), (6, (eI64 (0 : Int)))]) (H' := []) ⟨rfl, rfl, rfl, rfl, trivial⟩ (Sub.refl _) ?_
      refine AW.block ?_
      refine AW.weak (ρ' := [(0, (eStr p0)), (4, (eI64 (0 : Int))), (5, (eBool b2)), (6, (eI64 (0 : Int)))]) (H' := []) ⟨rfl, rfl, rfl, rfl, trivial⟩ (Sub.refl _) ?_
      refine AW.loop (fun kq ρ H => ∃ (x11 : Int) (x12 : Int), ρ = [(0, (eStr p0)), (4, (eI64 x11)), (5, (eBool b2)), (6, (eI64 x12))] ∧ H = [] ∧ bosketref13_Number_l3 k p0 b2 kq x11 x12 = some r) k ⟨(0 : Int), (0 : Int), rfl, rfl, h⟩ ?_
      rintro kq14 _ _ ⟨x11, x12, rfl, rfl, h⟩
      cases kq14 with
      | zero => rw [bosketref13_Number_l3.eq_1] at h; cases h
      | succ kq14 =>
      rw [bosketref13_Number_l3.eq_2] at h
      generalize hrec13 : bosketref13_Number_l3 k p0 b2 kq14 = rec13 at h
      refine AW.seq ?_
      refine AW.seq ?_
      obtain ⟨b15, hq16, h⟩ := of_bind h
      refine AW.regM [(0, (eStr p0)), (4, (eI64 x11)), (5, (eBool b2)), (6, (eI64 x12)), (22, (eBool b15))] [] ?_ ?_
      · refine AO.calm rfl 15 rfl (by decide) (eI64 x12) (Calm.move rfl rfl) ?_
        refine AO.calm rfl 16 rfl (by decide) (eStr p0) (Calm.move rfl rfl) ?_
        refine AO.calm rfl 17 rfl (by decide) (eI64 (p0.size : Int)) (Calm.lenStr rfl rfl Try.underlying9) ?_
        refine AO.calm rfl 18 rfl (by decide) (eBool (decide (x12 < (p0.size : Int)))) (Calm.int rfl rfl rfl rfl) ?_
        refine AO.calm rfl 19 rfl (by decide) (eBool (decide (x12 < (p0.size : Int)))) (Calm.move rfl rfl) ?_
        by_cases hc17 : x12 < (p0.size : Int)
        · have hq16 := (if_pos hc17).symm.trans hq16
          refine AO.calmG 4 true 19 rfl rfl (congrArg (fun b => some (AV.fl (Value.bool b))) (decide_eq_true hc17)) 20 rfl (by decide) (eI64 x12) (Calm.move rfl rfl) ?_
          refine AO.calmG 4 true 19 rfl rfl (congrArg (fun b => some (AV.fl (Value.bool b))) (decide_eq_true hc17)) 21 rfl (by decide) (eBool (decide (x12 < (20 : Int)))) (Calm.int rfl rfl rfl rfl) ?_
          refine AO.calm rfl 22 rfl (by decide) (eBool (decide (x12 < (20 : Int)))) (Calm.pickT rfl (congrArg (fun b => some (AV.fl (Value.bool b))) (decide_eq_true hc17)) rfl) ?_
          cases hq16
          refine AO.nilE ⟨rfl, rfl⟩ ?_ ?_
          · exact ⟨rfl, rfl, rfl, rfl, rfl, trivial⟩
          · exact (Sub.refl _)
        · have hq16 := (if_neg hc17).symm.trans hq16
          refine AO.skipG 4 false 19 rfl rfl (congrArg (fun b => some (AV.fl (Value.bool b))) (decide_eq_false hc17)) 20 rfl (by decide) ?_
          refine AO.skipG 4 false 19 rfl rfl (congrArg (fun b => some (AV.fl (Value.bool b))) (decide_eq_false hc17)) 21 rfl (by decide) ?_
          refine AO.calm rfl 22 rfl (by decide) (eBool false) (Calm.pickF rfl (congrArg (fun b => some (AV.fl (Value.bool b))) (decide_eq_false hc17)) rfl) ?_
          cases hq16
          refine AO.nilE ⟨rfl, rfl⟩ ?_ ?_
          · exact ⟨rfl, rfl, rfl, rfl, rfl, trivial⟩
          · exact (Sub.refl _)
      · by_cases hc18 : b15 = true
        · have h := (if_pos hc18).symm.trans h
          refine AW.condT' b15 rfl hc18 ?_
          refine AW.skip (ρ' := [(0, (eStr p0)), (4, (eI64 x11)), (5, (eBool b2)), (6, (eI64 x12))]) (H' := []) ⟨rfl, rfl, rfl, rfl, trivial⟩ (Sub.refl _) ?_
          refine AW.seq_mid (fun ρ H => ∃ (x19 : Int), ρ = [(0, (eStr p0)), (4, (eI64 x19)), (5, (eBool b2)), (6, (eI64 x12))] ∧ H = [] ∧ bosketref13_Number_c2 k rec13 x12 x19 = some r) ?_ ?_
          · refine AW.block ?_
            refine AW.seq ?_
            obtain ⟨b20, hq21, h⟩ := of_bind h
            refine AW.regM [(0, (eStr p0)), (4, (eI64 x11)), (5, (eBool b2)), (6, (eI64 x12)), (34, (eBool b20))] [] ?_ ?_
            · refine AO.calm rfl 25 rfl (by decide) (eStr p0) (Calm.move rfl rfl) ?_
              refine AO.calm rfl 26 rfl (by decide) (eI64 x12) (Calm.move rfl rfl) ?_
              obtain ⟨hg22, hq21⟩ := of_guard hq21
              refine AO.calm rfl 27 rfl (by decide) (eU8 (byteAt p0 x12)) (Calm.idxS rfl rfl rfl hg22 Try.underlying9) ?_
              refine AO.calm rfl 28 rfl (by decide) (eBool (decide ((48 : Int) ≤ (byteAt p0 x12)))) (Calm.int rfl rfl rfl rfl) ?_
              refine AO.calm rfl 29 rfl (by decide) (eBool (decide ((48 : Int) ≤ (byteAt p0 x12)))) (Calm.move rfl rfl) ?_
              by_cases hc23 : (48 : Int) ≤ (byteAt p0 x12)
              · have hq21 := (if_pos hc23).symm.trans hq21
                refine AO.calmG 4 true 29 rfl rfl (congrArg (fun b => some (AV.fl (Value.bool b))) (decide_eq_true hc23)) 30 rfl (by decide) (eStr p0) (Calm.move rfl rfl) ?_
                refine AO.calmG 4 true 29 rfl rfl (congrArg (fun b => some (AV.fl (Value.bool b))) (decide_eq_true hc23)) 31 rfl (by decide) (eI64 x12) (Calm.move rfl rfl) ?_
                obtain ⟨hg24, hq21⟩ := of_guard hq21
                refine AO.calmG 4 true 29 rfl rfl (congrArg (fun b => some (AV.fl (Value.bool b))) (decide_eq_true hc23)) 32 rfl (by decide) (eU8 (byteAt p0 x12)) (Calm.idxS rfl rfl rfl hg24 Try.underlying9) ?_
                refine AO.calmG 4 true 29 rfl rfl (congrArg (fun b => some (AV.fl (Value.bool b))) (decide_eq_true hc23)) 33 rfl (by decide) (eBool (decide ((byteAt p0 x12) ≤ (57 : Int)))) (Calm.int rfl rfl rfl rfl) ?_
                refine AO.calm rfl 34 rfl (by decide) (eBool (decide ((byteAt p0 x12) ≤ (57 : Int)))) (Calm.pickT rfl (congrArg (fun b => some (AV.fl (Value.bool b))) (decide_eq_true hc23)) rfl) ?_
                cases hq21
                refine AO.nilE ⟨rfl, rfl⟩ ?_ ?_
                · exact ⟨rfl, rfl, rfl, rfl, rfl, trivial⟩
                · exact (Sub.refl _)
              · have hq21 := (if_neg hc23).symm.trans hq21
                refine AO.skipG 4 false 29 rfl rfl (congrArg (fun b => some (AV.fl (Value.bool b))) (decide_eq_false hc23)) 30 rfl (by decide) ?_
                refine AO.skipG 4 false 29 rfl rfl (congrArg (fun b => some (AV.fl (Value.bool b))) (decide_eq_false hc23)) 31 rfl (by decide) ?_
                refine AO.skipG 4 false 29 rfl rfl (congrArg (fun b => some (AV.fl (Value.bool b))) (decide_eq_false hc23)) 32 rfl (by decide) ?_
                refine AO.skipG 4 false 29 rfl rfl (congrArg (fun b => some (AV.fl (Value.bool b))) (decide_eq_false hc23)) 33 rfl (by decide) ?_
                refine AO.calm rfl 34 rfl (by decide) (eBool false) (Calm.pickF rfl (congrArg (fun b => some (AV.fl (Value.bool b))) (decide_eq_false hc23)) rfl) ?_
                cases hq21
                refine AO.nilE ⟨rfl, rfl⟩ ?_ ?_
                · exact ⟨rfl, rfl, rfl, rfl, rfl, trivial⟩
                · exact (Sub.refl _)
            · by_cases hc25 : b20 = true
              · have h := (if_pos hc25).symm.trans h
                refine AW.condT' b20 rfl hc25 ?_
                refine AW.reg ?_
                refine AO.calm rfl 35 rfl (by decide) (eI64 x11) (Calm.move rfl rfl) ?_
                refine AO.calm rfl 36 rfl (by decide) (eI64 (w64 (x11 * (10 : Int)))) (Calm.int rfl rfl rfl rfl) ?_
                refine AO.calm rfl 37 rfl (by decide) (eStr p0) (Calm.move rfl rfl) ?_
                refine AO.calm rfl 38 rfl (by decide) (eI64 x12) (Calm.move rfl rfl) ?_
                obtain ⟨hg26, h⟩ := of_guard h
                refine AO.calm rfl 39 rfl (by decide) (eU8 (byteAt p0 x12)) (Calm.idxS rfl rfl rfl hg26 Try.underlying9) ?_
                refine AO.calm rfl 40 rfl (by decide) (eU8 (w8 ((byteAt p0 x12) - (48 : Int)))) (Calm.int rfl rfl rfl rfl) ?_
                refine AO.calm rfl 41 rfl (by decide) (eI64 (w64 (w8 ((byteAt p0 x12) - (48 : Int))))) (Calm.conv rfl rfl Try.underlying5 Try.underlying3) ?_
                refine AO.calm rfl 42 rfl (by decide) (eI64 (w64 ((w64 (x11 * (10 : Int))) - (w64 (w8 ((byteAt p0 x12) - (48 : Int))))))) (Calm.int rfl rfl rfl rfl) ?_
                obtain ⟨x27, ex27, h⟩ := of_bind h
                refine AO.calm rfl 4 rfl (by decide) (eI64 x27) (Calm.assign rfl (congrArg (fun x => some (eI64 x)) (Option.some.inj ex27))) ?_
                refine AO.nil (ρ' := [(0, (eStr p0)), (4, (eI64 x27)), (5, (eBool b2)), (6, (eI64 x12))]) (H' := []) ⟨rfl, rfl, rfl, rfl, trivial⟩ (Sub.refl _) ?_
                exact ⟨x27, rfl, rfl, h⟩
              · have h := (if_neg hc25).symm.trans h
                refine AW.condF' b20 rfl hc25 ?_
                refine AW.skip (ρ' := [(0, (eStr p0)), (4, (eI64 x11)), (5, (eBool b2)), (6, (eI64 x12))]) (H' := []) ⟨rfl, rfl, rfl, rfl, trivial⟩ (Sub.refl _) ?_
                exact ⟨x11, rfl, rfl, h⟩
          · rintro _ _ ⟨x19, rfl, rfl, h⟩
            rw [bosketref13_Number_c2.eq_1] at h
            refine AW.reg ?_
            refine AO.calm rfl 23 rfl (by decide) (eI64 x12) (Calm.move rfl rfl) ?_
            refine AO.calm rfl 24 rfl (by decide) (eI64 (w64 (x12 + (1 : Int)))) (Calm.int rfl rfl rfl rfl) ?_
            refine AO.calm rfl 6 rfl (by decide) (eI64 (w64 (x12 + (1 : Int)))) (Calm.assign rfl rfl) ?_
            refine AO.nil (ρ' := [(0, (eStr p0)), (4, (eI64 x19)), (5, (eBool b2)), (6, (eI64 (w64 (x12 + (1 : Int)))))]) (H' := []) ⟨rfl, rfl, rfl, rfl, trivial⟩ (Sub.refl _) ?_
            exact ⟨kq14, Nat.lt_succ_self _, x19, (w64 (x12 + (1 : Int))), rfl, rfl, by rw [hrec13]; exact h⟩
        · have h := (if_neg hc18).symm.trans h
          refine AW.condF' b15 rfl hc18 ?_
          refine AW.exit (ρ' := [(0, (eStr p0)), (4, (eI64 x11)), (5, (eBool b2))]) (H' := []) ⟨rfl, rfl, rfl, trivial⟩ (Sub.refl _) ?_
          exact ⟨x11, rfl, rfl, h⟩
    · rintro _ _ ⟨x6, rfl, rfl, h⟩
      rw [bosketref13_Number_c1.eq_1] at h
      refine AW.seq_mid (fun ρ H => ∃ (x7 : Int), ρ = [(0, (eStr p0)), (4, (eI64 x7))] ∧ H = [] ∧ bosketref13_Number_c0 k p0 x7 = some r) ?_ ?_
      · refine AW.seq ?_
        refine AW.reg ?_
        refine AO.calm rfl 43 rfl (by decide) (eBool b2) (Calm.move rfl rfl) ?_
        refine AO.calm rfl 44 rfl (by decide) (eBool (!b2)) (Calm.not rfl rfl) ?_
        refine AO.nil (ρ' := [(0, (eStr p0)), (4, (eI64 x6)), (44, (eBool (!b2)))]) (H' := []) ⟨rfl, rfl, rfl, trivial⟩ (Sub.refl _) ?_
        by_cases hc10 : (!b2) = true
        · have h := (if_pos hc10).symm.trans h
          refine AW.condT' (!b2) rfl hc10 ?_
          refine AW.reg ?_
          refine AO.calm rfl 45 rfl (by decide) (eI64 x6) (Calm.move rfl rfl) ?_
          refine AO.calm rfl 46 rfl (by decide) (eI64 (IntKind.i64.wrap (0 - x6))) (Calm.neg rfl rfl) ?_
          refine AO.calm rfl 4 rfl (by decide) (eI64 (IntKind.i64.wrap (0 - x6))) (Calm.assign rfl rfl) ?_
          refine AO.nil (ρ' := [(0, (eStr p0)), (4, (eI64 (IntKind.i64.wrap (0 - x6))))]) (H' := []) ⟨rfl, rfl, trivial⟩ (Sub.refl _) ?_
          exact ⟨(IntKind.i64.wrap (0 - x6)), rfl, rfl, h⟩
        · have h := (if_neg hc10).symm.trans h
          refine AW.condF' (!b2) rfl hc10 ?_
          refine AW.skip (ρ' := [(0, (eStr p0)), (4, (eI64 x6))]) (H' := []) ⟨rfl, rfl, trivial⟩ (Sub.refl _) ?_
          exact ⟨x6, rfl, rfl, h⟩
      · rintro _ _ ⟨x7, rfl, rfl, h⟩
        rw [bosketref13_Number_c0.eq_1] at h
        refine AW.seq ?_
        refine AW.seq ?_
        refine AW.reg ?_
        refine AO.calm rfl 47 rfl (by decide) (eI64 x7) (Calm.move rfl rfl) ?_
        obtain ⟨t8, et8, h⟩ := of_bind h
        refine AO.callS [(eI64 x7)] (eStr t8) 48 rfl (by decide) ok19 rfl rfl rfl ⟨rfl, rfl, trivial⟩ (bosketref13_Digits_spec et8) ?_
        refine AO.calm rfl 49 rfl (by decide) (eStr p0) (Calm.move rfl rfl) ?_
        refine AO.calm rfl 50 rfl (by decide) (eBool (decide (t8 ≠ p0))) (Calm.str rfl rfl rfl rfl) ?_
        refine AO.nil (ρ' := [(4, (eI64 x7)), (50, (eBool (decide (t8 ≠ p0))))]) (H' := []) ⟨rfl, rfl, trivial⟩ (Sub.refl _) ?_
        by_cases hc9 : t8 ≠ p0
        · have h := (if_pos hc9).symm.trans h
          refine AW.condP (t8 ≠ p0) rfl hc9 ?_
          refine AW.seq ?_
          refine AW.reg ?_
          refine AO.calm rfl 2 rfl (by decide) (eI64 (0 : Int)) (Calm.assign rfl rfl) ?_
          refine AO.calm rfl 3 rfl (by decide) (eBool false) (Calm.assign rfl rfl) ?_
          refine AO.nil (ρ' := [(2, (eI64 (0 : Int))), (3, (eBool false))]) (H' := []) ⟨rfl, rfl, trivial⟩ (Sub.refl _) ?_
          refine AW.ret (ρ' := [(2, (eI64 (0 : Int))), (3, (eBool false))]) (H' := []) ⟨rfl, rfl, trivial⟩ (Sub.refl _) ?_
          have hr := Option.some.inj h
          subst hr
          exact ⟨[(eI64 (0 : Int)), (eBool false)], ⟨rfl, rfl, rfl, rfl, trivial⟩, rfl⟩
        · have h := (if_neg hc9).symm.trans h
          refine AW.condN (t8 ≠ p0) rfl hc9 ?_
          refine AW.skip (ρ' := [(4, (eI64 x7))]) (H' := []) ⟨rfl, trivial⟩ (Sub.refl _) ?_
          refine AW.seq ?_
          refine AW.reg ?_
          refine AO.calm rfl 51 rfl (by decide) (eI64 x7) (Calm.move rfl rfl) ?_
          refine AO.calm rfl 2 rfl (by decide) (eI64 x7) (Calm.assign rfl rfl) ?_
          refine AO.calm rfl 3 rfl (by decide) (eBool true) (Calm.assign rfl rfl) ?_
          refine AO.nil (ρ' := [(2, (eI64 x7)), (3, (eBool true))]) (H' := []) ⟨rfl, rfl, trivial⟩ (Sub.refl _) ?_
          refine AW.ret (ρ' := [(2, (eI64 x7)), (3, (eBool true))]) (H' := []) ⟨rfl, rfl, trivial⟩ (Sub.refl _) ?_
          have hr := Option.some.inj h
          subst hr
          exact ⟨[(eI64 x7), (eBool true)], ⟨rfl, rfl, rfl, rfl, trivial⟩, rfl⟩
end Go.Avl.T2
/- bosket/spot.Digits; printed by avmain.py. -/
namespace Go.Avl.T2
open Go Go.RowKit Go.Proofs Go.Avl
set_option linter.unusedVariables false
set_option maxRecDepth 100000
set_option maxHeartbeats 4000000
attribute [local irreducible] AW AO AQ Spec SpecH Calm

def spot_Digits (k : Nat) (p0 : Int) : Option ByteArray :=
  (spot_digits k p0).bind fun t2 =>
  some (t2)
theorem spot_Digits_spec {k : Nat} {p0 : Int} {r : ByteArray} (h : spot_Digits k p0 = some r) : Spec Try.prog 18 [(eI64 p0)] (eStr r) := by
  rw [spot_Digits.eq_1] at h
  refine Spec.intro (res := [.tmp 2]) Try.func18 rfl rfl rfl (Nat.le_of_ble_eq_true rfl) ?_
  refine AW.seq ?_
  refine AW.reg ?_
  refine AO.calm rfl 2 rfl (by decide) (eStr (ByteArray.mk #[])) (Calm.assign rfl rfl) ?_
  refine AO.nil (ρ' := [(0, (eI64 p0))]) (H' := []) ⟨rfl, trivial⟩ (Sub.refl _) ?_
  refine AW.seq ?_
  refine AW.reg ?_
  refine AO.calm rfl 3 rfl (by decide) (eI64 p0) (Calm.move rfl rfl) ?_
  obtain ⟨t2, et2, h⟩ := of_bind h
  refine AO.callS [(eI64 p0)] (eStr t2) 4 rfl (by decide) ok59 rfl rfl rfl ⟨rfl, rfl, trivial⟩ (spot_digits_spec et2) ?_
  refine AO.calm rfl 2 rfl (by decide) (eStr t2) (Calm.assign rfl rfl) ?_
  refine AO.nil (ρ' := [(2, (eStr t2))]) (H' := []) ⟨rfl, trivial⟩ (Sub.refl _) ?_
  refine AW.ret (ρ' := [(2, (eStr t2))]) (H' := []) ⟨rfl, trivial⟩ (Sub.refl _) ?_
  have hr := Option.some.inj h
  subst hr
  exact ⟨[(eStr t2)], ⟨rfl, rfl, trivial⟩, rfl⟩
end Go.Avl.T2
/- bosket/bosketlaw13.SpotNumbers; printed by avmain.py. -/
namespace Go.Avl.T2
open Go Go.RowKit Go.Proofs Go.Avl
set_option linter.unusedVariables false
set_option maxRecDepth 100000
set_option maxHeartbeats 4000000
attribute [local irreducible] AW AO AQ Spec SpecH Calm

def bosketlaw13_SpotNumbers (k : Nat) (p0 : Int) (p1 : ByteArray) : Option Bool :=
  (bosketlaw13_awake k).bind fun t3 =>
  if (!t3) = true then some (false)
  else if (100 : Int) < (p1.size : Int) then some (true)
  else (spot_Number k p1).bind fun t6 =>
  (bosketref13_Number k p1).bind fun t7 =>
  (spot_Digits k p0).bind fun t8 =>
  (spot_Number k t8).bind fun t9 =>
  Option.bind (α := Bool) (if t6.1 = t7.1 then if (t6.2 == t7.2) = true then if t9.1 = p0 then if t9.2 = true then (spot_Digits k p0).bind fun t16 =>
  (bosketref13_Digits k p0).bind fun t17 =>
  if t16 = t17 then (spot_Show k (S23.mk p0 t7.1)).bind fun t19 =>
  (bosketref13_Digits k p0).bind fun t20 =>
  if t20.size + (ByteArray.mk #[58]).size ≤ 9223372036854775807 then (bosketref13_Digits k t7.1).bind fun t22 =>
  if (t20 ++ (ByteArray.mk #[58])).size + t22.size ≤ 9223372036854775807 then some (decide (t19 = ((t20 ++ (ByteArray.mk #[58])) ++ t22)))
  else none
  else none
  else some (false)
  else some (false)
  else some (false)
  else some (false)
  else some (false)) fun b10 =>
  some (b10)
theorem bosketlaw13_SpotNumbers_spec {k : Nat} {p0 : Int} {p1 : ByteArray} {r : Bool} (h : bosketlaw13_SpotNumbers k p0 p1 = some r) : Spec Try.prog 4 [(eI64 p0), (eStr p1)] (eBool r) := by
  rw [bosketlaw13_SpotNumbers.eq_1] at h
  refine Spec.intro (res := [.tmp 4]) Try.func4 rfl rfl rfl (Nat.le_of_ble_eq_true rfl) ?_
  refine AW.seq ?_
  refine AW.reg ?_
  refine AO.calm rfl 4 rfl (by decide) (eBool false) (Calm.assign rfl rfl) ?_
  refine AO.nil (ρ' := [(0, (eI64 p0)), (1, (eStr p1))]) (H' := []) ⟨rfl, rfl, trivial⟩ (Sub.refl _) ?_
  refine AW.seq ?_
  refine AW.seq ?_
  refine AW.reg ?_
  obtain ⟨t3, et3, h⟩ := of_bind h
  refine AO.callS [] (eBool t3) 11 rfl (by decide) ok12 rfl rfl rfl trivial (bosketlaw13_awake_spec et3) ?_
  refine AO.calm rfl 12 rfl (by decide) (eBool (!t3)) (Calm.not rfl rfl) ?_
  refine AO.nil (ρ' := [(0, (eI64 p0)), (1, (eStr p1)), (12, (eBool (!t3)))]) (H' := []) ⟨rfl, rfl, rfl, trivial⟩ (Sub.refl _) ?_
  by_cases hc4 : (!t3) = true
  · have h := (if_pos hc4).symm.trans h
    refine AW.condT' (!t3) rfl hc4 ?_
    refine AW.seq ?_
    refine AW.reg ?_
    refine AO.calm rfl 4 rfl (by decide) (eBool false) (Calm.assign rfl rfl) ?_
    refine AO.nil (ρ' := [(4, (eBool false))]) (H' := []) ⟨rfl, trivial⟩ (Sub.refl _) ?_
    refine AW.ret (ρ' := [(4, (eBool false))]) (H' := []) ⟨rfl, trivial⟩ (Sub.refl _) ?_
    have hr := Option.some.inj h
    subst hr
    exact ⟨[(eBool false)], ⟨rfl, rfl, trivial⟩, rfl⟩
  · have h := (if_neg hc4).symm.trans h
    refine AW.condF' (!t3) rfl hc4 ?_
    refine AW.skip (ρ' := [(0, (eI64 p0)), (1, (eStr p1))]) (H' := []) ⟨rfl, rfl, trivial⟩ (Sub.refl _) ?_
    refine AW.seq ?_
    refine AW.seq ?_
    refine AW.reg ?_
    refine AO.calm rfl 13 rfl (by decide) (eStr p1) (Calm.move rfl rfl) ?_
    refine AO.calm rfl 14 rfl (by decide) (eI64 (p1.size : Int)) (Calm.lenStr rfl rfl Try.underlying9) ?_
    refine AO.calm rfl 15 rfl (by decide) (eBool (decide ((100 : Int) < (p1.size : Int)))) (Calm.int rfl rfl rfl rfl) ?_
    refine AO.nil (ρ' := [(0, (eI64 p0)), (1, (eStr p1)), (15, (eBool (decide ((100 : Int) < (p1.size : Int)))))]) (H' := []) ⟨rfl, rfl, rfl, trivial⟩ (Sub.refl _) ?_
    by_cases hc5 : (100 : Int) < (p1.size : Int)
    · have h := (if_pos hc5).symm.trans h
      refine AW.condP ((100 : Int) < (p1.size : Int)) rfl hc5 ?_
      refine AW.seq ?_
      refine AW.reg ?_
      refine AO.calm rfl 4 rfl (by decide) (eBool true) (Calm.assign rfl rfl) ?_
      refine AO.nil (ρ' := [(4, (eBool true))]) (H' := []) ⟨rfl, trivial⟩ (Sub.refl _) ?_
      refine AW.ret (ρ' := [(4, (eBool true))]) (H' := []) ⟨rfl, trivial⟩ (Sub.refl _) ?_
      have hr := Option.some.inj h
      subst hr
      exact ⟨[(eBool true)], ⟨rfl, rfl, trivial⟩, rfl⟩
    · have h := (if_neg hc5).symm.trans h
      refine AW.condN ((100 : Int) < (p1.size : Int)) rfl hc5 ?_
      refine AW.skip (ρ' := [(0, (eI64 p0)), (1, (eStr p1))]) (H' := []) ⟨rfl, rfl, trivial⟩ (Sub.refl _) ?_
      refine AW.seq ?_
      refine AW.reg ?_
      refine AO.calm rfl 17 rfl (by decide) (eStr p1) (Calm.move rfl rfl) ?_
      obtain ⟨t6, et6, h⟩ := of_bind h
      refine AO.callS [(eStr p1)] (.tup [(eI64 t6.1), (eBool t6.2)]) 18 rfl (by decide) ok16 rfl rfl rfl ⟨rfl, rfl, trivial⟩ (spot_Number_spec et6) ?_
      refine AO.calm rfl 16 rfl (by decide) (.tup [(eI64 t6.1), (eBool t6.2)]) (Calm.move rfl rfl) ?_
      refine AO.calm rfl 19 rfl (by decide) (eI64 t6.1) (Calm.extract rfl rfl rfl) ?_
      refine AO.calm rfl 20 rfl (by decide) (eBool t6.2) (Calm.extract rfl rfl rfl) ?_
      refine AO.calm rfl 5 rfl (by decide) (eI64 t6.1) (Calm.assign rfl rfl) ?_
      refine AO.calm rfl 6 rfl (by decide) (eBool t6.2) (Calm.assign rfl rfl) ?_
      refine AO.nil (ρ' := [(0, (eI64 p0)), (1, (eStr p1)), (5, (eI64 t6.1)), (6, (eBool t6.2))]) (H' := []) ⟨rfl, rfl, rfl, rfl, trivial⟩ (Sub.refl _) ?_
      refine AW.seq ?_
      refine AW.reg ?_
      refine AO.calm rfl 22 rfl (by decide) (eStr p1) (Calm.move rfl rfl) ?_
      obtain ⟨t7, et7, h⟩ := of_bind h
      refine AO.callS [(eStr p1)] (.tup [(eI64 t7.1), (eBool t7.2)]) 23 rfl (by decide) ok17 rfl rfl rfl ⟨rfl, rfl, trivial⟩ (bosketref13_Number_spec et7) ?_
      refine AO.calm rfl 21 rfl (by decide) (.tup [(eI64 t7.1), (eBool t7.2)]) (Calm.move rfl rfl) ?_
      refine AO.calm rfl 24 rfl (by decide) (eI64 t7.1) (Calm.extract rfl rfl rfl) ?_
      refine AO.calm rfl 25 rfl (by decide) (eBool t7.2) (Calm.extract rfl rfl rfl) ?_
      refine AO.calm rfl 7 rfl (by decide) (eI64 t7.1) (Calm.assign rfl rfl) ?_
      refine AO.calm rfl 8 rfl (by decide) (eBool t7.2) (Calm.assign rfl rfl) ?_
      refine AO.nil (ρ' := [(0, (eI64 p0)), (5, (eI64 t6.1)), (6, (eBool t6.2)), (7, (eI64 t7.1)), (8, (eBool t7.2))]) (H' := []) ⟨rfl, rfl, rfl, rfl, rfl, trivial⟩ (Sub.refl _) ?_
      refine AW.seq ?_
      refine AW.reg ?_
      refine AO.calm rfl 27 rfl (by decide) (eI64 p0) (Calm.move rfl rfl) ?_
      obtain ⟨t8, et8, h⟩ := of_bind h
      refine AO.callS [(eI64 p0)] (eStr t8) 28 rfl (by decide) ok18 rfl rfl rfl ⟨rfl, rfl, trivial⟩ (spot_Digits_spec et8) ?_
      obtain ⟨t9, et9, h⟩ := of_bind h
      refine AO.callS [(eStr t8)] (.tup [(eI64 t9.1), (eBool t9.2)]) 29 rfl (by decide) ok16 rfl rfl rfl ⟨rfl, rfl, trivial⟩ (spot_Number_spec et9) ?_
      refine AO.calm rfl 26 rfl (by decide) (.tup [(eI64 t9.1), (eBool t9.2)]) (Calm.move rfl rfl) ?_
      refine AO.calm rfl 30 rfl (by decide) (eI64 t9.1) (Calm.extract rfl rfl rfl) ?_
      refine AO.calm rfl 31 rfl (by decide) (eBool t9.2) (Calm.extract rfl rfl rfl) ?_
      refine AO.calm rfl 9 rfl (by decide) (eI64 t9.1) (Calm.assign rfl rfl) ?_
      refine AO.calm rfl 10 rfl (by decide) (eBool t9.2) (Calm.assign rfl rfl) ?_
      refine AO.nil (ρ' := [(0, (eI64 p0)), (5, (eI64 t6.1)), (6, (eBool t6.2)), (7, (eI64 t7.1)), (8, (eBool t7.2)), (9, (eI64 t9.1)), (10, (eBool t9.2))]) (H' := []) ⟨rfl, rfl, rfl, rfl, rfl, rfl, rfl, trivial⟩ (Sub.refl _) ?_
      refine AW.seq ?_
      obtain ⟨b10, hq11, h⟩ := of_bind h
      refine AW.regM [(4, (eBool b10))] [] ?_ ?_
      · refine AO.calm rfl 32 rfl (by decide) (eI64 t6.1) (Calm.move rfl rfl) ?_
        refine AO.calm rfl 33 rfl (by decide) (eI64 t7.1) (Calm.move rfl rfl) ?_
        refine AO.calm rfl 34 rfl (by decide) (eBool (decide (t6.1 = t7.1))) (Calm.int rfl rfl rfl rfl) ?_
        refine AO.calm rfl 35 rfl (by decide) (eBool (decide (t6.1 = t7.1))) (Calm.move rfl rfl) ?_
        by_cases hc12 : t6.1 = t7.1
        · have hq11 := (if_pos hc12).symm.trans hq11
          refine AO.calmG 3 true 35 rfl rfl (congrArg (fun b => some (AV.fl (Value.bool b))) (decide_eq_true hc12)) 36 rfl (by decide) (eBool t6.2) (Calm.move rfl rfl) ?_
          refine AO.calmG 3 true 35 rfl rfl (congrArg (fun b => some (AV.fl (Value.bool b))) (decide_eq_true hc12)) 37 rfl (by decide) (eBool t7.2) (Calm.move rfl rfl) ?_
          refine AO.calmG 3 true 35 rfl rfl (congrArg (fun b => some (AV.fl (Value.bool b))) (decide_eq_true hc12)) 38 rfl (by decide) (eBool (t6.2 == t7.2)) (Calm.boolEq rfl rfl rfl Try.underlying4) ?_
          refine AO.calm rfl 39 rfl (by decide) (eBool (t6.2 == t7.2)) (Calm.pickT rfl (congrArg (fun b => some (AV.fl (Value.bool b))) (decide_eq_true hc12)) rfl) ?_
          refine AO.calm rfl 40 rfl (by decide) (eBool (t6.2 == t7.2)) (Calm.move rfl rfl) ?_
          by_cases hc13 : (t6.2 == t7.2) = true
          · have hq11 := (if_pos hc13).symm.trans hq11
            refine AO.calmG 8 true 40 rfl rfl (congrArg (fun b => some (AV.fl (Value.bool b))) hc13) 41 rfl (by decide) (eI64 t9.1) (Calm.move rfl rfl) ?_
            refine AO.calmG 8 true 40 rfl rfl (congrArg (fun b => some (AV.fl (Value.bool b))) hc13) 42 rfl (by decide) (eI64 p0) (Calm.move rfl rfl) ?_
            refine AO.calmG 8 true 40 rfl rfl (congrArg (fun b => some (AV.fl (Value.bool b))) hc13) 43 rfl (by decide) (eBool (decide (t9.1 = p0))) (Calm.int rfl rfl rfl rfl) ?_
            refine AO.calm rfl 44 rfl (by decide) (eBool (decide (t9.1 = p0))) (Calm.pickT rfl (congrArg (fun b => some (AV.fl (Value.bool b))) hc13) rfl) ?_
            refine AO.calm rfl 45 rfl (by decide) (eBool (decide (t9.1 = p0))) (Calm.move rfl rfl) ?_
            by_cases hc14 : t9.1 = p0
            · have hq11 := (if_pos hc14).symm.trans hq11
              refine AO.calmG 13 true 45 rfl rfl (congrArg (fun b => some (AV.fl (Value.bool b))) (decide_eq_true hc14)) 46 rfl (by decide) (eBool t9.2) (Calm.move rfl rfl) ?_
              refine AO.calm rfl 47 rfl (by decide) (eBool t9.2) (Calm.pickT rfl (congrArg (fun b => some (AV.fl (Value.bool b))) (decide_eq_true hc14)) rfl) ?_
              refine AO.calm rfl 48 rfl (by decide) (eBool t9.2) (Calm.move rfl rfl) ?_
              by_cases hc15 : t9.2 = true
              · have hq11 := (if_pos hc15).symm.trans hq11
                refine AO.calmG 16 true 48 rfl rfl (congrArg (fun b => some (AV.fl (Value.bool b))) hc15) 49 rfl (by decide) (eI64 p0) (Calm.move rfl rfl) ?_
                obtain ⟨t16, et16, hq11⟩ := of_bind hq11
                refine AO.callG 16 true 48 [(eI64 p0)] (eStr t16) 50 rfl (by decide) ok18 rfl rfl (congrArg (fun b => some (AV.fl (Value.bool b))) hc15) rfl rfl ⟨rfl, rfl, trivial⟩ (spot_Digits_spec et16) ?_
                refine AO.calmG 16 true 48 rfl rfl (congrArg (fun b => some (AV.fl (Value.bool b))) hc15) 51 rfl (by decide) (eI64 p0) (Calm.move rfl rfl) ?_
                obtain ⟨t17, et17, hq11⟩ := of_bind hq11
                refine AO.callG 16 true 48 [(eI64 p0)] (eStr t17) 52 rfl (by decide) ok19 rfl rfl (congrArg (fun b => some (AV.fl (Value.bool b))) hc15) rfl rfl ⟨rfl, rfl, trivial⟩ (bosketref13_Digits_spec et17) ?_
                refine AO.calmG 16 true 48 rfl rfl (congrArg (fun b => some (AV.fl (Value.bool b))) hc15) 53 rfl (by decide) (eBool (decide (t16 = t17))) (Calm.str rfl rfl rfl rfl) ?_
                refine AO.calm rfl 54 rfl (by decide) (eBool (decide (t16 = t17))) (Calm.pickT rfl (congrArg (fun b => some (AV.fl (Value.bool b))) hc15) rfl) ?_
                refine AO.calm rfl 55 rfl (by decide) (eBool (decide (t16 = t17))) (Calm.move rfl rfl) ?_
                by_cases hc18 : t16 = t17
                · have hq11 := (if_pos hc18).symm.trans hq11
                  refine AO.calmG 23 true 55 rfl rfl (congrArg (fun b => some (AV.fl (Value.bool b))) (decide_eq_true hc18)) 56 rfl (by decide) (eI64 p0) (Calm.move rfl rfl) ?_
                  refine AO.calmG 23 true 55 rfl rfl (congrArg (fun b => some (AV.fl (Value.bool b))) (decide_eq_true hc18)) 57 rfl (by decide) (eI64 t7.1) (Calm.move rfl rfl) ?_
                  refine AO.calmG 23 true 55 rfl rfl (congrArg (fun b => some (AV.fl (Value.bool b))) (decide_eq_true hc18)) 58 rfl (by decide) (.st [(1, (eI64 p0)), (1, (eI64 t7.1))]) (Calm.build (qs := [(0, (eI64 p0)), (1, (eI64 t7.1))]) rfl ⟨rfl, rfl, rfl, rfl, rfl, rfl, trivial⟩ Try.underlying23 rfl zr23 lay23 (.cons rfl rfl rfl rfl (Put.cast (Put.fld0 Put.here) rfl) (.cons rfl rfl rfl rfl (Put.cast (Put.fldS (Put.fld0 Put.here)) rfl) .nil)) rfl) ?_
                  obtain ⟨t19, et19, hq11⟩ := of_bind hq11
                  refine AO.callG 23 true 55 [(e23 (S23.mk p0 t7.1))] (eStr t19) 59 rfl (by decide) ok20 rfl rfl (congrArg (fun b => some (AV.fl (Value.bool b))) (decide_eq_true hc18)) rfl rfl ⟨rfl, rfl, trivial⟩ (spot_Show_spec et19) ?_
                  refine AO.calmG 23 true 55 rfl rfl (congrArg (fun b => some (AV.fl (Value.bool b))) (decide_eq_true hc18)) 60 rfl (by decide) (eI64 p0) (Calm.move rfl rfl) ?_
                  obtain ⟨t20, et20, hq11⟩ := of_bind hq11
                  refine AO.callG 23 true 55 [(eI64 p0)] (eStr t20) 61 rfl (by decide) ok19 rfl rfl (congrArg (fun b => some (AV.fl (Value.bool b))) (decide_eq_true hc18)) rfl rfl ⟨rfl, rfl, trivial⟩ (bosketref13_Digits_spec et20) ?_
                  obtain ⟨hg21, hq11⟩ := of_guard hq11
                  refine AO.calmG 23 true 55 rfl rfl (congrArg (fun b => some (AV.fl (Value.bool b))) (decide_eq_true hc18)) 62 rfl (by decide) (eStr (t20 ++ (ByteArray.mk #[58]))) (Calm.cat rfl rfl rfl hg21) ?_
                  refine AO.calmG 23 true 55 rfl rfl (congrArg (fun b => some (AV.fl (Value.bool b))) (decide_eq_true hc18)) 63 rfl (by decide) (eI64 t7.1) (Calm.move rfl rfl) ?_
                  obtain ⟨t22, et22, hq11⟩ := of_bind hq11
                  refine AO.callG 23 true 55 [(eI64 t7.1)] (eStr t22) 64 rfl (by decide) ok19 rfl rfl (congrArg (fun b => some (AV.fl (Value.bool b))) (decide_eq_true hc18)) rfl rfl ⟨rfl, rfl, trivial⟩ (bosketref13_Digits_spec et22) ?_
                  obtain ⟨hg23, hq11⟩ := of_guard hq11
                  refine AO.calmG 23 true 55 rfl rfl (congrArg (fun b => some (AV.fl (Value.bool b))) (decide_eq_true hc18)) 65 rfl (by decide) (eStr ((t20 ++ (ByteArray.mk #[58])) ++ t22)) (Calm.cat rfl rfl rfl hg23) ?_
                  refine AO.calmG 23 true 55 rfl rfl (congrArg (fun b => some (AV.fl (Value.bool b))) (decide_eq_true hc18)) 66 rfl (by decide) (eBool (decide (t19 = ((t20 ++ (ByteArray.mk #[58])) ++ t22)))) (Calm.str rfl rfl rfl rfl) ?_
                  refine AO.calm rfl 67 rfl (by decide) (eBool (decide (t19 = ((t20 ++ (ByteArray.mk #[58])) ++ t22)))) (Calm.pickT rfl (congrArg (fun b => some (AV.fl (Value.bool b))) (decide_eq_true hc18)) rfl) ?_
                  refine AO.calm rfl 4 rfl (by decide) (eBool (decide (t19 = ((t20 ++ (ByteArray.mk #[58])) ++ t22)))) (Calm.assign rfl rfl) ?_
                  cases hq11
                  refine AO.nilE ⟨rfl, rfl⟩ ?_ ?_
                  · exact ⟨rfl, trivial⟩
                  · exact (Sub.refl _)
                · have hq11 := (if_neg hc18).symm.trans hq11
                  refine AO.skipG 23 false 55 rfl rfl (congrArg (fun b => some (AV.fl (Value.bool b))) (decide_eq_false hc18)) 56 rfl (by decide) ?_
                  refine AO.skipG 23 false 55 rfl rfl (congrArg (fun b => some (AV.fl (Value.bool b))) (decide_eq_false hc18)) 57 rfl (by decide) ?_
                  refine AO.skipG 23 false 55 rfl rfl (congrArg (fun b => some (AV.fl (Value.bool b))) (decide_eq_false hc18)) 58 rfl (by decide) ?_
                  refine AO.skipG 23 false 55 rfl rfl (congrArg (fun b => some (AV.fl (Value.bool b))) (decide_eq_false hc18)) 59 rfl (by decide) ?_
                  refine AO.skipG 23 false 55 rfl rfl (congrArg (fun b => some (AV.fl (Value.bool b))) (decide_eq_false hc18)) 60 rfl (by decide) ?_
                  refine AO.skipG 23 false 55 rfl rfl (congrArg (fun b => some (AV.fl (Value.bool b))) (decide_eq_false hc18)) 61 rfl (by decide) ?_
                  refine AO.skipG 23 false 55 rfl rfl (congrArg (fun b => some (AV.fl (Value.bool b))) (decide_eq_false hc18)) 62 rfl (by decide) ?_
                  refine AO.skipG 23 false 55 rfl rfl (congrArg (fun b => some (AV.fl (Value.bool b))) (decide_eq_false hc18)) 63 rfl (by decide) ?_
                  refine AO.skipG 23 false 55 rfl rfl (congrArg (fun b => some (AV.fl (Value.bool b))) (decide_eq_false hc18)) 64 rfl (by decide) ?_
                  refine AO.skipG 23 false 55 rfl rfl (congrArg (fun b => some (AV.fl (Value.bool b))) (decide_eq_false hc18)) 65 rfl (by decide) ?_
                  refine AO.skipG 23 false 55 rfl rfl (congrArg (fun b => some (AV.fl (Value.bool b))) (decide_eq_false hc18)) 66 rfl (by decide) ?_
                  refine AO.calm rfl 67 rfl (by decide) (eBool false) (Calm.pickF rfl (congrArg (fun b => some (AV.fl (Value.bool b))) (decide_eq_false hc18)) rfl) ?_
                  refine AO.calm rfl 4 rfl (by decide) (eBool false) (Calm.assign rfl rfl) ?_
                  cases hq11
                  refine AO.nilE ⟨rfl, rfl⟩ ?_ ?_
                  · exact ⟨rfl, trivial⟩
                  · exact (Sub.refl _)
              · have hq11 := (if_neg hc15).symm.trans hq11
                refine AO.skipG 16 false 48 rfl rfl (congrArg (fun b => some (AV.fl (Value.bool b))) (eq_false_of_ne_true hc15)) 49 rfl (by decide) ?_
                refine AO.skipG 16 false 48 rfl rfl (congrArg (fun b => some (AV.fl (Value.bool b))) (eq_false_of_ne_true hc15)) 50 rfl (by decide) ?_
                refine AO.skipG 16 false 48 rfl rfl (congrArg (fun b => some (AV.fl (Value.bool b))) (eq_false_of_ne_true hc15)) 51 rfl (by decide) ?_
                refine AO.skipG 16 false 48 rfl rfl (congrArg (fun b => some (AV.fl (Value.bool b))) (eq_false_of_ne_true hc15)) 52 rfl (by decide) ?_
                refine AO.skipG 16 false 48 rfl rfl (congrArg (fun b => some (AV.fl (Value.bool b))) (eq_false_of_ne_true hc15)) 53 rfl (by decide) ?_
                refine AO.calm rfl 54 rfl (by decide) (eBool false) (Calm.pickF rfl (congrArg (fun b => some (AV.fl (Value.bool b))) (eq_false_of_ne_true hc15)) rfl) ?_
                refine AO.calm rfl 55 rfl (by decide) (eBool false) (Calm.move rfl rfl) ?_
                refine AO.skipG 23 false 55 rfl rfl rfl 56 rfl (by decide) ?_
                refine AO.skipG 23 false 55 rfl rfl rfl 57 rfl (by decide) ?_
                refine AO.skipG 23 false 55 rfl rfl rfl 58 rfl (by decide) ?_
                refine AO.skipG 23 false 55 rfl rfl rfl 59 rfl (by decide) ?_
                refine AO.skipG 23 false 55 rfl rfl rfl 60 rfl (by decide) ?_
                refine AO.skipG 23 false 55 rfl rfl rfl 61 rfl (by decide) ?_
                refine AO.skipG 23 false 55 rfl rfl rfl 62 rfl (by decide) ?_
                refine AO.skipG 23 false 55 rfl rfl rfl 63 rfl (by decide) ?_
                refine AO.skipG 23 false 55 rfl rfl rfl 64 rfl (by decide) ?_
                refine AO.skipG 23 false 55 rfl rfl rfl 65 rfl (by decide) ?_
                refine AO.skipG 23 false 55 rfl rfl rfl 66 rfl (by decide) ?_
                refine AO.calm rfl 67 rfl (by decide) (eBool false) (Calm.pickF rfl rfl rfl) ?_
                refine AO.calm rfl 4 rfl (by decide) (eBool false) (Calm.assign rfl rfl) ?_
                cases hq11
                refine AO.nilE ⟨rfl, rfl⟩ ?_ ?_
                · exact ⟨rfl, trivial⟩
                · exact (Sub.refl _)
            · have hq11 := (if_neg hc14).symm.trans hq11
              refine AO.skipG 13 false 45 rfl rfl (congrArg (fun b => some (AV.fl (Value.bool b))) (decide_eq_false hc14)) 46 rfl (by decide) ?_
              refine AO.calm rfl 47 rfl (by decide) (eBool false) (Calm.pickF rfl (congrArg (fun b => some (AV.fl (Value.bool b))) (decide_eq_false hc14)) rfl) ?_
              refine AO.calm rfl 48 rfl (by decide) (eBool false) (Calm.move rfl rfl) ?_
              refine AO.skipG 16 false 48 rfl rfl rfl 49 rfl (by decide) ?_
              refine AO.skipG 16 false 48 rfl rfl rfl 50 rfl (by decide) ?_
              refine AO.skipG 16 false 48 rfl rfl rfl 51 rfl (by decide) ?_
              refine AO.skipG 16 false 48 rfl rfl rfl 52 rfl (by decide) ?_
              refine AO.skipG 16 false 48 rfl rfl rfl 53 rfl (by decide) ?_
              refine AO.calm rfl 54 rfl (by decide) (eBool false) (Calm.pickF rfl rfl rfl) ?_
              refine AO.calm rfl 55 rfl (by decide) (eBool false) (Calm.move rfl rfl) ?_
              refine AO.skipG 23 false 55 rfl rfl rfl 56 rfl (by decide) ?_
              refine AO.skipG 23 false 55 rfl rfl rfl 57 rfl (by decide) ?_
              refine AO.skipG 23 false 55 rfl rfl rfl 58 rfl (by decide) ?_
              refine AO.skipG 23 false 55 rfl rfl rfl 59 rfl (by decide) ?_
              refine AO.skipG 23 false 55 rfl rfl rfl 60 rfl (by decide) ?_
              refine AO.skipG 23 false 55 rfl rfl rfl 61 rfl (by decide) ?_
              refine AO.skipG 23 false 55 rfl rfl rfl 62 rfl (by decide) ?_
              refine AO.skipG 23 false 55 rfl rfl rfl 63 rfl (by decide) ?_
              refine AO.skipG 23 false 55 rfl rfl rfl 64 rfl (by decide) ?_
              refine AO.skipG 23 false 55 rfl rfl rfl 65 rfl (by decide) ?_
              refine AO.skipG 23 false 55 rfl rfl rfl 66 rfl (by decide) ?_
              refine AO.calm rfl 67 rfl (by decide) (eBool false) (Calm.pickF rfl rfl rfl) ?_
              refine AO.calm rfl 4 rfl (by decide) (eBool false) (Calm.assign rfl rfl) ?_
              cases hq11
              refine AO.nilE ⟨rfl, rfl⟩ ?_ ?_
              · exact ⟨rfl, trivial⟩
              · exact (Sub.refl _)
          · have hq11 := (if_neg hc13).symm.trans hq11
            refine AO.skipG 8 false 40 rfl rfl (congrArg (fun b => some (AV.fl (Value.bool b))) (eq_false_of_ne_true hc13)) 41 rfl (by decide) ?_
            refine AO.skipG 8 false 40 rfl rfl (congrArg (fun b => some (AV.fl (Value.bool b))) (eq_false_of_ne_true hc13)) 42 rfl (by decide) ?_
            refine AO.skipG 8 false 40 rfl rfl (congrArg (fun b => some (AV.fl (Value.bool b))) (eq_false_of_ne_true hc13)) 43 rfl (by decide) ?_
            refine AO.calm rfl 44 rfl (by decide) (eBool false) (Calm.pickF rfl (congrArg (fun b => some (AV.fl (Value.bool b))) (eq_false_of_ne_true hc13)) rfl) ?_
            refine AO.calm rfl 45 rfl (by decide) (eBool false) (Calm.move rfl rfl) ?_
            refine AO.skipG 13 false 45 rfl rfl rfl 46 rfl (by decide) ?_
            refine AO.calm rfl 47 rfl (by decide) (eBool false) (Calm.pickF rfl rfl rfl) ?_
            refine AO.calm rfl 48 rfl (by decide) (eBool false) (Calm.move rfl rfl) ?_
            refine AO.skipG 16 false 48 rfl rfl rfl 49 rfl (by decide) ?_
            refine AO.skipG 16 false 48 rfl rfl rfl 50 rfl (by decide) ?_
            refine AO.skipG 16 false 48 rfl rfl rfl 51 rfl (by decide) ?_
            refine AO.skipG 16 false 48 rfl rfl rfl 52 rfl (by decide) ?_
            refine AO.skipG 16 false 48 rfl rfl rfl 53 rfl (by decide) ?_
            refine AO.calm rfl 54 rfl (by decide) (eBool false) (Calm.pickF rfl rfl rfl) ?_
            refine AO.calm rfl 55 rfl (by decide) (eBool false) (Calm.move rfl rfl) ?_
            refine AO.skipG 23 false 55 rfl rfl rfl 56 rfl (by decide) ?_
            refine AO.skipG 23 false 55 rfl rfl rfl 57 rfl (by decide) ?_
            refine AO.skipG 23 false 55 rfl rfl rfl 58 rfl (by decide) ?_
            refine AO.skipG 23 false 55 rfl rfl rfl 59 rfl (by decide) ?_
            refine AO.skipG 23 false 55 rfl rfl rfl 60 rfl (by decide) ?_
            refine AO.skipG 23 false 55 rfl rfl rfl 61 rfl (by decide) ?_
            refine AO.skipG 23 false 55 rfl rfl rfl 62 rfl (by decide) ?_
            refine AO.skipG 23 false 55 rfl rfl rfl 63 rfl (by decide) ?_
            refine AO.skipG 23 false 55 rfl rfl rfl 64 rfl (by decide) ?_
            refine AO.skipG 23 false 55 rfl rfl rfl 65 rfl (by decide) ?_
            refine AO.skipG 23 false 55 rfl rfl rfl 66 rfl (by decide) ?_
            refine AO.calm rfl 67 rfl (by decide) (eBool false) (Calm.pickF rfl rfl rfl) ?_
            refine AO.calm rfl 4 rfl (by decide) (eBool false) (Calm.assign rfl rfl) ?_
            cases hq11
            refine AO.nilE ⟨rfl, rfl⟩ ?_ ?_
            · exact ⟨rfl, trivial⟩
            · exact (Sub.refl _)
        · have hq11 := (if_neg hc12).symm.trans hq11
          refine AO.skipG 3 false 35 rfl rfl (congrArg (fun b => some (AV.fl (Value.bool b))) (decide_eq_false hc12)) 36 rfl (by decide) ?_
          refine AO.skipG 3 false 35 rfl rfl (congrArg (fun b => some (AV.fl (Value.bool b))) (decide_eq_false hc12)) 37 rfl (by decide) ?_
          refine AO.skipG 3 false 35 rfl rfl (congrArg (fun b => some (AV.fl (Value.bool b))) (decide_eq_false hc12)) 38 rfl (by decide) ?_
          refine AO.calm rfl 39 rfl (by decide) (eBool false) (Calm.pickF rfl (congrArg (fun b => some (AV.fl (Value.bool b))) (decide_eq_false hc12)) rfl) ?_
          refine AO.calm rfl 40 rfl (by decide) (eBool false) (Calm.move rfl rfl) ?_
          refine AO.skipG 8 false 40 rfl rfl rfl 41 rfl (by decide) ?_
          refine AO.skipG 8 false 40 rfl rfl rfl 42 rfl (by decide) ?_
          refine AO.skipG 8 false 40 rfl rfl rfl 43 rfl (by decide) ?_
          refine AO.calm rfl 44 rfl (by decide) (eBool false) (Calm.pickF rfl rfl rfl) ?_
          refine AO.calm rfl 45 rfl (by decide) (eBool false) (Calm.move rfl rfl) ?_
          refine AO.skipG 13 false 45 rfl rfl rfl 46 rfl (by decide) ?_
          refine AO.calm rfl 47 rfl (by decide) (eBool false) (Calm.pickF rfl rfl rfl) ?_
          refine AO.calm rfl 48 rfl (by decide) (eBool false) (Calm.move rfl rfl) ?_
          refine AO.skipG 16 false 48 rfl rfl rfl 49 rfl (by decide) ?_
          refine AO.skipG 16 false 48 rfl rfl rfl 50 rfl (by decide) ?_
          refine AO.skipG 16 false 48 rfl rfl rfl 51 rfl (by decide) ?_
          refine AO.skipG 16 false 48 rfl rfl rfl 52 rfl (by decide) ?_
          refine AO.skipG 16 false 48 rfl rfl rfl 53 rfl (by decide) ?_
          refine AO.calm rfl 54 rfl (by decide) (eBool false) (Calm.pickF rfl rfl rfl) ?_
          refine AO.calm rfl 55 rfl (by decide) (eBool false) (Calm.move rfl rfl) ?_
          refine AO.skipG 23 false 55 rfl rfl rfl 56 rfl (by decide) ?_
          refine AO.skipG 23 false 55 rfl rfl rfl 57 rfl (by decide) ?_
          refine AO.skipG 23 false 55 rfl rfl rfl 58 rfl (by decide) ?_
          refine AO.skipG 23 false 55 rfl rfl rfl 59 rfl (by decide) ?_
          refine AO.skipG 23 false 55 rfl rfl rfl 60 rfl (by decide) ?_
          refine AO.skipG 23 false 55 rfl rfl rfl 61 rfl (by decide) ?_
          refine AO.skipG 23 false 55 rfl rfl rfl 62 rfl (by decide) ?_
          refine AO.skipG 23 false 55 rfl rfl rfl 63 rfl (by decide) ?_
          refine AO.skipG 23 false 55 rfl rfl rfl 64 rfl (by decide) ?_
          refine AO.skipG 23 false 55 rfl rfl rfl 65 rfl (by decide) ?_
          refine AO.skipG 23 false 55 rfl rfl rfl 66 rfl (by decide) ?_
          refine AO.calm rfl 67 rfl (by decide) (eBool false) (Calm.pickF rfl rfl rfl) ?_
          refine AO.calm rfl 4 rfl (by decide) (eBool false) (Calm.assign rfl rfl) ?_
          cases hq11
          refine AO.nilE ⟨rfl, rfl⟩ ?_ ?_
          · exact ⟨rfl, trivial⟩
          · exact (Sub.refl _)
      · refine AW.ret (ρ' := [(4, (eBool b10))]) (H' := []) ⟨rfl, trivial⟩ (Sub.refl _) ?_
        have hr := Option.some.inj h
        subst hr
        exact ⟨[(eBool b10)], ⟨rfl, rfl, trivial⟩, rfl⟩
end Go.Avl.T2
/- bosket/bosketref13.Of; printed by avmain.py. -/
namespace Go.Avl.T2
open Go Go.RowKit Go.Proofs Go.Avl
set_option linter.unusedVariables false
set_option maxRecDepth 100000
set_option maxHeartbeats 4000000
attribute [local irreducible] AW AO AQ Spec SpecH Calm

def bosketref13_Of_c0 (k : Nat) (x3 : Int) (x4 : Int) : Option (Int × Int) :=
  some (x3, x4)
def bosketref13_Of_c1 (k : Nat) (rec8 : (Int → Int → Int → Option (Int × Int))) (x7 : Int) (x14 : Int) (x15 : Int) : Option (Int × Int) :=
  rec8 x14 x15 (w64 (x7 + (1 : Int)))
def bosketref13_Of_l2 (k : Nat) (p0 : ByteArray) (p1 : Int) : Nat → Int → Int → Int → Option (Int × Int)
  | 0, _, _, _ => none
  | j + 1, x5, x6, x7 =>
    Option.bind (α := Bool) (if x7 < p1 then some (decide (x7 < (p0.size : Int)))
    else some (false)) fun b10 =>
    if b10 = true then if 0 ≤ x7 ∧ x7 < (p0.size : Int) then if (byteAt p0 x7) = (10 : Int) then bosketref13_Of_c1 k (bosketref13_Of_l2 k p0 p1 j) x7 (w64 (x5 + (1 : Int))) (1 : Int)
    else bosketref13_Of_c1 k (bosketref13_Of_l2 k p0 p1 j) x7 x5 (w64 (x6 + (1 : Int)))
    else none
    else bosketref13_Of_c0 k x5 x6
def bosketref13_Of (k : Nat) (p0 : ByteArray) (p1 : Int) : Option (Int × Int) :=
  bosketref13_Of_l2 k p0 p1 k (1 : Int) (1 : Int) (0 : Int)
theorem bosketref13_Of_spec {k : Nat} {p0 : ByteArray} {p1 : Int} {r : (Int × Int)} (h : bosketref13_Of k p0 p1 = some r) : Spec Try.prog 13 [(eStr p0), (eI64 p1)] (.tup [(eI64 r.1), (eI64 r.2)]) := by
  rw [bosketref13_Of.eq_1] at h
  refine Spec.intro (res := [.tmp 4, .tmp 5]) Try.func13 rfl rfl rfl (Nat.le_of_ble_eq_true rfl) ?_
  refine AW.seq ?_
  refine AW.reg ?_
  refine AO.calm rfl 4 rfl (by decide) (eI64 (0 : Int)) (Calm.assign rfl rfl) ?_
  refine AO.calm rfl 5 rfl (by decide) (eI64 (0 : Int)) (Calm.assign rfl rfl) ?_
  refine AO.nil (ρ' := [(0, (eStr p0)), (1, (eI64 p1))]) (H' := []) ⟨rfl, rfl, trivial⟩ (Sub.refl _) ?_
  refine AW.seq ?_
  refine AW.reg ?_
  refine AO.calm rfl 6 rfl (by decide) (eI64 (1 : Int)) (Calm.assign rfl rfl) ?_
  refine AO.calm rfl 7 rfl (by decide) (eI64 (1 : Int)) (Calm.assign rfl rfl) ?_
  refine AO.nil (ρ' := [(0, (eStr p0)), (1, (eI64 p1)), (6, (eI64 (1 : Int))), (7, (eI64 (1 : Int)))]) (H' := []) ⟨rfl, rfl, rfl, rfl, trivial⟩ (Sub.refl _) ?_
  refine AW.seq_mid (fun ρ H => ∃ (x3 : Int) (x4 : Int), ρ = [(6, (eI64 x3)), (7, (eI64 x4))] ∧ H = [] ∧ bosketref13_Of_c0 k x3 x4 = some r) ?_ ?_
  · refine AW.seq ?_
    refine AW.reg ?_
    refine AO.calm rfl 8 rfl (by decide) (eI64 (0 : Int)) (Calm.assign rfl rfl) ?_
    refine AO.nil (ρ' := [(0, (eStr p0)), (1, (eI64 p1)), (6, (eI64 (1 : Int))), (7, (eI64 (1 : Int))), (8, (eI64 (0 : Int)))]) (H' := []) ⟨rfl, rfl, rfl, rfl, rfl, trivial⟩ (Sub.refl _) ?_
    refine AW.block ?_
    refine AW.weak (ρ' := [(0, (eStr p0)), (1, (eI64 p1)), (6, (eI64 (1 : Int))), (7, (eI64 (1 : Int))), (8, (eI64 (0 : Int)))]) (H' := []) ⟨rfl, rfl, rfl, rfl, rfl, trivial⟩ (Sub.refl _) ?_
    refine AW.loop (fun kq ρ H => ∃ (x5 : Int) (x6 : Int) (x7 : Int), ρ = [(0, (eStr p0)), (1, (eI64 p1)), (6, (eI64 x5)), (7, (eI64 x6)), (8, (eI64 x7))] ∧ H = [] ∧ bosketref13_Of_l2 k p0 p1 kq x5 x6 x7 = some r) k ⟨(1 : Int), (1 : Int), (0 : Int), rfl, rfl, h⟩ ?_
    rintro kq9 _ _ ⟨x5, x6, x7, rfl, rfl, h⟩
    cases kq9 with
    | zero => rw [bosketref13_Of_l2.eq_1] at h; cases h
    | succ kq9 =>
    rw [bosketref13_Of_l2.eq_2] at h
    generalize hrec8 : bosketref13_Of_l2 k p0 p1 kq9 = rec8 at h
    refine AW.seq ?_
    refine AW.seq ?_
    obtain ⟨b10, hq11, h⟩ := of_bind h
    refine AW.regM [(0, (eStr p0)), (1, (eI64 p1)), (6, (eI64 x5)), (7, (eI64 x6)), (8, (eI64 x7)), (17, (eBool b10))] [] ?_ ?_
    · refine AO.calm rfl 9 rfl (by decide) (eI64 x7) (Calm.move rfl rfl) ?_
      refine AO.calm rfl 10 rfl (by decide) (eI64 p1) (Calm.move rfl rfl) ?_
      refine AO.calm rfl 11 rfl (by decide) (eBool (decide (x7 < p1))) (Calm.int rfl rfl rfl rfl) ?_
      refine AO.calm rfl 12 rfl (by decide) (eBool (decide (x7 < p1))) (Calm.move rfl rfl) ?_
      by_cases hc12 : x7 < p1
      · have hq11 := (if_pos hc12).symm.trans hq11
        refine AO.calmG 3 true 12 rfl rfl (congrArg (fun b => some (AV.fl (Value.bool b))) (decide_eq_true hc12)) 13 rfl (by decide) (eI64 x7) (Calm.move rfl rfl) ?_
        refine AO.calmG 3 true 12 rfl rfl (congrArg (fun b => some (AV.fl (Value.bool b))) (decide_eq_true hc12)) 14 rfl (by decide) (eStr p0) (Calm.move rfl rfl) ?_
        refine AO.calmG 3 true 12 rfl rfl (congrArg (fun b => some (AV.fl (Value.bool b))) (decide_eq_true hc12)) 15 rfl (by decide) (eI64 (p0.size : Int)) (Calm.lenStr rfl rfl Try.underlying9) ?_
        refine AO.calmG 3 true 12 rfl rfl (congrArg (fun b => some (AV.fl (Value.bool b))) (decide_eq_true hc12)) 16 rfl (by decide) (eBool (decide (x7 < (p0.size : Int)))) (Calm.int rfl rfl rfl rfl) ?_
        refine AO.calm rfl 17 rfl (by decide) (eBool (decide (x7 < (p0.size : Int)))) (Calm.pickT rfl (congrArg (fun b => some (AV.fl (Value.bool b))) (decide_eq_true hc12)) rfl) ?_
        cases hq11
        refine AO.nilE ⟨rfl, rfl⟩ ?_ ?_
        · exact ⟨rfl, rfl, rfl, rfl, rfl, rfl, trivial⟩
        · exact (Sub.refl _)
      · have hq11 := (if_neg hc12).symm.trans hq11
        refine AO.skipG 3 false 12 rfl rfl (congrArg (fun b => some (AV.fl (Value.bool b))) (decide_eq_false hc12)) 13 rfl (by decide) ?_
        refine AO.skipG 3 false 12 rfl rfl (congrArg (fun b => some (AV.fl (Value.bool b))) (decide_eq_false hc12)) 14 rfl (by decide) ?_
        refine AO.skipG 3 false 12 rfl rfl (congrArg (fun b => some (AV.fl (Value.bool b))) (decide_eq_false hc12)) 15 rfl (by decide) ?_
        refine AO.skipG 3 false 12 rfl rfl (congrArg (fun b => some (AV.fl (Value.bool b))) (decide_eq_false hc12)) 16 rfl (by decide) ?_
        refine AO.calm rfl 17 rfl (by decide) (eBool false) (Calm.pickF rfl (congrArg (fun b => some (AV.fl (Value.bool b))) (decide_eq_false hc12)) rfl) ?_
        cases hq11
        refine AO.nilE ⟨rfl, rfl⟩ ?_ ?_
        · exact ⟨rfl, rfl, rfl, rfl, rfl, rfl, trivial⟩
        · exact (Sub.refl _)
    · by_cases hc13 : b10 = true
      · have h := (if_pos hc13).symm.trans h
        refine AW.condT' b10 rfl hc13 ?_
        refine AW.skip (ρ' := [(0, (eStr p0)), (1, (eI64 p1)), (6, (eI64 x5)), (7, (eI64 x6)), (8, (eI64 x7))]) (H' := []) ⟨rfl, rfl, rfl, rfl, rfl, trivial⟩ (Sub.refl _) ?_
        refine AW.seq_mid (fun ρ H => ∃ (x14 : Int) (x15 : Int), ρ = [(0, (eStr p0)), (1, (eI64 p1)), (6, (eI64 x14)), (7, (eI64 x15)), (8, (eI64 x7))] ∧ H = [] ∧ bosketref13_Of_c1 k rec8 x7 x14 x15 = some r) ?_ ?_
        · refine AW.block ?_
          refine AW.seq ?_
          refine AW.reg ?_
          refine AO.calm rfl 20 rfl (by decide) (eI64 x6) (Calm.move rfl rfl) ?_
          refine AO.calm rfl 21 rfl (by decide) (eI64 (w64 (x6 + (1 : Int)))) (Calm.int rfl rfl rfl rfl) ?_
          refine AO.calm rfl 7 rfl (by decide) (eI64 (w64 (x6 + (1 : Int)))) (Calm.assign rfl rfl) ?_
          refine AO.nil (ρ' := [(0, (eStr p0)), (1, (eI64 p1)), (6, (eI64 x5)), (7, (eI64 (w64 (x6 + (1 : Int))))), (8, (eI64 x7))]) (H' := []) ⟨rfl, rfl, rfl, rfl, rfl, trivial⟩ (Sub.refl _) ?_
          refine AW.seq ?_
          refine AW.reg ?_
          refine AO.calm rfl 22 rfl (by decide) (eStr p0) (Calm.move rfl rfl) ?_
          refine AO.calm rfl 23 rfl (by decide) (eI64 x7) (Calm.move rfl rfl) ?_
          obtain ⟨hg16, h⟩ := of_guard h
          refine AO.calm rfl 24 rfl (by decide) (eU8 (byteAt p0 x7)) (Calm.idxS rfl rfl rfl hg16 Try.underlying9) ?_
          refine AO.calm rfl 25 rfl (by decide) (eBool (decide ((byteAt p0 x7) = (10 : Int)))) (Calm.int rfl rfl rfl rfl) ?_
          refine AO.nil (ρ' := [(0, (eStr p0)), (1, (eI64 p1)), (6, (eI64 x5)), (7, (eI64 (w64 (x6 + (1 : Int))))), (8, (eI64 x7)), (25, (eBool (decide ((byteAt p0 x7) = (10 : Int)))))]) (H' := []) ⟨rfl, rfl, rfl, rfl, rfl, rfl, trivial⟩ (Sub.refl _) ?_
          by_cases hc17 : (byteAt p0 x7) = (10 : Int)
          · have h := (if_pos hc17).symm.trans h
            refine AW.condP ((byteAt p0 x7) = (10 : Int)) rfl hc17 ?_
            refine AW.seq ?_
            refine AW.reg ?_
            refine AO.calm rfl 26 rfl (by decide) (eI64 x5) (Calm.move rfl rfl) ?_
            refine AO.calm rfl 27 rfl (by decide) (eI64 (w64 (x5 + (1 : Int)))) (Calm.int rfl rfl rfl rfl) ?_
            refine AO.calm rfl 6 rfl (by decide) (eI64 (w64 (x5 + (1 : Int)))) (Calm.assign rfl rfl) ?_
            refine AO.nil (ρ' := [(0, (eStr p0)), (1, (eI64 p1)), (6, (eI64 (w64 (x5 + (1 : Int))))), (8, (eI64 x7))]) (H' := []) ⟨rfl, rfl, rfl, rfl, trivial⟩ (Sub.refl _) ?_
            refine AW.reg ?_
            refine AO.calm rfl 7 rfl (by decide) (eI64 (1 : Int)) (Calm.assign rfl rfl) ?_
            refine AO.nil (ρ' := [(0, (eStr p0)), (1, (eI64 p1)), (6, (eI64 (w64 (x5 + (1 : Int))))), (7, (eI64 (1 : Int))), (8, (eI64 x7))]) (H' := []) ⟨rfl, rfl, rfl, rfl, rfl, trivial⟩ (Sub.refl _) ?_
            exact ⟨(w64 (x5 + (1 : Int))), (1 : Int), rfl, rfl, h⟩
          · have h := (if_neg hc17).symm.trans h
            refine AW.condN ((byteAt p0 x7) = (10 : Int)) rfl hc17 ?_
            refine AW.skip (ρ' := [(0, (eStr p0)), (1, (eI64 p1)), (6, (eI64 x5)), (7, (eI64 (w64 (x6 + (1 : Int))))), (8, (eI64 x7))]) (H' := []) ⟨rfl, rfl, rfl, rfl, rfl, trivial⟩ (Sub.refl _) ?_
            exact ⟨x5, (w64 (x6 + (1 : Int))), rfl, rfl, h⟩
        · rintro _ _ ⟨x14, x15, rfl, rfl, h⟩
          rw [bosketref13_Of_c1.eq_1] at h
          refine AW.reg ?_
          refine AO.calm rfl 18 rfl (by decide) (eI64 x7) (Calm.move rfl rfl) ?_
          refine AO.calm rfl 19 rfl (by decide) (eI64 (w64 (x7 + (1 : Int)))) (Calm.int rfl rfl rfl rfl) ?_
          refine AO.calm rfl 8 rfl (by decide) (eI64 (w64 (x7 + (1 : Int)))) (Calm.assign rfl rfl) ?_
          refine AO.nil (ρ' := [(0, (eStr p0)), (1, (eI64 p1)), (6, (eI64 x14)), (7, (eI64 x15)), (8, (eI64 (w64 (x7 + (1 : Int)))))]) (H' := []) ⟨rfl, rfl, rfl, rfl, rfl, trivial⟩ (Sub.refl _) ?_
          exact ⟨kq9, Nat.lt_succ_self _, x14, x15, (w64 (x7 + (1 : Int))), rfl, rfl, by rw [hrec8]; exact h⟩
      · have h := (if_neg hc13).symm.trans h
        refine AW.condF' b10 rfl hc13 ?_
        refine AW.exit (ρ' := [(6, (eI64 x5)), (7, (eI64 x6))]) (H' := []) ⟨rfl, rfl, trivial⟩ (Sub.refl _) ?_
        exact ⟨x5, x6, rfl, rfl, h⟩
  · rintro _ _ ⟨x3, x4, rfl, rfl, h⟩
    rw [bosketref13_Of_c0.eq_1] at h
    refine AW.seq ?_
    refine AW.reg ?_
    refine AO.calm rfl 28 rfl (by decide) (eI64 x3) (Calm.move rfl rfl) ?_
    refine AO.calm rfl 29 rfl (by decide) (eI64 x4) (Calm.move rfl rfl) ?_
    refine AO.calm rfl 4 rfl (by decide) (eI64 x3) (Calm.assign rfl rfl) ?_
    refine AO.calm rfl 5 rfl (by decide) (eI64 x4) (Calm.assign rfl rfl) ?_
    refine AO.nil (ρ' := [(4, (eI64 x3)), (5, (eI64 x4))]) (H' := []) ⟨rfl, rfl, trivial⟩ (Sub.refl _) ?_
    refine AW.ret (ρ' := [(4, (eI64 x3)), (5, (eI64 x4))]) (H' := []) ⟨rfl, rfl, trivial⟩ (Sub.refl _) ?_
    have hr := Option.some.inj h
    subst hr
    exact ⟨[(eI64 x3), (eI64 x4)], ⟨rfl, rfl, rfl, rfl, trivial⟩, rfl⟩
end Go.Avl.T2
/- strings.IndexByte; printed by avmain.py. -/
namespace Go.Avl.T2
open Go Go.RowKit Go.Proofs Go.Avl
set_option linter.unusedVariables false
set_option maxRecDepth 100000
set_option maxHeartbeats 4000000
attribute [local irreducible] AW AO AQ Spec SpecH Calm

def strings_IndexByte (k : Nat) (p0 : ByteArray) (p1 : Int) : Option Int :=
  (internal_stringslite_IndexByte k p0 p1).bind fun t3 =>
  some (t3)
theorem strings_IndexByte_spec {k : Nat} {p0 : ByteArray} {p1 : Int} {r : Int} (h : strings_IndexByte k p0 p1 = some r) : Spec Try.prog 57 [(eStr p0), (eU8 p1)] (eI64 r) := by
  rw [strings_IndexByte.eq_1] at h
  refine Spec.intro (res := [.tmp 4]) Try.func57 rfl rfl rfl (Nat.le_of_ble_eq_true rfl) ?_
  refine AW.seq ?_
  refine AW.reg ?_
  refine AO.calm rfl 4 rfl (by decide) (eI64 (0 : Int)) (Calm.assign rfl rfl) ?_
  refine AO.nil (ρ' := [(0, (eStr p0)), (1, (eU8 p1))]) (H' := []) ⟨rfl, rfl, trivial⟩ (Sub.refl _) ?_
  refine AW.seq ?_
  refine AW.reg ?_
  refine AO.calm rfl 5 rfl (by decide) (eStr p0) (Calm.move rfl rfl) ?_
  refine AO.calm rfl 6 rfl (by decide) (eU8 p1) (Calm.move rfl rfl) ?_
  obtain ⟨t3, et3, h⟩ := of_bind h
  refine AO.callS [(eStr p0), (eU8 p1)] (eI64 t3) 7 rfl (by decide) ok78 rfl rfl rfl ⟨rfl, rfl, rfl, rfl, trivial⟩ (internal_stringslite_IndexByte_spec et3) ?_
  refine AO.calm rfl 4 rfl (by decide) (eI64 t3) (Calm.assign rfl rfl) ?_
  refine AO.nil (ρ' := [(4, (eI64 t3))]) (H' := []) ⟨rfl, trivial⟩ (Sub.refl _) ?_
  refine AW.ret (ρ' := [(4, (eI64 t3))]) (H' := []) ⟨rfl, trivial⟩ (Sub.refl _) ?_
  have hr := Option.some.inj h
  subst hr
  exact ⟨[(eI64 t3)], ⟨rfl, rfl, trivial⟩, rfl⟩
end Go.Avl.T2
/- bosket/spot.At; printed by avmain.py. -/
namespace Go.Avl.T2
open Go Go.RowKit Go.Proofs Go.Avl
set_option linter.unusedVariables false
set_option maxRecDepth 100000
set_option maxHeartbeats 4000000
attribute [local irreducible] AW AO AQ Spec SpecH Calm

def spot_At_c0 (k : Nat) (p1 : S23) (x8 : Int) (x11 : Int) : Option (Int × Int) :=
  if x11 < (w64 (p1.f1 - (1 : Int))) then some ((0 : Int), (1 : Int))
  else some ((w64 ((w64 (x8 + p1.f1)) - (1 : Int))), (0 : Int))
def spot_At_c1 (k : Nat) (p0 : ByteArray) (p1 : S23) (x8 : Int) : Option (Int × Int) :=
  if 0 ≤ x8 ∧ x8 ≤ (p0.size : Int) ∧ (p0.size : Int) ≤ (p0.size : Int) then (strings_IndexByte k (p0.extract x8.toNat (p0.size : Int).toNat) (10 : Int)).bind fun t10 =>
  if t10 < (0 : Int) then spot_At_c0 k p1 x8 (w64 ((p0.size : Int) - x8))
  else spot_At_c0 k p1 x8 t10
  else none
def spot_At_l2 (k : Nat) (p0 : ByteArray) (p1 : S23) : Nat → Int → Int → Option (Int × Int)
  | 0, _, _ => none
  | j + 1, x14, x15 =>
    if x15 < (w64 (p1.f0 - (1 : Int))) then if 0 ≤ x14 ∧ x14 ≤ (p0.size : Int) ∧ (p0.size : Int) ≤ (p0.size : Int) then (strings_IndexByte k (p0.extract x14.toNat (p0.size : Int).toNat) (10 : Int)).bind fun t20 =>
    if t20 < (0 : Int) then some ((0 : Int), (1 : Int))
    else (spot_At_l2 k p0 p1 j) (w64 (x14 + (w64 (t20 + (1 : Int))))) (w64 (x15 + (1 : Int)))
    else none
    else spot_At_c1 k p0 p1 x14
def spot_At (k : Nat) (p0 : ByteArray) (p1 : S23) : Option (Int × Int) :=
  Option.bind (α := Bool) (if p1.f0 < (1 : Int) then some (true)
  else some (decide (p1.f1 < (1 : Int)))) fun b4 =>
  if b4 = true then some ((0 : Int), (1 : Int))
  else spot_At_l2 k p0 p1 k (0 : Int) (0 : Int)
theorem spot_At_spec {k : Nat} {p0 : ByteArray} {p1 : S23} {r : (Int × Int)} (h : spot_At k p0 p1 = some r) : Spec Try.prog 15 [(eStr p0), (e23 p1)] (.tup [(eI64 r.1), (eI64 r.2)]) := by
  rw [spot_At.eq_1] at h
  refine Spec.intro (res := [.tmp 4, .tmp 5]) Try.func15 rfl rfl rfl (Nat.le_of_ble_eq_true rfl) ?_
  refine AW.seq ?_
  refine AW.reg ?_
  refine AO.box rfl 3 rfl (by decide) rfl rfl rfl fun n3 => ?_
  refine AO.calm rfl 4 rfl (by decide) (eI64 (0 : Int)) (Calm.assign rfl rfl) ?_
  refine AO.calm rfl 5 rfl (by decide) (eI64 (0 : Int)) (Calm.assign rfl rfl) ?_
  refine AO.nil (ρ' := [(0, (eStr p0)), (3, (.ptr n3 0))]) (H' := [(n3, .mem (e23 p1))]) ⟨rfl, rfl, trivial⟩ (Sub.refl _) ?_
  refine AW.seq ?_
  refine AW.seq ?_
  obtain ⟨b4, hq5, h⟩ := of_bind h
  refine AW.regM [(0, (eStr p0)), (3, (.ptr n3 0)), (16, (eBool b4))] [(n3, .mem (e23 p1))] ?_ ?_
  · refine AO.calm rfl 9 rfl (by decide) (.ptr n3 0) (Calm.fldPtr rfl rfl Try.underlying23 rfl sz3 _ rfl) ?_
    refine AO.calm rfl 10 rfl (by decide) (eI64 p1.f0) (Calm.load 0 rfl rfl rfl (At.cast (At.fld0 At.here) rfl) ag3 sz3) ?_
    refine AO.calm rfl 11 rfl (by decide) (eBool (decide (p1.f0 < (1 : Int)))) (Calm.int rfl rfl rfl rfl) ?_
    refine AO.calm rfl 12 rfl (by decide) (eBool (decide (p1.f0 < (1 : Int)))) (Calm.move rfl rfl) ?_
    by_cases hc6 : p1.f0 < (1 : Int)
    · have hq5 := (if_pos hc6).symm.trans hq5
      refine AO.skipG 3 true 12 rfl rfl (congrArg (fun b => some (AV.fl (Value.bool b))) (decide_eq_true hc6)) 13 rfl (by decide) ?_
      refine AO.skipG 3 true 12 rfl rfl (congrArg (fun b => some (AV.fl (Value.bool b))) (decide_eq_true hc6)) 14 rfl (by decide) ?_
      refine AO.skipG 3 true 12 rfl rfl (congrArg (fun b => some (AV.fl (Value.bool b))) (decide_eq_true hc6)) 15 rfl (by decide) ?_
      refine AO.calm rfl 16 rfl (by decide) (eBool true) (Calm.pickT rfl (congrArg (fun b => some (AV.fl (Value.bool b))) (decide_eq_true hc6)) rfl) ?_
      cases hq5
      refine AO.nilE ⟨rfl, rfl⟩ ?_ ?_
      · exact ⟨rfl, rfl, rfl, trivial⟩
      · exact (Sub.refl _)
    · have hq5 := (if_neg hc6).symm.trans hq5
      refine AO.calmG 3 false 12 rfl rfl (congrArg (fun b => some (AV.fl (Value.bool b))) (decide_eq_false hc6)) 13 rfl (by decide) (.ptr n3 1) (Calm.fldPtr rfl rfl Try.underlying23 rfl sz3 _ rfl) ?_
      refine AO.calmG 3 false 12 rfl rfl (congrArg (fun b => some (AV.fl (Value.bool b))) (decide_eq_false hc6)) 14 rfl (by decide) (eI64 p1.f1) (Calm.load 0 rfl rfl rfl (At.cast (At.fldS (At.fld0 At.here)) rfl) ag3 sz3) ?_
      refine AO.calmG 3 false 12 rfl rfl (congrArg (fun b => some (AV.fl (Value.bool b))) (decide_eq_false hc6)) 15 rfl (by decide) (eBool (decide (p1.f1 < (1 : Int)))) (Calm.int rfl rfl rfl rfl) ?_
      refine AO.calm rfl 16 rfl (by decide) (eBool (decide (p1.f1 < (1 : Int)))) (Calm.pickF rfl (congrArg (fun b => some (AV.fl (Value.bool b))) (decide_eq_false hc6)) rfl) ?_
      cases hq5
      refine AO.nilE ⟨rfl, rfl⟩ ?_ ?_
      · exact ⟨rfl, rfl, rfl, trivial⟩
      · exact (Sub.refl _)
  · by_cases hc7 : b4 = true
    · have h := (if_pos hc7).symm.trans h
      refine AW.condT' b4 rfl hc7 ?_
      refine AW.seq ?_
      refine AW.reg ?_
      refine AO.calm rfl 4 rfl (by decide) (eI64 (0 : Int)) (Calm.assign rfl rfl) ?_
      refine AO.calm rfl 5 rfl (by decide) (eI64 (1 : Int)) (Calm.assign rfl rfl) ?_
      refine AO.nil (ρ' := [(4, (eI64 (0 : Int))), (5, (eI64 (1 : Int)))]) (H' := []) ⟨rfl, rfl, trivial⟩ (Sub.nil _) ?_
      refine AW.ret (ρ' := [(4, (eI64 (0 : Int))), (5, (eI64 (1 : Int)))]) (H' := []) ⟨rfl, rfl, trivial⟩ (Sub.refl _) ?_
      have hr := Option.some.inj h
      subst hr
      exact ⟨[(eI64 (0 : Int)), (eI64 (1 : Int))], ⟨rfl, rfl, rfl, rfl, trivial⟩, rfl⟩
    · have h := (if_neg hc7).symm.trans h
      refine AW.condF' b4 rfl hc7 ?_
      refine AW.skip (ρ' := [(0, (eStr p0)), (3, (.ptr n3 0))]) (H' := [(n3, .mem (e23 p1))]) ⟨rfl, rfl, trivial⟩ (Sub.refl _) ?_
      refine AW.seq ?_
      refine AW.reg ?_
      refine AO.calm rfl 6 rfl (by decide) (eI64 (0 : Int)) (Calm.assign rfl rfl) ?_
      refine AO.nil (ρ' := [(0, (eStr p0)), (3, (.ptr n3 0)), (6, (eI64 (0 : Int)))]) (H' := [(n3, .mem (e23 p1))]) ⟨rfl, rfl, rfl, trivial⟩ (Sub.refl _) ?_
      refine AW.seq_mid (fun ρ H => ∃ (x8 : Int), ρ = [(0, (eStr p0)), (3, (.ptr n3 0)), (6, (eI64 x8))] ∧ H = [(n3, .mem (e23 p1))] ∧ spot_At_c1 k p0 p1 x8 = some r) ?_ ?_
      · refine AW.seq ?_
        refine AW.reg ?_
        refine AO.calm rfl 17 rfl (by decide) (.ptr n3 0) (Calm.fldPtr rfl rfl Try.underlying23 rfl sz3 _ rfl) ?_
        refine AO.calm rfl 18 rfl (by decide) (eI64 p1.f0) (Calm.load 0 rfl rfl rfl (At.cast (At.fld0 At.here) rfl) ag3 sz3) ?_
        refine AO.calm rfl 19 rfl (by decide) (eI64 (w64 (p1.f0 - (1 : Int)))) (Calm.int rfl rfl rfl rfl) ?_
        refine AO.calm rfl 20 rfl (by decide) (eI64 (0 : Int)) (Calm.move rfl rfl) ?_
        refine AO.nil (ρ' := [(0, (eStr p0)), (3, (.ptr n3 0)), (6, (eI64 (0 : Int))), (19, (eI64 (w64 (p1.f0 - (1 : Int))))), (20, (eI64 (0 : Int)))]) (H' := [(n3, .mem (e23 p1))]) ⟨rfl, rfl, rfl, rfl, rfl, trivial⟩ (Sub.refl _) ?_
        refine AW.block ?_
        refine AW.weak (ρ' := [(0, (eStr p0)), (3, (.ptr n3 0)), (6, (eI64 (0 : Int))), (19, (eI64 (w64 (p1.f0 - (1 : Int))))), (20, (eI64 (0 : Int)))]) (H' := [(n3, .mem (e23 p1))]) ⟨rfl, rfl, rfl, rfl, rfl, trivial⟩ (Sub.refl _) ?_
        refine AW.loop (fun kq ρ H => ∃ (x14 : Int) (x15 : Int), ρ = [(0, (eStr p0)), (3, (.ptr n3 0)), (6, (eI64 x14)), (19, (eI64 (w64 (p1.f0 - (1 : Int))))), (20, (eI64 x15))] ∧ H = [(n3, .mem (e23 p1))] ∧ spot_At_l2 k p0 p1 kq x14 x15 = some r) k ⟨(0 : Int), (0 : Int), rfl, rfl, h⟩ ?_
        rintro kq17 _ _ ⟨x14, x15, rfl, rfl, h⟩
        cases kq17 with
        | zero => rw [spot_At_l2.eq_1] at h; cases h
        | succ kq17 =>
        rw [spot_At_l2.eq_2] at h
        generalize hrec16 : spot_At_l2 k p0 p1 kq17 = rec16 at h
        refine AW.seq ?_
        refine AW.reg ?_
        refine AO.calm rfl 21 rfl (by decide) (eBool (decide (x15 < (w64 (p1.f0 - (1 : Int)))))) (Calm.int rfl rfl rfl rfl) ?_
        refine AO.nil (ρ' := [(0, (eStr p0)), (3, (.ptr n3 0)), (6, (eI64 x14)), (19, (eI64 (w64 (p1.f0 - (1 : Int))))), (20, (eI64 x15)), (21, (eBool (decide (x15 < (w64 (p1.f0 - (1 : Int)))))))]) (H' := [(n3, .mem (e23 p1))]) ⟨rfl, rfl, rfl, rfl, rfl, rfl, trivial⟩ (Sub.refl _) ?_
        refine AW.seq ?_
        by_cases hc18 : x15 < (w64 (p1.f0 - (1 : Int)))
        · have h := (if_pos hc18).symm.trans h
          refine AW.condP (x15 < (w64 (p1.f0 - (1 : Int)))) rfl hc18 ?_
          refine AW.skip (ρ' := [(0, (eStr p0)), (3, (.ptr n3 0)), (6, (eI64 x14)), (19, (eI64 (w64 (p1.f0 - (1 : Int))))), (20, (eI64 x15))]) (H' := [(n3, .mem (e23 p1))]) ⟨rfl, rfl, rfl, rfl, rfl, trivial⟩ (Sub.refl _) ?_
          refine AW.seq ?_
          refine AW.block ?_
          refine AW.seq ?_
          refine AW.reg ?_
          refine AO.calm rfl 22 rfl (by decide) (eStr p0) (Calm.move rfl rfl) ?_
          refine AO.calm rfl 23 rfl (by decide) (eI64 x14) (Calm.move rfl rfl) ?_
          obtain ⟨hg19, h⟩ := of_guard h
          refine AO.calm rfl 24 rfl (by decide) (eStr (p0.extract x14.toNat (p0.size : Int).toNat)) (Calm.sliceS rfl rfl rfl rfl hg19 Try.underlying9) ?_
          obtain ⟨t20, et20, h⟩ := of_bind h
          refine AO.callS [(eStr (p0.extract x14.toNat (p0.size : Int).toNat)), (eU8 (10 : Int))] (eI64 t20) 25 rfl (by decide) ok57 rfl rfl rfl ⟨rfl, rfl, rfl, rfl, trivial⟩ (strings_IndexByte_spec et20) ?_
          refine AO.calm rfl 7 rfl (by decide) (eI64 t20) (Calm.assign rfl rfl) ?_
          refine AO.nil (ρ' := [(0, (eStr p0)), (3, (.ptr n3 0)), (6, (eI64 x14)), (7, (eI64 t20)), (19, (eI64 (w64 (p1.f0 - (1 : Int))))), (20, (eI64 x15))]) (H' := [(n3, .mem (e23 p1))]) ⟨rfl, rfl, rfl, rfl, rfl, rfl, trivial⟩ (Sub.refl _) ?_
          refine AW.seq ?_
          refine AW.seq ?_
          refine AW.reg ?_
          refine AO.calm rfl 26 rfl (by decide) (eI64 t20) (Calm.move rfl rfl) ?_
          refine AO.calm rfl 27 rfl (by decide) (eBool (decide (t20 < (0 : Int)))) (Calm.int rfl rfl rfl rfl) ?_
          refine AO.nil (ρ' := [(0, (eStr p0)), (3, (.ptr n3 0)), (6, (eI64 x14)), (7, (eI64 t20)), (19, (eI64 (w64 (p1.f0 - (1 : Int))))), (20, (eI64 x15)), (27, (eBool (decide (t20 < (0 : Int)))))]) (H' := [(n3, .mem (e23 p1))]) ⟨rfl, rfl, rfl, rfl, rfl, rfl, rfl, trivial⟩ (Sub.refl _) ?_
          by_cases hc21 : t20 < (0 : Int)
          · have h := (if_pos hc21).symm.trans h
            refine AW.condP (t20 < (0 : Int)) rfl hc21 ?_
            refine AW.seq ?_
            refine AW.reg ?_
            refine AO.calm rfl 4 rfl (by decide) (eI64 (0 : Int)) (Calm.assign rfl rfl) ?_
            refine AO.calm rfl 5 rfl (by decide) (eI64 (1 : Int)) (Calm.assign rfl rfl) ?_
            refine AO.nil (ρ' := [(4, (eI64 (0 : Int))), (5, (eI64 (1 : Int)))]) (H' := []) ⟨rfl, rfl, trivial⟩ (Sub.nil _) ?_
            refine AW.ret (ρ' := [(4, (eI64 (0 : Int))), (5, (eI64 (1 : Int)))]) (H' := []) ⟨rfl, rfl, trivial⟩ (Sub.refl _) ?_
            have hr := Option.some.inj h
            subst hr
            exact ⟨[(eI64 (0 : Int)), (eI64 (1 : Int))], ⟨rfl, rfl, rfl, rfl, trivial⟩, rfl⟩
          · have h := (if_neg hc21).symm.trans h
            refine AW.condN (t20 < (0 : Int)) rfl hc21 ?_
            refine AW.skip (ρ' := [(0, (eStr p0)), (3, (.ptr n3 0)), (6, (eI64 x14)), (7, (eI64 t20)), (19, (eI64 (w64 (p1.f0 - (1 : Int))))), (20, (eI64 x15))]) (H' := [(n3, .mem (e23 p1))]) ⟨rfl, rfl, rfl, rfl, rfl, rfl, trivial⟩ (Sub.refl _) ?_
            refine AW.reg ?_
            refine AO.calm rfl 28 rfl (by decide) (eI64 x14) (Calm.move rfl rfl) ?_
            refine AO.calm rfl 29 rfl (by decide) (eI64 t20) (Calm.move rfl rfl) ?_
            refine AO.calm rfl 30 rfl (by decide) (eI64 (w64 (t20 + (1 : Int)))) (Calm.int rfl rfl rfl rfl) ?_
            refine AO.calm rfl 31 rfl (by decide) (eI64 (w64 (x14 + (w64 (t20 + (1 : Int)))))) (Calm.int rfl rfl rfl rfl) ?_
            refine AO.calm rfl 6 rfl (by decide) (eI64 (w64 (x14 + (w64 (t20 + (1 : Int)))))) (Calm.assign rfl rfl) ?_
            refine AO.nil (ρ' := [(0, (eStr p0)), (3, (.ptr n3 0)), (6, (eI64 (w64 (x14 + (w64 (t20 + (1 : Int))))))), (19, (eI64 (w64 (p1.f0 - (1 : Int))))), (20, (eI64 x15))]) (H' := [(n3, .mem (e23 p1))]) ⟨rfl, rfl, rfl, rfl, rfl, trivial⟩ (Sub.refl _) ?_
            refine AW.reg ?_
            refine AO.calm rfl 32 rfl (by decide) (eI64 (w64 (x15 + (1 : Int)))) (Calm.int rfl rfl rfl rfl) ?_
            refine AO.calm rfl 20 rfl (by decide) (eI64 (w64 (x15 + (1 : Int)))) (Calm.move rfl rfl) ?_
            refine AO.nil (ρ' := [(0, (eStr p0)), (3, (.ptr n3 0)), (6, (eI64 (w64 (x14 + (w64 (t20 + (1 : Int))))))), (19, (eI64 (w64 (p1.f0 - (1 : Int))))), (20, (eI64 (w64 (x15 + (1 : Int)))))]) (H' := [(n3, .mem (e23 p1))]) ⟨rfl, rfl, rfl, rfl, rfl, trivial⟩ (Sub.refl _) ?_
            exact ⟨kq17, Nat.lt_succ_self _, (w64 (x14 + (w64 (t20 + (1 : Int))))), (w64 (x15 + (1 : Int))), rfl, rfl, by rw [hrec16]; exact h⟩
        · have h := (if_neg hc18).symm.trans h
          refine AW.condN (x15 < (w64 (p1.f0 - (1 : Int)))) rfl hc18 ?_
          refine AW.exit (ρ' := [(0, (eStr p0)), (3, (.ptr n3 0)), (6, (eI64 x14))]) (H' := [(n3, .mem (e23 p1))]) ⟨rfl, rfl, rfl, trivial⟩ (Sub.refl _) ?_
          exact ⟨x14, rfl, rfl, h⟩
      · rintro _ _ ⟨x8, rfl, rfl, h⟩
        rw [spot_At_c1.eq_1] at h
        refine AW.seq ?_
        refine AW.reg ?_
        refine AO.calm rfl 33 rfl (by decide) (eStr p0) (Calm.move rfl rfl) ?_
        refine AO.calm rfl 34 rfl (by decide) (eI64 x8) (Calm.move rfl rfl) ?_
        obtain ⟨hg9, h⟩ := of_guard h
        refine AO.calm rfl 35 rfl (by decide) (eStr (p0.extract x8.toNat (p0.size : Int).toNat)) (Calm.sliceS rfl rfl rfl rfl hg9 Try.underlying9) ?_
        obtain ⟨t10, et10, h⟩ := of_bind h
        refine AO.callS [(eStr (p0.extract x8.toNat (p0.size : Int).toNat)), (eU8 (10 : Int))] (eI64 t10) 36 rfl (by decide) ok57 rfl rfl rfl ⟨rfl, rfl, rfl, rfl, trivial⟩ (strings_IndexByte_spec et10) ?_
        refine AO.calm rfl 8 rfl (by decide) (eI64 t10) (Calm.assign rfl rfl) ?_
        refine AO.nil (ρ' := [(0, (eStr p0)), (3, (.ptr n3 0)), (6, (eI64 x8)), (8, (eI64 t10))]) (H' := [(n3, .mem (e23 p1))]) ⟨rfl, rfl, rfl, rfl, trivial⟩ (Sub.refl _) ?_
        refine AW.seq_mid (fun ρ H => ∃ (x11 : Int), ρ = [(3, (.ptr n3 0)), (6, (eI64 x8)), (8, (eI64 x11))] ∧ H = [(n3, .mem (e23 p1))] ∧ spot_At_c0 k p1 x8 x11 = some r) ?_ ?_
        · refine AW.seq ?_
          refine AW.reg ?_
          refine AO.calm rfl 37 rfl (by decide) (eI64 t10) (Calm.move rfl rfl) ?_
          refine AO.calm rfl 38 rfl (by decide) (eBool (decide (t10 < (0 : Int)))) (Calm.int rfl rfl rfl rfl) ?_
          refine AO.nil (ρ' := [(0, (eStr p0)), (3, (.ptr n3 0)), (6, (eI64 x8)), (8, (eI64 t10)), (38, (eBool (decide (t10 < (0 : Int)))))]) (H' := [(n3, .mem (e23 p1))]) ⟨rfl, rfl, rfl, rfl, rfl, trivial⟩ (Sub.refl _) ?_
          by_cases hc13 : t10 < (0 : Int)
          · have h := (if_pos hc13).symm.trans h
            refine AW.condP (t10 < (0 : Int)) rfl hc13 ?_
            refine AW.reg ?_
            refine AO.calm rfl 39 rfl (by decide) (eStr p0) (Calm.move rfl rfl) ?_
            refine AO.calm rfl 40 rfl (by decide) (eI64 (p0.size : Int)) (Calm.lenStr rfl rfl Try.underlying9) ?_
            refine AO.calm rfl 41 rfl (by decide) (eI64 x8) (Calm.move rfl rfl) ?_
            refine AO.calm rfl 42 rfl (by decide) (eI64 (w64 ((p0.size : Int) - x8))) (Calm.int rfl rfl rfl rfl) ?_
            refine AO.calm rfl 8 rfl (by decide) (eI64 (w64 ((p0.size : Int) - x8))) (Calm.assign rfl rfl) ?_
            refine AO.nil (ρ' := [(3, (.ptr n3 0)), (6, (eI64 x8)), (8, (eI64 (w64 ((p0.size : Int) - x8))))]) (H' := [(n3, .mem (e23 p1))]) ⟨rfl, rfl, rfl, trivial⟩ (Sub.refl _) ?_
            exact ⟨(w64 ((p0.size : Int) - x8)), rfl, rfl, h⟩
          · have h := (if_neg hc13).symm.trans h
            refine AW.condN (t10 < (0 : Int)) rfl hc13 ?_
            refine AW.skip (ρ' := [(3, (.ptr n3 0)), (6, (eI64 x8)), (8, (eI64 t10))]) (H' := [(n3, .mem (e23 p1))]) ⟨rfl, rfl, rfl, trivial⟩ (Sub.refl _) ?_
            exact ⟨t10, rfl, rfl, h⟩
        · rintro _ _ ⟨x11, rfl, rfl, h⟩
          rw [spot_At_c0.eq_1] at h
          refine AW.seq ?_
          refine AW.seq ?_
          refine AW.reg ?_
          refine AO.calm rfl 43 rfl (by decide) (.ptr n3 1) (Calm.fldPtr rfl rfl Try.underlying23 rfl sz3 _ rfl) ?_
          refine AO.calm rfl 44 rfl (by decide) (eI64 p1.f1) (Calm.load 0 rfl rfl rfl (At.cast (At.fldS (At.fld0 At.here)) rfl) ag3 sz3) ?_
          refine AO.calm rfl 45 rfl (by decide) (eI64 (w64 (p1.f1 - (1 : Int)))) (Calm.int rfl rfl rfl rfl) ?_
          refine AO.calm rfl 46 rfl (by decide) (eI64 x11) (Calm.move rfl rfl) ?_
          refine AO.calm rfl 47 rfl (by decide) (eBool (decide (x11 < (w64 (p1.f1 - (1 : Int)))))) (Calm.int rfl rfl rfl rfl) ?_
          refine AO.nil (ρ' := [(3, (.ptr n3 0)), (6, (eI64 x8)), (47, (eBool (decide (x11 < (w64 (p1.f1 - (1 : Int)))))))]) (H' := [(n3, .mem (e23 p1))]) ⟨rfl, rfl, rfl, trivial⟩ (Sub.refl _) ?_
          by_cases hc12 : x11 < (w64 (p1.f1 - (1 : Int)))
          · have h := (if_pos hc12).symm.trans h
            refine AW.condP (x11 < (w64 (p1.f1 - (1 : Int)))) rfl hc12 ?_
            refine AW.seq ?_
            refine AW.reg ?_
            refine AO.calm rfl 4 rfl (by decide) (eI64 (0 : Int)) (Calm.assign rfl rfl) ?_
            refine AO.calm rfl 5 rfl (by decide) (eI64 (1 : Int)) (Calm.assign rfl rfl) ?_
            refine AO.nil (ρ' := [(4, (eI64 (0 : Int))), (5, (eI64 (1 : Int)))]) (H' := []) ⟨rfl, rfl, trivial⟩ (Sub.nil _) ?_
            refine AW.ret (ρ' := [(4, (eI64 (0 : Int))), (5, (eI64 (1 : Int)))]) (H' := []) ⟨rfl, rfl, trivial⟩ (Sub.refl _) ?_
            have hr := Option.some.inj h
            subst hr
            exact ⟨[(eI64 (0 : Int)), (eI64 (1 : Int))], ⟨rfl, rfl, rfl, rfl, trivial⟩, rfl⟩
          · have h := (if_neg hc12).symm.trans h
            refine AW.condN (x11 < (w64 (p1.f1 - (1 : Int)))) rfl hc12 ?_
            refine AW.skip (ρ' := [(3, (.ptr n3 0)), (6, (eI64 x8))]) (H' := [(n3, .mem (e23 p1))]) ⟨rfl, rfl, trivial⟩ (Sub.refl _) ?_
            refine AW.seq ?_
            refine AW.reg ?_
            refine AO.calm rfl 48 rfl (by decide) (eI64 x8) (Calm.move rfl rfl) ?_
            refine AO.calm rfl 49 rfl (by decide) (.ptr n3 1) (Calm.fldPtr rfl rfl Try.underlying23 rfl sz3 _ rfl) ?_
            refine AO.calm rfl 50 rfl (by decide) (eI64 p1.f1) (Calm.load 0 rfl rfl rfl (At.cast (At.fldS (At.fld0 At.here)) rfl) ag3 sz3) ?_
            refine AO.calm rfl 51 rfl (by decide) (eI64 (w64 (x8 + p1.f1))) (Calm.int rfl rfl rfl rfl) ?_
            refine AO.calm rfl 52 rfl (by decide) (eI64 (w64 ((w64 (x8 + p1.f1)) - (1 : Int)))) (Calm.int rfl rfl rfl rfl) ?_
            refine AO.calm rfl 4 rfl (by decide) (eI64 (w64 ((w64 (x8 + p1.f1)) - (1 : Int)))) (Calm.assign rfl rfl) ?_
            refine AO.calm rfl 5 rfl (by decide) (eI64 (0 : Int)) (Calm.assign rfl rfl) ?_
            refine AO.nil (ρ' := [(4, (eI64 (w64 ((w64 (x8 + p1.f1)) - (1 : Int))))), (5, (eI64 (0 : Int)))]) (H' := []) ⟨rfl, rfl, trivial⟩ (Sub.nil _) ?_
            refine AW.ret (ρ' := [(4, (eI64 (w64 ((w64 (x8 + p1.f1)) - (1 : Int))))), (5, (eI64 (0 : Int)))]) (H' := []) ⟨rfl, rfl, trivial⟩ (Sub.refl _) ?_
            have hr := Option.some.inj h
            subst hr
            exact ⟨[(eI64 (w64 ((w64 (x8 + p1.f1)) - (1 : Int)))), (eI64 (0 : Int))], ⟨rfl, rfl, rfl, rfl, trivial⟩, rfl⟩
end Go.Avl.T2
