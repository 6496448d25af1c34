/- Parts: T2f16, T2f17, T2f95, T2f96, T2f81, T2f60, T2f97, T2f82. -/
import Derived.Test.YtmgiffbobkgcmaaAF1
import Derived.Test.YtmgiffbobkgcmaaAF2
/- bosket/spot.Number; printed by avmain.py. -/
namespace Go.Avl.T2
open Go Go.RowKit Go.Proofs Go.Avl
set_option linter.unusedVariables false
set_option maxRecDepth 100000
set_option maxHeartbeats 4000000
attribute [local irreducible] AW AO AQ Spec SpecH Calm

def spot_Number_c0 (k : Nat) (t2 : (ByteArray × Bool)) (x11 : Int) : Option (Int × Bool) :=
  Option.bind (α := Bool) (if t2.2 = true then some (decide (x11 ≤ (9223372036854775808 : Int)))
  else some (false)) fun b12 =>
  if b12 = true then some ((w64 (IntKind.u64.wrap (0 - x11))), true)
  else Option.bind (α := Bool) (if (!t2.2) = true then some (decide (x11 < (9223372036854775808 : Int)))
  else some (false)) fun b16 =>
  if b16 = true then some ((w64 x11), true)
  else some ((0 : Int), false)
def spot_Number_l1 (k : Nat) (t2 : (ByteArray × Bool)) : Nat → Int → Int → Option (Int × Bool)
  | 0, _, _ => none
  | j + 1, x20, x21 =>
    if x21 < (t2.1.size : Int) then Option.bind (α := Bool) (if 0 ≤ x21 ∧ x21 < (t2.1.size : Int) then if (byteAt t2.1 x21) < (48 : Int) then some (true)
    else if 0 ≤ x21 ∧ x21 < (t2.1.size : Int) then some (decide ((57 : Int) < (byteAt t2.1 x21)))
    else none
    else none) fun b25 =>
    if b25 = true then some ((0 : Int), false)
    else if 0 ≤ x21 ∧ x21 < (t2.1.size : Int) then (some (u64 ((u64 (x20 * (10 : Int))) + (u64 (w8 ((byteAt t2.1 x21) - (48 : Int))))))).bind fun x32 =>
    (spot_Number_l1 k t2 j) x32 (w64 (x21 + (1 : Int)))
    else none
    else spot_Number_c0 k t2 x20
def spot_Number (k : Nat) (p0 : ByteArray) : Option (Int × Bool) :=
  (strings_CutPrefix k p0 (ByteArray.mk #[45])).bind fun t2 =>
  Option.bind (α := Bool) (if t2.1 = (ByteArray.mk #[]) then some (true)
  else if (19 : Int) < (t2.1.size : Int) then some (true)
  else if 0 ≤ (0 : Int) ∧ (0 : Int) < (t2.1.size : Int) then if (byteAt t2.1 (0 : Int)) = (48 : Int) then if t2.2 = true then some (true)
  else some (decide ((1 : Int) < (t2.1.size : Int)))
  else some (false)
  else none) fun b3 =>
  if b3 = true then some ((0 : Int), false)
  else spot_Number_l1 k t2 k (0 : Int) (0 : Int)
theorem spot_Number_spec {k : Nat} {p0 : ByteArray} {r : (Int × Bool)} (h : spot_Number k p0 = some r) : Spec Try.prog 16 [(eStr p0)] (.tup [(eI64 r.1), (eBool r.2)]) := by
  rw [spot_Number.eq_1] at h
  refine Spec.intro (res := [.tmp 2, .tmp 3]) Try.func16 rfl rfl rfl (Nat.le_of_ble_eq_true rfl) ?_
  refine AW.seq ?_
  refine AW.reg ?_
  refine AO.calm rfl 2 rfl (by decide) (eI64 (0 : Int)) (Calm.assign rfl rfl) ?_
  refine AO.calm rfl 3 rfl (by decide) (eBool false) (Calm.assign rfl rfl) ?_
  refine AO.nil (ρ' := [(0, (eStr p0))]) (H' := []) ⟨rfl, trivial⟩ (Sub.refl _) ?_
  refine AW.seq ?_
  refine AW.reg ?_
  refine AO.calm rfl 9 rfl (by decide) (eStr p0) (Calm.move rfl rfl) ?_
  obtain ⟨t2, et2, h⟩ := of_bind h
  refine AO.callS [(eStr p0), (eStr (ByteArray.mk #[45]))] (.tup [(eStr t2.1), (eBool t2.2)]) 10 rfl (by decide) ok58 rfl rfl rfl ⟨rfl, rfl, rfl, rfl, trivial⟩ (strings_CutPrefix_spec et2) ?_
  refine AO.calm rfl 8 rfl (by decide) (.tup [(eStr t2.1), (eBool t2.2)]) (Calm.move rfl rfl) ?_
  refine AO.calm rfl 11 rfl (by decide) (eStr t2.1) (Calm.extract rfl rfl rfl) ?_
  refine AO.calm rfl 12 rfl (by decide) (eBool t2.2) (Calm.extract rfl rfl rfl) ?_
  refine AO.calm rfl 4 rfl (by decide) (eStr t2.1) (Calm.assign rfl rfl) ?_
  refine AO.calm rfl 5 rfl (by decide) (eBool t2.2) (Calm.assign rfl rfl) ?_
  refine AO.nil (ρ' := [(4, (eStr t2.1)), (5, (eBool t2.2))]) (H' := []) ⟨rfl, rfl, trivial⟩ (Sub.refl _) ?_
  refine AW.seq ?_
  refine AW.reg ?_
  refine AO.calm rfl 6 rfl (by decide) (eU64 (0 : Int)) (Calm.assign rfl rfl) ?_
  refine AO.nil (ρ' := [(4, (eStr t2.1)), (5, (eBool t2.2)), (6, (eU64 (0 : Int)))]) (H' := []) ⟨rfl, rfl, rfl, trivial⟩ (Sub.refl _) ?_
  refine AW.seq ?_
  refine AW.seq ?_
  obtain ⟨b3, hq4, h⟩ := of_bind h
  refine AW.regM [(4, (eStr t2.1)), (5, (eBool t2.2)), (6, (eU64 (0 : Int))), (32, (eBool b3))] [] ?_ ?_
  · refine AO.calm rfl 13 rfl (by decide) (eStr t2.1) (Calm.move rfl rfl) ?_
    refine AO.calm rfl 14 rfl (by decide) (eBool (decide (t2.1 = (ByteArray.mk #[])))) (Calm.str rfl rfl rfl rfl) ?_
    refine AO.calm rfl 15 rfl (by decide) (eBool (decide (t2.1 = (ByteArray.mk #[])))) (Calm.move rfl rfl) ?_
    by_cases hc5 : t2.1 = (ByteArray.mk #[])
    · have hq4 := (if_pos hc5).symm.trans hq4
      refine AO.skipG 2 true 15 rfl rfl (congrArg (fun b => some (AV.fl (Value.bool b))) (decide_eq_true hc5)) 16 rfl (by decide) ?_
      refine AO.skipG 2 true 15 rfl rfl (congrArg (fun b => some (AV.fl (Value.bool b))) (decide_eq_true hc5)) 17 rfl (by decide) ?_
      refine AO.skipG 2 true 15 rfl rfl (congrArg (fun b => some (AV.fl (Value.bool b))) (decide_eq_true hc5)) 18 rfl (by decide) ?_
      refine AO.calm rfl 19 rfl (by decide) (eBool true) (Calm.pickT rfl (congrArg (fun b => some (AV.fl (Value.bool b))) (decide_eq_true hc5)) rfl) ?_
      refine AO.calm rfl 20 rfl (by decide) (eBool true) (Calm.move rfl rfl) ?_
      refine AO.skipG 7 true 20 rfl rfl rfl 21 rfl (by decide) ?_
      refine AO.skipG 7 true 20 rfl rfl rfl 22 rfl (by decide) ?_
      refine AO.skipG 7 true 20 rfl rfl rfl 23 rfl (by decide) ?_
      refine AO.skipG 7 true 20 rfl rfl rfl 24 rfl (by decide) ?_
      refine AO.skipU 11 true 24 rfl rfl rfl 25 rfl (by decide) ?_
      refine AO.skipU 11 true 24 rfl rfl rfl 26 rfl (by decide) ?_
      refine AO.skipU 13 false 26 rfl rfl rfl 27 rfl (by decide) ?_
      refine AO.skipU 13 false 26 rfl rfl rfl 28 rfl (by decide) ?_
      refine AO.skipU 13 false 26 rfl rfl rfl 29 rfl (by decide) ?_
      refine AO.skipU 11 true 24 rfl rfl rfl 30 rfl (by decide) ?_
      refine AO.skipG 7 true 20 rfl rfl rfl 31 rfl (by decide) ?_
      refine AO.calm rfl 32 rfl (by decide) (eBool true) (Calm.pickT rfl rfl rfl) ?_
      cases hq4
      refine AO.nilE ⟨rfl, rfl⟩ ?_ ?_
      · exact ⟨rfl, rfl, rfl, rfl, trivial⟩
      · exact (Sub.refl _)
    · have hq4 := (if_neg hc5).symm.trans hq4
      refine AO.calmG 2 false 15 rfl rfl (congrArg (fun b => some (AV.fl (Value.bool b))) (decide_eq_false hc5)) 16 rfl (by decide) (eStr t2.1) (Calm.move rfl rfl) ?_
      refine AO.calmG 2 false 15 rfl rfl (congrArg (fun b => some (AV.fl (Value.bool b))) (decide_eq_false hc5)) 17 rfl (by decide) (eI64 (t2.1.size : Int)) (Calm.lenStr rfl rfl Try.underlying9) ?_
      refine AO.calmG 2 false 15 rfl rfl (congrArg (fun b => some (AV.fl (Value.bool b))) (decide_eq_false hc5)) 18 rfl (by decide) (eBool (decide ((19 : Int) < (t2.1.size : Int)))) (Calm.int rfl rfl rfl rfl) ?_
      refine AO.calm rfl 19 rfl (by decide) (eBool (decide ((19 : Int) < (t2.1.size : Int)))) (Calm.pickF rfl (congrArg (fun b => some (AV.fl (Value.bool b))) (decide_eq_false hc5)) rfl) ?_
      refine AO.calm rfl 20 rfl (by decide) (eBool (decide ((19 : Int) < (t2.1.size : Int)))) (Calm.move rfl rfl) ?_
      by_cases hc6 : (19 : Int) < (t2.1.size : Int)
      · have hq4 := (if_pos hc6).symm.trans hq4
        refine AO.skipG 7 true 20 rfl rfl (congrArg (fun b => some (AV.fl (Value.bool b))) (decide_eq_true hc6)) 21 rfl (by decide) ?_
        refine AO.skipG 7 true 20 rfl rfl (congrArg (fun b => some (AV.fl (Value.bool b))) (decide_eq_true hc6)) 22 rfl (by decide) ?_
        refine AO.skipG 7 true 20 rfl rfl (congrArg (fun b => some (AV.fl (Value.bool b))) (decide_eq_true hc6)) 23 rfl (by decide) ?_
        refine AO.skipG 7 true 20 rfl rfl (congrArg (fun b => some (AV.fl (Value.bool b))) (decide_eq_true hc6)) 24 rfl (by decide) ?_
        refine AO.skipU 11 true 24 rfl rfl rfl 25 rfl (by decide) ?_
        refine AO.skipU 11 true 24 rfl rfl rfl 26 rfl (by decide) ?_
        refine AO.skipU 13 false 26 rfl rfl rfl 27 rfl (by decide) ?_
        refine AO.skipU 13 false 26 rfl rfl rfl 28 rfl (by decide) ?_
        refine AO.skipU 13 false 26 rfl rfl rfl 29 rfl (by decide) ?_
        refine AO.skipU 11 true 24 rfl rfl rfl 30 rfl (by decide) ?_
        refine AO.skipG 7 true 20 rfl rfl (congrArg (fun b => some (AV.fl (Value.bool b))) (decide_eq_true hc6)) 31 rfl (by decide) ?_
        refine AO.calm rfl 32 rfl (by decide) (eBool true) (Calm.pickT rfl (congrArg (fun b => some (AV.fl (Value.bool b))) (decide_eq_true hc6)) rfl) ?_
        cases hq4
        refine AO.nilE ⟨rfl, rfl⟩ ?_ ?_
        · exact ⟨rfl, rfl, rfl, rfl, trivial⟩
        · exact (Sub.refl _)
      · have hq4 := (if_neg hc6).symm.trans hq4
        refine AO.calmG 7 false 20 rfl rfl (congrArg (fun b => some (AV.fl (Value.bool b))) (decide_eq_false hc6)) 21 rfl (by decide) (eStr t2.1) (Calm.move rfl rfl) ?_
        obtain ⟨hg7, hq4⟩ := of_guard hq4
        refine AO.calmG 7 false 20 rfl rfl (congrArg (fun b => some (AV.fl (Value.bool b))) (decide_eq_false hc6)) 22 rfl (by decide) (eU8 (byteAt t2.1 (0 : Int))) (Calm.idxS rfl rfl rfl hg7 Try.underlying9) ?_
        refine AO.calmG 7 false 20 rfl rfl (congrArg (fun b => some (AV.fl (Value.bool b))) (decide_eq_false hc6)) 23 rfl (by decide) (eBool (decide ((byteAt t2.1 (0 : Int)) = (48 : Int)))) (Calm.int rfl rfl rfl rfl) ?_
        refine AO.calmG 7 false 20 rfl rfl (congrArg (fun b => some (AV.fl (Value.bool b))) (decide_eq_false hc6)) 24 rfl (by decide) (eBool (decide ((byteAt t2.1 (0 : Int)) = (48 : Int)))) (Calm.move rfl rfl) ?_
        by_cases hc8 : (byteAt t2.1 (0 : Int)) = (48 : Int)
        · have hq4 := (if_pos hc8).symm.trans hq4
          refine AO.calmG 11 true 24 rfl rfl (congrArg (fun b => some (AV.fl (Value.bool b))) (decide_eq_true hc8)) 25 rfl (by decide) (eBool t2.2) (Calm.move rfl rfl) ?_
          refine AO.calmG 11 true 24 rfl rfl (congrArg (fun b => some (AV.fl (Value.bool b))) (decide_eq_true hc8)) 26 rfl (by decide) (eBool t2.2) (Calm.move rfl rfl) ?_
          by_cases hc9 : t2.2 = true
          · have hq4 := (if_pos hc9).symm.trans hq4
            refine AO.skipG 13 true 26 rfl rfl (congrArg (fun b => some (AV.fl (Value.bool b))) hc9) 27 rfl (by decide) ?_
            refine AO.skipG 13 true 26 rfl rfl (congrArg (fun b => some (AV.fl (Value.bool b))) hc9) 28 rfl (by decide) ?_
            refine AO.skipG 13 true 26 rfl rfl (congrArg (fun b => some (AV.fl (Value.bool b))) hc9) 29 rfl (by decide) ?_
            refine AO.calmG 11 true 24 rfl rfl (congrArg (fun b => some (AV.fl (Value.bool b))) (decide_eq_true hc8)) 30 rfl (by decide) (eBool true) (Calm.pickT rfl (congrArg (fun b => some (AV.fl (Value.bool b))) hc9) rfl) ?_
            refine AO.calmG 7 false 20 rfl rfl (congrArg (fun b => some (AV.fl (Value.bool b))) (decide_eq_false hc6)) 31 rfl (by decide) (eBool true) (Calm.pickT rfl (congrArg (fun b => some (AV.fl (Value.bool b))) (decide_eq_true hc8)) rfl) ?_
            refine AO.calm rfl 32 rfl (by decide) (eBool true) (Calm.pickF rfl (congrArg (fun b => some (AV.fl (Value.bool b))) (decide_eq_false hc6)) rfl) ?_
            cases hq4
            refine AO.nilE ⟨rfl, rfl⟩ ?_ ?_
            · exact ⟨rfl, rfl, rfl, rfl, trivial⟩
            · exact (Sub.refl _)
          · have hq4 := (if_neg hc9).symm.trans hq4
            refine AO.calmG 13 false 26 rfl rfl (congrArg (fun b => some (AV.fl (Value.bool b))) (eq_false_of_ne_true hc9)) 27 rfl (by decide) (eStr t2.1) (Calm.move rfl rfl) ?_
            refine AO.calmG 13 false 26 rfl rfl (congrArg (fun b => some (AV.fl (Value.bool b))) (eq_false_of_ne_true hc9)) 28 rfl (by decide) (eI64 (t2.1.size : Int)) (Calm.lenStr rfl rfl Try.underlying9) ?_
            refine AO.calmG 13 false 26 rfl rfl (congrArg (fun b => some (AV.fl (Value.bool b))) (eq_false_of_ne_true hc9)) 29 rfl (by decide) (eBool (decide ((1 : Int) < (t2.1.size : Int)))) (Calm.int rfl rfl rfl rfl) ?_
            refine AO.calmG 11 true 24 rfl rfl (congrArg (fun b => some (AV.fl (Value.bool b))) (decide_eq_true hc8)) 30 rfl (by decide) (eBool (decide ((1 : Int) < (t2.1.size : Int)))) (Calm.pickF rfl (congrArg (fun b => some (AV.fl (Value.bool b))) (eq_false_of_ne_true hc9)) rfl) ?_
            refine AO.calmG 7 false 20 rfl rfl (congrArg (fun b => some (AV.fl (Value.bool b))) (decide_eq_false hc6)) 31 rfl (by decide) (eBool (decide ((1 : Int) < (t2.1.size : Int)))) (Calm.pickT rfl (congrArg (fun b => some (AV.fl (Value.bool b))) (decide_eq_true hc8)) rfl) ?_
            refine AO.calm rfl 32 rfl (by decide) (eBool (decide ((1 : Int) < (t2.1.size : Int)))) (Calm.pickF rfl (congrArg (fun b => some (AV.fl (Value.bool b))) (decide_eq_false hc6)) rfl) ?_
            cases hq4
            refine AO.nilE ⟨rfl, rfl⟩ ?_ ?_
            · exact ⟨rfl, rfl, rfl, rfl, trivial⟩
            · exact (Sub.refl _)
        · have hq4 := (if_neg hc8).symm.trans hq4
          refine AO.skipG 11 false 24 rfl rfl (congrArg (fun b => some (AV.fl (Value.bool b))) (decide_eq_false hc8)) 25 rfl (by decide) ?_
          refine AO.skipG 11 false 24 rfl rfl (congrArg (fun b => some (AV.fl (Value.bool b))) (decide_eq_false hc8)) 26 rfl (by decide) ?_
          refine AO.skipU 13 false 26 rfl rfl rfl 27 rfl (by decide) ?_
          refine AO.skipU 13 false 26 rfl rfl rfl 28 rfl (by decide) ?_
          refine AO.skipU 13 false 26 rfl rfl rfl 29 rfl (by decide) ?_
          refine AO.skipG 11 false 24 rfl rfl (congrArg (fun b => some (AV.fl (Value.bool b))) (decide_eq_false hc8)) 30 rfl (by decide) ?_
          refine AO.calmG 7 false 20 rfl rfl (congrArg (fun b => some (AV.fl (Value.bool b))) (decide_eq_false hc6)) 31 rfl (by decide) (eBool false) (Calm.pickF rfl (congrArg (fun b => some (AV.fl (Value.bool b))) (decide_eq_false hc8)) rfl) ?_
          refine AO.calm rfl 32 rfl (by decide) (eBool false) (Calm.pickF rfl (congrArg (fun b => some (AV.fl (Value.bool b))) (decide_eq_false hc6)) rfl) ?_
          cases hq4
          refine AO.nilE ⟨rfl, rfl⟩ ?_ ?_
          · exact ⟨rfl, rfl, rfl, rfl, trivial⟩
          · exact (Sub.refl _)
  · by_cases hc10 : b3 = true
    · have h := (if_pos hc10).symm.trans h
      refine AW.condT' b3 rfl hc10 ?_
      refine AW.seq ?_
      refine AW.reg ?_
      refine AO.calm rfl 2 rfl (by decide) (eI64 (0 : Int)) (Calm.assign rfl rfl) ?_
      refine AO.calm rfl 3 rfl (by decide) (eBool false) (Calm.assign rfl rfl) ?_
      refine AO.nil (ρ' := [(2, (eI64 (0 : Int))), (3, (eBool false))]) (H' := []) ⟨rfl, rfl, trivial⟩ (Sub.refl _) ?_
      refine AW.ret (ρ' := [(2, (eI64 (0 : Int))), (3, (eBool false))]) (H' := []) ⟨rfl, rfl, trivial⟩ (Sub.refl _) ?_
      have hr := Option.some.inj h
      subst hr
      exact ⟨[(eI64 (0 : Int)), (eBool false)], ⟨rfl, rfl, rfl, rfl, trivial⟩, rfl⟩
    · have h := (if_neg hc10).symm.trans h
      refine AW.condF' b3 rfl hc10 ?_
      refine AW.skip (ρ' := [(4, (eStr t2.1)), (5, (eBool t2.2)), (6, (eU64 (0 : Int)))]) (H' := []) ⟨rfl, rfl, rfl, trivial⟩ (Sub.refl _) ?_
      refine AW.seq_mid (fun ρ H => ∃ (x11 : Int), ρ = [(5, (eBool t2.2)), (6, (eU64 x11))] ∧ H = [] ∧ spot_Number_c0 k t2 x11 = some r) ?_ ?_
      · refine AW.seq ?_
        refine AW.reg ?_
        refine AO.calm rfl 33 rfl (by decide) (eStr t2.1) (Calm.move rfl rfl) ?_
        refine AO.calm rfl 34 rfl (by decide) (eI64 (t2.1.size : Int)) (Calm.lenStr rfl rfl Try.underlying9) ?_
        refine AO.calm rfl 35 rfl (by decide) (eI64 (0 : Int)) (Calm.move rfl rfl) ?_
        refine AO.nil (ρ' := [(4, (eStr t2.1)), (5, (eBool t2.2)), (6, (eU64 (0 : Int))), (34, (eI64 (t2.1.size : Int))), (35, (eI64 (0 : Int)))]) (H' := []) ⟨rfl, rfl, rfl, rfl, rfl, trivial⟩ (Sub.refl _) ?_
        refine AW.block ?_
        refine AW.weak (ρ' := [(4, (eStr t2.1)), (5, (eBool t2.2)), (6, (eU64 (0 : Int))), (34, (eI64 (t2.1.size : Int))), (35, (eI64 (0 : Int)))]) (H' := []) ⟨rfl, rfl, rfl, rfl, rfl, trivial⟩ (Sub.refl _) ?_
        refine AW.loop (fun kq ρ H => ∃ (x20 : Int) (x21 : Int), ρ = [(4, (eStr t2.1)), (5, (eBool t2.2)), (6, (eU64 x20)), (34, (eI64 (t2.1.size : Int))), (35, (eI64 x21))] ∧ H = [] ∧ spot_Number_l1 k t2 kq x20 x21 = some r) k ⟨(0 : Int), (0 : Int), rfl, rfl, h⟩ ?_
        rintro kq23 _ _ ⟨x20, x21, rfl, rfl, h⟩
        cases kq23 with
        | zero => rw [spot_Number_l1.eq_1] at h; cases h
        | succ kq23 =>
        rw [spot_Number_l1.eq_2] at h
        generalize hrec22 : spot_Number_l1 k t2 kq23 = rec22 at h
        refine AW.seq ?_
        refine AW.reg ?_
        refine AO.calm rfl 36 rfl (by decide) (eBool (decide (x21 < (t2.1.size : Int)))) (Calm.int rfl rfl rfl rfl) ?_
        refine AO.nil (ρ' := [(4, (eStr t2.1)), (5, (eBool t2.2)), (6, (eU64 x20)), (34, (eI64 (t2.1.size : Int))), (35, (eI64 x21)), (36, (eBool (decide (x21 < (t2.1.size : Int)))))]) (H' := []) ⟨rfl, rfl, rfl, rfl, rfl, rfl, trivial⟩ (Sub.refl _) ?_
        refine AW.seq ?_
        by_cases hc24 : x21 < (t2.1.size : Int)
        · have h := (if_pos hc24).symm.trans h
          refine AW.condP (x21 < (t2.1.size : Int)) rfl hc24 ?_
          refine AW.skip (ρ' := [(4, (eStr t2.1)), (5, (eBool t2.2)), (6, (eU64 x20)), (34, (eI64 (t2.1.size : Int))), (35, (eI64 x21))]) (H' := []) ⟨rfl, rfl, rfl, rfl, rfl, trivial⟩ (Sub.refl _) ?_
          refine AW.seq ?_
          refine AW.block ?_
          refine AW.seq ?_
          refine AW.reg ?_
          refine AO.calm rfl 37 rfl (by decide) (eI64 x21) (Calm.move rfl rfl) ?_
          refine AO.calm rfl 7 rfl (by decide) (eI64 x21) (Calm.assign rfl rfl) ?_
          refine AO.nil (ρ' := [(4, (eStr t2.1)), (5, (eBool t2.2)), (6, (eU64 x20)), (7, (eI64 x21)), (34, (eI64 (t2.1.size : Int))), (35, (eI64 x21))]) (H' := []) ⟨rfl, rfl, rfl, rfl, rfl, rfl, trivial⟩ (Sub.refl _) ?_
          refine AW.seq ?_
          refine AW.seq ?_
          obtain ⟨b25, hq26, h⟩ := of_bind h
          refine AW.regM [(4, (eStr t2.1)), (5, (eBool t2.2)), (6, (eU64 x20)), (7, (eI64 x21)), (34, (eI64 (t2.1.size : Int))), (35, (eI64 x21)), (47, (eBool b25))] [] ?_ ?_
          · refine AO.calm rfl 38 rfl (by decide) (eStr t2.1) (Calm.move rfl rfl) ?_
            refine AO.calm rfl 39 rfl (by decide) (eI64 x21) (Calm.move rfl rfl) ?_
            obtain ⟨hg27, hq26⟩ := of_guard hq26
            refine AO.calm rfl 40 rfl (by decide) (eU8 (byteAt t2.1 x21)) (Calm.idxS rfl rfl rfl hg27 Try.underlying9) ?_
            refine AO.calm rfl 41 rfl (by decide) (eBool (decide ((byteAt t2.1 x21) < (48 : Int)))) (Calm.int rfl rfl rfl rfl) ?_
            refine AO.calm rfl 42 rfl (by decide) (eBool (decide ((byteAt t2.1 x21) < (48 : Int)))) (Calm.move rfl rfl) ?_
            by_cases hc28 : (byteAt t2.1 x21) < (48 : Int)
            · have hq26 := (if_pos hc28).symm.trans hq26
              refine AO.skipG 4 true 42 rfl rfl (congrArg (fun b => some (AV.fl (Value.bool b))) (decide_eq_true hc28)) 43 rfl (by decide) ?_
              refine AO.skipG 4 true 42 rfl rfl (congrArg (fun b => some (AV.fl (Value.bool b))) (decide_eq_true hc28)) 44 rfl (by decide) ?_
              refine AO.skipG 4 true 42 rfl rfl (congrArg (fun b => some (AV.fl (Value.bool b))) (decide_eq_true hc28)) 45 rfl (by decide) ?_
              refine AO.skipG 4 true 42 rfl rfl (congrArg (fun b => some (AV.fl (Value.bool b))) (decide_eq_true hc28)) 46 rfl (by decide) ?_
              refine AO.calm rfl 47 rfl (by decide) (eBool true) (Calm.pickT rfl (congrArg (fun b => some (AV.fl (Value.bool b))) (decide_eq_true hc28)) rfl) ?_
              cases hq26
              refine AO.nilE ⟨rfl, rfl⟩ ?_ ?_
              · exact ⟨rfl, rfl, rfl, rfl, rfl, rfl, rfl, trivial⟩
              · exact (Sub.refl _)
            · have hq26 := (if_neg hc28).symm.trans hq26
              refine AO.calmG 4 false 42 rfl rfl (congrArg (fun b => some (AV.fl (Value.bool b))) (decide_eq_false hc28)) 43 rfl (by decide) (eStr t2.1) (Calm.move rfl rfl) ?_
              refine AO.calmG 4 false 42 rfl rfl (congrArg (fun b => some (AV.fl (Value.bool b))) (decide_eq_false hc28)) 44 rfl (by decide) (eI64 x21) (Calm.move rfl rfl) ?_
              obtain ⟨hg29, hq26⟩ := of_guard hq26
              refine AO.calmG 4 false 42 rfl rfl (congrArg (fun b => some (AV.fl (Value.bool b))) (decide_eq_false hc28)) 45 rfl (by decide) (eU8 (byteAt t2.1 x21)) (Calm.idxS rfl rfl rfl hg29 Try.underlying9) ?_
              refine AO.calmG 4 false 42 rfl rfl (congrArg (fun b => some (AV.fl (Value.bool b))) (decide_eq_false hc28)) 46 rfl (by decide) (eBool (decide ((57 : Int) < (byteAt t2.1 x21)))) (Calm.int rfl rfl rfl rfl) ?_
              refine AO.calm rfl 47 rfl (by decide) (eBool (decide ((57 : Int) < (byteAt t2.1 x21)))) (Calm.pickF rfl (congrArg (fun b => some (AV.fl (Value.bool b))) (decide_eq_false hc28)) rfl) ?_
              cases hq26
              refine AO.nilE ⟨rfl, rfl⟩ ?_ ?_
              · exact ⟨rfl, rfl, rfl, rfl, rfl, rfl, rfl, trivial⟩
              · exact (Sub.refl _)
          · by_cases hc30 : b25 = true
            · have h := (if_pos hc30).symm.trans h
              refine AW.condT' b25 rfl hc30 ?_
              refine AW.seq ?_
              refine AW.reg ?_
              refine AO.calm rfl 2 rfl (by decide) (eI64 (0 : Int)) (Calm.assign rfl rfl) ?_
              refine AO.calm rfl 3 rfl (by decide) (eBool false) (Calm.assign rfl rfl) ?_
              refine AO.nil (ρ' := [(2, (eI64 (0 : Int))), (3, (eBool false))]) (H' := []) ⟨rfl, rfl, trivial⟩ (Sub.refl _) ?_
              refine AW.ret (ρ' := [(2, (eI64 (0 : Int))), (3, (eBool false))]) (H' := []) ⟨rfl, rfl, trivial⟩ (Sub.refl _) ?_
              have hr := Option.some.inj h
              subst hr
              exact ⟨[(eI64 (0 : Int)), (eBool false)], ⟨rfl, rfl, rfl, rfl, trivial⟩, rfl⟩
            · have h := (if_neg hc30).symm.trans h
              refine AW.condF' b25 rfl hc30 ?_
              refine AW.skip (ρ' := [(4, (eStr t2.1)), (5, (eBool t2.2)), (6, (eU64 x20)), (7, (eI64 x21)), (34, (eI64 (t2.1.size : Int))), (35, (eI64 x21))]) (H' := []) ⟨rfl, rfl, rfl, rfl, rfl, rfl, trivial⟩ (Sub.refl _) ?_
              refine AW.reg ?_
              refine AO.calm rfl 48 rfl (by decide) (eU64 x20) (Calm.move rfl rfl) ?_
              refine AO.calm rfl 49 rfl (by decide) (eU64 (u64 (x20 * (10 : Int)))) (Calm.int rfl rfl rfl rfl) ?_
              refine AO.calm rfl 50 rfl (by decide) (eStr t2.1) (Calm.move rfl rfl) ?_
              refine AO.calm rfl 51 rfl (by decide) (eI64 x21) (Calm.move rfl rfl) ?_
              obtain ⟨hg31, h⟩ := of_guard h
              refine AO.calm rfl 52 rfl (by decide) (eU8 (byteAt t2.1 x21)) (Calm.idxS rfl rfl rfl hg31 Try.underlying9) ?_
              refine AO.calm rfl 53 rfl (by decide) (eU8 (w8 ((byteAt t2.1 x21) - (48 : Int)))) (Calm.int rfl rfl rfl rfl) ?_
              refine AO.calm rfl 54 rfl (by decide) (eU64 (u64 (w8 ((byteAt t2.1 x21) - (48 : Int))))) (Calm.conv rfl rfl Try.underlying5 Try.underlying83) ?_
              refine AO.calm rfl 55 rfl (by decide) (eU64 (u64 ((u64 (x20 * (10 : Int))) + (u64 (w8 ((byteAt t2.1 x21) - (48 : Int))))))) (Calm.int rfl rfl rfl rfl) ?_
              obtain ⟨x32, ex32, h⟩ := of_bind h
              refine AO.calm rfl 6 rfl (by decide) (eU64 x32) (Calm.assign rfl (congrArg (fun x => some (eU64 x)) (Option.some.inj ex32))) ?_
              refine AO.nil (ρ' := [(4, (eStr t2.1)), (5, (eBool t2.2)), (6, (eU64 x32)), (34, (eI64 (t2.1.size : Int))), (35, (eI64 x21))]) (H' := []) ⟨rfl, rfl, rfl, rfl, rfl, trivial⟩ (Sub.refl _) ?_
              refine AW.reg ?_
              refine AO.calm rfl 56 rfl (by decide) (eI64 (w64 (x21 + (1 : Int)))) (Calm.int rfl rfl rfl rfl) ?_
              refine AO.calm rfl 35 rfl (by decide) (eI64 (w64 (x21 + (1 : Int)))) (Calm.move rfl rfl) ?_
              refine AO.nil (ρ' := [(4, (eStr t2.1)), (5, (eBool t2.2)), (6, (eU64 x32)), (34, (eI64 (t2.1.size : Int))), (35, (eI64 (w64 (x21 + (1 : Int)))))]) (H' := []) ⟨rfl, rfl, rfl, rfl, rfl, trivial⟩ (Sub.refl _) ?_
              exact ⟨kq23, Nat.lt_succ_self _, x32, (w64 (x21 + (1 : Int))), rfl, rfl, by rw [hrec22]; exact h⟩
        · have h := (if_neg hc24).symm.trans h
          refine AW.condN (x21 < (t2.1.size : Int)) rfl hc24 ?_
          refine AW.exit (ρ' := [(5, (eBool t2.2)), (6, (eU64 x20))]) (H' := []) ⟨rfl, rfl, trivial⟩ (Sub.refl _) ?_
          exact ⟨x20, rfl, rfl, h⟩
      · rintro _ _ ⟨x11, rfl, rfl, h⟩
        rw [spot_Number_c0.eq_1] at h
        refine AW.seq ?_
        refine AW.block ?_
        refine AW.seq ?_
        obtain ⟨b12, hq13, h⟩ := of_bind h
        refine AW.regM [(5, (eBool t2.2)), (6, (eU64 x11)), (57, (eBool b12))] [] ?_ ?_
        · refine AO.calm rfl 58 rfl (by decide) (eBool t2.2) (Calm.move rfl rfl) ?_
          refine AO.calm rfl 59 rfl (by decide) (eBool t2.2) (Calm.move rfl rfl) ?_
          by_cases hc14 : t2.2 = true
          · have hq13 := (if_pos hc14).symm.trans hq13
            refine AO.calmG 1 true 59 rfl rfl (congrArg (fun b => some (AV.fl (Value.bool b))) hc14) 60 rfl (by decide) (eU64 x11) (Calm.move rfl rfl) ?_
            refine AO.calmG 1 true 59 rfl rfl (congrArg (fun b => some (AV.fl (Value.bool b))) hc14) 61 rfl (by decide) (eBool (decide (x11 ≤ (9223372036854775808 : Int)))) (Calm.int rfl rfl rfl rfl) ?_
            refine AO.calm rfl 62 rfl (by decide) (eBool (decide (x11 ≤ (9223372036854775808 : Int)))) (Calm.pickT rfl (congrArg (fun b => some (AV.fl (Value.bool b))) hc14) rfl) ?_
            refine AO.calm rfl 57 rfl (by decide) (eBool (decide (x11 ≤ (9223372036854775808 : Int)))) (Calm.assign rfl rfl) ?_
            cases hq13
            refine AO.nilE ⟨rfl, rfl⟩ ?_ ?_
            · exact ⟨rfl, rfl, rfl, trivial⟩
            · exact (Sub.refl _)
          · have hq13 := (if_neg hc14).symm.trans hq13
            refine AO.skipG 1 false 59 rfl rfl (congrArg (fun b => some (AV.fl (Value.bool b))) (eq_false_of_ne_true hc14)) 60 rfl (by decide) ?_
            refine AO.skipG 1 false 59 rfl rfl (congrArg (fun b => some (AV.fl (Value.bool b))) (eq_false_of_ne_true hc14)) 61 rfl (by decide) ?_
            refine AO.calm rfl 62 rfl (by decide) (eBool false) (Calm.pickF rfl (congrArg (fun b => some (AV.fl (Value.bool b))) (eq_false_of_ne_true hc14)) rfl) ?_
            refine AO.calm rfl 57 rfl (by decide) (eBool false) (Calm.assign rfl rfl) ?_
            cases hq13
            refine AO.nilE ⟨rfl, rfl⟩ ?_ ?_
            · exact ⟨rfl, rfl, rfl, trivial⟩
            · exact (Sub.refl _)
        · by_cases hc15 : b12 = true
          · have h := (if_pos hc15).symm.trans h
            refine AW.condT' b12 rfl hc15 ?_
            refine AW.seq ?_
            refine AW.reg ?_
            refine AO.calm rfl 63 rfl (by decide) (eU64 x11) (Calm.move rfl rfl) ?_
            refine AO.calm rfl 64 rfl (by decide) (eU64 (IntKind.u64.wrap (0 - x11))) (Calm.neg rfl rfl) ?_
            refine AO.calm rfl 65 rfl (by decide) (eI64 (w64 (IntKind.u64.wrap (0 - x11)))) (Calm.conv rfl rfl Try.underlying83 Try.underlying3) ?_
            refine AO.calm rfl 2 rfl (by decide) (eI64 (w64 (IntKind.u64.wrap (0 - x11)))) (Calm.assign rfl rfl) ?_
            refine AO.calm rfl 3 rfl (by decide) (eBool true) (Calm.assign rfl rfl) ?_
            refine AO.nil (ρ' := [(2, (eI64 (w64 (IntKind.u64.wrap (0 - x11))))), (3, (eBool true))]) (H' := []) ⟨rfl, rfl, trivial⟩ (Sub.refl _) ?_
            refine AW.ret (ρ' := [(2, (eI64 (w64 (IntKind.u64.wrap (0 - x11))))), (3, (eBool true))]) (H' := []) ⟨rfl, rfl, trivial⟩ (Sub.refl _) ?_
            have hr := Option.some.inj h
            subst hr
            exact ⟨[(eI64 (w64 (IntKind.u64.wrap (0 - x11)))), (eBool true)], ⟨rfl, rfl, rfl, rfl, trivial⟩, rfl⟩
          · have h := (if_neg hc15).symm.trans h
            refine AW.condF' b12 rfl hc15 ?_
            refine AW.seq ?_
            obtain ⟨b16, hq17, h⟩ := of_bind h
            refine AW.regM [(6, (eU64 x11)), (66, (eBool b16))] [] ?_ ?_
            · refine AO.calm rfl 67 rfl (by decide) (eBool t2.2) (Calm.move rfl rfl) ?_
              refine AO.calm rfl 68 rfl (by decide) (eBool (!t2.2)) (Calm.not rfl rfl) ?_
              refine AO.calm rfl 69 rfl (by decide) (eBool (!t2.2)) (Calm.move rfl rfl) ?_
              by_cases hc18 : (!t2.2) = true
              · have hq17 := (if_pos hc18).symm.trans hq17
                refine AO.calmG 2 true 69 rfl rfl (congrArg (fun b => some (AV.fl (Value.bool b))) hc18) 70 rfl (by decide) (eU64 x11) (Calm.move rfl rfl) ?_
                refine AO.calmG 2 true 69 rfl rfl (congrArg (fun b => some (AV.fl (Value.bool b))) hc18) 71 rfl (by decide) (eBool (decide (x11 < (9223372036854775808 : Int)))) (Calm.int rfl rfl rfl rfl) ?_
                refine AO.calm rfl 72 rfl (by decide) (eBool (decide (x11 < (9223372036854775808 : Int)))) (Calm.pickT rfl (congrArg (fun b => some (AV.fl (Value.bool b))) hc18) rfl) ?_
                refine AO.calm rfl 66 rfl (by decide) (eBool (decide (x11 < (9223372036854775808 : Int)))) (Calm.assign rfl rfl) ?_
                cases hq17
                refine AO.nilE ⟨rfl, rfl⟩ ?_ ?_
                · exact ⟨rfl, rfl, trivial⟩
                · exact (Sub.refl _)
              · have hq17 := (if_neg hc18).symm.trans hq17
                refine AO.skipG 2 false 69 rfl rfl (congrArg (fun b => some (AV.fl (Value.bool b))) (eq_false_of_ne_true hc18)) 70 rfl (by decide) ?_
                refine AO.skipG 2 false 69 rfl rfl (congrArg (fun b => some (AV.fl (Value.bool b))) (eq_false_of_ne_true hc18)) 71 rfl (by decide) ?_
                refine AO.calm rfl 72 rfl (by decide) (eBool false) (Calm.pickF rfl (congrArg (fun b => some (AV.fl (Value.bool b))) (eq_false_of_ne_true hc18)) rfl) ?_
                refine AO.calm rfl 66 rfl (by decide) (eBool false) (Calm.assign rfl rfl) ?_
                cases hq17
                refine AO.nilE ⟨rfl, rfl⟩ ?_ ?_
                · exact ⟨rfl, rfl, trivial⟩
                · exact (Sub.refl _)
            · by_cases hc19 : b16 = true
              · have h := (if_pos hc19).symm.trans h
                refine AW.condT' b16 rfl hc19 ?_
                refine AW.seq ?_
                refine AW.reg ?_
                refine AO.calm rfl 73 rfl (by decide) (eU64 x11) (Calm.move rfl rfl) ?_
                refine AO.calm rfl 74 rfl (by decide) (eI64 (w64 x11)) (Calm.conv rfl rfl Try.underlying83 Try.underlying3) ?_
                refine AO.calm rfl 2 rfl (by decide) (eI64 (w64 x11)) (Calm.assign rfl rfl) ?_
                refine AO.calm rfl 3 rfl (by decide) (eBool true) (Calm.assign rfl rfl) ?_
                refine AO.nil (ρ' := [(2, (eI64 (w64 x11))), (3, (eBool true))]) (H' := []) ⟨rfl, rfl, trivial⟩ (Sub.refl _) ?_
                refine AW.ret (ρ' := [(2, (eI64 (w64 x11))), (3, (eBool true))]) (H' := []) ⟨rfl, rfl, trivial⟩ (Sub.refl _) ?_
                have hr := Option.some.inj h
                subst hr
                exact ⟨[(eI64 (w64 x11)), (eBool true)], ⟨rfl, rfl, rfl, rfl, trivial⟩, rfl⟩
              · have h := (if_neg hc19).symm.trans h
                refine AW.condF' b16 rfl hc19 ?_
                refine AW.skip (ρ' := []) (H' := []) trivial (Sub.refl _) ?_
                refine AW.seq ?_
                refine AW.reg ?_
                refine AO.calm rfl 2 rfl (by decide) (eI64 (0 : Int)) (Calm.assign rfl rfl) ?_
                refine AO.calm rfl 3 rfl (by decide) (eBool false) (Calm.assign rfl rfl) ?_
                refine AO.nil (ρ' := [(2, (eI64 (0 : Int))), (3, (eBool false))]) (H' := []) ⟨rfl, rfl, trivial⟩ (Sub.refl _) ?_
                refine AW.ret (ρ' := [(2, (eI64 (0 : Int))), (3, (eBool false))]) (H' := []) ⟨rfl, rfl, trivial⟩ (Sub.refl _) ?_
                have hr := Option.some.inj h
                subst hr
                exact ⟨[(eI64 (0 : Int)), (eBool false)], ⟨rfl, rfl, rfl, rfl, trivial⟩, rfl⟩
end Go.Avl.T2
/- bosket/bosketref13.Number; printed by avmain.py. -/
namespace Go.Avl.T2
open Go Go.RowKit Go.Proofs Go.Avl
set_option linter.unusedVariables false
set_option maxRecDepth 100000
set_option maxHeartbeats 4000000
attribute [local irreducible] AW AO AQ Spec SpecH Calm

def bosketref13_Number_c0 (k : Nat) (p0 : ByteArray) (x7 : Int) : Option (Int × Bool) :=
  (bosketref13_Digits k x7).bind fun t8 =>
  if t8 ≠ p0 then some ((0 : Int), false)
  else some (x7, true)
def bosketref13_Number_c1 (k : Nat) (p0 : ByteArray) (b2 : Bool) (x6 : Int) : Option (Int × Bool) :=
  if (!b2) = true then bosketref13_Number_c0 k p0 (IntKind.i64.wrap (0 - x6))
  else bosketref13_Number_c0 k p0 x6
def bosketref13_Number_c2 (k : Nat) (rec13 : (Int → Int → Option (Int × Bool))) (x12 : Int) (x19 : Int) : Option (Int × Bool) :=
  rec13 x19 (w64 (x12 + (1 : Int)))
def bosketref13_Number_l3 (k : Nat) (p0 : ByteArray) (b2 : Bool) : Nat → Int → Int → Option (Int × Bool)
  | 0, _, _ => none
  | j + 1, x11, x12 =>
    Option.bind (α := Bool) (if x12 < (p0.size : Int) then some (decide (x12 < (20 : Int)))
    else some (false)) fun b15 =>
    if b15 = true then Option.bind (α := Bool) (if 0 ≤ x12 ∧ x12 < (p0.size : Int) then if (48 : Int) ≤ (byteAt p0 x12) then if 0 ≤ x12 ∧ x12 < (p0.size : Int) then some (decide ((byteAt p0 x12) ≤ (57 : Int)))
    else none
    else some (false)
    else none) fun b20 =>
    if b20 = true then if 0 ≤ x12 ∧ x12 < (p0.size : Int) then (some (w64 ((w64 (x11 * (10 : Int))) - (w64 (w8 ((byteAt p0 x12) - (48 : Int))))))).bind fun x27 =>
    bosketref13_Number_c2 k (bosketref13_Number_l3 k p0 b2 j) x12 x27
    else none
    else bosketref13_Number_c2 k (bosketref13_Number_l3 k p0 b2 j) x12 x11
    else bosketref13_Number_c1 k p0 b2 x11
def bosketref13_Number (k : Nat) (p0 : ByteArray) : Option (Int × Bool) :=
  Option.bind (α := Bool) (if (0 : Int) < (p0.size : Int) then if 0 ≤ (0 : Int) ∧ (0 : Int) < (p0.size : Int) then some (decide ((byteAt p0 (0 : Int)) = (45 : Int)))
  else none
  else some (false)) fun b2 =>
  bosketref13_Number_l3 k p0 b2 k (0 : Int) (0 : Int)
theorem bosketref13_Number_spec {k : Nat} {p0 : ByteArray} {r : (Int × Bool)} (h : bosketref13_Number k p0 = some r) : Spec Try.prog 17 [(eStr p0)] (.tup [(eI64 r.1), (eBool r.2)]) := by
  rw [bosketref13_Number.eq_1] at h
  refine Spec.intro (res := [.tmp 2, .tmp 3]) Try.func17 rfl rfl rfl (Nat.le_of_ble_eq_true rfl) ?_
  refine AW.seq ?_
  refine AW.reg ?_
  refine AO.calm rfl 2 rfl (by decide) (eI64 (0 : Int)) (Calm.assign rfl rfl) ?_
  refine AO.calm rfl 3 rfl (by decide) (eBool false) (Calm.assign rfl rfl) ?_
  refine AO.nil (ρ' := [(0, (eStr p0))]) (H' := []) ⟨rfl, trivial⟩ (Sub.refl _) ?_
  refine AW.seq ?_
  obtain ⟨b2, hq3, h⟩ := of_bind h
  refine AW.regQM (by rfl) (by decide +kernel) [(0, (eStr p0)), (4, (eI64 (0 : Int))), (5, (eBool b2))] ?_ ?_
  · refine AQ.calm rfl 7 rfl (by decide) (eStr p0) (Calm.move rfl rfl) ?_
    refine AQ.calm rfl 8 rfl (by decide) (eI64 (p0.size : Int)) (Calm.lenStr rfl rfl Try.underlying9) ?_
    refine AQ.calm rfl 9 rfl (by decide) (eBool (decide ((0 : Int) < (p0.size : Int)))) (Calm.int rfl rfl rfl rfl) ?_
    refine AQ.calm rfl 10 rfl (by decide) (eBool (decide ((0 : Int) < (p0.size : Int)))) (Calm.move rfl rfl) ?_
    by_cases hc4 : (0 : Int) < (p0.size : Int)
    · have hq3 := (if_pos hc4).symm.trans hq3
      refine AQ.calmG 3 true 10 rfl rfl (congrArg (fun b => some (AV.fl (Value.bool b))) (decide_eq_true hc4)) 11 rfl (by decide) (eStr p0) (Calm.move rfl rfl) ?_
      obtain ⟨hg5, hq3⟩ := of_guard hq3
      refine AQ.calmG 3 true 10 rfl rfl (congrArg (fun b => some (AV.fl (Value.bool b))) (decide_eq_true hc4)) 12 rfl (by decide) (eU8 (byteAt p0 (0 : Int))) (Calm.idxS rfl rfl rfl hg5 Try.underlying9) ?_
      refine AQ.calmG 3 true 10 rfl rfl (congrArg (fun b => some (AV.fl (Value.bool b))) (decide_eq_true hc4)) 13 rfl (by decide) (eBool (decide ((byteAt p0 (0 : Int)) = (45 : Int)))) (Calm.int rfl rfl rfl rfl) ?_
      refine AQ.calm rfl 14 rfl (by decide) (eBool (decide ((byteAt p0 (0 : Int)) = (45 : Int)))) (Calm.pickT rfl (congrArg (fun b => some (AV.fl (Value.bool b))) (decide_eq_true hc4)) rfl) ?_
      refine AQ.calm rfl 4 rfl (by decide) (eI64 (0 : Int)) (Calm.assign rfl rfl) ?_
      refine AQ.calm rfl 5 rfl (by decide) (eBool (decide ((byteAt p0 (0 : Int)) = (45 : Int)))) (Calm.assign rfl rfl) ?_
      cases hq3
      refine AQ.nilE rfl ?_
      exact ⟨rfl, rfl, rfl, trivial⟩
    · have hq3 := (if_neg hc4).symm.trans hq3
      refine AQ.skipG 3 false 10 rfl rfl (congrArg (fun b => some (AV.fl (Value.bool b))) (decide_eq_false hc4)) 11 rfl (by decide) ?_
      refine AQ.skipG 3 false 10 rfl rfl (congrArg (fun b => some (AV.fl (Value.bool b))) (decide_eq_false hc4)) 12 rfl (by decide) ?_
      refine AQ.skipG 3 false 10 rfl rfl (congrArg (fun b => some (AV.fl (Value.bool b))) (decide_eq_false hc4)) 13 rfl (by decide) ?_
      refine AQ.calm rfl 14 rfl (by decide) (eBool false) (Calm.pickF rfl (congrArg (fun b => some (AV.fl (Value.bool b))) (decide_eq_false hc4)) rfl) ?_
      refine AQ.calm rfl 4 rfl (by decide) (eI64 (0 : Int)) (Calm.assign rfl rfl) ?_
      refine AQ.calm rfl 5 rfl (by decide) (eBool false) (Calm.assign rfl rfl) ?_
      cases hq3
      refine AQ.nilE rfl ?_
      exact ⟨rfl, rfl, rfl, trivial⟩
  · refine AW.seq_mid (fun ρ H => ∃ (x6 : Int), ρ = [(0, (eStr p0)), (4, (eI64 x6)), (5, (eBool b2))] ∧ H = [] ∧ bosketref13_Number_c1 k p0 b2 x6 = some r) ?_ ?_
    · refine AW.seq ?_
      refine AW.reg ?_
      refine AO.calm rfl 6 rfl (by decide) (eI64 (0 : Int)) (Calm.assign rfl rfl) ?_
      refine AO.nil (ρ' := [(0, (eStr p0)), (4, (eI64 (0 : Int))), (5, (eBool b2)), (6, (eI64 (0 : Int)))]) (H' := []) ⟨rfl, rfl, rfl, rfl, trivial⟩ (Sub.refl _) ?_
      refine AW.block ?_
      refine AW.weak (ρ' := [(0, (eStr p0)), (4, (eI64 (0 : Int))), (5, (eBool b2)), (6, (eI64 (0 : Int)))]) (H' := []) ⟨rfl, rfl, rfl, rfl, trivial⟩ (Sub.refl _) ?_
      refine AW.loop (fun kq ρ H => ∃ (x11 : Int) (x12 : Int), ρ = [(0, (eStr p0)), (4, (eI64 x11)), (5, (eBool b2)), (6, (eI64 x12))] ∧ H = [] ∧ bosketref13_Number_l3 k p0 b2 kq x11 x12 = some r) k ⟨(0 : Int), (0 : Int), rfl, rfl, h⟩ ?_
      rintro kq14 _ _ ⟨x11, x12, rfl, rfl, h⟩
      cases kq14 with
      | zero => rw [bosketref13_Number_l3.eq_1] at h; cases h
      | succ kq14 =>
      rw [bosketref13_Number_l3.eq_2] at h
      generalize hrec13 : bosketref13_Number_l3 k p0 b2 kq14 = rec13 at h
      refine AW.seq ?_
      refine AW.seq ?_
      obtain ⟨b15, hq16, h⟩ := of_bind h
      refine AW.regM [(0, (eStr p0)), (4, (eI64 x11)), (5, (eBool b2)), (6, (eI64 x12)), (22, (eBool b15))] [] ?_ ?_
      · refine AO.calm rfl 15 rfl (by decide) (eI64 x12) (Calm.move rfl rfl) ?_
        refine AO.calm rfl 16 rfl (by decide) (eStr p0) (Calm.move rfl rfl) ?_
        refine AO.calm rfl 17 rfl (by decide) (eI64 (p0.size : Int)) (Calm.lenStr rfl rfl Try.underlying9) ?_
        refine AO.calm rfl 18 rfl (by decide) (eBool (decide (x12 < (p0.size : Int)))) (Calm.int rfl rfl rfl rfl) ?_
        refine AO.calm rfl 19 rfl (by decide) (eBool (decide (x12 < (p0.size : Int)))) (Calm.move rfl rfl) ?_
        by_cases hc17 : x12 < (p0.size : Int)
        · have hq16 := (if_pos hc17).symm.trans hq16
          refine AO.calmG 4 true 19 rfl rfl (congrArg (fun b => some (AV.fl (Value.bool b))) (decide_eq_true hc17)) 20 rfl (by decide) (eI64 x12) (Calm.move rfl rfl) ?_
          refine AO.calmG 4 true 19 rfl rfl (congrArg (fun b => some (AV.fl (Value.bool b))) (decide_eq_true hc17)) 21 rfl (by decide) (eBool (decide (x12 < (20 : Int)))) (Calm.int rfl rfl rfl rfl) ?_
          refine AO.calm rfl 22 rfl (by decide) (eBool (decide (x12 < (20 : Int)))) (Calm.pickT rfl (congrArg (fun b => some (AV.fl (Value.bool b))) (decide_eq_true hc17)) rfl) ?_
          cases hq16
          refine AO.nilE ⟨rfl, rfl⟩ ?_ ?_
          · exact ⟨rfl, rfl, rfl, rfl, rfl, trivial⟩
          · exact (Sub.refl _)
        · have hq16 := (if_neg hc17).symm.trans hq16
          refine AO.skipG 4 false 19 rfl rfl (congrArg (fun b => some (AV.fl (Value.bool b))) (decide_eq_false hc17)) 20 rfl (by decide) ?_
          refine AO.skipG 4 false 19 rfl rfl (congrArg (fun b => some (AV.fl (Value.bool b))) (decide_eq_false hc17)) 21 rfl (by decide) ?_
          refine AO.calm rfl 22 rfl (by decide) (eBool false) (Calm.pickF rfl (congrArg (fun b => some (AV.fl (Value.bool b))) (decide_eq_false hc17)) rfl) ?_
          cases hq16
          refine AO.nilE ⟨rfl, rfl⟩ ?_ ?_
          · exact ⟨rfl, rfl, rfl, rfl, rfl, trivial⟩
          · exact (Sub.refl _)
      · by_cases hc18 : b15 = true
        · have h := (if_pos hc18).symm.trans h
          refine AW.condT' b15 rfl hc18 ?_
          refine AW.skip (ρ' := [(0, (eStr p0)), (4, (eI64 x11)), (5, (eBool b2)), (6, (eI64 x12))]) (H' := []) ⟨rfl, rfl, rfl, rfl, trivial⟩ (Sub.refl _) ?_
          refine AW.seq_mid (fun ρ H => ∃ (x19 : Int), ρ = [(0, (eStr p0)), (4, (eI64 x19)), (5, (eBool b2)), (6, (eI64 x12))] ∧ H = [] ∧ bosketref13_Number_c2 k rec13 x12 x19 = some r) ?_ ?_
          · refine AW.block ?_
            refine AW.seq ?_
            obtain ⟨b20, hq21, h⟩ := of_bind h
            refine AW.regM [(0, (eStr p0)), (4, (eI64 x11)), (5, (eBool b2)), (6, (eI64 x12)), (34, (eBool b20))] [] ?_ ?_
            · refine AO.calm rfl 25 rfl (by decide) (eStr p0) (Calm.move rfl rfl) ?_
              refine AO.calm rfl 26 rfl (by decide) (eI64 x12) (Calm.move rfl rfl) ?_
              obtain ⟨hg22, hq21⟩ := of_guard hq21
              refine AO.calm rfl 27 rfl (by decide) (eU8 (byteAt p0 x12)) (Calm.idxS rfl rfl rfl hg22 Try.underlying9) ?_
              refine AO.calm rfl 28 rfl (by decide) (eBool (decide ((48 : Int) ≤ (byteAt p0 x12)))) (Calm.int rfl rfl rfl rfl) ?_
              refine AO.calm rfl 29 rfl (by decide) (eBool (decide ((48 : Int) ≤ (byteAt p0 x12)))) (Calm.move rfl rfl) ?_
              by_cases hc23 : (48 : Int) ≤ (byteAt p0 x12)
              · have hq21 := (if_pos hc23).symm.trans hq21
                refine AO.calmG 4 true 29 rfl rfl (congrArg (fun b => some (AV.fl (Value.bool b))) (decide_eq_true hc23)) 30 rfl (by decide) (eStr p0) (Calm.move rfl rfl) ?_
                refine AO.calmG 4 true 29 rfl rfl (congrArg (fun b => some (AV.fl (Value.bool b))) (decide_eq_true hc23)) 31 rfl (by decide) (eI64 x12) (Calm.move rfl rfl) ?_
                obtain ⟨hg24, hq21⟩ := of_guard hq21
                refine AO.calmG 4 true 29 rfl rfl (congrArg (fun b => some (AV.fl (Value.bool b))) (decide_eq_true hc23)) 32 rfl (by decide) (eU8 (byteAt p0 x12)) (Calm.idxS rfl rfl rfl hg24 Try.underlying9) ?_
                refine AO.calmG 4 true 29 rfl rfl (congrArg (fun b => some (AV.fl (Value.bool b))) (decide_eq_true hc23)) 33 rfl (by decide) (eBool (decide ((byteAt p0 x12) ≤ (57 : Int)))) (Calm.int rfl rfl rfl rfl) ?_
                refine AO.calm rfl 34 rfl (by decide) (eBool (decide ((byteAt p0 x12) ≤ (57 : Int)))) (Calm.pickT rfl (congrArg (fun b => some (AV.fl (Value.bool b))) (decide_eq_true hc23)) rfl) ?_
                cases hq21
                refine AO.nilE ⟨rfl, rfl⟩ ?_ ?_
                · exact ⟨rfl, rfl, rfl, rfl, rfl, trivial⟩
                · exact (Sub.refl _)
              · have hq21 := (if_neg hc23).symm.trans hq21
                refine AO.skipG 4 false 29 rfl rfl (congrArg (fun b => some (AV.fl (Value.bool b))) (decide_eq_false hc23)) 30 rfl (by decide) ?_
                refine AO.skipG 4 false 29 rfl rfl (congrArg (fun b => some (AV.fl (Value.bool b))) (decide_eq_false hc23)) 31 rfl (by decide) ?_
                refine AO.skipG 4 false 29 rfl rfl (congrArg (fun b => some (AV.fl (Value.bool b))) (decide_eq_false hc23)) 32 rfl (by decide) ?_
                refine AO.skipG 4 false 29 rfl rfl (congrArg (fun b => some (AV.fl (Value.bool b))) (decide_eq_false hc23)) 33 rfl (by decide) ?_
                refine AO.calm rfl 34 rfl (by decide) (eBool false) (Calm.pickF rfl (congrArg (fun b => some (AV.fl (Value.bool b))) (decide_eq_false hc23)) rfl) ?_
                cases hq21
                refine AO.nilE ⟨rfl, rfl⟩ ?_ ?_
                · exact ⟨rfl, rfl, rfl, rfl, rfl, trivial⟩
                · exact (Sub.refl _)
            · by_cases hc25 : b20 = true
              · have h := (if_pos hc25).symm.trans h
                refine AW.condT' b20 rfl hc25 ?_
                refine AW.reg ?_
                refine AO.calm rfl 35 rfl (by decide) (eI64 x11) (Calm.move rfl rfl) ?_
                refine AO.calm rfl 36 rfl (by decide) (eI64 (w64 (x11 * (10 : Int)))) (Calm.int rfl rfl rfl rfl) ?_
                refine AO.calm rfl 37 rfl (by decide) (eStr p0) (Calm.move rfl rfl) ?_
                refine AO.calm rfl 38 rfl (by decide) (eI64 x12) (Calm.move rfl rfl) ?_
                obtain ⟨hg26, h⟩ := of_guard h
                refine AO.calm rfl 39 rfl (by decide) (eU8 (byteAt p0 x12)) (Calm.idxS rfl rfl rfl hg26 Try.underlying9) ?_
                refine AO.calm rfl 40 rfl (by decide) (eU8 (w8 ((byteAt p0 x12) - (48 : Int)))) (Calm.int rfl rfl rfl rfl) ?_
                refine AO.calm rfl 41 rfl (by decide) (eI64 (w64 (w8 ((byteAt p0 x12) - (48 : Int))))) (Calm.conv rfl rfl Try.underlying5 Try.underlying3) ?_
                refine AO.calm rfl 42 rfl (by decide) (eI64 (w64 ((w64 (x11 * (10 : Int))) - (w64 (w8 ((byteAt p0 x12) - (48 : Int))))))) (Calm.int rfl rfl rfl rfl) ?_
                obtain ⟨x27, ex27, h⟩ := of_bind h
                refine AO.calm rfl 4 rfl (by decide) (eI64 x27) (Calm.assign rfl (congrArg (fun x => some (eI64 x)) (Option.some.inj ex27))) ?_
                refine AO.nil (ρ' := [(0, (eStr p0)), (4, (eI64 x27)), (5, (eBool b2)), (6, (eI64 x12))]) (H' := []) ⟨rfl, rfl, rfl, rfl, trivial⟩ (Sub.refl _) ?_
                exact ⟨x27, rfl, rfl, h⟩
              · have h := (if_neg hc25).symm.trans h
                refine AW.condF' b20 rfl hc25 ?_
                refine AW.skip (ρ' := [(0, (eStr p0)), (4, (eI64 x11)), (5, (eBool b2)), (6, (eI64 x12))]) (H' := []) ⟨rfl, rfl, rfl, rfl, trivial⟩ (Sub.refl _) ?_
                exact ⟨x11, rfl, rfl, h⟩
          · rintro _ _ ⟨x19, rfl, rfl, h⟩
            rw [bosketref13_Number_c2.eq_1] at h
            refine AW.reg ?_
            refine AO.calm rfl 23 rfl (by decide) (eI64 x12) (Calm.move rfl rfl) ?_
            refine AO.calm rfl 24 rfl (by decide) (eI64 (w64 (x12 + (1 : Int)))) (Calm.int rfl rfl rfl rfl) ?_
            refine AO.calm rfl 6 rfl (by decide) (eI64 (w64 (x12 + (1 : Int)))) (Calm.assign rfl rfl) ?_
            refine AO.nil (ρ' := [(0, (eStr p0)), (4, (eI64 x19)), (5, (eBool b2)), (6, (eI64 (w64 (x12 + (1 : Int)))))]) (H' := []) ⟨rfl, rfl, rfl, rfl, trivial⟩ (Sub.refl _) ?_
            exact ⟨kq14, Nat.lt_succ_self _, x19, (w64 (x12 + (1 : Int))), rfl, rfl, by rw [hrec13]; exact h⟩
        · have h := (if_neg hc18).symm.trans h
          refine AW.condF' b15 rfl hc18 ?_
          refine AW.exit (ρ' := [(0, (eStr p0)), (4, (eI64 x11)), (5, (eBool b2))]) (H' := []) ⟨rfl, rfl, rfl, trivial⟩ (Sub.refl _) ?_
          exact ⟨x11, rfl, rfl, h⟩
    · rintro _ _ ⟨x6, rfl, rfl, h⟩
      rw [bosketref13_Number_c1.eq_1] at h
      refine AW.seq_mid (fun ρ H => ∃ (x7 : Int), ρ = [(0, (eStr p0)), (4, (eI64 x7))] ∧ H = [] ∧ bosketref13_Number_c0 k p0 x7 = some r) ?_ ?_
      · refine AW.seq ?_
        refine AW.reg ?_
        refine AO.calm rfl 43 rfl (by decide) (eBool b2) (Calm.move rfl rfl) ?_
        refine AO.calm rfl 44 rfl (by decide) (eBool (!b2)) (Calm.not rfl rfl) ?_
        refine AO.nil (ρ' := [(0, (eStr p0)), (4, (eI64 x6)), (44, (eBool (!b2)))]) (H' := []) ⟨rfl, rfl, rfl, trivial⟩ (Sub.refl _) ?_
        by_cases hc10 : (!b2) = true
        · have h := (if_pos hc10).symm.trans h
          refine AW.condT' (!b2) rfl hc10 ?_
          refine AW.reg ?_
          refine AO.calm rfl 45 rfl (by decide) (eI64 x6) (Calm.move rfl rfl) ?_
          refine AO.calm rfl 46 rfl (by decide) (eI64 (IntKind.i64.wrap (0 - x6))) (Calm.neg rfl rfl) ?_
          refine AO.calm rfl 4 rfl (by decide) (eI64 (IntKind.i64.wrap (0 - x6))) (Calm.assign rfl rfl) ?_
          refine AO.nil (ρ' := [(0, (eStr p0)), (4, (eI64 (IntKind.i64.wrap (0 - x6))))]) (H' := []) ⟨rfl, rfl, trivial⟩ (Sub.refl _) ?_
          exact ⟨(IntKind.i64.wrap (0 - x6)), rfl, rfl, h⟩
        · have h := (if_neg hc10).symm.trans h
          refine AW.condF' (!b2) rfl hc10 ?_
          refine AW.skip (ρ' := [(0, (eStr p0)), (4, (eI64 x6))]) (H' := []) ⟨rfl, rfl, trivial⟩ (Sub.refl _) ?_
          exact ⟨x6, rfl, rfl, h⟩
      · rintro _ _ ⟨x7, rfl, rfl, h⟩
        rw [bosketref13_Number_c0.eq_1] at h
        refine AW.seq ?_
        refine AW.seq ?_
        refine AW.reg ?_
        refine AO.calm rfl 47 rfl (by decide) (eI64 x7) (Calm.move rfl rfl) ?_
        obtain ⟨t8, et8, h⟩ := of_bind h
        refine AO.callS [(eI64 x7)] (eStr t8) 48 rfl (by decide) ok19 rfl rfl rfl ⟨rfl, rfl, trivial⟩ (bosketref13_Digits_spec et8) ?_
        refine AO.calm rfl 49 rfl (by decide) (eStr p0) (Calm.move rfl rfl) ?_
        refine AO.calm rfl 50 rfl (by decide) (eBool (decide (t8 ≠ p0))) (Calm.str rfl rfl rfl rfl) ?_
        refine AO.nil (ρ' := [(4, (eI64 x7)), (50, (eBool (decide (t8 ≠ p0))))]) (H' := []) ⟨rfl, rfl, trivial⟩ (Sub.refl _) ?_
        by_cases hc9 : t8 ≠ p0
        · have h := (if_pos hc9).symm.trans h
          refine AW.condP (t8 ≠ p0) rfl hc9 ?_
          refine AW.seq ?_
          refine AW.reg ?_
          refine AO.calm rfl 2 rfl (by decide) (eI64 (0 : Int)) (Calm.assign rfl rfl) ?_
          refine AO.calm rfl 3 rfl (by decide) (eBool false) (Calm.assign rfl rfl) ?_
          refine AO.nil (ρ' := [(2, (eI64 (0 : Int))), (3, (eBool false))]) (H' := []) ⟨rfl, rfl, trivial⟩ (Sub.refl _) ?_
          refine AW.ret (ρ' := [(2, (eI64 (0 : Int))), (3, (eBool false))]) (H' := []) ⟨rfl, rfl, trivial⟩ (Sub.refl _) ?_
          have hr := Option.some.inj h
          subst hr
          exact ⟨[(eI64 (0 : Int)), (eBool false)], ⟨rfl, rfl, rfl, rfl, trivial⟩, rfl⟩
        · have h := (if_neg hc9).symm.trans h
          refine AW.condN (t8 ≠ p0) rfl hc9 ?_
          refine AW.skip (ρ' := [(4, (eI64 x7))]) (H' := []) ⟨rfl, trivial⟩ (Sub.refl _) ?_
          refine AW.seq ?_
          refine AW.reg ?_
          refine AO.calm rfl 51 rfl (by decide) (eI64 x7) (Calm.move rfl rfl) ?_
          refine AO.calm rfl 2 rfl (by decide) (eI64 x7) (Calm.assign rfl rfl) ?_
          refine AO.calm rfl 3 rfl (by decide) (eBool true) (Calm.assign rfl rfl) ?_
          refine AO.nil (ρ' := [(2, (eI64 x7)), (3, (eBool true))]) (H' := []) ⟨rfl, rfl, trivial⟩ (Sub.refl _) ?_
          refine AW.ret (ρ' := [(2, (eI64 x7)), (3, (eBool true))]) (H' := []) ⟨rfl, rfl, trivial⟩ (Sub.refl _) ?_
          have hr := Option.some.inj h
          subst hr
          exact ⟨[(eI64 x7), (eBool true)], ⟨rfl, rfl, rfl, rfl, trivial⟩, rfl⟩
end Go.Avl.T2
/- bosket/escape.letter; printed by avmain.py. -/
namespace Go.Avl.T2
open Go Go.RowKit Go.Proofs Go.Avl
set_option linter.unusedVariables false
set_option maxRecDepth 100000
set_option maxHeartbeats 4000000
attribute [local irreducible] AW AO AQ Spec SpecH Calm

def escape_letter (k : Nat) (p0 : Int) : Option Int :=
  if p0 = (10 : Int) then some ((110 : Int))
  else if p0 = (9 : Int) then some ((116 : Int))
  else if p0 = (13 : Int) then some ((114 : Int))
  else some ((0 : Int))
theorem escape_letter_spec {k : Nat} {p0 : Int} {r : Int} (h : escape_letter k p0 = some r) : Spec Try.prog 95 [(eU8 p0)] (eU8 r) := by
  rw [escape_letter.eq_1] at h
  refine Spec.intro (res := [.tmp 2]) Try.func95 rfl rfl rfl (Nat.le_of_ble_eq_true rfl) ?_
  refine AW.seq ?_
  refine AW.reg ?_
  refine AO.calm rfl 2 rfl (by decide) (eU8 (0 : Int)) (Calm.assign rfl rfl) ?_
  refine AO.nil (ρ' := [(0, (eU8 p0))]) (H' := []) ⟨rfl, trivial⟩ (Sub.refl _) ?_
  refine AW.seq ?_
  refine AW.seq ?_
  refine AW.reg ?_
  refine AO.calm rfl 3 rfl (by decide) (eU8 p0) (Calm.move rfl rfl) ?_
  refine AO.nil (ρ' := [(3, (eU8 p0))]) (H' := []) ⟨rfl, trivial⟩ (Sub.refl _) ?_
  refine AW.block ?_
  refine AW.seq ?_
  refine AW.reg ?_
  refine AO.calm rfl 5 rfl (by decide) (eBool (decide (p0 = (10 : Int)))) (Calm.int rfl rfl rfl rfl) ?_
  refine AO.calm rfl 4 rfl (by decide) (eBool (decide (p0 = (10 : Int)))) (Calm.assign rfl rfl) ?_
  refine AO.nil (ρ' := [(3, (eU8 p0)), (4, (eBool (decide (p0 = (10 : Int)))))]) (H' := []) ⟨rfl, rfl, trivial⟩ (Sub.refl _) ?_
  by_cases hc2 : p0 = (10 : Int)
  · have h := (if_pos hc2).symm.trans h
    refine AW.condP (p0 = (10 : Int)) rfl hc2 ?_
    refine AW.seq ?_
    refine AW.reg ?_
    refine AO.calm rfl 2 rfl (by decide) (eU8 (110 : Int)) (Calm.assign rfl rfl) ?_
    refine AO.nil (ρ' := [(2, (eU8 (110 : Int)))]) (H' := []) ⟨rfl, trivial⟩ (Sub.refl _) ?_
    refine AW.ret (ρ' := [(2, (eU8 (110 : Int)))]) (H' := []) ⟨rfl, trivial⟩ (Sub.refl _) ?_
    have hr := Option.some.inj h
    subst hr
    exact ⟨[(eU8 (110 : Int))], ⟨rfl, rfl, trivial⟩, rfl⟩
  · have h := (if_neg hc2).symm.trans h
    refine AW.condN (p0 = (10 : Int)) rfl hc2 ?_
    refine AW.seq ?_
    refine AW.reg ?_
    refine AO.calm rfl 7 rfl (by decide) (eBool (decide (p0 = (9 : Int)))) (Calm.int rfl rfl rfl rfl) ?_
    refine AO.calm rfl 6 rfl (by decide) (eBool (decide (p0 = (9 : Int)))) (Calm.assign rfl rfl) ?_
    refine AO.nil (ρ' := [(3, (eU8 p0)), (6, (eBool (decide (p0 = (9 : Int)))))]) (H' := []) ⟨rfl, rfl, trivial⟩ (Sub.refl _) ?_
    by_cases hc3 : p0 = (9 : Int)
    · have h := (if_pos hc3).symm.trans h
      refine AW.condP (p0 = (9 : Int)) rfl hc3 ?_
      refine AW.seq ?_
      refine AW.reg ?_
      refine AO.calm rfl 2 rfl (by decide) (eU8 (116 : Int)) (Calm.assign rfl rfl) ?_
      refine AO.nil (ρ' := [(2, (eU8 (116 : Int)))]) (H' := []) ⟨rfl, trivial⟩ (Sub.refl _) ?_
      refine AW.ret (ρ' := [(2, (eU8 (116 : Int)))]) (H' := []) ⟨rfl, trivial⟩ (Sub.refl _) ?_
      have hr := Option.some.inj h
      subst hr
      exact ⟨[(eU8 (116 : Int))], ⟨rfl, rfl, trivial⟩, rfl⟩
    · have h := (if_neg hc3).symm.trans h
      refine AW.condN (p0 = (9 : Int)) rfl hc3 ?_
      refine AW.seq ?_
      refine AW.reg ?_
      refine AO.calm rfl 9 rfl (by decide) (eBool (decide (p0 = (13 : Int)))) (Calm.int rfl rfl rfl rfl) ?_
      refine AO.calm rfl 8 rfl (by decide) (eBool (decide (p0 = (13 : Int)))) (Calm.assign rfl rfl) ?_
      refine AO.nil (ρ' := [(8, (eBool (decide (p0 = (13 : Int)))))]) (H' := []) ⟨rfl, trivial⟩ (Sub.refl _) ?_
      by_cases hc4 : p0 = (13 : Int)
      · have h := (if_pos hc4).symm.trans h
        refine AW.condP (p0 = (13 : Int)) rfl hc4 ?_
        refine AW.seq ?_
        refine AW.reg ?_
        refine AO.calm rfl 2 rfl (by decide) (eU8 (114 : Int)) (Calm.assign rfl rfl) ?_
        refine AO.nil (ρ' := [(2, (eU8 (114 : Int)))]) (H' := []) ⟨rfl, trivial⟩ (Sub.refl _) ?_
        refine AW.ret (ρ' := [(2, (eU8 (114 : Int)))]) (H' := []) ⟨rfl, trivial⟩ (Sub.refl _) ?_
        have hr := Option.some.inj h
        subst hr
        exact ⟨[(eU8 (114 : Int))], ⟨rfl, rfl, trivial⟩, rfl⟩
      · have h := (if_neg hc4).symm.trans h
        refine AW.condN (p0 = (13 : Int)) rfl hc4 ?_
        refine AW.skip (ρ' := []) (H' := []) trivial (Sub.refl _) ?_
        refine AW.seq ?_
        refine AW.reg ?_
        refine AO.calm rfl 2 rfl (by decide) (eU8 (0 : Int)) (Calm.assign rfl rfl) ?_
        refine AO.nil (ρ' := [(2, (eU8 (0 : Int)))]) (H' := []) ⟨rfl, trivial⟩ (Sub.refl _) ?_
        refine AW.ret (ρ' := [(2, (eU8 (0 : Int)))]) (H' := []) ⟨rfl, trivial⟩ (Sub.refl _) ?_
        have hr := Option.some.inj h
        subst hr
        exact ⟨[(eU8 (0 : Int))], ⟨rfl, rfl, trivial⟩, rfl⟩
end Go.Avl.T2
/- bosket/escape.digit; printed by avmain.py. -/
namespace Go.Avl.T2
open Go Go.RowKit Go.Proofs Go.Avl
set_option linter.unusedVariables false
set_option maxRecDepth 100000
set_option maxHeartbeats 4000000
attribute [local irreducible] AW AO AQ Spec SpecH Calm

def escape_digit (k : Nat) (p0 : Int) : Option Int :=
  if p0 < (10 : Int) then some ((w8 ((48 : Int) + p0)))
  else some ((w8 ((w8 ((97 : Int) + p0)) - (10 : Int))))
theorem escape_digit_spec {k : Nat} {p0 : Int} {r : Int} (h : escape_digit k p0 = some r) : Spec Try.prog 96 [(eU8 p0)] (eU8 r) := by
  rw [escape_digit.eq_1] at h
  refine Spec.intro (res := [.tmp 2]) Try.func96 rfl rfl rfl (Nat.le_of_ble_eq_true rfl) ?_
  refine AW.seq ?_
  refine AW.reg ?_
  refine AO.calm rfl 2 rfl (by decide) (eU8 (0 : Int)) (Calm.assign rfl rfl) ?_
  refine AO.nil (ρ' := [(0, (eU8 p0))]) (H' := []) ⟨rfl, trivial⟩ (Sub.refl _) ?_
  refine AW.seq ?_
  refine AW.seq ?_
  refine AW.reg ?_
  refine AO.calm rfl 3 rfl (by decide) (eU8 p0) (Calm.move rfl rfl) ?_
  refine AO.calm rfl 4 rfl (by decide) (eBool (decide (p0 < (10 : Int)))) (Calm.int rfl rfl rfl rfl) ?_
  refine AO.nil (ρ' := [(0, (eU8 p0)), (4, (eBool (decide (p0 < (10 : Int)))))]) (H' := []) ⟨rfl, rfl, trivial⟩ (Sub.refl _) ?_
  by_cases hc2 : p0 < (10 : Int)
  · have h := (if_pos hc2).symm.trans h
    refine AW.condP (p0 < (10 : Int)) rfl hc2 ?_
    refine AW.seq ?_
    refine AW.reg ?_
    refine AO.calm rfl 5 rfl (by decide) (eU8 p0) (Calm.move rfl rfl) ?_
    refine AO.calm rfl 6 rfl (by decide) (eU8 (w8 ((48 : Int) + p0))) (Calm.int rfl rfl rfl rfl) ?_
    refine AO.calm rfl 2 rfl (by decide) (eU8 (w8 ((48 : Int) + p0))) (Calm.assign rfl rfl) ?_
    refine AO.nil (ρ' := [(2, (eU8 (w8 ((48 : Int) + p0))))]) (H' := []) ⟨rfl, trivial⟩ (Sub.refl _) ?_
    refine AW.ret (ρ' := [(2, (eU8 (w8 ((48 : Int) + p0))))]) (H' := []) ⟨rfl, trivial⟩ (Sub.refl _) ?_
    have hr := Option.some.inj h
    subst hr
    exact ⟨[(eU8 (w8 ((48 : Int) + p0)))], ⟨rfl, rfl, trivial⟩, rfl⟩
  · have h := (if_neg hc2).symm.trans h
    refine AW.condN (p0 < (10 : Int)) rfl hc2 ?_
    refine AW.skip (ρ' := [(0, (eU8 p0))]) (H' := []) ⟨rfl, trivial⟩ (Sub.refl _) ?_
    refine AW.seq ?_
    refine AW.reg ?_
    refine AO.calm rfl 7 rfl (by decide) (eU8 p0) (Calm.move rfl rfl) ?_
    refine AO.calm rfl 8 rfl (by decide) (eU8 (w8 ((97 : Int) + p0))) (Calm.int rfl rfl rfl rfl) ?_
    refine AO.calm rfl 9 rfl (by decide) (eU8 (w8 ((w8 ((97 : Int) + p0)) - (10 : Int)))) (Calm.int rfl rfl rfl rfl) ?_
    refine AO.calm rfl 2 rfl (by decide) (eU8 (w8 ((w8 ((97 : Int) + p0)) - (10 : Int)))) (Calm.assign rfl rfl) ?_
    refine AO.nil (ρ' := [(2, (eU8 (w8 ((w8 ((97 : Int) + p0)) - (10 : Int)))))]) (H' := []) ⟨rfl, trivial⟩ (Sub.refl _) ?_
    refine AW.ret (ρ' := [(2, (eU8 (w8 ((w8 ((97 : Int) + p0)) - (10 : Int)))))]) (H' := []) ⟨rfl, trivial⟩ (Sub.refl _) ?_
    have hr := Option.some.inj h
    subst hr
    exact ⟨[(eU8 (w8 ((w8 ((97 : Int) + p0)) - (10 : Int))))], ⟨rfl, rfl, trivial⟩, rfl⟩
end Go.Avl.T2
/- bosket/escape.Byte; printed by avmain.py. -/
namespace Go.Avl.T2
open Go Go.RowKit Go.Proofs Go.Avl
set_option linter.unusedVariables false
set_option maxRecDepth 100000
set_option maxHeartbeats 4000000
attribute [local irreducible] AW AO AQ Spec SpecH Calm

def escape_Byte_c0 (k : Nat) (p0 : Int) : Option ByteArray :=
  some ((strOfNums ([p0] : List Int)))
def escape_Byte_l1 (k : Nat) (p0 : Int) (p1 : ByteArray) : Nat → Int → Option ByteArray
  | 0, _ => none
  | j + 1, x15 =>
    if x15 < (p1.size : Int) then if 0 ≤ x15 ∧ x15 < (p1.size : Int) then if (byteAt p1 x15) = p0 then some ((strOfNums ([(92 : Int), p0] : List Int)))
    else (escape_Byte_l1 k p0 p1 j) (w64 (x15 + (1 : Int)))
    else none
    else escape_Byte_c0 k p0
def escape_Byte (k : Nat) (p0 : Int) (p1 : ByteArray) : Option ByteArray :=
  (escape_letter k p0).bind fun t3 =>
  if t3 ≠ (0 : Int) then some ((strOfNums ([(92 : Int), t3] : List Int)))
  else Option.bind (α := Bool) (if p0 < (32 : Int) then some (true)
  else some (decide ((126 : Int) < p0))) fun b6 =>
  if b6 = true then (escape_digit k (Int.fdiv p0 (2 ^ (min (4 : Int).toNat IntKind.u8.bits)))).bind fun t10 =>
  (escape_digit k (bits .and .u8 p0 (15 : Int))).bind fun t11 =>
  some ((strOfNums ([(92 : Int), (120 : Int), t10, t11] : List Int)))
  else if p0 = (92 : Int) then some ((ByteArray.mk #[92, 92]))
  else escape_Byte_l1 k p0 p1 k (0 : Int)
theorem escape_Byte_spec {k : Nat} {p0 : Int} {p1 : ByteArray} {r : ByteArray} (h : escape_Byte k p0 p1 = some r) : Spec Try.prog 81 [(eU8 p0), (eStr p1)] (eStr r) := by
  rw [escape_Byte.eq_1] at h
  refine Spec.intro (res := [.tmp 4]) Try.func81 rfl rfl rfl (Nat.le_of_ble_eq_true rfl) ?_
  refine AW.seq ?_
  refine AW.reg ?_
  refine AO.calm rfl 4 rfl (by decide) (eStr (ByteArray.mk #[])) (Calm.assign rfl rfl) ?_
  refine AO.nil (ρ' := [(0, (eU8 p0)), (1, (eStr p1))]) (H' := []) ⟨rfl, rfl, trivial⟩ (Sub.refl _) ?_
  refine AW.seq ?_
  refine AW.seq ?_
  refine AW.reg ?_
  refine AO.calm rfl 7 rfl (by decide) (eU8 p0) (Calm.move rfl rfl) ?_
  obtain ⟨t3, et3, h⟩ := of_bind h
  refine AO.callS [(eU8 p0)] (eU8 t3) 8 rfl (by decide) ok95 rfl rfl rfl ⟨rfl, rfl, trivial⟩ (escape_letter_spec et3) ?_
  refine AO.calm rfl 5 rfl (by decide) (eU8 t3) (Calm.assign rfl rfl) ?_
  refine AO.nil (ρ' := [(0, (eU8 p0)), (1, (eStr p1)), (5, (eU8 t3))]) (H' := []) ⟨rfl, rfl, rfl, trivial⟩ (Sub.refl _) ?_
  refine AW.seq ?_
  refine AW.reg ?_
  refine AO.calm rfl 9 rfl (by decide) (eU8 t3) (Calm.move rfl rfl) ?_
  refine AO.calm rfl 10 rfl (by decide) (eBool (decide (t3 ≠ (0 : Int)))) (Calm.int rfl rfl rfl rfl) ?_
  refine AO.nil (ρ' := [(0, (eU8 p0)), (1, (eStr p1)), (5, (eU8 t3)), (10, (eBool (decide (t3 ≠ (0 : Int)))))]) (H' := []) ⟨rfl, rfl, rfl, rfl, trivial⟩ (Sub.refl _) ?_
  by_cases hc4 : t3 ≠ (0 : Int)
  · have h := (if_pos hc4).symm.trans h
    refine AW.condP (t3 ≠ (0 : Int)) rfl hc4 ?_
    refine AW.seq ?_
    refine AW.reg ?_
    refine AO.calm rfl 11 rfl (by decide) (eU8 t3) (Calm.move rfl rfl) ?_
    refine AO.lit (Z := (eU8 (0 : Int))) (xs := (([(92 : Int), t3] : List Int).map eU8)) (qs := [(0, (eU8 (92 : Int))), (1, (eU8 t3))]) rfl 12 rfl (by decide) rfl ⟨rfl, rfl, rfl, rfl, rfl, rfl, trivial⟩ Try.underlying84 sz5 zr5 lay5 rfl (by decide) (litOK (z := 1) [(eU8 (92 : Int)), (eU8 t3)] rfl ⟨⟨rfl, rfl⟩, ⟨rfl, rfl⟩, trivial⟩) rfl fun n5 => ?_
    refine AO.calm rfl 13 rfl (by decide) (eStr (strOfNums ([(92 : Int), t3] : List Int))) (Calm.strO 0 rfl rfl rfl Try.underlying84 Try.underlying9 Try.underlying5) ?_
    refine AO.calm rfl 4 rfl (by decide) (eStr (strOfNums ([(92 : Int), t3] : List Int))) (Calm.assign rfl rfl) ?_
    refine AO.nil (ρ' := [(4, (eStr (strOfNums ([(92 : Int), t3] : List Int))))]) (H' := []) ⟨rfl, trivial⟩ (Sub.nil _) ?_
    refine AW.ret (ρ' := [(4, (eStr (strOfNums ([(92 : Int), t3] : List Int))))]) (H' := []) ⟨rfl, trivial⟩ (Sub.refl _) ?_
    have hr := Option.some.inj h
    subst hr
    exact ⟨[(eStr (strOfNums ([(92 : Int), t3] : List Int)))], ⟨rfl, rfl, trivial⟩, rfl⟩
  · have h := (if_neg hc4).symm.trans h
    refine AW.condN (t3 ≠ (0 : Int)) rfl hc4 ?_
    refine AW.skip (ρ' := [(0, (eU8 p0)), (1, (eStr p1))]) (H' := []) ⟨rfl, rfl, trivial⟩ (Sub.refl _) ?_
    refine AW.seq ?_
    refine AW.seq ?_
    obtain ⟨b6, hq7, h⟩ := of_bind h
    refine AW.regM [(0, (eU8 p0)), (1, (eStr p1)), (19, (eBool b6))] [] ?_ ?_
    · refine AO.calm rfl 14 rfl (by decide) (eU8 p0) (Calm.move rfl rfl) ?_
      refine AO.calm rfl 15 rfl (by decide) (eBool (decide (p0 < (32 : Int)))) (Calm.int rfl rfl rfl rfl) ?_
      refine AO.calm rfl 16 rfl (by decide) (eBool (decide (p0 < (32 : Int)))) (Calm.move rfl rfl) ?_
      by_cases hc8 : p0 < (32 : Int)
      · have hq7 := (if_pos hc8).symm.trans hq7
        refine AO.skipG 2 true 16 rfl rfl (congrArg (fun b => some (AV.fl (Value.bool b))) (decide_eq_true hc8)) 17 rfl (by decide) ?_
        refine AO.skipG 2 true 16 rfl rfl (congrArg (fun b => some (AV.fl (Value.bool b))) (decide_eq_true hc8)) 18 rfl (by decide) ?_
        refine AO.calm rfl 19 rfl (by decide) (eBool true) (Calm.pickT rfl (congrArg (fun b => some (AV.fl (Value.bool b))) (decide_eq_true hc8)) rfl) ?_
        cases hq7
        refine AO.nilE ⟨rfl, rfl⟩ ?_ ?_
        · exact ⟨rfl, rfl, rfl, trivial⟩
        · exact (Sub.refl _)
      · have hq7 := (if_neg hc8).symm.trans hq7
        refine AO.calmG 2 false 16 rfl rfl (congrArg (fun b => some (AV.fl (Value.bool b))) (decide_eq_false hc8)) 17 rfl (by decide) (eU8 p0) (Calm.move rfl rfl) ?_
        refine AO.calmG 2 false 16 rfl rfl (congrArg (fun b => some (AV.fl (Value.bool b))) (decide_eq_false hc8)) 18 rfl (by decide) (eBool (decide ((126 : Int) < p0))) (Calm.int rfl rfl rfl rfl) ?_
        refine AO.calm rfl 19 rfl (by decide) (eBool (decide ((126 : Int) < p0))) (Calm.pickF rfl (congrArg (fun b => some (AV.fl (Value.bool b))) (decide_eq_false hc8)) rfl) ?_
        cases hq7
        refine AO.nilE ⟨rfl, rfl⟩ ?_ ?_
        · exact ⟨rfl, rfl, rfl, trivial⟩
        · exact (Sub.refl _)
    · by_cases hc9 : b6 = true
      · have h := (if_pos hc9).symm.trans h
        refine AW.condT' b6 rfl hc9 ?_
        refine AW.seq ?_
        refine AW.reg ?_
        refine AO.calm rfl 20 rfl (by decide) (eU8 p0) (Calm.move rfl rfl) ?_
        refine AO.calm rfl 21 rfl (by decide) (eU8 (Int.fdiv p0 (2 ^ (min (4 : Int).toNat IntKind.u8.bits)))) (Calm.shr rfl rfl rfl (by decide)) ?_
        obtain ⟨t10, et10, h⟩ := of_bind h
        refine AO.callS [(eU8 (Int.fdiv p0 (2 ^ (min (4 : Int).toNat IntKind.u8.bits))))] (eU8 t10) 22 rfl (by decide) ok96 rfl rfl rfl ⟨rfl, rfl, trivial⟩ (escape_digit_spec et10) ?_
        refine AO.calm rfl 23 rfl (by decide) (eU8 p0) (Calm.move rfl rfl) ?_
        refine AO.calm rfl 24 rfl (by decide) (eU8 (bits .and .u8 p0 (15 : Int))) (Calm.int rfl rfl rfl rfl) ?_
        obtain ⟨t11, et11, h⟩ := of_bind h
        refine AO.callS [(eU8 (bits .and .u8 p0 (15 : Int)))] (eU8 t11) 25 rfl (by decide) ok96 rfl rfl rfl ⟨rfl, rfl, trivial⟩ (escape_digit_spec et11) ?_
        refine AO.lit (Z := (eU8 (0 : Int))) (xs := (([(92 : Int), (120 : Int), t10, t11] : List Int).map eU8)) (qs := [(0, (eU8 (92 : Int))), (1, (eU8 (120 : Int))), (2, (eU8 t10)), (3, (eU8 t11))]) rfl 26 rfl (by decide) rfl ⟨rfl, rfl, rfl, rfl, rfl, rfl, rfl, rfl, rfl, rfl, rfl, rfl, trivial⟩ Try.underlying84 sz5 zr5 lay5 rfl (by decide) (litOK (z := 1) [(eU8 (92 : Int)), (eU8 (120 : Int)), (eU8 t10), (eU8 t11)] rfl ⟨⟨rfl, rfl⟩, ⟨rfl, rfl⟩, ⟨rfl, rfl⟩, ⟨rfl, rfl⟩, trivial⟩) rfl fun n12 => ?_
        refine AO.calm rfl 27 rfl (by decide) (eStr (strOfNums ([(92 : Int), (120 : Int), t10, t11] : List Int))) (Calm.strO 0 rfl rfl rfl Try.underlying84 Try.underlying9 Try.underlying5) ?_
        refine AO.calm rfl 4 rfl (by decide) (eStr (strOfNums ([(92 : Int), (120 : Int), t10, t11] : List Int))) (Calm.assign rfl rfl) ?_
        refine AO.nil (ρ' := [(4, (eStr (strOfNums ([(92 : Int), (120 : Int), t10, t11] : List Int))))]) (H' := []) ⟨rfl, trivial⟩ (Sub.nil _) ?_
        refine AW.ret (ρ' := [(4, (eStr (strOfNums ([(92 : Int), (120 : Int), t10, t11] : List Int))))]) (H' := []) ⟨rfl, trivial⟩ (Sub.refl _) ?_
        have hr := Option.some.inj h
        subst hr
        exact ⟨[(eStr (strOfNums ([(92 : Int), (120 : Int), t10, t11] : List Int)))], ⟨rfl, rfl, trivial⟩, rfl⟩
      · have h := (if_neg hc9).symm.trans h
        refine AW.condF' b6 rfl hc9 ?_
        refine AW.skip (ρ' := [(0, (eU8 p0)), (1, (eStr p1))]) (H' := []) ⟨rfl, rfl, trivial⟩ (Sub.refl _) ?_
        refine AW.seq ?_
        refine AW.seq ?_
        refine AW.reg ?_
        refine AO.calm rfl 28 rfl (by decide) (eU8 p0) (Calm.move rfl rfl) ?_
        refine AO.calm rfl 29 rfl (by decide) (eBool (decide (p0 = (92 : Int)))) (Calm.int rfl rfl rfl rfl) ?_
        refine AO.nil (ρ' := [(0, (eU8 p0)), (1, (eStr p1)), (29, (eBool (decide (p0 = (92 : Int)))))]) (H' := []) ⟨rfl, rfl, rfl, trivial⟩ (Sub.refl _) ?_
        by_cases hc13 : p0 = (92 : Int)
        · have h := (if_pos hc13).symm.trans h
          refine AW.condP (p0 = (92 : Int)) rfl hc13 ?_
          refine AW.seq ?_
          refine AW.reg ?_
          refine AO.calm rfl 4 rfl (by decide) (eStr (ByteArray.mk #[92, 92])) (Calm.assign rfl rfl) ?_
          refine AO.nil (ρ' := [(4, (eStr (ByteArray.mk #[92, 92])))]) (H' := []) ⟨rfl, trivial⟩ (Sub.refl _) ?_
          refine AW.ret (ρ' := [(4, (eStr (ByteArray.mk #[92, 92])))]) (H' := []) ⟨rfl, trivial⟩ (Sub.refl _) ?_
          have hr := Option.some.inj h
          subst hr
          exact ⟨[(eStr (ByteArray.mk #[92, 92]))], ⟨rfl, rfl, trivial⟩, rfl⟩
        · have h := (if_neg hc13).symm.trans h
          refine AW.condN (p0 = (92 : Int)) rfl hc13 ?_
          refine AW.skip (ρ' := [(0, (eU8 p0)), (1, (eStr p1))]) (H' := []) ⟨rfl, rfl, trivial⟩ (Sub.refl _) ?_
          refine AW.seq_mid (fun ρ H => ρ = [(0, (eU8 p0))] ∧ H = [] ∧ escape_Byte_c0 k p0 = some r) ?_ ?_
          · refine AW.seq ?_
            refine AW.reg ?_
            refine AO.calm rfl 30 rfl (by decide) (eStr p1) (Calm.move rfl rfl) ?_
            refine AO.calm rfl 31 rfl (by decide) (eI64 (p1.size : Int)) (Calm.lenStr rfl rfl Try.underlying9) ?_
            refine AO.calm rfl 32 rfl (by decide) (eI64 (0 : Int)) (Calm.move rfl rfl) ?_
            refine AO.nil (ρ' := [(0, (eU8 p0)), (1, (eStr p1)), (31, (eI64 (p1.size : Int))), (32, (eI64 (0 : Int)))]) (H' := []) ⟨rfl, rfl, rfl, rfl, trivial⟩ (Sub.refl _) ?_
            refine AW.block ?_
            refine AW.weak (ρ' := [(0, (eU8 p0)), (1, (eStr p1)), (31, (eI64 (p1.size : Int))), (32, (eI64 (0 : Int)))]) (H' := []) ⟨rfl, rfl, rfl, rfl, trivial⟩ (Sub.refl _) ?_
            refine AW.loop (fun kq ρ H => ∃ (x15 : Int), ρ = [(0, (eU8 p0)), (1, (eStr p1)), (31, (eI64 (p1.size : Int))), (32, (eI64 x15))] ∧ H = [] ∧ escape_Byte_l1 k p0 p1 kq x15 = some r) k ⟨(0 : Int), rfl, rfl, h⟩ ?_
            rintro kq17 _ _ ⟨x15, rfl, rfl, h⟩
            cases kq17 with
            | zero => rw [escape_Byte_l1.eq_1] at h; cases h
            | succ kq17 =>
            rw [escape_Byte_l1.eq_2] at h
            generalize hrec16 : escape_Byte_l1 k p0 p1 kq17 = rec16 at h
            refine AW.seq ?_
            refine AW.reg ?_
            refine AO.calm rfl 33 rfl (by decide) (eBool (decide (x15 < (p1.size : Int)))) (Calm.int rfl rfl rfl rfl) ?_
            refine AO.nil (ρ' := [(0, (eU8 p0)), (1, (eStr p1)), (31, (eI64 (p1.size : Int))), (32, (eI64 x15)), (33, (eBool (decide (x15 < (p1.size : Int)))))]) (H' := []) ⟨rfl, rfl, rfl, rfl, rfl, trivial⟩ (Sub.refl _) ?_
            refine AW.seq ?_
            by_cases hc18 : x15 < (p1.size : Int)
            · have h := (if_pos hc18).symm.trans h
              refine AW.condP (x15 < (p1.size : Int)) rfl hc18 ?_
              refine AW.skip (ρ' := [(0, (eU8 p0)), (1, (eStr p1)), (31, (eI64 (p1.size : Int))), (32, (eI64 x15))]) (H' := []) ⟨rfl, rfl, rfl, rfl, trivial⟩ (Sub.refl _) ?_
              refine AW.seq ?_
              refine AW.block ?_
              refine AW.seq ?_
              refine AW.reg ?_
              refine AO.calm rfl 34 rfl (by decide) (eI64 x15) (Calm.move rfl rfl) ?_
              refine AO.calm rfl 6 rfl (by decide) (eI64 x15) (Calm.assign rfl rfl) ?_
              refine AO.nil (ρ' := [(0, (eU8 p0)), (1, (eStr p1)), (6, (eI64 x15)), (31, (eI64 (p1.size : Int))), (32, (eI64 x15))]) (H' := []) ⟨rfl, rfl, rfl, rfl, rfl, trivial⟩ (Sub.refl _) ?_
              refine AW.seq ?_
              refine AW.reg ?_
              refine AO.calm rfl 35 rfl (by decide) (eStr p1) (Calm.move rfl rfl) ?_
              refine AO.calm rfl 36 rfl (by decide) (eI64 x15) (Calm.move rfl rfl) ?_
              obtain ⟨hg19, h⟩ := of_guard h
              refine AO.calm rfl 37 rfl (by decide) (eU8 (byteAt p1 x15)) (Calm.idxS rfl rfl rfl hg19 Try.underlying9) ?_
              refine AO.calm rfl 38 rfl (by decide) (eU8 p0) (Calm.move rfl rfl) ?_
              refine AO.calm rfl 39 rfl (by decide) (eBool (decide ((byteAt p1 x15) = p0))) (Calm.int rfl rfl rfl rfl) ?_
              refine AO.nil (ρ' := [(0, (eU8 p0)), (1, (eStr p1)), (31, (eI64 (p1.size : Int))), (32, (eI64 x15)), (39, (eBool (decide ((byteAt p1 x15) = p0))))]) (H' := []) ⟨rfl, rfl, rfl, rfl, rfl, trivial⟩ (Sub.refl _) ?_
              by_cases hc20 : (byteAt p1 x15) = p0
              · have h := (if_pos hc20).symm.trans h
                refine AW.condP ((byteAt p1 x15) = p0) rfl hc20 ?_
                refine AW.seq ?_
                refine AW.reg ?_
                refine AO.calm rfl 40 rfl (by decide) (eU8 p0) (Calm.move rfl rfl) ?_
                refine AO.lit (Z := (eU8 (0 : Int))) (xs := (([(92 : Int), p0] : List Int).map eU8)) (qs := [(0, (eU8 (92 : Int))), (1, (eU8 p0))]) rfl 41 rfl (by decide) rfl ⟨rfl, rfl, rfl, rfl, rfl, rfl, trivial⟩ Try.underlying84 sz5 zr5 lay5 rfl (by decide) (litOK (z := 1) [(eU8 (92 : Int)), (eU8 p0)] rfl ⟨⟨rfl, rfl⟩, ⟨rfl, rfl⟩, trivial⟩) rfl fun n21 => ?_
                refine AO.calm rfl 42 rfl (by decide) (eStr (strOfNums ([(92 : Int), p0] : List Int))) (Calm.strO 0 rfl rfl rfl Try.underlying84 Try.underlying9 Try.underlying5) ?_
                refine AO.calm rfl 4 rfl (by decide) (eStr (strOfNums ([(92 : Int), p0] : List Int))) (Calm.assign rfl rfl) ?_
                refine AO.nil (ρ' := [(4, (eStr (strOfNums ([(92 : Int), p0] : List Int))))]) (H' := []) ⟨rfl, trivial⟩ (Sub.nil _) ?_
                refine AW.ret (ρ' := [(4, (eStr (strOfNums ([(92 : Int), p0] : List Int))))]) (H' := []) ⟨rfl, trivial⟩ (Sub.refl _) ?_
                have hr := Option.some.inj h
                subst hr
                exact ⟨[(eStr (strOfNums ([(92 : Int), p0] : List Int)))], ⟨rfl, rfl, trivial⟩, rfl⟩
              · have h := (if_neg hc20).symm.trans h
                refine AW.condN ((byteAt p1 x15) = p0) rfl hc20 ?_
                refine AW.skip (ρ' := [(0, (eU8 p0)), (1, (eStr p1)), (31, (eI64 (p1.size : Int))), (32, (eI64 x15))]) (H' := []) ⟨rfl, rfl, rfl, rfl, trivial⟩ (Sub.refl _) ?_
                refine AW.reg ?_
                refine AO.calm rfl 43 rfl (by decide) (eI64 (w64 (x15 + (1 : Int)))) (Calm.int rfl rfl rfl rfl) ?_
                refine AO.calm rfl 32 rfl (by decide) (eI64 (w64 (x15 + (1 : Int)))) (Calm.move rfl rfl) ?_
                refine AO.nil (ρ' := [(0, (eU8 p0)), (1, (eStr p1)), (31, (eI64 (p1.size : Int))), (32, (eI64 (w64 (x15 + (1 : Int)))))]) (H' := []) ⟨rfl, rfl, rfl, rfl, trivial⟩ (Sub.refl _) ?_
                exact ⟨kq17, Nat.lt_succ_self _, (w64 (x15 + (1 : Int))), rfl, rfl, by rw [hrec16]; exact h⟩
            · have h := (if_neg hc18).symm.trans h
              refine AW.condN (x15 < (p1.size : Int)) rfl hc18 ?_
              refine AW.exit (ρ' := [(0, (eU8 p0))]) (H' := []) ⟨rfl, trivial⟩ (Sub.refl _) ?_
              exact ⟨rfl, rfl, h⟩
          · rintro _ _ ⟨rfl, rfl, h⟩
            rw [escape_Byte_c0.eq_1] at h
            refine AW.seq ?_
            refine AW.reg ?_
            refine AO.calm rfl 44 rfl (by decide) (eU8 p0) (Calm.move rfl rfl) ?_
            refine AO.lit (Z := (eU8 (0 : Int))) (xs := (([p0] : List Int).map eU8)) (qs := [(0, (eU8 p0))]) rfl 45 rfl (by decide) rfl ⟨rfl, rfl, rfl, trivial⟩ Try.underlying84 sz5 zr5 lay5 rfl (by decide) (litOK (z := 1) [(eU8 p0)] rfl ⟨⟨rfl, rfl⟩, trivial⟩) rfl fun n14 => ?_
            refine AO.calm rfl 46 rfl (by decide) (eStr (strOfNums ([p0] : List Int))) (Calm.strO 0 rfl rfl rfl Try.underlying84 Try.underlying9 Try.underlying5) ?_
            refine AO.calm rfl 4 rfl (by decide) (eStr (strOfNums ([p0] : List Int))) (Calm.assign rfl rfl) ?_
            refine AO.nil (ρ' := [(4, (eStr (strOfNums ([p0] : List Int))))]) (H' := []) ⟨rfl, trivial⟩ (Sub.nil _) ?_
            refine AW.ret (ρ' := [(4, (eStr (strOfNums ([p0] : List Int))))]) (H' := []) ⟨rfl, trivial⟩ (Sub.refl _) ?_
            have hr := Option.some.inj h
            subst hr
            exact ⟨[(eStr (strOfNums ([p0] : List Int)))], ⟨rfl, rfl, trivial⟩, rfl⟩
end Go.Avl.T2
/- bosket/escape.Quote; printed by avmain.py. -/
namespace Go.Avl.T2
open Go Go.RowKit Go.Proofs Go.Avl
set_option linter.unusedVariables false
set_option maxRecDepth 100000
set_option maxHeartbeats 4000000
attribute [local irreducible] AW AO AQ Spec SpecH Calm

def escape_Quote_c0 (k : Nat) (p1 : Int) (x4 : ByteArray) : Option ByteArray :=
  if x4.size + (strOfNums ([p1] : List Int)).size ≤ 9223372036854775807 then some ((x4 ++ (strOfNums ([p1] : List Int))))
  else none
def escape_Quote_l1 (k : Nat) (p0 : ByteArray) (p1 : Int) : Nat → ByteArray → Int → Option ByteArray
  | 0, _, _ => none
  | j + 1, x7, x8 =>
    if x8 < (p0.size : Int) then if 0 ≤ x8 ∧ x8 < (p0.size : Int) then (escape_Byte k (byteAt p0 x8) (strOfNums ([p1] : List Int))).bind fun t14 =>
    if x7.size + t14.size ≤ 9223372036854775807 then (escape_Quote_l1 k p0 p1 j) (x7 ++ t14) (w64 (x8 + (1 : Int)))
    else none
    else none
    else escape_Quote_c0 k p1 x7
def escape_Quote (k : Nat) (p0 : ByteArray) (p1 : Int) : Option ByteArray :=
  escape_Quote_l1 k p0 p1 k (strOfNums ([p1] : List Int)) (0 : Int)
theorem escape_Quote_spec {k : Nat} {p0 : ByteArray} {p1 : Int} {r : ByteArray} (h : escape_Quote k p0 p1 = some r) : Spec Try.prog 60 [(eStr p0), (eU8 p1)] (eStr r) := by
  rw [escape_Quote.eq_1] at h
  refine Spec.intro (res := [.tmp 4]) Try.func60 rfl rfl rfl (Nat.le_of_ble_eq_true rfl) ?_
  refine AW.seq ?_
  refine AW.reg ?_
  refine AO.calm rfl 4 rfl (by decide) (eStr (ByteArray.mk #[])) (Calm.assign rfl rfl) ?_
  refine AO.nil (ρ' := [(0, (eStr p0)), (1, (eU8 p1))]) (H' := []) ⟨rfl, rfl, trivial⟩ (Sub.refl _) ?_
  refine AW.seq ?_
  refine AW.reg ?_
  refine AO.calm rfl 7 rfl (by decide) (eU8 p1) (Calm.move rfl rfl) ?_
  refine AO.lit (Z := (eU8 (0 : Int))) (xs := (([p1] : List Int).map eU8)) (qs := [(0, (eU8 p1))]) rfl 8 rfl (by decide) rfl ⟨rfl, rfl, rfl, trivial⟩ Try.underlying84 sz5 zr5 lay5 rfl (by decide) (litOK (z := 1) [(eU8 p1)] rfl ⟨⟨rfl, rfl⟩, trivial⟩) rfl fun n3 => ?_
  refine AO.calm rfl 9 rfl (by decide) (eStr (strOfNums ([p1] : List Int))) (Calm.strO 0 rfl rfl rfl Try.underlying84 Try.underlying9 Try.underlying5) ?_
  refine AO.calm rfl 5 rfl (by decide) (eStr (strOfNums ([p1] : List Int))) (Calm.assign rfl rfl) ?_
  refine AO.nil (ρ' := [(0, (eStr p0)), (1, (eU8 p1)), (5, (eStr (strOfNums ([p1] : List Int))))]) (H' := []) ⟨rfl, rfl, rfl, trivial⟩ (Sub.nil _) ?_
  refine AW.seq_mid (fun ρ H => ∃ (x4 : ByteArray), ρ = [(1, (eU8 p1)), (5, (eStr x4))] ∧ H = [] ∧ escape_Quote_c0 k p1 x4 = some r) ?_ ?_
  · refine AW.seq ?_
    refine AW.reg ?_
    refine AO.calm rfl 10 rfl (by decide) (eStr p0) (Calm.move rfl rfl) ?_
    refine AO.calm rfl 11 rfl (by decide) (eI64 (p0.size : Int)) (Calm.lenStr rfl rfl Try.underlying9) ?_
    refine AO.calm rfl 12 rfl (by decide) (eI64 (0 : Int)) (Calm.move rfl rfl) ?_
    refine AO.nil (ρ' := [(0, (eStr p0)), (1, (eU8 p1)), (5, (eStr (strOfNums ([p1] : List Int)))), (11, (eI64 (p0.size : Int))), (12, (eI64 (0 : Int)))]) (H' := []) ⟨rfl, rfl, rfl, rfl, rfl, trivial⟩ (Sub.refl _) ?_
    refine AW.block ?_
    refine AW.weak (ρ' := [(0, (eStr p0)), (1, (eU8 p1)), (5, (eStr (strOfNums ([p1] : List Int)))), (11, (eI64 (p0.size : Int))), (12, (eI64 (0 : Int)))]) (H' := []) ⟨rfl, rfl, rfl, rfl, rfl, trivial⟩ (Sub.refl _) ?_
    refine AW.loop (fun kq ρ H => ∃ (x7 : ByteArray) (x8 : Int), ρ = [(0, (eStr p0)), (1, (eU8 p1)), (5, (eStr x7)), (11, (eI64 (p0.size : Int))), (12, (eI64 x8))] ∧ H = [] ∧ escape_Quote_l1 k p0 p1 kq x7 x8 = some r) k ⟨(strOfNums ([p1] : List Int)), (0 : Int), rfl, rfl, h⟩ ?_
    rintro kq10 _ _ ⟨x7, x8, rfl, rfl, h⟩
    cases kq10 with
    | zero => rw [escape_Quote_l1.eq_1] at h; cases h
    | succ kq10 =>
    rw [escape_Quote_l1.eq_2] at h
    generalize hrec9 : escape_Quote_l1 k p0 p1 kq10 = rec9 at h
    refine AW.seq ?_
    refine AW.reg ?_
    refine AO.calm rfl 13 rfl (by decide) (eBool (decide (x8 < (p0.size : Int)))) (Calm.int rfl rfl rfl rfl) ?_
    refine AO.nil (ρ' := [(0, (eStr p0)), (1, (eU8 p1)), (5, (eStr x7)), (11, (eI64 (p0.size : Int))), (12, (eI64 x8)), (13, (eBool (decide (x8 < (p0.size : Int)))))]) (H' := []) ⟨rfl, rfl, rfl, rfl, rfl, rfl, trivial⟩ (Sub.refl _) ?_
    refine AW.seq ?_
    by_cases hc11 : x8 < (p0.size : Int)
    · have h := (if_pos hc11).symm.trans h
      refine AW.condP (x8 < (p0.size : Int)) rfl hc11 ?_
      refine AW.skip (ρ' := [(0, (eStr p0)), (1, (eU8 p1)), (5, (eStr x7)), (11, (eI64 (p0.size : Int))), (12, (eI64 x8))]) (H' := []) ⟨rfl, rfl, rfl, rfl, rfl, trivial⟩ (Sub.refl _) ?_
      refine AW.seq ?_
      refine AW.block ?_
      refine AW.seq ?_
      refine AW.reg ?_
      refine AO.calm rfl 14 rfl (by decide) (eI64 x8) (Calm.move rfl rfl) ?_
      refine AO.calm rfl 6 rfl (by decide) (eI64 x8) (Calm.assign rfl rfl) ?_
      refine AO.nil (ρ' := [(0, (eStr p0)), (1, (eU8 p1)), (5, (eStr x7)), (6, (eI64 x8)), (11, (eI64 (p0.size : Int))), (12, (eI64 x8))]) (H' := []) ⟨rfl, rfl, rfl, rfl, rfl, rfl, trivial⟩ (Sub.refl _) ?_
      obtain ⟨hg12, h⟩ := of_guard h
      obtain ⟨t14, et14, h⟩ := of_bind h
      obtain ⟨hg15, h⟩ := of_guard h
      refine AW.regAny (by rfl) (by decide +kernel) [(eStr x7), (eStr p0), (eI64 x8), (eU8 (byteAt p0 x8)), (eU8 p1), (.fz 1 (([p1] : List Int).map eU8)), (eStr (strOfNums ([p1] : List Int))), (eStr t14), (eStr (x7 ++ t14)), (eStr (x7 ++ t14))] [(0, (eStr p0)), (1, (eU8 p1)), (5, (eStr x7)), (6, (eI64 x8)), (11, (eI64 (p0.size : Int))), (12, (eI64 x8))] ⟨rfl, rfl, rfl, rfl, rfl, rfl, trivial⟩ rfl ?_ [(0, (eStr p0)), (1, (eU8 p1)), (5, (eStr (x7 ++ t14))), (11, (eI64 (p0.size : Int))), (12, (eI64 x8))] [] ⟨rfl, rfl, rfl, rfl, rfl, trivial⟩ (Sub.refl _) ?_
      · refine ⟨?_, ?_, ?_, ?_, ?_, ?_, ?_, ?_, ?_, ?_, trivial⟩
        · refine AO.weak (ρ' := [(5, (eStr x7))]) (H' := []) ⟨rfl, trivial⟩ (Sub.refl _) ?_
          refine AO.calm rfl 15 rfl (by decide) (eStr x7) (Calm.move rfl rfl) ?_
          exact AO.nilE (ρ' := [(15, (eStr x7))]) (H' := []) ⟨⟨_, rfl, rfl⟩, Sub.refl _⟩ ⟨rfl, trivial⟩ (Sub.refl _)
        · refine AO.weak (ρ' := [(0, (eStr p0))]) (H' := []) ⟨rfl, trivial⟩ (Sub.refl _) ?_
          refine AO.calm rfl 16 rfl (by decide) (eStr p0) (Calm.move rfl rfl) ?_
          exact AO.nilE (ρ' := [(16, (eStr p0))]) (H' := []) ⟨⟨_, rfl, rfl⟩, Sub.refl _⟩ ⟨rfl, trivial⟩ (Sub.refl _)
        · refine AO.weak (ρ' := [(6, (eI64 x8))]) (H' := []) ⟨rfl, trivial⟩ (Sub.refl _) ?_
          refine AO.calm rfl 17 rfl (by decide) (eI64 x8) (Calm.move rfl rfl) ?_
          exact AO.nilE (ρ' := [(17, (eI64 x8))]) (H' := []) ⟨⟨_, rfl, rfl⟩, Sub.refl _⟩ ⟨rfl, trivial⟩ (Sub.refl _)
        · refine AO.weak (ρ' := [(16, (eStr p0)), (17, (eI64 x8))]) (H' := []) ⟨rfl, rfl, trivial⟩ (Sub.refl _) ?_
          refine AO.calm rfl 18 rfl (by decide) (eU8 (byteAt p0 x8)) (Calm.idxS rfl rfl rfl hg12 Try.underlying9) ?_
          exact AO.nilE (ρ' := [(18, (eU8 (byteAt p0 x8)))]) (H' := []) ⟨⟨_, rfl, rfl⟩, Sub.refl _⟩ ⟨rfl, trivial⟩ (Sub.refl _)
        · refine AO.weak (ρ' := [(1, (eU8 p1))]) (H' := []) ⟨rfl, trivial⟩ (Sub.refl _) ?_
          refine AO.calm rfl 19 rfl (by decide) (eU8 p1) (Calm.move rfl rfl) ?_
          exact AO.nilE (ρ' := [(19, (eU8 p1))]) (H' := []) ⟨⟨_, rfl, rfl⟩, Sub.refl _⟩ ⟨rfl, trivial⟩ (Sub.refl _)
        · refine AO.weak (ρ' := [(19, (eU8 p1))]) (H' := []) ⟨rfl, trivial⟩ (Sub.refl _) ?_
          refine AO.lit (Z := (eU8 (0 : Int))) (xs := (([p1] : List Int).map eU8)) (qs := [(0, (eU8 p1))]) rfl 20 rfl (by decide) rfl ⟨rfl, rfl, rfl, trivial⟩ Try.underlying84 sz5 zr5 lay5 rfl (by decide) (litOK (z := 1) [(eU8 p1)] rfl ⟨⟨rfl, rfl⟩, trivial⟩) rfl fun n13 => ?_
          refine AO.freezeS 0 [(20, (.fz 1 (([p1] : List Int).map eU8)))] rfl ⟨fz_all rfl, trivial⟩ ?_
          exact AO.nilE (ρ' := [(20, (.fz 1 (([p1] : List Int).map eU8)))]) (H' := []) ⟨⟨_, rfl, rfl⟩, Sub.refl _⟩ ⟨rfl, trivial⟩ (Sub.refl _)
        · refine AO.weak (ρ' := [(20, (.fz 1 (([p1] : List Int).map eU8)))]) (H' := []) ⟨rfl, trivial⟩ (Sub.refl _) ?_
          refine AO.calm rfl 21 rfl (by decide) (eStr (strOfNums ([p1] : List Int))) (Calm.strL rfl rfl Try.underlying84 Try.underlying9 Try.underlying5) ?_
          exact AO.nilE (ρ' := [(21, (eStr (strOfNums ([p1] : List Int))))]) (H' := []) ⟨⟨_, rfl, rfl⟩, Sub.refl _⟩ ⟨rfl, trivial⟩ (Sub.refl _)
        · refine AO.weak (ρ' := [(18, (eU8 (byteAt p0 x8))), (21, (eStr (strOfNums ([p1] : List Int))))]) (H' := []) ⟨rfl, rfl, trivial⟩ (Sub.refl _) ?_
          refine AO.callS [(eU8 (byteAt p0 x8)), (eStr (strOfNums ([p1] : List Int)))] (eStr t14) 22 rfl (by decide) ok81 rfl rfl rfl ⟨rfl, rfl, rfl, rfl, trivial⟩ (escape_Byte_spec et14) ?_
          exact AO.nilE (ρ' := [(22, (eStr t14))]) (H' := []) ⟨⟨_, rfl, rfl⟩, Sub.refl _⟩ ⟨rfl, trivial⟩ (Sub.refl _)
        · refine AO.weak (ρ' := [(15, (eStr x7)), (22, (eStr t14))]) (H' := []) ⟨rfl, rfl, trivial⟩ (Sub.refl _) ?_
          refine AO.calm rfl 23 rfl (by decide) (eStr (x7 ++ t14)) (Calm.cat rfl rfl rfl hg15) ?_
          exact AO.nilE (ρ' := [(23, (eStr (x7 ++ t14)))]) (H' := []) ⟨⟨_, rfl, rfl⟩, Sub.refl _⟩ ⟨rfl, trivial⟩ (Sub.refl _)
        · refine AO.weak (ρ' := [(23, (eStr (x7 ++ t14)))]) (H' := []) ⟨rfl, trivial⟩ (Sub.refl _) ?_
          refine AO.calm rfl 5 rfl (by decide) (eStr (x7 ++ t14)) (Calm.assign rfl rfl) ?_
          exact AO.nilE (ρ' := [(5, (eStr (x7 ++ t14)))]) (H' := []) ⟨⟨_, rfl, rfl⟩, Sub.refl _⟩ ⟨rfl, trivial⟩ (Sub.refl _)
      · refine AW.reg ?_
        refine AO.calm rfl 24 rfl (by decide) (eI64 (w64 (x8 + (1 : Int)))) (Calm.int rfl rfl rfl rfl) ?_
        refine AO.calm rfl 12 rfl (by decide) (eI64 (w64 (x8 + (1 : Int)))) (Calm.move rfl rfl) ?_
        refine AO.nil (ρ' := [(0, (eStr p0)), (1, (eU8 p1)), (5, (eStr (x7 ++ t14))), (11, (eI64 (p0.size : Int))), (12, (eI64 (w64 (x8 + (1 : Int)))))]) (H' := []) ⟨rfl, rfl, rfl, rfl, rfl, trivial⟩ (Sub.refl _) ?_
        exact ⟨kq10, Nat.lt_succ_self _, (x7 ++ t14), (w64 (x8 + (1 : Int))), rfl, rfl, by rw [hrec9]; exact h⟩
    · have h := (if_neg hc11).symm.trans h
      refine AW.condN (x8 < (p0.size : Int)) rfl hc11 ?_
      refine AW.exit (ρ' := [(1, (eU8 p1)), (5, (eStr x7))]) (H' := []) ⟨rfl, rfl, trivial⟩ (Sub.refl _) ?_
      exact ⟨x7, rfl, rfl, h⟩
  · rintro _ _ ⟨x4, rfl, rfl, h⟩
    rw [escape_Quote_c0.eq_1] at h
    refine AW.seq ?_
    refine AW.reg ?_
    refine AO.calm rfl 25 rfl (by decide) (eStr x4) (Calm.move rfl rfl) ?_
    refine AO.calm rfl 26 rfl (by decide) (eU8 p1) (Calm.move rfl rfl) ?_
    refine AO.lit (Z := (eU8 (0 : Int))) (xs := (([p1] : List Int).map eU8)) (qs := [(0, (eU8 p1))]) rfl 27 rfl (by decide) rfl ⟨rfl, rfl, rfl, trivial⟩ Try.underlying84 sz5 zr5 lay5 rfl (by decide) (litOK (z := 1) [(eU8 p1)] rfl ⟨⟨rfl, rfl⟩, trivial⟩) rfl fun n5 => ?_
    refine AO.calm rfl 28 rfl (by decide) (eStr (strOfNums ([p1] : List Int))) (Calm.strO 0 rfl rfl rfl Try.underlying84 Try.underlying9 Try.underlying5) ?_
    obtain ⟨hg6, h⟩ := of_guard h
    refine AO.calm rfl 29 rfl (by decide) (eStr (x4 ++ (strOfNums ([p1] : List Int)))) (Calm.cat rfl rfl rfl hg6) ?_
    refine AO.calm rfl 4 rfl (by decide) (eStr (x4 ++ (strOfNums ([p1] : List Int)))) (Calm.assign rfl rfl) ?_
    refine AO.nil (ρ' := [(4, (eStr (x4 ++ (strOfNums ([p1] : List Int)))))]) (H' := []) ⟨rfl, trivial⟩ (Sub.nil _) ?_
    refine AW.ret (ρ' := [(4, (eStr (x4 ++ (strOfNums ([p1] : List Int)))))]) (H' := []) ⟨rfl, trivial⟩ (Sub.refl _) ?_
    have hr := Option.some.inj h
    subst hr
    exact ⟨[(eStr (x4 ++ (strOfNums ([p1] : List Int))))], ⟨rfl, rfl, trivial⟩, rfl⟩
end Go.Avl.T2
/- bosket/bosketref03.in; printed by avmain.py. -/
namespace Go.Avl.T2
open Go Go.RowKit Go.Proofs Go.Avl
set_option linter.unusedVariables false
set_option maxRecDepth 100000
set_option maxHeartbeats 4000000
attribute [local irreducible] AW AO AQ Spec SpecH Calm

def bosketref03_in_c0 (k : Nat) : Option Bool :=
  some (false)
def bosketref03_in_l1 (k : Nat) (p0 : ByteArray) (p1 : Int) : Nat → Int → Option Bool
  | 0, _ => none
  | j + 1, x3 =>
    if x3 < (p0.size : Int) then if 0 ≤ x3 ∧ x3 < (p0.size : Int) then if (byteAt p0 x3) = p1 then some (true)
    else (bosketref03_in_l1 k p0 p1 j) (w64 (x3 + (1 : Int)))
    else none
    else bosketref03_in_c0 k
def bosketref03_in (k : Nat) (p0 : ByteArray) (p1 : Int) : Option Bool :=
  bosketref03_in_l1 k p0 p1 k (0 : Int)
theorem bosketref03_in_spec {k : Nat} {p0 : ByteArray} {p1 : Int} {r : Bool} (h : bosketref03_in k p0 p1 = some r) : Spec Try.prog 97 [(eStr p0), (eU8 p1)] (eBool r) := by
  rw [bosketref03_in.eq_1] at h
  refine Spec.intro (res := [.tmp 4]) Try.func97 rfl rfl rfl (Nat.le_of_ble_eq_true rfl) ?_
  refine AW.seq ?_
  refine AW.reg ?_
  refine AO.calm rfl 4 rfl (by decide) (eBool false) (Calm.assign rfl rfl) ?_
  refine AO.nil (ρ' := [(0, (eStr p0)), (1, (eU8 p1))]) (H' := []) ⟨rfl, rfl, trivial⟩ (Sub.refl _) ?_
  refine AW.seq_mid (fun ρ H => ρ = [] ∧ H = [] ∧ bosketref03_in_c0 k = some r) ?_ ?_
  · refine AW.seq ?_
    refine AW.reg ?_
    refine AO.calm rfl 5 rfl (by decide) (eI64 (0 : Int)) (Calm.assign rfl rfl) ?_
    refine AO.nil (ρ' := [(0, (eStr p0)), (1, (eU8 p1)), (5, (eI64 (0 : Int)))]) (H' := []) ⟨rfl, rfl, rfl, trivial⟩ (Sub.refl _) ?_
    refine AW.block ?_
    refine AW.weak (ρ' := [(0, (eStr p0)), (1, (eU8 p1)), (5, (eI64 (0 : Int)))]) (H' := []) ⟨rfl, rfl, rfl, trivial⟩ (Sub.refl _) ?_
    refine AW.loop (fun kq ρ H => ∃ (x3 : Int), ρ = [(0, (eStr p0)), (1, (eU8 p1)), (5, (eI64 x3))] ∧ H = [] ∧ bosketref03_in_l1 k p0 p1 kq x3 = some r) k ⟨(0 : Int), rfl, rfl, h⟩ ?_
    rintro kq5 _ _ ⟨x3, rfl, rfl, h⟩
    cases kq5 with
    | zero => rw [bosketref03_in_l1.eq_1] at h; cases h
    | succ kq5 =>
    rw [bosketref03_in_l1.eq_2] at h
    generalize hrec4 : bosketref03_in_l1 k p0 p1 kq5 = rec4 at h
    refine AW.seq ?_
    refine AW.seq ?_
    refine AW.reg ?_
    refine AO.calm rfl 6 rfl (by decide) (eI64 x3) (Calm.move rfl rfl) ?_
    refine AO.calm rfl 7 rfl (by decide) (eStr p0) (Calm.move rfl rfl) ?_
    refine AO.calm rfl 8 rfl (by decide) (eI64 (p0.size : Int)) (Calm.lenStr rfl rfl Try.underlying9) ?_
    refine AO.calm rfl 9 rfl (by decide) (eBool (decide (x3 < (p0.size : Int)))) (Calm.int rfl rfl rfl rfl) ?_
    refine AO.nil (ρ' := [(0, (eStr p0)), (1, (eU8 p1)), (5, (eI64 x3)), (9, (eBool (decide (x3 < (p0.size : Int)))))]) (H' := []) ⟨rfl, rfl, rfl, rfl, trivial⟩ (Sub.refl _) ?_
    by_cases hc6 : x3 < (p0.size : Int)
    · have h := (if_pos hc6).symm.trans h
      refine AW.condP (x3 < (p0.size : Int)) rfl hc6 ?_
      refine AW.skip (ρ' := [(0, (eStr p0)), (1, (eU8 p1)), (5, (eI64 x3))]) (H' := []) ⟨rfl, rfl, rfl, trivial⟩ (Sub.refl _) ?_
      refine AW.seq ?_
      refine AW.block ?_
      refine AW.seq ?_
      refine AW.reg ?_
      refine AO.calm rfl 12 rfl (by decide) (eStr p0) (Calm.move rfl rfl) ?_
      refine AO.calm rfl 13 rfl (by decide) (eI64 x3) (Calm.move rfl rfl) ?_
      obtain ⟨hg7, h⟩ := of_guard h
      refine AO.calm rfl 14 rfl (by decide) (eU8 (byteAt p0 x3)) (Calm.idxS rfl rfl rfl hg7 Try.underlying9) ?_
      refine AO.calm rfl 15 rfl (by decide) (eU8 p1) (Calm.move rfl rfl) ?_
      refine AO.calm rfl 16 rfl (by decide) (eBool (decide ((byteAt p0 x3) = p1))) (Calm.int rfl rfl rfl rfl) ?_
      refine AO.nil (ρ' := [(0, (eStr p0)), (1, (eU8 p1)), (5, (eI64 x3)), (16, (eBool (decide ((byteAt p0 x3) = p1))))]) (H' := []) ⟨rfl, rfl, rfl, rfl, trivial⟩ (Sub.refl _) ?_
      by_cases hc8 : (byteAt p0 x3) = p1
      · have h := (if_pos hc8).symm.trans h
        refine AW.condP ((byteAt p0 x3) = p1) rfl hc8 ?_
        refine AW.seq ?_
        refine AW.reg ?_
        refine AO.calm rfl 4 rfl (by decide) (eBool true) (Calm.assign rfl rfl) ?_
        refine AO.nil (ρ' := [(4, (eBool true))]) (H' := []) ⟨rfl, trivial⟩ (Sub.refl _) ?_
        refine AW.ret (ρ' := [(4, (eBool true))]) (H' := []) ⟨rfl, trivial⟩ (Sub.refl _) ?_
        have hr := Option.some.inj h
        subst hr
        exact ⟨[(eBool true)], ⟨rfl, rfl, trivial⟩, rfl⟩
      · have h := (if_neg hc8).symm.trans h
        refine AW.condN ((byteAt p0 x3) = p1) rfl hc8 ?_
        refine AW.skip (ρ' := [(0, (eStr p0)), (1, (eU8 p1)), (5, (eI64 x3))]) (H' := []) ⟨rfl, rfl, rfl, trivial⟩ (Sub.refl _) ?_
        refine AW.reg ?_
        refine AO.calm rfl 10 rfl (by decide) (eI64 x3) (Calm.move rfl rfl) ?_
        refine AO.calm rfl 11 rfl (by decide) (eI64 (w64 (x3 + (1 : Int)))) (Calm.int rfl rfl rfl rfl) ?_
        refine AO.calm rfl 5 rfl (by decide) (eI64 (w64 (x3 + (1 : Int)))) (Calm.assign rfl rfl) ?_
        refine AO.nil (ρ' := [(0, (eStr p0)), (1, (eU8 p1)), (5, (eI64 (w64 (x3 + (1 : Int)))))]) (H' := []) ⟨rfl, rfl, rfl, trivial⟩ (Sub.refl _) ?_
        exact ⟨kq5, Nat.lt_succ_self _, (w64 (x3 + (1 : Int))), rfl, rfl, by rw [hrec4]; exact h⟩
    · have h := (if_neg hc6).symm.trans h
      refine AW.condN (x3 < (p0.size : Int)) rfl hc6 ?_
      refine AW.exit (ρ' := []) (H' := []) trivial (Sub.refl _) ?_
      exact ⟨rfl, rfl, h⟩
  · rintro _ _ ⟨rfl, rfl, h⟩
    rw [bosketref03_in_c0.eq_1] at h
    refine AW.seq ?_
    refine AW.reg ?_
    refine AO.calm rfl 4 rfl (by decide) (eBool false) (Calm.assign rfl rfl) ?_
    refine AO.nil (ρ' := [(4, (eBool false))]) (H' := []) ⟨rfl, trivial⟩ (Sub.refl _) ?_
    refine AW.ret (ρ' := [(4, (eBool false))]) (H' := []) ⟨rfl, trivial⟩ (Sub.refl _) ?_
    have hr := Option.some.inj h
    subst hr
    exact ⟨[(eBool false)], ⟨rfl, rfl, trivial⟩, rfl⟩
end Go.Avl.T2
/- bosket/bosketref03.Byte; printed by avmain.py. -/
namespace Go.Avl.T2
open Go Go.RowKit Go.Proofs Go.Avl
set_option linter.unusedVariables false
set_option maxRecDepth 100000
set_option maxHeartbeats 4000000
attribute [local irreducible] AW AO AQ Spec SpecH Calm

def bosketref03_Byte (k : Nat) (p0 : Int) (p1 : ByteArray) : Option ByteArray :=
  (some (ByteArray.mk #[48, 49, 50, 51, 52, 53, 54, 55, 56, 57, 97, 98, 99, 100, 101, 102])).bind fun x3 =>
  if p0 = (10 : Int) then some ((ByteArray.mk #[92, 110]))
  else if p0 = (9 : Int) then some ((ByteArray.mk #[92, 116]))
  else if p0 = (13 : Int) then some ((ByteArray.mk #[92, 114]))
  else Option.bind (α := Bool) (if p0 < (32 : Int) then some (true)
  else some (decide ((126 : Int) < p0))) fun b7 =>
  if b7 = true then if 0 ≤ (IntKind.u8.wrap (p0.tdiv (16 : Int))) ∧ (IntKind.u8.wrap (p0.tdiv (16 : Int))) ≤ (w8 ((IntKind.u8.wrap (p0.tdiv (16 : Int))) + (1 : Int))) ∧ (w8 ((IntKind.u8.wrap (p0.tdiv (16 : Int))) + (1 : Int))) ≤ (x3.size : Int) then if (ByteArray.mk #[92, 120]).size + (x3.extract (IntKind.u8.wrap (p0.tdiv (16 : Int))).toNat (w8 ((IntKind.u8.wrap (p0.tdiv (16 : Int))) + (1 : Int))).toNat).size ≤ 9223372036854775807 then if 0 ≤ (p0.tmod (16 : Int)) ∧ (p0.tmod (16 : Int)) ≤ (w8 ((p0.tmod (16 : Int)) + (1 : Int))) ∧ (w8 ((p0.tmod (16 : Int)) + (1 : Int))) ≤ (x3.size : Int) then if ((ByteArray.mk #[92, 120]) ++ (x3.extract (IntKind.u8.wrap (p0.tdiv (16 : Int))).toNat (w8 ((IntKind.u8.wrap (p0.tdiv (16 : Int))) + (1 : Int))).toNat)).size + (x3.extract (p0.tmod (16 : Int)).toNat (w8 ((p0.tmod (16 : Int)) + (1 : Int))).toNat).size ≤ 9223372036854775807 then some ((((ByteArray.mk #[92, 120]) ++ (x3.extract (IntKind.u8.wrap (p0.tdiv (16 : Int))).toNat (w8 ((IntKind.u8.wrap (p0.tdiv (16 : Int))) + (1 : Int))).toNat)) ++ (x3.extract (p0.tmod (16 : Int)).toNat (w8 ((p0.tmod (16 : Int)) + (1 : Int))).toNat)))
  else none
  else none
  else none
  else none
  else Option.bind (α := Bool) (if p0 = (92 : Int) then some (true)
  else (bosketref03_in k p1 p0).bind fun t18 =>
  some (t18)) fun b15 =>
  if b15 = true then if (ByteArray.mk #[92]).size + (strOfNums ([p0] : List Int)).size ≤ 9223372036854775807 then some (((ByteArray.mk #[92]) ++ (strOfNums ([p0] : List Int))))
  else none
  else some ((strOfNums ([p0] : List Int)))
theorem bosketref03_Byte_spec {k : Nat} {p0 : Int} {p1 : ByteArray} {r : ByteArray} (h : bosketref03_Byte k p0 p1 = some r) : Spec Try.prog 82 [(eU8 p0), (eStr p1)] (eStr r) := by
  rw [bosketref03_Byte.eq_1] at h
  refine Spec.intro (res := [.tmp 4]) Try.func82 rfl rfl rfl (Nat.le_of_ble_eq_true rfl) ?_
  refine AW.seq ?_
  refine AW.reg ?_
  refine AO.calm rfl 4 rfl (by decide) (eStr (ByteArray.mk #[])) (Calm.assign rfl rfl) ?_
  refine AO.nil (ρ' := [(0, (eU8 p0)), (1, (eStr p1))]) (H' := []) ⟨rfl, rfl, trivial⟩ (Sub.refl _) ?_
  refine AW.seq ?_
  refine AW.reg ?_
  obtain ⟨x3, ex3, h⟩ := of_bind h
  refine AO.calm rfl 5 rfl (by decide) (eStr x3) (Calm.assign rfl (congrArg (fun x => some (eStr x)) (Option.some.inj ex3))) ?_
  refine AO.nil (ρ' := [(0, (eU8 p0)), (1, (eStr p1)), (5, (eStr x3))]) (H' := []) ⟨rfl, rfl, rfl, trivial⟩ (Sub.refl _) ?_
  refine AW.seq ?_
  refine AW.block ?_
  refine AW.seq ?_
  refine AW.reg ?_
  refine AO.calm rfl 7 rfl (by decide) (eU8 p0) (Calm.move rfl rfl) ?_
  refine AO.calm rfl 8 rfl (by decide) (eBool (decide (p0 = (10 : Int)))) (Calm.int rfl rfl rfl rfl) ?_
  refine AO.calm rfl 6 rfl (by decide) (eBool (decide (p0 = (10 : Int)))) (Calm.assign rfl rfl) ?_
  refine AO.nil (ρ' := [(0, (eU8 p0)), (1, (eStr p1)), (5, (eStr x3)), (6, (eBool (decide (p0 = (10 : Int)))))]) (H' := []) ⟨rfl, rfl, rfl, rfl, trivial⟩ (Sub.refl _) ?_
  by_cases hc4 : p0 = (10 : Int)
  · have h := (if_pos hc4).symm.trans h
    refine AW.condP (p0 = (10 : Int)) rfl hc4 ?_
    refine AW.seq ?_
    refine AW.reg ?_
    refine AO.calm rfl 4 rfl (by decide) (eStr (ByteArray.mk #[92, 110])) (Calm.assign rfl rfl) ?_
    refine AO.nil (ρ' := [(4, (eStr (ByteArray.mk #[92, 110])))]) (H' := []) ⟨rfl, trivial⟩ (Sub.refl _) ?_
    refine AW.ret (ρ' := [(4, (eStr (ByteArray.mk #[92, 110])))]) (H' := []) ⟨rfl, trivial⟩ (Sub.refl _) ?_
    have hr := Option.some.inj h
    subst hr
    exact ⟨[(eStr (ByteArray.mk #[92, 110]))], ⟨rfl, rfl, trivial⟩, rfl⟩
  · have h := (if_neg hc4).symm.trans h
    refine AW.condN (p0 = (10 : Int)) rfl hc4 ?_
    refine AW.seq ?_
    refine AW.reg ?_
    refine AO.calm rfl 10 rfl (by decide) (eU8 p0) (Calm.move rfl rfl) ?_
    refine AO.calm rfl 11 rfl (by decide) (eBool (decide (p0 = (9 : Int)))) (Calm.int rfl rfl rfl rfl) ?_
    refine AO.calm rfl 9 rfl (by decide) (eBool (decide (p0 = (9 : Int)))) (Calm.assign rfl rfl) ?_
    refine AO.nil (ρ' := [(0, (eU8 p0)), (1, (eStr p1)), (5, (eStr x3)), (9, (eBool (decide (p0 = (9 : Int)))))]) (H' := []) ⟨rfl, rfl, rfl, rfl, trivial⟩ (Sub.refl _) ?_
    by_cases hc5 : p0 = (9 : Int)
    · have h := (if_pos hc5).symm.trans h
      refine AW.condP (p0 = (9 : Int)) rfl hc5 ?_
      refine AW.seq ?_
      refine AW.reg ?_
      refine AO.calm rfl 4 rfl (by decide) (eStr (ByteArray.mk #[92, 116])) (Calm.assign rfl rfl) ?_
      refine AO.nil (ρ' := [(4, (eStr (ByteArray.mk #[92, 116])))]) (H' := []) ⟨rfl, trivial⟩ (Sub.refl _) ?_
      refine AW.ret (ρ' := [(4, (eStr (ByteArray.mk #[92, 116])))]) (H' := []) ⟨rfl, trivial⟩ (Sub.refl _) ?_
      have hr := Option.some.inj h
      subst hr
      exact ⟨[(eStr (ByteArray.mk #[92, 116]))], ⟨rfl, rfl, trivial⟩, rfl⟩
    · have h := (if_neg hc5).symm.trans h
      refine AW.condN (p0 = (9 : Int)) rfl hc5 ?_
      refine AW.seq ?_
      refine AW.reg ?_
      refine AO.calm rfl 13 rfl (by decide) (eU8 p0) (Calm.move rfl rfl) ?_
      refine AO.calm rfl 14 rfl (by decide) (eBool (decide (p0 = (13 : Int)))) (Calm.int rfl rfl rfl rfl) ?_
      refine AO.calm rfl 12 rfl (by decide) (eBool (decide (p0 = (13 : Int)))) (Calm.assign rfl rfl) ?_
      refine AO.nil (ρ' := [(0, (eU8 p0)), (1, (eStr p1)), (5, (eStr x3)), (12, (eBool (decide (p0 = (13 : Int)))))]) (H' := []) ⟨rfl, rfl, rfl, rfl, trivial⟩ (Sub.refl _) ?_
      by_cases hc6 : p0 = (13 : Int)
      · have h := (if_pos hc6).symm.trans h
        refine AW.condP (p0 = (13 : Int)) rfl hc6 ?_
        refine AW.seq ?_
        refine AW.reg ?_
        refine AO.calm rfl 4 rfl (by decide) (eStr (ByteArray.mk #[92, 114])) (Calm.assign rfl rfl) ?_
        refine AO.nil (ρ' := [(4, (eStr (ByteArray.mk #[92, 114])))]) (H' := []) ⟨rfl, trivial⟩ (Sub.refl _) ?_
        refine AW.ret (ρ' := [(4, (eStr (ByteArray.mk #[92, 114])))]) (H' := []) ⟨rfl, trivial⟩ (Sub.refl _) ?_
        have hr := Option.some.inj h
        subst hr
        exact ⟨[(eStr (ByteArray.mk #[92, 114]))], ⟨rfl, rfl, trivial⟩, rfl⟩
      · have h := (if_neg hc6).symm.trans h
        refine AW.condN (p0 = (13 : Int)) rfl hc6 ?_
        refine AW.seq ?_
        obtain ⟨b7, hq8, h⟩ := of_bind h
        refine AW.regM [(0, (eU8 p0)), (1, (eStr p1)), (5, (eStr x3)), (15, (eBool b7))] [] ?_ ?_
        · refine AO.calm rfl 16 rfl (by decide) (eU8 p0) (Calm.move rfl rfl) ?_
          refine AO.calm rfl 17 rfl (by decide) (eBool (decide (p0 < (32 : Int)))) (Calm.int rfl rfl rfl rfl) ?_
          refine AO.calm rfl 18 rfl (by decide) (eBool (decide (p0 < (32 : Int)))) (Calm.move rfl rfl) ?_
          by_cases hc9 : p0 < (32 : Int)
          · have hq8 := (if_pos hc9).symm.trans hq8
            refine AO.skipG 2 true 18 rfl rfl (congrArg (fun b => some (AV.fl (Value.bool b))) (decide_eq_true hc9)) 19 rfl (by decide) ?_
            refine AO.skipG 2 true 18 rfl rfl (congrArg (fun b => some (AV.fl (Value.bool b))) (decide_eq_true hc9)) 20 rfl (by decide) ?_
            refine AO.calm rfl 21 rfl (by decide) (eBool true) (Calm.pickT rfl (congrArg (fun b => some (AV.fl (Value.bool b))) (decide_eq_true hc9)) rfl) ?_
            refine AO.calm rfl 15 rfl (by decide) (eBool true) (Calm.assign rfl rfl) ?_
            cases hq8
            refine AO.nilE ⟨rfl, rfl⟩ ?_ ?_
            · exact ⟨rfl, rfl, rfl, rfl, trivial⟩
            · exact (Sub.refl _)
          · have hq8 := (if_neg hc9).symm.trans hq8
            refine AO.calmG 2 false 18 rfl rfl (congrArg (fun b => some (AV.fl (Value.bool b))) (decide_eq_false hc9)) 19 rfl (by decide) (eU8 p0) (Calm.move rfl rfl) ?_
            refine AO.calmG 2 false 18 rfl rfl (congrArg (fun b => some (AV.fl (Value.bool b))) (decide_eq_false hc9)) 20 rfl (by decide) (eBool (decide ((126 : Int) < p0))) (Calm.int rfl rfl rfl rfl) ?_
            refine AO.calm rfl 21 rfl (by decide) (eBool (decide ((126 : Int) < p0))) (Calm.pickF rfl (congrArg (fun b => some (AV.fl (Value.bool b))) (decide_eq_false hc9)) rfl) ?_
            refine AO.calm rfl 15 rfl (by decide) (eBool (decide ((126 : Int) < p0))) (Calm.assign rfl rfl) ?_
            cases hq8
            refine AO.nilE ⟨rfl, rfl⟩ ?_ ?_
            · exact ⟨rfl, rfl, rfl, rfl, trivial⟩
            · exact (Sub.refl _)
        · by_cases hc10 : b7 = true
          · have h := (if_pos hc10).symm.trans h
            refine AW.condT' b7 rfl hc10 ?_
            refine AW.seq ?_
            refine AW.regQ (by rfl) (by decide +kernel) ?_
            refine AQ.calm rfl 22 rfl (by decide) (eStr x3) (Calm.move rfl rfl) ?_
            refine AQ.calm rfl 23 rfl (by decide) (eU8 p0) (Calm.move rfl rfl) ?_
            refine AQ.calm rfl 24 rfl (by decide) (eU8 (IntKind.u8.wrap (p0.tdiv (16 : Int)))) (Calm.quo rfl rfl rfl (by decide)) ?_
            refine AQ.calm rfl 25 rfl (by decide) (eU8 p0) (Calm.move rfl rfl) ?_
            refine AQ.calm rfl 26 rfl (by decide) (eU8 (IntKind.u8.wrap (p0.tdiv (16 : Int)))) (Calm.quo rfl rfl rfl (by decide)) ?_
            refine AQ.calm rfl 27 rfl (by decide) (eU8 (w8 ((IntKind.u8.wrap (p0.tdiv (16 : Int))) + (1 : Int)))) (Calm.int rfl rfl rfl rfl) ?_
            obtain ⟨hg11, h⟩ := of_guard h
            refine AQ.calm rfl 28 rfl (by decide) (eStr (x3.extract (IntKind.u8.wrap (p0.tdiv (16 : Int))).toNat (w8 ((IntKind.u8.wrap (p0.tdiv (16 : Int))) + (1 : Int))).toNat)) (Calm.sliceS rfl rfl rfl rfl hg11 Try.underlying9) ?_
            obtain ⟨hg12, h⟩ := of_guard h
            refine AQ.calm rfl 29 rfl (by decide) (eStr ((ByteArray.mk #[92, 120]) ++ (x3.extract (IntKind.u8.wrap (p0.tdiv (16 : Int))).toNat (w8 ((IntKind.u8.wrap (p0.tdiv (16 : Int))) + (1 : Int))).toNat))) (Calm.cat rfl rfl rfl hg12) ?_
            refine AQ.calm rfl 30 rfl (by decide) (eStr x3) (Calm.move rfl rfl) ?_
            refine AQ.calm rfl 31 rfl (by decide) (eU8 p0) (Calm.move rfl rfl) ?_
            refine AQ.calm rfl 32 rfl (by decide) (eU8 (p0.tmod (16 : Int))) (Calm.rem rfl rfl rfl (by decide)) ?_
            refine AQ.calm rfl 33 rfl (by decide) (eU8 p0) (Calm.move rfl rfl) ?_
            refine AQ.calm rfl 34 rfl (by decide) (eU8 (p0.tmod (16 : Int))) (Calm.rem rfl rfl rfl (by decide)) ?_
            refine AQ.calm rfl 35 rfl (by decide) (eU8 (w8 ((p0.tmod (16 : Int)) + (1 : Int)))) (Calm.int rfl rfl rfl rfl) ?_
            obtain ⟨hg13, h⟩ := of_guard h
            refine AQ.calm rfl 36 rfl (by decide) (eStr (x3.extract (p0.tmod (16 : Int)).toNat (w8 ((p0.tmod (16 : Int)) + (1 : Int))).toNat)) (Calm.sliceS rfl rfl rfl rfl hg13 Try.underlying9) ?_
            obtain ⟨hg14, h⟩ := of_guard h
            refine AQ.calm rfl 37 rfl (by decide) (eStr (((ByteArray.mk #[92, 120]) ++ (x3.extract (IntKind.u8.wrap (p0.tdiv (16 : Int))).toNat (w8 ((IntKind.u8.wrap (p0.tdiv (16 : Int))) + (1 : Int))).toNat)) ++ (x3.extract (p0.tmod (16 : Int)).toNat (w8 ((p0.tmod (16 : Int)) + (1 : Int))).toNat))) (Calm.cat rfl rfl rfl hg14) ?_
            refine AQ.calm rfl 4 rfl (by decide) (eStr (((ByteArray.mk #[92, 120]) ++ (x3.extract (IntKind.u8.wrap (p0.tdiv (16 : Int))).toNat (w8 ((IntKind.u8.wrap (p0.tdiv (16 : Int))) + (1 : Int))).toNat)) ++ (x3.extract (p0.tmod (16 : Int)).toNat (w8 ((p0.tmod (16 : Int)) + (1 : Int))).toNat))) (Calm.assign rfl rfl) ?_
            refine AQ.nil (ρ' := [(4, (eStr (((ByteArray.mk #[92, 120]) ++ (x3.extract (IntKind.u8.wrap (p0.tdiv (16 : Int))).toNat (w8 ((IntKind.u8.wrap (p0.tdiv (16 : Int))) + (1 : Int))).toNat)) ++ (x3.extract (p0.tmod (16 : Int)).toNat (w8 ((p0.tmod (16 : Int)) + (1 : Int))).toNat))))]) ⟨rfl, trivial⟩ ?_
            refine AW.ret (ρ' := [(4, (eStr (((ByteArray.mk #[92, 120]) ++ (x3.extract (IntKind.u8.wrap (p0.tdiv (16 : Int))).toNat (w8 ((IntKind.u8.wrap (p0.tdiv (16 : Int))) + (1 : Int))).toNat)) ++ (x3.extract (p0.tmod (16 : Int)).toNat (w8 ((p0.tmod (16 : Int)) + (1 : Int))).toNat))))]) (H' := []) ⟨rfl, trivial⟩ (Sub.refl _) ?_
            have hr := Option.some.inj h
            subst hr
            exact ⟨[(eStr (((ByteArray.mk #[92, 120]) ++ (x3.extract (IntKind.u8.wrap (p0.tdiv (16 : Int))).toNat (w8 ((IntKind.u8.wrap (p0.tdiv (16 : Int))) + (1 : Int))).toNat)) ++ (x3.extract (p0.tmod (16 : Int)).toNat (w8 ((p0.tmod (16 : Int)) + (1 : Int))).toNat)))], ⟨rfl, rfl, trivial⟩, rfl⟩
          · have h := (if_neg hc10).symm.trans h
            refine AW.condF' b7 rfl hc10 ?_
            refine AW.seq ?_
            obtain ⟨b15, hq16, h⟩ := of_bind h
            refine AW.regM [(0, (eU8 p0)), (38, (eBool b15))] [] ?_ ?_
            · refine AO.calm rfl 39 rfl (by decide) (eU8 p0) (Calm.move rfl rfl) ?_
              refine AO.calm rfl 40 rfl (by decide) (eBool (decide (p0 = (92 : Int)))) (Calm.int rfl rfl rfl rfl) ?_
              refine AO.calm rfl 41 rfl (by decide) (eBool (decide (p0 = (92 : Int)))) (Calm.move rfl rfl) ?_
              by_cases hc17 : p0 = (92 : Int)
              · have hq16 := (if_pos hc17).symm.trans hq16
                refine AO.skipG 2 true 41 rfl rfl (congrArg (fun b => some (AV.fl (Value.bool b))) (decide_eq_true hc17)) 42 rfl (by decide) ?_
                refine AO.skipG 2 true 41 rfl rfl (congrArg (fun b => some (AV.fl (Value.bool b))) (decide_eq_true hc17)) 43 rfl (by decide) ?_
                refine AO.skipG 2 true 41 rfl rfl (congrArg (fun b => some (AV.fl (Value.bool b))) (decide_eq_true hc17)) 44 rfl (by decide) ?_
                refine AO.calm rfl 45 rfl (by decide) (eBool true) (Calm.pickT rfl (congrArg (fun b => some (AV.fl (Value.bool b))) (decide_eq_true hc17)) rfl) ?_
                refine AO.calm rfl 38 rfl (by decide) (eBool true) (Calm.assign rfl rfl) ?_
                cases hq16
                refine AO.nilE ⟨rfl, rfl⟩ ?_ ?_
                · exact ⟨rfl, rfl, trivial⟩
                · exact (Sub.refl _)
              · have hq16 := (if_neg hc17).symm.trans hq16
                refine AO.calmG 2 false 41 rfl rfl (congrArg (fun b => some (AV.fl (Value.bool b))) (decide_eq_false hc17)) 42 rfl (by decide) (eStr p1) (Calm.move rfl rfl) ?_
                refine AO.calmG 2 false 41 rfl rfl (congrArg (fun b => some (AV.fl (Value.bool b))) (decide_eq_false hc17)) 43 rfl (by decide) (eU8 p0) (Calm.move rfl rfl) ?_
                obtain ⟨t18, et18, hq16⟩ := of_bind hq16
                refine AO.callG 2 false 41 [(eStr p1), (eU8 p0)] (eBool t18) 44 rfl (by decide) ok97 rfl rfl (congrArg (fun b => some (AV.fl (Value.bool b))) (decide_eq_false hc17)) rfl rfl ⟨rfl, rfl, rfl, rfl, trivial⟩ (bosketref03_in_spec et18) ?_
                refine AO.calm rfl 45 rfl (by decide) (eBool t18) (Calm.pickF rfl (congrArg (fun b => some (AV.fl (Value.bool b))) (decide_eq_false hc17)) rfl) ?_
                refine AO.calm rfl 38 rfl (by decide) (eBool t18) (Calm.assign rfl rfl) ?_
                cases hq16
                refine AO.nilE ⟨rfl, rfl⟩ ?_ ?_
                · exact ⟨rfl, rfl, trivial⟩
                · exact (Sub.refl _)
            · by_cases hc19 : b15 = true
              · have h := (if_pos hc19).symm.trans h
                refine AW.condT' b15 rfl hc19 ?_
                refine AW.seq ?_
                refine AW.reg ?_
                refine AO.calm rfl 46 rfl (by decide) (eU8 p0) (Calm.move rfl rfl) ?_
                refine AO.lit (Z := (eU8 (0 : Int))) (xs := (([p0] : List Int).map eU8)) (qs := [(0, (eU8 p0))]) rfl 47 rfl (by decide) rfl ⟨rfl, rfl, rfl, trivial⟩ Try.underlying84 sz5 zr5 lay5 rfl (by decide) (litOK (z := 1) [(eU8 p0)] rfl ⟨⟨rfl, rfl⟩, trivial⟩) rfl fun n20 => ?_
                refine AO.calm rfl 48 rfl (by decide) (eStr (strOfNums ([p0] : List Int))) (Calm.strO 0 rfl rfl rfl Try.underlying84 Try.underlying9 Try.underlying5) ?_
                obtain ⟨hg21, h⟩ := of_guard h
                refine AO.calm rfl 49 rfl (by decide) (eStr ((ByteArray.mk #[92]) ++ (strOfNums ([p0] : List Int)))) (Calm.cat rfl rfl rfl hg21) ?_
                refine AO.calm rfl 4 rfl (by decide) (eStr ((ByteArray.mk #[92]) ++ (strOfNums ([p0] : List Int)))) (Calm.assign rfl rfl) ?_
                refine AO.nil (ρ' := [(4, (eStr ((ByteArray.mk #[92]) ++ (strOfNums ([p0] : List Int)))))]) (H' := []) ⟨rfl, trivial⟩ (Sub.nil _) ?_
                refine AW.ret (ρ' := [(4, (eStr ((ByteArray.mk #[92]) ++ (strOfNums ([p0] : List Int)))))]) (H' := []) ⟨rfl, trivial⟩ (Sub.refl _) ?_
                have hr := Option.some.inj h
                subst hr
                exact ⟨[(eStr ((ByteArray.mk #[92]) ++ (strOfNums ([p0] : List Int))))], ⟨rfl, rfl, trivial⟩, rfl⟩
              · have h := (if_neg hc19).symm.trans h
                refine AW.condF' b15 rfl hc19 ?_
                refine AW.skip (ρ' := [(0, (eU8 p0))]) (H' := []) ⟨rfl, trivial⟩ (Sub.refl _) ?_
                refine AW.seq ?_
                refine AW.reg ?_
                refine AO.calm rfl 50 rfl (by decide) (eU8 p0) (Calm.move rfl rfl) ?_
                refine AO.lit (Z := (eU8 (0 : Int))) (xs := (([p0] : List Int).map eU8)) (qs := [(0, (eU8 p0))]) rfl 51 rfl (by decide) rfl ⟨rfl, rfl, rfl, trivial⟩ Try.underlying84 sz5 zr5 lay5 rfl (by decide) (litOK (z := 1) [(eU8 p0)] rfl ⟨⟨rfl, rfl⟩, trivial⟩) rfl fun n22 => ?_
                refine AO.calm rfl 52 rfl (by decide) (eStr (strOfNums ([p0] : List Int))) (Calm.strO 0 rfl rfl rfl Try.underlying84 Try.underlying9 Try.underlying5) ?_
                refine AO.calm rfl 4 rfl (by decide) (eStr (strOfNums ([p0] : List Int))) (Calm.assign rfl rfl) ?_
                refine AO.nil (ρ' := [(4, (eStr (strOfNums ([p0] : List Int))))]) (H' := []) ⟨rfl, trivial⟩ (Sub.nil _) ?_
                refine AW.ret (ρ' := [(4, (eStr (strOfNums ([p0] : List Int))))]) (H' := []) ⟨rfl, trivial⟩ (Sub.refl _) ?_
                have hr := Option.some.inj h
                subst hr
                exact ⟨[(eStr (strOfNums ([p0] : List Int)))], ⟨rfl, rfl, trivial⟩, rfl⟩
end Go.Avl.T2
