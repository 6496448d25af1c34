/- Parts: T2f68, T2f99, T2f89, T2f70, T2f18, T2f23. -/
import Derived.Test.YtmgiffbobkgcmaaAF1
import Derived.Test.YtmgiffbobkgcmaaAF4
import Derived.Test.YtmgiffbobkgcmaaAF3
import Derived.Test.YtmgiffbobkgcmaaAF2
/- bosket/escape.Unquote; printed by avmain.py. -/
namespace Go.Avl.T2
open Go Go.RowKit Go.Proofs Go.Avl
set_option linter.unusedVariables false
set_option maxRecDepth 100000
set_option maxHeartbeats 4000000
attribute [local irreducible] AW AO AQ Spec SpecH Calm

def escape_Unquote_c0 (k : Nat) : Option (ByteArray × Int × Bool) :=
  some ((ByteArray.mk #[]), (0 : Int), false)
def escape_Unquote_l1 (k : Nat) (p0 : ByteArray) (p1 : Int) : Nat → (List Int) → Int → Option (ByteArray × Int × Bool)
  | 0, _, _ => none
  | j + 1, x9, x10 =>
    if x10 < (p0.size : Int) then if 0 ≤ x10 ∧ x10 < (p0.size : Int) then if (byteAt p0 x10) = p1 then some ((strOfNums x9), (w64 (x10 + (1 : Int))), true)
    else if 0 ≤ x10 ∧ x10 ≤ (p0.size : Int) ∧ (p0.size : Int) ≤ (p0.size : Int) then (escape_Read k (p0.extract x10.toNat (p0.size : Int).toNat)).bind fun t17 =>
    Option.bind (α := Bool) (if (!t17.2.2) = true then some (true)
    else if 0 ≤ x10 ∧ x10 < (p0.size : Int) then some (decide ((byteAt p0 x10) = (10 : Int)))
    else none) fun b18 =>
    if b18 = true then some ((ByteArray.mk #[]), (0 : Int), false)
    else if (x9 ++ ([t17.1] : List Int)).length * 1 ≤ 140737488355328 then (escape_Unquote_l1 k p0 p1 j) (x9 ++ ([t17.1] : List Int)) (w64 (x10 + t17.2.1))
    else none
    else none
    else none
    else escape_Unquote_c0 k
def escape_Unquote (k : Nat) (p0 : ByteArray) (p1 : Int) : Option (ByteArray × Int × Bool) :=
  Option.bind (α := Bool) (if p0 = (ByteArray.mk #[]) then some (true)
  else if 0 ≤ (0 : Int) ∧ (0 : Int) < (p0.size : Int) then some (decide ((byteAt p0 (0 : Int)) ≠ p1))
  else none) fun b3 =>
  if b3 = true then some ((ByteArray.mk #[]), (0 : Int), false)
  else escape_Unquote_l1 k p0 p1 k [] (1 : Int)
theorem escape_Unquote_spec {k : Nat} {p0 : ByteArray} {p1 : Int} {r : (ByteArray × Int × Bool)} (h : escape_Unquote k p0 p1 = some r) : Spec Try.prog 68 [(eStr p0), (eU8 p1)] (.tup [(eStr r.1), (eI64 r.2.1), (eBool r.2.2)]) := by
  rw [escape_Unquote.eq_1] at h
  refine Spec.intro (res := [.tmp 4, .tmp 5, .tmp 6]) Try.func68 rfl rfl rfl (Nat.le_of_ble_eq_true rfl) ?_
  refine AW.seq ?_
  refine AW.reg ?_
  refine AO.calm rfl 4 rfl (by decide) (eStr (ByteArray.mk #[])) (Calm.assign rfl rfl) ?_
  refine AO.calm rfl 5 rfl (by decide) (eI64 (0 : Int)) (Calm.assign rfl rfl) ?_
  refine AO.calm rfl 6 rfl (by decide) (eBool false) (Calm.assign rfl rfl) ?_
  refine AO.nil (ρ' := [(0, (eStr p0)), (1, (eU8 p1))]) (H' := []) ⟨rfl, rfl, trivial⟩ (Sub.refl _) ?_
  refine AW.seq ?_
  refine AW.seq ?_
  obtain ⟨b3, hq4, h⟩ := of_bind h
  refine AW.regM [(0, (eStr p0)), (1, (eU8 p1)), (19, (eBool b3))] [] ?_ ?_
  · refine AO.calm rfl 12 rfl (by decide) (eStr p0) (Calm.move rfl rfl) ?_
    refine AO.calm rfl 13 rfl (by decide) (eBool (decide (p0 = (ByteArray.mk #[])))) (Calm.str rfl rfl rfl rfl) ?_
    refine AO.calm rfl 14 rfl (by decide) (eBool (decide (p0 = (ByteArray.mk #[])))) (Calm.move rfl rfl) ?_
    by_cases hc5 : p0 = (ByteArray.mk #[])
    · have hq4 := (if_pos hc5).symm.trans hq4
      refine AO.skipG 2 true 14 rfl rfl (congrArg (fun b => some (AV.fl (Value.bool b))) (decide_eq_true hc5)) 15 rfl (by decide) ?_
      refine AO.skipG 2 true 14 rfl rfl (congrArg (fun b => some (AV.fl (Value.bool b))) (decide_eq_true hc5)) 16 rfl (by decide) ?_
      refine AO.skipG 2 true 14 rfl rfl (congrArg (fun b => some (AV.fl (Value.bool b))) (decide_eq_true hc5)) 17 rfl (by decide) ?_
      refine AO.skipG 2 true 14 rfl rfl (congrArg (fun b => some (AV.fl (Value.bool b))) (decide_eq_true hc5)) 18 rfl (by decide) ?_
      refine AO.calm rfl 19 rfl (by decide) (eBool true) (Calm.pickT rfl (congrArg (fun b => some (AV.fl (Value.bool b))) (decide_eq_true hc5)) rfl) ?_
      cases hq4
      refine AO.nilE ⟨rfl, rfl⟩ ?_ ?_
      · exact ⟨rfl, rfl, rfl, trivial⟩
      · exact (Sub.refl _)
    · have hq4 := (if_neg hc5).symm.trans hq4
      refine AO.calmG 2 false 14 rfl rfl (congrArg (fun b => some (AV.fl (Value.bool b))) (decide_eq_false hc5)) 15 rfl (by decide) (eStr p0) (Calm.move rfl rfl) ?_
      obtain ⟨hg6, hq4⟩ := of_guard hq4
      refine AO.calmG 2 false 14 rfl rfl (congrArg (fun b => some (AV.fl (Value.bool b))) (decide_eq_false hc5)) 16 rfl (by decide) (eU8 (byteAt p0 (0 : Int))) (Calm.idxS rfl rfl rfl hg6 Try.underlying9) ?_
      refine AO.calmG 2 false 14 rfl rfl (congrArg (fun b => some (AV.fl (Value.bool b))) (decide_eq_false hc5)) 17 rfl (by decide) (eU8 p1) (Calm.move rfl rfl) ?_
      refine AO.calmG 2 false 14 rfl rfl (congrArg (fun b => some (AV.fl (Value.bool b))) (decide_eq_false hc5)) 18 rfl (by decide) (eBool (decide ((byteAt p0 (0 : Int)) ≠ p1))) (Calm.int rfl rfl rfl rfl) ?_
      refine AO.calm rfl 19 rfl (by decide) (eBool (decide ((byteAt p0 (0 : Int)) ≠ p1))) (Calm.pickF rfl (congrArg (fun b => some (AV.fl (Value.bool b))) (decide_eq_false hc5)) rfl) ?_
      cases hq4
      refine AO.nilE ⟨rfl, rfl⟩ ?_ ?_
      · exact ⟨rfl, rfl, rfl, trivial⟩
      · exact (Sub.refl _)
  · by_cases hc7 : b3 = true
    · have h := (if_pos hc7).symm.trans h
      refine AW.condT' b3 rfl hc7 ?_
      refine AW.seq ?_
      refine AW.reg ?_
      refine AO.calm rfl 4 rfl (by decide) (eStr (ByteArray.mk #[])) (Calm.assign rfl rfl) ?_
      refine AO.calm rfl 5 rfl (by decide) (eI64 (0 : Int)) (Calm.assign rfl rfl) ?_
      refine AO.calm rfl 6 rfl (by decide) (eBool false) (Calm.assign rfl rfl) ?_
      refine AO.nil (ρ' := [(4, (eStr (ByteArray.mk #[]))), (5, (eI64 (0 : Int))), (6, (eBool false))]) (H' := []) ⟨rfl, rfl, rfl, trivial⟩ (Sub.refl _) ?_
      refine AW.ret (ρ' := [(4, (eStr (ByteArray.mk #[]))), (5, (eI64 (0 : Int))), (6, (eBool false))]) (H' := []) ⟨rfl, rfl, rfl, trivial⟩ (Sub.refl _) ?_
      have hr := Option.some.inj h
      subst hr
      exact ⟨[(eStr (ByteArray.mk #[])), (eI64 (0 : Int)), (eBool false)], ⟨rfl, rfl, rfl, rfl, rfl, rfl, trivial⟩, rfl⟩
    · have h := (if_neg hc7).symm.trans h
      refine AW.condF' b3 rfl hc7 ?_
      refine AW.skip (ρ' := [(0, (eStr p0)), (1, (eU8 p1))]) (H' := []) ⟨rfl, rfl, trivial⟩ (Sub.refl _) ?_
      refine AW.seq ?_
      refine AW.reg ?_
      refine AO.calm rfl 7 rfl (by decide) (.fl (.slice none 0 0)) (Calm.assign rfl rfl) ?_
      refine AO.nil (ρ' := [(0, (eStr p0)), (1, (eU8 p1)), (7, (.fl (.slice none 0 0)))]) (H' := []) ⟨rfl, rfl, rfl, trivial⟩ (Sub.refl _) ?_
      refine AW.seq_mid (fun ρ H => ρ = [] ∧ H = [] ∧ escape_Unquote_c0 k = some r) ?_ ?_
      · refine AW.seq ?_
        refine AW.reg ?_
        refine AO.calm rfl 8 rfl (by decide) (eI64 (1 : Int)) (Calm.assign rfl rfl) ?_
        refine AO.nil (ρ' := [(0, (eStr p0)), (1, (eU8 p1)), (7, (.fl (.slice none 0 0))), (8, (eI64 (1 : Int)))]) (H' := []) ⟨rfl, rfl, rfl, rfl, trivial⟩ (Sub.refl _) ?_
        refine AW.block ?_
        refine AW.nilOwn 7 1 rfl fun n26 => ?_
        refine AW.weak (ρ' := [(0, (eStr p0)), (1, (eU8 p1)), (7, (.own n26 0 ([] : List Int).length)), (8, (eI64 (1 : Int)))]) (H' := [(n26, .mem (.ar 1 (([] : List Int).map eU8)))]) ⟨rfl, rfl, rfl, rfl, trivial⟩ (Sub.refl _) ?_
        refine AW.loop (fun kq ρ H => ∃ (n8 : Nat) (x9 : (List Int)) (x10 : Int), ρ = [(0, (eStr p0)), (1, (eU8 p1)), (7, (.own n8 0 x9.length)), (8, (eI64 x10))] ∧ H = [(n8, .mem (.ar 1 (x9.map eU8)))] ∧ escape_Unquote_l1 k p0 p1 kq x9 x10 = some r) k ⟨n26, [], (1 : Int), rfl, rfl, h⟩ ?_
        rintro kq12 _ _ ⟨n8, x9, x10, rfl, rfl, h⟩
        cases kq12 with
        | zero => rw [escape_Unquote_l1.eq_1] at h; cases h
        | succ kq12 =>
        rw [escape_Unquote_l1.eq_2] at h
        generalize hrec11 : escape_Unquote_l1 k p0 p1 kq12 = rec11 at h
        refine AW.seq ?_
        refine AW.seq ?_
        refine AW.reg ?_
        refine AO.calm rfl 20 rfl (by decide) (eI64 x10) (Calm.move rfl rfl) ?_
        refine AO.calm rfl 21 rfl (by decide) (eStr p0) (Calm.move rfl rfl) ?_
        refine AO.calm rfl 22 rfl (by decide) (eI64 (p0.size : Int)) (Calm.lenStr rfl rfl Try.underlying9) ?_
        refine AO.calm rfl 23 rfl (by decide) (eBool (decide (x10 < (p0.size : Int)))) (Calm.int rfl rfl rfl rfl) ?_
        refine AO.nil (ρ' := [(0, (eStr p0)), (1, (eU8 p1)), (7, (.own n8 0 x9.length)), (8, (eI64 x10)), (23, (eBool (decide (x10 < (p0.size : Int)))))]) (H' := [(n8, .mem (.ar 1 (x9.map eU8)))]) ⟨rfl, rfl, rfl, rfl, rfl, trivial⟩ (Sub.refl _) ?_
        by_cases hc13 : x10 < (p0.size : Int)
        · have h := (if_pos hc13).symm.trans h
          refine AW.condP (x10 < (p0.size : Int)) rfl hc13 ?_
          refine AW.skip (ρ' := [(0, (eStr p0)), (1, (eU8 p1)), (7, (.own n8 0 x9.length)), (8, (eI64 x10))]) (H' := [(n8, .mem (.ar 1 (x9.map eU8)))]) ⟨rfl, rfl, rfl, rfl, trivial⟩ (Sub.refl _) ?_
          refine AW.block ?_
          refine AW.seq ?_
          refine AW.seq ?_
          refine AW.reg ?_
          refine AO.calm rfl 24 rfl (by decide) (eStr p0) (Calm.move rfl rfl) ?_
          refine AO.calm rfl 25 rfl (by decide) (eI64 x10) (Calm.move rfl rfl) ?_
          obtain ⟨hg14, h⟩ := of_guard h
          refine AO.calm rfl 26 rfl (by decide) (eU8 (byteAt p0 x10)) (Calm.idxS rfl rfl rfl hg14 Try.underlying9) ?_
          refine AO.calm rfl 27 rfl (by decide) (eU8 p1) (Calm.move rfl rfl) ?_
          refine AO.calm rfl 28 rfl (by decide) (eBool (decide ((byteAt p0 x10) = p1))) (Calm.int rfl rfl rfl rfl) ?_
          refine AO.nil (ρ' := [(0, (eStr p0)), (1, (eU8 p1)), (7, (.own n8 0 x9.length)), (8, (eI64 x10)), (28, (eBool (decide ((byteAt p0 x10) = p1))))]) (H' := [(n8, .mem (.ar 1 (x9.map eU8)))]) ⟨rfl, rfl, rfl, rfl, rfl, trivial⟩ (Sub.refl _) ?_
          by_cases hc15 : (byteAt p0 x10) = p1
          · have h := (if_pos hc15).symm.trans h
            refine AW.condP ((byteAt p0 x10) = p1) rfl hc15 ?_
            refine AW.seq ?_
            refine AW.reg ?_
            refine AO.calm rfl 29 rfl (by decide) (.own n8 0 x9.length) (Calm.move rfl rfl) ?_
            refine AO.calm rfl 30 rfl (by decide) (eStr (strOfNums x9)) (Calm.strO 0 rfl rfl rfl Try.underlying84 Try.underlying9 Try.underlying5) ?_
            refine AO.calm rfl 31 rfl (by decide) (eI64 x10) (Calm.move rfl rfl) ?_
            refine AO.calm rfl 32 rfl (by decide) (eI64 (w64 (x10 + (1 : Int)))) (Calm.int rfl rfl rfl rfl) ?_
            refine AO.calm rfl 4 rfl (by decide) (eStr (strOfNums x9)) (Calm.assign rfl rfl) ?_
            refine AO.calm rfl 5 rfl (by decide) (eI64 (w64 (x10 + (1 : Int)))) (Calm.assign rfl rfl) ?_
            refine AO.calm rfl 6 rfl (by decide) (eBool true) (Calm.assign rfl rfl) ?_
            refine AO.nil (ρ' := [(4, (eStr (strOfNums x9))), (5, (eI64 (w64 (x10 + (1 : Int))))), (6, (eBool true))]) (H' := []) ⟨rfl, rfl, rfl, trivial⟩ (Sub.nil _) ?_
            refine AW.ret (ρ' := [(4, (eStr (strOfNums x9))), (5, (eI64 (w64 (x10 + (1 : Int))))), (6, (eBool true))]) (H' := []) ⟨rfl, rfl, rfl, trivial⟩ (Sub.refl _) ?_
            have hr := Option.some.inj h
            subst hr
            exact ⟨[(eStr (strOfNums x9)), (eI64 (w64 (x10 + (1 : Int)))), (eBool true)], ⟨rfl, rfl, rfl, rfl, rfl, rfl, trivial⟩, rfl⟩
          · have h := (if_neg hc15).symm.trans h
            refine AW.condN ((byteAt p0 x10) = p1) rfl hc15 ?_
            refine AW.skip (ρ' := [(0, (eStr p0)), (1, (eU8 p1)), (7, (.own n8 0 x9.length)), (8, (eI64 x10))]) (H' := [(n8, .mem (.ar 1 (x9.map eU8)))]) ⟨rfl, rfl, rfl, rfl, trivial⟩ (Sub.refl _) ?_
            refine AW.seq ?_
            refine AW.reg ?_
            refine AO.calm rfl 34 rfl (by decide) (eStr p0) (Calm.move rfl rfl) ?_
            refine AO.calm rfl 35 rfl (by decide) (eI64 x10) (Calm.move rfl rfl) ?_
            obtain ⟨hg16, h⟩ := of_guard h
            refine AO.calm rfl 36 rfl (by decide) (eStr (p0.extract x10.toNat (p0.size : Int).toNat)) (Calm.sliceS rfl rfl rfl rfl hg16 Try.underlying9) ?_
            obtain ⟨t17, et17, h⟩ := of_bind h
            refine AO.callS [(eStr (p0.extract x10.toNat (p0.size : Int).toNat))] (.tup [(eU8 t17.1), (eI64 t17.2.1), (eBool t17.2.2)]) 37 rfl (by decide) ok87 rfl rfl rfl ⟨rfl, rfl, trivial⟩ (escape_Read_spec et17) ?_
            refine AO.calm rfl 33 rfl (by decide) (.tup [(eU8 t17.1), (eI64 t17.2.1), (eBool t17.2.2)]) (Calm.move rfl rfl) ?_
            refine AO.calm rfl 38 rfl (by decide) (eU8 t17.1) (Calm.extract rfl rfl rfl) ?_
            refine AO.calm rfl 39 rfl (by decide) (eI64 t17.2.1) (Calm.extract rfl rfl rfl) ?_
            refine AO.calm rfl 40 rfl (by decide) (eBool t17.2.2) (Calm.extract rfl rfl rfl) ?_
            refine AO.calm rfl 9 rfl (by decide) (eU8 t17.1) (Calm.assign rfl rfl) ?_
            refine AO.calm rfl 10 rfl (by decide) (eI64 t17.2.1) (Calm.assign rfl rfl) ?_
            refine AO.calm rfl 11 rfl (by decide) (eBool t17.2.2) (Calm.assign rfl rfl) ?_
            refine AO.nil (ρ' := [(0, (eStr p0)), (1, (eU8 p1)), (7, (.own n8 0 x9.length)), (8, (eI64 x10)), (9, (eU8 t17.1)), (10, (eI64 t17.2.1)), (11, (eBool t17.2.2))]) (H' := [(n8, .mem (.ar 1 (x9.map eU8)))]) ⟨rfl, rfl, rfl, rfl, rfl, rfl, rfl, trivial⟩ (Sub.refl _) ?_
            refine AW.seq ?_
            refine AW.seq ?_
            obtain ⟨b18, hq19, h⟩ := of_bind h
            refine AW.regM [(0, (eStr p0)), (1, (eU8 p1)), (7, (.own n8 0 x9.length)), (8, (eI64 x10)), (9, (eU8 t17.1)), (10, (eI64 t17.2.1)), (48, (eBool b18))] [(n8, .mem (.ar 1 (x9.map eU8)))] ?_ ?_
            · refine AO.calm rfl 41 rfl (by decide) (eBool t17.2.2) (Calm.move rfl rfl) ?_
              refine AO.calm rfl 42 rfl (by decide) (eBool (!t17.2.2)) (Calm.not rfl rfl) ?_
              refine AO.calm rfl 43 rfl (by decide) (eBool (!t17.2.2)) (Calm.move rfl rfl) ?_
              by_cases hc20 : (!t17.2.2) = true
              · have hq19 := (if_pos hc20).symm.trans hq19
                refine AO.skipG 2 true 43 rfl rfl (congrArg (fun b => some (AV.fl (Value.bool b))) hc20) 44 rfl (by decide) ?_
                refine AO.skipG 2 true 43 rfl rfl (congrArg (fun b => some (AV.fl (Value.bool b))) hc20) 45 rfl (by decide) ?_
                refine AO.skipG 2 true 43 rfl rfl (congrArg (fun b => some (AV.fl (Value.bool b))) hc20) 46 rfl (by decide) ?_
                refine AO.skipG 2 true 43 rfl rfl (congrArg (fun b => some (AV.fl (Value.bool b))) hc20) 47 rfl (by decide) ?_
                refine AO.calm rfl 48 rfl (by decide) (eBool true) (Calm.pickT rfl (congrArg (fun b => some (AV.fl (Value.bool b))) hc20) rfl) ?_
                cases hq19
                refine AO.nilE ⟨rfl, rfl⟩ ?_ ?_
                · exact ⟨rfl, rfl, rfl, rfl, rfl, rfl, rfl, trivial⟩
                · exact (Sub.refl _)
              · have hq19 := (if_neg hc20).symm.trans hq19
                refine AO.calmG 2 false 43 rfl rfl (congrArg (fun b => some (AV.fl (Value.bool b))) (eq_false_of_ne_true hc20)) 44 rfl (by decide) (eStr p0) (Calm.move rfl rfl) ?_
                refine AO.calmG 2 false 43 rfl rfl (congrArg (fun b => some (AV.fl (Value.bool b))) (eq_false_of_ne_true hc20)) 45 rfl (by decide) (eI64 x10) (Calm.move rfl rfl) ?_
                obtain ⟨hg21, hq19⟩ := of_guard hq19
                refine AO.calmG 2 false 43 rfl rfl (congrArg (fun b => some (AV.fl (Value.bool b))) (eq_false_of_ne_true hc20)) 46 rfl (by decide) (eU8 (byteAt p0 x10)) (Calm.idxS rfl rfl rfl hg21 Try.underlying9) ?_
                refine AO.calmG 2 false 43 rfl rfl (congrArg (fun b => some (AV.fl (Value.bool b))) (eq_false_of_ne_true hc20)) 47 rfl (by decide) (eBool (decide ((byteAt p0 x10) = (10 : Int)))) (Calm.int rfl rfl rfl rfl) ?_
                refine AO.calm rfl 48 rfl (by decide) (eBool (decide ((byteAt p0 x10) = (10 : Int)))) (Calm.pickF rfl (congrArg (fun b => some (AV.fl (Value.bool b))) (eq_false_of_ne_true hc20)) rfl) ?_
                cases hq19
                refine AO.nilE ⟨rfl, rfl⟩ ?_ ?_
                · exact ⟨rfl, rfl, rfl, rfl, rfl, rfl, rfl, trivial⟩
                · exact (Sub.refl _)
            · by_cases hc22 : b18 = true
              · have h := (if_pos hc22).symm.trans h
                refine AW.condT' b18 rfl hc22 ?_
                refine AW.seq ?_
                refine AW.reg ?_
                refine AO.calm rfl 4 rfl (by decide) (eStr (ByteArray.mk #[])) (Calm.assign rfl rfl) ?_
                refine AO.calm rfl 5 rfl (by decide) (eI64 (0 : Int)) (Calm.assign rfl rfl) ?_
                refine AO.calm rfl 6 rfl (by decide) (eBool false) (Calm.assign rfl rfl) ?_
                refine AO.nil (ρ' := [(4, (eStr (ByteArray.mk #[]))), (5, (eI64 (0 : Int))), (6, (eBool false))]) (H' := []) ⟨rfl, rfl, rfl, trivial⟩ (Sub.nil _) ?_
                refine AW.ret (ρ' := [(4, (eStr (ByteArray.mk #[]))), (5, (eI64 (0 : Int))), (6, (eBool false))]) (H' := []) ⟨rfl, rfl, rfl, trivial⟩ (Sub.refl _) ?_
                have hr := Option.some.inj h
                subst hr
                exact ⟨[(eStr (ByteArray.mk #[])), (eI64 (0 : Int)), (eBool false)], ⟨rfl, rfl, rfl, rfl, rfl, rfl, trivial⟩, rfl⟩
              · have h := (if_neg hc22).symm.trans h
                refine AW.condF' b18 rfl hc22 ?_
                refine AW.skip (ρ' := [(0, (eStr p0)), (1, (eU8 p1)), (7, (.own n8 0 x9.length)), (8, (eI64 x10)), (9, (eU8 t17.1)), (10, (eI64 t17.2.1))]) (H' := [(n8, .mem (.ar 1 (x9.map eU8)))]) ⟨rfl, rfl, rfl, rfl, rfl, rfl, trivial⟩ (Sub.refl _) ?_
                refine AW.seq ?_
                refine AW.reg ?_
                refine AO.calm rfl 49 rfl (by decide) (.own n8 0 x9.length) (Calm.move rfl rfl) ?_
                refine AO.calm rfl 50 rfl (by decide) (eU8 t17.1) (Calm.move rfl rfl) ?_
                refine AO.lit (Z := (eU8 (0 : Int))) (xs := (([t17.1] : List Int).map eU8)) (qs := [(0, (eU8 t17.1))]) rfl 51 rfl (by decide) rfl ⟨rfl, rfl, rfl, trivial⟩ Try.underlying84 sz5 zr5 lay5 rfl (by decide) (litOK (z := 1) [(eU8 t17.1)] rfl ⟨⟨rfl, rfl⟩, trivial⟩) rfl fun n23 => ?_
                obtain ⟨hg25, h⟩ := of_guard h
                refine AO.appendL (l := x9) (m := ([t17.1] : List Int)) 1 52 rfl (by decide) rfl rfl rfl rfl rfl (Src.ownL (f := eU8) (l := ([t17.1] : List Int)) 0 rfl) Try.underlying84 Try.underlying84 sz5 by5 zr5 rfl hg25 (by decide) fun n24 => ?_
                refine AO.calm rfl 7 rfl (by decide) (.own n24 0 (x9 ++ ([t17.1] : List Int)).length) (Calm.assign rfl rfl) ?_
                refine AO.nil (ρ' := [(0, (eStr p0)), (1, (eU8 p1)), (7, (.own n24 0 (x9 ++ ([t17.1] : List Int)).length)), (8, (eI64 x10)), (10, (eI64 t17.2.1))]) (H' := [(n24, .mem (.ar 1 ((x9 ++ ([t17.1] : List Int)).map eU8)))]) ⟨rfl, rfl, rfl, rfl, rfl, trivial⟩ (Sub.cons 1 rfl (Sub.nil _)) ?_
                refine AW.reg ?_
                refine AO.calm rfl 53 rfl (by decide) (eI64 x10) (Calm.move rfl rfl) ?_
                refine AO.calm rfl 54 rfl (by decide) (eI64 t17.2.1) (Calm.move rfl rfl) ?_
                refine AO.calm rfl 55 rfl (by decide) (eI64 (w64 (x10 + t17.2.1))) (Calm.int rfl rfl rfl rfl) ?_
                refine AO.calm rfl 8 rfl (by decide) (eI64 (w64 (x10 + t17.2.1))) (Calm.assign rfl rfl) ?_
                refine AO.nil (ρ' := [(0, (eStr p0)), (1, (eU8 p1)), (7, (.own n24 0 (x9 ++ ([t17.1] : List Int)).length)), (8, (eI64 (w64 (x10 + t17.2.1))))]) (H' := [(n24, .mem (.ar 1 ((x9 ++ ([t17.1] : List Int)).map eU8)))]) ⟨rfl, rfl, rfl, rfl, trivial⟩ (Sub.refl _) ?_
                exact ⟨kq12, Nat.lt_succ_self _, n24, (x9 ++ ([t17.1] : List Int)), (w64 (x10 + t17.2.1)), rfl, rfl, by rw [hrec11]; exact h⟩
        · have h := (if_neg hc13).symm.trans h
          refine AW.condN (x10 < (p0.size : Int)) rfl hc13 ?_
          refine AW.exit (ρ' := []) (H' := []) trivial (Sub.nil _) ?_
          exact ⟨rfl, rfl, h⟩
      · rintro _ _ ⟨rfl, rfl, h⟩
        rw [escape_Unquote_c0.eq_1] at h
        refine AW.seq ?_
        refine AW.reg ?_
        refine AO.calm rfl 4 rfl (by decide) (eStr (ByteArray.mk #[])) (Calm.assign rfl rfl) ?_
        refine AO.calm rfl 5 rfl (by decide) (eI64 (0 : Int)) (Calm.assign rfl rfl) ?_
        refine AO.calm rfl 6 rfl (by decide) (eBool false) (Calm.assign rfl rfl) ?_
        refine AO.nil (ρ' := [(4, (eStr (ByteArray.mk #[]))), (5, (eI64 (0 : Int))), (6, (eBool false))]) (H' := []) ⟨rfl, rfl, rfl, trivial⟩ (Sub.refl _) ?_
        refine AW.ret (ρ' := [(4, (eStr (ByteArray.mk #[]))), (5, (eI64 (0 : Int))), (6, (eBool false))]) (H' := []) ⟨rfl, rfl, rfl, trivial⟩ (Sub.refl _) ?_
        have hr := Option.some.inj h
        subst hr
        exact ⟨[(eStr (ByteArray.mk #[])), (eI64 (0 : Int)), (eBool false)], ⟨rfl, rfl, rfl, rfl, rfl, rfl, trivial⟩, rfl⟩
end Go.Avl.T2
/- bosket/bosketref03.word; printed by avmain.py. -/
namespace Go.Avl.T2
open Go Go.RowKit Go.Proofs Go.Avl
set_option linter.unusedVariables false
set_option maxRecDepth 100000
set_option maxHeartbeats 4000000
attribute [local irreducible] AW AO AQ Spec SpecH Calm

def bosketref03_word (k : Nat) (p0 : Int) : Option Bool :=
  (bosketref03_in k (ByteArray.mk #[48, 49, 50, 51, 52, 53, 54, 55, 56, 57, 97, 98, 99, 100, 101, 102, 103, 104, 105, 106, 107, 108, 109, 110, 111, 112, 113, 114, 115, 116, 117, 118, 119, 120, 121, 122, 65, 66, 67, 68, 69, 70, 71, 72, 73, 74, 75, 76, 77, 78, 79, 80, 81, 82, 83, 84, 85, 86, 87, 88, 89, 90]) p0).bind fun t2 =>
  some (t2)
theorem bosketref03_word_spec {k : Nat} {p0 : Int} {r : Bool} (h : bosketref03_word k p0 = some r) : Spec Try.prog 99 [(eU8 p0)] (eBool r) := by
  rw [bosketref03_word.eq_1] at h
  refine Spec.intro (res := [.tmp 2]) Try.func99 rfl rfl rfl (Nat.le_of_ble_eq_true rfl) ?_
  refine AW.seq ?_
  refine AW.reg ?_
  refine AO.calm rfl 2 rfl (by decide) (eBool false) (Calm.assign rfl rfl) ?_
  refine AO.nil (ρ' := [(0, (eU8 p0))]) (H' := []) ⟨rfl, trivial⟩ (Sub.refl _) ?_
  refine AW.seq ?_
  refine AW.reg ?_
  refine AO.calm rfl 3 rfl (by decide) (eU8 p0) (Calm.move rfl rfl) ?_
  obtain ⟨t2, et2, h⟩ := of_bind h
  refine AO.callS [(eStr (ByteArray.mk #[48, 49, 50, 51, 52, 53, 54, 55, 56, 57, 97, 98, 99, 100, 101, 102, 103, 104, 105, 106, 107, 108, 109, 110, 111, 112, 113, 114, 115, 116, 117, 118, 119, 120, 121, 122, 65, 66, 67, 68, 69, 70, 71, 72, 73, 74, 75, 76, 77, 78, 79, 80, 81, 82, 83, 84, 85, 86, 87, 88, 89, 90])), (eU8 p0)] (eBool t2) 4 rfl (by decide) ok97 rfl rfl rfl ⟨rfl, rfl, rfl, rfl, trivial⟩ (bosketref03_in_spec et2) ?_
  refine AO.calm rfl 2 rfl (by decide) (eBool t2) (Calm.assign rfl rfl) ?_
  refine AO.nil (ρ' := [(2, (eBool t2))]) (H' := []) ⟨rfl, trivial⟩ (Sub.refl _) ?_
  refine AW.ret (ρ' := [(2, (eBool t2))]) (H' := []) ⟨rfl, trivial⟩ (Sub.refl _) ?_
  have hr := Option.some.inj h
  subst hr
  exact ⟨[(eBool t2)], ⟨rfl, rfl, trivial⟩, rfl⟩
end Go.Avl.T2
/- bosket/bosketref03.Read; printed by avmain.py. -/
namespace Go.Avl.T2
open Go Go.RowKit Go.Proofs Go.Avl
set_option linter.unusedVariables false
set_option maxRecDepth 100000
set_option maxHeartbeats 4000000
attribute [local irreducible] AW AO AQ Spec SpecH Calm

def bosketref03_Read_c0 (k : Nat) (p0 : ByteArray) : Option (Int × Int × Bool) :=
  Option.bind (α := Bool) (if (1 : Int) < (p0.size : Int) then if 0 ≤ (1 : Int) ∧ (1 : Int) < (p0.size : Int) then if (32 : Int) ≤ (byteAt p0 (1 : Int)) then if 0 ≤ (1 : Int) ∧ (1 : Int) < (p0.size : Int) then if (byteAt p0 (1 : Int)) ≤ (126 : Int) then if 0 ≤ (1 : Int) ∧ (1 : Int) < (p0.size : Int) then (bosketref03_word k (byteAt p0 (1 : Int))).bind fun t14 =>
  some (!t14)
  else none
  else some (false)
  else none
  else some (false)
  else none
  else some (false)) fun b6 =>
  if b6 = true then if 0 ≤ (1 : Int) ∧ (1 : Int) < (p0.size : Int) then some ((byteAt p0 (1 : Int)), (2 : Int), true)
  else none
  else some ((0 : Int), (0 : Int), false)
def bosketref03_Read_l1 (k : Nat) (p0 : ByteArray) : Nat → Int → Option (Int × Int × Bool)
  | 0, _ => none
  | j + 1, x17 =>
    if x17 < (256 : Int) then (bosketref03_Byte k (w8 x17) (ByteArray.mk #[])).bind fun t21 =>
    Option.bind (α := Bool) (if (t21.size : Int) = (2 : Int) then if 0 ≤ (1 : Int) ∧ (1 : Int) < (t21.size : Int) then if (byteAt t21 (1 : Int)) ≠ (92 : Int) then if (1 : Int) < (p0.size : Int) then if 0 ≤ (0 : Int) ∧ (0 : Int) ≤ (2 : Int) ∧ (2 : Int) ≤ (p0.size : Int) then some (decide ((p0.extract (0 : Int).toNat (2 : Int).toNat) = t21))
    else none
    else some (false)
    else some (false)
    else none
    else some (false)) fun b22 =>
    if b22 = true then some ((w8 x17), (2 : Int), true)
    else if 0 ≤ (IntKind.i64.wrap (x17.tdiv (16 : Int))) ∧ (IntKind.i64.wrap (x17.tdiv (16 : Int))) ≤ (w64 ((IntKind.i64.wrap (x17.tdiv (16 : Int))) + (1 : Int))) ∧ (w64 ((IntKind.i64.wrap (x17.tdiv (16 : Int))) + (1 : Int))) ≤ ((ByteArray.mk #[48, 49, 50, 51, 52, 53, 54, 55, 56, 57, 97, 98, 99, 100, 101, 102]).size : Int) then if (ByteArray.mk #[92, 120]).size + ((ByteArray.mk #[48, 49, 50, 51, 52, 53, 54, 55, 56, 57, 97, 98, 99, 100, 101, 102]).extract (IntKind.i64.wrap (x17.tdiv (16 : Int))).toNat (w64 ((IntKind.i64.wrap (x17.tdiv (16 : Int))) + (1 : Int))).toNat).size ≤ 9223372036854775807 then if 0 ≤ (x17.tmod (16 : Int)) ∧ (x17.tmod (16 : Int)) ≤ (w64 ((x17.tmod (16 : Int)) + (1 : Int))) ∧ (w64 ((x17.tmod (16 : Int)) + (1 : Int))) ≤ ((ByteArray.mk #[48, 49, 50, 51, 52, 53, 54, 55, 56, 57, 97, 98, 99, 100, 101, 102]).size : Int) then if ((ByteArray.mk #[92, 120]) ++ ((ByteArray.mk #[48, 49, 50, 51, 52, 53, 54, 55, 56, 57, 97, 98, 99, 100, 101, 102]).extract (IntKind.i64.wrap (x17.tdiv (16 : Int))).toNat (w64 ((IntKind.i64.wrap (x17.tdiv (16 : Int))) + (1 : Int))).toNat)).size + ((ByteArray.mk #[48, 49, 50, 51, 52, 53, 54, 55, 56, 57, 97, 98, 99, 100, 101, 102]).extract (x17.tmod (16 : Int)).toNat (w64 ((x17.tmod (16 : Int)) + (1 : Int))).toNat).size ≤ 9223372036854775807 then Option.bind (α := Bool) (if (3 : Int) < (p0.size : Int) then if 0 ≤ (0 : Int) ∧ (0 : Int) ≤ (4 : Int) ∧ (4 : Int) ≤ (p0.size : Int) then some (decide ((p0.extract (0 : Int).toNat (4 : Int).toNat) = (((ByteArray.mk #[92, 120]) ++ ((ByteArray.mk #[48, 49, 50, 51, 52, 53, 54, 55, 56, 57, 97, 98, 99, 100, 101, 102]).extract (IntKind.i64.wrap (x17.tdiv (16 : Int))).toNat (w64 ((IntKind.i64.wrap (x17.tdiv (16 : Int))) + (1 : Int))).toNat)) ++ ((ByteArray.mk #[48, 49, 50, 51, 52, 53, 54, 55, 56, 57, 97, 98, 99, 100, 101, 102]).extract (x17.tmod (16 : Int)).toNat (w64 ((x17.tmod (16 : Int)) + (1 : Int))).toNat))))
    else none
    else some (false)) fun b34 =>
    if b34 = true then some ((w8 x17), (4 : Int), true)
    else (bosketref03_Read_l1 k p0 j) (w64 (x17 + (1 : Int)))
    else none
    else none
    else none
    else none
    else bosketref03_Read_c0 k p0
def bosketref03_Read (k : Nat) (p0 : ByteArray) : Option (Int × Int × Bool) :=
  if p0 = (ByteArray.mk #[]) then some ((0 : Int), (0 : Int), false)
  else if 0 ≤ (0 : Int) ∧ (0 : Int) < (p0.size : Int) then if (byteAt p0 (0 : Int)) ≠ (92 : Int) then if 0 ≤ (0 : Int) ∧ (0 : Int) < (p0.size : Int) then some ((byteAt p0 (0 : Int)), (1 : Int), true)
  else none
  else bosketref03_Read_l1 k p0 k (0 : Int)
  else none
theorem bosketref03_Read_spec {k : Nat} {p0 : ByteArray} {r : (Int × Int × Bool)} (h : bosketref03_Read k p0 = some r) : Spec Try.prog 89 [(eStr p0)] (.tup [(eU8 r.1), (eI64 r.2.1), (eBool r.2.2)]) := by
  rw [bosketref03_Read.eq_1] at h
  refine Spec.intro (res := [.tmp 2, .tmp 3, .tmp 4]) Try.func89 rfl rfl rfl (Nat.le_of_ble_eq_true rfl) ?_
  refine AW.seq ?_
  refine AW.reg ?_
  refine AO.calm rfl 2 rfl (by decide) (eU8 (0 : Int)) (Calm.assign rfl rfl) ?_
  refine AO.calm rfl 3 rfl (by decide) (eI64 (0 : Int)) (Calm.assign rfl rfl) ?_
  refine AO.calm rfl 4 rfl (by decide) (eBool false) (Calm.assign rfl rfl) ?_
  refine AO.nil (ρ' := [(0, (eStr p0))]) (H' := []) ⟨rfl, trivial⟩ (Sub.refl _) ?_
  refine AW.seq ?_
  refine AW.seq ?_
  refine AW.reg ?_
  refine AO.calm rfl 8 rfl (by decide) (eStr p0) (Calm.move rfl rfl) ?_
  refine AO.calm rfl 9 rfl (by decide) (eBool (decide (p0 = (ByteArray.mk #[])))) (Calm.str rfl rfl rfl rfl) ?_
  refine AO.nil (ρ' := [(0, (eStr p0)), (9, (eBool (decide (p0 = (ByteArray.mk #[])))))]) (H' := []) ⟨rfl, rfl, trivial⟩ (Sub.refl _) ?_
  by_cases hc2 : p0 = (ByteArray.mk #[])
  · have h := (if_pos hc2).symm.trans h
    refine AW.condP (p0 = (ByteArray.mk #[])) rfl hc2 ?_
    refine AW.seq ?_
    refine AW.reg ?_
    refine AO.calm rfl 2 rfl (by decide) (eU8 (0 : Int)) (Calm.assign rfl rfl) ?_
    refine AO.calm rfl 3 rfl (by decide) (eI64 (0 : Int)) (Calm.assign rfl rfl) ?_
    refine AO.calm rfl 4 rfl (by decide) (eBool false) (Calm.assign rfl rfl) ?_
    refine AO.nil (ρ' := [(2, (eU8 (0 : Int))), (3, (eI64 (0 : Int))), (4, (eBool false))]) (H' := []) ⟨rfl, rfl, rfl, trivial⟩ (Sub.refl _) ?_
    refine AW.ret (ρ' := [(2, (eU8 (0 : Int))), (3, (eI64 (0 : Int))), (4, (eBool false))]) (H' := []) ⟨rfl, rfl, rfl, trivial⟩ (Sub.refl _) ?_
    have hr := Option.some.inj h
    subst hr
    exact ⟨[(eU8 (0 : Int)), (eI64 (0 : Int)), (eBool false)], ⟨rfl, rfl, rfl, rfl, rfl, rfl, trivial⟩, rfl⟩
  · have h := (if_neg hc2).symm.trans h
    refine AW.condN (p0 = (ByteArray.mk #[])) rfl hc2 ?_
    refine AW.skip (ρ' := [(0, (eStr p0))]) (H' := []) ⟨rfl, trivial⟩ (Sub.refl _) ?_
    refine AW.seq ?_
    refine AW.seq ?_
    refine AW.reg ?_
    refine AO.calm rfl 10 rfl (by decide) (eStr p0) (Calm.move rfl rfl) ?_
    obtain ⟨hg3, h⟩ := of_guard h
    refine AO.calm rfl 11 rfl (by decide) (eU8 (byteAt p0 (0 : Int))) (Calm.idxS rfl rfl rfl hg3 Try.underlying9) ?_
    refine AO.calm rfl 12 rfl (by decide) (eBool (decide ((byteAt p0 (0 : Int)) ≠ (92 : Int)))) (Calm.int rfl rfl rfl rfl) ?_
    refine AO.nil (ρ' := [(0, (eStr p0)), (12, (eBool (decide ((byteAt p0 (0 : Int)) ≠ (92 : Int)))))]) (H' := []) ⟨rfl, rfl, trivial⟩ (Sub.refl _) ?_
    by_cases hc4 : (byteAt p0 (0 : Int)) ≠ (92 : Int)
    · have h := (if_pos hc4).symm.trans h
      refine AW.condP ((byteAt p0 (0 : Int)) ≠ (92 : Int)) rfl hc4 ?_
      refine AW.seq ?_
      refine AW.reg ?_
      refine AO.calm rfl 13 rfl (by decide) (eStr p0) (Calm.move rfl rfl) ?_
      obtain ⟨hg5, h⟩ := of_guard h
      refine AO.calm rfl 14 rfl (by decide) (eU8 (byteAt p0 (0 : Int))) (Calm.idxS rfl rfl rfl hg5 Try.underlying9) ?_
      refine AO.calm rfl 2 rfl (by decide) (eU8 (byteAt p0 (0 : Int))) (Calm.assign rfl rfl) ?_
      refine AO.calm rfl 3 rfl (by decide) (eI64 (1 : Int)) (Calm.assign rfl rfl) ?_
      refine AO.calm rfl 4 rfl (by decide) (eBool true) (Calm.assign rfl rfl) ?_
      refine AO.nil (ρ' := [(2, (eU8 (byteAt p0 (0 : Int)))), (3, (eI64 (1 : Int))), (4, (eBool true))]) (H' := []) ⟨rfl, rfl, rfl, trivial⟩ (Sub.refl _) ?_
      refine AW.ret (ρ' := [(2, (eU8 (byteAt p0 (0 : Int)))), (3, (eI64 (1 : Int))), (4, (eBool true))]) (H' := []) ⟨rfl, rfl, rfl, trivial⟩ (Sub.refl _) ?_
      have hr := Option.some.inj h
      subst hr
      exact ⟨[(eU8 (byteAt p0 (0 : Int))), (eI64 (1 : Int)), (eBool true)], ⟨rfl, rfl, rfl, rfl, rfl, rfl, trivial⟩, rfl⟩
    · have h := (if_neg hc4).symm.trans h
      refine AW.condN ((byteAt p0 (0 : Int)) ≠ (92 : Int)) rfl hc4 ?_
      refine AW.skip (ρ' := [(0, (eStr p0))]) (H' := []) ⟨rfl, trivial⟩ (Sub.refl _) ?_
      refine AW.seq_mid (fun ρ H => ρ = [(0, (eStr p0))] ∧ H = [] ∧ bosketref03_Read_c0 k p0 = some r) ?_ ?_
      · refine AW.seq ?_
        refine AW.reg ?_
        refine AO.calm rfl 5 rfl (by decide) (eI64 (0 : Int)) (Calm.assign rfl rfl) ?_
        refine AO.nil (ρ' := [(0, (eStr p0)), (5, (eI64 (0 : Int)))]) (H' := []) ⟨rfl, rfl, trivial⟩ (Sub.refl _) ?_
        refine AW.block ?_
        refine AW.weak (ρ' := [(0, (eStr p0)), (5, (eI64 (0 : Int)))]) (H' := []) ⟨rfl, rfl, trivial⟩ (Sub.refl _) ?_
        refine AW.loop (fun kq ρ H => ∃ (x17 : Int), ρ = [(0, (eStr p0)), (5, (eI64 x17))] ∧ H = [] ∧ bosketref03_Read_l1 k p0 kq x17 = some r) k ⟨(0 : Int), rfl, rfl, h⟩ ?_
        rintro kq19 _ _ ⟨x17, rfl, rfl, h⟩
        cases kq19 with
        | zero => rw [bosketref03_Read_l1.eq_1] at h; cases h
        | succ kq19 =>
        rw [bosketref03_Read_l1.eq_2] at h
        generalize hrec18 : bosketref03_Read_l1 k p0 kq19 = rec18 at h
        refine AW.seq ?_
        refine AW.seq ?_
        refine AW.reg ?_
        refine AO.calm rfl 15 rfl (by decide) (eI64 x17) (Calm.move rfl rfl) ?_
        refine AO.calm rfl 16 rfl (by decide) (eBool (decide (x17 < (256 : Int)))) (Calm.int rfl rfl rfl rfl) ?_
        refine AO.nil (ρ' := [(0, (eStr p0)), (5, (eI64 x17)), (16, (eBool (decide (x17 < (256 : Int)))))]) (H' := []) ⟨rfl, rfl, rfl, trivial⟩ (Sub.refl _) ?_
        by_cases hc20 : x17 < (256 : Int)
        · have h := (if_pos hc20).symm.trans h
          refine AW.condP (x17 < (256 : Int)) rfl hc20 ?_
          refine AW.skip (ρ' := [(0, (eStr p0)), (5, (eI64 x17))]) (H' := []) ⟨rfl, rfl, trivial⟩ (Sub.refl _) ?_
          refine AW.seq ?_
          refine AW.block ?_
          refine AW.seq ?_
          refine AW.reg ?_
          refine AO.calm rfl 19 rfl (by decide) (eI64 x17) (Calm.move rfl rfl) ?_
          refine AO.calm rfl 20 rfl (by decide) (eU8 (w8 x17)) (Calm.conv rfl rfl Try.underlying3 Try.underlying5) ?_
          obtain ⟨t21, et21, h⟩ := of_bind h
          refine AO.callS [(eU8 (w8 x17)), (eStr (ByteArray.mk #[]))] (eStr t21) 21 rfl (by decide) ok82 rfl rfl rfl ⟨rfl, rfl, rfl, rfl, trivial⟩ (bosketref03_Byte_spec et21) ?_
          refine AO.calm rfl 6 rfl (by decide) (eStr t21) (Calm.assign rfl rfl) ?_
          refine AO.nil (ρ' := [(0, (eStr p0)), (5, (eI64 x17)), (6, (eStr t21))]) (H' := []) ⟨rfl, rfl, rfl, trivial⟩ (Sub.refl _) ?_
          refine AW.seq ?_
          refine AW.seq ?_
          obtain ⟨b22, hq23, h⟩ := of_bind h
          refine AW.regM [(0, (eStr p0)), (5, (eI64 x17)), (40, (eBool b22))] [] ?_ ?_
          · refine AO.calm rfl 22 rfl (by decide) (eStr t21) (Calm.move rfl rfl) ?_
            refine AO.calm rfl 23 rfl (by decide) (eI64 (t21.size : Int)) (Calm.lenStr rfl rfl Try.underlying9) ?_
            refine AO.calm rfl 24 rfl (by decide) (eBool (decide ((t21.size : Int) = (2 : Int)))) (Calm.int rfl rfl rfl rfl) ?_
            refine AO.calm rfl 25 rfl (by decide) (eBool (decide ((t21.size : Int) = (2 : Int)))) (Calm.move rfl rfl) ?_
            by_cases hc24 : (t21.size : Int) = (2 : Int)
            · have hq23 := (if_pos hc24).symm.trans hq23
              refine AO.calmG 3 true 25 rfl rfl (congrArg (fun b => some (AV.fl (Value.bool b))) (decide_eq_true hc24)) 26 rfl (by decide) (eStr t21) (Calm.move rfl rfl) ?_
              obtain ⟨hg25, hq23⟩ := of_guard hq23
              refine AO.calmG 3 true 25 rfl rfl (congrArg (fun b => some (AV.fl (Value.bool b))) (decide_eq_true hc24)) 27 rfl (by decide) (eU8 (byteAt t21 (1 : Int))) (Calm.idxS rfl rfl rfl hg25 Try.underlying9) ?_
              refine AO.calmG 3 true 25 rfl rfl (congrArg (fun b => some (AV.fl (Value.bool b))) (decide_eq_true hc24)) 28 rfl (by decide) (eBool (decide ((byteAt t21 (1 : Int)) ≠ (92 : Int)))) (Calm.int rfl rfl rfl rfl) ?_
              refine AO.calm rfl 29 rfl (by decide) (eBool (decide ((byteAt t21 (1 : Int)) ≠ (92 : Int)))) (Calm.pickT rfl (congrArg (fun b => some (AV.fl (Value.bool b))) (decide_eq_true hc24)) rfl) ?_
              refine AO.calm rfl 30 rfl (by decide) (eBool (decide ((byteAt t21 (1 : Int)) ≠ (92 : Int)))) (Calm.move rfl rfl) ?_
              by_cases hc26 : (byteAt t21 (1 : Int)) ≠ (92 : Int)
              · have hq23 := (if_pos hc26).symm.trans hq23
                refine AO.calmG 8 true 30 rfl rfl (congrArg (fun b => some (AV.fl (Value.bool b))) (decide_eq_true hc26)) 31 rfl (by decide) (eStr p0) (Calm.move rfl rfl) ?_
                refine AO.calmG 8 true 30 rfl rfl (congrArg (fun b => some (AV.fl (Value.bool b))) (decide_eq_true hc26)) 32 rfl (by decide) (eI64 (p0.size : Int)) (Calm.lenStr rfl rfl Try.underlying9) ?_
                refine AO.calmG 8 true 30 rfl rfl (congrArg (fun b => some (AV.fl (Value.bool b))) (decide_eq_true hc26)) 33 rfl (by decide) (eBool (decide ((1 : Int) < (p0.size : Int)))) (Calm.int rfl rfl rfl rfl) ?_
                refine AO.calm rfl 34 rfl (by decide) (eBool (decide ((1 : Int) < (p0.size : Int)))) (Calm.pickT rfl (congrArg (fun b => some (AV.fl (Value.bool b))) (decide_eq_true hc26)) rfl) ?_
                refine AO.calm rfl 35 rfl (by decide) (eBool (decide ((1 : Int) < (p0.size : Int)))) (Calm.move rfl rfl) ?_
                by_cases hc27 : (1 : Int) < (p0.size : Int)
                · have hq23 := (if_pos hc27).symm.trans hq23
                  refine AO.calmG 13 true 35 rfl rfl (congrArg (fun b => some (AV.fl (Value.bool b))) (decide_eq_true hc27)) 36 rfl (by decide) (eStr p0) (Calm.move rfl rfl) ?_
                  obtain ⟨hg28, hq23⟩ := of_guard hq23
                  refine AO.calmG 13 true 35 rfl rfl (congrArg (fun b => some (AV.fl (Value.bool b))) (decide_eq_true hc27)) 37 rfl (by decide) (eStr (p0.extract (0 : Int).toNat (2 : Int).toNat)) (Calm.sliceS rfl rfl rfl rfl hg28 Try.underlying9) ?_
                  refine AO.calmG 13 true 35 rfl rfl (congrArg (fun b => some (AV.fl (Value.bool b))) (decide_eq_true hc27)) 38 rfl (by decide) (eStr t21) (Calm.move rfl rfl) ?_
                  refine AO.calmG 13 true 35 rfl rfl (congrArg (fun b => some (AV.fl (Value.bool b))) (decide_eq_true hc27)) 39 rfl (by decide) (eBool (decide ((p0.extract (0 : Int).toNat (2 : Int).toNat) = t21))) (Calm.str rfl rfl rfl rfl) ?_
                  refine AO.calm rfl 40 rfl (by decide) (eBool (decide ((p0.extract (0 : Int).toNat (2 : Int).toNat) = t21))) (Calm.pickT rfl (congrArg (fun b => some (AV.fl (Value.bool b))) (decide_eq_true hc27)) rfl) ?_
                  cases hq23
                  refine AO.nilE ⟨rfl, rfl⟩ ?_ ?_
                  · exact ⟨rfl, rfl, rfl, trivial⟩
                  · exact (Sub.refl _)
                · have hq23 := (if_neg hc27).symm.trans hq23
                  refine AO.skipG 13 false 35 rfl rfl (congrArg (fun b => some (AV.fl (Value.bool b))) (decide_eq_false hc27)) 36 rfl (by decide) ?_
                  refine AO.skipG 13 false 35 rfl rfl (congrArg (fun b => some (AV.fl (Value.bool b))) (decide_eq_false hc27)) 37 rfl (by decide) ?_
                  refine AO.skipG 13 false 35 rfl rfl (congrArg (fun b => some (AV.fl (Value.bool b))) (decide_eq_false hc27)) 38 rfl (by decide) ?_
                  refine AO.skipG 13 false 35 rfl rfl (congrArg (fun b => some (AV.fl (Value.bool b))) (decide_eq_false hc27)) 39 rfl (by decide) ?_
                  refine AO.calm rfl 40 rfl (by decide) (eBool false) (Calm.pickF rfl (congrArg (fun b => some (AV.fl (Value.bool b))) (decide_eq_false hc27)) rfl) ?_
                  cases hq23
                  refine AO.nilE ⟨rfl, rfl⟩ ?_ ?_
                  · exact ⟨rfl, rfl, rfl, trivial⟩
                  · exact (Sub.refl _)
              · have hq23 := (if_neg hc26).symm.trans hq23
                refine AO.skipG 8 false 30 rfl rfl (congrArg (fun b => some (AV.fl (Value.bool b))) (decide_eq_false hc26)) 31 rfl (by decide) ?_
                refine AO.skipG 8 false 30 rfl rfl (congrArg (fun b => some (AV.fl (Value.bool b))) (decide_eq_false hc26)) 32 rfl (by decide) ?_
                refine AO.skipG 8 false 30 rfl rfl (congrArg (fun b => some (AV.fl (Value.bool b))) (decide_eq_false hc26)) 33 rfl (by decide) ?_
                refine AO.calm rfl 34 rfl (by decide) (eBool false) (Calm.pickF rfl (congrArg (fun b => some (AV.fl (Value.bool b))) (decide_eq_false hc26)) rfl) ?_
                refine AO.calm rfl 35 rfl (by decide) (eBool false) (Calm.move rfl rfl) ?_
                refine AO.skipG 13 false 35 rfl rfl rfl 36 rfl (by decide) ?_
                refine AO.skipG 13 false 35 rfl rfl rfl 37 rfl (by decide) ?_
                refine AO.skipG 13 false 35 rfl rfl rfl 38 rfl (by decide) ?_
                refine AO.skipG 13 false 35 rfl rfl rfl 39 rfl (by decide) ?_
                refine AO.calm rfl 40 rfl (by decide) (eBool false) (Calm.pickF rfl rfl rfl) ?_
                cases hq23
                refine AO.nilE ⟨rfl, rfl⟩ ?_ ?_
                · exact ⟨rfl, rfl, rfl, trivial⟩
                · exact (Sub.refl _)
            · have hq23 := (if_neg hc24).symm.trans hq23
              refine AO.skipG 3 false 25 rfl rfl (congrArg (fun b => some (AV.fl (Value.bool b))) (decide_eq_false hc24)) 26 rfl (by decide) ?_
              refine AO.skipG 3 false 25 rfl rfl (congrArg (fun b => some (AV.fl (Value.bool b))) (decide_eq_false hc24)) 27 rfl (by decide) ?_
              refine AO.skipG 3 false 25 rfl rfl (congrArg (fun b => some (AV.fl (Value.bool b))) (decide_eq_false hc24)) 28 rfl (by decide) ?_
              refine AO.calm rfl 29 rfl (by decide) (eBool false) (Calm.pickF rfl (congrArg (fun b => some (AV.fl (Value.bool b))) (decide_eq_false hc24)) rfl) ?_
              refine AO.calm rfl 30 rfl (by decide) (eBool false) (Calm.move rfl rfl) ?_
              refine AO.skipG 8 false 30 rfl rfl rfl 31 rfl (by decide) ?_
              refine AO.skipG 8 false 30 rfl rfl rfl 32 rfl (by decide) ?_
              refine AO.skipG 8 false 30 rfl rfl rfl 33 rfl (by decide) ?_
              refine AO.calm rfl 34 rfl (by decide) (eBool false) (Calm.pickF rfl rfl rfl) ?_
              refine AO.calm rfl 35 rfl (by decide) (eBool false) (Calm.move rfl rfl) ?_
              refine AO.skipG 13 false 35 rfl rfl rfl 36 rfl (by decide) ?_
              refine AO.skipG 13 false 35 rfl rfl rfl 37 rfl (by decide) ?_
              refine AO.skipG 13 false 35 rfl rfl rfl 38 rfl (by decide) ?_
              refine AO.skipG 13 false 35 rfl rfl rfl 39 rfl (by decide) ?_
              refine AO.calm rfl 40 rfl (by decide) (eBool false) (Calm.pickF rfl rfl rfl) ?_
              cases hq23
              refine AO.nilE ⟨rfl, rfl⟩ ?_ ?_
              · exact ⟨rfl, rfl, rfl, trivial⟩
              · exact (Sub.refl _)
          · by_cases hc29 : b22 = true
            · have h := (if_pos hc29).symm.trans h
              refine AW.condT' b22 rfl hc29 ?_
              refine AW.seq ?_
              refine AW.reg ?_
              refine AO.calm rfl 41 rfl (by decide) (eI64 x17) (Calm.move rfl rfl) ?_
              refine AO.calm rfl 42 rfl (by decide) (eU8 (w8 x17)) (Calm.conv rfl rfl Try.underlying3 Try.underlying5) ?_
              refine AO.calm rfl 2 rfl (by decide) (eU8 (w8 x17)) (Calm.assign rfl rfl) ?_
              refine AO.calm rfl 3 rfl (by decide) (eI64 (2 : Int)) (Calm.assign rfl rfl) ?_
              refine AO.calm rfl 4 rfl (by decide) (eBool true) (Calm.assign rfl rfl) ?_
              refine AO.nil (ρ' := [(2, (eU8 (w8 x17))), (3, (eI64 (2 : Int))), (4, (eBool true))]) (H' := []) ⟨rfl, rfl, rfl, trivial⟩ (Sub.refl _) ?_
              refine AW.ret (ρ' := [(2, (eU8 (w8 x17))), (3, (eI64 (2 : Int))), (4, (eBool true))]) (H' := []) ⟨rfl, rfl, rfl, trivial⟩ (Sub.refl _) ?_
              have hr := Option.some.inj h
              subst hr
              exact ⟨[(eU8 (w8 x17)), (eI64 (2 : Int)), (eBool true)], ⟨rfl, rfl, rfl, rfl, rfl, rfl, trivial⟩, rfl⟩
            · have h := (if_neg hc29).symm.trans h
              refine AW.condF' b22 rfl hc29 ?_
              refine AW.skip (ρ' := [(0, (eStr p0)), (5, (eI64 x17))]) (H' := []) ⟨rfl, rfl, trivial⟩ (Sub.refl _) ?_
              refine AW.seq ?_
              refine AW.regQ (by rfl) (by decide +kernel) ?_
              refine AQ.calm rfl 43 rfl (by decide) (eI64 x17) (Calm.move rfl rfl) ?_
              refine AQ.calm rfl 44 rfl (by decide) (eI64 (IntKind.i64.wrap (x17.tdiv (16 : Int)))) (Calm.quo rfl rfl rfl (by decide)) ?_
              refine AQ.calm rfl 45 rfl (by decide) (eI64 x17) (Calm.move rfl rfl) ?_
              refine AQ.calm rfl 46 rfl (by decide) (eI64 (IntKind.i64.wrap (x17.tdiv (16 : Int)))) (Calm.quo rfl rfl rfl (by decide)) ?_
              refine AQ.calm rfl 47 rfl (by decide) (eI64 (w64 ((IntKind.i64.wrap (x17.tdiv (16 : Int))) + (1 : Int)))) (Calm.int rfl rfl rfl rfl) ?_
              obtain ⟨hg30, h⟩ := of_guard h
              refine AQ.calm rfl 48 rfl (by decide) (eStr ((ByteArray.mk #[48, 49, 50, 51, 52, 53, 54, 55, 56, 57, 97, 98, 99, 100, 101, 102]).extract (IntKind.i64.wrap (x17.tdiv (16 : Int))).toNat (w64 ((IntKind.i64.wrap (x17.tdiv (16 : Int))) + (1 : Int))).toNat)) (Calm.sliceS rfl rfl rfl rfl hg30 Try.underlying9) ?_
              obtain ⟨hg31, h⟩ := of_guard h
              refine AQ.calm rfl 49 rfl (by decide) (eStr ((ByteArray.mk #[92, 120]) ++ ((ByteArray.mk #[48, 49, 50, 51, 52, 53, 54, 55, 56, 57, 97, 98, 99, 100, 101, 102]).extract (IntKind.i64.wrap (x17.tdiv (16 : Int))).toNat (w64 ((IntKind.i64.wrap (x17.tdiv (16 : Int))) + (1 : Int))).toNat))) (Calm.cat rfl rfl rfl hg31) ?_
              refine AQ.calm rfl 50 rfl (by decide) (eI64 x17) (Calm.move rfl rfl) ?_
              refine AQ.calm rfl 51 rfl (by decide) (eI64 (x17.tmod (16 : Int))) (Calm.rem rfl rfl rfl (by decide)) ?_
              refine AQ.calm rfl 52 rfl (by decide) (eI64 x17) (Calm.move rfl rfl) ?_
              refine AQ.calm rfl 53 rfl (by decide) (eI64 (x17.tmod (16 : Int))) (Calm.rem rfl rfl rfl (by decide)) ?_
              refine AQ.calm rfl 54 rfl (by decide) (eI64 (w64 ((x17.tmod (16 : Int)) + (1 : Int)))) (Calm.int rfl rfl rfl rfl) ?_
              obtain ⟨hg32, h⟩ := of_guard h
              refine AQ.calm rfl 55 rfl (by decide) (eStr ((ByteArray.mk #[48, 49, 50, 51, 52, 53, 54, 55, 56, 57, 97, 98, 99, 100, 101, 102]).extract (x17.tmod (16 : Int)).toNat (w64 ((x17.tmod (16 : Int)) + (1 : Int))).toNat)) (Calm.sliceS rfl rfl rfl rfl hg32 Try.underlying9) ?_
              obtain ⟨hg33, h⟩ := of_guard h
              refine AQ.calm rfl 56 rfl (by decide) (eStr (((ByteArray.mk #[92, 120]) ++ ((ByteArray.mk #[48, 49, 50, 51, 52, 53, 54, 55, 56, 57, 97, 98, 99, 100, 101, 102]).extract (IntKind.i64.wrap (x17.tdiv (16 : Int))).toNat (w64 ((IntKind.i64.wrap (x17.tdiv (16 : Int))) + (1 : Int))).toNat)) ++ ((ByteArray.mk #[48, 49, 50, 51, 52, 53, 54, 55, 56, 57, 97, 98, 99, 100, 101, 102]).extract (x17.tmod (16 : Int)).toNat (w64 ((x17.tmod (16 : Int)) + (1 : Int))).toNat))) (Calm.cat rfl rfl rfl hg33) ?_
              refine AQ.calm rfl 7 rfl (by decide) (eStr (((ByteArray.mk #[92, 120]) ++ ((ByteArray.mk #[48, 49, 50, 51, 52, 53, 54, 55, 56, 57, 97, 98, 99, 100, 101, 102]).extract (IntKind.i64.wrap (x17.tdiv (16 : Int))).toNat (w64 ((IntKind.i64.wrap (x17.tdiv (16 : Int))) + (1 : Int))).toNat)) ++ ((ByteArray.mk #[48, 49, 50, 51, 52, 53, 54, 55, 56, 57, 97, 98, 99, 100, 101, 102]).extract (x17.tmod (16 : Int)).toNat (w64 ((x17.tmod (16 : Int)) + (1 : Int))).toNat))) (Calm.assign rfl rfl) ?_
              refine AQ.nil (ρ' := [(0, (eStr p0)), (5, (eI64 x17)), (7, (eStr (((ByteArray.mk #[92, 120]) ++ ((ByteArray.mk #[48, 49, 50, 51, 52, 53, 54, 55, 56, 57, 97, 98, 99, 100, 101, 102]).extract (IntKind.i64.wrap (x17.tdiv (16 : Int))).toNat (w64 ((IntKind.i64.wrap (x17.tdiv (16 : Int))) + (1 : Int))).toNat)) ++ ((ByteArray.mk #[48, 49, 50, 51, 52, 53, 54, 55, 56, 57, 97, 98, 99, 100, 101, 102]).extract (x17.tmod (16 : Int)).toNat (w64 ((x17.tmod (16 : Int)) + (1 : Int))).toNat))))]) ⟨rfl, rfl, rfl, trivial⟩ ?_
              refine AW.seq ?_
              obtain ⟨b34, hq35, h⟩ := of_bind h
              refine AW.regM [(0, (eStr p0)), (5, (eI64 x17)), (65, (eBool b34))] [] ?_ ?_
              · refine AO.calm rfl 57 rfl (by decide) (eStr p0) (Calm.move rfl rfl) ?_
                refine AO.calm rfl 58 rfl (by decide) (eI64 (p0.size : Int)) (Calm.lenStr rfl rfl Try.underlying9) ?_
                refine AO.calm rfl 59 rfl (by decide) (eBool (decide ((3 : Int) < (p0.size : Int)))) (Calm.int rfl rfl rfl rfl) ?_
                refine AO.calm rfl 60 rfl (by decide) (eBool (decide ((3 : Int) < (p0.size : Int)))) (Calm.move rfl rfl) ?_
                by_cases hc36 : (3 : Int) < (p0.size : Int)
                · have hq35 := (if_pos hc36).symm.trans hq35
                  refine AO.calmG 3 true 60 rfl rfl (congrArg (fun b => some (AV.fl (Value.bool b))) (decide_eq_true hc36)) 61 rfl (by decide) (eStr p0) (Calm.move rfl rfl) ?_
                  obtain ⟨hg37, hq35⟩ := of_guard hq35
                  refine AO.calmG 3 true 60 rfl rfl (congrArg (fun b => some (AV.fl (Value.bool b))) (decide_eq_true hc36)) 62 rfl (by decide) (eStr (p0.extract (0 : Int).toNat (4 : Int).toNat)) (Calm.sliceS rfl rfl rfl rfl hg37 Try.underlying9) ?_
                  refine AO.calmG 3 true 60 rfl rfl (congrArg (fun b => some (AV.fl (Value.bool b))) (decide_eq_true hc36)) 63 rfl (by decide) (eStr (((ByteArray.mk #[92, 120]) ++ ((ByteArray.mk #[48, 49, 50, 51, 52, 53, 54, 55, 56, 57, 97, 98, 99, 100, 101, 102]).extract (IntKind.i64.wrap (x17.tdiv (16 : Int))).toNat (w64 ((IntKind.i64.wrap (x17.tdiv (16 : Int))) + (1 : Int))).toNat)) ++ ((ByteArray.mk #[48, 49, 50, 51, 52, 53, 54, 55, 56, 57, 97, 98, 99, 100, 101, 102]).extract (x17.tmod (16 : Int)).toNat (w64 ((x17.tmod (16 : Int)) + (1 : Int))).toNat))) (Calm.move rfl rfl) ?_
                  refine AO.calmG 3 true 60 rfl rfl (congrArg (fun b => some (AV.fl (Value.bool b))) (decide_eq_true hc36)) 64 rfl (by decide) (eBool (decide ((p0.extract (0 : Int).toNat (4 : Int).toNat) = (((ByteArray.mk #[92, 120]) ++ ((ByteArray.mk #[48, 49, 50, 51, 52, 53, 54, 55, 56, 57, 97, 98, 99, 100, 101, 102]).extract (IntKind.i64.wrap (x17.tdiv (16 : Int))).toNat (w64 ((IntKind.i64.wrap (x17.tdiv (16 : Int))) + (1 : Int))).toNat)) ++ ((ByteArray.mk #[48, 49, 50, 51, 52, 53, 54, 55, 56, 57, 97, 98, 99, 100, 101, 102]).extract (x17.tmod (16 : Int)).toNat (w64 ((x17.tmod (16 : Int)) + (1 : Int))).toNat))))) (Calm.str rfl rfl rfl rfl) ?_
                  refine AO.calm rfl 65 rfl (by decide) (eBool (decide ((p0.extract (0 : Int).toNat (4 : Int).toNat) = (((ByteArray.mk #[92, 120]) ++ ((ByteArray.mk #[48, 49, 50, 51, 52, 53, 54, 55, 56, 57, 97, 98, 99, 100, 101, 102]).extract (IntKind.i64.wrap (x17.tdiv (16 : Int))).toNat (w64 ((IntKind.i64.wrap (x17.tdiv (16 : Int))) + (1 : Int))).toNat)) ++ ((ByteArray.mk #[48, 49, 50, 51, 52, 53, 54, 55, 56, 57, 97, 98, 99, 100, 101, 102]).extract (x17.tmod (16 : Int)).toNat (w64 ((x17.tmod (16 : Int)) + (1 : Int))).toNat))))) (Calm.pickT rfl (congrArg (fun b => some (AV.fl (Value.bool b))) (decide_eq_true hc36)) rfl) ?_
                  cases hq35
                  refine AO.nilE ⟨rfl, rfl⟩ ?_ ?_
                  · exact ⟨rfl, rfl, rfl, trivial⟩
                  · exact (Sub.refl _)
                · have hq35 := (if_neg hc36).symm.trans hq35
                  refine AO.skipG 3 false 60 rfl rfl (congrArg (fun b => some (AV.fl (Value.bool b))) (decide_eq_false hc36)) 61 rfl (by decide) ?_
                  refine AO.skipG 3 false 60 rfl rfl (congrArg (fun b => some (AV.fl (Value.bool b))) (decide_eq_false hc36)) 62 rfl (by decide) ?_
                  refine AO.skipG 3 false 60 rfl rfl (congrArg (fun b => some (AV.fl (Value.bool b))) (decide_eq_false hc36)) 63 rfl (by decide) ?_
                  refine AO.skipG 3 false 60 rfl rfl (congrArg (fun b => some (AV.fl (Value.bool b))) (decide_eq_false hc36)) 64 rfl (by decide) ?_
                  refine AO.calm rfl 65 rfl (by decide) (eBool false) (Calm.pickF rfl (congrArg (fun b => some (AV.fl (Value.bool b))) (decide_eq_false hc36)) rfl) ?_
                  cases hq35
                  refine AO.nilE ⟨rfl, rfl⟩ ?_ ?_
                  · exact ⟨rfl, rfl, rfl, trivial⟩
                  · exact (Sub.refl _)
              · by_cases hc38 : b34 = true
                · have h := (if_pos hc38).symm.trans h
                  refine AW.condT' b34 rfl hc38 ?_
                  refine AW.seq ?_
                  refine AW.reg ?_
                  refine AO.calm rfl 66 rfl (by decide) (eI64 x17) (Calm.move rfl rfl) ?_
                  refine AO.calm rfl 67 rfl (by decide) (eU8 (w8 x17)) (Calm.conv rfl rfl Try.underlying3 Try.underlying5) ?_
                  refine AO.calm rfl 2 rfl (by decide) (eU8 (w8 x17)) (Calm.assign rfl rfl) ?_
                  refine AO.calm rfl 3 rfl (by decide) (eI64 (4 : Int)) (Calm.assign rfl rfl) ?_
                  refine AO.calm rfl 4 rfl (by decide) (eBool true) (Calm.assign rfl rfl) ?_
                  refine AO.nil (ρ' := [(2, (eU8 (w8 x17))), (3, (eI64 (4 : Int))), (4, (eBool true))]) (H' := []) ⟨rfl, rfl, rfl, trivial⟩ (Sub.refl _) ?_
                  refine AW.ret (ρ' := [(2, (eU8 (w8 x17))), (3, (eI64 (4 : Int))), (4, (eBool true))]) (H' := []) ⟨rfl, rfl, rfl, trivial⟩ (Sub.refl _) ?_
                  have hr := Option.some.inj h
                  subst hr
                  exact ⟨[(eU8 (w8 x17)), (eI64 (4 : Int)), (eBool true)], ⟨rfl, rfl, rfl, rfl, rfl, rfl, trivial⟩, rfl⟩
                · have h := (if_neg hc38).symm.trans h
                  refine AW.condF' b34 rfl hc38 ?_
                  refine AW.skip (ρ' := [(0, (eStr p0)), (5, (eI64 x17))]) (H' := []) ⟨rfl, rfl, trivial⟩ (Sub.refl _) ?_
                  refine AW.reg ?_
                  refine AO.calm rfl 17 rfl (by decide) (eI64 x17) (Calm.move rfl rfl) ?_
                  refine AO.calm rfl 18 rfl (by decide) (eI64 (w64 (x17 + (1 : Int)))) (Calm.int rfl rfl rfl rfl) ?_
                  refine AO.calm rfl 5 rfl (by decide) (eI64 (w64 (x17 + (1 : Int)))) (Calm.assign rfl rfl) ?_
                  refine AO.nil (ρ' := [(0, (eStr p0)), (5, (eI64 (w64 (x17 + (1 : Int)))))]) (H' := []) ⟨rfl, rfl, trivial⟩ (Sub.refl _) ?_
                  exact ⟨kq19, Nat.lt_succ_self _, (w64 (x17 + (1 : Int))), rfl, rfl, by rw [hrec18]; exact h⟩
        · have h := (if_neg hc20).symm.trans h
          refine AW.condN (x17 < (256 : Int)) rfl hc20 ?_
          refine AW.exit (ρ' := [(0, (eStr p0))]) (H' := []) ⟨rfl, trivial⟩ (Sub.refl _) ?_
          exact ⟨rfl, rfl, h⟩
      · rintro _ _ ⟨rfl, rfl, h⟩
        rw [bosketref03_Read_c0.eq_1] at h
        refine AW.seq ?_
        refine AW.seq ?_
        obtain ⟨b6, hq7, h⟩ := of_bind h
        refine AW.regM [(0, (eStr p0)), (86, (eBool b6))] [] ?_ ?_
        · refine AO.calm rfl 68 rfl (by decide) (eStr p0) (Calm.move rfl rfl) ?_
          refine AO.calm rfl 69 rfl (by decide) (eI64 (p0.size : Int)) (Calm.lenStr rfl rfl Try.underlying9) ?_
          refine AO.calm rfl 70 rfl (by decide) (eBool (decide ((1 : Int) < (p0.size : Int)))) (Calm.int rfl rfl rfl rfl) ?_
          refine AO.calm rfl 71 rfl (by decide) (eBool (decide ((1 : Int) < (p0.size : Int)))) (Calm.move rfl rfl) ?_
          by_cases hc8 : (1 : Int) < (p0.size : Int)
          · have hq7 := (if_pos hc8).symm.trans hq7
            refine AO.calmG 3 true 71 rfl rfl (congrArg (fun b => some (AV.fl (Value.bool b))) (decide_eq_true hc8)) 72 rfl (by decide) (eStr p0) (Calm.move rfl rfl) ?_
            obtain ⟨hg9, hq7⟩ := of_guard hq7
            refine AO.calmG 3 true 71 rfl rfl (congrArg (fun b => some (AV.fl (Value.bool b))) (decide_eq_true hc8)) 73 rfl (by decide) (eU8 (byteAt p0 (1 : Int))) (Calm.idxS rfl rfl rfl hg9 Try.underlying9) ?_
            refine AO.calmG 3 true 71 rfl rfl (congrArg (fun b => some (AV.fl (Value.bool b))) (decide_eq_true hc8)) 74 rfl (by decide) (eBool (decide ((32 : Int) ≤ (byteAt p0 (1 : Int))))) (Calm.int rfl rfl rfl rfl) ?_
            refine AO.calm rfl 75 rfl (by decide) (eBool (decide ((32 : Int) ≤ (byteAt p0 (1 : Int))))) (Calm.pickT rfl (congrArg (fun b => some (AV.fl (Value.bool b))) (decide_eq_true hc8)) rfl) ?_
            refine AO.calm rfl 76 rfl (by decide) (eBool (decide ((32 : Int) ≤ (byteAt p0 (1 : Int))))) (Calm.move rfl rfl) ?_
            by_cases hc10 : (32 : Int) ≤ (byteAt p0 (1 : Int))
            · have hq7 := (if_pos hc10).symm.trans hq7
              refine AO.calmG 8 true 76 rfl rfl (congrArg (fun b => some (AV.fl (Value.bool b))) (decide_eq_true hc10)) 77 rfl (by decide) (eStr p0) (Calm.move rfl rfl) ?_
              obtain ⟨hg11, hq7⟩ := of_guard hq7
              refine AO.calmG 8 true 76 rfl rfl (congrArg (fun b => some (AV.fl (Value.bool b))) (decide_eq_true hc10)) 78 rfl (by decide) (eU8 (byteAt p0 (1 : Int))) (Calm.idxS rfl rfl rfl hg11 Try.underlying9) ?_
              refine AO.calmG 8 true 76 rfl rfl (congrArg (fun b => some (AV.fl (Value.bool b))) (decide_eq_true hc10)) 79 rfl (by decide) (eBool (decide ((byteAt p0 (1 : Int)) ≤ (126 : Int)))) (Calm.int rfl rfl rfl rfl) ?_
              refine AO.calm rfl 80 rfl (by decide) (eBool (decide ((byteAt p0 (1 : Int)) ≤ (126 : Int)))) (Calm.pickT rfl (congrArg (fun b => some (AV.fl (Value.bool b))) (decide_eq_true hc10)) rfl) ?_
              refine AO.calm rfl 81 rfl (by decide) (eBool (decide ((byteAt p0 (1 : Int)) ≤ (126 : Int)))) (Calm.move rfl rfl) ?_
              by_cases hc12 : (byteAt p0 (1 : Int)) ≤ (126 : Int)
              · have hq7 := (if_pos hc12).symm.trans hq7
                refine AO.calmG 13 true 81 rfl rfl (congrArg (fun b => some (AV.fl (Value.bool b))) (decide_eq_true hc12)) 82 rfl (by decide) (eStr p0) (Calm.move rfl rfl) ?_
                obtain ⟨hg13, hq7⟩ := of_guard hq7
                refine AO.calmG 13 true 81 rfl rfl (congrArg (fun b => some (AV.fl (Value.bool b))) (decide_eq_true hc12)) 83 rfl (by decide) (eU8 (byteAt p0 (1 : Int))) (Calm.idxS rfl rfl rfl hg13 Try.underlying9) ?_
                obtain ⟨t14, et14, hq7⟩ := of_bind hq7
                refine AO.callG 13 true 81 [(eU8 (byteAt p0 (1 : Int)))] (eBool t14) 84 rfl (by decide) ok99 rfl rfl (congrArg (fun b => some (AV.fl (Value.bool b))) (decide_eq_true hc12)) rfl rfl ⟨rfl, rfl, trivial⟩ (bosketref03_word_spec et14) ?_
                refine AO.calmG 13 true 81 rfl rfl (congrArg (fun b => some (AV.fl (Value.bool b))) (decide_eq_true hc12)) 85 rfl (by decide) (eBool (!t14)) (Calm.not rfl rfl) ?_
                refine AO.calm rfl 86 rfl (by decide) (eBool (!t14)) (Calm.pickT rfl (congrArg (fun b => some (AV.fl (Value.bool b))) (decide_eq_true hc12)) rfl) ?_
                cases hq7
                refine AO.nilE ⟨rfl, rfl⟩ ?_ ?_
                · exact ⟨rfl, rfl, trivial⟩
                · exact (Sub.refl _)
              · have hq7 := (if_neg hc12).symm.trans hq7
                refine AO.skipG 13 false 81 rfl rfl (congrArg (fun b => some (AV.fl (Value.bool b))) (decide_eq_false hc12)) 82 rfl (by decide) ?_
                refine AO.skipG 13 false 81 rfl rfl (congrArg (fun b => some (AV.fl (Value.bool b))) (decide_eq_false hc12)) 83 rfl (by decide) ?_
                refine AO.skipG 13 false 81 rfl rfl (congrArg (fun b => some (AV.fl (Value.bool b))) (decide_eq_false hc12)) 84 rfl (by decide) ?_
                refine AO.skipG 13 false 81 rfl rfl (congrArg (fun b => some (AV.fl (Value.bool b))) (decide_eq_false hc12)) 85 rfl (by decide) ?_
                refine AO.calm rfl 86 rfl (by decide) (eBool false) (Calm.pickF rfl (congrArg (fun b => some (AV.fl (Value.bool b))) (decide_eq_false hc12)) rfl) ?_
                cases hq7
                refine AO.nilE ⟨rfl, rfl⟩ ?_ ?_
                · exact ⟨rfl, rfl, trivial⟩
                · exact (Sub.refl _)
            · have hq7 := (if_neg hc10).symm.trans hq7
              refine AO.skipG 8 false 76 rfl rfl (congrArg (fun b => some (AV.fl (Value.bool b))) (decide_eq_false hc10)) 77 rfl (by decide) ?_
              refine AO.skipG 8 false 76 rfl rfl (congrArg (fun b => some (AV.fl (Value.bool b))) (decide_eq_false hc10)) 78 rfl (by decide) ?_
              refine AO.skipG 8 false 76 rfl rfl (congrArg (fun b => some (AV.fl (Value.bool b))) (decide_eq_false hc10)) 79 rfl (by decide) ?_
              refine AO.calm rfl 80 rfl (by decide) (eBool false) (Calm.pickF rfl (congrArg (fun b => some (AV.fl (Value.bool b))) (decide_eq_false hc10)) rfl) ?_
              refine AO.calm rfl 81 rfl (by decide) (eBool false) (Calm.move rfl rfl) ?_
              refine AO.skipG 13 false 81 rfl rfl rfl 82 rfl (by decide) ?_
              refine AO.skipG 13 false 81 rfl rfl rfl 83 rfl (by decide) ?_
              refine AO.skipG 13 false 81 rfl rfl rfl 84 rfl (by decide) ?_
              refine AO.skipG 13 false 81 rfl rfl rfl 85 rfl (by decide) ?_
              refine AO.calm rfl 86 rfl (by decide) (eBool false) (Calm.pickF rfl rfl rfl) ?_
              cases hq7
              refine AO.nilE ⟨rfl, rfl⟩ ?_ ?_
              · exact ⟨rfl, rfl, trivial⟩
              · exact (Sub.refl _)
          · have hq7 := (if_neg hc8).symm.trans hq7
            refine AO.skipG 3 false 71 rfl rfl (congrArg (fun b => some (AV.fl (Value.bool b))) (decide_eq_false hc8)) 72 rfl (by decide) ?_
            refine AO.skipG 3 false 71 rfl rfl (congrArg (fun b => some (AV.fl (Value.bool b))) (decide_eq_false hc8)) 73 rfl (by decide) ?_
            refine AO.skipG 3 false 71 rfl rfl (congrArg (fun b => some (AV.fl (Value.bool b))) (decide_eq_false hc8)) 74 rfl (by decide) ?_
            refine AO.calm rfl 75 rfl (by decide) (eBool false) (Calm.pickF rfl (congrArg (fun b => some (AV.fl (Value.bool b))) (decide_eq_false hc8)) rfl) ?_
            refine AO.calm rfl 76 rfl (by decide) (eBool false) (Calm.move rfl rfl) ?_
            refine AO.skipG 8 false 76 rfl rfl rfl 77 rfl (by decide) ?_
            refine AO.skipG 8 false 76 rfl rfl rfl 78 rfl (by decide) ?_
            refine AO.skipG 8 false 76 rfl rfl rfl 79 rfl (by decide) ?_
            refine AO.calm rfl 80 rfl (by decide) (eBool false) (Calm.pickF rfl rfl rfl) ?_
            refine AO.calm rfl 81 rfl (by decide) (eBool false) (Calm.move rfl rfl) ?_
            refine AO.skipG 13 false 81 rfl rfl rfl 82 rfl (by decide) ?_
            refine AO.skipG 13 false 81 rfl rfl rfl 83 rfl (by decide) ?_
            refine AO.skipG 13 false 81 rfl rfl rfl 84 rfl (by decide) ?_
            refine AO.skipG 13 false 81 rfl rfl rfl 85 rfl (by decide) ?_
            refine AO.calm rfl 86 rfl (by decide) (eBool false) (Calm.pickF rfl rfl rfl) ?_
            cases hq7
            refine AO.nilE ⟨rfl, rfl⟩ ?_ ?_
            · exact ⟨rfl, rfl, trivial⟩
            · exact (Sub.refl _)
        · by_cases hc15 : b6 = true
          · have h := (if_pos hc15).symm.trans h
            refine AW.condT' b6 rfl hc15 ?_
            refine AW.seq ?_
            refine AW.reg ?_
            refine AO.calm rfl 87 rfl (by decide) (eStr p0) (Calm.move rfl rfl) ?_
            obtain ⟨hg16, h⟩ := of_guard h
            refine AO.calm rfl 88 rfl (by decide) (eU8 (byteAt p0 (1 : Int))) (Calm.idxS rfl rfl rfl hg16 Try.underlying9) ?_
            refine AO.calm rfl 2 rfl (by decide) (eU8 (byteAt p0 (1 : Int))) (Calm.assign rfl rfl) ?_
            refine AO.calm rfl 3 rfl (by decide) (eI64 (2 : Int)) (Calm.assign rfl rfl) ?_
            refine AO.calm rfl 4 rfl (by decide) (eBool true) (Calm.assign rfl rfl) ?_
            refine AO.nil (ρ' := [(2, (eU8 (byteAt p0 (1 : Int)))), (3, (eI64 (2 : Int))), (4, (eBool true))]) (H' := []) ⟨rfl, rfl, rfl, trivial⟩ (Sub.refl _) ?_
            refine AW.ret (ρ' := [(2, (eU8 (byteAt p0 (1 : Int)))), (3, (eI64 (2 : Int))), (4, (eBool true))]) (H' := []) ⟨rfl, rfl, rfl, trivial⟩ (Sub.refl _) ?_
            have hr := Option.some.inj h
            subst hr
            exact ⟨[(eU8 (byteAt p0 (1 : Int))), (eI64 (2 : Int)), (eBool true)], ⟨rfl, rfl, rfl, rfl, rfl, rfl, trivial⟩, rfl⟩
          · have h := (if_neg hc15).symm.trans h
            refine AW.condF' b6 rfl hc15 ?_
            refine AW.skip (ρ' := []) (H' := []) trivial (Sub.refl _) ?_
            refine AW.seq ?_
            refine AW.reg ?_
            refine AO.calm rfl 2 rfl (by decide) (eU8 (0 : Int)) (Calm.assign rfl rfl) ?_
            refine AO.calm rfl 3 rfl (by decide) (eI64 (0 : Int)) (Calm.assign rfl rfl) ?_
            refine AO.calm rfl 4 rfl (by decide) (eBool false) (Calm.assign rfl rfl) ?_
            refine AO.nil (ρ' := [(2, (eU8 (0 : Int))), (3, (eI64 (0 : Int))), (4, (eBool false))]) (H' := []) ⟨rfl, rfl, rfl, trivial⟩ (Sub.refl _) ?_
            refine AW.ret (ρ' := [(2, (eU8 (0 : Int))), (3, (eI64 (0 : Int))), (4, (eBool false))]) (H' := []) ⟨rfl, rfl, rfl, trivial⟩ (Sub.refl _) ?_
            have hr := Option.some.inj h
            subst hr
            exact ⟨[(eU8 (0 : Int)), (eI64 (0 : Int)), (eBool false)], ⟨rfl, rfl, rfl, rfl, rfl, rfl, trivial⟩, rfl⟩
end Go.Avl.T2
/- bosket/bosketref03.Unquote; printed by avmain.py. -/
namespace Go.Avl.T2
open Go Go.RowKit Go.Proofs Go.Avl
set_option linter.unusedVariables false
set_option maxRecDepth 100000
set_option maxHeartbeats 4000000
attribute [local irreducible] AW AO AQ Spec SpecH Calm

def bosketref03_Unquote_c0 (k : Nat) (p0 : ByteArray) (p1 : Int) (x8 : ByteArray) (x9 : Int) : Option (ByteArray × Int × Bool) :=
  Option.bind (α := Bool) (if (p0.size : Int) ≤ x9 then some (true)
  else if 0 ≤ x9 ∧ x9 < (p0.size : Int) then some (decide ((byteAt p0 x9) ≠ p1))
  else none) fun b10 =>
  if b10 = true then some ((ByteArray.mk #[]), (0 : Int), false)
  else some (x8, (w64 (x9 + (1 : Int))), true)
def bosketref03_Unquote_l1 (k : Nat) (p0 : ByteArray) (p1 : Int) : Nat → ByteArray → Int → Option (ByteArray × Int × Bool)
  | 0, _, _ => none
  | j + 1, x15, x16 =>
    Option.bind (α := Bool) (if x16 < (p0.size : Int) then if 0 ≤ x16 ∧ x16 < (p0.size : Int) then if (byteAt p0 x16) ≠ p1 then if 0 ≤ x16 ∧ x16 < (p0.size : Int) then some (decide ((byteAt p0 x16) ≠ (10 : Int)))
    else none
    else some (false)
    else none
    else some (false)) fun b19 =>
    if b19 = true then if 0 ≤ x16 ∧ x16 ≤ (p0.size : Int) ∧ (p0.size : Int) ≤ (p0.size : Int) then (bosketref03_Read k (p0.extract x16.toNat (p0.size : Int).toNat)).bind fun t27 =>
    if (!t27.2.2) = true then some ((ByteArray.mk #[]), (0 : Int), false)
    else if x15.size + (strOfNums ([t27.1] : List Int)).size ≤ 9223372036854775807 then (bosketref03_Unquote_l1 k p0 p1 j) (x15 ++ (strOfNums ([t27.1] : List Int))) (w64 (x16 + t27.2.1))
    else none
    else none
    else bosketref03_Unquote_c0 k p0 p1 x15 x16
def bosketref03_Unquote (k : Nat) (p0 : ByteArray) (p1 : Int) : Option (ByteArray × Int × Bool) :=
  Option.bind (α := Bool) (if p0 = (ByteArray.mk #[]) then some (true)
  else if 0 ≤ (0 : Int) ∧ (0 : Int) < (p0.size : Int) then some (decide ((byteAt p0 (0 : Int)) ≠ p1))
  else none) fun b3 =>
  if b3 = true then some ((ByteArray.mk #[]), (0 : Int), false)
  else bosketref03_Unquote_l1 k p0 p1 k (ByteArray.mk #[]) (1 : Int)
theorem bosketref03_Unquote_spec {k : Nat} {p0 : ByteArray} {p1 : Int} {r : (ByteArray × Int × Bool)} (h : bosketref03_Unquote k p0 p1 = some r) : Spec Try.prog 70 [(eStr p0), (eU8 p1)] (.tup [(eStr r.1), (eI64 r.2.1), (eBool r.2.2)]) := by
  rw [bosketref03_Unquote.eq_1] at h
  refine Spec.intro (res := [.tmp 4, .tmp 5, .tmp 6]) Try.func70 rfl rfl rfl (Nat.le_of_ble_eq_true rfl) ?_
  refine AW.seq ?_
  refine AW.reg ?_
  refine AO.calm rfl 4 rfl (by decide) (eStr (ByteArray.mk #[])) (Calm.assign rfl rfl) ?_
  refine AO.calm rfl 5 rfl (by decide) (eI64 (0 : Int)) (Calm.assign rfl rfl) ?_
  refine AO.calm rfl 6 rfl (by decide) (eBool false) (Calm.assign rfl rfl) ?_
  refine AO.nil (ρ' := [(0, (eStr p0)), (1, (eU8 p1))]) (H' := []) ⟨rfl, rfl, trivial⟩ (Sub.refl _) ?_
  refine AW.seq ?_
  refine AW.seq ?_
  obtain ⟨b3, hq4, h⟩ := of_bind h
  refine AW.regM [(0, (eStr p0)), (1, (eU8 p1)), (19, (eBool b3))] [] ?_ ?_
  · refine AO.calm rfl 12 rfl (by decide) (eStr p0) (Calm.move rfl rfl) ?_
    refine AO.calm rfl 13 rfl (by decide) (eBool (decide (p0 = (ByteArray.mk #[])))) (Calm.str rfl rfl rfl rfl) ?_
    refine AO.calm rfl 14 rfl (by decide) (eBool (decide (p0 = (ByteArray.mk #[])))) (Calm.move rfl rfl) ?_
    by_cases hc5 : p0 = (ByteArray.mk #[])
    · have hq4 := (if_pos hc5).symm.trans hq4
      refine AO.skipG 2 true 14 rfl rfl (congrArg (fun b => some (AV.fl (Value.bool b))) (decide_eq_true hc5)) 15 rfl (by decide) ?_
      refine AO.skipG 2 true 14 rfl rfl (congrArg (fun b => some (AV.fl (Value.bool b))) (decide_eq_true hc5)) 16 rfl (by decide) ?_
      refine AO.skipG 2 true 14 rfl rfl (congrArg (fun b => some (AV.fl (Value.bool b))) (decide_eq_true hc5)) 17 rfl (by decide) ?_
      refine AO.skipG 2 true 14 rfl rfl (congrArg (fun b => some (AV.fl (Value.bool b))) (decide_eq_true hc5)) 18 rfl (by decide) ?_
      refine AO.calm rfl 19 rfl (by decide) (eBool true) (Calm.pickT rfl (congrArg (fun b => some (AV.fl (Value.bool b))) (decide_eq_true hc5)) rfl) ?_
      cases hq4
      refine AO.nilE ⟨rfl, rfl⟩ ?_ ?_
      · exact ⟨rfl, rfl, rfl, trivial⟩
      · exact (Sub.refl _)
    · have hq4 := (if_neg hc5).symm.trans hq4
      refine AO.calmG 2 false 14 rfl rfl (congrArg (fun b => some (AV.fl (Value.bool b))) (decide_eq_false hc5)) 15 rfl (by decide) (eStr p0) (Calm.move rfl rfl) ?_
      obtain ⟨hg6, hq4⟩ := of_guard hq4
      refine AO.calmG 2 false 14 rfl rfl (congrArg (fun b => some (AV.fl (Value.bool b))) (decide_eq_false hc5)) 16 rfl (by decide) (eU8 (byteAt p0 (0 : Int))) (Calm.idxS rfl rfl rfl hg6 Try.underlying9) ?_
      refine AO.calmG 2 false 14 rfl rfl (congrArg (fun b => some (AV.fl (Value.bool b))) (decide_eq_false hc5)) 17 rfl (by decide) (eU8 p1) (Calm.move rfl rfl) ?_
      refine AO.calmG 2 false 14 rfl rfl (congrArg (fun b => some (AV.fl (Value.bool b))) (decide_eq_false hc5)) 18 rfl (by decide) (eBool (decide ((byteAt p0 (0 : Int)) ≠ p1))) (Calm.int rfl rfl rfl rfl) ?_
      refine AO.calm rfl 19 rfl (by decide) (eBool (decide ((byteAt p0 (0 : Int)) ≠ p1))) (Calm.pickF rfl (congrArg (fun b => some (AV.fl (Value.bool b))) (decide_eq_false hc5)) rfl) ?_
      cases hq4
      refine AO.nilE ⟨rfl, rfl⟩ ?_ ?_
      · exact ⟨rfl, rfl, rfl, trivial⟩
      · exact (Sub.refl _)
  · by_cases hc7 : b3 = true
    · have h := (if_pos hc7).symm.trans h
      refine AW.condT' b3 rfl hc7 ?_
      refine AW.seq ?_
      refine AW.reg ?_
      refine AO.calm rfl 4 rfl (by decide) (eStr (ByteArray.mk #[])) (Calm.assign rfl rfl) ?_
      refine AO.calm rfl 5 rfl (by decide) (eI64 (0 : Int)) (Calm.assign rfl rfl) ?_
      refine AO.calm rfl 6 rfl (by decide) (eBool false) (Calm.assign rfl rfl) ?_
      refine AO.nil (ρ' := [(4, (eStr (ByteArray.mk #[]))), (5, (eI64 (0 : Int))), (6, (eBool false))]) (H' := []) ⟨rfl, rfl, rfl, trivial⟩ (Sub.refl _) ?_
      refine AW.ret (ρ' := [(4, (eStr (ByteArray.mk #[]))), (5, (eI64 (0 : Int))), (6, (eBool false))]) (H' := []) ⟨rfl, rfl, rfl, trivial⟩ (Sub.refl _) ?_
      have hr := Option.some.inj h
      subst hr
      exact ⟨[(eStr (ByteArray.mk #[])), (eI64 (0 : Int)), (eBool false)], ⟨rfl, rfl, rfl, rfl, rfl, rfl, trivial⟩, rfl⟩
    · have h := (if_neg hc7).symm.trans h
      refine AW.condF' b3 rfl hc7 ?_
      refine AW.skip (ρ' := [(0, (eStr p0)), (1, (eU8 p1))]) (H' := []) ⟨rfl, rfl, trivial⟩ (Sub.refl _) ?_
      refine AW.seq ?_
      refine AW.reg ?_
      refine AO.calm rfl 7 rfl (by decide) (eStr (ByteArray.mk #[])) (Calm.assign rfl rfl) ?_
      refine AO.calm rfl 8 rfl (by decide) (eI64 (1 : Int)) (Calm.assign rfl rfl) ?_
      refine AO.nil (ρ' := [(0, (eStr p0)), (1, (eU8 p1)), (7, (eStr (ByteArray.mk #[]))), (8, (eI64 (1 : Int)))]) (H' := []) ⟨rfl, rfl, rfl, rfl, trivial⟩ (Sub.refl _) ?_
      refine AW.seq_mid (fun ρ H => ∃ (x8 : ByteArray) (x9 : Int), ρ = [(0, (eStr p0)), (1, (eU8 p1)), (7, (eStr x8)), (8, (eI64 x9))] ∧ H = [] ∧ bosketref03_Unquote_c0 k p0 p1 x8 x9 = some r) ?_ ?_
      · refine AW.block ?_
        refine AW.weak (ρ' := [(0, (eStr p0)), (1, (eU8 p1)), (7, (eStr (ByteArray.mk #[]))), (8, (eI64 (1 : Int)))]) (H' := []) ⟨rfl, rfl, rfl, rfl, trivial⟩ (Sub.refl _) ?_
        refine AW.loop (fun kq ρ H => ∃ (x15 : ByteArray) (x16 : Int), ρ = [(0, (eStr p0)), (1, (eU8 p1)), (7, (eStr x15)), (8, (eI64 x16))] ∧ H = [] ∧ bosketref03_Unquote_l1 k p0 p1 kq x15 x16 = some r) k ⟨(ByteArray.mk #[]), (1 : Int), rfl, rfl, h⟩ ?_
        rintro kq18 _ _ ⟨x15, x16, rfl, rfl, h⟩
        cases kq18 with
        | zero => rw [bosketref03_Unquote_l1.eq_1] at h; cases h
        | succ kq18 =>
        rw [bosketref03_Unquote_l1.eq_2] at h
        generalize hrec17 : bosketref03_Unquote_l1 k p0 p1 kq18 = rec17 at h
        refine AW.seq ?_
        refine AW.seq ?_
        obtain ⟨b19, hq20, h⟩ := of_bind h
        refine AW.regM [(0, (eStr p0)), (1, (eU8 p1)), (7, (eStr x15)), (8, (eI64 x16)), (36, (eBool b19))] [] ?_ ?_
        · refine AO.calm rfl 20 rfl (by decide) (eI64 x16) (Calm.move rfl rfl) ?_
          refine AO.calm rfl 21 rfl (by decide) (eStr p0) (Calm.move rfl rfl) ?_
          refine AO.calm rfl 22 rfl (by decide) (eI64 (p0.size : Int)) (Calm.lenStr rfl rfl Try.underlying9) ?_
          refine AO.calm rfl 23 rfl (by decide) (eBool (decide (x16 < (p0.size : Int)))) (Calm.int rfl rfl rfl rfl) ?_
          refine AO.calm rfl 24 rfl (by decide) (eBool (decide (x16 < (p0.size : Int)))) (Calm.move rfl rfl) ?_
          by_cases hc21 : x16 < (p0.size : Int)
          · have hq20 := (if_pos hc21).symm.trans hq20
            refine AO.calmG 4 true 24 rfl rfl (congrArg (fun b => some (AV.fl (Value.bool b))) (decide_eq_true hc21)) 25 rfl (by decide) (eStr p0) (Calm.move rfl rfl) ?_
            refine AO.calmG 4 true 24 rfl rfl (congrArg (fun b => some (AV.fl (Value.bool b))) (decide_eq_true hc21)) 26 rfl (by decide) (eI64 x16) (Calm.move rfl rfl) ?_
            obtain ⟨hg22, hq20⟩ := of_guard hq20
            refine AO.calmG 4 true 24 rfl rfl (congrArg (fun b => some (AV.fl (Value.bool b))) (decide_eq_true hc21)) 27 rfl (by decide) (eU8 (byteAt p0 x16)) (Calm.idxS rfl rfl rfl hg22 Try.underlying9) ?_
            refine AO.calmG 4 true 24 rfl rfl (congrArg (fun b => some (AV.fl (Value.bool b))) (decide_eq_true hc21)) 28 rfl (by decide) (eU8 p1) (Calm.move rfl rfl) ?_
            refine AO.calmG 4 true 24 rfl rfl (congrArg (fun b => some (AV.fl (Value.bool b))) (decide_eq_true hc21)) 29 rfl (by decide) (eBool (decide ((byteAt p0 x16) ≠ p1))) (Calm.int rfl rfl rfl rfl) ?_
            refine AO.calm rfl 30 rfl (by decide) (eBool (decide ((byteAt p0 x16) ≠ p1))) (Calm.pickT rfl (congrArg (fun b => some (AV.fl (Value.bool b))) (decide_eq_true hc21)) rfl) ?_
            refine AO.calm rfl 31 rfl (by decide) (eBool (decide ((byteAt p0 x16) ≠ p1))) (Calm.move rfl rfl) ?_
            by_cases hc23 : (byteAt p0 x16) ≠ p1
            · have hq20 := (if_pos hc23).symm.trans hq20
              refine AO.calmG 11 true 31 rfl rfl (congrArg (fun b => some (AV.fl (Value.bool b))) (decide_eq_true hc23)) 32 rfl (by decide) (eStr p0) (Calm.move rfl rfl) ?_
              refine AO.calmG 11 true 31 rfl rfl (congrArg (fun b => some (AV.fl (Value.bool b))) (decide_eq_true hc23)) 33 rfl (by decide) (eI64 x16) (Calm.move rfl rfl) ?_
              obtain ⟨hg24, hq20⟩ := of_guard hq20
              refine AO.calmG 11 true 31 rfl rfl (congrArg (fun b => some (AV.fl (Value.bool b))) (decide_eq_true hc23)) 34 rfl (by decide) (eU8 (byteAt p0 x16)) (Calm.idxS rfl rfl rfl hg24 Try.underlying9) ?_
              refine AO.calmG 11 true 31 rfl rfl (congrArg (fun b => some (AV.fl (Value.bool b))) (decide_eq_true hc23)) 35 rfl (by decide) (eBool (decide ((byteAt p0 x16) ≠ (10 : Int)))) (Calm.int rfl rfl rfl rfl) ?_
              refine AO.calm rfl 36 rfl (by decide) (eBool (decide ((byteAt p0 x16) ≠ (10 : Int)))) (Calm.pickT rfl (congrArg (fun b => some (AV.fl (Value.bool b))) (decide_eq_true hc23)) rfl) ?_
              cases hq20
              refine AO.nilE ⟨rfl, rfl⟩ ?_ ?_
              · exact ⟨rfl, rfl, rfl, rfl, rfl, trivial⟩
              · exact (Sub.refl _)
            · have hq20 := (if_neg hc23).symm.trans hq20
              refine AO.skipG 11 false 31 rfl rfl (congrArg (fun b => some (AV.fl (Value.bool b))) (decide_eq_false hc23)) 32 rfl (by decide) ?_
              refine AO.skipG 11 false 31 rfl rfl (congrArg (fun b => some (AV.fl (Value.bool b))) (decide_eq_false hc23)) 33 rfl (by decide) ?_
              refine AO.skipG 11 false 31 rfl rfl (congrArg (fun b => some (AV.fl (Value.bool b))) (decide_eq_false hc23)) 34 rfl (by decide) ?_
              refine AO.skipG 11 false 31 rfl rfl (congrArg (fun b => some (AV.fl (Value.bool b))) (decide_eq_false hc23)) 35 rfl (by decide) ?_
              refine AO.calm rfl 36 rfl (by decide) (eBool false) (Calm.pickF rfl (congrArg (fun b => some (AV.fl (Value.bool b))) (decide_eq_false hc23)) rfl) ?_
              cases hq20
              refine AO.nilE ⟨rfl, rfl⟩ ?_ ?_
              · exact ⟨rfl, rfl, rfl, rfl, rfl, trivial⟩
              · exact (Sub.refl _)
          · have hq20 := (if_neg hc21).symm.trans hq20
            refine AO.skipG 4 false 24 rfl rfl (congrArg (fun b => some (AV.fl (Value.bool b))) (decide_eq_false hc21)) 25 rfl (by decide) ?_
            refine AO.skipG 4 false 24 rfl rfl (congrArg (fun b => some (AV.fl (Value.bool b))) (decide_eq_false hc21)) 26 rfl (by decide) ?_
            refine AO.skipG 4 false 24 rfl rfl (congrArg (fun b => some (AV.fl (Value.bool b))) (decide_eq_false hc21)) 27 rfl (by decide) ?_
            refine AO.skipG 4 false 24 rfl rfl (congrArg (fun b => some (AV.fl (Value.bool b))) (decide_eq_false hc21)) 28 rfl (by decide) ?_
            refine AO.skipG 4 false 24 rfl rfl (congrArg (fun b => some (AV.fl (Value.bool b))) (decide_eq_false hc21)) 29 rfl (by decide) ?_
            refine AO.calm rfl 30 rfl (by decide) (eBool false) (Calm.pickF rfl (congrArg (fun b => some (AV.fl (Value.bool b))) (decide_eq_false hc21)) rfl) ?_
            refine AO.calm rfl 31 rfl (by decide) (eBool false) (Calm.move rfl rfl) ?_
            refine AO.skipG 11 false 31 rfl rfl rfl 32 rfl (by decide) ?_
            refine AO.skipG 11 false 31 rfl rfl rfl 33 rfl (by decide) ?_
            refine AO.skipG 11 false 31 rfl rfl rfl 34 rfl (by decide) ?_
            refine AO.skipG 11 false 31 rfl rfl rfl 35 rfl (by decide) ?_
            refine AO.calm rfl 36 rfl (by decide) (eBool false) (Calm.pickF rfl rfl rfl) ?_
            cases hq20
            refine AO.nilE ⟨rfl, rfl⟩ ?_ ?_
            · exact ⟨rfl, rfl, rfl, rfl, rfl, trivial⟩
            · exact (Sub.refl _)
        · by_cases hc25 : b19 = true
          · have h := (if_pos hc25).symm.trans h
            refine AW.condT' b19 rfl hc25 ?_
            refine AW.skip (ρ' := [(0, (eStr p0)), (1, (eU8 p1)), (7, (eStr x15)), (8, (eI64 x16))]) (H' := []) ⟨rfl, rfl, rfl, rfl, trivial⟩ (Sub.refl _) ?_
            refine AW.block ?_
            refine AW.seq ?_
            refine AW.reg ?_
            refine AO.calm rfl 38 rfl (by decide) (eStr p0) (Calm.move rfl rfl) ?_
            refine AO.calm rfl 39 rfl (by decide) (eI64 x16) (Calm.move rfl rfl) ?_
            obtain ⟨hg26, h⟩ := of_guard h
            refine AO.calm rfl 40 rfl (by decide) (eStr (p0.extract x16.toNat (p0.size : Int).toNat)) (Calm.sliceS rfl rfl rfl rfl hg26 Try.underlying9) ?_
            obtain ⟨t27, et27, h⟩ := of_bind h
            refine AO.callS [(eStr (p0.extract x16.toNat (p0.size : Int).toNat))] (.tup [(eU8 t27.1), (eI64 t27.2.1), (eBool t27.2.2)]) 41 rfl (by decide) ok89 rfl rfl rfl ⟨rfl, rfl, trivial⟩ (bosketref03_Read_spec et27) ?_
            refine AO.calm rfl 37 rfl (by decide) (.tup [(eU8 t27.1), (eI64 t27.2.1), (eBool t27.2.2)]) (Calm.move rfl rfl) ?_
            refine AO.calm rfl 42 rfl (by decide) (eU8 t27.1) (Calm.extract rfl rfl rfl) ?_
            refine AO.calm rfl 43 rfl (by decide) (eI64 t27.2.1) (Calm.extract rfl rfl rfl) ?_
            refine AO.calm rfl 44 rfl (by decide) (eBool t27.2.2) (Calm.extract rfl rfl rfl) ?_
            refine AO.calm rfl 9 rfl (by decide) (eU8 t27.1) (Calm.assign rfl rfl) ?_
            refine AO.calm rfl 10 rfl (by decide) (eI64 t27.2.1) (Calm.assign rfl rfl) ?_
            refine AO.calm rfl 11 rfl (by decide) (eBool t27.2.2) (Calm.assign rfl rfl) ?_
            refine AO.nil (ρ' := [(0, (eStr p0)), (1, (eU8 p1)), (7, (eStr x15)), (8, (eI64 x16)), (9, (eU8 t27.1)), (10, (eI64 t27.2.1)), (11, (eBool t27.2.2))]) (H' := []) ⟨rfl, rfl, rfl, rfl, rfl, rfl, rfl, trivial⟩ (Sub.refl _) ?_
            refine AW.seq ?_
            refine AW.seq ?_
            refine AW.reg ?_
            refine AO.calm rfl 45 rfl (by decide) (eBool t27.2.2) (Calm.move rfl rfl) ?_
            refine AO.calm rfl 46 rfl (by decide) (eBool (!t27.2.2)) (Calm.not rfl rfl) ?_
            refine AO.nil (ρ' := [(0, (eStr p0)), (1, (eU8 p1)), (7, (eStr x15)), (8, (eI64 x16)), (9, (eU8 t27.1)), (10, (eI64 t27.2.1)), (46, (eBool (!t27.2.2)))]) (H' := []) ⟨rfl, rfl, rfl, rfl, rfl, rfl, rfl, trivial⟩ (Sub.refl _) ?_
            by_cases hc28 : (!t27.2.2) = true
            · have h := (if_pos hc28).symm.trans h
              refine AW.condT' (!t27.2.2) rfl hc28 ?_
              refine AW.seq ?_
              refine AW.reg ?_
              refine AO.calm rfl 4 rfl (by decide) (eStr (ByteArray.mk #[])) (Calm.assign rfl rfl) ?_
              refine AO.calm rfl 5 rfl (by decide) (eI64 (0 : Int)) (Calm.assign rfl rfl) ?_
              refine AO.calm rfl 6 rfl (by decide) (eBool false) (Calm.assign rfl rfl) ?_
              refine AO.nil (ρ' := [(4, (eStr (ByteArray.mk #[]))), (5, (eI64 (0 : Int))), (6, (eBool false))]) (H' := []) ⟨rfl, rfl, rfl, trivial⟩ (Sub.refl _) ?_
              refine AW.ret (ρ' := [(4, (eStr (ByteArray.mk #[]))), (5, (eI64 (0 : Int))), (6, (eBool false))]) (H' := []) ⟨rfl, rfl, rfl, trivial⟩ (Sub.refl _) ?_
              have hr := Option.some.inj h
              subst hr
              exact ⟨[(eStr (ByteArray.mk #[])), (eI64 (0 : Int)), (eBool false)], ⟨rfl, rfl, rfl, rfl, rfl, rfl, trivial⟩, rfl⟩
            · have h := (if_neg hc28).symm.trans h
              refine AW.condF' (!t27.2.2) rfl hc28 ?_
              refine AW.skip (ρ' := [(0, (eStr p0)), (1, (eU8 p1)), (7, (eStr x15)), (8, (eI64 x16)), (9, (eU8 t27.1)), (10, (eI64 t27.2.1))]) (H' := []) ⟨rfl, rfl, rfl, rfl, rfl, rfl, trivial⟩ (Sub.refl _) ?_
              refine AW.seq ?_
              refine AW.reg ?_
              refine AO.calm rfl 47 rfl (by decide) (eStr x15) (Calm.move rfl rfl) ?_
              refine AO.calm rfl 48 rfl (by decide) (eU8 t27.1) (Calm.move rfl rfl) ?_
              refine AO.lit (Z := (eU8 (0 : Int))) (xs := (([t27.1] : List Int).map eU8)) (qs := [(0, (eU8 t27.1))]) rfl 49 rfl (by decide) rfl ⟨rfl, rfl, rfl, trivial⟩ Try.underlying84 sz5 zr5 lay5 rfl (by decide) (litOK (z := 1) [(eU8 t27.1)] rfl ⟨⟨rfl, rfl⟩, trivial⟩) rfl fun n29 => ?_
              refine AO.calm rfl 50 rfl (by decide) (eStr (strOfNums ([t27.1] : List Int))) (Calm.strO 0 rfl rfl rfl Try.underlying84 Try.underlying9 Try.underlying5) ?_
              obtain ⟨hg30, h⟩ := of_guard h
              refine AO.calm rfl 51 rfl (by decide) (eStr (x15 ++ (strOfNums ([t27.1] : List Int)))) (Calm.cat rfl rfl rfl hg30) ?_
              refine AO.calm rfl 7 rfl (by decide) (eStr (x15 ++ (strOfNums ([t27.1] : List Int)))) (Calm.assign rfl rfl) ?_
              refine AO.nil (ρ' := [(0, (eStr p0)), (1, (eU8 p1)), (7, (eStr (x15 ++ (strOfNums ([t27.1] : List Int))))), (8, (eI64 x16)), (10, (eI64 t27.2.1))]) (H' := []) ⟨rfl, rfl, rfl, rfl, rfl, trivial⟩ (Sub.nil _) ?_
              refine AW.reg ?_
              refine AO.calm rfl 52 rfl (by decide) (eI64 x16) (Calm.move rfl rfl) ?_
              refine AO.calm rfl 53 rfl (by decide) (eI64 t27.2.1) (Calm.move rfl rfl) ?_
              refine AO.calm rfl 54 rfl (by decide) (eI64 (w64 (x16 + t27.2.1))) (Calm.int rfl rfl rfl rfl) ?_
              refine AO.calm rfl 8 rfl (by decide) (eI64 (w64 (x16 + t27.2.1))) (Calm.assign rfl rfl) ?_
              refine AO.nil (ρ' := [(0, (eStr p0)), (1, (eU8 p1)), (7, (eStr (x15 ++ (strOfNums ([t27.1] : List Int))))), (8, (eI64 (w64 (x16 + t27.2.1))))]) (H' := []) ⟨rfl, rfl, rfl, rfl, trivial⟩ (Sub.refl _) ?_
              exact ⟨kq18, Nat.lt_succ_self _, (x15 ++ (strOfNums ([t27.1] : List Int))), (w64 (x16 + t27.2.1)), rfl, rfl, by rw [hrec17]; exact h⟩
          · have h := (if_neg hc25).symm.trans h
            refine AW.condF' b19 rfl hc25 ?_
            refine AW.exit (ρ' := [(0, (eStr p0)), (1, (eU8 p1)), (7, (eStr x15)), (8, (eI64 x16))]) (H' := []) ⟨rfl, rfl, rfl, rfl, trivial⟩ (Sub.refl _) ?_
            exact ⟨x15, x16, rfl, rfl, h⟩
      · rintro _ _ ⟨x8, x9, rfl, rfl, h⟩
        rw [bosketref03_Unquote_c0.eq_1] at h
        refine AW.seq ?_
        refine AW.seq ?_
        obtain ⟨b10, hq11, h⟩ := of_bind h
        refine AW.regM [(7, (eStr x8)), (8, (eI64 x9)), (65, (eBool b10))] [] ?_ ?_
        · refine AO.calm rfl 55 rfl (by decide) (eI64 x9) (Calm.move rfl rfl) ?_
          refine AO.calm rfl 56 rfl (by decide) (eStr p0) (Calm.move rfl rfl) ?_
          refine AO.calm rfl 57 rfl (by decide) (eI64 (p0.size : Int)) (Calm.lenStr rfl rfl Try.underlying9) ?_
          refine AO.calm rfl 58 rfl (by decide) (eBool (decide ((p0.size : Int) ≤ x9))) (Calm.int rfl rfl rfl rfl) ?_
          refine AO.calm rfl 59 rfl (by decide) (eBool (decide ((p0.size : Int) ≤ x9))) (Calm.move rfl rfl) ?_
          by_cases hc12 : (p0.size : Int) ≤ x9
          · have hq11 := (if_pos hc12).symm.trans hq11
            refine AO.skipG 4 true 59 rfl rfl (congrArg (fun b => some (AV.fl (Value.bool b))) (decide_eq_true hc12)) 60 rfl (by decide) ?_
            refine AO.skipG 4 true 59 rfl rfl (congrArg (fun b => some (AV.fl (Value.bool b))) (decide_eq_true hc12)) 61 rfl (by decide) ?_
            refine AO.skipG 4 true 59 rfl rfl (congrArg (fun b => some (AV.fl (Value.bool b))) (decide_eq_true hc12)) 62 rfl (by decide) ?_
            refine AO.skipG 4 true 59 rfl rfl (congrArg (fun b => some (AV.fl (Value.bool b))) (decide_eq_true hc12)) 63 rfl (by decide) ?_
            refine AO.skipG 4 true 59 rfl rfl (congrArg (fun b => some (AV.fl (Value.bool b))) (decide_eq_true hc12)) 64 rfl (by decide) ?_
            refine AO.calm rfl 65 rfl (by decide) (eBool true) (Calm.pickT rfl (congrArg (fun b => some (AV.fl (Value.bool b))) (decide_eq_true hc12)) rfl) ?_
            cases hq11
            refine AO.nilE ⟨rfl, rfl⟩ ?_ ?_
            · exact ⟨rfl, rfl, rfl, trivial⟩
            · exact (Sub.refl _)
          · have hq11 := (if_neg hc12).symm.trans hq11
            refine AO.calmG 4 false 59 rfl rfl (congrArg (fun b => some (AV.fl (Value.bool b))) (decide_eq_false hc12)) 60 rfl (by decide) (eStr p0) (Calm.move rfl rfl) ?_
            refine AO.calmG 4 false 59 rfl rfl (congrArg (fun b => some (AV.fl (Value.bool b))) (decide_eq_false hc12)) 61 rfl (by decide) (eI64 x9) (Calm.move rfl rfl) ?_
            obtain ⟨hg13, hq11⟩ := of_guard hq11
            refine AO.calmG 4 false 59 rfl rfl (congrArg (fun b => some (AV.fl (Value.bool b))) (decide_eq_false hc12)) 62 rfl (by decide) (eU8 (byteAt p0 x9)) (Calm.idxS rfl rfl rfl hg13 Try.underlying9) ?_
            refine AO.calmG 4 false 59 rfl rfl (congrArg (fun b => some (AV.fl (Value.bool b))) (decide_eq_false hc12)) 63 rfl (by decide) (eU8 p1) (Calm.move rfl rfl) ?_
            refine AO.calmG 4 false 59 rfl rfl (congrArg (fun b => some (AV.fl (Value.bool b))) (decide_eq_false hc12)) 64 rfl (by decide) (eBool (decide ((byteAt p0 x9) ≠ p1))) (Calm.int rfl rfl rfl rfl) ?_
            refine AO.calm rfl 65 rfl (by decide) (eBool (decide ((byteAt p0 x9) ≠ p1))) (Calm.pickF rfl (congrArg (fun b => some (AV.fl (Value.bool b))) (decide_eq_false hc12)) rfl) ?_
            cases hq11
            refine AO.nilE ⟨rfl, rfl⟩ ?_ ?_
            · exact ⟨rfl, rfl, rfl, trivial⟩
            · exact (Sub.refl _)
        · by_cases hc14 : b10 = true
          · have h := (if_pos hc14).symm.trans h
            refine AW.condT' b10 rfl hc14 ?_
            refine AW.seq ?_
            refine AW.reg ?_
            refine AO.calm rfl 4 rfl (by decide) (eStr (ByteArray.mk #[])) (Calm.assign rfl rfl) ?_
            refine AO.calm rfl 5 rfl (by decide) (eI64 (0 : Int)) (Calm.assign rfl rfl) ?_
            refine AO.calm rfl 6 rfl (by decide) (eBool false) (Calm.assign rfl rfl) ?_
            refine AO.nil (ρ' := [(4, (eStr (ByteArray.mk #[]))), (5, (eI64 (0 : Int))), (6, (eBool false))]) (H' := []) ⟨rfl, rfl, rfl, trivial⟩ (Sub.refl _) ?_
            refine AW.ret (ρ' := [(4, (eStr (ByteArray.mk #[]))), (5, (eI64 (0 : Int))), (6, (eBool false))]) (H' := []) ⟨rfl, rfl, rfl, trivial⟩ (Sub.refl _) ?_
            have hr := Option.some.inj h
            subst hr
            exact ⟨[(eStr (ByteArray.mk #[])), (eI64 (0 : Int)), (eBool false)], ⟨rfl, rfl, rfl, rfl, rfl, rfl, trivial⟩, rfl⟩
          · have h := (if_neg hc14).symm.trans h
            refine AW.condF' b10 rfl hc14 ?_
            refine AW.skip (ρ' := [(7, (eStr x8)), (8, (eI64 x9))]) (H' := []) ⟨rfl, rfl, trivial⟩ (Sub.refl _) ?_
            refine AW.seq ?_
            refine AW.reg ?_
            refine AO.calm rfl 66 rfl (by decide) (eStr x8) (Calm.move rfl rfl) ?_
            refine AO.calm rfl 67 rfl (by decide) (eI64 x9) (Calm.move rfl rfl) ?_
            refine AO.calm rfl 68 rfl (by decide) (eI64 (w64 (x9 + (1 : Int)))) (Calm.int rfl rfl rfl rfl) ?_
            refine AO.calm rfl 4 rfl (by decide) (eStr x8) (Calm.assign rfl rfl) ?_
            refine AO.calm rfl 5 rfl (by decide) (eI64 (w64 (x9 + (1 : Int)))) (Calm.assign rfl rfl) ?_
            refine AO.calm rfl 6 rfl (by decide) (eBool true) (Calm.assign rfl rfl) ?_
            refine AO.nil (ρ' := [(4, (eStr x8)), (5, (eI64 (w64 (x9 + (1 : Int))))), (6, (eBool true))]) (H' := []) ⟨rfl, rfl, rfl, trivial⟩ (Sub.refl _) ?_
            refine AW.ret (ρ' := [(4, (eStr x8)), (5, (eI64 (w64 (x9 + (1 : Int))))), (6, (eBool true))]) (H' := []) ⟨rfl, rfl, rfl, trivial⟩ (Sub.refl _) ?_
            have hr := Option.some.inj h
            subst hr
            exact ⟨[(eStr x8), (eI64 (w64 (x9 + (1 : Int)))), (eBool true)], ⟨rfl, rfl, rfl, rfl, rfl, rfl, trivial⟩, rfl⟩
end Go.Avl.T2
/- bosket/spot.Digits; printed by avmain.py. -/
namespace Go.Avl.T2
open Go Go.RowKit Go.Proofs Go.Avl
set_option linter.unusedVariables false
set_option maxRecDepth 100000
set_option maxHeartbeats 4000000
attribute [local irreducible] AW AO AQ Spec SpecH Calm

def spot_Digits (k : Nat) (p0 : Int) : Option ByteArray :=
  (spot_digits k p0).bind fun t2 =>
  some (t2)
theorem spot_Digits_spec {k : Nat} {p0 : Int} {r : ByteArray} (h : spot_Digits k p0 = some r) : Spec Try.prog 18 [(eI64 p0)] (eStr r) := by
  rw [spot_Digits.eq_1] at h
  refine Spec.intro (res := [.tmp 2]) Try.func18 rfl rfl rfl (Nat.le_of_ble_eq_true rfl) ?_
  refine AW.seq ?_
  refine AW.reg ?_
  refine AO.calm rfl 2 rfl (by decide) (eStr (ByteArray.mk #[])) (Calm.assign rfl rfl) ?_
  refine AO.nil (ρ' := [(0, (eI64 p0))]) (H' := []) ⟨rfl, trivial⟩ (Sub.refl _) ?_
  refine AW.seq ?_
  refine AW.reg ?_
  refine AO.calm rfl 3 rfl (by decide) (eI64 p0) (Calm.move rfl rfl) ?_
  obtain ⟨t2, et2, h⟩ := of_bind h
  refine AO.callS [(eI64 p0)] (eStr t2) 4 rfl (by decide) ok59 rfl rfl rfl ⟨rfl, rfl, trivial⟩ (spot_digits_spec et2) ?_
  refine AO.calm rfl 2 rfl (by decide) (eStr t2) (Calm.assign rfl rfl) ?_
  refine AO.nil (ρ' := [(2, (eStr t2))]) (H' := []) ⟨rfl, trivial⟩ (Sub.refl _) ?_
  refine AW.ret (ρ' := [(2, (eStr t2))]) (H' := []) ⟨rfl, trivial⟩ (Sub.refl _) ?_
  have hr := Option.some.inj h
  subst hr
  exact ⟨[(eStr t2)], ⟨rfl, rfl, trivial⟩, rfl⟩
end Go.Avl.T2
/- bosket/ast.Show; printed by avmain.py. -/
namespace Go.Avl.T2
open Go Go.RowKit Go.Proofs Go.Avl
set_option linter.unusedVariables false
set_option maxRecDepth 100000
set_option maxHeartbeats 4000000
attribute [local irreducible] AW AO AQ Spec SpecH Calm

def ast_Show_c0 (k : Nat) (x15 : ByteArray) : Option ByteArray :=
  if x15.size + (ByteArray.mk #[41]).size ≤ 9223372036854775807 then some ((x15 ++ (ByteArray.mk #[41])))
  else none
def ast_Show_l1 (k : Nat) (self : ((List S43) → Option ByteArray)) (t17 : (List (List S43))) : Nat → ByteArray → Int → Option ByteArray
  | 0, _, _ => none
  | j + 1, x18, x19 =>
    if x19 < (t17.length : Int) then if 0 ≤ x19 ∧ x19 < (t17.length : Int) then (self (lget t17 x19)).bind fun t24 =>
    if (ByteArray.mk #[32]).size + t24.size ≤ 9223372036854775807 then if x18.size + ((ByteArray.mk #[32]) ++ t24).size ≤ 9223372036854775807 then (ast_Show_l1 k self t17 j) (x18 ++ ((ByteArray.mk #[32]) ++ t24)) (w64 (x19 + (1 : Int)))
    else none
    else none
    else none
    else ast_Show_c0 k x18
def ast_Show_r (k : Nat) : Nat → (List S43) → Option ByteArray
  | 0, _ => none
  | j + 1, p0 =>
    (ast_Right k p0).bind fun t2 =>
    if (!t2) = true then some ((ByteArray.mk #[]))
    else if 0 ≤ (0 : Int) ∧ (0 : Int) < (p0.length : Int) then if ((lget p0 (0 : Int)).f0) = true then if 0 ≤ (0 : Int) ∧ (0 : Int) < (p0.length : Int) then (spot_Digits k ((lget p0 (0 : Int)).f1)).bind fun t7 =>
    if t7.size + (ByteArray.mk #[58]).size ≤ 9223372036854775807 then if 0 ≤ (0 : Int) ∧ (0 : Int) < (p0.length : Int) then (escape_Quote k ((lget p0 (0 : Int)).f3) (34 : Int)).bind fun t10 =>
    if (t7 ++ (ByteArray.mk #[58])).size + t10.size ≤ 9223372036854775807 then some (((t7 ++ (ByteArray.mk #[58])) ++ t10))
    else none
    else none
    else none
    else none
    else if 0 ≤ (0 : Int) ∧ (0 : Int) < (p0.length : Int) then (spot_Digits k ((lget p0 (0 : Int)).f1)).bind fun t13 =>
    if (ByteArray.mk #[40]).size + t13.size ≤ 9223372036854775807 then (ast_Kids k p0).bind fun t17 =>
    ast_Show_l1 k (ast_Show_r k j) t17 k ((ByteArray.mk #[40]) ++ t13) (0 : Int)
    else none
    else none
    else none
def ast_Show (k : Nat) (p0 : (List S43)) : Option ByteArray := ast_Show_r k k p0
theorem ast_Show_spec' (k : Nat) : ∀ (j : Nat) (p0 : (List S43)) (r : ByteArray), ast_Show_r k j p0 = some r → Spec Try.prog 23 [(.fz 4 (p0.map e43))] (eStr r) := by
  intro j
  induction j with
  | zero => intro p0 r h; rw [ast_Show_r.eq_1] at h; cases h
  | succ j hself =>
  intro p0 r h
  rw [ast_Show_r.eq_2] at h
  generalize hs : ast_Show_r k j = self at h hself
  refine Spec.intro (res := [.tmp 2]) Try.func23 rfl rfl rfl (Nat.le_of_ble_eq_true rfl) ?_
  refine AW.seq ?_
  refine AW.reg ?_
  refine AO.calm rfl 2 rfl (by decide) (eStr (ByteArray.mk #[])) (Calm.assign rfl rfl) ?_
  refine AO.nil (ρ' := [(0, (.fz 4 (p0.map e43)))]) (H' := []) ⟨rfl, trivial⟩ (Sub.refl _) ?_
  refine AW.seq ?_
  refine AW.seq ?_
  refine AW.reg ?_
  refine AO.calm rfl 6 rfl (by decide) (.fz 4 (p0.map e43)) (Calm.move rfl rfl) ?_
  obtain ⟨t2, et2, h⟩ := of_bind h
  refine AO.callS [(.fz 4 (p0.map e43))] (eBool t2) 7 rfl (by decide) ok30 rfl rfl rfl ⟨rfl, rfl, trivial⟩ (ast_Right_spec et2) ?_
  refine AO.calm rfl 8 rfl (by decide) (eBool (!t2)) (Calm.not rfl rfl) ?_
  refine AO.nil (ρ' := [(0, (.fz 4 (p0.map e43))), (8, (eBool (!t2)))]) (H' := []) ⟨rfl, rfl, trivial⟩ (Sub.refl _) ?_
  by_cases hc3 : (!t2) = true
  · have h := (if_pos hc3).symm.trans h
    refine AW.condT' (!t2) rfl hc3 ?_
    refine AW.seq ?_
    refine AW.reg ?_
    refine AO.calm rfl 2 rfl (by decide) (eStr (ByteArray.mk #[])) (Calm.assign rfl rfl) ?_
    refine AO.nil (ρ' := [(2, (eStr (ByteArray.mk #[])))]) (H' := []) ⟨rfl, trivial⟩ (Sub.refl _) ?_
    refine AW.ret (ρ' := [(2, (eStr (ByteArray.mk #[])))]) (H' := []) ⟨rfl, trivial⟩ (Sub.refl _) ?_
    have hr := Option.some.inj h
    subst hr
    exact ⟨[(eStr (ByteArray.mk #[]))], ⟨rfl, rfl, trivial⟩, rfl⟩
  · have h := (if_neg hc3).symm.trans h
    refine AW.condF' (!t2) rfl hc3 ?_
    refine AW.skip (ρ' := [(0, (.fz 4 (p0.map e43)))]) (H' := []) ⟨rfl, trivial⟩ (Sub.refl _) ?_
    refine AW.seq ?_
    refine AW.seq ?_
    refine AW.reg ?_
    refine AO.calm rfl 9 rfl (by decide) (.fz 4 (p0.map e43)) (Calm.move rfl rfl) ?_
    obtain ⟨hg4, h⟩ := of_guard h
    refine AO.calm rfl 10 rfl (by decide) (.rp (e43 (lget p0 (0 : Int)))) (Calm.idxL (f := e43) rfl rfl rfl hg4 Try.underlying37 sz43) ?_
    refine AO.calm rfl 11 rfl (by decide) (.rp (eBool ((lget p0 (0 : Int)).f0))) (Calm.fldRp rfl rfl Try.underlying43 rfl sz4 (At.cast (At.fld0 At.here) rfl)) ?_
    refine AO.calm rfl 12 rfl (by decide) (eBool ((lget p0 (0 : Int)).f0)) (Calm.loadRp rfl rfl ag4 sz4) ?_
    refine AO.nil (ρ' := [(0, (.fz 4 (p0.map e43))), (12, (eBool ((lget p0 (0 : Int)).f0)))]) (H' := []) ⟨rfl, rfl, trivial⟩ (Sub.refl _) ?_
    by_cases hc5 : ((lget p0 (0 : Int)).f0) = true
    · have h := (if_pos hc5).symm.trans h
      refine AW.condT' ((lget p0 (0 : Int)).f0) rfl hc5 ?_
      refine AW.seq ?_
      refine AW.regQ (by rfl) (by decide +kernel) ?_
      refine AQ.calm rfl 13 rfl (by decide) (.fz 4 (p0.map e43)) (Calm.move rfl rfl) ?_
      obtain ⟨hg6, h⟩ := of_guard h
      refine AQ.calm rfl 14 rfl (by decide) (.rp (e43 (lget p0 (0 : Int)))) (Calm.idxL (f := e43) rfl rfl rfl hg6 Try.underlying37 sz43) ?_
      refine AQ.calm rfl 15 rfl (by decide) (.rp (eI64 ((lget p0 (0 : Int)).f1))) (Calm.fldRp rfl rfl Try.underlying43 rfl sz3 (At.cast (At.fldS (At.fld0 At.here)) rfl)) ?_
      refine AQ.calm rfl 16 rfl (by decide) (eI64 ((lget p0 (0 : Int)).f1)) (Calm.loadRp rfl rfl ag3 sz3) ?_
      obtain ⟨t7, et7, h⟩ := of_bind h
      refine AQ.calm rfl 17 rfl (by decide) (eStr t7) (Calm.call (args := [(eI64 ((lget p0 (0 : Int)).f1))]) rfl rfl ok18 ⟨rfl, rfl, trivial⟩ rfl (spot_Digits_spec et7)) ?_
      obtain ⟨hg8, h⟩ := of_guard h
      refine AQ.calm rfl 18 rfl (by decide) (eStr (t7 ++ (ByteArray.mk #[58]))) (Calm.cat rfl rfl rfl hg8) ?_
      refine AQ.calm rfl 19 rfl (by decide) (.fz 4 (p0.map e43)) (Calm.move rfl rfl) ?_
      obtain ⟨hg9, h⟩ := of_guard h
      refine AQ.calm rfl 20 rfl (by decide) (.rp (e43 (lget p0 (0 : Int)))) (Calm.idxL (f := e43) rfl rfl rfl hg9 Try.underlying37 sz43) ?_
      refine AQ.calm rfl 21 rfl (by decide) (.rp (eStr ((lget p0 (0 : Int)).f3))) (Calm.fldRp rfl rfl Try.underlying43 rfl sz9 (At.cast (At.fldS (At.fldS (At.fldS (At.fld0 At.here)))) rfl)) ?_
      refine AQ.calm rfl 22 rfl (by decide) (eStr ((lget p0 (0 : Int)).f3)) (Calm.loadRp rfl rfl ag9 sz9) ?_
      obtain ⟨t10, et10, h⟩ := of_bind h
      refine AQ.calm rfl 23 rfl (by decide) (eStr t10) (Calm.call (args := [(eStr ((lget p0 (0 : Int)).f3)), (eU8 (34 : Int))]) rfl rfl ok60 ⟨rfl, rfl, rfl, rfl, trivial⟩ rfl (escape_Quote_spec et10)) ?_
      obtain ⟨hg11, h⟩ := of_guard h
      refine AQ.calm rfl 24 rfl (by decide) (eStr ((t7 ++ (ByteArray.mk #[58])) ++ t10)) (Calm.cat rfl rfl rfl hg11) ?_
      refine AQ.calm rfl 2 rfl (by decide) (eStr ((t7 ++ (ByteArray.mk #[58])) ++ t10)) (Calm.assign rfl rfl) ?_
      refine AQ.nil (ρ' := [(2, (eStr ((t7 ++ (ByteArray.mk #[58])) ++ t10)))]) ⟨rfl, trivial⟩ ?_
      refine AW.ret (ρ' := [(2, (eStr ((t7 ++ (ByteArray.mk #[58])) ++ t10)))]) (H' := []) ⟨rfl, trivial⟩ (Sub.refl _) ?_
      have hr := Option.some.inj h
      subst hr
      exact ⟨[(eStr ((t7 ++ (ByteArray.mk #[58])) ++ t10))], ⟨rfl, rfl, trivial⟩, rfl⟩
    · have h := (if_neg hc5).symm.trans h
      refine AW.condF' ((lget p0 (0 : Int)).f0) rfl hc5 ?_
      refine AW.skip (ρ' := [(0, (.fz 4 (p0.map e43)))]) (H' := []) ⟨rfl, trivial⟩ (Sub.refl _) ?_
      refine AW.seq ?_
      refine AW.reg ?_
      refine AO.calm rfl 25 rfl (by decide) (.fz 4 (p0.map e43)) (Calm.move rfl rfl) ?_
      obtain ⟨hg12, h⟩ := of_guard h
      refine AO.calm rfl 26 rfl (by decide) (.rp (e43 (lget p0 (0 : Int)))) (Calm.idxL (f := e43) rfl rfl rfl hg12 Try.underlying37 sz43) ?_
      refine AO.calm rfl 27 rfl (by decide) (.rp (eI64 ((lget p0 (0 : Int)).f1))) (Calm.fldRp rfl rfl Try.underlying43 rfl sz3 (At.cast (At.fldS (At.fld0 At.here)) rfl)) ?_
      refine AO.calm rfl 28 rfl (by decide) (eI64 ((lget p0 (0 : Int)).f1)) (Calm.loadRp rfl rfl ag3 sz3) ?_
      obtain ⟨t13, et13, h⟩ := of_bind h
      refine AO.callS [(eI64 ((lget p0 (0 : Int)).f1))] (eStr t13) 29 rfl (by decide) ok18 rfl rfl rfl ⟨rfl, rfl, trivial⟩ (spot_Digits_spec et13) ?_
      obtain ⟨hg14, h⟩ := of_guard h
      refine AO.calm rfl 30 rfl (by decide) (eStr ((ByteArray.mk #[40]) ++ t13)) (Calm.cat rfl rfl rfl hg14) ?_
      refine AO.calm rfl 3 rfl (by decide) (eStr ((ByteArray.mk #[40]) ++ t13)) (Calm.assign rfl rfl) ?_
      refine AO.nil (ρ' := [(0, (.fz 4 (p0.map e43))), (3, (eStr ((ByteArray.mk #[40]) ++ t13)))]) (H' := []) ⟨rfl, rfl, trivial⟩ (Sub.refl _) ?_
      refine AW.seq_mid (fun ρ H => ∃ (x15 : ByteArray), ρ = [(3, (eStr x15))] ∧ H = [] ∧ ast_Show_c0 k x15 = some r) ?_ ?_
      · refine AW.seq ?_
        refine AW.reg ?_
        refine AO.calm rfl 31 rfl (by decide) (.fz 4 (p0.map e43)) (Calm.move rfl rfl) ?_
        obtain ⟨t17, et17, h⟩ := of_bind h
        refine AO.callS [(.fz 4 (p0.map e43))] (.fz 1 (t17.map e37)) 32 rfl (by decide) ok33 rfl rfl rfl ⟨rfl, rfl, trivial⟩ (ast_Kids_spec et17) ?_
        refine AO.calm rfl 33 rfl (by decide) (eI64 (t17.length : Int)) (Calm.lenL rfl rfl Try.underlying49) ?_
        refine AO.calm rfl 34 rfl (by decide) (eI64 (0 : Int)) (Calm.move rfl rfl) ?_
        refine AO.nil (ρ' := [(3, (eStr ((ByteArray.mk #[40]) ++ t13))), (32, (.fz 1 (t17.map e37))), (33, (eI64 (t17.length : Int))), (34, (eI64 (0 : Int)))]) (H' := []) ⟨rfl, rfl, rfl, rfl, trivial⟩ (Sub.refl _) ?_
        refine AW.block ?_
        refine AW.weak (ρ' := [(3, (eStr ((ByteArray.mk #[40]) ++ t13))), (32, (.fz 1 (t17.map e37))), (33, (eI64 (t17.length : Int))), (34, (eI64 (0 : Int)))]) (H' := []) ⟨rfl, rfl, rfl, rfl, trivial⟩ (Sub.refl _) ?_
        refine AW.loop (fun kq ρ H => ∃ (x18 : ByteArray) (x19 : Int), ρ = [(3, (eStr x18)), (32, (.fz 1 (t17.map e37))), (33, (eI64 (t17.length : Int))), (34, (eI64 x19))] ∧ H = [] ∧ ast_Show_l1 k self t17 kq x18 x19 = some r) k ⟨((ByteArray.mk #[40]) ++ t13), (0 : Int), rfl, rfl, h⟩ ?_
        rintro kq21 _ _ ⟨x18, x19, rfl, rfl, h⟩
        cases kq21 with
        | zero => rw [ast_Show_l1.eq_1] at h; cases h
        | succ kq21 =>
        rw [ast_Show_l1.eq_2] at h
        generalize hrec20 : ast_Show_l1 k self t17 kq21 = rec20 at h
        refine AW.seq ?_
        refine AW.reg ?_
        refine AO.calm rfl 35 rfl (by decide) (eBool (decide (x19 < (t17.length : Int)))) (Calm.int rfl rfl rfl rfl) ?_
        refine AO.nil (ρ' := [(3, (eStr x18)), (32, (.fz 1 (t17.map e37))), (33, (eI64 (t17.length : Int))), (34, (eI64 x19)), (35, (eBool (decide (x19 < (t17.length : Int)))))]) (H' := []) ⟨rfl, rfl, rfl, rfl, rfl, trivial⟩ (Sub.refl _) ?_
        refine AW.seq ?_
        by_cases hc22 : x19 < (t17.length : Int)
        · have h := (if_pos hc22).symm.trans h
          refine AW.condP (x19 < (t17.length : Int)) rfl hc22 ?_
          refine AW.skip (ρ' := [(3, (eStr x18)), (32, (.fz 1 (t17.map e37))), (33, (eI64 (t17.length : Int))), (34, (eI64 x19))]) (H' := []) ⟨rfl, rfl, rfl, rfl, trivial⟩ (Sub.refl _) ?_
          refine AW.seq ?_
          refine AW.block ?_
          refine AW.seq ?_
          refine AW.reg ?_
          obtain ⟨hg23, h⟩ := of_guard h
          refine AO.calm rfl 36 rfl (by decide) (.rp (.fz 4 ((lget t17 x19).map e43))) (Calm.idxL (f := e37) rfl rfl rfl hg23 Try.underlying49 sz37) ?_
          refine AO.calm rfl 37 rfl (by decide) (.fz 4 ((lget t17 x19).map e43)) (Calm.loadRp rfl rfl ag37 sz37) ?_
          refine AO.calm rfl 5 rfl (by decide) (.fz 4 ((lget t17 x19).map e43)) (Calm.assign rfl rfl) ?_
          refine AO.nil (ρ' := [(3, (eStr x18)), (5, (.fz 4 ((lget t17 x19).map e43))), (32, (.fz 1 (t17.map e37))), (33, (eI64 (t17.length : Int))), (34, (eI64 x19))]) (H' := []) ⟨rfl, rfl, rfl, rfl, rfl, trivial⟩ (Sub.refl _) ?_
          refine AW.reg ?_
          refine AO.calm rfl 38 rfl (by decide) (eStr x18) (Calm.move rfl rfl) ?_
          refine AO.calm rfl 39 rfl (by decide) (.fz 4 ((lget t17 x19).map e43)) (Calm.move rfl rfl) ?_
          obtain ⟨t24, et24, h⟩ := of_bind h
          refine AO.callS [(.fz 4 ((lget t17 x19).map e43))] (eStr t24) 40 rfl (by decide) ok23 rfl rfl rfl ⟨rfl, rfl, trivial⟩ (hself _ _ et24) ?_
          obtain ⟨hg25, h⟩ := of_guard h
          refine AO.calm rfl 41 rfl (by decide) (eStr ((ByteArray.mk #[32]) ++ t24)) (Calm.cat rfl rfl rfl hg25) ?_
          obtain ⟨hg26, h⟩ := of_guard h
          refine AO.calm rfl 42 rfl (by decide) (eStr (x18 ++ ((ByteArray.mk #[32]) ++ t24))) (Calm.cat rfl rfl rfl hg26) ?_
          refine AO.calm rfl 3 rfl (by decide) (eStr (x18 ++ ((ByteArray.mk #[32]) ++ t24))) (Calm.assign rfl rfl) ?_
          refine AO.nil (ρ' := [(3, (eStr (x18 ++ ((ByteArray.mk #[32]) ++ t24)))), (32, (.fz 1 (t17.map e37))), (33, (eI64 (t17.length : Int))), (34, (eI64 x19))]) (H' := []) ⟨rfl, rfl, rfl, rfl, trivial⟩ (Sub.refl _) ?_
          refine AW.reg ?_
          refine AO.calm rfl 43 rfl (by decide) (eI64 (w64 (x19 + (1 : Int)))) (Calm.int rfl rfl rfl rfl) ?_
          refine AO.calm rfl 34 rfl (by decide) (eI64 (w64 (x19 + (1 : Int)))) (Calm.move rfl rfl) ?_
          refine AO.nil (ρ' := [(3, (eStr (x18 ++ ((ByteArray.mk #[32]) ++ t24)))), (32, (.fz 1 (t17.map e37))), (33, (eI64 (t17.length : Int))), (34, (eI64 (w64 (x19 + (1 : Int)))))]) (H' := []) ⟨rfl, rfl, rfl, rfl, trivial⟩ (Sub.refl _) ?_
          exact ⟨kq21, Nat.lt_succ_self _, (x18 ++ ((ByteArray.mk #[32]) ++ t24)), (w64 (x19 + (1 : Int))), rfl, rfl, by rw [hrec20]; exact h⟩
        · have h := (if_neg hc22).symm.trans h
          refine AW.condN (x19 < (t17.length : Int)) rfl hc22 ?_
          refine AW.exit (ρ' := [(3, (eStr x18))]) (H' := []) ⟨rfl, trivial⟩ (Sub.refl _) ?_
          exact ⟨x18, rfl, rfl, h⟩
      · rintro _ _ ⟨x15, rfl, rfl, h⟩
        rw [ast_Show_c0.eq_1] at h
        refine AW.seq ?_
        refine AW.reg ?_
        refine AO.calm rfl 44 rfl (by decide) (eStr x15) (Calm.move rfl rfl) ?_
        obtain ⟨hg16, h⟩ := of_guard h
        refine AO.calm rfl 45 rfl (by decide) (eStr (x15 ++ (ByteArray.mk #[41]))) (Calm.cat rfl rfl rfl hg16) ?_
        refine AO.calm rfl 2 rfl (by decide) (eStr (x15 ++ (ByteArray.mk #[41]))) (Calm.assign rfl rfl) ?_
        refine AO.nil (ρ' := [(2, (eStr (x15 ++ (ByteArray.mk #[41]))))]) (H' := []) ⟨rfl, trivial⟩ (Sub.refl _) ?_
        refine AW.ret (ρ' := [(2, (eStr (x15 ++ (ByteArray.mk #[41]))))]) (H' := []) ⟨rfl, trivial⟩ (Sub.refl _) ?_
        have hr := Option.some.inj h
        subst hr
        exact ⟨[(eStr (x15 ++ (ByteArray.mk #[41])))], ⟨rfl, rfl, trivial⟩, rfl⟩
theorem ast_Show_spec {k : Nat} {p0 : (List S43)} {r : ByteArray} (h : ast_Show k p0 = some r) : Spec Try.prog 23 [(.fz 4 (p0.map e43))] (eStr r) := ast_Show_spec' k k p0 r h
end Go.Avl.T2
