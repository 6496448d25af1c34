/- Parts: T2f49, T2f9. -/
import Derived.Test.YtmgiffbobkgcmaaAF1
import Derived.Test.YtmgiffbobkgcmaaAF7
import Derived.Test.YtmgiffbobkgcmaaAF5
import Derived.Test.YtmgiffbobkgcmaaAF2
import Derived.Test.YtmgiffbobkgcmaaAF6
/- bosket/bosketref47.Read; printed by avmain.py. -/
namespace Go.Avl.T2
open Go Go.RowKit Go.Proofs Go.Avl
set_option linter.unusedVariables false
set_option maxRecDepth 100000
set_option maxHeartbeats 4000000
attribute [local irreducible] AW AO AQ Spec SpecH Calm

def bosketref47_Read_c0 (k : Nat) : Option (S60 × Bool) :=
  some ((S60.mk (0 : Int) (0 : Int) ByteArray.empty), false)
def bosketref47_Read_c1 (k : Nat) (rec4 : (Int → Option (S60 × Bool))) (x3 : Int) : Option (S60 × Bool) :=
  rec4 (w64 (x3 + (1 : Int)))
def bosketref47_Read_c2 (k : Nat) (rec4 : (Int → Option (S60 × Bool))) (p0 : ByteArray) (x3 : Int) (x15 : ByteArray) (x17 : Int) : Option (S60 × Bool) :=
  (bosketref47_Line k (S60.mk x3 x17 x15)).bind fun t18 =>
  if t18 = p0 then some ((S60.mk x3 x17 x15), true)
  else bosketref47_Read_c1 k rec4 x3
def bosketref47_Read_c3 (k : Nat) (rec4 : (Int → Option (S60 × Bool))) (p0 : ByteArray) (x3 : Int) (x15 : ByteArray) (x16 : ByteArray) : Option (S60 × Bool) :=
  if (0 : Int) < (x16.size : Int) then if 0 ≤ (1 : Int) ∧ (1 : Int) ≤ (x16.size : Int) ∧ (x16.size : Int) ≤ (x16.size : Int) then (bosketref13_Number k (x16.extract (1 : Int).toNat (x16.size : Int).toNat)).bind fun t22 =>
  bosketref47_Read_c2 k rec4 p0 x3 x15 t22.1
  else none
  else bosketref47_Read_c2 k rec4 p0 x3 x15 (0 : Int)
def bosketref47_Read_l4 (k : Nat) (p0 : ByteArray) : Nat → Int → Option (S60 × Bool)
  | 0, _ => none
  | j + 1, x3 =>
    if x3 ≤ (11 : Int) then (bosketref47_Form k x3).bind fun t7 =>
    Option.bind (α := Bool) (if (p0.size : Int) < (t7.1.size : Int) then some (true)
    else if 0 ≤ (0 : Int) ∧ (0 : Int) ≤ (t7.1.size : Int) ∧ (t7.1.size : Int) ≤ (p0.size : Int) then some (decide ((p0.extract (0 : Int).toNat (t7.1.size : Int).toNat) ≠ t7.1))
    else none) fun b8 =>
    if b8 = true then bosketref47_Read_c1 k (bosketref47_Read_l4 k p0 j) x3
    else if 0 ≤ (t7.1.size : Int) ∧ (t7.1.size : Int) ≤ (p0.size : Int) ∧ (p0.size : Int) ≤ (p0.size : Int) then Option.bind (α := Bool) (if t7.2.1 = true then some (decide ((0 : Int) < ((p0.extract (t7.1.size : Int).toNat (p0.size : Int).toNat).size : Int)))
    else some (false)) fun b23 =>
    if b23 = true then if 0 ≤ (1 : Int) ∧ (1 : Int) ≤ ((p0.extract (t7.1.size : Int).toNat (p0.size : Int).toNat).size : Int) ∧ ((p0.extract (t7.1.size : Int).toNat (p0.size : Int).toNat).size : Int) ≤ ((p0.extract (t7.1.size : Int).toNat (p0.size : Int).toNat).size : Int) then (bosketref03_Unquote k ((p0.extract (t7.1.size : Int).toNat (p0.size : Int).toNat).extract (1 : Int).toNat ((p0.extract (t7.1.size : Int).toNat (p0.size : Int).toNat).size : Int).toNat) (34 : Int)).bind fun t28 =>
    if (!t28.2.2) = true then bosketref47_Read_c1 k (bosketref47_Read_l4 k p0 j) x3
    else if 0 ≤ (w64 ((1 : Int) + t28.2.1)) ∧ (w64 ((1 : Int) + t28.2.1)) ≤ ((p0.extract (t7.1.size : Int).toNat (p0.size : Int).toNat).size : Int) ∧ ((p0.extract (t7.1.size : Int).toNat (p0.size : Int).toNat).size : Int) ≤ ((p0.extract (t7.1.size : Int).toNat (p0.size : Int).toNat).size : Int) then (some ((p0.extract (t7.1.size : Int).toNat (p0.size : Int).toNat).extract (w64 ((1 : Int) + t28.2.1)).toNat ((p0.extract (t7.1.size : Int).toNat (p0.size : Int).toNat).size : Int).toNat)).bind fun x31 =>
    bosketref47_Read_c3 k (bosketref47_Read_l4 k p0 j) p0 x3 t28.1 x31
    else none
    else none
    else bosketref47_Read_c3 k (bosketref47_Read_l4 k p0 j) p0 x3 ByteArray.empty (p0.extract (t7.1.size : Int).toNat (p0.size : Int).toNat)
    else none
    else bosketref47_Read_c0 k
def bosketref47_Read (k : Nat) (p0 : ByteArray) : Option (S60 × Bool) :=
  bosketref47_Read_l4 k p0 k (1 : Int)
theorem bosketref47_Read_spec {k : Nat} {p0 : ByteArray} {r : (S60 × Bool)} (h : bosketref47_Read k p0 = some r) : Spec Try.prog 49 [(eStr p0)] (.tup [(e60 r.1), (eBool r.2)]) := by
  rw [bosketref47_Read.eq_1] at h
  refine Spec.intro (res := [.cell 2 60, .tmp 3]) Try.func49 rfl rfl rfl (Nat.le_of_ble_eq_true rfl) ?_
  refine AW.seq ?_
  refine AW.reg ?_
  refine AO.alloc rfl 2 rfl (by decide) rfl zr60 lay60 fun n2 => ?_
  refine AO.calm rfl 3 rfl (by decide) (eBool false) (Calm.assign rfl rfl) ?_
  refine AO.nil (ρ' := [(0, (eStr p0)), (2, (.ptr n2 0))]) (H' := [(n2, .mem (.st [(1, (eI64 (0 : Int))), (1, (eI64 (0 : Int))), (1, (eStr ByteArray.empty))]))]) ⟨rfl, rfl, trivial⟩ (Sub.refl _) ?_
  refine AW.seq_mid (fun ρ H => ρ = [(2, (.ptr n2 0))] ∧ H = [(n2, .mem (.st [(1, (eI64 (0 : Int))), (1, (eI64 (0 : Int))), (1, (eStr ByteArray.empty))]))] ∧ bosketref47_Read_c0 k = some r) ?_ ?_
  · refine AW.seq ?_
    refine AW.reg ?_
    refine AO.calm rfl 4 rfl (by decide) (eI64 (1 : Int)) (Calm.assign rfl rfl) ?_
    refine AO.nil (ρ' := [(0, (eStr p0)), (2, (.ptr n2 0)), (4, (eI64 (1 : Int)))]) (H' := [(n2, .mem (.st [(1, (eI64 (0 : Int))), (1, (eI64 (0 : Int))), (1, (eStr ByteArray.empty))]))]) ⟨rfl, rfl, rfl, trivial⟩ (Sub.refl _) ?_
    refine AW.block ?_
    refine AW.weak (ρ' := [(0, (eStr p0)), (2, (.ptr n2 0)), (4, (eI64 (1 : Int)))]) (H' := [(n2, .mem (.st [(1, (eI64 (0 : Int))), (1, (eI64 (0 : Int))), (1, (eStr ByteArray.empty))]))]) ⟨rfl, rfl, rfl, trivial⟩ (Sub.refl _) ?_
    refine AW.loop (fun kq ρ H => ∃ (x3 : Int), ρ = [(0, (eStr p0)), (2, (.ptr n2 0)), (4, (eI64 x3))] ∧ H = [(n2, .mem (.st [(1, (eI64 (0 : Int))), (1, (eI64 (0 : Int))), (1, (eStr ByteArray.empty))]))] ∧ bosketref47_Read_l4 k p0 kq x3 = some r) k ⟨(1 : Int), rfl, rfl, h⟩ ?_
    rintro kq5 _ _ ⟨x3, rfl, rfl, h⟩
    cases kq5 with
    | zero => rw [bosketref47_Read_l4.eq_1] at h; cases h
    | succ kq5 =>
    rw [bosketref47_Read_l4.eq_2] at h
    generalize hrec4 : bosketref47_Read_l4 k p0 kq5 = rec4 at h
    refine AW.seq ?_
    refine AW.seq ?_
    refine AW.reg ?_
    refine AO.calm rfl 13 rfl (by decide) (eI64 x3) (Calm.move rfl rfl) ?_
    refine AO.calm rfl 14 rfl (by decide) (eBool (decide (x3 ≤ (11 : Int)))) (Calm.int rfl rfl rfl rfl) ?_
    refine AO.nil (ρ' := [(0, (eStr p0)), (2, (.ptr n2 0)), (4, (eI64 x3)), (14, (eBool (decide (x3 ≤ (11 : Int)))))]) (H' := [(n2, .mem (.st [(1, (eI64 (0 : Int))), (1, (eI64 (0 : Int))), (1, (eStr ByteArray.empty))]))]) ⟨rfl, rfl, rfl, rfl, trivial⟩ (Sub.refl _) ?_
    by_cases hc6 : x3 ≤ (11 : Int)
    · have h := (if_pos hc6).symm.trans h
      refine AW.condP (x3 ≤ (11 : Int)) rfl hc6 ?_
      refine AW.skip (ρ' := [(0, (eStr p0)), (2, (.ptr n2 0)), (4, (eI64 x3))]) (H' := [(n2, .mem (.st [(1, (eI64 (0 : Int))), (1, (eI64 (0 : Int))), (1, (eStr ByteArray.empty))]))]) ⟨rfl, rfl, rfl, trivial⟩ (Sub.refl _) ?_
      refine AW.seq_mid (fun ρ H => ρ = [(0, (eStr p0)), (2, (.ptr n2 0)), (4, (eI64 x3))] ∧ H = [(n2, .mem (.st [(1, (eI64 (0 : Int))), (1, (eI64 (0 : Int))), (1, (eStr ByteArray.empty))]))] ∧ bosketref47_Read_c1 k rec4 x3 = some r) ?_ ?_
      · refine AW.block ?_
        refine AW.seq ?_
        refine AW.reg ?_
        refine AO.calm rfl 18 rfl (by decide) (eI64 x3) (Calm.move rfl rfl) ?_
        obtain ⟨t7, et7, h⟩ := of_bind h
        refine AO.callS [(eI64 x3)] (.tup [(eStr t7.1), (eBool t7.2.1), (eBool t7.2.2)]) 19 rfl (by decide) ok41 rfl rfl rfl ⟨rfl, rfl, trivial⟩ (bosketref47_Form_spec et7) ?_
        refine AO.calm rfl 17 rfl (by decide) (.tup [(eStr t7.1), (eBool t7.2.1), (eBool t7.2.2)]) (Calm.move rfl rfl) ?_
        refine AO.calm rfl 20 rfl (by decide) (eStr t7.1) (Calm.extract rfl rfl rfl) ?_
        refine AO.calm rfl 21 rfl (by decide) (eBool t7.2.1) (Calm.extract rfl rfl rfl) ?_
        refine AO.calm rfl 22 rfl (by decide) (eBool t7.2.2) (Calm.extract rfl rfl rfl) ?_
        refine AO.calm rfl 5 rfl (by decide) (eStr t7.1) (Calm.assign rfl rfl) ?_
        refine AO.calm rfl 6 rfl (by decide) (eBool t7.2.1) (Calm.assign rfl rfl) ?_
        refine AO.calm rfl 7 rfl (by decide) (eBool t7.2.2) (Calm.assign rfl rfl) ?_
        refine AO.nil (ρ' := [(0, (eStr p0)), (2, (.ptr n2 0)), (4, (eI64 x3)), (5, (eStr t7.1)), (6, (eBool t7.2.1))]) (H' := [(n2, .mem (.st [(1, (eI64 (0 : Int))), (1, (eI64 (0 : Int))), (1, (eStr ByteArray.empty))]))]) ⟨rfl, rfl, rfl, rfl, rfl, trivial⟩ (Sub.refl _) ?_
        refine AW.seq ?_
        refine AW.seq ?_
        obtain ⟨b8, hq9, h⟩ := of_bind h
        refine AW.regM [(0, (eStr p0)), (2, (.ptr n2 0)), (4, (eI64 x3)), (5, (eStr t7.1)), (6, (eBool t7.2.1)), (35, (eBool b8))] [(n2, .mem (.st [(1, (eI64 (0 : Int))), (1, (eI64 (0 : Int))), (1, (eStr ByteArray.empty))]))] ?_ ?_
        · refine AO.calm rfl 23 rfl (by decide) (eStr p0) (Calm.move rfl rfl) ?_
          refine AO.calm rfl 24 rfl (by decide) (eI64 (p0.size : Int)) (Calm.lenStr rfl rfl Try.underlying9) ?_
          refine AO.calm rfl 25 rfl (by decide) (eStr t7.1) (Calm.move rfl rfl) ?_
          refine AO.calm rfl 26 rfl (by decide) (eI64 (t7.1.size : Int)) (Calm.lenStr rfl rfl Try.underlying9) ?_
          refine AO.calm rfl 27 rfl (by decide) (eBool (decide ((p0.size : Int) < (t7.1.size : Int)))) (Calm.int rfl rfl rfl rfl) ?_
          refine AO.calm rfl 28 rfl (by decide) (eBool (decide ((p0.size : Int) < (t7.1.size : Int)))) (Calm.move rfl rfl) ?_
          by_cases hc10 : (p0.size : Int) < (t7.1.size : Int)
          · have hq9 := (if_pos hc10).symm.trans hq9
            refine AO.skipG 5 true 28 rfl rfl (congrArg (fun b => some (AV.fl (Value.bool b))) (decide_eq_true hc10)) 29 rfl (by decide) ?_
            refine AO.skipG 5 true 28 rfl rfl (congrArg (fun b => some (AV.fl (Value.bool b))) (decide_eq_true hc10)) 30 rfl (by decide) ?_
            refine AO.skipG 5 true 28 rfl rfl (congrArg (fun b => some (AV.fl (Value.bool b))) (decide_eq_true hc10)) 31 rfl (by decide) ?_
            refine AO.skipG 5 true 28 rfl rfl (congrArg (fun b => some (AV.fl (Value.bool b))) (decide_eq_true hc10)) 32 rfl (by decide) ?_
            refine AO.skipG 5 true 28 rfl rfl (congrArg (fun b => some (AV.fl (Value.bool b))) (decide_eq_true hc10)) 33 rfl (by decide) ?_
            refine AO.skipG 5 true 28 rfl rfl (congrArg (fun b => some (AV.fl (Value.bool b))) (decide_eq_true hc10)) 34 rfl (by decide) ?_
            refine AO.calm rfl 35 rfl (by decide) (eBool true) (Calm.pickT rfl (congrArg (fun b => some (AV.fl (Value.bool b))) (decide_eq_true hc10)) rfl) ?_
            cases hq9
            refine AO.nilE ⟨rfl, rfl⟩ ?_ ?_
            · exact ⟨rfl, rfl, rfl, rfl, rfl, rfl, trivial⟩
            · exact (Sub.refl _)
          · have hq9 := (if_neg hc10).symm.trans hq9
            refine AO.calmG 5 false 28 rfl rfl (congrArg (fun b => some (AV.fl (Value.bool b))) (decide_eq_false hc10)) 29 rfl (by decide) (eStr p0) (Calm.move rfl rfl) ?_
            refine AO.calmG 5 false 28 rfl rfl (congrArg (fun b => some (AV.fl (Value.bool b))) (decide_eq_false hc10)) 30 rfl (by decide) (eStr t7.1) (Calm.move rfl rfl) ?_
            refine AO.calmG 5 false 28 rfl rfl (congrArg (fun b => some (AV.fl (Value.bool b))) (decide_eq_false hc10)) 31 rfl (by decide) (eI64 (t7.1.size : Int)) (Calm.lenStr rfl rfl Try.underlying9) ?_
            obtain ⟨hg11, hq9⟩ := of_guard hq9
            refine AO.calmG 5 false 28 rfl rfl (congrArg (fun b => some (AV.fl (Value.bool b))) (decide_eq_false hc10)) 32 rfl (by decide) (eStr (p0.extract (0 : Int).toNat (t7.1.size : Int).toNat)) (Calm.sliceS rfl rfl rfl rfl hg11 Try.underlying9) ?_
            refine AO.calmG 5 false 28 rfl rfl (congrArg (fun b => some (AV.fl (Value.bool b))) (decide_eq_false hc10)) 33 rfl (by decide) (eStr t7.1) (Calm.move rfl rfl) ?_
            refine AO.calmG 5 false 28 rfl rfl (congrArg (fun b => some (AV.fl (Value.bool b))) (decide_eq_false hc10)) 34 rfl (by decide) (eBool (decide ((p0.extract (0 : Int).toNat (t7.1.size : Int).toNat) ≠ t7.1))) (Calm.str rfl rfl rfl rfl) ?_
            refine AO.calm rfl 35 rfl (by decide) (eBool (decide ((p0.extract (0 : Int).toNat (t7.1.size : Int).toNat) ≠ t7.1))) (Calm.pickF rfl (congrArg (fun b => some (AV.fl (Value.bool b))) (decide_eq_false hc10)) rfl) ?_
            cases hq9
            refine AO.nilE ⟨rfl, rfl⟩ ?_ ?_
            · exact ⟨rfl, rfl, rfl, rfl, rfl, rfl, trivial⟩
            · exact (Sub.refl _)
        · by_cases hc12 : b8 = true
          · have h := (if_pos hc12).symm.trans h
            refine AW.condT' b8 rfl hc12 ?_
            refine AW.exit (ρ' := [(0, (eStr p0)), (2, (.ptr n2 0)), (4, (eI64 x3))]) (H' := [(n2, .mem (.st [(1, (eI64 (0 : Int))), (1, (eI64 (0 : Int))), (1, (eStr ByteArray.empty))]))]) ⟨rfl, rfl, rfl, trivial⟩ (Sub.refl _) ?_
            exact ⟨rfl, rfl, h⟩
          · have h := (if_neg hc12).symm.trans h
            refine AW.condF' b8 rfl hc12 ?_
            refine AW.skip (ρ' := [(0, (eStr p0)), (2, (.ptr n2 0)), (4, (eI64 x3)), (5, (eStr t7.1)), (6, (eBool t7.2.1))]) (H' := [(n2, .mem (.st [(1, (eI64 (0 : Int))), (1, (eI64 (0 : Int))), (1, (eStr ByteArray.empty))]))]) ⟨rfl, rfl, rfl, rfl, rfl, trivial⟩ (Sub.refl _) ?_
            refine AW.seq ?_
            refine AW.reg ?_
            refine AO.calm rfl 36 rfl (by decide) (eI64 x3) (Calm.move rfl rfl) ?_
            refine AO.calm rfl 37 rfl (by decide) (.st [(1, (eI64 x3)), (1, (eI64 (0 : Int))), (1, (eStr ByteArray.empty))]) (Calm.build (qs := [(0, (eI64 x3))]) rfl ⟨rfl, rfl, rfl, trivial⟩ Try.underlying60 rfl zr60 lay60 (.cons rfl rfl rfl rfl (Put.cast (Put.fld0 Put.here) rfl) .nil) rfl) ?_
            refine AO.alloc rfl 8 rfl (by decide) rfl zr60 lay60 fun n13 => ?_
            refine AO.store (X' := (e60 (S60.mk x3 (0 : Int) ByteArray.empty))) 0 rfl rfl rfl rfl rfl rfl (Put.cast Put.here rfl) rfl rfl sz60 rfl ?_
            refine AO.nil (ρ' := [(0, (eStr p0)), (2, (.ptr n2 0)), (4, (eI64 x3)), (5, (eStr t7.1)), (6, (eBool t7.2.1)), (8, (.ptr n13 0))]) (H' := [(n2, .mem (.st [(1, (eI64 (0 : Int))), (1, (eI64 (0 : Int))), (1, (eStr ByteArray.empty))])), (n13, .mem (e60 (S60.mk x3 (0 : Int) ByteArray.empty)))]) ⟨rfl, rfl, rfl, rfl, rfl, rfl, trivial⟩ (Sub.cons 1 rfl (Sub.cons 0 rfl (Sub.nil _))) ?_
            refine AW.seq ?_
            refine AW.reg ?_
            refine AO.calm rfl 38 rfl (by decide) (eStr p0) (Calm.move rfl rfl) ?_
            refine AO.calm rfl 39 rfl (by decide) (eStr t7.1) (Calm.move rfl rfl) ?_
            refine AO.calm rfl 40 rfl (by decide) (eI64 (t7.1.size : Int)) (Calm.lenStr rfl rfl Try.underlying9) ?_
            obtain ⟨hg14, h⟩ := of_guard h
            refine AO.calm rfl 41 rfl (by decide) (eStr (p0.extract (t7.1.size : Int).toNat (p0.size : Int).toNat)) (Calm.sliceS rfl rfl rfl rfl hg14 Try.underlying9) ?_
            refine AO.calm rfl 9 rfl (by decide) (eStr (p0.extract (t7.1.size : Int).toNat (p0.size : Int).toNat)) (Calm.assign rfl rfl) ?_
            refine AO.nil (ρ' := [(0, (eStr p0)), (2, (.ptr n2 0)), (4, (eI64 x3)), (6, (eBool t7.2.1)), (8, (.ptr n13 0)), (9, (eStr (p0.extract (t7.1.size : Int).toNat (p0.size : Int).toNat)))]) (H' := [(n2, .mem (.st [(1, (eI64 (0 : Int))), (1, (eI64 (0 : Int))), (1, (eStr ByteArray.empty))])), (n13, .mem (e60 (S60.mk x3 (0 : Int) ByteArray.empty)))]) ⟨rfl, rfl, rfl, rfl, rfl, rfl, trivial⟩ (Sub.refl _) ?_
            refine AW.seq_mid (fun ρ H => ∃ (x15 : ByteArray) (x16 : ByteArray), ρ = [(0, (eStr p0)), (2, (.ptr n2 0)), (4, (eI64 x3)), (8, (.ptr n13 0)), (9, (eStr x16))] ∧ H = [(n2, .mem (.st [(1, (eI64 (0 : Int))), (1, (eI64 (0 : Int))), (1, (eStr ByteArray.empty))])), (n13, .mem (.st [(1, (eI64 x3)), (1, (eI64 (0 : Int))), (1, (eStr x15))]))] ∧ bosketref47_Read_c3 k rec4 p0 x3 x15 x16 = some r) ?_ ?_
            · refine AW.seq ?_
              obtain ⟨b23, hq24, h⟩ := of_bind h
              refine AW.regM [(0, (eStr p0)), (2, (.ptr n2 0)), (4, (eI64 x3)), (8, (.ptr n13 0)), (9, (eStr (p0.extract (t7.1.size : Int).toNat (p0.size : Int).toNat))), (47, (eBool b23))] [(n2, .mem (.st [(1, (eI64 (0 : Int))), (1, (eI64 (0 : Int))), (1, (eStr ByteArray.empty))])), (n13, .mem (e60 (S60.mk x3 (0 : Int) ByteArray.empty)))] ?_ ?_
              · refine AO.calm rfl 42 rfl (by decide) (eBool t7.2.1) (Calm.move rfl rfl) ?_
                refine AO.calm rfl 43 rfl (by decide) (eBool t7.2.1) (Calm.move rfl rfl) ?_
                by_cases hc25 : t7.2.1 = true
                · have hq24 := (if_pos hc25).symm.trans hq24
                  refine AO.calmG 1 true 43 rfl rfl (congrArg (fun b => some (AV.fl (Value.bool b))) hc25) 44 rfl (by decide) (eStr (p0.extract (t7.1.size : Int).toNat (p0.size : Int).toNat)) (Calm.move rfl rfl) ?_
                  refine AO.calmG 1 true 43 rfl rfl (congrArg (fun b => some (AV.fl (Value.bool b))) hc25) 45 rfl (by decide) (eI64 ((p0.extract (t7.1.size : Int).toNat (p0.size : Int).toNat).size : Int)) (Calm.lenStr rfl rfl Try.underlying9) ?_
                  refine AO.calmG 1 true 43 rfl rfl (congrArg (fun b => some (AV.fl (Value.bool b))) hc25) 46 rfl (by decide) (eBool (decide ((0 : Int) < ((p0.extract (t7.1.size : Int).toNat (p0.size : Int).toNat).size : Int)))) (Calm.int rfl rfl rfl rfl) ?_
                  refine AO.calm rfl 47 rfl (by decide) (eBool (decide ((0 : Int) < ((p0.extract (t7.1.size : Int).toNat (p0.size : Int).toNat).size : Int)))) (Calm.pickT rfl (congrArg (fun b => some (AV.fl (Value.bool b))) hc25) rfl) ?_
                  cases hq24
                  refine AO.nilE ⟨rfl, rfl⟩ ?_ ?_
                  · exact ⟨rfl, rfl, rfl, rfl, rfl, rfl, trivial⟩
                  · exact (Sub.refl _)
                · have hq24 := (if_neg hc25).symm.trans hq24
                  refine AO.skipG 1 false 43 rfl rfl (congrArg (fun b => some (AV.fl (Value.bool b))) (eq_false_of_ne_true hc25)) 44 rfl (by decide) ?_
                  refine AO.skipG 1 false 43 rfl rfl (congrArg (fun b => some (AV.fl (Value.bool b))) (eq_false_of_ne_true hc25)) 45 rfl (by decide) ?_
                  refine AO.skipG 1 false 43 rfl rfl (congrArg (fun b => some (AV.fl (Value.bool b))) (eq_false_of_ne_true hc25)) 46 rfl (by decide) ?_
                  refine AO.calm rfl 47 rfl (by decide) (eBool false) (Calm.pickF rfl (congrArg (fun b => some (AV.fl (Value.bool b))) (eq_false_of_ne_true hc25)) rfl) ?_
                  cases hq24
                  refine AO.nilE ⟨rfl, rfl⟩ ?_ ?_
                  · exact ⟨rfl, rfl, rfl, rfl, rfl, rfl, trivial⟩
                  · exact (Sub.refl _)
              · by_cases hc26 : b23 = true
                · have h := (if_pos hc26).symm.trans h
                  refine AW.condT' b23 rfl hc26 ?_
                  refine AW.seq ?_
                  refine AW.reg ?_
                  refine AO.calm rfl 49 rfl (by decide) (eStr (p0.extract (t7.1.size : Int).toNat (p0.size : Int).toNat)) (Calm.move rfl rfl) ?_
                  obtain ⟨hg27, h⟩ := of_guard h
                  refine AO.calm rfl 50 rfl (by decide) (eStr ((p0.extract (t7.1.size : Int).toNat (p0.size : Int).toNat).extract (1 : Int).toNat ((p0.extract (t7.1.size : Int).toNat (p0.size : Int).toNat).size : Int).toNat)) (Calm.sliceS rfl rfl rfl rfl hg27 Try.underlying9) ?_
                  obtain ⟨t28, et28, h⟩ := of_bind h
                  refine AO.callS [(eStr ((p0.extract (t7.1.size : Int).toNat (p0.size : Int).toNat).extract (1 : Int).toNat ((p0.extract (t7.1.size : Int).toNat (p0.size : Int).toNat).size : Int).toNat)), (eU8 (34 : Int))] (.tup [(eStr t28.1), (eI64 t28.2.1), (eBool t28.2.2)]) 51 rfl (by decide) ok70 rfl rfl rfl ⟨rfl, rfl, rfl, rfl, trivial⟩ (bosketref03_Unquote_spec et28) ?_
                  refine AO.calm rfl 48 rfl (by decide) (.tup [(eStr t28.1), (eI64 t28.2.1), (eBool t28.2.2)]) (Calm.move rfl rfl) ?_
                  refine AO.calm rfl 52 rfl (by decide) (eStr t28.1) (Calm.extract rfl rfl rfl) ?_
                  refine AO.calm rfl 53 rfl (by decide) (eI64 t28.2.1) (Calm.extract rfl rfl rfl) ?_
                  refine AO.calm rfl 54 rfl (by decide) (eBool t28.2.2) (Calm.extract rfl rfl rfl) ?_
                  refine AO.calm rfl 10 rfl (by decide) (eStr t28.1) (Calm.assign rfl rfl) ?_
                  refine AO.calm rfl 11 rfl (by decide) (eI64 t28.2.1) (Calm.assign rfl rfl) ?_
                  refine AO.calm rfl 12 rfl (by decide) (eBool t28.2.2) (Calm.assign rfl rfl) ?_
                  refine AO.nil (ρ' := [(0, (eStr p0)), (2, (.ptr n2 0)), (4, (eI64 x3)), (8, (.ptr n13 0)), (9, (eStr (p0.extract (t7.1.size : Int).toNat (p0.size : Int).toNat))), (10, (eStr t28.1)), (11, (eI64 t28.2.1)), (12, (eBool t28.2.2))]) (H' := [(n2, .mem (.st [(1, (eI64 (0 : Int))), (1, (eI64 (0 : Int))), (1, (eStr ByteArray.empty))])), (n13, .mem (e60 (S60.mk x3 (0 : Int) ByteArray.empty)))]) ⟨rfl, rfl, rfl, rfl, rfl, rfl, rfl, rfl, trivial⟩ (Sub.refl _) ?_
                  refine AW.seq ?_
                  refine AW.seq ?_
                  refine AW.reg ?_
                  refine AO.calm rfl 55 rfl (by decide) (eBool t28.2.2) (Calm.move rfl rfl) ?_
                  refine AO.calm rfl 56 rfl (by decide) (eBool (!t28.2.2)) (Calm.not rfl rfl) ?_
                  refine AO.nil (ρ' := [(0, (eStr p0)), (2, (.ptr n2 0)), (4, (eI64 x3)), (8, (.ptr n13 0)), (9, (eStr (p0.extract (t7.1.size : Int).toNat (p0.size : Int).toNat))), (10, (eStr t28.1)), (11, (eI64 t28.2.1)), (56, (eBool (!t28.2.2)))]) (H' := [(n2, .mem (.st [(1, (eI64 (0 : Int))), (1, (eI64 (0 : Int))), (1, (eStr ByteArray.empty))])), (n13, .mem (e60 (S60.mk x3 (0 : Int) ByteArray.empty)))]) ⟨rfl, rfl, rfl, rfl, rfl, rfl, rfl, rfl, trivial⟩ (Sub.refl _) ?_
                  by_cases hc29 : (!t28.2.2) = true
                  · have h := (if_pos hc29).symm.trans h
                    refine AW.condT' (!t28.2.2) rfl hc29 ?_
                    refine AW.exit (ρ' := [(0, (eStr p0)), (2, (.ptr n2 0)), (4, (eI64 x3))]) (H' := [(n2, .mem (.st [(1, (eI64 (0 : Int))), (1, (eI64 (0 : Int))), (1, (eStr ByteArray.empty))]))]) ⟨rfl, rfl, rfl, trivial⟩ (Sub.cons 0 rfl (Sub.nil _)) ?_
                    exact ⟨rfl, rfl, h⟩
                  · have h := (if_neg hc29).symm.trans h
                    refine AW.condF' (!t28.2.2) rfl hc29 ?_
                    refine AW.skip (ρ' := [(0, (eStr p0)), (2, (.ptr n2 0)), (4, (eI64 x3)), (8, (.ptr n13 0)), (9, (eStr (p0.extract (t7.1.size : Int).toNat (p0.size : Int).toNat))), (10, (eStr t28.1)), (11, (eI64 t28.2.1))]) (H' := [(n2, .mem (.st [(1, (eI64 (0 : Int))), (1, (eI64 (0 : Int))), (1, (eStr ByteArray.empty))])), (n13, .mem (e60 (S60.mk x3 (0 : Int) ByteArray.empty)))]) ⟨rfl, rfl, rfl, rfl, rfl, rfl, rfl, trivial⟩ (Sub.refl _) ?_
                    refine AW.seq ?_
                    refine AW.reg ?_
                    refine AO.calm rfl 57 rfl (by decide) (eStr t28.1) (Calm.move rfl rfl) ?_
                    refine AO.calm rfl 58 rfl (by decide) (.ptr n13 2) (Calm.fldPtr rfl rfl Try.underlying60 rfl sz9 _ rfl) ?_
                    refine AO.store (X' := (.st [(1, (eI64 x3)), (1, (eI64 (0 : Int))), (1, (eStr t28.1))])) 1 rfl rfl rfl rfl rfl rfl (Put.cast (Put.fldS (Put.fldS (Put.fld0 Put.here))) rfl) rfl rfl sz9 rfl ?_
                    refine AO.nil (ρ' := [(0, (eStr p0)), (2, (.ptr n2 0)), (4, (eI64 x3)), (8, (.ptr n13 0)), (9, (eStr (p0.extract (t7.1.size : Int).toNat (p0.size : Int).toNat))), (11, (eI64 t28.2.1))]) (H' := [(n2, .mem (.st [(1, (eI64 (0 : Int))), (1, (eI64 (0 : Int))), (1, (eStr ByteArray.empty))])), (n13, .mem (.st [(1, (eI64 x3)), (1, (eI64 (0 : Int))), (1, (eStr t28.1))]))]) ⟨rfl, rfl, rfl, rfl, rfl, rfl, trivial⟩ (Sub.refl _) ?_
                    refine AW.reg ?_
                    refine AO.calm rfl 59 rfl (by decide) (eStr (p0.extract (t7.1.size : Int).toNat (p0.size : Int).toNat)) (Calm.move rfl rfl) ?_
                    refine AO.calm rfl 60 rfl (by decide) (eI64 t28.2.1) (Calm.move rfl rfl) ?_
                    refine AO.calm rfl 61 rfl (by decide) (eI64 (w64 ((1 : Int) + t28.2.1))) (Calm.int rfl rfl rfl rfl) ?_
                    obtain ⟨hg30, h⟩ := of_guard h
                    refine AO.calm rfl 62 rfl (by decide) (eStr ((p0.extract (t7.1.size : Int).toNat (p0.size : Int).toNat).extract (w64 ((1 : Int) + t28.2.1)).toNat ((p0.extract (t7.1.size : Int).toNat (p0.size : Int).toNat).size : Int).toNat)) (Calm.sliceS rfl rfl rfl rfl hg30 Try.underlying9) ?_
                    obtain ⟨x31, ex31, h⟩ := of_bind h
                    refine AO.calm rfl 9 rfl (by decide) (eStr x31) (Calm.assign rfl (congrArg (fun x => some (eStr x)) (Option.some.inj ex31))) ?_
                    refine AO.nil (ρ' := [(0, (eStr p0)), (2, (.ptr n2 0)), (4, (eI64 x3)), (8, (.ptr n13 0)), (9, (eStr x31))]) (H' := [(n2, .mem (.st [(1, (eI64 (0 : Int))), (1, (eI64 (0 : Int))), (1, (eStr ByteArray.empty))])), (n13, .mem (.st [(1, (eI64 x3)), (1, (eI64 (0 : Int))), (1, (eStr t28.1))]))]) ⟨rfl, rfl, rfl, rfl, rfl, trivial⟩ (Sub.refl _) ?_
                    exact ⟨t28.1, x31, rfl, rfl, h⟩
                · have h := (if_neg hc26).symm.trans h
                  refine AW.condF' b23 rfl hc26 ?_
                  refine AW.skip (ρ' := [(0, (eStr p0)), (2, (.ptr n2 0)), (4, (eI64 x3)), (8, (.ptr n13 0)), (9, (eStr (p0.extract (t7.1.size : Int).toNat (p0.size : Int).toNat)))]) (H' := [(n2, .mem (.st [(1, (eI64 (0 : Int))), (1, (eI64 (0 : Int))), (1, (eStr ByteArray.empty))])), (n13, .mem (e60 (S60.mk x3 (0 : Int) ByteArray.empty)))]) ⟨rfl, rfl, rfl, rfl, rfl, trivial⟩ (Sub.refl _) ?_
                  exact ⟨ByteArray.empty, (p0.extract (t7.1.size : Int).toNat (p0.size : Int).toNat), rfl, rfl, h⟩
            · rintro _ _ ⟨x15, x16, rfl, rfl, h⟩
              rw [bosketref47_Read_c3.eq_1] at h
              refine AW.seq_mid (fun ρ H => ∃ (x17 : Int), ρ = [(0, (eStr p0)), (2, (.ptr n2 0)), (4, (eI64 x3)), (8, (.ptr n13 0))] ∧ H = [(n2, .mem (.st [(1, (eI64 (0 : Int))), (1, (eI64 (0 : Int))), (1, (eStr ByteArray.empty))])), (n13, .mem (.st [(1, (eI64 x3)), (1, (eI64 x17)), (1, (eStr x15))]))] ∧ bosketref47_Read_c2 k rec4 p0 x3 x15 x17 = some r) ?_ ?_
              · refine AW.seq ?_
                refine AW.reg ?_
                refine AO.calm rfl 63 rfl (by decide) (eStr x16) (Calm.move rfl rfl) ?_
                refine AO.calm rfl 64 rfl (by decide) (eI64 (x16.size : Int)) (Calm.lenStr rfl rfl Try.underlying9) ?_
                refine AO.calm rfl 65 rfl (by decide) (eBool (decide ((0 : Int) < (x16.size : Int)))) (Calm.int rfl rfl rfl rfl) ?_
                refine AO.nil (ρ' := [(0, (eStr p0)), (2, (.ptr n2 0)), (4, (eI64 x3)), (8, (.ptr n13 0)), (9, (eStr x16)), (65, (eBool (decide ((0 : Int) < (x16.size : Int)))))]) (H' := [(n2, .mem (.st [(1, (eI64 (0 : Int))), (1, (eI64 (0 : Int))), (1, (eStr ByteArray.empty))])), (n13, .mem (.st [(1, (eI64 x3)), (1, (eI64 (0 : Int))), (1, (eStr x15))]))]) ⟨rfl, rfl, rfl, rfl, rfl, rfl, trivial⟩ (Sub.refl _) ?_
                by_cases hc20 : (0 : Int) < (x16.size : Int)
                · have h := (if_pos hc20).symm.trans h
                  refine AW.condP ((0 : Int) < (x16.size : Int)) rfl hc20 ?_
                  refine AW.reg ?_
                  refine AO.calm rfl 67 rfl (by decide) (eStr x16) (Calm.move rfl rfl) ?_
                  obtain ⟨hg21, h⟩ := of_guard h
                  refine AO.calm rfl 68 rfl (by decide) (eStr (x16.extract (1 : Int).toNat (x16.size : Int).toNat)) (Calm.sliceS rfl rfl rfl rfl hg21 Try.underlying9) ?_
                  obtain ⟨t22, et22, h⟩ := of_bind h
                  refine AO.callS [(eStr (x16.extract (1 : Int).toNat (x16.size : Int).toNat))] (.tup [(eI64 t22.1), (eBool t22.2)]) 69 rfl (by decide) ok17 rfl rfl rfl ⟨rfl, rfl, trivial⟩ (bosketref13_Number_spec et22) ?_
                  refine AO.calm rfl 66 rfl (by decide) (.tup [(eI64 t22.1), (eBool t22.2)]) (Calm.move rfl rfl) ?_
                  refine AO.calm rfl 70 rfl (by decide) (eI64 t22.1) (Calm.extract rfl rfl rfl) ?_
                  refine AO.calm rfl 71 rfl (by decide) (eBool t22.2) (Calm.extract rfl rfl rfl) ?_
                  refine AO.calm rfl 72 rfl (by decide) (.ptr n13 1) (Calm.fldPtr rfl rfl Try.underlying60 rfl sz3 _ rfl) ?_
                  refine AO.store (X' := (.st [(1, (eI64 x3)), (1, (eI64 t22.1)), (1, (eStr x15))])) 1 rfl rfl rfl rfl rfl rfl (Put.cast (Put.fldS (Put.fld0 Put.here)) rfl) rfl rfl sz3 rfl ?_
                  refine AO.nil (ρ' := [(0, (eStr p0)), (2, (.ptr n2 0)), (4, (eI64 x3)), (8, (.ptr n13 0))]) (H' := [(n2, .mem (.st [(1, (eI64 (0 : Int))), (1, (eI64 (0 : Int))), (1, (eStr ByteArray.empty))])), (n13, .mem (.st [(1, (eI64 x3)), (1, (eI64 t22.1)), (1, (eStr x15))]))]) ⟨rfl, rfl, rfl, rfl, trivial⟩ (Sub.refl _) ?_
                  exact ⟨t22.1, rfl, rfl, h⟩
                · have h := (if_neg hc20).symm.trans h
                  refine AW.condN ((0 : Int) < (x16.size : Int)) rfl hc20 ?_
                  refine AW.skip (ρ' := [(0, (eStr p0)), (2, (.ptr n2 0)), (4, (eI64 x3)), (8, (.ptr n13 0))]) (H' := [(n2, .mem (.st [(1, (eI64 (0 : Int))), (1, (eI64 (0 : Int))), (1, (eStr ByteArray.empty))])), (n13, .mem (.st [(1, (eI64 x3)), (1, (eI64 (0 : Int))), (1, (eStr x15))]))]) ⟨rfl, rfl, rfl, rfl, trivial⟩ (Sub.refl _) ?_
                  exact ⟨(0 : Int), rfl, rfl, h⟩
              · rintro _ _ ⟨x17, rfl, rfl, h⟩
                rw [bosketref47_Read_c2.eq_1] at h
                refine AW.seq ?_
                refine AW.reg ?_
                refine AO.calm rfl 73 rfl (by decide) (e60 (S60.mk x3 x17 x15)) (Calm.load 1 rfl rfl rfl (At.cast At.here rfl) ag60 sz60) ?_
                obtain ⟨t18, et18, h⟩ := of_bind h
                refine AO.callS [(e60 (S60.mk x3 x17 x15))] (eStr t18) 74 rfl (by decide) ok46 rfl rfl rfl ⟨rfl, rfl, trivial⟩ (bosketref47_Line_spec et18) ?_
                refine AO.calm rfl 75 rfl (by decide) (eStr p0) (Calm.move rfl rfl) ?_
                refine AO.calm rfl 76 rfl (by decide) (eBool (decide (t18 = p0))) (Calm.str rfl rfl rfl rfl) ?_
                refine AO.nil (ρ' := [(0, (eStr p0)), (2, (.ptr n2 0)), (4, (eI64 x3)), (8, (.ptr n13 0)), (76, (eBool (decide (t18 = p0))))]) (H' := [(n2, .mem (.st [(1, (eI64 (0 : Int))), (1, (eI64 (0 : Int))), (1, (eStr ByteArray.empty))])), (n13, .mem (.st [(1, (eI64 x3)), (1, (eI64 x17)), (1, (eStr x15))]))]) ⟨rfl, rfl, rfl, rfl, rfl, trivial⟩ (Sub.refl _) ?_
                by_cases hc19 : t18 = p0
                · have h := (if_pos hc19).symm.trans h
                  refine AW.condP (t18 = p0) rfl hc19 ?_
                  refine AW.seq ?_
                  refine AW.reg ?_
                  refine AO.calm rfl 77 rfl (by decide) (e60 (S60.mk x3 x17 x15)) (Calm.load 1 rfl rfl rfl (At.cast At.here rfl) ag60 sz60) ?_
                  refine AO.store (X' := (e60 (S60.mk x3 x17 x15))) 0 rfl rfl rfl rfl rfl rfl (Put.cast Put.here rfl) rfl rfl sz60 rfl ?_
                  refine AO.calm rfl 3 rfl (by decide) (eBool true) (Calm.assign rfl rfl) ?_
                  refine AO.nil (ρ' := [(2, (.ptr n2 0)), (3, (eBool true))]) (H' := [(n2, .mem (e60 (S60.mk x3 x17 x15)))]) ⟨rfl, rfl, trivial⟩ (Sub.cons 0 rfl (Sub.nil _)) ?_
                  refine AW.ret (ρ' := [(2, (.ptr n2 0)), (3, (eBool true))]) (H' := [(n2, .mem (e60 (S60.mk x3 x17 x15)))]) ⟨rfl, rfl, trivial⟩ (Sub.refl _) ?_
                  have hr := Option.some.inj h
                  subst hr
                  exact ⟨[(e60 (S60.mk x3 x17 x15)), (eBool true)], ⟨⟨_, 0, rfl, rfl, ag60, sz60⟩, rfl, rfl, trivial⟩, rfl⟩
                · have h := (if_neg hc19).symm.trans h
                  refine AW.condN (t18 = p0) rfl hc19 ?_
                  refine AW.skip (ρ' := [(0, (eStr p0)), (2, (.ptr n2 0)), (4, (eI64 x3))]) (H' := [(n2, .mem (.st [(1, (eI64 (0 : Int))), (1, (eI64 (0 : Int))), (1, (eStr ByteArray.empty))]))]) ⟨rfl, rfl, rfl, trivial⟩ (Sub.cons 0 rfl (Sub.nil _)) ?_
                  exact ⟨rfl, rfl, h⟩
      · rintro _ _ ⟨rfl, rfl, h⟩
        rw [bosketref47_Read_c1.eq_1] at h
        refine AW.reg ?_
        refine AO.calm rfl 15 rfl (by decide) (eI64 x3) (Calm.move rfl rfl) ?_
        refine AO.calm rfl 16 rfl (by decide) (eI64 (w64 (x3 + (1 : Int)))) (Calm.int rfl rfl rfl rfl) ?_
        refine AO.calm rfl 4 rfl (by decide) (eI64 (w64 (x3 + (1 : Int)))) (Calm.assign rfl rfl) ?_
        refine AO.nil (ρ' := [(0, (eStr p0)), (2, (.ptr n2 0)), (4, (eI64 (w64 (x3 + (1 : Int)))))]) (H' := [(n2, .mem (.st [(1, (eI64 (0 : Int))), (1, (eI64 (0 : Int))), (1, (eStr ByteArray.empty))]))]) ⟨rfl, rfl, rfl, trivial⟩ (Sub.refl _) ?_
        exact ⟨kq5, Nat.lt_succ_self _, (w64 (x3 + (1 : Int))), rfl, rfl, by rw [hrec4]; exact h⟩
    · have h := (if_neg hc6).symm.trans h
      refine AW.condN (x3 ≤ (11 : Int)) rfl hc6 ?_
      refine AW.exit (ρ' := [(2, (.ptr n2 0))]) (H' := [(n2, .mem (.st [(1, (eI64 (0 : Int))), (1, (eI64 (0 : Int))), (1, (eStr ByteArray.empty))]))]) ⟨rfl, trivial⟩ (Sub.refl _) ?_
      exact ⟨rfl, rfl, h⟩
  · rintro _ _ ⟨rfl, rfl, h⟩
    rw [bosketref47_Read_c0.eq_1] at h
    refine AW.seq ?_
    refine AW.reg ?_
    refine AO.calm rfl 78 rfl (by decide) (.st [(1, (eI64 (0 : Int))), (1, (eI64 (0 : Int))), (1, (eStr ByteArray.empty))]) (Calm.build (qs := []) rfl trivial Try.underlying60 rfl zr60 lay60 .nil rfl) ?_
    refine AO.store (X' := (e60 (S60.mk (0 : Int) (0 : Int) ByteArray.empty))) 0 rfl rfl rfl rfl rfl rfl (Put.cast Put.here rfl) rfl rfl sz60 rfl ?_
    refine AO.calm rfl 3 rfl (by decide) (eBool false) (Calm.assign rfl rfl) ?_
    refine AO.nil (ρ' := [(2, (.ptr n2 0)), (3, (eBool false))]) (H' := [(n2, .mem (e60 (S60.mk (0 : Int) (0 : Int) ByteArray.empty)))]) ⟨rfl, rfl, trivial⟩ (Sub.refl _) ?_
    refine AW.ret (ρ' := [(2, (.ptr n2 0)), (3, (eBool false))]) (H' := [(n2, .mem (e60 (S60.mk (0 : Int) (0 : Int) ByteArray.empty)))]) ⟨rfl, rfl, trivial⟩ (Sub.refl _) ?_
    have hr := Option.some.inj h
    subst hr
    exact ⟨[(e60 (S60.mk (0 : Int) (0 : Int) ByteArray.empty)), (eBool false)], ⟨⟨_, 0, rfl, rfl, ag60, sz60⟩, rfl, rfl, trivial⟩, rfl⟩
end Go.Avl.T2
/- bosket/bosketlaw47.OpReads; printed by avmain.py. -/
namespace Go.Avl.T2
open Go Go.RowKit Go.Proofs Go.Avl
set_option linter.unusedVariables false
set_option maxRecDepth 100000
set_option maxHeartbeats 4000000
attribute [local irreducible] AW AO AQ Spec SpecH Calm

def bosketlaw47_OpReads_c0 (k : Nat) (p1 : ByteArray) (x20 : Int) : Option Bool :=
  (op_Kind k p1).bind fun t21 =>
  some (decide (t21 = x20))
def bosketlaw47_OpReads_c1 (k : Nat) (rec24 : (Int → Int → Option Bool)) (x23 : Int) (x27 : Int) : Option Bool :=
  rec24 x27 (w64 (x23 + (1 : Int)))
def bosketlaw47_OpReads_l2 (k : Nat) (p1 : ByteArray) : Nat → Int → Int → Option Bool
  | 0, _, _ => none
  | j + 1, x22, x23 =>
    if x23 ≤ (11 : Int) then (bosketref47_Form k x23).bind fun t28 =>
    if t28.1 = p1 then bosketlaw47_OpReads_c1 k (bosketlaw47_OpReads_l2 k p1 j) x23 x23
    else bosketlaw47_OpReads_c1 k (bosketlaw47_OpReads_l2 k p1 j) x23 x22
    else bosketlaw47_OpReads_c0 k p1 x22
def bosketlaw47_OpReads (k : Nat) (p0 : ByteArray) (p1 : ByteArray) : Option Bool :=
  (bosketlaw47_awake k).bind fun t3 =>
  if (!t3) = true then some (false)
  else Option.bind (α := Bool) (if (600 : Int) < (p0.size : Int) then some (true)
  else some (decide ((600 : Int) < (p1.size : Int)))) fun b5 =>
  if b5 = true then some (true)
  else (op_Read k p0).bind fun t9 =>
  (bosketref47_Read k p0).bind fun t11 =>
  Option.bind (α := Bool) ((bosketlaw47_Ref k t9.1).bind fun t15 =>
  if (!(decide (t15 = t11.1))) = true then some (true)
  else if ((decide (t9.2 = (0 : Int))) != t11.2) = true then some (true)
  else if (!t11.2) = true then some (decide (t9.2 ≠ (24 : Int)))
  else some (false)) fun b13 =>
  if b13 = true then some (false)
  else bosketlaw47_OpReads_l2 k p1 k (0 : Int) (1 : Int)
theorem bosketlaw47_OpReads_spec {k : Nat} {p0 : ByteArray} {p1 : ByteArray} {r : Bool} (h : bosketlaw47_OpReads k p0 p1 = some r) : Spec Try.prog 9 [(eStr p0), (eStr p1)] (eBool r) := by
  rw [bosketlaw47_OpReads.eq_1] at h
  refine Spec.intro (res := [.tmp 4]) Try.func9 rfl rfl rfl (Nat.le_of_ble_eq_true rfl) ?_
  refine AW.seq ?_
  refine AW.reg ?_
  refine AO.calm rfl 4 rfl (by decide) (eBool false) (Calm.assign rfl rfl) ?_
  refine AO.nil (ρ' := [(0, (eStr p0)), (1, (eStr p1))]) (H' := []) ⟨rfl, rfl, trivial⟩ (Sub.refl _) ?_
  refine AW.seq ?_
  refine AW.seq ?_
  refine AW.reg ?_
  obtain ⟨t3, et3, h⟩ := of_bind h
  refine AO.callS [] (eBool t3) 14 rfl (by decide) ok39 rfl rfl rfl trivial (bosketlaw47_awake_spec et3) ?_
  refine AO.calm rfl 15 rfl (by decide) (eBool (!t3)) (Calm.not rfl rfl) ?_
  refine AO.nil (ρ' := [(0, (eStr p0)), (1, (eStr p1)), (15, (eBool (!t3)))]) (H' := []) ⟨rfl, rfl, rfl, trivial⟩ (Sub.refl _) ?_
  by_cases hc4 : (!t3) = true
  · have h := (if_pos hc4).symm.trans h
    refine AW.condT' (!t3) rfl hc4 ?_
    refine AW.seq ?_
    refine AW.reg ?_
    refine AO.calm rfl 4 rfl (by decide) (eBool false) (Calm.assign rfl rfl) ?_
    refine AO.nil (ρ' := [(4, (eBool false))]) (H' := []) ⟨rfl, trivial⟩ (Sub.refl _) ?_
    refine AW.ret (ρ' := [(4, (eBool false))]) (H' := []) ⟨rfl, trivial⟩ (Sub.refl _) ?_
    have hr := Option.some.inj h
    subst hr
    exact ⟨[(eBool false)], ⟨rfl, rfl, trivial⟩, rfl⟩
  · have h := (if_neg hc4).symm.trans h
    refine AW.condF' (!t3) rfl hc4 ?_
    refine AW.skip (ρ' := [(0, (eStr p0)), (1, (eStr p1))]) (H' := []) ⟨rfl, rfl, trivial⟩ (Sub.refl _) ?_
    refine AW.seq ?_
    refine AW.seq ?_
    obtain ⟨b5, hq6, h⟩ := of_bind h
    refine AW.regM [(0, (eStr p0)), (1, (eStr p1)), (23, (eBool b5))] [] ?_ ?_
    · refine AO.calm rfl 16 rfl (by decide) (eStr p0) (Calm.move rfl rfl) ?_
      refine AO.calm rfl 17 rfl (by decide) (eI64 (p0.size : Int)) (Calm.lenStr rfl rfl Try.underlying9) ?_
      refine AO.calm rfl 18 rfl (by decide) (eBool (decide ((600 : Int) < (p0.size : Int)))) (Calm.int rfl rfl rfl rfl) ?_
      refine AO.calm rfl 19 rfl (by decide) (eBool (decide ((600 : Int) < (p0.size : Int)))) (Calm.move rfl rfl) ?_
      by_cases hc7 : (600 : Int) < (p0.size : Int)
      · have hq6 := (if_pos hc7).symm.trans hq6
        refine AO.skipG 3 true 19 rfl rfl (congrArg (fun b => some (AV.fl (Value.bool b))) (decide_eq_true hc7)) 20 rfl (by decide) ?_
        refine AO.skipG 3 true 19 rfl rfl (congrArg (fun b => some (AV.fl (Value.bool b))) (decide_eq_true hc7)) 21 rfl (by decide) ?_
        refine AO.skipG 3 true 19 rfl rfl (congrArg (fun b => some (AV.fl (Value.bool b))) (decide_eq_true hc7)) 22 rfl (by decide) ?_
        refine AO.calm rfl 23 rfl (by decide) (eBool true) (Calm.pickT rfl (congrArg (fun b => some (AV.fl (Value.bool b))) (decide_eq_true hc7)) rfl) ?_
        cases hq6
        refine AO.nilE ⟨rfl, rfl⟩ ?_ ?_
        · exact ⟨rfl, rfl, rfl, trivial⟩
        · exact (Sub.refl _)
      · have hq6 := (if_neg hc7).symm.trans hq6
        refine AO.calmG 3 false 19 rfl rfl (congrArg (fun b => some (AV.fl (Value.bool b))) (decide_eq_false hc7)) 20 rfl (by decide) (eStr p1) (Calm.move rfl rfl) ?_
        refine AO.calmG 3 false 19 rfl rfl (congrArg (fun b => some (AV.fl (Value.bool b))) (decide_eq_false hc7)) 21 rfl (by decide) (eI64 (p1.size : Int)) (Calm.lenStr rfl rfl Try.underlying9) ?_
        refine AO.calmG 3 false 19 rfl rfl (congrArg (fun b => some (AV.fl (Value.bool b))) (decide_eq_false hc7)) 22 rfl (by decide) (eBool (decide ((600 : Int) < (p1.size : Int)))) (Calm.int rfl rfl rfl rfl) ?_
        refine AO.calm rfl 23 rfl (by decide) (eBool (decide ((600 : Int) < (p1.size : Int)))) (Calm.pickF rfl (congrArg (fun b => some (AV.fl (Value.bool b))) (decide_eq_false hc7)) rfl) ?_
        cases hq6
        refine AO.nilE ⟨rfl, rfl⟩ ?_ ?_
        · exact ⟨rfl, rfl, rfl, trivial⟩
        · exact (Sub.refl _)
    · by_cases hc8 : b5 = true
      · have h := (if_pos hc8).symm.trans h
        refine AW.condT' b5 rfl hc8 ?_
        refine AW.seq ?_
        refine AW.reg ?_
        refine AO.calm rfl 4 rfl (by decide) (eBool true) (Calm.assign rfl rfl) ?_
        refine AO.nil (ρ' := [(4, (eBool true))]) (H' := []) ⟨rfl, trivial⟩ (Sub.refl _) ?_
        refine AW.ret (ρ' := [(4, (eBool true))]) (H' := []) ⟨rfl, trivial⟩ (Sub.refl _) ?_
        have hr := Option.some.inj h
        subst hr
        exact ⟨[(eBool true)], ⟨rfl, rfl, trivial⟩, rfl⟩
      · have h := (if_neg hc8).symm.trans h
        refine AW.condF' b5 rfl hc8 ?_
        refine AW.skip (ρ' := [(0, (eStr p0)), (1, (eStr p1))]) (H' := []) ⟨rfl, rfl, trivial⟩ (Sub.refl _) ?_
        refine AW.seq ?_
        refine AW.reg ?_
        refine AO.calm rfl 25 rfl (by decide) (eStr p0) (Calm.move rfl rfl) ?_
        obtain ⟨t9, et9, h⟩ := of_bind h
        refine AO.callS [(eStr p0)] (.tup [(e55 t9.1), (eI64 t9.2)]) 26 rfl (by decide) ok47 rfl rfl rfl ⟨rfl, rfl, trivial⟩ (op_Read_spec et9) ?_
        refine AO.calm rfl 24 rfl (by decide) (.tup [(e55 t9.1), (eI64 t9.2)]) (Calm.move rfl rfl) ?_
        refine AO.calm rfl 27 rfl (by decide) (e55 t9.1) (Calm.extract rfl rfl rfl) ?_
        refine AO.calm rfl 28 rfl (by decide) (eI64 t9.2) (Calm.extract rfl rfl rfl) ?_
        refine AO.alloc rfl 5 rfl (by decide) rfl zr55 lay55 fun n10 => ?_
        refine AO.store (X' := (e55 t9.1)) 0 rfl rfl rfl rfl rfl rfl (Put.cast Put.here rfl) rfl rfl sz55 rfl ?_
        refine AO.calm rfl 6 rfl (by decide) (eI64 t9.2) (Calm.assign rfl rfl) ?_
        refine AO.nil (ρ' := [(0, (eStr p0)), (1, (eStr p1)), (5, (.ptr n10 0)), (6, (eI64 t9.2))]) (H' := [(n10, .mem (e55 t9.1))]) ⟨rfl, rfl, rfl, rfl, trivial⟩ (Sub.refl _) ?_
        refine AW.seq ?_
        refine AW.reg ?_
        refine AO.calm rfl 30 rfl (by decide) (eStr p0) (Calm.move rfl rfl) ?_
        obtain ⟨t11, et11, h⟩ := of_bind h
        refine AO.callS [(eStr p0)] (.tup [(e60 t11.1), (eBool t11.2)]) 31 rfl (by decide) ok49 rfl rfl rfl ⟨rfl, rfl, trivial⟩ (bosketref47_Read_spec et11) ?_
        refine AO.calm rfl 29 rfl (by decide) (.tup [(e60 t11.1), (eBool t11.2)]) (Calm.move rfl rfl) ?_
        refine AO.calm rfl 32 rfl (by decide) (e60 t11.1) (Calm.extract rfl rfl rfl) ?_
        refine AO.calm rfl 33 rfl (by decide) (eBool t11.2) (Calm.extract rfl rfl rfl) ?_
        refine AO.alloc rfl 7 rfl (by decide) rfl zr60 lay60 fun n12 => ?_
        refine AO.store (X' := (e60 t11.1)) 0 rfl rfl rfl rfl rfl rfl (Put.cast Put.here rfl) rfl rfl sz60 rfl ?_
        refine AO.calm rfl 8 rfl (by decide) (eBool t11.2) (Calm.assign rfl rfl) ?_
        refine AO.nil (ρ' := [(1, (eStr p1)), (5, (.ptr n10 0)), (6, (eI64 t9.2)), (7, (.ptr n12 0)), (8, (eBool t11.2))]) (H' := [(n10, .mem (e55 t9.1)), (n12, .mem (e60 t11.1))]) ⟨rfl, rfl, rfl, rfl, rfl, trivial⟩ (Sub.cons 1 rfl (Sub.cons 0 rfl (Sub.nil _))) ?_
        refine AW.seq ?_
        refine AW.seq ?_
        obtain ⟨b13, hq14, h⟩ := of_bind h
        refine AW.toM [(1, (eStr p1)), (51, (eBool b13))] [] ?_ ?_
        · obtain ⟨t15, et15, hq14⟩ := of_bind hq14
          by_cases hc16 : (!(decide (t15 = t11.1))) = true
          · have hq14 := (if_pos hc16).symm.trans hq14
            refine AW.regAny (by rfl) (by decide +kernel) [(e55 t9.1), (e60 t15), (e60 t11.1), (eBool (!(decide (t15 = t11.1)))), (eBool (!(decide (t15 = t11.1)))), (.fl undef), (.fl undef), (.fl undef), (.fl undef), (eBool true), (eBool true), (.fl undef), (.fl undef), (.fl undef), (.fl undef), (.fl undef), (.fl undef), (eBool true)] [(1, (eStr p1)), (5, (.ptr n10 0)), (6, (eI64 t9.2)), (7, (.ptr n12 0)), (8, (eBool t11.2))] ⟨rfl, rfl, rfl, rfl, rfl, trivial⟩ rfl ?_ [(1, (eStr p1)), (51, (eBool true))] [] ⟨rfl, rfl, trivial⟩ (Sub.nil _) ?_
            · refine ⟨?_, ?_, ?_, ?_, ?_, ?_, ?_, ?_, ?_, ?_, ?_, ?_, ?_, ?_, ?_, ?_, ?_, ?_, trivial⟩
              · refine AO.weak (ρ' := [(5, (.ptr n10 0))]) (H' := [(n10, .mem (e55 t9.1)), (n12, .mem (e60 t11.1))]) ⟨rfl, trivial⟩ (Sub.refl _) ?_
                refine AO.calm rfl 34 rfl (by decide) (e55 t9.1) (Calm.load 0 rfl rfl rfl (At.cast At.here rfl) ag55 sz55) ?_
                exact AO.nilE (ρ' := [(34, (e55 t9.1))]) (H' := [(n10, .mem (e55 t9.1)), (n12, .mem (e60 t11.1))]) ⟨⟨_, rfl, rfl⟩, Sub.refl _⟩ ⟨rfl, trivial⟩ (Sub.refl _)
              · refine AO.weak (ρ' := [(34, (e55 t9.1))]) (H' := [(n10, .mem (e55 t9.1)), (n12, .mem (e60 t11.1))]) ⟨rfl, trivial⟩ (Sub.refl _) ?_
                refine AO.callS [(e55 t9.1)] (e60 t15) 35 rfl (by decide) ok45 rfl rfl rfl ⟨rfl, rfl, trivial⟩ (bosketlaw47_Ref_spec et15) ?_
                exact AO.nilE (ρ' := [(35, (e60 t15))]) (H' := [(n10, .mem (e55 t9.1)), (n12, .mem (e60 t11.1))]) ⟨⟨_, rfl, rfl⟩, Sub.refl _⟩ ⟨rfl, trivial⟩ (Sub.refl _)
              · refine AO.weak (ρ' := [(7, (.ptr n12 0))]) (H' := [(n10, .mem (e55 t9.1)), (n12, .mem (e60 t11.1))]) ⟨rfl, trivial⟩ (Sub.refl _) ?_
                refine AO.calm rfl 36 rfl (by decide) (e60 t11.1) (Calm.load 1 rfl rfl rfl (At.cast At.here rfl) ag60 sz60) ?_
                exact AO.nilE (ρ' := [(36, (e60 t11.1))]) (H' := [(n10, .mem (e55 t9.1)), (n12, .mem (e60 t11.1))]) ⟨⟨_, rfl, rfl⟩, Sub.refl _⟩ ⟨rfl, trivial⟩ (Sub.refl _)
              · refine AO.weak (ρ' := [(35, (e60 t15)), (36, (e60 t11.1))]) (H' := [(n10, .mem (e55 t9.1)), (n12, .mem (e60 t11.1))]) ⟨rfl, rfl, trivial⟩ (Sub.refl _) ?_
                refine AO.calm rfl 37 rfl (by decide) (eBool (!(decide (t15 = t11.1)))) (Calm.neS rfl rfl rfl eg60 (eqk60 t15 t11.1) (by decide)) ?_
                exact AO.nilE (ρ' := [(37, (eBool (!(decide (t15 = t11.1)))))]) (H' := [(n10, .mem (e55 t9.1)), (n12, .mem (e60 t11.1))]) ⟨⟨_, rfl, rfl⟩, Sub.refl _⟩ ⟨rfl, trivial⟩ (Sub.refl _)
              · refine AO.weak (ρ' := [(37, (eBool (!(decide (t15 = t11.1)))))]) (H' := [(n10, .mem (e55 t9.1)), (n12, .mem (e60 t11.1))]) ⟨rfl, trivial⟩ (Sub.refl _) ?_
                refine AO.calm rfl 38 rfl (by decide) (eBool (!(decide (t15 = t11.1)))) (Calm.move rfl rfl) ?_
                exact AO.nilE (ρ' := [(38, (eBool (!(decide (t15 = t11.1)))))]) (H' := [(n10, .mem (e55 t9.1)), (n12, .mem (e60 t11.1))]) ⟨⟨_, rfl, rfl⟩, Sub.refl _⟩ ⟨rfl, trivial⟩ (Sub.refl _)
              · refine AO.weak (ρ' := [(38, (eBool (!(decide (t15 = t11.1)))))]) (H' := [(n10, .mem (e55 t9.1)), (n12, .mem (e60 t11.1))]) ⟨rfl, trivial⟩ (Sub.refl _) ?_
                refine AO.skipG 4 true 38 rfl rfl (congrArg (fun b => some (AV.fl (Value.bool b))) hc16) 39 rfl (by decide) ?_
                exact AO.nilE (ρ' := [(39, (.fl undef))]) (H' := [(n10, .mem (e55 t9.1)), (n12, .mem (e60 t11.1))]) ⟨⟨_, rfl, rfl⟩, Sub.refl _⟩ ⟨rfl, trivial⟩ (Sub.refl _)
              · refine AO.weak (ρ' := [(38, (eBool (!(decide (t15 = t11.1)))))]) (H' := [(n10, .mem (e55 t9.1)), (n12, .mem (e60 t11.1))]) ⟨rfl, trivial⟩ (Sub.refl _) ?_
                refine AO.skipG 4 true 38 rfl rfl (congrArg (fun b => some (AV.fl (Value.bool b))) hc16) 40 rfl (by decide) ?_
                exact AO.nilE (ρ' := [(40, (.fl undef))]) (H' := [(n10, .mem (e55 t9.1)), (n12, .mem (e60 t11.1))]) ⟨⟨_, rfl, rfl⟩, Sub.refl _⟩ ⟨rfl, trivial⟩ (Sub.refl _)
              · refine AO.weak (ρ' := [(38, (eBool (!(decide (t15 = t11.1)))))]) (H' := [(n10, .mem (e55 t9.1)), (n12, .mem (e60 t11.1))]) ⟨rfl, trivial⟩ (Sub.refl _) ?_
                refine AO.skipG 4 true 38 rfl rfl (congrArg (fun b => some (AV.fl (Value.bool b))) hc16) 41 rfl (by decide) ?_
                exact AO.nilE (ρ' := [(41, (.fl undef))]) (H' := [(n10, .mem (e55 t9.1)), (n12, .mem (e60 t11.1))]) ⟨⟨_, rfl, rfl⟩, Sub.refl _⟩ ⟨rfl, trivial⟩ (Sub.refl _)
              · refine AO.weak (ρ' := [(38, (eBool (!(decide (t15 = t11.1)))))]) (H' := [(n10, .mem (e55 t9.1)), (n12, .mem (e60 t11.1))]) ⟨rfl, trivial⟩ (Sub.refl _) ?_
                refine AO.skipG 4 true 38 rfl rfl (congrArg (fun b => some (AV.fl (Value.bool b))) hc16) 42 rfl (by decide) ?_
                exact AO.nilE (ρ' := [(42, (.fl undef))]) (H' := [(n10, .mem (e55 t9.1)), (n12, .mem (e60 t11.1))]) ⟨⟨_, rfl, rfl⟩, Sub.refl _⟩ ⟨rfl, trivial⟩ (Sub.refl _)
              · refine AO.weak (ρ' := [(38, (eBool (!(decide (t15 = t11.1))))), (42, (.fl undef))]) (H' := [(n10, .mem (e55 t9.1)), (n12, .mem (e60 t11.1))]) ⟨rfl, rfl, trivial⟩ (Sub.refl _) ?_
                refine AO.calm rfl 43 rfl (by decide) (eBool true) (Calm.pickT rfl (congrArg (fun b => some (AV.fl (Value.bool b))) hc16) rfl) ?_
                exact AO.nilE (ρ' := [(43, (eBool true))]) (H' := [(n10, .mem (e55 t9.1)), (n12, .mem (e60 t11.1))]) ⟨⟨_, rfl, rfl⟩, Sub.refl _⟩ ⟨rfl, trivial⟩ (Sub.refl _)
              · refine AO.weak (ρ' := [(43, (eBool true))]) (H' := [(n10, .mem (e55 t9.1)), (n12, .mem (e60 t11.1))]) ⟨rfl, trivial⟩ (Sub.refl _) ?_
                refine AO.calm rfl 44 rfl (by decide) (eBool true) (Calm.move rfl rfl) ?_
                exact AO.nilE (ρ' := [(44, (eBool true))]) (H' := [(n10, .mem (e55 t9.1)), (n12, .mem (e60 t11.1))]) ⟨⟨_, rfl, rfl⟩, Sub.refl _⟩ ⟨rfl, trivial⟩ (Sub.refl _)
              · refine AO.weak (ρ' := [(44, (eBool true))]) (H' := [(n10, .mem (e55 t9.1)), (n12, .mem (e60 t11.1))]) ⟨rfl, trivial⟩ (Sub.refl _) ?_
                refine AO.skipG 10 true 44 rfl rfl rfl 45 rfl (by decide) ?_
                exact AO.nilE (ρ' := [(45, (.fl undef))]) (H' := [(n10, .mem (e55 t9.1)), (n12, .mem (e60 t11.1))]) ⟨⟨_, rfl, rfl⟩, Sub.refl _⟩ ⟨rfl, trivial⟩ (Sub.refl _)
              · refine AO.weak (ρ' := [(44, (eBool true))]) (H' := [(n10, .mem (e55 t9.1)), (n12, .mem (e60 t11.1))]) ⟨rfl, trivial⟩ (Sub.refl _) ?_
                refine AO.skipG 10 true 44 rfl rfl rfl 46 rfl (by decide) ?_
                exact AO.nilE (ρ' := [(46, (.fl undef))]) (H' := [(n10, .mem (e55 t9.1)), (n12, .mem (e60 t11.1))]) ⟨⟨_, rfl, rfl⟩, Sub.refl _⟩ ⟨rfl, trivial⟩ (Sub.refl _)
              · refine AO.weak (ρ' := [(44, (eBool true))]) (H' := [(n10, .mem (e55 t9.1)), (n12, .mem (e60 t11.1))]) ⟨rfl, trivial⟩ (Sub.refl _) ?_
                refine AO.skipG 10 true 44 rfl rfl rfl 47 rfl (by decide) ?_
                exact AO.nilE (ρ' := [(47, (.fl undef))]) (H' := [(n10, .mem (e55 t9.1)), (n12, .mem (e60 t11.1))]) ⟨⟨_, rfl, rfl⟩, Sub.refl _⟩ ⟨rfl, trivial⟩ (Sub.refl _)
              · refine AO.weak (ρ' := [(47, (.fl undef))]) (H' := [(n10, .mem (e55 t9.1)), (n12, .mem (e60 t11.1))]) ⟨rfl, trivial⟩ (Sub.refl _) ?_
                refine AO.skipU 13 true 47 rfl rfl rfl 48 rfl (by decide) ?_
                exact AO.nilE (ρ' := [(48, (.fl undef))]) (H' := [(n10, .mem (e55 t9.1)), (n12, .mem (e60 t11.1))]) ⟨⟨_, rfl, rfl⟩, Sub.refl _⟩ ⟨rfl, trivial⟩ (Sub.refl _)
              · refine AO.weak (ρ' := [(47, (.fl undef))]) (H' := [(n10, .mem (e55 t9.1)), (n12, .mem (e60 t11.1))]) ⟨rfl, trivial⟩ (Sub.refl _) ?_
                refine AO.skipU 13 true 47 rfl rfl rfl 49 rfl (by decide) ?_
                exact AO.nilE (ρ' := [(49, (.fl undef))]) (H' := [(n10, .mem (e55 t9.1)), (n12, .mem (e60 t11.1))]) ⟨⟨_, rfl, rfl⟩, Sub.refl _⟩ ⟨rfl, trivial⟩ (Sub.refl _)
              · refine AO.weak (ρ' := [(44, (eBool true))]) (H' := [(n10, .mem (e55 t9.1)), (n12, .mem (e60 t11.1))]) ⟨rfl, trivial⟩ (Sub.refl _) ?_
                refine AO.skipG 10 true 44 rfl rfl rfl 50 rfl (by decide) ?_
                exact AO.nilE (ρ' := [(50, (.fl undef))]) (H' := [(n10, .mem (e55 t9.1)), (n12, .mem (e60 t11.1))]) ⟨⟨_, rfl, rfl⟩, Sub.refl _⟩ ⟨rfl, trivial⟩ (Sub.refl _)
              · refine AO.weak (ρ' := [(44, (eBool true)), (50, (.fl undef))]) (H' := [(n10, .mem (e55 t9.1)), (n12, .mem (e60 t11.1))]) ⟨rfl, rfl, trivial⟩ (Sub.refl _) ?_
                refine AO.calm rfl 51 rfl (by decide) (eBool true) (Calm.pickT rfl rfl rfl) ?_
                exact AO.nilE (ρ' := [(51, (eBool true))]) (H' := [(n10, .mem (e55 t9.1)), (n12, .mem (e60 t11.1))]) ⟨⟨_, rfl, rfl⟩, Sub.refl _⟩ ⟨rfl, trivial⟩ (Sub.refl _)
            · cases hq14
              exact ⟨rfl, rfl, rfl⟩
          · have hq14 := (if_neg hc16).symm.trans hq14
            by_cases hc17 : ((decide (t9.2 = (0 : Int))) != t11.2) = true
            · have hq14 := (if_pos hc17).symm.trans hq14
              refine AW.regAny (by rfl) (by decide +kernel) [(e55 t9.1), (e60 t15), (e60 t11.1), (eBool (!(decide (t15 = t11.1)))), (eBool (!(decide (t15 = t11.1)))), (eI64 t9.2), (eBool (decide (t9.2 = (0 : Int)))), (eBool t11.2), (eBool ((decide (t9.2 = (0 : Int))) != t11.2)), (eBool ((decide (t9.2 = (0 : Int))) != t11.2)), (eBool ((decide (t9.2 = (0 : Int))) != t11.2)), (.fl undef), (.fl undef), (.fl undef), (.fl undef), (.fl undef), (.fl undef), (eBool true)] [(1, (eStr p1)), (5, (.ptr n10 0)), (6, (eI64 t9.2)), (7, (.ptr n12 0)), (8, (eBool t11.2))] ⟨rfl, rfl, rfl, rfl, rfl, trivial⟩ rfl ?_ [(1, (eStr p1)), (51, (eBool true))] [] ⟨rfl, rfl, trivial⟩ (Sub.nil _) ?_
              · refine ⟨?_, ?_, ?_, ?_, ?_, ?_, ?_, ?_, ?_, ?_, ?_, ?_, ?_, ?_, ?_, ?_, ?_, ?_, trivial⟩
                · refine AO.weak (ρ' := [(5, (.ptr n10 0))]) (H' := [(n10, .mem (e55 t9.1)), (n12, .mem (e60 t11.1))]) ⟨rfl, trivial⟩ (Sub.refl _) ?_
                  refine AO.calm rfl 34 rfl (by decide) (e55 t9.1) (Calm.load 0 rfl rfl rfl (At.cast At.here rfl) ag55 sz55) ?_
                  exact AO.nilE (ρ' := [(34, (e55 t9.1))]) (H' := [(n10, .mem (e55 t9.1)), (n12, .mem (e60 t11.1))]) ⟨⟨_, rfl, rfl⟩, Sub.refl _⟩ ⟨rfl, trivial⟩ (Sub.refl _)
                · refine AO.weak (ρ' := [(34, (e55 t9.1))]) (H' := [(n10, .mem (e55 t9.1)), (n12, .mem (e60 t11.1))]) ⟨rfl, trivial⟩ (Sub.refl _) ?_
                  refine AO.callS [(e55 t9.1)] (e60 t15) 35 rfl (by decide) ok45 rfl rfl rfl ⟨rfl, rfl, trivial⟩ (bosketlaw47_Ref_spec et15) ?_
                  exact AO.nilE (ρ' := [(35, (e60 t15))]) (H' := [(n10, .mem (e55 t9.1)), (n12, .mem (e60 t11.1))]) ⟨⟨_, rfl, rfl⟩, Sub.refl _⟩ ⟨rfl, trivial⟩ (Sub.refl _)
                · refine AO.weak (ρ' := [(7, (.ptr n12 0))]) (H' := [(n10, .mem (e55 t9.1)), (n12, .mem (e60 t11.1))]) ⟨rfl, trivial⟩ (Sub.refl _) ?_
                  refine AO.calm rfl 36 rfl (by decide) (e60 t11.1) (Calm.load 1 rfl rfl rfl (At.cast At.here rfl) ag60 sz60) ?_
                  exact AO.nilE (ρ' := [(36, (e60 t11.1))]) (H' := [(n10, .mem (e55 t9.1)), (n12, .mem (e60 t11.1))]) ⟨⟨_, rfl, rfl⟩, Sub.refl _⟩ ⟨rfl, trivial⟩ (Sub.refl _)
                · refine AO.weak (ρ' := [(35, (e60 t15)), (36, (e60 t11.1))]) (H' := [(n10, .mem (e55 t9.1)), (n12, .mem (e60 t11.1))]) ⟨rfl, rfl, trivial⟩ (Sub.refl _) ?_
                  refine AO.calm rfl 37 rfl (by decide) (eBool (!(decide (t15 = t11.1)))) (Calm.neS rfl rfl rfl eg60 (eqk60 t15 t11.1) (by decide)) ?_
                  exact AO.nilE (ρ' := [(37, (eBool (!(decide (t15 = t11.1)))))]) (H' := [(n10, .mem (e55 t9.1)), (n12, .mem (e60 t11.1))]) ⟨⟨_, rfl, rfl⟩, Sub.refl _⟩ ⟨rfl, trivial⟩ (Sub.refl _)
                · refine AO.weak (ρ' := [(37, (eBool (!(decide (t15 = t11.1)))))]) (H' := [(n10, .mem (e55 t9.1)), (n12, .mem (e60 t11.1))]) ⟨rfl, trivial⟩ (Sub.refl _) ?_
                  refine AO.calm rfl 38 rfl (by decide) (eBool (!(decide (t15 = t11.1)))) (Calm.move rfl rfl) ?_
                  exact AO.nilE (ρ' := [(38, (eBool (!(decide (t15 = t11.1)))))]) (H' := [(n10, .mem (e55 t9.1)), (n12, .mem (e60 t11.1))]) ⟨⟨_, rfl, rfl⟩, Sub.refl _⟩ ⟨rfl, trivial⟩ (Sub.refl _)
                · refine AO.weak (ρ' := [(6, (eI64 t9.2)), (38, (eBool (!(decide (t15 = t11.1)))))]) (H' := [(n10, .mem (e55 t9.1)), (n12, .mem (e60 t11.1))]) ⟨rfl, rfl, trivial⟩ (Sub.refl _) ?_
                  refine AO.calmG 4 false 38 rfl rfl (congrArg (fun b => some (AV.fl (Value.bool b))) (eq_false_of_ne_true hc16)) 39 rfl (by decide) (eI64 t9.2) (Calm.move rfl rfl) ?_
                  exact AO.nilE (ρ' := [(39, (eI64 t9.2))]) (H' := [(n10, .mem (e55 t9.1)), (n12, .mem (e60 t11.1))]) ⟨⟨_, rfl, rfl⟩, Sub.refl _⟩ ⟨rfl, trivial⟩ (Sub.refl _)
                · refine AO.weak (ρ' := [(38, (eBool (!(decide (t15 = t11.1))))), (39, (eI64 t9.2))]) (H' := [(n10, .mem (e55 t9.1)), (n12, .mem (e60 t11.1))]) ⟨rfl, rfl, trivial⟩ (Sub.refl _) ?_
                  refine AO.calmG 4 false 38 rfl rfl (congrArg (fun b => some (AV.fl (Value.bool b))) (eq_false_of_ne_true hc16)) 40 rfl (by decide) (eBool (decide (t9.2 = (0 : Int)))) (Calm.int rfl rfl rfl rfl) ?_
                  exact AO.nilE (ρ' := [(40, (eBool (decide (t9.2 = (0 : Int)))))]) (H' := [(n10, .mem (e55 t9.1)), (n12, .mem (e60 t11.1))]) ⟨⟨_, rfl, rfl⟩, Sub.refl _⟩ ⟨rfl, trivial⟩ (Sub.refl _)
                · refine AO.weak (ρ' := [(8, (eBool t11.2)), (38, (eBool (!(decide (t15 = t11.1)))))]) (H' := [(n10, .mem (e55 t9.1)), (n12, .mem (e60 t11.1))]) ⟨rfl, rfl, trivial⟩ (Sub.refl _) ?_
                  refine AO.calmG 4 false 38 rfl rfl (congrArg (fun b => some (AV.fl (Value.bool b))) (eq_false_of_ne_true hc16)) 41 rfl (by decide) (eBool t11.2) (Calm.move rfl rfl) ?_
                  exact AO.nilE (ρ' := [(41, (eBool t11.2))]) (H' := [(n10, .mem (e55 t9.1)), (n12, .mem (e60 t11.1))]) ⟨⟨_, rfl, rfl⟩, Sub.refl _⟩ ⟨rfl, trivial⟩ (Sub.refl _)
                · refine AO.weak (ρ' := [(38, (eBool (!(decide (t15 = t11.1))))), (40, (eBool (decide (t9.2 = (0 : Int))))), (41, (eBool t11.2))]) (H' := [(n10, .mem (e55 t9.1)), (n12, .mem (e60 t11.1))]) ⟨rfl, rfl, rfl, trivial⟩ (Sub.refl _) ?_
                  refine AO.calmG 4 false 38 rfl rfl (congrArg (fun b => some (AV.fl (Value.bool b))) (eq_false_of_ne_true hc16)) 42 rfl (by decide) (eBool ((decide (t9.2 = (0 : Int))) != t11.2)) (Calm.boolNe rfl rfl rfl Try.underlying4) ?_
                  exact AO.nilE (ρ' := [(42, (eBool ((decide (t9.2 = (0 : Int))) != t11.2)))]) (H' := [(n10, .mem (e55 t9.1)), (n12, .mem (e60 t11.1))]) ⟨⟨_, rfl, rfl⟩, Sub.refl _⟩ ⟨rfl, trivial⟩ (Sub.refl _)
                · refine AO.weak (ρ' := [(38, (eBool (!(decide (t15 = t11.1))))), (42, (eBool ((decide (t9.2 = (0 : Int))) != t11.2)))]) (H' := [(n10, .mem (e55 t9.1)), (n12, .mem (e60 t11.1))]) ⟨rfl, rfl, trivial⟩ (Sub.refl _) ?_
                  refine AO.calm rfl 43 rfl (by decide) (eBool ((decide (t9.2 = (0 : Int))) != t11.2)) (Calm.pickF rfl (congrArg (fun b => some (AV.fl (Value.bool b))) (eq_false_of_ne_true hc16)) rfl) ?_
                  exact AO.nilE (ρ' := [(43, (eBool ((decide (t9.2 = (0 : Int))) != t11.2)))]) (H' := [(n10, .mem (e55 t9.1)), (n12, .mem (e60 t11.1))]) ⟨⟨_, rfl, rfl⟩, Sub.refl _⟩ ⟨rfl, trivial⟩ (Sub.refl _)
                · refine AO.weak (ρ' := [(43, (eBool ((decide (t9.2 = (0 : Int))) != t11.2)))]) (H' := [(n10, .mem (e55 t9.1)), (n12, .mem (e60 t11.1))]) ⟨rfl, trivial⟩ (Sub.refl _) ?_
                  refine AO.calm rfl 44 rfl (by decide) (eBool ((decide (t9.2 = (0 : Int))) != t11.2)) (Calm.move rfl rfl) ?_
                  exact AO.nilE (ρ' := [(44, (eBool ((decide (t9.2 = (0 : Int))) != t11.2)))]) (H' := [(n10, .mem (e55 t9.1)), (n12, .mem (e60 t11.1))]) ⟨⟨_, rfl, rfl⟩, Sub.refl _⟩ ⟨rfl, trivial⟩ (Sub.refl _)
                · refine AO.weak (ρ' := [(44, (eBool ((decide (t9.2 = (0 : Int))) != t11.2)))]) (H' := [(n10, .mem (e55 t9.1)), (n12, .mem (e60 t11.1))]) ⟨rfl, trivial⟩ (Sub.refl _) ?_
                  refine AO.skipG 10 true 44 rfl rfl (congrArg (fun b => some (AV.fl (Value.bool b))) hc17) 45 rfl (by decide) ?_
                  exact AO.nilE (ρ' := [(45, (.fl undef))]) (H' := [(n10, .mem (e55 t9.1)), (n12, .mem (e60 t11.1))]) ⟨⟨_, rfl, rfl⟩, Sub.refl _⟩ ⟨rfl, trivial⟩ (Sub.refl _)
                · refine AO.weak (ρ' := [(44, (eBool ((decide (t9.2 = (0 : Int))) != t11.2)))]) (H' := [(n10, .mem (e55 t9.1)), (n12, .mem (e60 t11.1))]) ⟨rfl, trivial⟩ (Sub.refl _) ?_
                  refine AO.skipG 10 true 44 rfl rfl (congrArg (fun b => some (AV.fl (Value.bool b))) hc17) 46 rfl (by decide) ?_
                  exact AO.nilE (ρ' := [(46, (.fl undef))]) (H' := [(n10, .mem (e55 t9.1)), (n12, .mem (e60 t11.1))]) ⟨⟨_, rfl, rfl⟩, Sub.refl _⟩ ⟨rfl, trivial⟩ (Sub.refl _)
                · refine AO.weak (ρ' := [(44, (eBool ((decide (t9.2 = (0 : Int))) != t11.2)))]) (H' := [(n10, .mem (e55 t9.1)), (n12, .mem (e60 t11.1))]) ⟨rfl, trivial⟩ (Sub.refl _) ?_
                  refine AO.skipG 10 true 44 rfl rfl (congrArg (fun b => some (AV.fl (Value.bool b))) hc17) 47 rfl (by decide) ?_
                  exact AO.nilE (ρ' := [(47, (.fl undef))]) (H' := [(n10, .mem (e55 t9.1)), (n12, .mem (e60 t11.1))]) ⟨⟨_, rfl, rfl⟩, Sub.refl _⟩ ⟨rfl, trivial⟩ (Sub.refl _)
                · refine AO.weak (ρ' := [(47, (.fl undef))]) (H' := [(n10, .mem (e55 t9.1)), (n12, .mem (e60 t11.1))]) ⟨rfl, trivial⟩ (Sub.refl _) ?_
                  refine AO.skipU 13 true 47 rfl rfl rfl 48 rfl (by decide) ?_
                  exact AO.nilE (ρ' := [(48, (.fl undef))]) (H' := [(n10, .mem (e55 t9.1)), (n12, .mem (e60 t11.1))]) ⟨⟨_, rfl, rfl⟩, Sub.refl _⟩ ⟨rfl, trivial⟩ (Sub.refl _)
                · refine AO.weak (ρ' := [(47, (.fl undef))]) (H' := [(n10, .mem (e55 t9.1)), (n12, .mem (e60 t11.1))]) ⟨rfl, trivial⟩ (Sub.refl _) ?_
                  refine AO.skipU 13 true 47 rfl rfl rfl 49 rfl (by decide) ?_
                  exact AO.nilE (ρ' := [(49, (.fl undef))]) (H' := [(n10, .mem (e55 t9.1)), (n12, .mem (e60 t11.1))]) ⟨⟨_, rfl, rfl⟩, Sub.refl _⟩ ⟨rfl, trivial⟩ (Sub.refl _)
                · refine AO.weak (ρ' := [(44, (eBool ((decide (t9.2 = (0 : Int))) != t11.2)))]) (H' := [(n10, .mem (e55 t9.1)), (n12, .mem (e60 t11.1))]) ⟨rfl, trivial⟩ (Sub.refl _) ?_
                  refine AO.skipG 10 true 44 rfl rfl (congrArg (fun b => some (AV.fl (Value.bool b))) hc17) 50 rfl (by decide) ?_
                  exact AO.nilE (ρ' := [(50, (.fl undef))]) (H' := [(n10, .mem (e55 t9.1)), (n12, .mem (e60 t11.1))]) ⟨⟨_, rfl, rfl⟩, Sub.refl _⟩ ⟨rfl, trivial⟩ (Sub.refl _)
                · refine AO.weak (ρ' := [(44, (eBool ((decide (t9.2 = (0 : Int))) != t11.2))), (50, (.fl undef))]) (H' := [(n10, .mem (e55 t9.1)), (n12, .mem (e60 t11.1))]) ⟨rfl, rfl, trivial⟩ (Sub.refl _) ?_
                  refine AO.calm rfl 51 rfl (by decide) (eBool true) (Calm.pickT rfl (congrArg (fun b => some (AV.fl (Value.bool b))) hc17) rfl) ?_
                  exact AO.nilE (ρ' := [(51, (eBool true))]) (H' := [(n10, .mem (e55 t9.1)), (n12, .mem (e60 t11.1))]) ⟨⟨_, rfl, rfl⟩, Sub.refl _⟩ ⟨rfl, trivial⟩ (Sub.refl _)
              · cases hq14
                exact ⟨rfl, rfl, rfl⟩
            · have hq14 := (if_neg hc17).symm.trans hq14
              by_cases hc18 : (!t11.2) = true
              · have hq14 := (if_pos hc18).symm.trans hq14
                refine AW.regAny (by rfl) (by decide +kernel) [(e55 t9.1), (e60 t15), (e60 t11.1), (eBool (!(decide (t15 = t11.1)))), (eBool (!(decide (t15 = t11.1)))), (eI64 t9.2), (eBool (decide (t9.2 = (0 : Int)))), (eBool t11.2), (eBool ((decide (t9.2 = (0 : Int))) != t11.2)), (eBool ((decide (t9.2 = (0 : Int))) != t11.2)), (eBool ((decide (t9.2 = (0 : Int))) != t11.2)), (eBool t11.2), (eBool (!t11.2)), (eBool (!t11.2)), (eI64 t9.2), (eBool (decide (t9.2 ≠ (24 : Int)))), (eBool (decide (t9.2 ≠ (24 : Int)))), (eBool (decide (t9.2 ≠ (24 : Int))))] [(1, (eStr p1)), (5, (.ptr n10 0)), (6, (eI64 t9.2)), (7, (.ptr n12 0)), (8, (eBool t11.2))] ⟨rfl, rfl, rfl, rfl, rfl, trivial⟩ rfl ?_ [(1, (eStr p1)), (51, (eBool (decide (t9.2 ≠ (24 : Int)))))] [] ⟨rfl, rfl, trivial⟩ (Sub.nil _) ?_
                · refine ⟨?_, ?_, ?_, ?_, ?_, ?_, ?_, ?_, ?_, ?_, ?_, ?_, ?_, ?_, ?_, ?_, ?_, ?_, trivial⟩
                  · refine AO.weak (ρ' := [(5, (.ptr n10 0))]) (H' := [(n10, .mem (e55 t9.1)), (n12, .mem (e60 t11.1))]) ⟨rfl, trivial⟩ (Sub.refl _) ?_
                    refine AO.calm rfl 34 rfl (by decide) (e55 t9.1) (Calm.load 0 rfl rfl rfl (At.cast At.here rfl) ag55 sz55) ?_
                    exact AO.nilE (ρ' := [(34, (e55 t9.1))]) (H' := [(n10, .mem (e55 t9.1)), (n12, .mem (e60 t11.1))]) ⟨⟨_, rfl, rfl⟩, Sub.refl _⟩ ⟨rfl, trivial⟩ (Sub.refl _)
                  · refine AO.weak (ρ' := [(34, (e55 t9.1))]) (H' := [(n10, .mem (e55 t9.1)), (n12, .mem (e60 t11.1))]) ⟨rfl, trivial⟩ (Sub.refl _) ?_
                    refine AO.callS [(e55 t9.1)] (e60 t15) 35 rfl (by decide) ok45 rfl rfl rfl ⟨rfl, rfl, trivial⟩ (bosketlaw47_Ref_spec et15) ?_
                    exact AO.nilE (ρ' := [(35, (e60 t15))]) (H' := [(n10, .mem (e55 t9.1)), (n12, .mem (e60 t11.1))]) ⟨⟨_, rfl, rfl⟩, Sub.refl _⟩ ⟨rfl, trivial⟩ (Sub.refl _)
                  · refine AO.weak (ρ' := [(7, (.ptr n12 0))]) (H' := [(n10, .mem (e55 t9.1)), (n12, .mem (e60 t11.1))]) ⟨rfl, trivial⟩ (Sub.refl _) ?_
                    refine AO.calm rfl 36 rfl (by decide) (e60 t11.1) (Calm.load 1 rfl rfl rfl (At.cast At.here rfl) ag60 sz60) ?_
                    exact AO.nilE (ρ' := [(36, (e60 t11.1))]) (H' := [(n10, .mem (e55 t9.1)), (n12, .mem (e60 t11.1))]) ⟨⟨_, rfl, rfl⟩, Sub.refl _⟩ ⟨rfl, trivial⟩ (Sub.refl _)
                  · refine AO.weak (ρ' := [(35, (e60 t15)), (36, (e60 t11.1))]) (H' := [(n10, .mem (e55 t9.1)), (n12, .mem (e60 t11.1))]) ⟨rfl, rfl, trivial⟩ (Sub.refl _) ?_
                    refine AO.calm rfl 37 rfl (by decide) (eBool (!(decide (t15 = t11.1)))) (Calm.neS rfl rfl rfl eg60 (eqk60 t15 t11.1) (by decide)) ?_
                    exact AO.nilE (ρ' := [(37, (eBool (!(decide (t15 = t11.1)))))]) (H' := [(n10, .mem (e55 t9.1)), (n12, .mem (e60 t11.1))]) ⟨⟨_, rfl, rfl⟩, Sub.refl _⟩ ⟨rfl, trivial⟩ (Sub.refl _)
                  · refine AO.weak (ρ' := [(37, (eBool (!(decide (t15 = t11.1)))))]) (H' := [(n10, .mem (e55 t9.1)), (n12, .mem (e60 t11.1))]) ⟨rfl, trivial⟩ (Sub.refl _) ?_
                    refine AO.calm rfl 38 rfl (by decide) (eBool (!(decide (t15 = t11.1)))) (Calm.move rfl rfl) ?_
                    exact AO.nilE (ρ' := [(38, (eBool (!(decide (t15 = t11.1)))))]) (H' := [(n10, .mem (e55 t9.1)), (n12, .mem (e60 t11.1))]) ⟨⟨_, rfl, rfl⟩, Sub.refl _⟩ ⟨rfl, trivial⟩ (Sub.refl _)
                  · refine AO.weak (ρ' := [(6, (eI64 t9.2)), (38, (eBool (!(decide (t15 = t11.1)))))]) (H' := [(n10, .mem (e55 t9.1)), (n12, .mem (e60 t11.1))]) ⟨rfl, rfl, trivial⟩ (Sub.refl _) ?_
                    refine AO.calmG 4 false 38 rfl rfl (congrArg (fun b => some (AV.fl (Value.bool b))) (eq_false_of_ne_true hc16)) 39 rfl (by decide) (eI64 t9.2) (Calm.move rfl rfl) ?_
                    exact AO.nilE (ρ' := [(39, (eI64 t9.2))]) (H' := [(n10, .mem (e55 t9.1)), (n12, .mem (e60 t11.1))]) ⟨⟨_, rfl, rfl⟩, Sub.refl _⟩ ⟨rfl, trivial⟩ (Sub.refl _)
                  · refine AO.weak (ρ' := [(38, (eBool (!(decide (t15 = t11.1))))), (39, (eI64 t9.2))]) (H' := [(n10, .mem (e55 t9.1)), (n12, .mem (e60 t11.1))]) ⟨rfl, rfl, trivial⟩ (Sub.refl _) ?_
                    refine AO.calmG 4 false 38 rfl rfl (congrArg (fun b => some (AV.fl (Value.bool b))) (eq_false_of_ne_true hc16)) 40 rfl (by decide) (eBool (decide (t9.2 = (0 : Int)))) (Calm.int rfl rfl rfl rfl) ?_
                    exact AO.nilE (ρ' := [(40, (eBool (decide (t9.2 = (0 : Int)))))]) (H' := [(n10, .mem (e55 t9.1)), (n12, .mem (e60 t11.1))]) ⟨⟨_, rfl, rfl⟩, Sub.refl _⟩ ⟨rfl, trivial⟩ (Sub.refl _)
                  · refine AO.weak (ρ' := [(8, (eBool t11.2)), (38, (eBool (!(decide (t15 = t11.1)))))]) (H' := [(n10, .mem (e55 t9.1)), (n12, .mem (e60 t11.1))]) ⟨rfl, rfl, trivial⟩ (Sub.refl _) ?_
                    refine AO.calmG 4 false 38 rfl rfl (congrArg (fun b => some (AV.fl (Value.bool b))) (eq_false_of_ne_true hc16)) 41 rfl (by decide) (eBool t11.2) (Calm.move rfl rfl) ?_
                    exact AO.nilE (ρ' := [(41, (eBool t11.2))]) (H' := [(n10, .mem (e55 t9.1)), (n12, .mem (e60 t11.1))]) ⟨⟨_, rfl, rfl⟩, Sub.refl _⟩ ⟨rfl, trivial⟩ (Sub.refl _)
                  · refine AO.weak (ρ' := [(38, (eBool (!(decide (t15 = t11.1))))), (40, (eBool (decide (t9.2 = (0 : Int))))), (41, (eBool t11.2))]) (H' := [(n10, .mem (e55 t9.1)), (n12, .mem (e60 t11.1))]) ⟨rfl, rfl, rfl, trivial⟩ (Sub.refl _) ?_
                    refine AO.calmG 4 false 38 rfl rfl (congrArg (fun b => some (AV.fl (Value.bool b))) (eq_false_of_ne_true hc16)) 42 rfl (by decide) (eBool ((decide (t9.2 = (0 : Int))) != t11.2)) (Calm.boolNe rfl rfl rfl Try.underlying4) ?_
                    exact AO.nilE (ρ' := [(42, (eBool ((decide (t9.2 = (0 : Int))) != t11.2)))]) (H' := [(n10, .mem (e55 t9.1)), (n12, .mem (e60 t11.1))]) ⟨⟨_, rfl, rfl⟩, Sub.refl _⟩ ⟨rfl, trivial⟩ (Sub.refl _)
                  · refine AO.weak (ρ' := [(38, (eBool (!(decide (t15 = t11.1))))), (42, (eBool ((decide (t9.2 = (0 : Int))) != t11.2)))]) (H' := [(n10, .mem (e55 t9.1)), (n12, .mem (e60 t11.1))]) ⟨rfl, rfl, trivial⟩ (Sub.refl _) ?_
                    refine AO.calm rfl 43 rfl (by decide) (eBool ((decide (t9.2 = (0 : Int))) != t11.2)) (Calm.pickF rfl (congrArg (fun b => some (AV.fl (Value.bool b))) (eq_false_of_ne_true hc16)) rfl) ?_
                    exact AO.nilE (ρ' := [(43, (eBool ((decide (t9.2 = (0 : Int))) != t11.2)))]) (H' := [(n10, .mem (e55 t9.1)), (n12, .mem (e60 t11.1))]) ⟨⟨_, rfl, rfl⟩, Sub.refl _⟩ ⟨rfl, trivial⟩ (Sub.refl _)
                  · refine AO.weak (ρ' := [(43, (eBool ((decide (t9.2 = (0 : Int))) != t11.2)))]) (H' := [(n10, .mem (e55 t9.1)), (n12, .mem (e60 t11.1))]) ⟨rfl, trivial⟩ (Sub.refl _) ?_
                    refine AO.calm rfl 44 rfl (by decide) (eBool ((decide (t9.2 = (0 : Int))) != t11.2)) (Calm.move rfl rfl) ?_
                    exact AO.nilE (ρ' := [(44, (eBool ((decide (t9.2 = (0 : Int))) != t11.2)))]) (H' := [(n10, .mem (e55 t9.1)), (n12, .mem (e60 t11.1))]) ⟨⟨_, rfl, rfl⟩, Sub.refl _⟩ ⟨rfl, trivial⟩ (Sub.refl _)
                  · refine AO.weak (ρ' := [(8, (eBool t11.2)), (44, (eBool ((decide (t9.2 = (0 : Int))) != t11.2)))]) (H' := [(n10, .mem (e55 t9.1)), (n12, .mem (e60 t11.1))]) ⟨rfl, rfl, trivial⟩ (Sub.refl _) ?_
                    refine AO.calmG 10 false 44 rfl rfl (congrArg (fun b => some (AV.fl (Value.bool b))) (eq_false_of_ne_true hc17)) 45 rfl (by decide) (eBool t11.2) (Calm.move rfl rfl) ?_
                    exact AO.nilE (ρ' := [(45, (eBool t11.2))]) (H' := [(n10, .mem (e55 t9.1)), (n12, .mem (e60 t11.1))]) ⟨⟨_, rfl, rfl⟩, Sub.refl _⟩ ⟨rfl, trivial⟩ (Sub.refl _)
                  · refine AO.weak (ρ' := [(44, (eBool ((decide (t9.2 = (0 : Int))) != t11.2))), (45, (eBool t11.2))]) (H' := [(n10, .mem (e55 t9.1)), (n12, .mem (e60 t11.1))]) ⟨rfl, rfl, trivial⟩ (Sub.refl _) ?_
                    refine AO.calmG 10 false 44 rfl rfl (congrArg (fun b => some (AV.fl (Value.bool b))) (eq_false_of_ne_true hc17)) 46 rfl (by decide) (eBool (!t11.2)) (Calm.not rfl rfl) ?_
                    exact AO.nilE (ρ' := [(46, (eBool (!t11.2)))]) (H' := [(n10, .mem (e55 t9.1)), (n12, .mem (e60 t11.1))]) ⟨⟨_, rfl, rfl⟩, Sub.refl _⟩ ⟨rfl, trivial⟩ (Sub.refl _)
                  · refine AO.weak (ρ' := [(44, (eBool ((decide (t9.2 = (0 : Int))) != t11.2))), (46, (eBool (!t11.2)))]) (H' := [(n10, .mem (e55 t9.1)), (n12, .mem (e60 t11.1))]) ⟨rfl, rfl, trivial⟩ (Sub.refl _) ?_
                    refine AO.calmG 10 false 44 rfl rfl (congrArg (fun b => some (AV.fl (Value.bool b))) (eq_false_of_ne_true hc17)) 47 rfl (by decide) (eBool (!t11.2)) (Calm.move rfl rfl) ?_
                    exact AO.nilE (ρ' := [(47, (eBool (!t11.2)))]) (H' := [(n10, .mem (e55 t9.1)), (n12, .mem (e60 t11.1))]) ⟨⟨_, rfl, rfl⟩, Sub.refl _⟩ ⟨rfl, trivial⟩ (Sub.refl _)
                  · refine AO.weak (ρ' := [(6, (eI64 t9.2)), (47, (eBool (!t11.2)))]) (H' := [(n10, .mem (e55 t9.1)), (n12, .mem (e60 t11.1))]) ⟨rfl, rfl, trivial⟩ (Sub.refl _) ?_
                    refine AO.calmG 13 true 47 rfl rfl (congrArg (fun b => some (AV.fl (Value.bool b))) hc18) 48 rfl (by decide) (eI64 t9.2) (Calm.move rfl rfl) ?_
                    exact AO.nilE (ρ' := [(48, (eI64 t9.2))]) (H' := [(n10, .mem (e55 t9.1)), (n12, .mem (e60 t11.1))]) ⟨⟨_, rfl, rfl⟩, Sub.refl _⟩ ⟨rfl, trivial⟩ (Sub.refl _)
                  · refine AO.weak (ρ' := [(47, (eBool (!t11.2))), (48, (eI64 t9.2))]) (H' := [(n10, .mem (e55 t9.1)), (n12, .mem (e60 t11.1))]) ⟨rfl, rfl, trivial⟩ (Sub.refl _) ?_
                    refine AO.calmG 13 true 47 rfl rfl (congrArg (fun b => some (AV.fl (Value.bool b))) hc18) 49 rfl (by decide) (eBool (decide (t9.2 ≠ (24 : Int)))) (Calm.int rfl rfl rfl rfl) ?_
                    exact AO.nilE (ρ' := [(49, (eBool (decide (t9.2 ≠ (24 : Int)))))]) (H' := [(n10, .mem (e55 t9.1)), (n12, .mem (e60 t11.1))]) ⟨⟨_, rfl, rfl⟩, Sub.refl _⟩ ⟨rfl, trivial⟩ (Sub.refl _)
                  · refine AO.weak (ρ' := [(44, (eBool ((decide (t9.2 = (0 : Int))) != t11.2))), (47, (eBool (!t11.2))), (49, (eBool (decide (t9.2 ≠ (24 : Int)))))]) (H' := [(n10, .mem (e55 t9.1)), (n12, .mem (e60 t11.1))]) ⟨rfl, rfl, rfl, trivial⟩ (Sub.refl _) ?_
                    refine AO.calmG 10 false 44 rfl rfl (congrArg (fun b => some (AV.fl (Value.bool b))) (eq_false_of_ne_true hc17)) 50 rfl (by decide) (eBool (decide (t9.2 ≠ (24 : Int)))) (Calm.pickT rfl (congrArg (fun b => some (AV.fl (Value.bool b))) hc18) rfl) ?_
                    exact AO.nilE (ρ' := [(50, (eBool (decide (t9.2 ≠ (24 : Int)))))]) (H' := [(n10, .mem (e55 t9.1)), (n12, .mem (e60 t11.1))]) ⟨⟨_, rfl, rfl⟩, Sub.refl _⟩ ⟨rfl, trivial⟩ (Sub.refl _)
                  · refine AO.weak (ρ' := [(44, (eBool ((decide (t9.2 = (0 : Int))) != t11.2))), (50, (eBool (decide (t9.2 ≠ (24 : Int)))))]) (H' := [(n10, .mem (e55 t9.1)), (n12, .mem (e60 t11.1))]) ⟨rfl, rfl, trivial⟩ (Sub.refl _) ?_
                    refine AO.calm rfl 51 rfl (by decide) (eBool (decide (t9.2 ≠ (24 : Int)))) (Calm.pickF rfl (congrArg (fun b => some (AV.fl (Value.bool b))) (eq_false_of_ne_true hc17)) rfl) ?_
                    exact AO.nilE (ρ' := [(51, (eBool (decide (t9.2 ≠ (24 : Int)))))]) (H' := [(n10, .mem (e55 t9.1)), (n12, .mem (e60 t11.1))]) ⟨⟨_, rfl, rfl⟩, Sub.refl _⟩ ⟨rfl, trivial⟩ (Sub.refl _)
                · cases hq14
                  exact ⟨rfl, rfl, rfl⟩
              · have hq14 := (if_neg hc18).symm.trans hq14
                refine AW.regAny (by rfl) (by decide +kernel) [(e55 t9.1), (e60 t15), (e60 t11.1), (eBool (!(decide (t15 = t11.1)))), (eBool (!(decide (t15 = t11.1)))), (eI64 t9.2), (eBool (decide (t9.2 = (0 : Int)))), (eBool t11.2), (eBool ((decide (t9.2 = (0 : Int))) != t11.2)), (eBool ((decide (t9.2 = (0 : Int))) != t11.2)), (eBool ((decide (t9.2 = (0 : Int))) != t11.2)), (eBool t11.2), (eBool (!t11.2)), (eBool (!t11.2)), (.fl undef), (.fl undef), (eBool false), (eBool false)] [(1, (eStr p1)), (5, (.ptr n10 0)), (6, (eI64 t9.2)), (7, (.ptr n12 0)), (8, (eBool t11.2))] ⟨rfl, rfl, rfl, rfl, rfl, trivial⟩ rfl ?_ [(1, (eStr p1)), (51, (eBool false))] [] ⟨rfl, rfl, trivial⟩ (Sub.nil _) ?_
                · refine ⟨?_, ?_, ?_, ?_, ?_, ?_, ?_, ?_, ?_, ?_, ?_, ?_, ?_, ?_, ?_, ?_, ?_, ?_, trivial⟩
                  · refine AO.weak (ρ' := [(5, (.ptr n10 0))]) (H' := [(n10, .mem (e55 t9.1)), (n12, .mem (e60 t11.1))]) ⟨rfl, trivial⟩ (Sub.refl _) ?_
                    refine AO.calm rfl 34 rfl (by decide) (e55 t9.1) (Calm.load 0 rfl rfl rfl (At.cast At.here rfl) ag55 sz55) ?_
                    exact AO.nilE (ρ' := [(34, (e55 t9.1))]) (H' := [(n10, .mem (e55 t9.1)), (n12, .mem (e60 t11.1))]) ⟨⟨_, rfl, rfl⟩, Sub.refl _⟩ ⟨rfl, trivial⟩ (Sub.refl _)
                  · refine AO.weak (ρ' := [(34, (e55 t9.1))]) (H' := [(n10, .mem (e55 t9.1)), (n12, .mem (e60 t11.1))]) ⟨rfl, trivial⟩ (Sub.refl _) ?_
                    refine AO.callS [(e55 t9.1)] (e60 t15) 35 rfl (by decide) ok45 rfl rfl rfl ⟨rfl, rfl, trivial⟩ (bosketlaw47_Ref_spec et15) ?_
                    exact AO.nilE (ρ' := [(35, (e60 t15))]) (H' := [(n10, .mem (e55 t9.1)), (n12, .mem (e60 t11.1))]) ⟨⟨_, rfl, rfl⟩, Sub.refl _⟩ ⟨rfl, trivial⟩ (Sub.refl _)
                  · refine AO.weak (ρ' := [(7, (.ptr n12 0))]) (H' := [(n10, .mem (e55 t9.1)), (n12, .mem (e60 t11.1))]) ⟨rfl, trivial⟩ (Sub.refl _) ?_
                    refine AO.calm rfl 36 rfl (by decide) (e60 t11.1) (Calm.load 1 rfl rfl rfl (At.cast At.here rfl) ag60 sz60) ?_
                    exact AO.nilE (ρ' := [(36, (e60 t11.1))]) (H' := [(n10, .mem (e55 t9.1)), (n12, .mem (e60 t11.1))]) ⟨⟨_, rfl, rfl⟩, Sub.refl _⟩ ⟨rfl, trivial⟩ (Sub.refl _)
                  · refine AO.weak (ρ' := [(35, (e60 t15)), (36, (e60 t11.1))]) (H' := [(n10, .mem (e55 t9.1)), (n12, .mem (e60 t11.1))]) ⟨rfl, rfl, trivial⟩ (Sub.refl _) ?_
                    refine AO.calm rfl 37 rfl (by decide) (eBool (!(decide (t15 = t11.1)))) (Calm.neS rfl rfl rfl eg60 (eqk60 t15 t11.1) (by decide)) ?_
                    exact AO.nilE (ρ' := [(37, (eBool (!(decide (t15 = t11.1)))))]) (H' := [(n10, .mem (e55 t9.1)), (n12, .mem (e60 t11.1))]) ⟨⟨_, rfl, rfl⟩, Sub.refl _⟩ ⟨rfl, trivial⟩ (Sub.refl _)
                  · refine AO.weak (ρ' := [(37, (eBool (!(decide (t15 = t11.1)))))]) (H' := [(n10, .mem (e55 t9.1)), (n12, .mem (e60 t11.1))]) ⟨rfl, trivial⟩ (Sub.refl _) ?_
                    refine AO.calm rfl 38 rfl (by decide) (eBool (!(decide (t15 = t11.1)))) (Calm.move rfl rfl) ?_
                    exact AO.nilE (ρ' := [(38, (eBool (!(decide (t15 = t11.1)))))]) (H' := [(n10, .mem (e55 t9.1)), (n12, .mem (e60 t11.1))]) ⟨⟨_, rfl, rfl⟩, Sub.refl _⟩ ⟨rfl, trivial⟩ (Sub.refl _)
                  · refine AO.weak (ρ' := [(6, (eI64 t9.2)), (38, (eBool (!(decide (t15 = t11.1)))))]) (H' := [(n10, .mem (e55 t9.1)), (n12, .mem (e60 t11.1))]) ⟨rfl, rfl, trivial⟩ (Sub.refl _) ?_
                    refine AO.calmG 4 false 38 rfl rfl (congrArg (fun b => some (AV.fl (Value.bool b))) (eq_false_of_ne_true hc16)) 39 rfl (by decide) (eI64 t9.2) (Calm.move rfl rfl) ?_
                    exact AO.nilE (ρ' := [(39, (eI64 t9.2))]) (H' := [(n10, .mem (e55 t9.1)), (n12, .mem (e60 t11.1))]) ⟨⟨_, rfl, rfl⟩, Sub.refl _⟩ ⟨rfl, trivial⟩ (Sub.refl _)
                  · refine AO.weak (ρ' := [(38, (eBool (!(decide (t15 = t11.1))))), (39, (eI64 t9.2))]) (H' := [(n10, .mem (e55 t9.1)), (n12, .mem (e60 t11.1))]) ⟨rfl, rfl, trivial⟩ (Sub.refl _) ?_
                    refine AO.calmG 4 false 38 rfl rfl (congrArg (fun b => some (AV.fl (Value.bool b))) (eq_false_of_ne_true hc16)) 40 rfl (by decide) (eBool (decide (t9.2 = (0 : Int)))) (Calm.int rfl rfl rfl rfl) ?_
                    exact AO.nilE (ρ' := [(40, (eBool (decide (t9.2 = (0 : Int)))))]) (H' := [(n10, .mem (e55 t9.1)), (n12, .mem (e60 t11.1))]) ⟨⟨_, rfl, rfl⟩, Sub.refl _⟩ ⟨rfl, trivial⟩ (Sub.refl _)
                  · refine AO.weak (ρ' := [(8, (eBool t11.2)), (38, (eBool (!(decide (t15 = t11.1)))))]) (H' := [(n10, .mem (e55 t9.1)), (n12, .mem (e60 t11.1))]) ⟨rfl, rfl, trivial⟩ (Sub.refl _) ?_
                    refine AO.calmG 4 false 38 rfl rfl (congrArg (fun b => some (AV.fl (Value.bool b))) (eq_false_of_ne_true hc16)) 41 rfl (by decide) (eBool t11.2) (Calm.move rfl rfl) ?_
                    exact AO.nilE (ρ' := [(41, (eBool t11.2))]) (H' := [(n10, .mem (e55 t9.1)), (n12, .mem (e60 t11.1))]) ⟨⟨_, rfl, rfl⟩, Sub.refl _⟩ ⟨rfl, trivial⟩ (Sub.refl _)
                  · refine AO.weak (ρ' := [(38, (eBool (!(decide (t15 = t11.1))))), (40, (eBool (decide (t9.2 = (0 : Int))))), (41, (eBool t11.2))]) (H' := [(n10, .mem (e55 t9.1)), (n12, .mem (e60 t11.1))]) ⟨rfl, rfl, rfl, trivial⟩ (Sub.refl _) ?_
                    refine AO.calmG 4 false 38 rfl rfl (congrArg (fun b => some (AV.fl (Value.bool b))) (eq_false_of_ne_true hc16)) 42 rfl (by decide) (eBool ((decide (t9.2 = (0 : Int))) != t11.2)) (Calm.boolNe rfl rfl rfl Try.underlying4) ?_
                    exact AO.nilE (ρ' := [(42, (eBool ((decide (t9.2 = (0 : Int))) != t11.2)))]) (H' := [(n10, .mem (e55 t9.1)), (n12, .mem (e60 t11.1))]) ⟨⟨_, rfl, rfl⟩, Sub.refl _⟩ ⟨rfl, trivial⟩ (Sub.refl _)
                  · refine AO.weak (ρ' := [(38, (eBool (!(decide (t15 = t11.1))))), (42, (eBool ((decide (t9.2 = (0 : Int))) != t11.2)))]) (H' := [(n10, .mem (e55 t9.1)), (n12, .mem (e60 t11.1))]) ⟨rfl, rfl, trivial⟩ (Sub.refl _) ?_
                    refine AO.calm rfl 43 rfl (by decide) (eBool ((decide (t9.2 = (0 : Int))) != t11.2)) (Calm.pickF rfl (congrArg (fun b => some (AV.fl (Value.bool b))) (eq_false_of_ne_true hc16)) rfl) ?_
                    exact AO.nilE (ρ' := [(43, (eBool ((decide (t9.2 = (0 : Int))) != t11.2)))]) (H' := [(n10, .mem (e55 t9.1)), (n12, .mem (e60 t11.1))]) ⟨⟨_, rfl, rfl⟩, Sub.refl _⟩ ⟨rfl, trivial⟩ (Sub.refl _)
                  · refine AO.weak (ρ' := [(43, (eBool ((decide (t9.2 = (0 : Int))) != t11.2)))]) (H' := [(n10, .mem (e55 t9.1)), (n12, .mem (e60 t11.1))]) ⟨rfl, trivial⟩ (Sub.refl _) ?_
                    refine AO.calm rfl 44 rfl (by decide) (eBool ((decide (t9.2 = (0 : Int))) != t11.2)) (Calm.move rfl rfl) ?_
                    exact AO.nilE (ρ' := [(44, (eBool ((decide (t9.2 = (0 : Int))) != t11.2)))]) (H' := [(n10, .mem (e55 t9.1)), (n12, .mem (e60 t11.1))]) ⟨⟨_, rfl, rfl⟩, Sub.refl _⟩ ⟨rfl, trivial⟩ (Sub.refl _)
                  · refine AO.weak (ρ' := [(8, (eBool t11.2)), (44, (eBool ((decide (t9.2 = (0 : Int))) != t11.2)))]) (H' := [(n10, .mem (e55 t9.1)), (n12, .mem (e60 t11.1))]) ⟨rfl, rfl, trivial⟩ (Sub.refl _) ?_
                    refine AO.calmG 10 false 44 rfl rfl (congrArg (fun b => some (AV.fl (Value.bool b))) (eq_false_of_ne_true hc17)) 45 rfl (by decide) (eBool t11.2) (Calm.move rfl rfl) ?_
                    exact AO.nilE (ρ' := [(45, (eBool t11.2))]) (H' := [(n10, .mem (e55 t9.1)), (n12, .mem (e60 t11.1))]) ⟨⟨_, rfl, rfl⟩, Sub.refl _⟩ ⟨rfl, trivial⟩ (Sub.refl _)
                  · refine AO.weak (ρ' := [(44, (eBool ((decide (t9.2 = (0 : Int))) != t11.2))), (45, (eBool t11.2))]) (H' := [(n10, .mem (e55 t9.1)), (n12, .mem (e60 t11.1))]) ⟨rfl, rfl, trivial⟩ (Sub.refl _) ?_
                    refine AO.calmG 10 false 44 rfl rfl (congrArg (fun b => some (AV.fl (Value.bool b))) (eq_false_of_ne_true hc17)) 46 rfl (by decide) (eBool (!t11.2)) (Calm.not rfl rfl) ?_
                    exact AO.nilE (ρ' := [(46, (eBool (!t11.2)))]) (H' := [(n10, .mem (e55 t9.1)), (n12, .mem (e60 t11.1))]) ⟨⟨_, rfl, rfl⟩, Sub.refl _⟩ ⟨rfl, trivial⟩ (Sub.refl _)
                  · refine AO.weak (ρ' := [(44, (eBool ((decide (t9.2 = (0 : Int))) != t11.2))), (46, (eBool (!t11.2)))]) (H' := [(n10, .mem (e55 t9.1)), (n12, .mem (e60 t11.1))]) ⟨rfl, rfl, trivial⟩ (Sub.refl _) ?_
                    refine AO.calmG 10 false 44 rfl rfl (congrArg (fun b => some (AV.fl (Value.bool b))) (eq_false_of_ne_true hc17)) 47 rfl (by decide) (eBool (!t11.2)) (Calm.move rfl rfl) ?_
                    exact AO.nilE (ρ' := [(47, (eBool (!t11.2)))]) (H' := [(n10, .mem (e55 t9.1)), (n12, .mem (e60 t11.1))]) ⟨⟨_, rfl, rfl⟩, Sub.refl _⟩ ⟨rfl, trivial⟩ (Sub.refl _)
                  · refine AO.weak (ρ' := [(47, (eBool (!t11.2)))]) (H' := [(n10, .mem (e55 t9.1)), (n12, .mem (e60 t11.1))]) ⟨rfl, trivial⟩ (Sub.refl _) ?_
                    refine AO.skipG 13 false 47 rfl rfl (congrArg (fun b => some (AV.fl (Value.bool b))) (eq_false_of_ne_true hc18)) 48 rfl (by decide) ?_
                    exact AO.nilE (ρ' := [(48, (.fl undef))]) (H' := [(n10, .mem (e55 t9.1)), (n12, .mem (e60 t11.1))]) ⟨⟨_, rfl, rfl⟩, Sub.refl _⟩ ⟨rfl, trivial⟩ (Sub.refl _)
                  · refine AO.weak (ρ' := [(47, (eBool (!t11.2)))]) (H' := [(n10, .mem (e55 t9.1)), (n12, .mem (e60 t11.1))]) ⟨rfl, trivial⟩ (Sub.refl _) ?_
                    refine AO.skipG 13 false 47 rfl rfl (congrArg (fun b => some (AV.fl (Value.bool b))) (eq_false_of_ne_true hc18)) 49 rfl (by decide) ?_
                    exact AO.nilE (ρ' := [(49, (.fl undef))]) (H' := [(n10, .mem (e55 t9.1)), (n12, .mem (e60 t11.1))]) ⟨⟨_, rfl, rfl⟩, Sub.refl _⟩ ⟨rfl, trivial⟩ (Sub.refl _)
                  · refine AO.weak (ρ' := [(44, (eBool ((decide (t9.2 = (0 : Int))) != t11.2))), (47, (eBool (!t11.2))), (49, (.fl undef))]) (H' := [(n10, .mem (e55 t9.1)), (n12, .mem (e60 t11.1))]) ⟨rfl, rfl, rfl, trivial⟩ (Sub.refl _) ?_
                    refine AO.calmG 10 false 44 rfl rfl (congrArg (fun b => some (AV.fl (Value.bool b))) (eq_false_of_ne_true hc17)) 50 rfl (by decide) (eBool false) (Calm.pickF rfl (congrArg (fun b => some (AV.fl (Value.bool b))) (eq_false_of_ne_true hc18)) rfl) ?_
                    exact AO.nilE (ρ' := [(50, (eBool false))]) (H' := [(n10, .mem (e55 t9.1)), (n12, .mem (e60 t11.1))]) ⟨⟨_, rfl, rfl⟩, Sub.refl _⟩ ⟨rfl, trivial⟩ (Sub.refl _)
                  · refine AO.weak (ρ' := [(44, (eBool ((decide (t9.2 = (0 : Int))) != t11.2))), (50, (eBool false))]) (H' := [(n10, .mem (e55 t9.1)), (n12, .mem (e60 t11.1))]) ⟨rfl, rfl, trivial⟩ (Sub.refl _) ?_
                    refine AO.calm rfl 51 rfl (by decide) (eBool false) (Calm.pickF rfl (congrArg (fun b => some (AV.fl (Value.bool b))) (eq_false_of_ne_true hc17)) rfl) ?_
                    exact AO.nilE (ρ' := [(51, (eBool false))]) (H' := [(n10, .mem (e55 t9.1)), (n12, .mem (e60 t11.1))]) ⟨⟨_, rfl, rfl⟩, Sub.refl _⟩ ⟨rfl, trivial⟩ (Sub.refl _)
                · cases hq14
                  exact ⟨rfl, rfl, rfl⟩
        · by_cases hc19 : b13 = true
          · have h := (if_pos hc19).symm.trans h
            refine AW.condT' b13 rfl hc19 ?_
            refine AW.seq ?_
            refine AW.reg ?_
            refine AO.calm rfl 4 rfl (by decide) (eBool false) (Calm.assign rfl rfl) ?_
            refine AO.nil (ρ' := [(4, (eBool false))]) (H' := []) ⟨rfl, trivial⟩ (Sub.refl _) ?_
            refine AW.ret (ρ' := [(4, (eBool false))]) (H' := []) ⟨rfl, trivial⟩ (Sub.refl _) ?_
            have hr := Option.some.inj h
            subst hr
            exact ⟨[(eBool false)], ⟨rfl, rfl, trivial⟩, rfl⟩
          · have h := (if_neg hc19).symm.trans h
            refine AW.condF' b13 rfl hc19 ?_
            refine AW.skip (ρ' := [(1, (eStr p1))]) (H' := []) ⟨rfl, trivial⟩ (Sub.refl _) ?_
            refine AW.seq ?_
            refine AW.reg ?_
            refine AO.calm rfl 9 rfl (by decide) (eI64 (0 : Int)) (Calm.assign rfl rfl) ?_
            refine AO.nil (ρ' := [(1, (eStr p1)), (9, (eI64 (0 : Int)))]) (H' := []) ⟨rfl, rfl, trivial⟩ (Sub.refl _) ?_
            refine AW.seq_mid (fun ρ H => ∃ (x20 : Int), ρ = [(1, (eStr p1)), (9, (eI64 x20))] ∧ H = [] ∧ bosketlaw47_OpReads_c0 k p1 x20 = some r) ?_ ?_
            · refine AW.seq ?_
              refine AW.reg ?_
              refine AO.calm rfl 10 rfl (by decide) (eI64 (1 : Int)) (Calm.assign rfl rfl) ?_
              refine AO.nil (ρ' := [(1, (eStr p1)), (9, (eI64 (0 : Int))), (10, (eI64 (1 : Int)))]) (H' := []) ⟨rfl, rfl, rfl, trivial⟩ (Sub.refl _) ?_
              refine AW.block ?_
              refine AW.weak (ρ' := [(1, (eStr p1)), (9, (eI64 (0 : Int))), (10, (eI64 (1 : Int)))]) (H' := []) ⟨rfl, rfl, rfl, trivial⟩ (Sub.refl _) ?_
              refine AW.loop (fun kq ρ H => ∃ (x22 : Int) (x23 : Int), ρ = [(1, (eStr p1)), (9, (eI64 x22)), (10, (eI64 x23))] ∧ H = [] ∧ bosketlaw47_OpReads_l2 k p1 kq x22 x23 = some r) k ⟨(0 : Int), (1 : Int), rfl, rfl, h⟩ ?_
              rintro kq25 _ _ ⟨x22, x23, rfl, rfl, h⟩
              cases kq25 with
              | zero => rw [bosketlaw47_OpReads_l2.eq_1] at h; cases h
              | succ kq25 =>
              rw [bosketlaw47_OpReads_l2.eq_2] at h
              generalize hrec24 : bosketlaw47_OpReads_l2 k p1 kq25 = rec24 at h
              refine AW.seq ?_
              refine AW.seq ?_
              refine AW.reg ?_
              refine AO.calm rfl 52 rfl (by decide) (eI64 x23) (Calm.move rfl rfl) ?_
              refine AO.calm rfl 53 rfl (by decide) (eBool (decide (x23 ≤ (11 : Int)))) (Calm.int rfl rfl rfl rfl) ?_
              refine AO.nil (ρ' := [(1, (eStr p1)), (9, (eI64 x22)), (10, (eI64 x23)), (53, (eBool (decide (x23 ≤ (11 : Int)))))]) (H' := []) ⟨rfl, rfl, rfl, rfl, trivial⟩ (Sub.refl _) ?_
              by_cases hc26 : x23 ≤ (11 : Int)
              · have h := (if_pos hc26).symm.trans h
                refine AW.condP (x23 ≤ (11 : Int)) rfl hc26 ?_
                refine AW.skip (ρ' := [(1, (eStr p1)), (9, (eI64 x22)), (10, (eI64 x23))]) (H' := []) ⟨rfl, rfl, rfl, trivial⟩ (Sub.refl _) ?_
                refine AW.seq_mid (fun ρ H => ∃ (x27 : Int), ρ = [(1, (eStr p1)), (9, (eI64 x27)), (10, (eI64 x23))] ∧ H = [] ∧ bosketlaw47_OpReads_c1 k rec24 x23 x27 = some r) ?_ ?_
                · refine AW.block ?_
                  refine AW.seq ?_
                  refine AW.reg ?_
                  refine AO.calm rfl 57 rfl (by decide) (eI64 x23) (Calm.move rfl rfl) ?_
                  obtain ⟨t28, et28, h⟩ := of_bind h
                  refine AO.callS [(eI64 x23)] (.tup [(eStr t28.1), (eBool t28.2.1), (eBool t28.2.2)]) 58 rfl (by decide) ok41 rfl rfl rfl ⟨rfl, rfl, trivial⟩ (bosketref47_Form_spec et28) ?_
                  refine AO.calm rfl 56 rfl (by decide) (.tup [(eStr t28.1), (eBool t28.2.1), (eBool t28.2.2)]) (Calm.move rfl rfl) ?_
                  refine AO.calm rfl 59 rfl (by decide) (eStr t28.1) (Calm.extract rfl rfl rfl) ?_
                  refine AO.calm rfl 60 rfl (by decide) (eBool t28.2.1) (Calm.extract rfl rfl rfl) ?_
                  refine AO.calm rfl 61 rfl (by decide) (eBool t28.2.2) (Calm.extract rfl rfl rfl) ?_
                  refine AO.calm rfl 11 rfl (by decide) (eStr t28.1) (Calm.assign rfl rfl) ?_
                  refine AO.calm rfl 12 rfl (by decide) (eBool t28.2.1) (Calm.assign rfl rfl) ?_
                  refine AO.calm rfl 13 rfl (by decide) (eBool t28.2.2) (Calm.assign rfl rfl) ?_
                  refine AO.nil (ρ' := [(1, (eStr p1)), (9, (eI64 x22)), (10, (eI64 x23)), (11, (eStr t28.1))]) (H' := []) ⟨rfl, rfl, rfl, rfl, trivial⟩ (Sub.refl _) ?_
                  refine AW.seq ?_
                  refine AW.reg ?_
                  refine AO.calm rfl 62 rfl (by decide) (eStr t28.1) (Calm.move rfl rfl) ?_
                  refine AO.calm rfl 63 rfl (by decide) (eStr p1) (Calm.move rfl rfl) ?_
                  refine AO.calm rfl 64 rfl (by decide) (eBool (decide (t28.1 = p1))) (Calm.str rfl rfl rfl rfl) ?_
                  refine AO.nil (ρ' := [(1, (eStr p1)), (9, (eI64 x22)), (10, (eI64 x23)), (64, (eBool (decide (t28.1 = p1))))]) (H' := []) ⟨rfl, rfl, rfl, rfl, trivial⟩ (Sub.refl _) ?_
                  by_cases hc29 : t28.1 = p1
                  · have h := (if_pos hc29).symm.trans h
                    refine AW.condP (t28.1 = p1) rfl hc29 ?_
                    refine AW.reg ?_
                    refine AO.calm rfl 65 rfl (by decide) (eI64 x23) (Calm.move rfl rfl) ?_
                    refine AO.calm rfl 9 rfl (by decide) (eI64 x23) (Calm.assign rfl rfl) ?_
                    refine AO.nil (ρ' := [(1, (eStr p1)), (9, (eI64 x23)), (10, (eI64 x23))]) (H' := []) ⟨rfl, rfl, rfl, trivial⟩ (Sub.refl _) ?_
                    exact ⟨x23, rfl, rfl, h⟩
                  · have h := (if_neg hc29).symm.trans h
                    refine AW.condN (t28.1 = p1) rfl hc29 ?_
                    refine AW.skip (ρ' := [(1, (eStr p1)), (9, (eI64 x22)), (10, (eI64 x23))]) (H' := []) ⟨rfl, rfl, rfl, trivial⟩ (Sub.refl _) ?_
                    exact ⟨x22, rfl, rfl, h⟩
                · rintro _ _ ⟨x27, rfl, rfl, h⟩
                  rw [bosketlaw47_OpReads_c1.eq_1] at h
                  refine AW.reg ?_
                  refine AO.calm rfl 54 rfl (by decide) (eI64 x23) (Calm.move rfl rfl) ?_
                  refine AO.calm rfl 55 rfl (by decide) (eI64 (w64 (x23 + (1 : Int)))) (Calm.int rfl rfl rfl rfl) ?_
                  refine AO.calm rfl 10 rfl (by decide) (eI64 (w64 (x23 + (1 : Int)))) (Calm.assign rfl rfl) ?_
                  refine AO.nil (ρ' := [(1, (eStr p1)), (9, (eI64 x27)), (10, (eI64 (w64 (x23 + (1 : Int)))))]) (H' := []) ⟨rfl, rfl, rfl, trivial⟩ (Sub.refl _) ?_
                  exact ⟨kq25, Nat.lt_succ_self _, x27, (w64 (x23 + (1 : Int))), rfl, rfl, by rw [hrec24]; exact h⟩
              · have h := (if_neg hc26).symm.trans h
                refine AW.condN (x23 ≤ (11 : Int)) rfl hc26 ?_
                refine AW.exit (ρ' := [(1, (eStr p1)), (9, (eI64 x22))]) (H' := []) ⟨rfl, rfl, trivial⟩ (Sub.refl _) ?_
                exact ⟨x22, rfl, rfl, h⟩
            · rintro _ _ ⟨x20, rfl, rfl, h⟩
              rw [bosketlaw47_OpReads_c0.eq_1] at h
              refine AW.seq ?_
              refine AW.reg ?_
              refine AO.calm rfl 66 rfl (by decide) (eStr p1) (Calm.move rfl rfl) ?_
              obtain ⟨t21, et21, h⟩ := of_bind h
              refine AO.callS [(eStr p1)] (eI64 t21) 67 rfl (by decide) ok48 rfl rfl rfl ⟨rfl, rfl, trivial⟩ (op_Kind_spec et21) ?_
              refine AO.calm rfl 68 rfl (by decide) (eI64 x20) (Calm.move rfl rfl) ?_
              refine AO.calm rfl 69 rfl (by decide) (eBool (decide (t21 = x20))) (Calm.int rfl rfl rfl rfl) ?_
              refine AO.calm rfl 4 rfl (by decide) (eBool (decide (t21 = x20))) (Calm.assign rfl rfl) ?_
              refine AO.nil (ρ' := [(4, (eBool (decide (t21 = x20))))]) (H' := []) ⟨rfl, trivial⟩ (Sub.refl _) ?_
              refine AW.ret (ρ' := [(4, (eBool (decide (t21 = x20))))]) (H' := []) ⟨rfl, trivial⟩ (Sub.refl _) ?_
              have hr := Option.some.inj h
              subst hr
              exact ⟨[(eBool (decide (t21 = x20)))], ⟨rfl, rfl, trivial⟩, rfl⟩
end Go.Avl.T2
