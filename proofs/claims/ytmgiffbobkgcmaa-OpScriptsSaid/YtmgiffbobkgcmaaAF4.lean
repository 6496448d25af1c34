/- Parts: T2f49, T2f9, T2f72, T2f50, T2f51, T2f52, T2f10. -/
import Derived.Test.YtmgiffbobkgcmaaAF1
import Derived.Test.YtmgiffbobkgcmaaAF3
import Derived.Test.YtmgiffbobkgcmaaAF2
import Derived.Test.YtmgiffbobkgcmaaAv3
import Derived.RangeFuncBound
/- bosket/bosketref47.Read; printed by avmain.py. -/
namespace Go.Avl.T2
open Go Go.RowKit Go.Proofs Go.Avl
set_option linter.unusedVariables false
set_option maxRecDepth 100000
set_option maxHeartbeats 4000000
attribute [local irreducible] AW AO AQ Spec SpecH Calm

def bosketref47_Read_c0 (k : Nat) : Option (S60 × Bool) :=
  some ((S60.mk (0 : Int) (0 : Int) ByteArray.empty), false)
def bosketref47_Read_c1 (k : Nat) (rec4 : (Int → Option (S60 × Bool))) (x3 : Int) : Option (S60 × Bool) :=
  rec4 (w64 (x3 + (1 : Int)))
def bosketref47_Read_c2 (k : Nat) (rec4 : (Int → Option (S60 × Bool))) (p0 : ByteArray) (x3 : Int) (x15 : ByteArray) (x17 : Int) : Option (S60 × Bool) :=
  (bosketref47_Line k (S60.mk x3 x17 x15)).bind fun t18 =>
  if t18 = p0 then some ((S60.mk x3 x17 x15), true)
  else bosketref47_Read_c1 k rec4 x3
def bosketref47_Read_c3 (k : Nat) (rec4 : (Int → Option (S60 × Bool))) (p0 : ByteArray) (x3 : Int) (x15 : ByteArray) (x16 : ByteArray) : Option (S60 × Bool) :=
  if (0 : Int) < (x16.size : Int) then if 0 ≤ (1 : Int) ∧ (1 : Int) ≤ (x16.size : Int) ∧ (x16.size : Int) ≤ (x16.size : Int) then (bosketref13_Number k (x16.extract (1 : Int).toNat (x16.size : Int).toNat)).bind fun t22 =>
  bosketref47_Read_c2 k rec4 p0 x3 x15 t22.1
  else none
  else bosketref47_Read_c2 k rec4 p0 x3 x15 (0 : Int)
def bosketref47_Read_l4 (k : Nat) (p0 : ByteArray) : Nat → Int → Option (S60 × Bool)
  | 0, _ => none
  | j + 1, x3 =>
    if x3 ≤ (11 : Int) then (bosketref47_Form k x3).bind fun t7 =>
    Option.bind (α := Bool) (if (p0.size : Int) < (t7.1.size : Int) then some (true)
    else if 0 ≤ (0 : Int) ∧ (0 : Int) ≤ (t7.1.size : Int) ∧ (t7.1.size : Int) ≤ (p0.size : Int) then some (decide ((p0.extract (0 : Int).toNat (t7.1.size : Int).toNat) ≠ t7.1))
    else none) fun b8 =>
    if b8 = true then bosketref47_Read_c1 k (bosketref47_Read_l4 k p0 j) x3
    else if 0 ≤ (t7.1.size : Int) ∧ (t7.1.size : Int) ≤ (p0.size : Int) ∧ (p0.size : Int) ≤ (p0.size : Int) then Option.bind (α := Bool) (if t7.2.1 = true then some (decide ((0 : Int) < ((p0.extract (t7.1.size : Int).toNat (p0.size : Int).toNat).size : Int)))
    else some (false)) fun b23 =>
    if b23 = true then if 0 ≤ (1 : Int) ∧ (1 : Int) ≤ ((p0.extract (t7.1.size : Int).toNat (p0.size : Int).toNat).size : Int) ∧ ((p0.extract (t7.1.size : Int).toNat (p0.size : Int).toNat).size : Int) ≤ ((p0.extract (t7.1.size : Int).toNat (p0.size : Int).toNat).size : Int) then (bosketref03_Unquote k ((p0.extract (t7.1.size : Int).toNat (p0.size : Int).toNat).extract (1 : Int).toNat ((p0.extract (t7.1.size : Int).toNat (p0.size : Int).toNat).size : Int).toNat) (34 : Int)).bind fun t28 =>
    if (!t28.2.2) = true then bosketref47_Read_c1 k (bosketref47_Read_l4 k p0 j) x3
    else if 0 ≤ (w64 ((1 : Int) + t28.2.1)) ∧ (w64 ((1 : Int) + t28.2.1)) ≤ ((p0.extract (t7.1.size : Int).toNat (p0.size : Int).toNat).size : Int) ∧ ((p0.extract (t7.1.size : Int).toNat (p0.size : Int).toNat).size : Int) ≤ ((p0.extract (t7.1.size : Int).toNat (p0.size : Int).toNat).size : Int) then (some ((p0.extract (t7.1.size : Int).toNat (p0.size : Int).toNat).extract (w64 ((1 : Int) + t28.2.1)).toNat ((p0.extract (t7.1.size : Int).toNat (p0.size : Int).toNat).size : Int).toNat)).bind fun x31 =>
    bosketref47_Read_c3 k (bosketref47_Read_l4 k p0 j) p0 x3 t28.1 x31
    else none
    else none
    else bosketref47_Read_c3 k (bosketref47_Read_l4 k p0 j) p0 x3 ByteArray.empty (p0.extract (t7.1.size : Int).toNat (p0.size : Int).toNat)
    else none
    else bosketref47_Read_c0 k
def bosketref47_Read (k : Nat) (p0 : ByteArray) : Option (S60 × Bool) :=
  bosketref47_Read_l4 k p0 k (1 : Int)
theorem bosketref47_Read_spec {k : Nat} {p0 : ByteArray} {r : (S60 × Bool)} (h : bosketref47_Read k p0 = some r) : Spec Try.prog 49 [(eStr p0)] (.tup [(e60 r.1), (eBool r.2)]) := by
  rw [bosketref47_Read.eq_1] at h
  refine Spec.intro (res := [.cell 2 60, .tmp 3]) Try.func49 rfl rfl rfl (Nat.le_of_ble_eq_true rfl) ?_
  refine AW.sr ?_
  refine AO.alloc rfl 2 rfl (by decide) rfl zr60 lay60 fun n2 => ?_
  refine AO.c (Calm.assign rfl rfl) ?_
  refine AO.nK [0, 2] ?_
  refine AW.seq_mid (fun ρ H => ρ = [(2, (.ptr n2 0))] ∧ H = [(n2, (.mem (.st [(1, (eI64 (0 : Int))), (1, (eI64 (0 : Int))), (1, (eStr ByteArray.empty))])))] ∧ bosketref47_Read_c0 k = some r) ?_ ?_
  ·refine AW.sr ?_
   refine AO.c (Calm.assign rfl rfl) ?_
   refine AO.nK [0, 2, 4] ?_
   refine AW.block ?_
   refine AW.wK [0, 2, 4] ?_
   refine AW.loop (fun kq ρ H => ∃ (x3 : Int), ρ = [(0, (eStr p0)), (2, (.ptr n2 0)), (4, (eI64 x3))] ∧ H = [(n2, (.mem (.st [(1, (eI64 (0 : Int))), (1, (eI64 (0 : Int))), (1, (eStr ByteArray.empty))])))] ∧ bosketref47_Read_l4 k p0 kq x3 = some r) k ⟨(1 : Int), rfl, rfl, h⟩ ?_
   rintro kq5 _ _ ⟨x3, rfl, rfl, h⟩
   cases kq5 with
   | zero => rw [bosketref47_Read_l4.eq_1] at h; cases h
   | succ kq5 =>
   rw [bosketref47_Read_l4.eq_2] at h
   generalize hrec4 : bosketref47_Read_l4 k p0 kq5 = rec4 at h
   refine AW.seq ?_
   refine AW.sr ?_
   refine AO.c (Calm.move rfl rfl) ?_
   refine AO.c (x := eBool (decide (x3 ≤ (11 : Int)))) (Calm.int rfl rfl rfl rfl) ?_
   refine AO.nK [0, 2, 4, 14] ?_
   rcases of_ite h with ⟨hc6, h⟩ | ⟨hc6, h⟩
   ·refine AW.condP _ rfl hc6 ?_
    refine AW.sK [0, 2, 4] ?_
    refine AW.seq_mid (fun ρ H => ρ = [(0, (eStr p0)), (2, (.ptr n2 0)), (4, (eI64 x3))] ∧ H = [(n2, (.mem (.st [(1, (eI64 (0 : Int))), (1, (eI64 (0 : Int))), (1, (eStr ByteArray.empty))])))] ∧ bosketref47_Read_c1 k rec4 x3 = some r) ?_ ?_
    ·refine AW.block ?_
     refine AW.sr ?_
     refine AO.c (Calm.move rfl rfl) ?_
     obtain ⟨t7, et7, h⟩ := of_bind h
     refine AO.callS [(eI64 x3)] (.tup [(eStr t7.1), (eBool t7.2.1), (eBool t7.2.2)]) 19 rfl (by decide) ok41 rfl rfl rfl ⟨rfl, rfl, trivial⟩ (bosketref47_Form_spec et7) ?_
     refine AO.c (Calm.move rfl rfl) ?_
     refine AO.c (Calm.extract rfl rfl rfl) ?_
     refine AO.c (Calm.extract rfl rfl rfl) ?_
     refine AO.c (Calm.extract rfl rfl rfl) ?_
     refine AO.c (Calm.assign rfl rfl) ?_
     refine AO.c (Calm.assign rfl rfl) ?_
     refine AO.c (Calm.assign rfl rfl) ?_
     refine AO.nK [0, 2, 4, 5, 6] ?_
     refine AW.seq ?_
     refine AW.seq ?_
     obtain ⟨b8, hq9, h⟩ := of_bind h
     refine AW.regM [(0, (eStr p0)), (2, (.ptr n2 0)), (4, (eI64 x3)), (5, (eStr t7.1)), (6, (eBool t7.2.1)), (35, (eBool b8))] [(n2, (.mem (.st [(1, (eI64 (0 : Int))), (1, (eI64 (0 : Int))), (1, (eStr ByteArray.empty))])))] ?_ ?_
     ·refine AO.c (Calm.move rfl rfl) ?_
      refine AO.c (Calm.lenStr rfl rfl Try.underlying9) ?_
      refine AO.c (Calm.move rfl rfl) ?_
      refine AO.c (Calm.lenStr rfl rfl Try.underlying9) ?_
      refine AO.c (x := eBool (decide ((p0.size : Int) < (t7.1.size : Int)))) (Calm.int rfl rfl rfl rfl) ?_
      refine AO.c (Calm.move rfl rfl) ?_
      rcases of_ite hq9 with ⟨hc10, hq9⟩ | ⟨hc10, hq9⟩
      ·refine AO.sF rfl rfl (bD (decide_eq_true hc10)) ?_
       refine AO.sF rfl rfl (bD (decide_eq_true hc10)) ?_
       refine AO.sF rfl rfl (bD (decide_eq_true hc10)) ?_
       refine AO.sF rfl rfl (bD (decide_eq_true hc10)) ?_
       refine AO.sF rfl rfl (bD (decide_eq_true hc10)) ?_
       refine AO.sF rfl rfl (bD (decide_eq_true hc10)) ?_
       refine AO.c (Calm.pickT rfl (bD (decide_eq_true hc10)) rfl) ?_
       cases hq9
       refine AO.nilE ⟨rfl, rfl⟩ ?_ ?_
       · exact ⟨rfl, rfl, rfl, rfl, rfl, rfl, trivial⟩
       · exact (Sub.refl _)
      ·refine AO.cG rfl rfl (bD (decide_eq_false hc10)) (Calm.move rfl rfl) ?_
       refine AO.cG rfl rfl (bD (decide_eq_false hc10)) (Calm.move rfl rfl) ?_
       refine AO.cG rfl rfl (bD (decide_eq_false hc10)) (Calm.lenStr rfl rfl Try.underlying9) ?_
       obtain ⟨hg11, hq9⟩ := of_guard hq9
       refine AO.cG (x := eStr (p0.extract (0 : Int).toNat (t7.1.size : Int).toNat)) rfl rfl (bD (decide_eq_false hc10)) (Calm.sliceS rfl rfl rfl rfl hg11 Try.underlying9) ?_
       refine AO.cG rfl rfl (bD (decide_eq_false hc10)) (Calm.move rfl rfl) ?_
       refine AO.cG (x := eBool (decide ((p0.extract (0 : Int).toNat (t7.1.size : Int).toNat) ≠ t7.1))) rfl rfl (bD (decide_eq_false hc10)) (Calm.str rfl rfl rfl rfl) ?_
       refine AO.c (Calm.pickF rfl (bD (decide_eq_false hc10)) rfl) ?_
       cases hq9
       refine AO.nilE ⟨rfl, rfl⟩ ?_ ?_
       · exact ⟨rfl, rfl, rfl, rfl, rfl, rfl, trivial⟩
       · exact (Sub.refl _)
     ·rcases of_ite h with ⟨hc12, h⟩ | ⟨hc12, h⟩
      ·refine AW.condT' _ rfl hc12 ?_
       refine AW.eK [0, 2, 4] ?_
       exact ⟨rfl, rfl, h⟩
      ·refine AW.condF' _ rfl hc12 ?_
       refine AW.sK [0, 2, 4, 5, 6] ?_
       refine AW.sr ?_
       refine AO.c (Calm.move rfl rfl) ?_
       refine AO.c (x := .st [(1, (eI64 x3)), (1, (eI64 (0 : Int))), (1, (eStr ByteArray.empty))]) (Calm.build (qs := [(0, (eI64 x3))]) rfl ⟨rfl, rfl, rfl, trivial⟩ Try.underlying60 rfl zr60 lay60 (.cons rfl rfl rfl rfl (Put.cast (Put.fld0 Put.here) rfl) .nil) rfl) ?_
       refine AO.alloc rfl 8 rfl (by decide) rfl zr60 lay60 fun n13 => ?_
       refine AO.store (X' := (e60 (S60.mk x3 (0 : Int) ByteArray.empty))) 0 rfl rfl rfl rfl rfl rfl (Put.cast Put.here rfl) rfl rfl sz60 rfl ?_
       refine AO.nH [0, 2, 4, 5, 6, 8] (H' := [(n2, (.mem (.st [(1, (eI64 (0 : Int))), (1, (eI64 (0 : Int))), (1, (eStr ByteArray.empty))]))), (n13, (.mem (e60 (S60.mk x3 (0 : Int) ByteArray.empty))))]) (Sub.cons 1 rfl (Sub.cons 0 rfl (Sub.nil _))) ?_
       refine AW.sr ?_
       refine AO.c (Calm.move rfl rfl) ?_
       refine AO.c (Calm.move rfl rfl) ?_
       refine AO.c (Calm.lenStr rfl rfl Try.underlying9) ?_
       obtain ⟨hg14, h⟩ := of_guard h
       refine AO.c (x := eStr (p0.extract (t7.1.size : Int).toNat (p0.size : Int).toNat)) (Calm.sliceS rfl rfl rfl rfl hg14 Try.underlying9) ?_
       refine AO.c (Calm.assign rfl rfl) ?_
       refine AO.nK [0, 2, 4, 6, 8, 9] ?_
       refine AW.seq_mid (fun ρ H => ∃ (x15 : ByteArray) (x16 : ByteArray), ρ = [(0, (eStr p0)), (2, (.ptr n2 0)), (4, (eI64 x3)), (8, (.ptr n13 0)), (9, (eStr x16))] ∧ H = [(n2, (.mem (.st [(1, (eI64 (0 : Int))), (1, (eI64 (0 : Int))), (1, (eStr ByteArray.empty))]))), (n13, (.mem (.st [(1, (eI64 x3)), (1, (eI64 (0 : Int))), (1, (eStr x15))])))] ∧ bosketref47_Read_c3 k rec4 p0 x3 x15 x16 = some r) ?_ ?_
       ·refine AW.seq ?_
        obtain ⟨b23, hq24, h⟩ := of_bind h
        refine AW.regM [(0, (eStr p0)), (2, (.ptr n2 0)), (4, (eI64 x3)), (8, (.ptr n13 0)), (9, (eStr (p0.extract (t7.1.size : Int).toNat (p0.size : Int).toNat))), (47, (eBool b23))] [(n2, (.mem (.st [(1, (eI64 (0 : Int))), (1, (eI64 (0 : Int))), (1, (eStr ByteArray.empty))]))), (n13, (.mem (e60 (S60.mk x3 (0 : Int) ByteArray.empty))))] ?_ ?_
        ·refine AO.c (Calm.move rfl rfl) ?_
         refine AO.c (Calm.move rfl rfl) ?_
         rcases of_ite hq24 with ⟨hc25, hq24⟩ | ⟨hc25, hq24⟩
         ·refine AO.cG rfl rfl (bD hc25) (Calm.move rfl rfl) ?_
          refine AO.cG rfl rfl (bD hc25) (Calm.lenStr rfl rfl Try.underlying9) ?_
          refine AO.cG (x := eBool (decide ((0 : Int) < ((p0.extract (t7.1.size : Int).toNat (p0.size : Int).toNat).size : Int)))) rfl rfl (bD hc25) (Calm.int rfl rfl rfl rfl) ?_
          refine AO.c (Calm.pickT rfl (bD hc25) rfl) ?_
          cases hq24
          refine AO.nilE ⟨rfl, rfl⟩ ?_ ?_
          · exact ⟨rfl, rfl, rfl, rfl, rfl, rfl, trivial⟩
          · exact (Sub.refl _)
         ·refine AO.sT rfl rfl (bD (eq_false_of_ne_true hc25)) ?_
          refine AO.sT rfl rfl (bD (eq_false_of_ne_true hc25)) ?_
          refine AO.sT rfl rfl (bD (eq_false_of_ne_true hc25)) ?_
          refine AO.c (Calm.pickF rfl (bD (eq_false_of_ne_true hc25)) rfl) ?_
          cases hq24
          refine AO.nilE ⟨rfl, rfl⟩ ?_ ?_
          · exact ⟨rfl, rfl, rfl, rfl, rfl, rfl, trivial⟩
          · exact (Sub.refl _)
        ·rcases of_ite h with ⟨hc26, h⟩ | ⟨hc26, h⟩
         ·refine AW.condT' _ rfl hc26 ?_
          refine AW.sr ?_
          refine AO.c (Calm.move rfl rfl) ?_
          obtain ⟨hg27, h⟩ := of_guard h
          refine AO.c (x := eStr ((p0.extract (t7.1.size : Int).toNat (p0.size : Int).toNat).extract (1 : Int).toNat ((p0.extract (t7.1.size : Int).toNat (p0.size : Int).toNat).size : Int).toNat)) (Calm.sliceS rfl rfl rfl rfl hg27 Try.underlying9) ?_
          obtain ⟨t28, et28, h⟩ := of_bind h
          refine AO.callS [(eStr ((p0.extract (t7.1.size : Int).toNat (p0.size : Int).toNat).extract (1 : Int).toNat ((p0.extract (t7.1.size : Int).toNat (p0.size : Int).toNat).size : Int).toNat)), (eU8 (34 : Int))] (.tup [(eStr t28.1), (eI64 t28.2.1), (eBool t28.2.2)]) 51 rfl (by decide) ok70 rfl rfl rfl ⟨rfl, rfl, rfl, rfl, trivial⟩ (bosketref03_Unquote_spec et28) ?_
          refine AO.c (Calm.move rfl rfl) ?_
          refine AO.c (Calm.extract rfl rfl rfl) ?_
          refine AO.c (Calm.extract rfl rfl rfl) ?_
          refine AO.c (Calm.extract rfl rfl rfl) ?_
          refine AO.c (Calm.assign rfl rfl) ?_
          refine AO.c (Calm.assign rfl rfl) ?_
          refine AO.c (Calm.assign rfl rfl) ?_
          refine AO.nK [0, 2, 4, 8, 9, 10, 11, 12] ?_
          refine AW.seq ?_
          refine AW.sr ?_
          refine AO.c (Calm.move rfl rfl) ?_
          refine AO.c (Calm.not rfl rfl) ?_
          refine AO.nK [0, 2, 4, 8, 9, 10, 11, 56] ?_
          rcases of_ite h with ⟨hc29, h⟩ | ⟨hc29, h⟩
          ·refine AW.condT' _ rfl hc29 ?_
           refine AW.eH [0, 2, 4] (H' := [(n2, (.mem (.st [(1, (eI64 (0 : Int))), (1, (eI64 (0 : Int))), (1, (eStr ByteArray.empty))])))]) (Sub.cons 0 rfl (Sub.nil _)) ?_
           exact ⟨rfl, rfl, h⟩
          ·refine AW.condF' _ rfl hc29 ?_
           refine AW.sK [0, 2, 4, 8, 9, 10, 11] ?_
           refine AW.sr ?_
           refine AO.c (Calm.move rfl rfl) ?_
           refine AO.c (x := .ptr n13 2) (Calm.fldPtr rfl rfl Try.underlying60 rfl sz9 _ rfl) ?_
           refine AO.store (X' := (.st [(1, (eI64 x3)), (1, (eI64 (0 : Int))), (1, (eStr t28.1))])) 1 rfl rfl rfl rfl rfl rfl (Put.cast (Put.fldS (Put.fldS (Put.fld0 Put.here))) rfl) rfl rfl sz9 rfl ?_
           refine AO.nK [0, 2, 4, 8, 9, 11] ?_
           refine AW.reg ?_
           refine AO.c (Calm.move rfl rfl) ?_
           refine AO.c (Calm.move rfl rfl) ?_
           refine AO.c (x := eI64 (w64 ((1 : Int) + t28.2.1))) (Calm.int rfl rfl rfl rfl) ?_
           obtain ⟨hg30, h⟩ := of_guard h
           refine AO.c (x := eStr ((p0.extract (t7.1.size : Int).toNat (p0.size : Int).toNat).extract (w64 ((1 : Int) + t28.2.1)).toNat ((p0.extract (t7.1.size : Int).toNat (p0.size : Int).toNat).size : Int).toNat)) (Calm.sliceS rfl rfl rfl rfl hg30 Try.underlying9) ?_
           obtain ⟨x31, ex31, h⟩ := of_bind h
           refine AO.c (Calm.assign rfl (congrArg (fun x => some (eStr x)) (Option.some.inj ex31))) ?_
           refine AO.nK [0, 2, 4, 8, 9] ?_
           exact ⟨t28.1, x31, rfl, rfl, h⟩
         ·refine AW.condF' _ rfl hc26 ?_
          refine AW.sK [0, 2, 4, 8, 9] ?_
          exact ⟨ByteArray.empty, (p0.extract (t7.1.size : Int).toNat (p0.size : Int).toNat), rfl, rfl, h⟩
       ·rintro _ _ ⟨x15, x16, rfl, rfl, h⟩
        rw [bosketref47_Read_c3.eq_1] at h
        refine AW.seq_mid (fun ρ H => ∃ (x17 : Int), ρ = [(0, (eStr p0)), (2, (.ptr n2 0)), (4, (eI64 x3)), (8, (.ptr n13 0))] ∧ H = [(n2, (.mem (.st [(1, (eI64 (0 : Int))), (1, (eI64 (0 : Int))), (1, (eStr ByteArray.empty))]))), (n13, (.mem (.st [(1, (eI64 x3)), (1, (eI64 x17)), (1, (eStr x15))])))] ∧ bosketref47_Read_c2 k rec4 p0 x3 x15 x17 = some r) ?_ ?_
        ·refine AW.sr ?_
         refine AO.c (Calm.move rfl rfl) ?_
         refine AO.c (Calm.lenStr rfl rfl Try.underlying9) ?_
         refine AO.c (x := eBool (decide ((0 : Int) < (x16.size : Int)))) (Calm.int rfl rfl rfl rfl) ?_
         refine AO.nK [0, 2, 4, 8, 9, 65] ?_
         rcases of_ite h with ⟨hc20, h⟩ | ⟨hc20, h⟩
         ·refine AW.condP _ rfl hc20 ?_
          refine AW.reg ?_
          refine AO.c (Calm.move rfl rfl) ?_
          obtain ⟨hg21, h⟩ := of_guard h
          refine AO.c (x := eStr (x16.extract (1 : Int).toNat (x16.size : Int).toNat)) (Calm.sliceS rfl rfl rfl rfl hg21 Try.underlying9) ?_
          obtain ⟨t22, et22, h⟩ := of_bind h
          refine AO.callS [(eStr (x16.extract (1 : Int).toNat (x16.size : Int).toNat))] (.tup [(eI64 t22.1), (eBool t22.2)]) 69 rfl (by decide) ok17 rfl rfl rfl ⟨rfl, rfl, trivial⟩ (bosketref13_Number_spec et22) ?_
          refine AO.c (Calm.move rfl rfl) ?_
          refine AO.c (Calm.extract rfl rfl rfl) ?_
          refine AO.c (Calm.extract rfl rfl rfl) ?_
          refine AO.c (x := .ptr n13 1) (Calm.fldPtr rfl rfl Try.underlying60 rfl sz3 _ rfl) ?_
          refine AO.store (X' := (.st [(1, (eI64 x3)), (1, (eI64 t22.1)), (1, (eStr x15))])) 1 rfl rfl rfl rfl rfl rfl (Put.cast (Put.fldS (Put.fld0 Put.here)) rfl) rfl rfl sz3 rfl ?_
          refine AO.nK [0, 2, 4, 8] ?_
          exact ⟨t22.1, rfl, rfl, h⟩
         ·refine AW.condN _ rfl hc20 ?_
          refine AW.sK [0, 2, 4, 8] ?_
          exact ⟨(0 : Int), rfl, rfl, h⟩
        ·rintro _ _ ⟨x17, rfl, rfl, h⟩
         rw [bosketref47_Read_c2.eq_1] at h
         refine AW.sr ?_
         refine AO.c (Calm.load 1 rfl rfl rfl (At.cast At.here rfl) ag60 sz60) ?_
         obtain ⟨t18, et18, h⟩ := of_bind h
         refine AO.callS [(e60 (S60.mk x3 x17 x15))] (eStr t18) 74 rfl (by decide) ok46 rfl rfl rfl ⟨rfl, rfl, trivial⟩ (bosketref47_Line_spec et18) ?_
         refine AO.c (Calm.move rfl rfl) ?_
         refine AO.c (x := eBool (decide (t18 = p0))) (Calm.str rfl rfl rfl rfl) ?_
         refine AO.nK [0, 2, 4, 8, 76] ?_
         rcases of_ite h with ⟨hc19, h⟩ | ⟨hc19, h⟩
         ·refine AW.condP _ rfl hc19 ?_
          refine AW.sr ?_
          refine AO.c (Calm.load 1 rfl rfl rfl (At.cast At.here rfl) ag60 sz60) ?_
          refine AO.store (X' := (e60 (S60.mk x3 x17 x15))) 0 rfl rfl rfl rfl rfl rfl (Put.cast Put.here rfl) rfl rfl sz60 rfl ?_
          refine AO.c (Calm.assign rfl rfl) ?_
          refine AO.nH [2, 3] (H' := [(n2, (.mem (e60 (S60.mk x3 x17 x15))))]) (Sub.cons 0 rfl (Sub.nil _)) ?_
          refine AW.rK [2, 3] ?_
          have hr := Option.some.inj h
          subst hr
          exact ⟨[(e60 (S60.mk x3 x17 x15)), (eBool true)], ⟨⟨_, 0, rfl, rfl, ag60, sz60⟩, rfl, rfl, trivial⟩, rfl⟩
         ·refine AW.condN _ rfl hc19 ?_
          refine AW.sH [0, 2, 4] (H' := [(n2, (.mem (.st [(1, (eI64 (0 : Int))), (1, (eI64 (0 : Int))), (1, (eStr ByteArray.empty))])))]) (Sub.cons 0 rfl (Sub.nil _)) ?_
          exact ⟨rfl, rfl, h⟩
    ·rintro _ _ ⟨rfl, rfl, h⟩
     rw [bosketref47_Read_c1.eq_1] at h
     refine AW.reg ?_
     refine AO.c (Calm.move rfl rfl) ?_
     refine AO.c (x := eI64 (w64 (x3 + (1 : Int)))) (Calm.int rfl rfl rfl rfl) ?_
     refine AO.c (Calm.assign rfl rfl) ?_
     refine AO.nK [0, 2, 4] ?_
     exact ⟨kq5, Nat.lt_succ_self _, (w64 (x3 + (1 : Int))), rfl, rfl, by rw [hrec4]; exact h⟩
   ·refine AW.condN _ rfl hc6 ?_
    refine AW.eK [2] ?_
    exact ⟨rfl, rfl, h⟩
  ·rintro _ _ ⟨rfl, rfl, h⟩
   rw [bosketref47_Read_c0.eq_1] at h
   refine AW.sr ?_
   refine AO.c (x := .st [(1, (eI64 (0 : Int))), (1, (eI64 (0 : Int))), (1, (eStr ByteArray.empty))]) (Calm.build (qs := []) rfl trivial Try.underlying60 rfl zr60 lay60 .nil rfl) ?_
   refine AO.store (X' := (e60 (S60.mk (0 : Int) (0 : Int) ByteArray.empty))) 0 rfl rfl rfl rfl rfl rfl (Put.cast Put.here rfl) rfl rfl sz60 rfl ?_
   refine AO.c (Calm.assign rfl rfl) ?_
   refine AO.nK [2, 3] ?_
   refine AW.rK [2, 3] ?_
   have hr := Option.some.inj h
   subst hr
   exact ⟨[(e60 (S60.mk (0 : Int) (0 : Int) ByteArray.empty)), (eBool false)], ⟨⟨_, 0, rfl, rfl, ag60, sz60⟩, rfl, rfl, trivial⟩, rfl⟩
end Go.Avl.T2
/- bosket/bosketlaw47.OpReads; printed by avmain.py. -/
namespace Go.Avl.T2
open Go Go.RowKit Go.Proofs Go.Avl
set_option linter.unusedVariables false
set_option maxRecDepth 100000
set_option maxHeartbeats 4000000
attribute [local irreducible] AW AO AQ Spec SpecH Calm

end Go.Avl.T2
/- bosket/bosketref13.Lines; printed by avmain.py. -/
namespace Go.Avl.T2
open Go Go.RowKit Go.Proofs Go.Avl
set_option linter.unusedVariables false
set_option maxRecDepth 100000
set_option maxHeartbeats 4000000
attribute [local irreducible] AW AO AQ Spec SpecH Calm

def bosketref13_Lines_c0 (k : Nat) (p0 : ByteArray) (x3 : (List ByteArray)) (x4 : Int) : Option (List ByteArray) :=
  if 0 ≤ x4 ∧ x4 ≤ (p0.size : Int) ∧ (p0.size : Int) ≤ (p0.size : Int) then if (x3 ++ ([(p0.extract x4.toNat (p0.size : Int).toNat)] : List ByteArray)).length * 16 ≤ 140737488355328 then some ((x3 ++ ([(p0.extract x4.toNat (p0.size : Int).toNat)] : List ByteArray)))
  else none
  else none
def bosketref13_Lines_c1 (k : Nat) (rec13 : ((List ByteArray) → Int → Int → Option (List ByteArray))) (x12 : Int) (x17 : (List ByteArray)) (x18 : Int) : Option (List ByteArray) :=
  rec13 x17 x18 (w64 (x12 + (1 : Int)))
def bosketref13_Lines_l2 (k : Nat) (p0 : ByteArray) : Nat → (List ByteArray) → Int → Int → Option (List ByteArray)
  | 0, _, _, _ => none
  | j + 1, x10, x11, x12 =>
    if x12 < (p0.size : Int) then if 0 ≤ x12 ∧ x12 < (p0.size : Int) then if (byteAt p0 x12) = (10 : Int) then if 0 ≤ x11 ∧ x11 ≤ x12 ∧ x12 ≤ (p0.size : Int) then if (x10 ++ ([(p0.extract x11.toNat x12.toNat)] : List ByteArray)).length * 16 ≤ 140737488355328 then bosketref13_Lines_c1 k (bosketref13_Lines_l2 k p0 j) x12 (x10 ++ ([(p0.extract x11.toNat x12.toNat)] : List ByteArray)) (w64 (x12 + (1 : Int)))
    else none
    else none
    else bosketref13_Lines_c1 k (bosketref13_Lines_l2 k p0 j) x12 x10 x11
    else none
    else bosketref13_Lines_c0 k p0 x10 x11
def bosketref13_Lines (k : Nat) (p0 : ByteArray) : Option (List ByteArray) :=
  bosketref13_Lines_l2 k p0 k ([] : List ByteArray) (0 : Int) (0 : Int)
theorem bosketref13_Lines_spec {k : Nat} {p0 : ByteArray} {r : (List ByteArray)} (h : bosketref13_Lines k p0 = some r) : Spec Try.prog 72 [(eStr p0)] (e45 r) := by
  rw [bosketref13_Lines.eq_1] at h
  refine Spec.intro (res := [.tmp 2]) Try.func72 rfl rfl rfl (Nat.le_of_ble_eq_true rfl) ?_
  refine AW.sr ?_
  refine AO.c (Calm.assign rfl rfl) ?_
  refine AO.nK [0] ?_
  refine AW.sr ?_
  refine AO.c (Calm.assign rfl rfl) ?_
  refine AO.nK [0, 3] ?_
  refine AW.sr ?_
  refine AO.c (Calm.assign rfl rfl) ?_
  refine AO.nK [0, 3, 4] ?_
  refine AW.seq_mid (fun ρ H => ∃ (n2 : Nat) (x3 : (List ByteArray)) (x4 : Int), ρ = [(0, (eStr p0)), (3, (.own n2 0 x3.length)), (4, (eI64 x4))] ∧ H = [(n2, (.mem (.ar 1 (x3.map eStr))))] ∧ bosketref13_Lines_c0 k p0 x3 x4 = some r) ?_ ?_
  ·refine AW.sr ?_
   refine AO.c (Calm.assign rfl rfl) ?_
   refine AO.nK [0, 3, 4, 5] ?_
   refine AW.block ?_
   refine AW.nilOwn 3 1 rfl fun n25 => ?_
   refine AW.wK [0, 3, 4, 5] ?_
   refine AW.loop (fun kq ρ H => ∃ (n9 : Nat) (x10 : (List ByteArray)) (x11 : Int) (x12 : Int), ρ = [(0, (eStr p0)), (3, (.own n9 0 x10.length)), (4, (eI64 x11)), (5, (eI64 x12))] ∧ H = [(n9, (.mem (.ar 1 (x10.map eStr))))] ∧ bosketref13_Lines_l2 k p0 kq x10 x11 x12 = some r) k ⟨n25, ([] : List ByteArray), (0 : Int), (0 : Int), rfl, rfl, h⟩ ?_
   rintro kq14 _ _ ⟨n9, x10, x11, x12, rfl, rfl, h⟩
   cases kq14 with
   | zero => rw [bosketref13_Lines_l2.eq_1] at h; cases h
   | succ kq14 =>
   rw [bosketref13_Lines_l2.eq_2] at h
   generalize hrec13 : bosketref13_Lines_l2 k p0 kq14 = rec13 at h
   refine AW.seq ?_
   refine AW.sr ?_
   refine AO.c (Calm.move rfl rfl) ?_
   refine AO.c (Calm.move rfl rfl) ?_
   refine AO.c (Calm.lenStr rfl rfl Try.underlying9) ?_
   refine AO.c (x := eBool (decide (x12 < (p0.size : Int)))) (Calm.int rfl rfl rfl rfl) ?_
   refine AO.nK [0, 3, 4, 5, 9] ?_
   rcases of_ite h with ⟨hc15, h⟩ | ⟨hc15, h⟩
   ·refine AW.condP _ rfl hc15 ?_
    refine AW.sK [0, 3, 4, 5] ?_
    refine AW.seq_mid (fun ρ H => ∃ (n16 : Nat) (x17 : (List ByteArray)) (x18 : Int), ρ = [(0, (eStr p0)), (3, (.own n16 0 x17.length)), (4, (eI64 x18)), (5, (eI64 x12))] ∧ H = [(n16, (.mem (.ar 1 (x17.map eStr))))] ∧ bosketref13_Lines_c1 k rec13 x12 x17 x18 = some r) ?_ ?_
    ·refine AW.block ?_
     refine AW.sr ?_
     refine AO.c (Calm.move rfl rfl) ?_
     refine AO.c (Calm.move rfl rfl) ?_
     obtain ⟨hg19, h⟩ := of_guard h
     refine AO.c (x := eU8 (byteAt p0 x12)) (Calm.idxS rfl rfl rfl hg19 Try.underlying9) ?_
     refine AO.c (x := eBool (decide ((byteAt p0 x12) = (10 : Int)))) (Calm.int rfl rfl rfl rfl) ?_
     refine AO.nK [0, 3, 4, 5, 15] ?_
     rcases of_ite h with ⟨hc20, h⟩ | ⟨hc20, h⟩
     ·refine AW.condP _ rfl hc20 ?_
      refine AW.sr ?_
      refine AO.c (Calm.move rfl rfl) ?_
      refine AO.c (Calm.move rfl rfl) ?_
      refine AO.c (Calm.move rfl rfl) ?_
      refine AO.c (Calm.move rfl rfl) ?_
      obtain ⟨hg21, h⟩ := of_guard h
      refine AO.c (x := eStr (p0.extract x11.toNat x12.toNat)) (Calm.sliceS rfl rfl rfl rfl hg21 Try.underlying9) ?_
      refine AO.lit (Z := (eStr ByteArray.empty)) (xs := (([(p0.extract x11.toNat x12.toNat)] : List ByteArray).map eStr)) (qs := [(0, (eStr (p0.extract x11.toNat x12.toNat)))]) rfl 21 rfl (by decide) rfl ⟨rfl, rfl, rfl, trivial⟩ Try.underlying45 sz9 zr9 lay9 rfl (by decide) (litOK (z := 1) [(eStr (p0.extract x11.toNat x12.toNat))] rfl ⟨⟨rfl, rfl⟩, trivial⟩) rfl fun n22 => ?_
      obtain ⟨hg24, h⟩ := of_guard h
      refine AO.appendL (l := x10) (m := ([(p0.extract x11.toNat x12.toNat)] : List ByteArray)) 1 22 rfl (by decide) rfl rfl rfl rfl rfl (Src.ownL (f := eStr) (l := ([(p0.extract x11.toNat x12.toNat)] : List ByteArray)) 0 rfl) Try.underlying45 Try.underlying45 sz9 by9 zr9 rfl hg24 (by decide) fun n23 => ?_
      refine AO.c (Calm.assign rfl rfl) ?_
      refine AO.nH [0, 3, 5] (H' := [(n23, (.mem (.ar 1 ((x10 ++ ([(p0.extract x11.toNat x12.toNat)] : List ByteArray)).map eStr))))]) (Sub.cons 1 rfl (Sub.nil _)) ?_
      refine AW.reg ?_
      refine AO.c (Calm.move rfl rfl) ?_
      refine AO.c (x := eI64 (w64 (x12 + (1 : Int)))) (Calm.int rfl rfl rfl rfl) ?_
      refine AO.c (Calm.assign rfl rfl) ?_
      refine AO.nK [0, 3, 4, 5] ?_
      exact ⟨n23, (x10 ++ ([(p0.extract x11.toNat x12.toNat)] : List ByteArray)), (w64 (x12 + (1 : Int))), rfl, rfl, h⟩
     ·refine AW.condN _ rfl hc20 ?_
      refine AW.sK [0, 3, 4, 5] ?_
      exact ⟨n9, x10, x11, rfl, rfl, h⟩
    ·rintro _ _ ⟨n16, x17, x18, rfl, rfl, h⟩
     rw [bosketref13_Lines_c1.eq_1] at h
     refine AW.reg ?_
     refine AO.c (Calm.move rfl rfl) ?_
     refine AO.c (x := eI64 (w64 (x12 + (1 : Int)))) (Calm.int rfl rfl rfl rfl) ?_
     refine AO.c (Calm.assign rfl rfl) ?_
     refine AO.nK [0, 3, 4, 5] ?_
     exact ⟨kq14, Nat.lt_succ_self _, n16, x17, x18, (w64 (x12 + (1 : Int))), rfl, rfl, by rw [hrec13]; exact h⟩
   ·refine AW.condN _ rfl hc15 ?_
    refine AW.eK [0, 3, 4] ?_
    exact ⟨n9, x10, x11, rfl, rfl, h⟩
  ·rintro _ _ ⟨n2, x3, x4, rfl, rfl, h⟩
   rw [bosketref13_Lines_c0.eq_1] at h
   refine AW.sr ?_
   refine AO.c (Calm.move rfl rfl) ?_
   refine AO.c (Calm.move rfl rfl) ?_
   refine AO.c (Calm.move rfl rfl) ?_
   obtain ⟨hg5, h⟩ := of_guard h
   refine AO.c (x := eStr (p0.extract x4.toNat (p0.size : Int).toNat)) (Calm.sliceS rfl rfl rfl rfl hg5 Try.underlying9) ?_
   refine AO.lit (Z := (eStr ByteArray.empty)) (xs := (([(p0.extract x4.toNat (p0.size : Int).toNat)] : List ByteArray).map eStr)) (qs := [(0, (eStr (p0.extract x4.toNat (p0.size : Int).toNat)))]) rfl 29 rfl (by decide) rfl ⟨rfl, rfl, rfl, trivial⟩ Try.underlying45 sz9 zr9 lay9 rfl (by decide) (litOK (z := 1) [(eStr (p0.extract x4.toNat (p0.size : Int).toNat))] rfl ⟨⟨rfl, rfl⟩, trivial⟩) rfl fun n6 => ?_
   obtain ⟨hg8, h⟩ := of_guard h
   refine AO.appendL (l := x3) (m := ([(p0.extract x4.toNat (p0.size : Int).toNat)] : List ByteArray)) 1 30 rfl (by decide) rfl rfl rfl rfl rfl (Src.ownL (f := eStr) (l := ([(p0.extract x4.toNat (p0.size : Int).toNat)] : List ByteArray)) 0 rfl) Try.underlying45 Try.underlying45 sz9 by9 zr9 rfl hg8 (by decide) fun n7 => ?_
   refine AO.c (Calm.assign rfl rfl) ?_
   refine AO.nH [2] (H' := [(n7, (.mem (.ar 1 ((x3 ++ ([(p0.extract x4.toNat (p0.size : Int).toNat)] : List ByteArray)).map eStr))))]) (Sub.cons 1 rfl (Sub.nil _)) ?_
   refine AW.freezeS 0 [(2, (.fz 1 ((x3 ++ ([(p0.extract x4.toNat (p0.size : Int).toNat)] : List ByteArray)).map eStr)))] rfl ⟨fz_all rfl, trivial⟩ ?_
   refine AW.rK [2] ?_
   have hr := Option.some.inj h
   subst hr
   exact ⟨[(.fz 1 ((x3 ++ ([(p0.extract x4.toNat (p0.size : Int).toNat)] : List ByteArray)).map eStr))], ⟨rfl, rfl, trivial⟩, rfl⟩
end Go.Avl.T2
/- op.Script, by hand: what it computes, and its walk. -/
namespace Go.Avl.T2
open Go Go.RowKit Go.Proofs Go.Avl
set_option linter.all false
set_option maxRecDepth 100000
set_option maxHeartbeats 4000000
attribute [local irreducible] AW AO AQ Spec SpecH Calm AWI

def op_Script_c (rec_ : ByteArray → Int → List S55 → Option (List S55 × Int × Int)) (t : ByteArray × ByteArray × Bool) (n : Int) (out : List S55) : Option (List S55 × Int × Int) :=
  if t.2.2 = true then rec_ t.2.1 (w64 (n + 1)) out else some (out, 0, 0)
def op_Script_l (k : Nat) : Nat → ByteArray → Int → List S55 → Option (List S55 × Int × Int)
  | 0, _, _, _ => none
  | j + 1, s, n, out =>
    (strings_Cut k s (ByteArray.mk #[10])).bind fun t =>
    if t.1 = ByteArray.mk #[] ∨ byteAt t.1 0 = 35 then op_Script_c (op_Script_l k j) t n out
    else (op_Read k t.1).bind fun r =>
    if r.2 ≠ (0 : Int) then some ([], n, r.2)
    else if (out ++ [r.1]).length * 32 ≤ 140737488355328 then op_Script_c (op_Script_l k j) t n (out ++ [r.1])
    else none
def op_Script (k : Nat) (p0 : ByteArray) : Option (List S55 × Int × Int) := op_Script_l k k p0 1 []
theorem sz70q : tySize Try.prog 70 = some 1 := by rfl
theorem ag70q : tyAgg Try.prog 70 = some false := by rfl
theorem zr70q : tyZero Try.prog 70 = some ([.slice none 0 0]) := by rfl
theorem lay70q : ∀ g, Sim g (.fl (.slice none 0 0)) ([.slice none 0 0]) := fun g => (lay_fl rfl)
theorem zr3q : tyZero Try.prog 3 = some ([.int .i64 0]) := by rfl
theorem lay3q : ∀ g, Sim g (eI64 0) ([.int .i64 0]) := fun g => (lay_fl rfl)
theorem sz28q : tySize Try.prog 28 = some 1 := by rfl
theorem zr28q : tyZero Try.prog 28 = some ([.int .i64 0]) := by rfl
theorem ag28q : tyAgg Try.prog 28 = some false := by rfl
theorem by55q : tyBytes Try.prog 55 = some 32 := by rfl

/-- The objects beside the loop's own. -/
def Hs (ns n2 n3 n4 n5 no : Nat) (s : ByteArray) (i e : Int) (out : List S55) : Heap :=
  [(ns, .mem (eStr s)), (n2, .mem (.fl (.slice none 0 0))), (n3, .mem (eI64 i)), (n4, .mem (eI64 e)), (n5, .mem (.own no 0 out.length)), (no, .mem (.ar 3 (out.map e55)))]
/-- What a round leaves. -/
def RS (k j : Nat) (res : List S55 × Int × Int) (nl nd ns n2 n3 n4 n5 : Nat) (r : Loop) (s : ByteArray) (t : ByteArray × ByteArray × Bool) (n : Int) (out : List S55) (jump : Option Code) (H : Heap) : Prop :=
  match jump with
  | none => ∃ out' no', H = (nl, .raw (.loop r)) :: (nd, .raw (.deferred (some []))) :: Hs ns n2 n3 n4 n5 no' s 0 0 out' ∧ op_Script_c (op_Script_l k j) t n out' = some res
  | some c => c = .ret ∧ ∃ no' out', H = (nl, .raw (.loop { r with state := .done, pending := some .ret })) :: (nd, .raw (.deferred (some []))) :: Hs ns n2 n3 n4 n5 no' s res.2.1 res.2.2 out' ∧ res.1 = []
def codeA : Option Code → Code
  | some (.seq _ (.seq _ (.seq (.seq _ (.block _ (.rangeFunc _ _ a _))) _))) => a
  | _ => .skip
def codeB : Option Code → Code
  | some (.seq _ (.seq _ (.seq (.seq _ (.block _ (.rangeFunc _ _ _ b))) _))) => b
  | _ => .skip
def codeR : Code → Code
  | .block _ (.seq _ c) => c
  | _ => .skip
def codeL : Code → List Oper
  | .block _ (.seq (.seq (.region _ l _) _) _) => l.toList
  | _ => []

theorem Then.ex {id : Nat} {K : Env → Heap → Prop} {Q : Exit → Env → Heap → Prop} {ρ : Env} {H : Heap} (h : Q (.exit id) ρ H) : Then K Q (.exit id) ρ H := h
theorem InBlock.hit {id : Nat} {Q : Exit → Env → Heap → Prop} {ρ : Env} {H : Heap} (h : Q .normal ρ H) : InBlock id Q (.exit id) ρ H := by simp [InBlock, h]
theorem round_assign (g : G) (l n2 n3 n4 n5 : Nat) (n : Int) (line : ByteArray) (Q : Env → Heap → Prop) (H : Heap) (h : Q [(2, .ptr n2 0), (3, .ptr n3 0), (4, .ptr n4 0), (5, .ptr n5 0), (6, eI64 n), (7, eStr line)] H) :
    AWI g (Fence.wide.inRound l) Try.prog 35 (codeA Try.f50.body) (Then Q (fun _ _ _ => False)) [(13, eStr line), (12, eI64 n), (2, .ptr n2 0), (3, .ptr n3 0), (4, .ptr n4 0), (5, .ptr n5 0)] H := by
  show AWI _ _ _ _ (.seq _ _) _ _ _
  refine AWI.sr (open_round _ _) rfl ?_
  refine AO.c (Calm.assign rfl rfl) ?_
  refine AO.nK [2, 3, 4, 5, 6, 13] ?_
  refine AWI.rg (open_round _ _) rfl ?_
  refine AO.c (Calm.assign rfl rfl) ?_
  refine AO.nK [2, 3, 4, 5, 6, 7] ?_
  exact h
theorem round_body {k j : Nat} {res : List S55 × Int × Int} (g : G) (l nl nd ns n2 n3 n4 n5 no : Nat) (r : Loop) (hst : r.state = .ready) (hpe : r.pending = none) (s : ByteArray) (t : ByteArray × ByteArray × Bool) (n : Int) (out : List S55)
    (h : (if t.1 = ByteArray.mk #[] ∨ byteAt t.1 0 = 35 then op_Script_c (op_Script_l k j) t n out
      else (op_Read k t.1).bind fun r =>
      if r.2 ≠ (0 : Int) then some ([], n, r.2)
      else if (out ++ [r.1]).length * 32 ≤ 140737488355328 then op_Script_c (op_Script_l k j) t n (out ++ [r.1])
      else none) = some res) :
    AWI g (Fence.wide.inRound l) Try.prog 35 (codeB Try.f50.body) (RoundQ 0 nl r (RS k j res nl nd ns n2 n3 n4 n5 r s t n out)) [(2, .ptr n2 0), (3, .ptr n3 0), (4, .ptr n4 0), (5, .ptr n5 0), (6, eI64 n), (7, eStr t.1)]
      ((nl, .raw (.loop { r with state := .busy })) :: (nd, .raw (.deferred (some []))) :: Hs ns n2 n3 n4 n5 no s 0 0 out) := by
  have hready : ({ r with state := .ready, pending := none } : Loop) = r := by cases r; simp_all
  show AWI _ _ _ _ (.block _ (.seq (.seq _ _) _)) _ _ _
  refine AWI.block ?_
  refine AWI.seq ?_
  refine AWI.seq ?_
  have skipQ : op_Script_c (op_Script_l k j) t n out = some res → ∀ b : Bool, b = true → AWI g (Fence.wide.inRound l) Try.prog 35 (.cond (.tmp 20) (.exit 1) .skip) (Then (AWI g (Fence.wide.inRound l) Try.prog 35 (codeR (codeB Try.f50.body)) (InBlock 1 (RoundQ 0 nl r (RS k j res nl nd ns n2 n3 n4 n5 r s t n out)))) (InBlock 1 (RoundQ 0 nl r (RS k j res nl nd ns n2 n3 n4 n5 r s t n out)))) [(20, .fl (.bool b))] ((nl, .raw (.loop { r with state := .busy })) :: (nd, .raw (.deferred (some []))) :: Hs ns n2 n3 n4 n5 no s 0 0 out) := by
    intro hc b hb
    subst hb
    refine AWI.cond true rfl (fun _ => ?_) (fun h => by cases h)
    refine AWI.exit (ρ' := []) trivial (Sub.refl _) ?_
    refine Then.ex (InBlock.hit ?_)
    refine ⟨rfl, ?_⟩
    refine ⟨out, no, ?_, hc⟩
    rw [hready]; rfl
  by_cases h1 : t.1 = ByteArray.mk #[]
  · rw [if_pos (.inl h1)] at h
    refine AWI.rg (open_round _ _) rfl ?_
    refine AO.c (Calm.move rfl rfl) ?_
    refine AO.c (x := eBool (decide (t.1 = ByteArray.mk #[]))) (Calm.str rfl rfl rfl rfl) ?_
    refine AO.c (Calm.move rfl rfl) ?_
    refine AO.sF rfl rfl (bD (decide_eq_true h1)) ?_
    refine AO.sF rfl rfl (bD (decide_eq_true h1)) ?_
    refine AO.sF rfl rfl (bD (decide_eq_true h1)) ?_
    refine AO.c (Calm.pickT rfl (bD (decide_eq_true h1)) rfl) ?_
    refine AO.nK [20] ?_
    exact skipQ h true rfl
  · have h1' := decide_eq_false h1
    have hz : 0 < t.1.size := by
      rcases Nat.eq_zero_or_pos t.1.size with e | e
      · exact absurd (by apply ByteArray.ext; exact Array.eq_empty_of_size_eq_zero e) h1
      · exact e
    have reg : ∀ (K : Env → Heap → Prop) (H : Heap), K [(2, .ptr n2 0), (3, .ptr n3 0), (4, .ptr n4 0), (5, .ptr n5 0), (6, eI64 n), (7, eStr t.1), (20, eBool (decide (byteAt t.1 0 = 35)))] H →
        AO Try.prog 35 (codeL (codeB Try.f50.body)).toArray (codeL (codeB Try.f50.body)) K [(2, .ptr n2 0), (3, .ptr n3 0), (4, .ptr n4 0), (5, .ptr n5 0), (6, eI64 n), (7, eStr t.1)] H := by
      intro K H hk
      refine AO.c (Calm.move rfl rfl) ?_
      refine AO.c (x := eBool (decide (t.1 = ByteArray.mk #[]))) (Calm.str rfl rfl rfl rfl) ?_
      refine AO.c (Calm.move rfl rfl) ?_
      refine AO.cG rfl rfl (bD h1') (Calm.move rfl rfl) ?_
      refine AO.cG rfl rfl (bD h1') (Calm.idxStr rfl rfl rfl (by omega) (by omega) Try.underlying9) ?_
      refine AO.cG (x := eBool (decide (byteAt t.1 0 = 35))) rfl rfl (bD h1') (Calm.int rfl rfl rfl rfl) ?_
      refine AO.c (Calm.pickF rfl (bD h1') rfl) ?_
      refine AO.nK [2, 3, 4, 5, 6, 7, 20] ?_
      exact hk
    refine AWI.rg (open_round _ _) rfl (reg _ _ ?_)
    by_cases h2 : byteAt t.1 0 = 35
    · rw [if_pos (.inr h2)] at h
      exact AWI.weak (ρ' := [(20, .fl (.bool (decide (byteAt t.1 0 = 35))))]) ⟨rfl, trivial⟩ (Sub.refl _) (skipQ h _ (decide_eq_true h2))
    · rw [if_neg (by simp [h1, h2])] at h
      obtain ⟨rr, er, h⟩ := of_bind h
      refine AWI.cond false (bD (decide_eq_false h2)) (fun h => by cases h) (fun _ => ?_)
      refine AWI.skip (ρ' := [(2, .ptr n2 0), (3, .ptr n3 0), (4, .ptr n4 0), (5, .ptr n5 0), (6, eI64 n), (7, eStr t.1)]) ⟨rfl, rfl, rfl, rfl, rfl, rfl, trivial⟩ (Sub.refl _) ?_
      refine AWI.sr (open_round _ _) rfl ?_
      refine AO.c (Calm.move rfl rfl) ?_
      refine AO.callS [(eStr t.1)] (.tup [(e55 rr.1), (eI64 rr.2)]) 23 rfl (by decide) ok47 rfl rfl rfl ⟨rfl, rfl, trivial⟩ (op_Read_spec er) ?_
      refine AO.c (Calm.move rfl rfl) ?_
      refine AO.c (Calm.extract rfl rfl rfl) ?_
      refine AO.c (Calm.extract rfl rfl rfl) ?_
      refine AO.alloc rfl 8 rfl (by decide) rfl zr55 lay55 fun n8 => ?_
      refine AO.store (X' := (e55 rr.1)) 0 rfl rfl rfl rfl rfl rfl (Put.cast Put.here rfl) rfl rfl sz55 rfl ?_
      refine AO.c (Calm.assign rfl rfl) ?_
      refine AO.nK [2, 3, 4, 5, 6, 8, 9] ?_
      refine AWI.seq ?_
      refine AWI.sr (open_round _ _) rfl ?_
      refine AO.c (Calm.move rfl rfl) ?_
      refine AO.c (x := eBool (decide (rr.2 ≠ 0))) (Calm.int rfl rfl rfl rfl) ?_
      refine AO.nK [2, 3, 4, 5, 6, 8, 9, 27] ?_
      by_cases h3 : rr.2 ≠ 0
      · rw [if_pos h3] at h
        have hr := (Option.some.inj h).symm
        refine AWI.cond true (bD (decide_eq_true h3)) (fun _ => ?_) (fun h => by cases h)
        refine AWI.sr (open_round _ _) rfl ?_
        refine AO.c (Calm.move rfl rfl) ?_
        refine AO.c (Calm.move rfl rfl) ?_
        refine AO.store (X' := (.fl (.slice none 0 0))) 4 rfl rfl rfl rfl rfl rfl (Put.cast Put.here rfl) rfl rfl sz70q rfl ?_
        refine AO.store (X' := (eI64 n)) 5 rfl rfl rfl rfl rfl rfl (Put.cast Put.here rfl) rfl rfl sz3 rfl ?_
        refine AO.store (X' := (eI64 rr.2)) 6 rfl rfl rfl rfl rfl rfl (Put.cast Put.here rfl) rfl rfl sz28q rfl ?_
        refine AO.nH [2] (H' := ((nl, .raw (.loop { r with state := .busy })) :: (nd, .raw (.deferred (some []))) :: Hs ns n2 n3 n4 n5 no s n rr.2 out)) (Sub.drop (Sub.refl _)) ?_
        refine AWI.ret (ρ' := []) trivial (Sub.refl _) ?_
        refine ⟨rfl, rfl, ?_⟩
        refine ⟨no, out, ?_, ?_⟩
        · rw [hr]; rfl
        · rw [hr]
      · rw [if_neg h3] at h
        refine AWI.cond false (bD (decide_eq_false h3)) (fun h => by cases h) (fun _ => ?_)
        refine AWI.skip (ρ' := [(2, .ptr n2 0), (3, .ptr n3 0), (4, .ptr n4 0), (5, .ptr n5 0), (6, eI64 n), (8, .ptr n8 0)]) ⟨rfl, rfl, rfl, rfl, rfl, rfl, trivial⟩ (Sub.refl _) ?_
        obtain ⟨hb, h⟩ := of_guard h
        refine AWI.rg (open_round _ _) rfl ?_
        refine AO.c (Calm.load 7 rfl rfl rfl (At.cast At.here rfl) ag70q sz70q) ?_
        refine AO.c (Calm.load 0 rfl rfl rfl (At.cast At.here rfl) ag55 sz55) ?_
        refine AO.lit (Z := (.st [(1, (eI64 (0 : Int))), (1, (eI64 (0 : Int))), (1, (eStr ByteArray.empty))])) (xs := (([rr.1] : List S55).map e55)) (qs := [(0, (e55 rr.1))]) rfl 32 rfl (by decide) rfl ⟨rfl, rfl, rfl, trivial⟩ Try.underlying70 sz55 zr55 lay55 rfl (by decide) (litOK (z := 3) [(e55 rr.1)] rfl ⟨⟨rfl, rfl⟩, trivial⟩) rfl fun n24 => ?_
        refine AO.appendL (l := out) (m := ([rr.1] : List S55)) 9 33 rfl (by decide) rfl rfl rfl rfl rfl (Src.ownL (f := e55) (l := ([rr.1] : List S55)) 0 rfl) Try.underlying70 Try.underlying70 sz55 by55q zr55 rfl hb (by decide) fun n25 => ?_
        refine AO.store (X' := (.own n25 0 (out ++ ([rr.1] : List S55)).length)) 8 rfl rfl rfl rfl rfl rfl (Put.cast Put.here rfl) rfl rfl sz70q rfl ?_
        refine AO.nH [2] (H' := ((nl, .raw (.loop { r with state := .busy })) :: (nd, .raw (.deferred (some []))) :: Hs ns n2 n3 n4 n5 n25 s 0 0 (out ++ [rr.1]))) (Sub.drop (Sub.drop (Sub.refl _))) ?_
        refine ⟨rfl, ?_⟩
        refine ⟨out ++ [rr.1], n25, ?_, h⟩
        rw [hready]; rfl

/-- What is left when the iterator has ended. -/
def TS (res : List S55 × Int × Int) (ns n2 n3 n4 n5 : Nat) (jump : Option Code) (H3 : Heap) : Prop :=
  match jump with
  | none => ∃ s out no, H3 = Hs ns n2 n3 n4 n5 no s 0 0 out ∧ res = (out, 0, 0)
  | some c => c = .ret ∧ ∃ s out no, H3 = Hs ns n2 n3 n4 n5 no s res.2.1 res.2.2 out ∧ res.1 = []
def codeH : Code → Code
  | .seq a _ => a
  | c => c
def codeT : Code → Code
  | .seq _ a => a
  | c => c
def codeI : Option Code → Code
  | some c => c
  | _ => .skip
abbrev AF (n2 n3 n4 n5 : Nat) : Env := [(2, .ptr n2 0), (3, .ptr n3 0), (4, .ptr n4 0), (5, .ptr n5 0)]
theorem iter_walk {k : Nat} {res : List S55 × Int × Int} (g1 : G) (l nl nd : Nat) (pl : Place) (tmps : Array Value) (hnl : g1.nm[nl]? = some pl) (hpl : pl.b = some l) (ns n2 n3 n4 n5 no : Nat)
    (htm : ESat g1 (AF n2 n3 n4 n5) { tmps := tmps, defers := [] }) (hN : tmps.size = 35) (r : Loop) (hr : RecOK r tmps #[12, 13] (codeA Try.f50.body) (codeB Try.f50.body)) (p0 : ByteArray) (h : op_Script_l k k p0 1 [] = some res) :
    AWI g1 Fence.wide Try.prog 25 (codeI Try.f90.body) (fun e ρ' H' => (e = .ret ∨ e = .normal) ∧ ∃ r' H3, H' = (nl, .raw (.loop r')) :: (nd, .raw (.deferred (some []))) :: H3 ∧ r'.state ≠ .busy ∧ TS res ns n2 n3 n4 n5 r'.pending H3)
      (params 0 [.fl (.func (.yield l) #[] #[]), .ptr ns 0]) ((nl, .raw (.loop r)) :: (nd, .raw (.deferred (some []))) :: Hs ns n2 n3 n4 n5 no p0 0 0 []) := by
  show AWI _ _ _ _ (.seq (.region _ _ _) (.block _ (.loop (.seq (.block _ (.seq (.region _ _ _) (.seq (.seq (.region _ _ _) (.cond _ _ _)) (.region _ _ _)))) (.region _ _ _))))) _ _ _
  refine AWI.sr (open_wide _) rfl ?_
  refine AO.c (Calm.assign rfl rfl) ?_
  refine AO.nK [0, 1, 3] ?_
  refine AWI.block ?_
  refine AWI.loop (fun kq ρ H => ∃ s n out no, ρ = [(0, .fl (.func (.yield l) #[] #[])), (1, .ptr ns 0), (3, eI64 n)] ∧ H = ((nl, .raw (.loop r)) :: (nd, .raw (.deferred (some []))) :: Hs ns n2 n3 n4 n5 no s 0 0 out) ∧ op_Script_l k kq s n out = some res) k ⟨p0, 1, [], no, rfl, rfl, h⟩ ?_
  clear h
  rintro kq _ _ ⟨s, n, out, no, rfl, rfl, h⟩
  cases kq with
  | zero => rw [op_Script_l.eq_1] at h; cases h
  | succ kq =>
  rw [op_Script_l.eq_2] at h
  obtain ⟨t, et, h⟩ := of_bind h
  refine AWI.seq ?_
  refine AWI.block ?_
  refine AWI.sr (open_wide _) rfl ?_
  refine AO.c (Calm.load 2 rfl rfl rfl (At.cast At.here rfl) ag9 sz9) ?_
  refine AO.callS [(eStr s), (eStr (ByteArray.mk #[10]))] (.tup [(eStr t.1), (eStr t.2.1), (eBool t.2.2)]) 11 rfl (by decide) ok67 rfl rfl rfl ⟨rfl, rfl, rfl, rfl, trivial⟩ (strings_Cut_spec et) ?_
  refine AO.c (Calm.move rfl rfl) ?_
  refine AO.c (Calm.extract rfl rfl rfl) ?_
  refine AO.c (Calm.extract rfl rfl rfl) ?_
  refine AO.c (Calm.extract rfl rfl rfl) ?_
  refine AO.c (Calm.assign rfl rfl) ?_
  refine AO.c (Calm.assign rfl rfl) ?_
  refine AO.c (Calm.assign rfl rfl) ?_
  refine AO.nK [0, 1, 3, 4, 5, 6] ?_
  refine AWI.seq ?_
  refine AWI.seq ?_
  refine AWI.regY (open_wide _) (l0 := l) (pre := _) (post := _) (o := _) (show _ = [_, _, _] ++ _ :: [_, _, _, _, _] from rfl) (noDef_ok rfl) rfl rfl (by decide) rfl
    (fun ρ H => ρ = [(0, .fl (.func (.yield l) #[] #[])), (1, .ptr ns 0), (3, eI64 n), (5, eStr t.2.1), (6, eBool t.2.2), (15, .fl (.func (.yield l) #[] #[])), (16, eI64 n), (17, eStr t.1)] ∧ H = ((nl, .raw (.loop r)) :: (nd, .raw (.deferred (some []))) :: Hs ns n2 n3 n4 n5 no s 0 0 out)) ?_ ?_
  · refine AO.c (Calm.move rfl rfl) ?_
    refine AO.c (Calm.move rfl rfl) ?_
    refine AO.c (Calm.move rfl rfl) ?_
    refine AO.nK [0, 1, 3, 5, 6, 15, 16, 17] ?_
    exact ⟨rfl, rfl⟩
  · rintro m Fr g ρ1 H1 a w hg ⟨rfl, rfl⟩ hs hN2 hw
    have ea : a.eval (.tmp 16) = .int .i64 n := hs.ev (x := .tmp 16) rfl
    have eb : a.eval (.tmp 17) = .string t.1 := hs.ev (x := .tmp 17) rfl
    refine ⟨hs.ev (x := .tmp 15) rfl, ?_⟩
    have hnl2 := hg.nm _ _ hnl
    have hsz : r.tmps.size = 35 := by rw [hr.tm]; exact hN
    have harg : (#[Operand.tmp 16, .tmp 17].map a.eval) = #[.int .i64 n, .string t.1] := by simp [ea, eb]
    rw [harg]
    have hfold : (r.params.zip #[Value.int .i64 n, .string t.1]).foldl (fun tmps (x : Tmp × Value) => tmps.setIfInBounds x.1 x.2) r.tmps = (r.tmps.setIfInBounds 12 (.int .i64 n)).setIfInBounds 13 (.string t.1) := by rw [hr.pa]; simp
    refine (yield_round (open_wide _) hw (j := 0) rfl hnl2 hpl hr.st (by rw [hr.pa]; rfl) (N := 35) (ρ0 := (13, eStr t.1) :: (12, eI64 n) :: AF n2 n3 n4 n5) ?_ ?_ (RS k kq res nl nd ns n2 n3 n4 n5 r s t n out) ?_).mono ?_
    · rw [hfold, hr.tm]
      have h1 := (htm.mono hg).put (d := 12) (x := eI64 n) (v := .int .i64 n) rfl (by show 12 < tmps.size; omega)
      exact h1.put (d := 13) (x := eStr t.1) (v := .string t.1) rfl (by rw [put_size]; show 13 < tmps.size; omega)
    · rw [hfold]; simp [hsz]
    · have hB := round_body g l nl nd ns n2 n3 n4 n5 no r hr.st hr.pe s t n out h
      have key := fun Q h => round_assign g l n2 n3 n4 n5 n t.1 Q ((nl, .raw (.loop r)) :: (nd, .raw (.deferred (some []))) :: Hs ns n2 n3 n4 n5 no s 0 0 out) h
      rw [← hr.as] at key
      rw [← hr.bo] at hB
      exact key _ ⟨rfl, hB⟩
    · rintro e w' ⟨jump, g', H', rfl, hg', hw', hS⟩
      refine ⟨_, rfl, g', eBool jump.isNone, H', hg', rfl, hw', ?_⟩
      cases jump with
      | none =>
        obtain ⟨out', no', rfl, hc⟩ := hS
        refine AO.c (Calm.not rfl rfl) ?_
        refine AO.c (Calm.move rfl rfl) ?_
        refine AO.cG rfl rfl rfl (Calm.move rfl rfl) ?_
        refine AO.cG rfl rfl rfl (Calm.not rfl rfl) ?_
        refine AO.c (Calm.pickF rfl rfl rfl) ?_
        refine AO.nK [0, 1, 3, 5, 23] ?_
        rw [op_Script_c.eq_1] at hc
        rcases of_ite hc with ⟨hm, hc⟩ | ⟨hm, hc⟩
        · refine AWI.cond false (bD (by rw [hm]; rfl)) (fun h => by cases h) (fun _ => ?_)
          refine AWI.skip (ρ' := [(0, .fl (.func (.yield l) #[] #[])), (1, .ptr ns 0), (3, eI64 n), (5, eStr t.2.1)]) ⟨rfl, rfl, rfl, rfl, trivial⟩ (Sub.refl _) ?_
          refine AWI.rg (open_wide _) rfl ?_
          refine AO.c (Calm.move rfl rfl) ?_
          refine AO.store (X' := (eStr t.2.1)) 2 rfl rfl rfl rfl rfl rfl (Put.cast Put.here rfl) rfl rfl sz9 rfl ?_
          refine AO.nK [0, 1, 3] ?_
          refine AWI.rg (open_wide _) rfl ?_
          refine AO.c (Calm.move rfl rfl) ?_
          refine AO.c (x := eI64 (w64 (n + (1 : Int)))) (Calm.int rfl rfl rfl rfl) ?_
          refine AO.c (Calm.assign rfl rfl) ?_
          refine AO.nK [0, 1, 3] ?_
          exact ⟨kq, Nat.lt_succ_self _, t.2.1, w64 (n + 1), out', no', rfl, rfl, hc⟩
        · refine AWI.cond true (bD (by simpa using hm)) (fun _ => ?_) (fun h => by cases h)
          refine AWI.ret (ρ' := []) trivial (Sub.refl _) ?_
          refine ⟨.inl rfl, r, _, rfl, by rw [hr.st]; simp, ?_⟩
          rw [hr.pe]
          exact ⟨s, out', no', rfl, (Option.some.inj hc).symm⟩
      | some c =>
        obtain ⟨rfl, no', out', rfl, hc⟩ := hS
        refine AO.c (Calm.not rfl rfl) ?_
        refine AO.c (Calm.move rfl rfl) ?_
        refine AO.sF rfl rfl rfl ?_
        refine AO.sF rfl rfl rfl ?_
        refine AO.c (Calm.pickT rfl rfl rfl) ?_
        refine AO.nK [23] ?_
        refine AWI.cond true rfl (fun _ => ?_) (fun h => by cases h)
        refine AWI.ret (ρ' := []) trivial (Sub.refl _) ?_
        exact ⟨.inl rfl, _, _, rfl, by simp, rfl, s, out', no', rfl, hc⟩

theorem ok71 : FnOK Try.prog 71 := FnOK.mk Try.func71 rfl rfl
/-- op.lines: a function over a box. -/
theorem lines_calls (s : ByteArray) {Fr : Fr} {g : G} {H : Heap} {w : World} (hs : WSat Fr g H w) :
    Calls Try.prog 71 #[.string s] w fun e w' => ∃ g' n p b, e = .returned (.func (.func 90) #[] #[.pointer (some ⟨b, p.base + 0, none⟩)]) ∧ g.le g' ∧ g'.nm[n]? = some p ∧ p.b = some b ∧ WSat Fr g' ((n, .mem (eStr s)) :: H) w' := by
  refine calls_of_wp Try.func71 rfl ?_
  have h0 : AW Try.prog 4 (.region 0 (codeL (.block 0 (.seq (.seq (match (codeI Try.f71.body) with | .seq r _ => r | c => c) .skip) .skip))).toArray false) (fun e ρ H' => e = .normal ∧ ∃ n, ρ = [(1, .ptr n 0)] ∧ H' = (n, .mem (eStr s)) :: H) (params 0 [eStr s]) H := by
    refine AW.reg ?_
    refine AO.box rfl 1 rfl (by decide) rfl rfl rfl fun n => ?_
    refine AO.c (Calm.assign rfl rfl) ?_
    refine AO.nK [1] ?_
    exact ⟨rfl, n, rfl, rfl⟩
  unfold AW at h0
  refine wp_seq (h0 Fr g _ w _ (init_sat (g := g) (args := [eStr s]) (cargs := [.string s]) (.cons (show V1 g (eStr s) (.string s) from rfl) .nil) _) (by rfl) hs ?_)
  rintro e g1 ρ1 H1 a1 w1 k1 k2 k3 k4 k5 ⟨rfl, n, rfl, rfl⟩
  have hp : Sim g1 (.ptr n 0) [a1.tmps.getD 1 undef] := k2 1 _ rfl
  generalize hv : a1.tmps.getD 1 undef = v at hp
  cases hp with
  | @ptr _ _ p b hn hb =>
  show Code.wp _ (.seq (.region _ _ _) .ret) _ _ _
  refine wp_seq (wp_region_lit ?_)
  refine wpList_val rfl (v := .func (.func 90) #[] #[.pointer (some ⟨b, p.base + 0, none⟩)]) ?_ ?_
  · have e1 : a1.eval (.tmp 1) = .pointer (some ⟨b, p.base + 0, none⟩) := hv
    simp [execOp, Instr.makeFunc, e1]
  refine wpList_val rfl (v := .func (.func 90) #[] #[.pointer (some ⟨b, p.base + 0, none⟩)]) ?_ ?_
  · have e2 : (a1.put (some 3) (.func (.func 90) #[] #[.pointer (some ⟨b, p.base + 0, none⟩)])).eval (.tmp 3) = .func (.func 90) #[] #[.pointer (some ⟨b, p.base + 0, none⟩)] := by
      show ((a1.put (some 3) _).tmps.getD 3 undef) = _
      simp [Act.put, k3]
    show (execOp _ _).run _ _ = _
    simp only [execOp]
    rw [e2]
    rfl
  refine wp_ret ?_
  refine ⟨by rw [put_defers, put_defers, k4], _, ?_, g1, n, p, b, rfl, k1, hn, hb, k5⟩
  simp [results, Act.put, k3]

theorem lo_then {Q : Exit → Act → World → Prop} {K : Act → World → Prop} (h : ¬ LetsOut Q) : ¬ LetsOut (Exit.then K Q) := fun ⟨a, w, k⟩ => h ⟨a, w, k⟩
theorem lo_block {Q : Exit → Act → World → Prop} {id : Nat} (h : ¬ LetsOut Q) : ¬ LetsOut (Exit.inBlock id Q) := fun ⟨a, w, k⟩ => h ⟨a, w, k⟩
theorem lo_body {P : Program} {F : Fence} {n : Nat} {fn : Func} {r : AV} {w0 : World} {g : G} : ¬ LetsOut (bodyPostM F n P fn (fun e w' => ∃ v g', e = .returned v ∧ g.le g' ∧ V g' r v ∧ (∀ b o y, g'.ro b o = some y → w'.cell? ⟨b, o, none⟩ = some y) ∧
      (∀ b o y, b < w0.heap.size → g'.ro b o = some y → g.ro b o = some y) ∧ Below w0.heap.size w0 w')) := by
  rintro ⟨_, _, h⟩
  obtain ⟨v, _, h, _⟩ := h
  cases h
theorem fin50 {g : G} {w : World} (htab : TabW w) {r : List S55 × Int × Int} {g' : G} {a' : Act} {w' : World} {n2 n3 n4 nd bd : Nat} {pd : Place} (hg : g.le g') (hs : ESat g' [(2, .ptr n2 0), (3, .ptr n3 0), (4, .ptr n4 0)] a') (hd : a'.defers = [{ target := .collected bd, args := #[] }])
    (hw : WSat ⟨w.heap.size, w, g.ro, htab.fr⟩ g' [(nd, .raw (.deferred (some []))), (n2, .mem (.fz 3 (r.1.map e55))), (n3, .mem (eI64 r.2.1)), (n4, .mem (eI64 r.2.2))] w') (hn : g'.nm[nd]? = some pd) (hb : pd.b = some bd) :
    bodyPostM Fence.wide 5 Try.prog Try.f50 (fun e w' => ∃ v g', e = .returned v ∧ g.le g' ∧ V g' (.tup [(.fz 3 (r.1.map e55)), (eI64 r.2.1), (eI64 r.2.2)]) v ∧ (∀ b o y, g'.ro b o = some y → w'.cell? ⟨b, o, none⟩ = some y) ∧
      (∀ b o y, b < w.heap.size → g'.ro b o = some y → g.ro b o = some y) ∧ Below w.heap.size w w') .ret a' w' := by
  show LeavesInM _ _ _ _ _ _ a'.defers _ _
  rw [hd]
  obtain ⟨p', b', q1, q2, q3⟩ := hw.rawAt (j := 0) rfl
  have e1 : p' = pd := Option.some.inj (q1.symm.trans hn)
  subst e1
  have e2 : b' = bd := Option.some.inj (q2.symm.trans hb)
  subst e2
  have hw2 := hw.putRaw (o' := .deferred none) (j := 0) rfl hn hb
  obtain ⟨v, h1, h2⟩ := body_end (P := Try.prog) (fn := Try.f50) (res := [.cell 2 70, .cell 3 3, .cell 4 28]) (xs := [(.fz 3 (r.1.map e55)), (eI64 r.2.1), (eI64 r.2.2)]) rfl hs hw2 ⟨⟨n2, 1, rfl, rfl, ag70q, sz70q⟩, ⟨n3, 2, rfl, rfl, ag3, sz3⟩, ⟨n4, 3, rfl, rfl, ag28q, sz28q⟩, trivial⟩
  refine ⟨by simp, .inl ⟨b', _, rfl, run_takeDeferred q3, ?_⟩⟩
  exact ⟨v, h1, v, g', rfl, hg, h2, hw2.ro, hw2.r0, hw2.below⟩
theorem op_Script_spec {k : Nat} {p0 : ByteArray} {r : List S55 × Int × Int} (h : op_Script k p0 = some r) : Spec Try.prog 50 [(eStr p0)] (.tup [(.fz 3 (r.1.map e55)), (eI64 r.2.1), (eI64 r.2.2)]) := by
  unfold Spec
  intro g cargs w hc hro htab
  cases hc with
  | @cons _ v _ vs h1 h2 =>
  cases h2
  obtain rfl : v = .string p0 := h1
  refine (callsIn_wide (n := 5)).1 (callsIn_of_wp_marks Try.func50 rfl trivial ?_)
  have hs0 : WSat ⟨w.heap.size, w, g.ro, htab.fr⟩ g [] w := ⟨Below.refl _ _, Nat.le_refl _, hro, fun _ _ _ _ h => h, fun n m h => by simp at h, List.Pairwise.nil⟩
  -- the objects of the call
  have h0 : AWI g Fence.wide Try.prog 35 (codeH (codeI Try.f50.body)) (fun e ρ H => e = .normal ∧ ∃ n2 n3 n4, ρ = [(0, eStr p0), (2, .ptr n2 0), (3, .ptr n3 0), (4, .ptr n4 0)] ∧ H = [(n2, .mem (.fl (.slice none 0 0))), (n3, .mem (eI64 0)), (n4, .mem (eI64 0))]) (params 0 [eStr p0]) [] := by
    show AWI _ _ _ _ (.region _ _ _) _ _ _
    refine AWI.rg (open_wide _) rfl ?_
    refine AO.alloc rfl 2 rfl (by decide) rfl zr70q lay70q fun n2 => ?_
    refine AO.alloc rfl 3 rfl (by decide) rfl zr3q lay3q fun n3 => ?_
    refine AO.alloc rfl 4 rfl (by decide) rfl zr28q lay3q fun n4 => ?_
    refine AO.nH [0, 2, 3, 4] (H' := [(n2, .mem (.fl (.slice none 0 0))), (n3, .mem (eI64 0)), (n4, .mem (eI64 0))]) (Sub.cons 2 rfl (Sub.cons 1 rfl (Sub.cons 0 rfl (Sub.nil _)))) ?_
    exact ⟨rfl, n2, n3, n4, rfl, rfl⟩
  unfold AWI at h0
  have hN0 : ∀ k, k + 1 = 35 → (#[Value.string p0] ++ Array.replicate k undef).size = 35 := by intro k hk; simp; omega
  have hI0 : ∀ k, ESat g (params 0 [eStr p0]) { tmps := #[Value.string p0] ++ Array.replicate k undef, defers := [] } := fun k => init_sat (g := g) (args := [eStr p0]) (cargs := [.string p0]) (.cons (show V1 g (eStr p0) (.string p0) from rfl) .nil) k
  show Code.wpIn _ _ _ (.seq (.region _ _ _) _) _ _ _
  refine wpIn_seq ?_
  refine h0 5 _ g _ w _ (.refl g) (hI0 _) (hN0 _ rfl) hs0 (lo_then lo_body) ?_
  rintro e g1 ρ1 H1 a1 w1 k1 k2 k3 k4 k5 ⟨rfl, n2, n3, n4, rfl, rfl⟩
  have h1 : AWI g Fence.wide Try.prog 35 (codeH (codeT (codeI Try.f50.body))) (fun e ρ H => e = .normal ∧ ∃ n5 no, ρ = (0, eStr p0) :: AF n2 n3 n4 n5 ∧ H = [(n2, .mem (.fl (.slice none 0 0))), (n3, .mem (eI64 0)), (n4, .mem (eI64 0)), (n5, .mem (.own no 0 0)), (no, .mem (.ar 3 []))]) [(0, eStr p0), (2, .ptr n2 0), (3, .ptr n3 0), (4, .ptr n4 0)] [(n2, .mem (.fl (.slice none 0 0))), (n3, .mem (eI64 0)), (n4, .mem (eI64 0))] := by
    show AWI _ _ _ _ (.region _ _ _) _ _ _
    refine AWI.rg (open_wide _) rfl ?_
    refine AO.alloc rfl 5 rfl (by decide) rfl zr70q lay70q fun n5 => ?_
    refine AO.nilOwnFld 0 3 (fun n => .own n 0 0) rfl (fun n => Put.here) (fun _ => rfl) (fun _ => rfl) fun no => ?_
    refine AO.nH [0, 2, 3, 4, 5] (H' := [(n2, .mem (.fl (.slice none 0 0))), (n3, .mem (eI64 0)), (n4, .mem (eI64 0)), (n5, .mem (.own no 0 0)), (no, .mem (.ar 3 []))]) (Sub.cons 2 rfl (Sub.cons 2 rfl (Sub.cons 2 rfl (Sub.cons 1 rfl (Sub.cons 0 rfl (Sub.nil _)))))) ?_
    exact ⟨rfl, n5, no, rfl, rfl⟩
  unfold AWI at h1
  show Code.wpIn _ _ _ (.seq _ _) _ _ _
  refine wpIn_seq (h1 5 _ g1 _ w1 _ k1 k2 k3 k5 (lo_then lo_body) ?_)
  rintro e g2 ρ2 H2 a2 w2 l1 l2 l3 l4 l5 ⟨rfl, n5, no, rfl, rfl⟩
  show Code.wpIn _ _ _ (.seq (.seq (.region _ _ _) (.block _ (.rangeFunc _ _ _ _))) (.seq (.region _ _ _) .ret)) _ _ _
  refine wpIn_seq (wpIn_seq ?_)
  -- the iterator is made
  refine wpIn_region_app (pre := [_]) (post := [_]) (N := 35) (open_wide _) rfl rfl ?_ (fun ρ H => ρ = (10, eStr p0) :: AF n2 n3 n4 n5 ∧ H = [(n2, .mem (.fl (.slice none 0 0))), (n3, .mem (eI64 0)), (n4, .mem (eI64 0)), (n5, .mem (.own no 0 0)), (no, .mem (.ar 3 []))]) l2 l3 l5 ?_ ?_
  · exact lo_then (lo_then lo_body)
  · refine AO.c (Calm.move rfl rfl) ?_
    refine AO.nK [10, 2, 3, 4, 5] ?_
    exact ⟨rfl, rfl⟩
  rintro g3 _ _ a3 w3 j1 j2 j3 j4 j5 ⟨rfl, rfl⟩
  have e10 : a3.eval (.tmp 10) = .string p0 := j2.ev (x := .tmp 10) rfl
  refine wpListIn_callRaw (ys := [.tmp 10]) (open_wide _) rfl rfl rfl rfl ok71 (R := fun e w' => ∃ g' n p b, e = .returned (.func (.func 90) #[] #[.pointer (some ⟨b, p.base + 0, none⟩)]) ∧ g3.le g' ∧ g'.nm[n]? = some p ∧ p.b = some b ∧ WSat ⟨w.heap.size, w, g.ro, htab.fr⟩ g' ((n, .mem (eStr p0)) :: [(n2, .mem (.fl (.slice none 0 0))), (n3, .mem (eI64 0)), (n4, .mem (eI64 0)), (n5, .mem (.own no 0 0)), (no, .mem (.ar 3 []))]) w') ?_ ?_
  · have := lines_calls p0 j5
    rw [show ([Operand.tmp 10].map a3.eval).toArray = #[.string p0] by simp [e10]]
    exact this
  rintro e w4 ⟨g4, ns, ps, bs, rfl, m1, m2, m3, m4⟩
  refine ⟨_, rfl, ?_⟩
  show Code.wpIn _ _ _ (.block _ (.rangeFunc _ _ _ _)) _ _ _
  refine wpIn_block ?_
  have hsat : ESat g4 (AF n2 n3 n4 n5) (a3.put (some 11) (.func (.func 90) #[] #[.pointer (some ⟨bs, ps.base + 0, none⟩)])) := by
    have h5 := (j2.mono m1).put (d := 11) (x := .fl (.func (.func 90) #[] #[.pointer (some ⟨bs, ps.base + 0, none⟩)])) rfl (by rw [j3]; decide)
    exact ESub.sat (ρ' := AF n2 n3 n4 n5) ⟨rfl, rfl, rfl, rfl, trivial⟩ h5
  have hx : (a3.put (some 11) (.func (.func 90) #[] #[.pointer (some ⟨bs, ps.base + 0, none⟩)])).eval (.tmp 11) = .func (.func 90) #[] #[.pointer (some ⟨bs, ps.base + 0, none⟩)] := by
    show ((a3.put (some 11) _).tmps.getD 11 undef) = _
    simp [Act.put, j3]
  have hsz : (a3.put (some 11) (.func (.func 90) #[] #[.pointer (some ⟨bs, ps.base + 0, none⟩)])).tmps.size = 35 := by rw [put_size]; exact j3
  have hdf : (a3.put (some 11) (.func (.func 90) #[] #[.pointer (some ⟨bs, ps.base + 0, none⟩)])).defers = [] := by rw [put_defers, j4, l4, k4]
  refine wpIn_range (fn := Try.f90) (N := 25) m4 ?_ hx Try.func90 rfl rfl rfl (by simp) rfl [.ptr ns 0] (.cons (Sim.ptr m2 m3) .nil) (TS r ns n2 n3 n4 n5) ?_ ?_
  · exact lo_block (lo_then lo_body)
  · intro g5 l nl nd pl rr q1 q2 q3 q4
    exact iter_walk g5 l nl nd pl _ q2 q3 ns n2 n3 n4 n5 no (hsat.mono q1) hsz rr q4 p0 h
  · intro g5 H3 jump w5 nl nd bd pd r' q1 q2 q3 q4 q5
    have le5 : g.le g5 := k1.trans (l1.trans (j1.trans (m1.trans q1)))
    cases jump with
    | none =>
      obtain ⟨s, out, no', rfl, rfl⟩ := q3
      have h2 : AWI g5 Fence.wide Try.prog 35 (codeT (codeT (codeT (codeI Try.f50.body)))) (fun e ρ H => e = .ret ∧ ρ = [(2, .ptr n2 0), (3, .ptr n3 0), (4, .ptr n4 0)] ∧ H = [(nd, .raw (.deferred (some []))), (n2, .mem (.fz 3 (out.map e55))), (n3, .mem (eI64 0)), (n4, .mem (eI64 0))]) (AF n2 n3 n4 n5) ((nl, .raw (.loop r')) :: (nd, .raw (.deferred (some []))) :: Hs ns n2 n3 n4 n5 no' s 0 0 out) := by
        show AWI _ _ _ _ (.seq (.region _ _ _) .ret) _ _ _
        refine AWI.sr (open_wide _) rfl ?_
        refine AO.c (Calm.load 6 rfl rfl rfl (At.cast At.here rfl) ag70q sz70q) ?_
        refine AO.store (X' := (.own no' 0 out.length)) 3 rfl rfl rfl rfl rfl rfl (Put.cast Put.here rfl) rfl rfl sz70q rfl ?_
        refine AO.store (X' := (eI64 0)) 4 rfl rfl rfl rfl rfl rfl (Put.cast Put.here rfl) rfl rfl sz3 rfl ?_
        refine AO.store (X' := (eI64 0)) 5 rfl rfl rfl rfl rfl rfl (Put.cast Put.here rfl) rfl rfl sz28q rfl ?_
        refine AO.freezeFld (X' := .fz 3 (out.map e55)) 7 3 rfl rfl Put.here (by simp) (by rw [own_all]) rfl rfl (by decide) ?_
        refine AO.nH [2, 3, 4] (H' := [(nd, .raw (.deferred (some []))), (n2, .mem (.fz 3 (out.map e55))), (n3, .mem (eI64 0)), (n4, .mem (eI64 0))]) (Sub.cons 1 rfl (Sub.cons 2 rfl (Sub.cons 2 rfl (Sub.cons 2 rfl (Sub.nil _))))) ?_
        refine AWI.ret (ρ' := [(2, .ptr n2 0), (3, .ptr n3 0), (4, .ptr n4 0)]) ⟨rfl, rfl, rfl, trivial⟩ (Sub.refl _) ?_
        exact ⟨rfl, rfl, rfl⟩
      unfold AWI at h2
      show Code.wpIn _ _ _ _ _ _ _
      refine h2 5 _ g5 { tmps := _, defers := _ } w5 _ (.refl g5) (hsat.mono q1) hsz q2 lo_body ?_
      rintro e g6 _ _ a6 w6 t1 t2 t3 t4 t5 ⟨rfl, rfl, rfl⟩
      exact fin50 htab (le5.trans t1) t2 (by rw [t4]; show _ :: _ = _; rw [hdf]) t5 (t1.nm _ _ q4) q5
    | some c =>
      obtain ⟨rfl, s, out, no', rfl, hr⟩ := q3
      refine wpIn_ret ?_
      have s1 : WSat ⟨w.heap.size, w, g.ro, htab.fr⟩ g5 [(nd, .raw (.deferred (some []))), (n2, .mem (.fl (.slice none 0 0))), (n3, .mem (eI64 r.2.1)), (n4, .mem (eI64 r.2.2))] w5 :=
        q2.sub (Sub.cons 1 rfl (Sub.cons 2 rfl (Sub.cons 2 rfl (Sub.cons 2 rfl (Sub.nil _)))))
      have s2 := s1.coeFld 1 (X' := .fz 3 []) rfl Put.here rfl (fun g v => nil_fz 3 g v) rfl rfl
      have s3 : ESat g5 [(2, .ptr n2 0), (3, .ptr n3 0), (4, .ptr n4 0)] { (a3.put (some 11) (.func (.func 90) #[] #[.pointer (some ⟨bs, ps.base + 0, none⟩)])) with defers := { target := .collected bd, args := #[] } :: (a3.put (some 11) (.func (.func 90) #[] #[.pointer (some ⟨bs, ps.base + 0, none⟩)])).defers } := ESub.sat (ρ := AF n2 n3 n4 n5) ⟨rfl, rfl, rfl, trivial⟩ (hsat.mono q1)
      refine fin50 htab le5 s3 (by show _ :: _ = _; rw [hdf]) (by rw [hr]; exact s2) q4 q5
end Go.Avl.T2
/- bosket/bosketref47.Script; printed by avmain.py. -/
namespace Go.Avl.T2
open Go Go.RowKit Go.Proofs Go.Avl
set_option linter.unusedVariables false
set_option maxRecDepth 100000
set_option maxHeartbeats 4000000
attribute [local irreducible] AW AO AQ Spec SpecH Calm

def bosketref47_Script_c0 (k : Nat) (x4 : (List S60)) : Option ((List S60) × Int) :=
  some (x4, (0 : Int))
def bosketref47_Script_c1 (k : Nat) (rec8 : ((List S60) → Int → Option ((List S60) × Int))) (x7 : Int) (x12 : (List S60)) : Option ((List S60) × Int) :=
  rec8 x12 (w64 (x7 + (1 : Int)))
def bosketref47_Script_l2 (k : Nat) (t2 : (List ByteArray)) : Nat → (List S60) → Int → Option ((List S60) × Int)
  | 0, _, _ => none
  | j + 1, x6, x7 =>
    if x7 < (t2.length : Int) then Option.bind (α := Bool) (if 0 ≤ x7 ∧ x7 < (t2.length : Int) then if (lget t2 x7) = (ByteArray.mk #[]) then some (true)
    else if 0 ≤ x7 ∧ x7 < (t2.length : Int) then if 0 ≤ (0 : Int) ∧ (0 : Int) < ((lget t2 x7).size : Int) then some (decide ((byteAt (lget t2 x7) (0 : Int)) = (35 : Int)))
    else none
    else none
    else none) fun b13 =>
    if b13 = true then bosketref47_Script_c1 k (bosketref47_Script_l2 k t2 j) x7 x6
    else if 0 ≤ x7 ∧ x7 < (t2.length : Int) then (bosketref47_Read k (lget t2 x7)).bind fun t21 =>
    if (!t21.2) = true then some ([], (w64 (x7 + (1 : Int))))
    else if (x6 ++ ([t21.1] : List S60)).length * 32 ≤ 140737488355328 then bosketref47_Script_c1 k (bosketref47_Script_l2 k t2 j) x7 (x6 ++ ([t21.1] : List S60))
    else none
    else none
    else bosketref47_Script_c0 k x6
def bosketref47_Script (k : Nat) (p0 : ByteArray) : Option ((List S60) × Int) :=
  (bosketref13_Lines k p0).bind fun t2 =>
  bosketref47_Script_l2 k t2 k ([] : List S60) (0 : Int)
theorem bosketref47_Script_spec {k : Nat} {p0 : ByteArray} {r : ((List S60) × Int)} (h : bosketref47_Script k p0 = some r) : Spec Try.prog 51 [(eStr p0)] (.tup [(.fz 3 (r.1.map e60)), (eI64 r.2)]) := by
  rw [bosketref47_Script.eq_1] at h
  refine Spec.intro (res := [.tmp 2, .tmp 3]) Try.func51 rfl rfl rfl (Nat.le_of_ble_eq_true rfl) ?_
  refine AW.sr ?_
  refine AO.c (Calm.assign rfl rfl) ?_
  refine AO.c (Calm.assign rfl rfl) ?_
  refine AO.nK [0] ?_
  refine AW.sr ?_
  refine AO.c (Calm.move rfl rfl) ?_
  obtain ⟨t2, et2, h⟩ := of_bind h
  refine AO.callS [(eStr p0)] (.fz 1 (t2.map eStr)) 10 rfl (by decide) ok72 rfl rfl rfl ⟨rfl, rfl, trivial⟩ (bosketref13_Lines_spec et2) ?_
  refine AO.c (Calm.assign rfl rfl) ?_
  refine AO.nK [4] ?_
  refine AW.sr ?_
  refine AO.c (Calm.assign rfl rfl) ?_
  refine AO.nK [4, 5] ?_
  refine AW.seq_mid (fun ρ H => ∃ (n3 : Nat) (x4 : (List S60)), ρ = [(5, (.own n3 0 x4.length))] ∧ H = [(n3, (.mem (.ar 3 (x4.map e60))))] ∧ bosketref47_Script_c0 k x4 = some r) ?_ ?_
  ·refine AW.sr ?_
   refine AO.c (Calm.assign rfl rfl) ?_
   refine AO.nK [4, 5, 6] ?_
   refine AW.block ?_
   refine AW.nilOwn 5 3 rfl fun n27 => ?_
   refine AW.wK [4, 5, 6] ?_
   refine AW.loop (fun kq ρ H => ∃ (n5 : Nat) (x6 : (List S60)) (x7 : Int), ρ = [(4, (.fz 1 (t2.map eStr))), (5, (.own n5 0 x6.length)), (6, (eI64 x7))] ∧ H = [(n5, (.mem (.ar 3 (x6.map e60))))] ∧ bosketref47_Script_l2 k t2 kq x6 x7 = some r) k ⟨n27, ([] : List S60), (0 : Int), rfl, rfl, h⟩ ?_
   rintro kq9 _ _ ⟨n5, x6, x7, rfl, rfl, h⟩
   cases kq9 with
   | zero => rw [bosketref47_Script_l2.eq_1] at h; cases h
   | succ kq9 =>
   rw [bosketref47_Script_l2.eq_2] at h
   generalize hrec8 : bosketref47_Script_l2 k t2 kq9 = rec8 at h
   refine AW.seq ?_
   refine AW.sr ?_
   refine AO.c (Calm.move rfl rfl) ?_
   refine AO.c (Calm.move rfl rfl) ?_
   refine AO.c (Calm.lenL rfl rfl Try.underlying45) ?_
   refine AO.c (x := eBool (decide (x7 < (t2.length : Int)))) (Calm.int rfl rfl rfl rfl) ?_
   refine AO.nK [4, 5, 6, 14] ?_
   rcases of_ite h with ⟨hc10, h⟩ | ⟨hc10, h⟩
   ·refine AW.condP _ rfl hc10 ?_
    refine AW.sK [4, 5, 6] ?_
    refine AW.seq_mid (fun ρ H => ∃ (n11 : Nat) (x12 : (List S60)), ρ = [(4, (.fz 1 (t2.map eStr))), (5, (.own n11 0 x12.length)), (6, (eI64 x7))] ∧ H = [(n11, (.mem (.ar 3 (x12.map e60))))] ∧ bosketref47_Script_c1 k rec8 x7 x12 = some r) ?_ ?_
    ·refine AW.block ?_
     refine AW.seq ?_
     refine AW.seq ?_
     obtain ⟨b13, hq14, h⟩ := of_bind h
     refine AW.regM [(4, (.fz 1 (t2.map eStr))), (5, (.own n5 0 x6.length)), (6, (eI64 x7)), (29, (eBool b13))] [(n5, (.mem (.ar 3 (x6.map e60))))] ?_ ?_
     ·refine AO.c (Calm.move rfl rfl) ?_
      refine AO.c (Calm.move rfl rfl) ?_
      obtain ⟨hg15, hq14⟩ := of_guard hq14
      refine AO.c (Calm.idxL (f := eStr) rfl rfl rfl hg15 Try.underlying45 sz9) ?_
      refine AO.c (Calm.loadRp rfl rfl ag9 sz9) ?_
      refine AO.c (x := eBool (decide ((lget t2 x7) = (ByteArray.mk #[])))) (Calm.str rfl rfl rfl rfl) ?_
      refine AO.c (Calm.move rfl rfl) ?_
      rcases of_ite hq14 with ⟨hc16, hq14⟩ | ⟨hc16, hq14⟩
      ·refine AO.sF rfl rfl (bD (decide_eq_true hc16)) ?_
       refine AO.sF rfl rfl (bD (decide_eq_true hc16)) ?_
       refine AO.sF rfl rfl (bD (decide_eq_true hc16)) ?_
       refine AO.sF rfl rfl (bD (decide_eq_true hc16)) ?_
       refine AO.sF rfl rfl (bD (decide_eq_true hc16)) ?_
       refine AO.sF rfl rfl (bD (decide_eq_true hc16)) ?_
       refine AO.c (Calm.pickT rfl (bD (decide_eq_true hc16)) rfl) ?_
       cases hq14
       refine AO.nilE ⟨rfl, rfl⟩ ?_ ?_
       · exact ⟨rfl, rfl, rfl, rfl, trivial⟩
       · exact (Sub.refl _)
      ·refine AO.cG rfl rfl (bD (decide_eq_false hc16)) (Calm.move rfl rfl) ?_
       refine AO.cG rfl rfl (bD (decide_eq_false hc16)) (Calm.move rfl rfl) ?_
       obtain ⟨hg17, hq14⟩ := of_guard hq14
       refine AO.cG rfl rfl (bD (decide_eq_false hc16)) (Calm.idxL (f := eStr) rfl rfl rfl hg17 Try.underlying45 sz9) ?_
       refine AO.cG rfl rfl (bD (decide_eq_false hc16)) (Calm.loadRp rfl rfl ag9 sz9) ?_
       obtain ⟨hg18, hq14⟩ := of_guard hq14
       refine AO.cG (x := eU8 (byteAt (lget t2 x7) (0 : Int))) rfl rfl (bD (decide_eq_false hc16)) (Calm.idxS rfl rfl rfl hg18 Try.underlying9) ?_
       refine AO.cG (x := eBool (decide ((byteAt (lget t2 x7) (0 : Int)) = (35 : Int)))) rfl rfl (bD (decide_eq_false hc16)) (Calm.int rfl rfl rfl rfl) ?_
       refine AO.c (Calm.pickF rfl (bD (decide_eq_false hc16)) rfl) ?_
       cases hq14
       refine AO.nilE ⟨rfl, rfl⟩ ?_ ?_
       · exact ⟨rfl, rfl, rfl, rfl, trivial⟩
       · exact (Sub.refl _)
     ·rcases of_ite h with ⟨hc19, h⟩ | ⟨hc19, h⟩
      ·refine AW.condT' _ rfl hc19 ?_
       refine AW.eK [4, 5, 6] ?_
       exact ⟨n5, x6, rfl, rfl, h⟩
      ·refine AW.condF' _ rfl hc19 ?_
       refine AW.sK [4, 5, 6] ?_
       refine AW.sr ?_
       refine AO.c (Calm.move rfl rfl) ?_
       refine AO.c (Calm.move rfl rfl) ?_
       obtain ⟨hg20, h⟩ := of_guard h
       refine AO.c (Calm.idxL (f := eStr) rfl rfl rfl hg20 Try.underlying45 sz9) ?_
       refine AO.c (Calm.loadRp rfl rfl ag9 sz9) ?_
       obtain ⟨t21, et21, h⟩ := of_bind h
       refine AO.callS [(eStr (lget t2 x7))] (.tup [(e60 t21.1), (eBool t21.2)]) 35 rfl (by decide) ok49 rfl rfl rfl ⟨rfl, rfl, trivial⟩ (bosketref47_Read_spec et21) ?_
       refine AO.c (Calm.move rfl rfl) ?_
       refine AO.c (Calm.extract rfl rfl rfl) ?_
       refine AO.c (Calm.extract rfl rfl rfl) ?_
       refine AO.alloc rfl 7 rfl (by decide) rfl zr60 lay60 fun n22 => ?_
       refine AO.store (X' := (e60 t21.1)) 0 rfl rfl rfl rfl rfl rfl (Put.cast Put.here rfl) rfl rfl sz60 rfl ?_
       refine AO.c (Calm.assign rfl rfl) ?_
       refine AO.nH [4, 5, 6, 7, 8] (H' := [(n5, (.mem (.ar 3 (x6.map e60)))), (n22, (.mem (e60 t21.1)))]) (Sub.cons 1 rfl (Sub.cons 0 rfl (Sub.nil _))) ?_
       refine AW.seq ?_
       refine AW.sr ?_
       refine AO.c (Calm.move rfl rfl) ?_
       refine AO.c (Calm.not rfl rfl) ?_
       refine AO.nK [4, 5, 6, 7, 39] ?_
       rcases of_ite h with ⟨hc23, h⟩ | ⟨hc23, h⟩
       ·refine AW.condT' _ rfl hc23 ?_
        refine AW.sr ?_
        refine AO.c (Calm.move rfl rfl) ?_
        refine AO.c (x := eI64 (w64 (x7 + (1 : Int)))) (Calm.int rfl rfl rfl rfl) ?_
        refine AO.c (Calm.assign rfl rfl) ?_
        refine AO.c (Calm.assign rfl rfl) ?_
        refine AO.nH [2, 3] (H' := []) (Sub.nil _) ?_
        refine AW.coeC 2 (y' := (.fz 3 (([] : List S60).map e60))) rfl Coe.nil ?_
        refine AW.rK [2, 3] ?_
        have hr := Option.some.inj h
        subst hr
        exact ⟨[(.fz 3 (([] : List S60).map e60)), (eI64 (w64 (x7 + (1 : Int))))], ⟨rfl, rfl, rfl, rfl, trivial⟩, rfl⟩
       ·refine AW.condF' _ rfl hc23 ?_
        refine AW.sK [4, 5, 6, 7] ?_
        refine AW.reg ?_
        refine AO.c (Calm.move rfl rfl) ?_
        refine AO.c (Calm.load 1 rfl rfl rfl (At.cast At.here rfl) ag60 sz60) ?_
        refine AO.lit (Z := (.st [(1, (eI64 (0 : Int))), (1, (eI64 (0 : Int))), (1, (eStr ByteArray.empty))])) (xs := (([t21.1] : List S60).map e60)) (qs := [(0, (e60 t21.1))]) rfl 44 rfl (by decide) rfl ⟨rfl, rfl, rfl, trivial⟩ Try.underlying73 sz60 zr60 lay60 rfl (by decide) (litOK (z := 3) [(e60 t21.1)] rfl ⟨⟨rfl, rfl⟩, trivial⟩) rfl fun n24 => ?_
        obtain ⟨hg26, h⟩ := of_guard h
        refine AO.appendL (l := x6) (m := ([t21.1] : List S60)) 1 45 rfl (by decide) rfl rfl rfl rfl rfl (Src.ownL (f := e60) (l := ([t21.1] : List S60)) 0 rfl) Try.underlying73 Try.underlying73 sz60 by60 zr60 rfl hg26 (by decide) fun n25 => ?_
        refine AO.c (Calm.assign rfl rfl) ?_
        refine AO.nH [4, 5, 6] (H' := [(n25, (.mem (.ar 3 ((x6 ++ ([t21.1] : List S60)).map e60))))]) (Sub.cons 1 rfl (Sub.nil _)) ?_
        exact ⟨n25, (x6 ++ ([t21.1] : List S60)), rfl, rfl, h⟩
    ·rintro _ _ ⟨n11, x12, rfl, rfl, h⟩
     rw [bosketref47_Script_c1.eq_1] at h
     refine AW.reg ?_
     refine AO.c (Calm.move rfl rfl) ?_
     refine AO.c (x := eI64 (w64 (x7 + (1 : Int)))) (Calm.int rfl rfl rfl rfl) ?_
     refine AO.c (Calm.assign rfl rfl) ?_
     refine AO.nK [4, 5, 6] ?_
     exact ⟨kq9, Nat.lt_succ_self _, n11, x12, (w64 (x7 + (1 : Int))), rfl, rfl, by rw [hrec8]; exact h⟩
   ·refine AW.condN _ rfl hc10 ?_
    refine AW.eK [5] ?_
    exact ⟨n5, x6, rfl, rfl, h⟩
  ·rintro _ _ ⟨n3, x4, rfl, rfl, h⟩
   rw [bosketref47_Script_c0.eq_1] at h
   refine AW.sr ?_
   refine AO.c (Calm.move rfl rfl) ?_
   refine AO.c (Calm.assign rfl rfl) ?_
   refine AO.c (Calm.assign rfl rfl) ?_
   refine AO.nK [2, 3] ?_
   refine AW.freezeS 0 [(2, (.fz 3 (x4.map e60)))] rfl ⟨fz_all rfl, trivial⟩ ?_
   refine AW.rK [2, 3] ?_
   have hr := Option.some.inj h
   subst hr
   exact ⟨[(.fz 3 (x4.map e60)), (eI64 (0 : Int))], ⟨rfl, rfl, rfl, rfl, trivial⟩, rfl⟩
end Go.Avl.T2
/- bosket/bosketlaw47.Same; printed by avmain.py. -/
namespace Go.Avl.T2
open Go Go.RowKit Go.Proofs Go.Avl
set_option linter.unusedVariables false
set_option maxRecDepth 100000
set_option maxHeartbeats 4000000
attribute [local irreducible] AW AO AQ Spec SpecH Calm

def bosketlaw47_Same_c0 (k : Nat) : Option Bool :=
  some (true)
def bosketlaw47_Same_l1 (k : Nat) (p0 : (List S55)) (p1 : (List S60)) : Nat → Int → Option Bool
  | 0, _ => none
  | j + 1, x4 =>
    if x4 < (p0.length : Int) then if 0 ≤ x4 ∧ x4 < (p0.length : Int) then (bosketlaw47_Ref k (lget p0 x4)).bind fun t9 =>
    if 0 ≤ x4 ∧ x4 < (p1.length : Int) then if (!(decide (t9 = (lget p1 x4)))) = true then some (false)
    else (bosketlaw47_Same_l1 k p0 p1 j) (w64 (x4 + (1 : Int)))
    else none
    else none
    else bosketlaw47_Same_c0 k
def bosketlaw47_Same (k : Nat) (p0 : (List S55)) (p1 : (List S60)) : Option Bool :=
  if (p0.length : Int) ≠ (p1.length : Int) then some (false)
  else bosketlaw47_Same_l1 k p0 p1 k (0 : Int)
theorem bosketlaw47_Same_spec {k : Nat} {p0 : (List S55)} {p1 : (List S60)} {r : Bool} (h : bosketlaw47_Same k p0 p1 = some r) : Spec Try.prog 52 [(.fz 3 (p0.map e55)), (.fz 3 (p1.map e60))] (eBool r) := by
  rw [bosketlaw47_Same.eq_1] at h
  refine Spec.intro (res := [.tmp 4]) Try.func52 rfl rfl rfl (Nat.le_of_ble_eq_true rfl) ?_
  refine AW.sr ?_
  refine AO.c (Calm.assign rfl rfl) ?_
  refine AO.nK [0, 1] ?_
  refine AW.seq ?_
  refine AW.sr ?_
  refine AO.c (Calm.move rfl rfl) ?_
  refine AO.c (Calm.lenL rfl rfl Try.underlying70) ?_
  refine AO.c (Calm.move rfl rfl) ?_
  refine AO.c (Calm.lenL rfl rfl Try.underlying73) ?_
  refine AO.c (x := eBool (decide ((p0.length : Int) ≠ (p1.length : Int)))) (Calm.int rfl rfl rfl rfl) ?_
  refine AO.nK [0, 1, 10] ?_
  rcases of_ite h with ⟨hc3, h⟩ | ⟨hc3, h⟩
  ·refine AW.condP _ rfl hc3 ?_
   refine AW.sr ?_
   refine AO.c (Calm.assign rfl rfl) ?_
   refine AO.nK [4] ?_
   refine AW.rK [4] ?_
   have hr := Option.some.inj h
   subst hr
   exact ⟨[(eBool false)], ⟨rfl, rfl, trivial⟩, rfl⟩
  ·refine AW.condN _ rfl hc3 ?_
   refine AW.sK [0, 1] ?_
   refine AW.seq_mid (fun ρ H => ρ = [] ∧ H = [] ∧ bosketlaw47_Same_c0 k = some r) ?_ ?_
   ·refine AW.sr ?_
    refine AO.c (Calm.assign rfl rfl) ?_
    refine AO.nK [0, 1, 5] ?_
    refine AW.block ?_
    refine AW.wK [0, 1, 5] ?_
    refine AW.loop (fun kq ρ H => ∃ (x4 : Int), ρ = [(0, (.fz 3 (p0.map e55))), (1, (.fz 3 (p1.map e60))), (5, (eI64 x4))] ∧ H = [] ∧ bosketlaw47_Same_l1 k p0 p1 kq x4 = some r) k ⟨(0 : Int), rfl, rfl, h⟩ ?_
    rintro kq6 _ _ ⟨x4, rfl, rfl, h⟩
    cases kq6 with
    | zero => rw [bosketlaw47_Same_l1.eq_1] at h; cases h
    | succ kq6 =>
    rw [bosketlaw47_Same_l1.eq_2] at h
    generalize hrec5 : bosketlaw47_Same_l1 k p0 p1 kq6 = rec5 at h
    refine AW.seq ?_
    refine AW.sr ?_
    refine AO.c (Calm.move rfl rfl) ?_
    refine AO.c (Calm.move rfl rfl) ?_
    refine AO.c (Calm.lenL rfl rfl Try.underlying70) ?_
    refine AO.c (x := eBool (decide (x4 < (p0.length : Int)))) (Calm.int rfl rfl rfl rfl) ?_
    refine AO.nK [0, 1, 5, 14] ?_
    rcases of_ite h with ⟨hc7, h⟩ | ⟨hc7, h⟩
    ·refine AW.condP _ rfl hc7 ?_
     refine AW.sK [0, 1, 5] ?_
     refine AW.seq ?_
     refine AW.block ?_
     refine AW.seq ?_
     obtain ⟨hg8, h⟩ := of_guard h
     obtain ⟨t9, et9, h⟩ := of_bind h
     obtain ⟨hg10, h⟩ := of_guard h
     refine AW.regAny (by rfl) (by decide +kernel) [(.fz 3 (p0.map e55)), (eI64 x4), (.rp (e55 (lget p0 x4))), (e55 (lget p0 x4)), (e60 t9), (.fz 3 (p1.map e60)), (eI64 x4), (.rp (e60 (lget p1 x4))), (e60 (lget p1 x4)), (eBool (!(decide (t9 = (lget p1 x4)))))] [(0, (.fz 3 (p0.map e55))), (1, (.fz 3 (p1.map e60))), (5, (eI64 x4))] ⟨rfl, rfl, rfl, trivial⟩ rfl ?_ [(0, (.fz 3 (p0.map e55))), (1, (.fz 3 (p1.map e60))), (5, (eI64 x4)), (26, (eBool (!(decide (t9 = (lget p1 x4))))))] [] ⟨rfl, rfl, rfl, rfl, trivial⟩ (Sub.refl _) ?_
     ·refine ⟨?_, ?_, ?_, ?_, ?_, ?_, ?_, ?_, ?_, ?_, trivial⟩
      ·refine AO.wK [0] ?_
       refine AO.c (Calm.move rfl rfl) ?_
       exact AO.nE (d := 17) rfl ⟨⟨_, rfl, rfl⟩, Sub.refl _⟩
      ·refine AO.wK [5] ?_
       refine AO.c (Calm.move rfl rfl) ?_
       exact AO.nE (d := 18) rfl ⟨⟨_, rfl, rfl⟩, Sub.refl _⟩
      ·refine AO.wK [17, 18] ?_
       refine AO.c (Calm.idxL (f := e55) rfl rfl rfl hg8 Try.underlying70 sz55) ?_
       exact AO.nE (d := 19) rfl ⟨⟨_, rfl, rfl⟩, Sub.refl _⟩
      ·refine AO.wK [19] ?_
       refine AO.c (Calm.loadRp rfl rfl ag55 sz55) ?_
       exact AO.nE (d := 20) rfl ⟨⟨_, rfl, rfl⟩, Sub.refl _⟩
      ·refine AO.wK [20] ?_
       refine AO.callS [(e55 (lget p0 x4))] (e60 t9) 21 rfl (by decide) ok45 rfl rfl rfl ⟨rfl, rfl, trivial⟩ (bosketlaw47_Ref_spec et9) ?_
       exact AO.nE (d := 21) rfl ⟨⟨_, rfl, rfl⟩, Sub.refl _⟩
      ·refine AO.wK [1] ?_
       refine AO.c (Calm.move rfl rfl) ?_
       exact AO.nE (d := 22) rfl ⟨⟨_, rfl, rfl⟩, Sub.refl _⟩
      ·refine AO.wK [5] ?_
       refine AO.c (Calm.move rfl rfl) ?_
       exact AO.nE (d := 23) rfl ⟨⟨_, rfl, rfl⟩, Sub.refl _⟩
      ·refine AO.wK [22, 23] ?_
       refine AO.c (Calm.idxL (f := e60) rfl rfl rfl hg10 Try.underlying73 sz60) ?_
       exact AO.nE (d := 24) rfl ⟨⟨_, rfl, rfl⟩, Sub.refl _⟩
      ·refine AO.wK [24] ?_
       refine AO.c (Calm.loadRp rfl rfl ag60 sz60) ?_
       exact AO.nE (d := 25) rfl ⟨⟨_, rfl, rfl⟩, Sub.refl _⟩
      ·refine AO.wK [21, 25] ?_
       refine AO.c (x := eBool (!(decide (t9 = (lget p1 x4))))) (Calm.neS rfl rfl rfl eg60 (eqk60 t9 (lget p1 x4)) (by decide)) ?_
       exact AO.nE (d := 26) rfl ⟨⟨_, rfl, rfl⟩, Sub.refl _⟩
     ·rcases of_ite h with ⟨hc11, h⟩ | ⟨hc11, h⟩
      ·refine AW.condT' _ rfl hc11 ?_
       refine AW.sr ?_
       refine AO.c (Calm.assign rfl rfl) ?_
       refine AO.nK [4] ?_
       refine AW.rK [4] ?_
       have hr := Option.some.inj h
       subst hr
       exact ⟨[(eBool false)], ⟨rfl, rfl, trivial⟩, rfl⟩
      ·refine AW.condF' _ rfl hc11 ?_
       refine AW.sK [0, 1, 5] ?_
       refine AW.reg ?_
       refine AO.c (Calm.move rfl rfl) ?_
       refine AO.c (x := eI64 (w64 (x4 + (1 : Int)))) (Calm.int rfl rfl rfl rfl) ?_
       refine AO.c (Calm.assign rfl rfl) ?_
       refine AO.nK [0, 1, 5] ?_
       exact ⟨kq6, Nat.lt_succ_self _, (w64 (x4 + (1 : Int))), rfl, rfl, by rw [hrec5]; exact h⟩
    ·refine AW.condN _ rfl hc7 ?_
     refine AW.eK [] ?_
     exact ⟨rfl, rfl, h⟩
   ·rintro _ _ ⟨rfl, rfl, h⟩
    rw [bosketlaw47_Same_c0.eq_1] at h
    refine AW.sr ?_
    refine AO.c (Calm.assign rfl rfl) ?_
    refine AO.nK [4] ?_
    refine AW.rK [4] ?_
    have hr := Option.some.inj h
    subst hr
    exact ⟨[(eBool true)], ⟨rfl, rfl, trivial⟩, rfl⟩
end Go.Avl.T2
/- bosket/bosketlaw47.OpScripts; printed by avmain.py. -/
namespace Go.Avl.T2
open Go Go.RowKit Go.Proofs Go.Avl
set_option linter.unusedVariables false
set_option maxRecDepth 100000
set_option maxHeartbeats 4000000
attribute [local irreducible] AW AO AQ Spec SpecH Calm

def bosketlaw47_OpScripts (k : Nat) (p0 : ByteArray) : Option Bool :=
  (bosketlaw47_awake k).bind fun t2 =>
  if (!t2) = true then some (false)
  else if (600 : Int) < (p0.size : Int) then some (true)
  else (op_Script k p0).bind fun t5 =>
  (bosketref47_Script k p0).bind fun t6 =>
  Option.bind (α := Bool) (if t5.2.1 ≠ t6.2 then some (true)
  else (bosketlaw47_Same k t5.1 t6.1).bind fun t10 =>
  some (!t10)) fun b7 =>
  if b7 = true then some (false)
  else if t6.2 ≠ (0 : Int) then some (decide (t5.2.2 = (24 : Int)))
  else some (decide (t5.2.2 = (0 : Int)))
theorem bosketlaw47_OpScripts_spec {k : Nat} {p0 : ByteArray} {r : Bool} (h : bosketlaw47_OpScripts k p0 = some r) : Spec Try.prog 10 [(eStr p0)] (eBool r) := by
  rw [bosketlaw47_OpScripts.eq_1] at h
  refine Spec.intro (res := [.tmp 2]) Try.func10 rfl rfl rfl (Nat.le_of_ble_eq_true rfl) ?_
  refine AW.sr ?_
  refine AO.c (Calm.assign rfl rfl) ?_
  refine AO.nK [0] ?_
  refine AW.seq ?_
  refine AW.sr ?_
  obtain ⟨t2, et2, h⟩ := of_bind h
  refine AO.callS [] (eBool t2) 8 rfl (by decide) ok39 rfl rfl rfl trivial (bosketlaw47_awake_spec et2) ?_
  refine AO.c (Calm.not rfl rfl) ?_
  refine AO.nK [0, 9] ?_
  rcases of_ite h with ⟨hc3, h⟩ | ⟨hc3, h⟩
  ·refine AW.condT' _ rfl hc3 ?_
   refine AW.sr ?_
   refine AO.c (Calm.assign rfl rfl) ?_
   refine AO.nK [2] ?_
   refine AW.rK [2] ?_
   have hr := Option.some.inj h
   subst hr
   exact ⟨[(eBool false)], ⟨rfl, rfl, trivial⟩, rfl⟩
  ·refine AW.condF' _ rfl hc3 ?_
   refine AW.sK [0] ?_
   refine AW.seq ?_
   refine AW.sr ?_
   refine AO.c (Calm.move rfl rfl) ?_
   refine AO.c (Calm.lenStr rfl rfl Try.underlying9) ?_
   refine AO.c (x := eBool (decide ((600 : Int) < (p0.size : Int)))) (Calm.int rfl rfl rfl rfl) ?_
   refine AO.nK [0, 12] ?_
   rcases of_ite h with ⟨hc4, h⟩ | ⟨hc4, h⟩
   ·refine AW.condP _ rfl hc4 ?_
    refine AW.sr ?_
    refine AO.c (Calm.assign rfl rfl) ?_
    refine AO.nK [2] ?_
    refine AW.rK [2] ?_
    have hr := Option.some.inj h
    subst hr
    exact ⟨[(eBool true)], ⟨rfl, rfl, trivial⟩, rfl⟩
   ·refine AW.condN _ rfl hc4 ?_
    refine AW.sK [0] ?_
    refine AW.sr ?_
    refine AO.c (Calm.move rfl rfl) ?_
    obtain ⟨t5, et5, h⟩ := of_bind h
    refine AO.callS [(eStr p0)] (.tup [(.fz 3 (t5.1.map e55)), (eI64 t5.2.1), (eI64 t5.2.2)]) 15 rfl (by decide) ok50 rfl rfl rfl ⟨rfl, rfl, trivial⟩ (op_Script_spec et5) ?_
    refine AO.c (Calm.move rfl rfl) ?_
    refine AO.c (Calm.extract rfl rfl rfl) ?_
    refine AO.c (Calm.extract rfl rfl rfl) ?_
    refine AO.c (Calm.extract rfl rfl rfl) ?_
    refine AO.c (Calm.assign rfl rfl) ?_
    refine AO.c (Calm.assign rfl rfl) ?_
    refine AO.c (Calm.assign rfl rfl) ?_
    refine AO.nK [0, 3, 4, 5] ?_
    refine AW.sr ?_
    refine AO.c (Calm.move rfl rfl) ?_
    obtain ⟨t6, et6, h⟩ := of_bind h
    refine AO.callS [(eStr p0)] (.tup [(.fz 3 (t6.1.map e60)), (eI64 t6.2)]) 21 rfl (by decide) ok51 rfl rfl rfl ⟨rfl, rfl, trivial⟩ (bosketref47_Script_spec et6) ?_
    refine AO.c (Calm.move rfl rfl) ?_
    refine AO.c (Calm.extract rfl rfl rfl) ?_
    refine AO.c (Calm.extract rfl rfl rfl) ?_
    refine AO.c (Calm.assign rfl rfl) ?_
    refine AO.c (Calm.assign rfl rfl) ?_
    refine AO.nK [3, 4, 5, 6, 7] ?_
    refine AW.seq ?_
    refine AW.seq ?_
    obtain ⟨b7, hq8, h⟩ := of_bind h
    refine AW.regM [(5, (eI64 t5.2.2)), (7, (eI64 t6.2)), (32, (eBool b7))] [] ?_ ?_
    ·refine AO.c (Calm.move rfl rfl) ?_
     refine AO.c (Calm.move rfl rfl) ?_
     refine AO.c (x := eBool (decide (t5.2.1 ≠ t6.2))) (Calm.int rfl rfl rfl rfl) ?_
     refine AO.c (Calm.move rfl rfl) ?_
     rcases of_ite hq8 with ⟨hc9, hq8⟩ | ⟨hc9, hq8⟩
     ·refine AO.sF rfl rfl (bD (decide_eq_true hc9)) ?_
      refine AO.sF rfl rfl (bD (decide_eq_true hc9)) ?_
      refine AO.sF rfl rfl (bD (decide_eq_true hc9)) ?_
      refine AO.sF rfl rfl (bD (decide_eq_true hc9)) ?_
      refine AO.c (Calm.pickT rfl (bD (decide_eq_true hc9)) rfl) ?_
      cases hq8
      refine AO.nilE ⟨rfl, rfl⟩ ?_ ?_
      · exact ⟨rfl, rfl, rfl, trivial⟩
      · exact (Sub.refl _)
     ·refine AO.cG rfl rfl (bD (decide_eq_false hc9)) (Calm.move rfl rfl) ?_
      refine AO.cG rfl rfl (bD (decide_eq_false hc9)) (Calm.move rfl rfl) ?_
      obtain ⟨t10, et10, hq8⟩ := of_bind hq8
      refine AO.callG 3 false 27 [(.fz 3 (t5.1.map e55)), (.fz 3 (t6.1.map e60))] (eBool t10) 30 rfl (by decide) ok52 rfl rfl (bD (decide_eq_false hc9)) rfl rfl ⟨rfl, rfl, rfl, rfl, trivial⟩ (bosketlaw47_Same_spec et10) ?_
      refine AO.cG rfl rfl (bD (decide_eq_false hc9)) (Calm.not rfl rfl) ?_
      refine AO.c (Calm.pickF rfl (bD (decide_eq_false hc9)) rfl) ?_
      cases hq8
      refine AO.nilE ⟨rfl, rfl⟩ ?_ ?_
      · exact ⟨rfl, rfl, rfl, trivial⟩
      · exact (Sub.refl _)
    ·rcases of_ite h with ⟨hc11, h⟩ | ⟨hc11, h⟩
     ·refine AW.condT' _ rfl hc11 ?_
      refine AW.sr ?_
      refine AO.c (Calm.assign rfl rfl) ?_
      refine AO.nK [2] ?_
      refine AW.rK [2] ?_
      have hr := Option.some.inj h
      subst hr
      exact ⟨[(eBool false)], ⟨rfl, rfl, trivial⟩, rfl⟩
     ·refine AW.condF' _ rfl hc11 ?_
      refine AW.sK [5, 7] ?_
      refine AW.seq ?_
      refine AW.sr ?_
      refine AO.c (Calm.move rfl rfl) ?_
      refine AO.c (x := eBool (decide (t6.2 ≠ (0 : Int)))) (Calm.int rfl rfl rfl rfl) ?_
      refine AO.nK [5, 34] ?_
      rcases of_ite h with ⟨hc12, h⟩ | ⟨hc12, h⟩
      ·refine AW.condP _ rfl hc12 ?_
       refine AW.sr ?_
       refine AO.c (Calm.move rfl rfl) ?_
       refine AO.c (x := eBool (decide (t5.2.2 = (24 : Int)))) (Calm.int rfl rfl rfl rfl) ?_
       refine AO.c (Calm.assign rfl rfl) ?_
       refine AO.nK [2] ?_
       refine AW.rK [2] ?_
       have hr := Option.some.inj h
       subst hr
       exact ⟨[(eBool (decide (t5.2.2 = (24 : Int))))], ⟨rfl, rfl, trivial⟩, rfl⟩
      ·refine AW.condN _ rfl hc12 ?_
       refine AW.sK [5] ?_
       refine AW.sr ?_
       refine AO.c (Calm.move rfl rfl) ?_
       refine AO.c (x := eBool (decide (t5.2.2 = (0 : Int)))) (Calm.int rfl rfl rfl rfl) ?_
       refine AO.c (Calm.assign rfl rfl) ?_
       refine AO.nK [2] ?_
       refine AW.rK [2] ?_
       have hr := Option.some.inj h
       subst hr
       exact ⟨[(eBool (decide (t5.2.2 = (0 : Int))))], ⟨rfl, rfl, trivial⟩, rfl⟩
end Go.Avl.T2
