/- Parts: T2f47, T2f39, T2f41, T2f45, T2f44, T2f46. -/
import Derived.Test.YtmgiffbobkgcmaaAF1
import Derived.Test.YtmgiffbobkgcmaaAF5
import Derived.Test.YtmgiffbobkgcmaaAF6
import Derived.Test.YtmgiffbobkgcmaaAF4
import Derived.Test.YtmgiffbobkgcmaaAF2
/- bosket/op.Read; printed by avmain.py. -/
namespace Go.Avl.T2
open Go Go.RowKit Go.Proofs Go.Avl
set_option linter.unusedVariables false
set_option maxRecDepth 100000
set_option maxHeartbeats 4000000
attribute [local irreducible] AW AO AQ Spec SpecH Calm

def op_Read_c0 (k : Nat) (p0 : ByteArray) (t4 : Int) (x8 : ByteArray) (x9 : Int) : Option (S55 × Int) :=
  Option.bind (α := Bool) ((_op_Op_Right k (S55.mk t4 x9 x8)).bind fun t12 =>
  if (!t12) = true then some (true)
  else (_op_Op_Line k (S55.mk t4 x9 x8)).bind fun t14 =>
  some (decide (t14 ≠ p0))) fun b10 =>
  if b10 = true then some ((S55.mk (0 : Int) (0 : Int) ByteArray.empty), (24 : Int))
  else some ((S55.mk t4 x9 x8), (0 : Int))
def op_Read_c1 (k : Nat) (p0 : ByteArray) (t4 : Int) (t6 : (ByteArray × Bool × Bool)) (x7 : ByteArray) (x8 : ByteArray) : Option (S55 × Int) :=
  if t6.2.2 = true then (spot_Number k x7).bind fun t17 =>
  if (!t17.2) = true then some ((S55.mk (0 : Int) (0 : Int) ByteArray.empty), (24 : Int))
  else op_Read_c0 k p0 t4 x8 t17.1
  else op_Read_c0 k p0 t4 x8 (0 : Int)
def op_Read (k : Nat) (p0 : ByteArray) : Option (S55 × Int) :=
  (strings_Cut k p0 (ByteArray.mk #[32])).bind fun t3 =>
  (op_Kind k t3.1).bind fun t4 =>
  (op_Form k t4).bind fun t6 =>
  if t6.2.1 = true then (escape_Unquote k t3.2.1 (34 : Int)).bind fun t20 =>
  if (!t20.2.2) = true then some ((S55.mk (0 : Int) (0 : Int) ByteArray.empty), (24 : Int))
  else if 0 ≤ t20.2.1 ∧ t20.2.1 ≤ (t3.2.1.size : Int) ∧ (t3.2.1.size : Int) ≤ (t3.2.1.size : Int) then (strings_TrimPrefix k (t3.2.1.extract t20.2.1.toNat (t3.2.1.size : Int).toNat) (ByteArray.mk #[32])).bind fun t23 =>
  op_Read_c1 k p0 t4 t6 t23 t20.1
  else none
  else op_Read_c1 k p0 t4 t6 t3.2.1 ByteArray.empty
theorem op_Read_spec {k : Nat} {p0 : ByteArray} {r : (S55 × Int)} (h : op_Read k p0 = some r) : Spec Try.prog 47 [(eStr p0)] (.tup [(e55 r.1), (eI64 r.2)]) := by
  rw [op_Read.eq_1] at h
  refine Spec.intro (res := [.cell 2 55, .tmp 3]) Try.func47 rfl rfl rfl (Nat.le_of_ble_eq_true rfl) ?_
  refine AW.seq ?_
  refine AW.reg ?_
  refine AO.alloc rfl 2 rfl (by decide) rfl zr55 lay55 fun n2 => ?_
  refine AO.calm rfl 3 rfl (by decide) (eI64 (0 : Int)) (Calm.assign rfl rfl) ?_
  refine AO.nil (ρ' := [(0, (eStr p0)), (2, (.ptr n2 0))]) (H' := [(n2, .mem (.st [(1, (eI64 (0 : Int))), (1, (eI64 (0 : Int))), (1, (eStr ByteArray.empty))]))]) ⟨rfl, rfl, trivial⟩ (Sub.refl _) ?_
  refine AW.seq ?_
  refine AW.reg ?_
  refine AO.calm rfl 17 rfl (by decide) (eStr p0) (Calm.move rfl rfl) ?_
  obtain ⟨t3, et3, h⟩ := of_bind h
  refine AO.callS [(eStr p0), (eStr (ByteArray.mk #[32]))] (.tup [(eStr t3.1), (eStr t3.2.1), (eBool t3.2.2)]) 18 rfl (by decide) ok67 rfl rfl rfl ⟨rfl, rfl, rfl, rfl, trivial⟩ (strings_Cut_spec et3) ?_
  refine AO.calm rfl 16 rfl (by decide) (.tup [(eStr t3.1), (eStr t3.2.1), (eBool t3.2.2)]) (Calm.move rfl rfl) ?_
  refine AO.calm rfl 19 rfl (by decide) (eStr t3.1) (Calm.extract rfl rfl rfl) ?_
  refine AO.calm rfl 20 rfl (by decide) (eStr t3.2.1) (Calm.extract rfl rfl rfl) ?_
  refine AO.calm rfl 21 rfl (by decide) (eBool t3.2.2) (Calm.extract rfl rfl rfl) ?_
  refine AO.calm rfl 4 rfl (by decide) (eStr t3.1) (Calm.assign rfl rfl) ?_
  refine AO.calm rfl 5 rfl (by decide) (eStr t3.2.1) (Calm.assign rfl rfl) ?_
  refine AO.calm rfl 6 rfl (by decide) (eBool t3.2.2) (Calm.assign rfl rfl) ?_
  refine AO.nil (ρ' := [(0, (eStr p0)), (2, (.ptr n2 0)), (4, (eStr t3.1)), (5, (eStr t3.2.1))]) (H' := [(n2, .mem (.st [(1, (eI64 (0 : Int))), (1, (eI64 (0 : Int))), (1, (eStr ByteArray.empty))]))]) ⟨rfl, rfl, rfl, rfl, trivial⟩ (Sub.refl _) ?_
  refine AW.seq ?_
  refine AW.reg ?_
  refine AO.calm rfl 22 rfl (by decide) (eStr t3.1) (Calm.move rfl rfl) ?_
  obtain ⟨t4, et4, h⟩ := of_bind h
  refine AO.callS [(eStr t3.1)] (eI64 t4) 23 rfl (by decide) ok48 rfl rfl rfl ⟨rfl, rfl, trivial⟩ (op_Kind_spec et4) ?_
  refine AO.calm rfl 24 rfl (by decide) (.st [(1, (eI64 t4)), (1, (eI64 (0 : Int))), (1, (eStr ByteArray.empty))]) (Calm.build (qs := [(0, (eI64 t4))]) rfl ⟨rfl, rfl, rfl, trivial⟩ Try.underlying55 rfl zr55 lay55 (.cons rfl rfl rfl rfl (Put.cast (Put.fld0 Put.here) rfl) .nil) rfl) ?_
  refine AO.alloc rfl 7 rfl (by decide) rfl zr55 lay55 fun n5 => ?_
  refine AO.store (X' := (e55 (S55.mk t4 (0 : Int) ByteArray.empty))) 0 rfl rfl rfl rfl rfl rfl (Put.cast Put.here rfl) rfl rfl sz55 rfl ?_
  refine AO.nil (ρ' := [(0, (eStr p0)), (2, (.ptr n2 0)), (5, (eStr t3.2.1)), (7, (.ptr n5 0))]) (H' := [(n2, .mem (.st [(1, (eI64 (0 : Int))), (1, (eI64 (0 : Int))), (1, (eStr ByteArray.empty))])), (n5, .mem (e55 (S55.mk t4 (0 : Int) ByteArray.empty)))]) ⟨rfl, rfl, rfl, rfl, trivial⟩ (Sub.cons 1 rfl (Sub.cons 0 rfl (Sub.nil _))) ?_
  refine AW.seq ?_
  refine AW.reg ?_
  refine AO.calm rfl 26 rfl (by decide) (.ptr n5 0) (Calm.fldPtr rfl rfl Try.underlying55 rfl sz3 _ rfl) ?_
  refine AO.calm rfl 27 rfl (by decide) (eI64 t4) (Calm.load 1 rfl rfl rfl (At.cast (At.fld0 At.here) rfl) ag3 sz3) ?_
  obtain ⟨t6, et6, h⟩ := of_bind h
  refine AO.callS [(eI64 t4)] (.tup [(eStr t6.1), (eBool t6.2.1), (eBool t6.2.2)]) 28 rfl (by decide) ok40 rfl rfl rfl ⟨rfl, rfl, trivial⟩ (op_Form_spec et6) ?_
  refine AO.calm rfl 25 rfl (by decide) (.tup [(eStr t6.1), (eBool t6.2.1), (eBool t6.2.2)]) (Calm.move rfl rfl) ?_
  refine AO.calm rfl 29 rfl (by decide) (eStr t6.1) (Calm.extract rfl rfl rfl) ?_
  refine AO.calm rfl 30 rfl (by decide) (eBool t6.2.1) (Calm.extract rfl rfl rfl) ?_
  refine AO.calm rfl 31 rfl (by decide) (eBool t6.2.2) (Calm.extract rfl rfl rfl) ?_
  refine AO.calm rfl 8 rfl (by decide) (eStr t6.1) (Calm.assign rfl rfl) ?_
  refine AO.calm rfl 9 rfl (by decide) (eBool t6.2.1) (Calm.assign rfl rfl) ?_
  refine AO.calm rfl 10 rfl (by decide) (eBool t6.2.2) (Calm.assign rfl rfl) ?_
  refine AO.nil (ρ' := [(0, (eStr p0)), (2, (.ptr n2 0)), (5, (eStr t3.2.1)), (7, (.ptr n5 0)), (9, (eBool t6.2.1)), (10, (eBool t6.2.2))]) (H' := [(n2, .mem (.st [(1, (eI64 (0 : Int))), (1, (eI64 (0 : Int))), (1, (eStr ByteArray.empty))])), (n5, .mem (e55 (S55.mk t4 (0 : Int) ByteArray.empty)))]) ⟨rfl, rfl, rfl, rfl, rfl, rfl, trivial⟩ (Sub.refl _) ?_
  refine AW.seq_mid (fun ρ H => ∃ (x7 : ByteArray) (x8 : ByteArray), ρ = [(0, (eStr p0)), (2, (.ptr n2 0)), (5, (eStr x7)), (7, (.ptr n5 0)), (10, (eBool t6.2.2))] ∧ H = [(n2, .mem (.st [(1, (eI64 (0 : Int))), (1, (eI64 (0 : Int))), (1, (eStr ByteArray.empty))])), (n5, .mem (.st [(1, (eI64 t4)), (1, (eI64 (0 : Int))), (1, (eStr x8))]))] ∧ op_Read_c1 k p0 t4 t6 x7 x8 = some r) ?_ ?_
  · refine AW.seq ?_
    refine AW.reg ?_
    refine AO.calm rfl 32 rfl (by decide) (eBool t6.2.1) (Calm.move rfl rfl) ?_
    refine AO.nil (ρ' := [(0, (eStr p0)), (2, (.ptr n2 0)), (5, (eStr t3.2.1)), (7, (.ptr n5 0)), (10, (eBool t6.2.2)), (32, (eBool t6.2.1))]) (H' := [(n2, .mem (.st [(1, (eI64 (0 : Int))), (1, (eI64 (0 : Int))), (1, (eStr ByteArray.empty))])), (n5, .mem (e55 (S55.mk t4 (0 : Int) ByteArray.empty)))]) ⟨rfl, rfl, rfl, rfl, rfl, rfl, trivial⟩ (Sub.refl _) ?_
    by_cases hc19 : t6.2.1 = true
    · have h := (if_pos hc19).symm.trans h
      refine AW.condT' t6.2.1 rfl hc19 ?_
      refine AW.seq ?_
      refine AW.reg ?_
      refine AO.calm rfl 34 rfl (by decide) (eStr t3.2.1) (Calm.move rfl rfl) ?_
      obtain ⟨t20, et20, h⟩ := of_bind h
      refine AO.callS [(eStr t3.2.1), (eU8 (34 : Int))] (.tup [(eStr t20.1), (eI64 t20.2.1), (eBool t20.2.2)]) 35 rfl (by decide) ok68 rfl rfl rfl ⟨rfl, rfl, rfl, rfl, trivial⟩ (escape_Unquote_spec et20) ?_
      refine AO.calm rfl 33 rfl (by decide) (.tup [(eStr t20.1), (eI64 t20.2.1), (eBool t20.2.2)]) (Calm.move rfl rfl) ?_
      refine AO.calm rfl 36 rfl (by decide) (eStr t20.1) (Calm.extract rfl rfl rfl) ?_
      refine AO.calm rfl 37 rfl (by decide) (eI64 t20.2.1) (Calm.extract rfl rfl rfl) ?_
      refine AO.calm rfl 38 rfl (by decide) (eBool t20.2.2) (Calm.extract rfl rfl rfl) ?_
      refine AO.calm rfl 11 rfl (by decide) (eStr t20.1) (Calm.assign rfl rfl) ?_
      refine AO.calm rfl 12 rfl (by decide) (eI64 t20.2.1) (Calm.assign rfl rfl) ?_
      refine AO.calm rfl 13 rfl (by decide) (eBool t20.2.2) (Calm.assign rfl rfl) ?_
      refine AO.nil (ρ' := [(0, (eStr p0)), (2, (.ptr n2 0)), (5, (eStr t3.2.1)), (7, (.ptr n5 0)), (10, (eBool t6.2.2)), (11, (eStr t20.1)), (12, (eI64 t20.2.1)), (13, (eBool t20.2.2))]) (H' := [(n2, .mem (.st [(1, (eI64 (0 : Int))), (1, (eI64 (0 : Int))), (1, (eStr ByteArray.empty))])), (n5, .mem (e55 (S55.mk t4 (0 : Int) ByteArray.empty)))]) ⟨rfl, rfl, rfl, rfl, rfl, rfl, rfl, rfl, trivial⟩ (Sub.refl _) ?_
      refine AW.seq ?_
      refine AW.seq ?_
      refine AW.reg ?_
      refine AO.calm rfl 39 rfl (by decide) (eBool t20.2.2) (Calm.move rfl rfl) ?_
      refine AO.calm rfl 40 rfl (by decide) (eBool (!t20.2.2)) (Calm.not rfl rfl) ?_
      refine AO.nil (ρ' := [(0, (eStr p0)), (2, (.ptr n2 0)), (5, (eStr t3.2.1)), (7, (.ptr n5 0)), (10, (eBool t6.2.2)), (11, (eStr t20.1)), (12, (eI64 t20.2.1)), (40, (eBool (!t20.2.2)))]) (H' := [(n2, .mem (.st [(1, (eI64 (0 : Int))), (1, (eI64 (0 : Int))), (1, (eStr ByteArray.empty))])), (n5, .mem (e55 (S55.mk t4 (0 : Int) ByteArray.empty)))]) ⟨rfl, rfl, rfl, rfl, rfl, rfl, rfl, rfl, trivial⟩ (Sub.refl _) ?_
      by_cases hc21 : (!t20.2.2) = true
      · have h := (if_pos hc21).symm.trans h
        refine AW.condT' (!t20.2.2) rfl hc21 ?_
        refine AW.seq ?_
        refine AW.reg ?_
        refine AO.calm rfl 41 rfl (by decide) (.st [(1, (eI64 (0 : Int))), (1, (eI64 (0 : Int))), (1, (eStr ByteArray.empty))]) (Calm.build (qs := []) rfl trivial Try.underlying55 rfl zr55 lay55 .nil rfl) ?_
        refine AO.store (X' := (e55 (S55.mk (0 : Int) (0 : Int) ByteArray.empty))) 0 rfl rfl rfl rfl rfl rfl (Put.cast Put.here rfl) rfl rfl sz55 rfl ?_
        refine AO.calm rfl 3 rfl (by decide) (eI64 (24 : Int)) (Calm.assign rfl rfl) ?_
        refine AO.nil (ρ' := [(2, (.ptr n2 0)), (3, (eI64 (24 : Int)))]) (H' := [(n2, .mem (e55 (S55.mk (0 : Int) (0 : Int) ByteArray.empty)))]) ⟨rfl, rfl, trivial⟩ (Sub.cons 0 rfl (Sub.nil _)) ?_
        refine AW.ret (ρ' := [(2, (.ptr n2 0)), (3, (eI64 (24 : Int)))]) (H' := [(n2, .mem (e55 (S55.mk (0 : Int) (0 : Int) ByteArray.empty)))]) ⟨rfl, rfl, trivial⟩ (Sub.refl _) ?_
        have hr := Option.some.inj h
        subst hr
        exact ⟨[(e55 (S55.mk (0 : Int) (0 : Int) ByteArray.empty)), (eI64 (24 : Int))], ⟨⟨_, 0, rfl, rfl, ag55, sz55⟩, rfl, rfl, trivial⟩, rfl⟩
      · have h := (if_neg hc21).symm.trans h
        refine AW.condF' (!t20.2.2) rfl hc21 ?_
        refine AW.skip (ρ' := [(0, (eStr p0)), (2, (.ptr n2 0)), (5, (eStr t3.2.1)), (7, (.ptr n5 0)), (10, (eBool t6.2.2)), (11, (eStr t20.1)), (12, (eI64 t20.2.1))]) (H' := [(n2, .mem (.st [(1, (eI64 (0 : Int))), (1, (eI64 (0 : Int))), (1, (eStr ByteArray.empty))])), (n5, .mem (e55 (S55.mk t4 (0 : Int) ByteArray.empty)))]) ⟨rfl, rfl, rfl, rfl, rfl, rfl, rfl, trivial⟩ (Sub.refl _) ?_
        refine AW.seq ?_
        refine AW.reg ?_
        refine AO.calm rfl 42 rfl (by decide) (eStr t20.1) (Calm.move rfl rfl) ?_
        refine AO.calm rfl 43 rfl (by decide) (.ptr n5 2) (Calm.fldPtr rfl rfl Try.underlying55 rfl sz9 _ rfl) ?_
        refine AO.store (X' := (.st [(1, (eI64 t4)), (1, (eI64 (0 : Int))), (1, (eStr t20.1))])) 1 rfl rfl rfl rfl rfl rfl (Put.cast (Put.fldS (Put.fldS (Put.fld0 Put.here))) rfl) rfl rfl sz9 rfl ?_
        refine AO.nil (ρ' := [(0, (eStr p0)), (2, (.ptr n2 0)), (5, (eStr t3.2.1)), (7, (.ptr n5 0)), (10, (eBool t6.2.2)), (12, (eI64 t20.2.1))]) (H' := [(n2, .mem (.st [(1, (eI64 (0 : Int))), (1, (eI64 (0 : Int))), (1, (eStr ByteArray.empty))])), (n5, .mem (.st [(1, (eI64 t4)), (1, (eI64 (0 : Int))), (1, (eStr t20.1))]))]) ⟨rfl, rfl, rfl, rfl, rfl, rfl, trivial⟩ (Sub.refl _) ?_
        refine AW.reg ?_
        refine AO.calm rfl 44 rfl (by decide) (eStr t3.2.1) (Calm.move rfl rfl) ?_
        refine AO.calm rfl 45 rfl (by decide) (eI64 t20.2.1) (Calm.move rfl rfl) ?_
        obtain ⟨hg22, h⟩ := of_guard h
        refine AO.calm rfl 46 rfl (by decide) (eStr (t3.2.1.extract t20.2.1.toNat (t3.2.1.size : Int).toNat)) (Calm.sliceS rfl rfl rfl rfl hg22 Try.underlying9) ?_
        obtain ⟨t23, et23, h⟩ := of_bind h
        refine AO.callS [(eStr (t3.2.1.extract t20.2.1.toNat (t3.2.1.size : Int).toNat)), (eStr (ByteArray.mk #[32]))] (eStr t23) 47 rfl (by decide) ok69 rfl rfl rfl ⟨rfl, rfl, rfl, rfl, trivial⟩ (strings_TrimPrefix_spec et23) ?_
        refine AO.calm rfl 5 rfl (by decide) (eStr t23) (Calm.assign rfl rfl) ?_
        refine AO.nil (ρ' := [(0, (eStr p0)), (2, (.ptr n2 0)), (5, (eStr t23)), (7, (.ptr n5 0)), (10, (eBool t6.2.2))]) (H' := [(n2, .mem (.st [(1, (eI64 (0 : Int))), (1, (eI64 (0 : Int))), (1, (eStr ByteArray.empty))])), (n5, .mem (.st [(1, (eI64 t4)), (1, (eI64 (0 : Int))), (1, (eStr t20.1))]))]) ⟨rfl, rfl, rfl, rfl, rfl, trivial⟩ (Sub.refl _) ?_
        exact ⟨t23, t20.1, rfl, rfl, h⟩
    · have h := (if_neg hc19).symm.trans h
      refine AW.condF' t6.2.1 rfl hc19 ?_
      refine AW.skip (ρ' := [(0, (eStr p0)), (2, (.ptr n2 0)), (5, (eStr t3.2.1)), (7, (.ptr n5 0)), (10, (eBool t6.2.2))]) (H' := [(n2, .mem (.st [(1, (eI64 (0 : Int))), (1, (eI64 (0 : Int))), (1, (eStr ByteArray.empty))])), (n5, .mem (e55 (S55.mk t4 (0 : Int) ByteArray.empty)))]) ⟨rfl, rfl, rfl, rfl, rfl, trivial⟩ (Sub.refl _) ?_
      exact ⟨t3.2.1, ByteArray.empty, rfl, rfl, h⟩
  · rintro _ _ ⟨x7, x8, rfl, rfl, h⟩
    rw [op_Read_c1.eq_1] at h
    refine AW.seq_mid (fun ρ H => ∃ (x9 : Int), ρ = [(0, (eStr p0)), (2, (.ptr n2 0)), (7, (.ptr n5 0))] ∧ H = [(n2, .mem (.st [(1, (eI64 (0 : Int))), (1, (eI64 (0 : Int))), (1, (eStr ByteArray.empty))])), (n5, .mem (.st [(1, (eI64 t4)), (1, (eI64 x9)), (1, (eStr x8))]))] ∧ op_Read_c0 k p0 t4 x8 x9 = some r) ?_ ?_
    · refine AW.seq ?_
      refine AW.reg ?_
      refine AO.calm rfl 48 rfl (by decide) (eBool t6.2.2) (Calm.move rfl rfl) ?_
      refine AO.nil (ρ' := [(0, (eStr p0)), (2, (.ptr n2 0)), (5, (eStr x7)), (7, (.ptr n5 0)), (48, (eBool t6.2.2))]) (H' := [(n2, .mem (.st [(1, (eI64 (0 : Int))), (1, (eI64 (0 : Int))), (1, (eStr ByteArray.empty))])), (n5, .mem (.st [(1, (eI64 t4)), (1, (eI64 (0 : Int))), (1, (eStr x8))]))]) ⟨rfl, rfl, rfl, rfl, rfl, trivial⟩ (Sub.refl _) ?_
      by_cases hc16 : t6.2.2 = true
      · have h := (if_pos hc16).symm.trans h
        refine AW.condT' t6.2.2 rfl hc16 ?_
        refine AW.seq ?_
        refine AW.reg ?_
        refine AO.calm rfl 50 rfl (by decide) (eStr x7) (Calm.move rfl rfl) ?_
        obtain ⟨t17, et17, h⟩ := of_bind h
        refine AO.callS [(eStr x7)] (.tup [(eI64 t17.1), (eBool t17.2)]) 51 rfl (by decide) ok16 rfl rfl rfl ⟨rfl, rfl, trivial⟩ (spot_Number_spec et17) ?_
        refine AO.calm rfl 49 rfl (by decide) (.tup [(eI64 t17.1), (eBool t17.2)]) (Calm.move rfl rfl) ?_
        refine AO.calm rfl 52 rfl (by decide) (eI64 t17.1) (Calm.extract rfl rfl rfl) ?_
        refine AO.calm rfl 53 rfl (by decide) (eBool t17.2) (Calm.extract rfl rfl rfl) ?_
        refine AO.calm rfl 14 rfl (by decide) (eI64 t17.1) (Calm.assign rfl rfl) ?_
        refine AO.calm rfl 15 rfl (by decide) (eBool t17.2) (Calm.assign rfl rfl) ?_
        refine AO.nil (ρ' := [(0, (eStr p0)), (2, (.ptr n2 0)), (7, (.ptr n5 0)), (14, (eI64 t17.1)), (15, (eBool t17.2))]) (H' := [(n2, .mem (.st [(1, (eI64 (0 : Int))), (1, (eI64 (0 : Int))), (1, (eStr ByteArray.empty))])), (n5, .mem (.st [(1, (eI64 t4)), (1, (eI64 (0 : Int))), (1, (eStr x8))]))]) ⟨rfl, rfl, rfl, rfl, rfl, trivial⟩ (Sub.refl _) ?_
        refine AW.seq ?_
        refine AW.seq ?_
        refine AW.reg ?_
        refine AO.calm rfl 54 rfl (by decide) (eBool t17.2) (Calm.move rfl rfl) ?_
        refine AO.calm rfl 55 rfl (by decide) (eBool (!t17.2)) (Calm.not rfl rfl) ?_
        refine AO.nil (ρ' := [(0, (eStr p0)), (2, (.ptr n2 0)), (7, (.ptr n5 0)), (14, (eI64 t17.1)), (55, (eBool (!t17.2)))]) (H' := [(n2, .mem (.st [(1, (eI64 (0 : Int))), (1, (eI64 (0 : Int))), (1, (eStr ByteArray.empty))])), (n5, .mem (.st [(1, (eI64 t4)), (1, (eI64 (0 : Int))), (1, (eStr x8))]))]) ⟨rfl, rfl, rfl, rfl, rfl, trivial⟩ (Sub.refl _) ?_
        by_cases hc18 : (!t17.2) = true
        · have h := (if_pos hc18).symm.trans h
          refine AW.condT' (!t17.2) rfl hc18 ?_
          refine AW.seq ?_
          refine AW.reg ?_
          refine AO.calm rfl 56 rfl (by decide) (.st [(1, (eI64 (0 : Int))), (1, (eI64 (0 : Int))), (1, (eStr ByteArray.empty))]) (Calm.build (qs := []) rfl trivial Try.underlying55 rfl zr55 lay55 .nil rfl) ?_
          refine AO.store (X' := (e55 (S55.mk (0 : Int) (0 : Int) ByteArray.empty))) 0 rfl rfl rfl rfl rfl rfl (Put.cast Put.here rfl) rfl rfl sz55 rfl ?_
          refine AO.calm rfl 3 rfl (by decide) (eI64 (24 : Int)) (Calm.assign rfl rfl) ?_
          refine AO.nil (ρ' := [(2, (.ptr n2 0)), (3, (eI64 (24 : Int)))]) (H' := [(n2, .mem (e55 (S55.mk (0 : Int) (0 : Int) ByteArray.empty)))]) ⟨rfl, rfl, trivial⟩ (Sub.cons 0 rfl (Sub.nil _)) ?_
          refine AW.ret (ρ' := [(2, (.ptr n2 0)), (3, (eI64 (24 : Int)))]) (H' := [(n2, .mem (e55 (S55.mk (0 : Int) (0 : Int) ByteArray.empty)))]) ⟨rfl, rfl, trivial⟩ (Sub.refl _) ?_
          have hr := Option.some.inj h
          subst hr
          exact ⟨[(e55 (S55.mk (0 : Int) (0 : Int) ByteArray.empty)), (eI64 (24 : Int))], ⟨⟨_, 0, rfl, rfl, ag55, sz55⟩, rfl, rfl, trivial⟩, rfl⟩
        · have h := (if_neg hc18).symm.trans h
          refine AW.condF' (!t17.2) rfl hc18 ?_
          refine AW.skip (ρ' := [(0, (eStr p0)), (2, (.ptr n2 0)), (7, (.ptr n5 0)), (14, (eI64 t17.1))]) (H' := [(n2, .mem (.st [(1, (eI64 (0 : Int))), (1, (eI64 (0 : Int))), (1, (eStr ByteArray.empty))])), (n5, .mem (.st [(1, (eI64 t4)), (1, (eI64 (0 : Int))), (1, (eStr x8))]))]) ⟨rfl, rfl, rfl, rfl, trivial⟩ (Sub.refl _) ?_
          refine AW.reg ?_
          refine AO.calm rfl 57 rfl (by decide) (eI64 t17.1) (Calm.move rfl rfl) ?_
          refine AO.calm rfl 58 rfl (by decide) (.ptr n5 1) (Calm.fldPtr rfl rfl Try.underlying55 rfl sz3 _ rfl) ?_
          refine AO.store (X' := (.st [(1, (eI64 t4)), (1, (eI64 t17.1)), (1, (eStr x8))])) 1 rfl rfl rfl rfl rfl rfl (Put.cast (Put.fldS (Put.fld0 Put.here)) rfl) rfl rfl sz3 rfl ?_
          refine AO.nil (ρ' := [(0, (eStr p0)), (2, (.ptr n2 0)), (7, (.ptr n5 0))]) (H' := [(n2, .mem (.st [(1, (eI64 (0 : Int))), (1, (eI64 (0 : Int))), (1, (eStr ByteArray.empty))])), (n5, .mem (.st [(1, (eI64 t4)), (1, (eI64 t17.1)), (1, (eStr x8))]))]) ⟨rfl, rfl, rfl, trivial⟩ (Sub.refl _) ?_
          exact ⟨t17.1, rfl, rfl, h⟩
      · have h := (if_neg hc16).symm.trans h
        refine AW.condF' t6.2.2 rfl hc16 ?_
        refine AW.skip (ρ' := [(0, (eStr p0)), (2, (.ptr n2 0)), (7, (.ptr n5 0))]) (H' := [(n2, .mem (.st [(1, (eI64 (0 : Int))), (1, (eI64 (0 : Int))), (1, (eStr ByteArray.empty))])), (n5, .mem (.st [(1, (eI64 t4)), (1, (eI64 (0 : Int))), (1, (eStr x8))]))]) ⟨rfl, rfl, rfl, trivial⟩ (Sub.refl _) ?_
        exact ⟨(0 : Int), rfl, rfl, h⟩
    · rintro _ _ ⟨x9, rfl, rfl, h⟩
      rw [op_Read_c0.eq_1] at h
      refine AW.seq ?_
      refine AW.seq ?_
      obtain ⟨b10, hq11, h⟩ := of_bind h
      refine AW.regM [(2, (.ptr n2 0)), (7, (.ptr n5 0)), (67, (eBool b10))] [(n2, .mem (.st [(1, (eI64 (0 : Int))), (1, (eI64 (0 : Int))), (1, (eStr ByteArray.empty))])), (n5, .mem (.st [(1, (eI64 t4)), (1, (eI64 x9)), (1, (eStr x8))]))] ?_ ?_
      · refine AO.calm rfl 59 rfl (by decide) (e55 (S55.mk t4 x9 x8)) (Calm.load 1 rfl rfl rfl (At.cast At.here rfl) ag55 sz55) ?_
        obtain ⟨t12, et12, hq11⟩ := of_bind hq11
        refine AO.callS [(e55 (S55.mk t4 x9 x8))] (eBool t12) 60 rfl (by decide) ok43 rfl rfl rfl ⟨rfl, rfl, trivial⟩ (_op_Op_Right_spec et12) ?_
        refine AO.calm rfl 61 rfl (by decide) (eBool (!t12)) (Calm.not rfl rfl) ?_
        refine AO.calm rfl 62 rfl (by decide) (eBool (!t12)) (Calm.move rfl rfl) ?_
        by_cases hc13 : (!t12) = true
        · have hq11 := (if_pos hc13).symm.trans hq11
          refine AO.skipG 3 true 62 rfl rfl (congrArg (fun b => some (AV.fl (Value.bool b))) hc13) 63 rfl (by decide) ?_
          refine AO.skipG 3 true 62 rfl rfl (congrArg (fun b => some (AV.fl (Value.bool b))) hc13) 64 rfl (by decide) ?_
          refine AO.skipG 3 true 62 rfl rfl (congrArg (fun b => some (AV.fl (Value.bool b))) hc13) 65 rfl (by decide) ?_
          refine AO.skipG 3 true 62 rfl rfl (congrArg (fun b => some (AV.fl (Value.bool b))) hc13) 66 rfl (by decide) ?_
          refine AO.calm rfl 67 rfl (by decide) (eBool true) (Calm.pickT rfl (congrArg (fun b => some (AV.fl (Value.bool b))) hc13) rfl) ?_
          cases hq11
          refine AO.nilE ⟨rfl, rfl⟩ ?_ ?_
          · exact ⟨rfl, rfl, rfl, trivial⟩
          · exact (Sub.refl _)
        · have hq11 := (if_neg hc13).symm.trans hq11
          refine AO.calmG 3 false 62 rfl rfl (congrArg (fun b => some (AV.fl (Value.bool b))) (eq_false_of_ne_true hc13)) 63 rfl (by decide) (e55 (S55.mk t4 x9 x8)) (Calm.load 1 rfl rfl rfl (At.cast At.here rfl) ag55 sz55) ?_
          obtain ⟨t14, et14, hq11⟩ := of_bind hq11
          refine AO.callG 3 false 62 [(e55 (S55.mk t4 x9 x8))] (eStr t14) 64 rfl (by decide) ok42 rfl rfl (congrArg (fun b => some (AV.fl (Value.bool b))) (eq_false_of_ne_true hc13)) rfl rfl ⟨rfl, rfl, trivial⟩ (_op_Op_Line_spec et14) ?_
          refine AO.calmG 3 false 62 rfl rfl (congrArg (fun b => some (AV.fl (Value.bool b))) (eq_false_of_ne_true hc13)) 65 rfl (by decide) (eStr p0) (Calm.move rfl rfl) ?_
          refine AO.calmG 3 false 62 rfl rfl (congrArg (fun b => some (AV.fl (Value.bool b))) (eq_false_of_ne_true hc13)) 66 rfl (by decide) (eBool (decide (t14 ≠ p0))) (Calm.str rfl rfl rfl rfl) ?_
          refine AO.calm rfl 67 rfl (by decide) (eBool (decide (t14 ≠ p0))) (Calm.pickF rfl (congrArg (fun b => some (AV.fl (Value.bool b))) (eq_false_of_ne_true hc13)) rfl) ?_
          cases hq11
          refine AO.nilE ⟨rfl, rfl⟩ ?_ ?_
          · exact ⟨rfl, rfl, rfl, trivial⟩
          · exact (Sub.refl _)
      · by_cases hc15 : b10 = true
        · have h := (if_pos hc15).symm.trans h
          refine AW.condT' b10 rfl hc15 ?_
          refine AW.seq ?_
          refine AW.reg ?_
          refine AO.calm rfl 68 rfl (by decide) (.st [(1, (eI64 (0 : Int))), (1, (eI64 (0 : Int))), (1, (eStr ByteArray.empty))]) (Calm.build (qs := []) rfl trivial Try.underlying55 rfl zr55 lay55 .nil rfl) ?_
          refine AO.store (X' := (e55 (S55.mk (0 : Int) (0 : Int) ByteArray.empty))) 0 rfl rfl rfl rfl rfl rfl (Put.cast Put.here rfl) rfl rfl sz55 rfl ?_
          refine AO.calm rfl 3 rfl (by decide) (eI64 (24 : Int)) (Calm.assign rfl rfl) ?_
          refine AO.nil (ρ' := [(2, (.ptr n2 0)), (3, (eI64 (24 : Int)))]) (H' := [(n2, .mem (e55 (S55.mk (0 : Int) (0 : Int) ByteArray.empty)))]) ⟨rfl, rfl, trivial⟩ (Sub.cons 0 rfl (Sub.nil _)) ?_
          refine AW.ret (ρ' := [(2, (.ptr n2 0)), (3, (eI64 (24 : Int)))]) (H' := [(n2, .mem (e55 (S55.mk (0 : Int) (0 : Int) ByteArray.empty)))]) ⟨rfl, rfl, trivial⟩ (Sub.refl _) ?_
          have hr := Option.some.inj h
          subst hr
          exact ⟨[(e55 (S55.mk (0 : Int) (0 : Int) ByteArray.empty)), (eI64 (24 : Int))], ⟨⟨_, 0, rfl, rfl, ag55, sz55⟩, rfl, rfl, trivial⟩, rfl⟩
        · have h := (if_neg hc15).symm.trans h
          refine AW.condF' b10 rfl hc15 ?_
          refine AW.skip (ρ' := [(2, (.ptr n2 0)), (7, (.ptr n5 0))]) (H' := [(n2, .mem (.st [(1, (eI64 (0 : Int))), (1, (eI64 (0 : Int))), (1, (eStr ByteArray.empty))])), (n5, .mem (.st [(1, (eI64 t4)), (1, (eI64 x9)), (1, (eStr x8))]))]) ⟨rfl, rfl, trivial⟩ (Sub.refl _) ?_
          refine AW.seq ?_
          refine AW.reg ?_
          refine AO.calm rfl 69 rfl (by decide) (e55 (S55.mk t4 x9 x8)) (Calm.load 1 rfl rfl rfl (At.cast At.here rfl) ag55 sz55) ?_
          refine AO.store (X' := (e55 (S55.mk t4 x9 x8))) 0 rfl rfl rfl rfl rfl rfl (Put.cast Put.here rfl) rfl rfl sz55 rfl ?_
          refine AO.calm rfl 3 rfl (by decide) (eI64 (0 : Int)) (Calm.assign rfl rfl) ?_
          refine AO.nil (ρ' := [(2, (.ptr n2 0)), (3, (eI64 (0 : Int)))]) (H' := [(n2, .mem (e55 (S55.mk t4 x9 x8)))]) ⟨rfl, rfl, trivial⟩ (Sub.cons 0 rfl (Sub.nil _)) ?_
          refine AW.ret (ρ' := [(2, (.ptr n2 0)), (3, (eI64 (0 : Int)))]) (H' := [(n2, .mem (e55 (S55.mk t4 x9 x8)))]) ⟨rfl, rfl, trivial⟩ (Sub.refl _) ?_
          have hr := Option.some.inj h
          subst hr
          exact ⟨[(e55 (S55.mk t4 x9 x8)), (eI64 (0 : Int))], ⟨⟨_, 0, rfl, rfl, ag55, sz55⟩, rfl, rfl, trivial⟩, rfl⟩
end Go.Avl.T2
/- bosket/bosketlaw47.awake; printed by avmain.py. -/
namespace Go.Avl.T2
open Go Go.RowKit Go.Proofs Go.Avl
set_option linter.unusedVariables false
set_option maxRecDepth 100000
set_option maxHeartbeats 4000000
attribute [local irreducible] AW AO AQ Spec SpecH Calm

def bosketlaw47_awake (k : Nat) : Option Bool :=
  (op_Read k (ByteArray.mk #[112, 114, 105, 110, 116, 32, 34, 40, 55, 41, 34, 32, 52, 48])).bind fun t1 =>
  Option.bind (α := Bool) (if t1.2 = (0 : Int) then some (decide (t1.1 = (S55.mk (5 : Int) (40 : Int) (ByteArray.mk #[40, 55, 41]))))
  else some (false)) fun b3 =>
  some (b3)
theorem bosketlaw47_awake_spec {k : Nat}  {r : Bool} (h : bosketlaw47_awake k = some r) : Spec Try.prog 39 [] (eBool r) := by
  rw [bosketlaw47_awake.eq_1] at h
  refine Spec.intro (res := [.tmp 0]) Try.func39 rfl rfl rfl (Nat.le_of_ble_eq_true rfl) ?_
  refine AW.seq ?_
  refine AW.reg ?_
  refine AO.calm rfl 0 rfl (by decide) (eBool false) (Calm.assign rfl rfl) ?_
  refine AO.nil (ρ' := []) (H' := []) trivial (Sub.refl _) ?_
  refine AW.seq ?_
  refine AW.reg ?_
  obtain ⟨t1, et1, h⟩ := of_bind h
  refine AO.callS [(eStr (ByteArray.mk #[112, 114, 105, 110, 116, 32, 34, 40, 55, 41, 34, 32, 52, 48]))] (.tup [(e55 t1.1), (eI64 t1.2)]) 4 rfl (by decide) ok47 rfl rfl rfl ⟨rfl, rfl, trivial⟩ (op_Read_spec et1) ?_
  refine AO.calm rfl 3 rfl (by decide) (.tup [(e55 t1.1), (eI64 t1.2)]) (Calm.move rfl rfl) ?_
  refine AO.calm rfl 5 rfl (by decide) (e55 t1.1) (Calm.extract rfl rfl rfl) ?_
  refine AO.calm rfl 6 rfl (by decide) (eI64 t1.2) (Calm.extract rfl rfl rfl) ?_
  refine AO.alloc rfl 1 rfl (by decide) rfl zr55 lay55 fun n2 => ?_
  refine AO.store (X' := (e55 t1.1)) 0 rfl rfl rfl rfl rfl rfl (Put.cast Put.here rfl) rfl rfl sz55 rfl ?_
  refine AO.calm rfl 2 rfl (by decide) (eI64 t1.2) (Calm.assign rfl rfl) ?_
  refine AO.nil (ρ' := [(1, (.ptr n2 0)), (2, (eI64 t1.2))]) (H' := [(n2, .mem (e55 t1.1))]) ⟨rfl, rfl, trivial⟩ (Sub.refl _) ?_
  refine AW.seq ?_
  obtain ⟨b3, hq4, h⟩ := of_bind h
  refine AW.regM [(0, (eBool b3))] [] ?_ ?_
  · refine AO.calm rfl 7 rfl (by decide) (eI64 t1.2) (Calm.move rfl rfl) ?_
    refine AO.calm rfl 8 rfl (by decide) (eBool (decide (t1.2 = (0 : Int)))) (Calm.int rfl rfl rfl rfl) ?_
    refine AO.calm rfl 9 rfl (by decide) (eBool (decide (t1.2 = (0 : Int)))) (Calm.move rfl rfl) ?_
    by_cases hc5 : t1.2 = (0 : Int)
    · have hq4 := (if_pos hc5).symm.trans hq4
      refine AO.calmG 2 true 9 rfl rfl (congrArg (fun b => some (AV.fl (Value.bool b))) (decide_eq_true hc5)) 10 rfl (by decide) (e55 t1.1) (Calm.load 0 rfl rfl rfl (At.cast At.here rfl) ag55 sz55) ?_
      refine AO.calmG 2 true 9 rfl rfl (congrArg (fun b => some (AV.fl (Value.bool b))) (decide_eq_true hc5)) 11 rfl (by decide) (.st [(1, (eI64 (5 : Int))), (1, (eI64 (40 : Int))), (1, (eStr (ByteArray.mk #[40, 55, 41])))]) (Calm.build (qs := [(0, (eI64 (5 : Int))), (1, (eI64 (40 : Int))), (2, (eStr (ByteArray.mk #[40, 55, 41])))]) rfl ⟨rfl, rfl, rfl, rfl, rfl, rfl, rfl, rfl, rfl, trivial⟩ Try.underlying55 rfl zr55 lay55 (.cons rfl rfl rfl rfl (Put.cast (Put.fld0 Put.here) rfl) (.cons rfl rfl rfl rfl (Put.cast (Put.fldS (Put.fld0 Put.here)) rfl) (.cons rfl rfl rfl rfl (Put.cast (Put.fldS (Put.fldS (Put.fld0 Put.here))) rfl) .nil))) rfl) ?_
      refine AO.calmG 2 true 9 rfl rfl (congrArg (fun b => some (AV.fl (Value.bool b))) (decide_eq_true hc5)) 12 rfl (by decide) (eBool (decide (t1.1 = (S55.mk (5 : Int) (40 : Int) (ByteArray.mk #[40, 55, 41]))))) (Calm.eqS rfl rfl rfl eg55 (eqk55 t1.1 (S55.mk (5 : Int) (40 : Int) (ByteArray.mk #[40, 55, 41]))) (by decide)) ?_
      refine AO.calm rfl 13 rfl (by decide) (eBool (decide (t1.1 = (S55.mk (5 : Int) (40 : Int) (ByteArray.mk #[40, 55, 41]))))) (Calm.pickT rfl (congrArg (fun b => some (AV.fl (Value.bool b))) (decide_eq_true hc5)) rfl) ?_
      refine AO.calm rfl 0 rfl (by decide) (eBool (decide (t1.1 = (S55.mk (5 : Int) (40 : Int) (ByteArray.mk #[40, 55, 41]))))) (Calm.assign rfl rfl) ?_
      cases hq4
      refine AO.nilE ⟨rfl, rfl⟩ ?_ ?_
      · exact ⟨rfl, trivial⟩
      · exact (Sub.nil _)
    · have hq4 := (if_neg hc5).symm.trans hq4
      refine AO.skipG 2 false 9 rfl rfl (congrArg (fun b => some (AV.fl (Value.bool b))) (decide_eq_false hc5)) 10 rfl (by decide) ?_
      refine AO.skipG 2 false 9 rfl rfl (congrArg (fun b => some (AV.fl (Value.bool b))) (decide_eq_false hc5)) 11 rfl (by decide) ?_
      refine AO.skipG 2 false 9 rfl rfl (congrArg (fun b => some (AV.fl (Value.bool b))) (decide_eq_false hc5)) 12 rfl (by decide) ?_
      refine AO.calm rfl 13 rfl (by decide) (eBool false) (Calm.pickF rfl (congrArg (fun b => some (AV.fl (Value.bool b))) (decide_eq_false hc5)) rfl) ?_
      refine AO.calm rfl 0 rfl (by decide) (eBool false) (Calm.assign rfl rfl) ?_
      cases hq4
      refine AO.nilE ⟨rfl, rfl⟩ ?_ ?_
      · exact ⟨rfl, trivial⟩
      · exact (Sub.nil _)
  · refine AW.ret (ρ' := [(0, (eBool b3))]) (H' := []) ⟨rfl, trivial⟩ (Sub.refl _) ?_
    have hr := Option.some.inj h
    subst hr
    exact ⟨[(eBool b3)], ⟨rfl, rfl, trivial⟩, rfl⟩
end Go.Avl.T2
/- bosket/bosketref47.Form; printed by avmain.py. -/
namespace Go.Avl.T2
open Go Go.RowKit Go.Proofs Go.Avl
set_option linter.unusedVariables false
set_option maxRecDepth 100000
set_option maxHeartbeats 4000000
attribute [local irreducible] AW AO AQ Spec SpecH Calm

def bosketref47_Form (k : Nat) (p0 : Int) : Option (ByteArray × Bool × Bool) :=
  Option.bind (α := Bool) (if p0 < (1 : Int) then some (true)
  else some (decide ((11 : Int) < p0))) fun b2 =>
  if b2 = true then some ((ByteArray.mk #[]), false, false)
  else Option.bind (α := Bool) (if (2 : Int) ≤ p0 then some (decide (p0 ≤ (9 : Int)))
  else some (false)) fun b7 =>
  Option.bind (α := Bool) (if p0 = (1 : Int) then some (true)
  else if p0 = (5 : Int) then some (true)
  else if p0 = (7 : Int) then some (true)
  else some (decide (p0 = (10 : Int)))) fun b10 =>
  if 0 ≤ p0 ∧ p0 < (([(ByteArray.mk #[]), (ByteArray.mk #[117, 115, 101]), (ByteArray.mk #[103, 114, 97, 109, 109, 97, 114]), (ByteArray.mk #[108, 101, 120]), (ByteArray.mk #[112, 97, 114, 115, 101]), (ByteArray.mk #[112, 114, 105, 110, 116]), (ByteArray.mk #[116, 105, 103, 104, 116]), (ByteArray.mk #[102, 111, 114, 109, 97, 116]), (ByteArray.mk #[110, 101, 120, 116]), (ByteArray.mk #[116, 114, 101, 101, 115]), (ByteArray.mk #[102, 101, 101, 100]), (ByteArray.mk #[116, 97, 107, 101])] : List ByteArray).length : Int) then (some (lget ([(ByteArray.mk #[]), (ByteArray.mk #[117, 115, 101]), (ByteArray.mk #[103, 114, 97, 109, 109, 97, 114]), (ByteArray.mk #[108, 101, 120]), (ByteArray.mk #[112, 97, 114, 115, 101]), (ByteArray.mk #[112, 114, 105, 110, 116]), (ByteArray.mk #[116, 105, 103, 104, 116]), (ByteArray.mk #[102, 111, 114, 109, 97, 116]), (ByteArray.mk #[110, 101, 120, 116]), (ByteArray.mk #[116, 114, 101, 101, 115]), (ByteArray.mk #[102, 101, 101, 100]), (ByteArray.mk #[116, 97, 107, 101])] : List ByteArray) p0)).bind fun x16 =>
  some (x16, b7, b10)
  else none
theorem bosketref47_Form_spec {k : Nat} {p0 : Int} {r : (ByteArray × Bool × Bool)} (h : bosketref47_Form k p0 = some r) : Spec Try.prog 41 [(eI64 p0)] (.tup [(eStr r.1), (eBool r.2.1), (eBool r.2.2)]) := by
  rw [bosketref47_Form.eq_1] at h
  refine Spec.intro (res := [.tmp 2, .tmp 3, .tmp 4]) Try.func41 rfl rfl rfl (Nat.le_of_ble_eq_true rfl) ?_
  refine AW.seq ?_
  refine AW.reg ?_
  refine AO.calm rfl 2 rfl (by decide) (eStr (ByteArray.mk #[])) (Calm.assign rfl rfl) ?_
  refine AO.calm rfl 3 rfl (by decide) (eBool false) (Calm.assign rfl rfl) ?_
  refine AO.calm rfl 4 rfl (by decide) (eBool false) (Calm.assign rfl rfl) ?_
  refine AO.nil (ρ' := [(0, (eI64 p0))]) (H' := []) ⟨rfl, trivial⟩ (Sub.refl _) ?_
  refine AW.seq ?_
  refine AW.seq ?_
  obtain ⟨b2, hq3, h⟩ := of_bind h
  refine AW.regM [(0, (eI64 p0)), (13, (eBool b2))] [] ?_ ?_
  · refine AO.calm rfl 8 rfl (by decide) (eI64 p0) (Calm.move rfl rfl) ?_
    refine AO.calm rfl 9 rfl (by decide) (eBool (decide (p0 < (1 : Int)))) (Calm.int rfl rfl rfl rfl) ?_
    refine AO.calm rfl 10 rfl (by decide) (eBool (decide (p0 < (1 : Int)))) (Calm.move rfl rfl) ?_
    by_cases hc4 : p0 < (1 : Int)
    · have hq3 := (if_pos hc4).symm.trans hq3
      refine AO.skipG 2 true 10 rfl rfl (congrArg (fun b => some (AV.fl (Value.bool b))) (decide_eq_true hc4)) 11 rfl (by decide) ?_
      refine AO.skipG 2 true 10 rfl rfl (congrArg (fun b => some (AV.fl (Value.bool b))) (decide_eq_true hc4)) 12 rfl (by decide) ?_
      refine AO.calm rfl 13 rfl (by decide) (eBool true) (Calm.pickT rfl (congrArg (fun b => some (AV.fl (Value.bool b))) (decide_eq_true hc4)) rfl) ?_
      cases hq3
      refine AO.nilE ⟨rfl, rfl⟩ ?_ ?_
      · exact ⟨rfl, rfl, trivial⟩
      · exact (Sub.refl _)
    · have hq3 := (if_neg hc4).symm.trans hq3
      refine AO.calmG 2 false 10 rfl rfl (congrArg (fun b => some (AV.fl (Value.bool b))) (decide_eq_false hc4)) 11 rfl (by decide) (eI64 p0) (Calm.move rfl rfl) ?_
      refine AO.calmG 2 false 10 rfl rfl (congrArg (fun b => some (AV.fl (Value.bool b))) (decide_eq_false hc4)) 12 rfl (by decide) (eBool (decide ((11 : Int) < p0))) (Calm.int rfl rfl rfl rfl) ?_
      refine AO.calm rfl 13 rfl (by decide) (eBool (decide ((11 : Int) < p0))) (Calm.pickF rfl (congrArg (fun b => some (AV.fl (Value.bool b))) (decide_eq_false hc4)) rfl) ?_
      cases hq3
      refine AO.nilE ⟨rfl, rfl⟩ ?_ ?_
      · exact ⟨rfl, rfl, trivial⟩
      · exact (Sub.refl _)
  · by_cases hc5 : b2 = true
    · have h := (if_pos hc5).symm.trans h
      refine AW.condT' b2 rfl hc5 ?_
      refine AW.seq ?_
      refine AW.reg ?_
      refine AO.calm rfl 2 rfl (by decide) (eStr (ByteArray.mk #[])) (Calm.assign rfl rfl) ?_
      refine AO.calm rfl 3 rfl (by decide) (eBool false) (Calm.assign rfl rfl) ?_
      refine AO.calm rfl 4 rfl (by decide) (eBool false) (Calm.assign rfl rfl) ?_
      refine AO.nil (ρ' := [(2, (eStr (ByteArray.mk #[]))), (3, (eBool false)), (4, (eBool false))]) (H' := []) ⟨rfl, rfl, rfl, trivial⟩ (Sub.refl _) ?_
      refine AW.ret (ρ' := [(2, (eStr (ByteArray.mk #[]))), (3, (eBool false)), (4, (eBool false))]) (H' := []) ⟨rfl, rfl, rfl, trivial⟩ (Sub.refl _) ?_
      have hr := Option.some.inj h
      subst hr
      exact ⟨[(eStr (ByteArray.mk #[])), (eBool false), (eBool false)], ⟨rfl, rfl, rfl, rfl, rfl, rfl, trivial⟩, rfl⟩
    · have h := (if_neg hc5).symm.trans h
      refine AW.condF' b2 rfl hc5 ?_
      refine AW.skip (ρ' := [(0, (eI64 p0))]) (H' := []) ⟨rfl, trivial⟩ (Sub.refl _) ?_
      refine AW.seq ?_
      refine AW.reg ?_
      refine AO.lit (Z := (eStr ByteArray.empty)) (xs := (([(ByteArray.mk #[]), (ByteArray.mk #[117, 115, 101]), (ByteArray.mk #[103, 114, 97, 109, 109, 97, 114]), (ByteArray.mk #[108, 101, 120]), (ByteArray.mk #[112, 97, 114, 115, 101]), (ByteArray.mk #[112, 114, 105, 110, 116]), (ByteArray.mk #[116, 105, 103, 104, 116]), (ByteArray.mk #[102, 111, 114, 109, 97, 116]), (ByteArray.mk #[110, 101, 120, 116]), (ByteArray.mk #[116, 114, 101, 101, 115]), (ByteArray.mk #[102, 101, 101, 100]), (ByteArray.mk #[116, 97, 107, 101])] : List ByteArray).map eStr)) (qs := [(0, (eStr (ByteArray.mk #[]))), (1, (eStr (ByteArray.mk #[117, 115, 101]))), (2, (eStr (ByteArray.mk #[103, 114, 97, 109, 109, 97, 114]))), (3, (eStr (ByteArray.mk #[108, 101, 120]))), (4, (eStr (ByteArray.mk #[112, 97, 114, 115, 101]))), (5, (eStr (ByteArray.mk #[112, 114, 105, 110, 116]))), (6, (eStr (ByteArray.mk #[116, 105, 103, 104, 116]))), (7, (eStr (ByteArray.mk #[102, 111, 114, 109, 97, 116]))), (8, (eStr (ByteArray.mk #[110, 101, 120, 116]))), (9, (eStr (ByteArray.mk #[116, 114, 101, 101, 115]))), (10, (eStr (ByteArray.mk #[102, 101, 101, 100]))), (11, (eStr (ByteArray.mk #[116, 97, 107, 101])))]) rfl 14 rfl (by decide) rfl ⟨rfl, rfl, rfl, rfl, rfl, rfl, rfl, rfl, rfl, rfl, rfl, rfl, rfl, rfl, rfl, rfl, rfl, rfl, rfl, rfl, rfl, rfl, rfl, rfl, rfl, rfl, rfl, rfl, rfl, rfl, rfl, rfl, rfl, rfl, rfl, rfl, trivial⟩ Try.underlying45 sz9 zr9 lay9 rfl (by decide) (litOK (z := 1) [(eStr (ByteArray.mk #[])), (eStr (ByteArray.mk #[117, 115, 101])), (eStr (ByteArray.mk #[103, 114, 97, 109, 109, 97, 114])), (eStr (ByteArray.mk #[108, 101, 120])), (eStr (ByteArray.mk #[112, 97, 114, 115, 101])), (eStr (ByteArray.mk #[112, 114, 105, 110, 116])), (eStr (ByteArray.mk #[116, 105, 103, 104, 116])), (eStr (ByteArray.mk #[102, 111, 114, 109, 97, 116])), (eStr (ByteArray.mk #[110, 101, 120, 116])), (eStr (ByteArray.mk #[116, 114, 101, 101, 115])), (eStr (ByteArray.mk #[102, 101, 101, 100])), (eStr (ByteArray.mk #[116, 97, 107, 101]))] rfl ⟨⟨rfl, rfl⟩, ⟨rfl, rfl⟩, ⟨rfl, rfl⟩, ⟨rfl, rfl⟩, ⟨rfl, rfl⟩, ⟨rfl, rfl⟩, ⟨rfl, rfl⟩, ⟨rfl, rfl⟩, ⟨rfl, rfl⟩, ⟨rfl, rfl⟩, ⟨rfl, rfl⟩, ⟨rfl, rfl⟩, trivial⟩) rfl fun n6 => ?_
      refine AO.calm rfl 5 rfl (by decide) (.own n6 0 ([(ByteArray.mk #[]), (ByteArray.mk #[117, 115, 101]), (ByteArray.mk #[103, 114, 97, 109, 109, 97, 114]), (ByteArray.mk #[108, 101, 120]), (ByteArray.mk #[112, 97, 114, 115, 101]), (ByteArray.mk #[112, 114, 105, 110, 116]), (ByteArray.mk #[116, 105, 103, 104, 116]), (ByteArray.mk #[102, 111, 114, 109, 97, 116]), (ByteArray.mk #[110, 101, 120, 116]), (ByteArray.mk #[116, 114, 101, 101, 115]), (ByteArray.mk #[102, 101, 101, 100]), (ByteArray.mk #[116, 97, 107, 101])] : List ByteArray).length) (Calm.assign rfl rfl) ?_
      refine AO.nil (ρ' := [(0, (eI64 p0)), (5, (.own n6 0 ([(ByteArray.mk #[]), (ByteArray.mk #[117, 115, 101]), (ByteArray.mk #[103, 114, 97, 109, 109, 97, 114]), (ByteArray.mk #[108, 101, 120]), (ByteArray.mk #[112, 97, 114, 115, 101]), (ByteArray.mk #[112, 114, 105, 110, 116]), (ByteArray.mk #[116, 105, 103, 104, 116]), (ByteArray.mk #[102, 111, 114, 109, 97, 116]), (ByteArray.mk #[110, 101, 120, 116]), (ByteArray.mk #[116, 114, 101, 101, 115]), (ByteArray.mk #[102, 101, 101, 100]), (ByteArray.mk #[116, 97, 107, 101])] : List ByteArray).length))]) (H' := [(n6, .mem (.ar 1 (([(ByteArray.mk #[]), (ByteArray.mk #[117, 115, 101]), (ByteArray.mk #[103, 114, 97, 109, 109, 97, 114]), (ByteArray.mk #[108, 101, 120]), (ByteArray.mk #[112, 97, 114, 115, 101]), (ByteArray.mk #[112, 114, 105, 110, 116]), (ByteArray.mk #[116, 105, 103, 104, 116]), (ByteArray.mk #[102, 111, 114, 109, 97, 116]), (ByteArray.mk #[110, 101, 120, 116]), (ByteArray.mk #[116, 114, 101, 101, 115]), (ByteArray.mk #[102, 101, 101, 100]), (ByteArray.mk #[116, 97, 107, 101])] : List ByteArray).map eStr)))]) ⟨rfl, rfl, trivial⟩ (Sub.refl _) ?_
      refine AW.seq ?_
      obtain ⟨b7, hq8, h⟩ := of_bind h
      refine AW.regM [(0, (eI64 p0)), (5, (.own n6 0 ([(ByteArray.mk #[]), (ByteArray.mk #[117, 115, 101]), (ByteArray.mk #[103, 114, 97, 109, 109, 97, 114]), (ByteArray.mk #[108, 101, 120]), (ByteArray.mk #[112, 97, 114, 115, 101]), (ByteArray.mk #[112, 114, 105, 110, 116]), (ByteArray.mk #[116, 105, 103, 104, 116]), (ByteArray.mk #[102, 111, 114, 109, 97, 116]), (ByteArray.mk #[110, 101, 120, 116]), (ByteArray.mk #[116, 114, 101, 101, 115]), (ByteArray.mk #[102, 101, 101, 100]), (ByteArray.mk #[116, 97, 107, 101])] : List ByteArray).length)), (6, (eBool b7))] [(n6, .mem (.ar 1 (([(ByteArray.mk #[]), (ByteArray.mk #[117, 115, 101]), (ByteArray.mk #[103, 114, 97, 109, 109, 97, 114]), (ByteArray.mk #[108, 101, 120]), (ByteArray.mk #[112, 97, 114, 115, 101]), (ByteArray.mk #[112, 114, 105, 110, 116]), (ByteArray.mk #[116, 105, 103, 104, 116]), (ByteArray.mk #[102, 111, 114, 109, 97, 116]), (ByteArray.mk #[110, 101, 120, 116]), (ByteArray.mk #[116, 114, 101, 101, 115]), (ByteArray.mk #[102, 101, 101, 100]), (ByteArray.mk #[116, 97, 107, 101])] : List ByteArray).map eStr)))] ?_ ?_
      · refine AO.calm rfl 15 rfl (by decide) (eI64 p0) (Calm.move rfl rfl) ?_
        refine AO.calm rfl 16 rfl (by decide) (eBool (decide ((2 : Int) ≤ p0))) (Calm.int rfl rfl rfl rfl) ?_
        refine AO.calm rfl 17 rfl (by decide) (eBool (decide ((2 : Int) ≤ p0))) (Calm.move rfl rfl) ?_
        by_cases hc9 : (2 : Int) ≤ p0
        · have hq8 := (if_pos hc9).symm.trans hq8
          refine AO.calmG 2 true 17 rfl rfl (congrArg (fun b => some (AV.fl (Value.bool b))) (decide_eq_true hc9)) 18 rfl (by decide) (eI64 p0) (Calm.move rfl rfl) ?_
          refine AO.calmG 2 true 17 rfl rfl (congrArg (fun b => some (AV.fl (Value.bool b))) (decide_eq_true hc9)) 19 rfl (by decide) (eBool (decide (p0 ≤ (9 : Int)))) (Calm.int rfl rfl rfl rfl) ?_
          refine AO.calm rfl 20 rfl (by decide) (eBool (decide (p0 ≤ (9 : Int)))) (Calm.pickT rfl (congrArg (fun b => some (AV.fl (Value.bool b))) (decide_eq_true hc9)) rfl) ?_
          refine AO.calm rfl 6 rfl (by decide) (eBool (decide (p0 ≤ (9 : Int)))) (Calm.assign rfl rfl) ?_
          cases hq8
          refine AO.nilE ⟨rfl, rfl⟩ ?_ ?_
          · exact ⟨rfl, rfl, rfl, trivial⟩
          · exact (Sub.refl _)
        · have hq8 := (if_neg hc9).symm.trans hq8
          refine AO.skipG 2 false 17 rfl rfl (congrArg (fun b => some (AV.fl (Value.bool b))) (decide_eq_false hc9)) 18 rfl (by decide) ?_
          refine AO.skipG 2 false 17 rfl rfl (congrArg (fun b => some (AV.fl (Value.bool b))) (decide_eq_false hc9)) 19 rfl (by decide) ?_
          refine AO.calm rfl 20 rfl (by decide) (eBool false) (Calm.pickF rfl (congrArg (fun b => some (AV.fl (Value.bool b))) (decide_eq_false hc9)) rfl) ?_
          refine AO.calm rfl 6 rfl (by decide) (eBool false) (Calm.assign rfl rfl) ?_
          cases hq8
          refine AO.nilE ⟨rfl, rfl⟩ ?_ ?_
          · exact ⟨rfl, rfl, rfl, trivial⟩
          · exact (Sub.refl _)
      · refine AW.seq ?_
        obtain ⟨b10, hq11, h⟩ := of_bind h
        refine AW.regM [(0, (eI64 p0)), (5, (.own n6 0 ([(ByteArray.mk #[]), (ByteArray.mk #[117, 115, 101]), (ByteArray.mk #[103, 114, 97, 109, 109, 97, 114]), (ByteArray.mk #[108, 101, 120]), (ByteArray.mk #[112, 97, 114, 115, 101]), (ByteArray.mk #[112, 114, 105, 110, 116]), (ByteArray.mk #[116, 105, 103, 104, 116]), (ByteArray.mk #[102, 111, 114, 109, 97, 116]), (ByteArray.mk #[110, 101, 120, 116]), (ByteArray.mk #[116, 114, 101, 101, 115]), (ByteArray.mk #[102, 101, 101, 100]), (ByteArray.mk #[116, 97, 107, 101])] : List ByteArray).length)), (6, (eBool b7)), (7, (eBool b10))] [(n6, .mem (.ar 1 (([(ByteArray.mk #[]), (ByteArray.mk #[117, 115, 101]), (ByteArray.mk #[103, 114, 97, 109, 109, 97, 114]), (ByteArray.mk #[108, 101, 120]), (ByteArray.mk #[112, 97, 114, 115, 101]), (ByteArray.mk #[112, 114, 105, 110, 116]), (ByteArray.mk #[116, 105, 103, 104, 116]), (ByteArray.mk #[102, 111, 114, 109, 97, 116]), (ByteArray.mk #[110, 101, 120, 116]), (ByteArray.mk #[116, 114, 101, 101, 115]), (ByteArray.mk #[102, 101, 101, 100]), (ByteArray.mk #[116, 97, 107, 101])] : List ByteArray).map eStr)))] ?_ ?_
        · refine AO.calm rfl 21 rfl (by decide) (eI64 p0) (Calm.move rfl rfl) ?_
          refine AO.calm rfl 22 rfl (by decide) (eBool (decide (p0 = (1 : Int)))) (Calm.int rfl rfl rfl rfl) ?_
          refine AO.calm rfl 23 rfl (by decide) (eBool (decide (p0 = (1 : Int)))) (Calm.move rfl rfl) ?_
          by_cases hc12 : p0 = (1 : Int)
          · have hq11 := (if_pos hc12).symm.trans hq11
            refine AO.skipG 2 true 23 rfl rfl (congrArg (fun b => some (AV.fl (Value.bool b))) (decide_eq_true hc12)) 24 rfl (by decide) ?_
            refine AO.skipG 2 true 23 rfl rfl (congrArg (fun b => some (AV.fl (Value.bool b))) (decide_eq_true hc12)) 25 rfl (by decide) ?_
            refine AO.calm rfl 26 rfl (by decide) (eBool true) (Calm.pickT rfl (congrArg (fun b => some (AV.fl (Value.bool b))) (decide_eq_true hc12)) rfl) ?_
            refine AO.calm rfl 27 rfl (by decide) (eBool true) (Calm.move rfl rfl) ?_
            refine AO.skipG 6 true 27 rfl rfl rfl 28 rfl (by decide) ?_
            refine AO.skipG 6 true 27 rfl rfl rfl 29 rfl (by decide) ?_
            refine AO.calm rfl 30 rfl (by decide) (eBool true) (Calm.pickT rfl rfl rfl) ?_
            refine AO.calm rfl 31 rfl (by decide) (eBool true) (Calm.move rfl rfl) ?_
            refine AO.skipG 10 true 31 rfl rfl rfl 32 rfl (by decide) ?_
            refine AO.skipG 10 true 31 rfl rfl rfl 33 rfl (by decide) ?_
            refine AO.calm rfl 34 rfl (by decide) (eBool true) (Calm.pickT rfl rfl rfl) ?_
            refine AO.calm rfl 7 rfl (by decide) (eBool true) (Calm.assign rfl rfl) ?_
            cases hq11
            refine AO.nilE ⟨rfl, rfl⟩ ?_ ?_
            · exact ⟨rfl, rfl, rfl, rfl, trivial⟩
            · exact (Sub.refl _)
          · have hq11 := (if_neg hc12).symm.trans hq11
            refine AO.calmG 2 false 23 rfl rfl (congrArg (fun b => some (AV.fl (Value.bool b))) (decide_eq_false hc12)) 24 rfl (by decide) (eI64 p0) (Calm.move rfl rfl) ?_
            refine AO.calmG 2 false 23 rfl rfl (congrArg (fun b => some (AV.fl (Value.bool b))) (decide_eq_false hc12)) 25 rfl (by decide) (eBool (decide (p0 = (5 : Int)))) (Calm.int rfl rfl rfl rfl) ?_
            refine AO.calm rfl 26 rfl (by decide) (eBool (decide (p0 = (5 : Int)))) (Calm.pickF rfl (congrArg (fun b => some (AV.fl (Value.bool b))) (decide_eq_false hc12)) rfl) ?_
            refine AO.calm rfl 27 rfl (by decide) (eBool (decide (p0 = (5 : Int)))) (Calm.move rfl rfl) ?_
            by_cases hc13 : p0 = (5 : Int)
            · have hq11 := (if_pos hc13).symm.trans hq11
              refine AO.skipG 6 true 27 rfl rfl (congrArg (fun b => some (AV.fl (Value.bool b))) (decide_eq_true hc13)) 28 rfl (by decide) ?_
              refine AO.skipG 6 true 27 rfl rfl (congrArg (fun b => some (AV.fl (Value.bool b))) (decide_eq_true hc13)) 29 rfl (by decide) ?_
              refine AO.calm rfl 30 rfl (by decide) (eBool true) (Calm.pickT rfl (congrArg (fun b => some (AV.fl (Value.bool b))) (decide_eq_true hc13)) rfl) ?_
              refine AO.calm rfl 31 rfl (by decide) (eBool true) (Calm.move rfl rfl) ?_
              refine AO.skipG 10 true 31 rfl rfl rfl 32 rfl (by decide) ?_
              refine AO.skipG 10 true 31 rfl rfl rfl 33 rfl (by decide) ?_
              refine AO.calm rfl 34 rfl (by decide) (eBool true) (Calm.pickT rfl rfl rfl) ?_
              refine AO.calm rfl 7 rfl (by decide) (eBool true) (Calm.assign rfl rfl) ?_
              cases hq11
              refine AO.nilE ⟨rfl, rfl⟩ ?_ ?_
              · exact ⟨rfl, rfl, rfl, rfl, trivial⟩
              · exact (Sub.refl _)
            · have hq11 := (if_neg hc13).symm.trans hq11
              refine AO.calmG 6 false 27 rfl rfl (congrArg (fun b => some (AV.fl (Value.bool b))) (decide_eq_false hc13)) 28 rfl (by decide) (eI64 p0) (Calm.move rfl rfl) ?_
              refine AO.calmG 6 false 27 rfl rfl (congrArg (fun b => some (AV.fl (Value.bool b))) (decide_eq_false hc13)) 29 rfl (by decide) (eBool (decide (p0 = (7 : Int)))) (Calm.int rfl rfl rfl rfl) ?_
              refine AO.calm rfl 30 rfl (by decide) (eBool (decide (p0 = (7 : Int)))) (Calm.pickF rfl (congrArg (fun b => some (AV.fl (Value.bool b))) (decide_eq_false hc13)) rfl) ?_
              refine AO.calm rfl 31 rfl (by decide) (eBool (decide (p0 = (7 : Int)))) (Calm.move rfl rfl) ?_
              by_cases hc14 : p0 = (7 : Int)
              · have hq11 := (if_pos hc14).symm.trans hq11
                refine AO.skipG 10 true 31 rfl rfl (congrArg (fun b => some (AV.fl (Value.bool b))) (decide_eq_true hc14)) 32 rfl (by decide) ?_
                refine AO.skipG 10 true 31 rfl rfl (congrArg (fun b => some (AV.fl (Value.bool b))) (decide_eq_true hc14)) 33 rfl (by decide) ?_
                refine AO.calm rfl 34 rfl (by decide) (eBool true) (Calm.pickT rfl (congrArg (fun b => some (AV.fl (Value.bool b))) (decide_eq_true hc14)) rfl) ?_
                refine AO.calm rfl 7 rfl (by decide) (eBool true) (Calm.assign rfl rfl) ?_
                cases hq11
                refine AO.nilE ⟨rfl, rfl⟩ ?_ ?_
                · exact ⟨rfl, rfl, rfl, rfl, trivial⟩
                · exact (Sub.refl _)
              · have hq11 := (if_neg hc14).symm.trans hq11
                refine AO.calmG 10 false 31 rfl rfl (congrArg (fun b => some (AV.fl (Value.bool b))) (decide_eq_false hc14)) 32 rfl (by decide) (eI64 p0) (Calm.move rfl rfl) ?_
                refine AO.calmG 10 false 31 rfl rfl (congrArg (fun b => some (AV.fl (Value.bool b))) (decide_eq_false hc14)) 33 rfl (by decide) (eBool (decide (p0 = (10 : Int)))) (Calm.int rfl rfl rfl rfl) ?_
                refine AO.calm rfl 34 rfl (by decide) (eBool (decide (p0 = (10 : Int)))) (Calm.pickF rfl (congrArg (fun b => some (AV.fl (Value.bool b))) (decide_eq_false hc14)) rfl) ?_
                refine AO.calm rfl 7 rfl (by decide) (eBool (decide (p0 = (10 : Int)))) (Calm.assign rfl rfl) ?_
                cases hq11
                refine AO.nilE ⟨rfl, rfl⟩ ?_ ?_
                · exact ⟨rfl, rfl, rfl, rfl, trivial⟩
                · exact (Sub.refl _)
        · refine AW.seq ?_
          refine AW.reg ?_
          refine AO.calm rfl 35 rfl (by decide) (.own n6 0 ([(ByteArray.mk #[]), (ByteArray.mk #[117, 115, 101]), (ByteArray.mk #[103, 114, 97, 109, 109, 97, 114]), (ByteArray.mk #[108, 101, 120]), (ByteArray.mk #[112, 97, 114, 115, 101]), (ByteArray.mk #[112, 114, 105, 110, 116]), (ByteArray.mk #[116, 105, 103, 104, 116]), (ByteArray.mk #[102, 111, 114, 109, 97, 116]), (ByteArray.mk #[110, 101, 120, 116]), (ByteArray.mk #[116, 114, 101, 101, 115]), (ByteArray.mk #[102, 101, 101, 100]), (ByteArray.mk #[116, 97, 107, 101])] : List ByteArray).length) (Calm.move rfl rfl) ?_
          refine AO.calm rfl 36 rfl (by decide) (eI64 p0) (Calm.move rfl rfl) ?_
          obtain ⟨hg15, h⟩ := of_guard h
          refine AO.calm rfl 37 rfl (by decide) (.ptr n6 (p0.toNat * 1 + 0)) (Calm.idxO 0 rfl rfl rfl rfl hg15 Try.underlying45 sz9) ?_
          refine AO.calm rfl 38 rfl (by decide) (eStr (lget ([(ByteArray.mk #[]), (ByteArray.mk #[117, 115, 101]), (ByteArray.mk #[103, 114, 97, 109, 109, 97, 114]), (ByteArray.mk #[108, 101, 120]), (ByteArray.mk #[112, 97, 114, 115, 101]), (ByteArray.mk #[112, 114, 105, 110, 116]), (ByteArray.mk #[116, 105, 103, 104, 116]), (ByteArray.mk #[102, 111, 114, 109, 97, 116]), (ByteArray.mk #[110, 101, 120, 116]), (ByteArray.mk #[116, 114, 101, 101, 115]), (ByteArray.mk #[102, 101, 101, 100]), (ByteArray.mk #[116, 97, 107, 101])] : List ByteArray) p0)) (Calm.load 0 rfl rfl rfl (At.cast (At.lidx p0 hg15.1 hg15.2 At.here) (by omega)) ag9 sz9) ?_
          refine AO.calm rfl 39 rfl (by decide) (eBool b7) (Calm.move rfl rfl) ?_
          refine AO.calm rfl 40 rfl (by decide) (eBool b10) (Calm.move rfl rfl) ?_
          obtain ⟨x16, ex16, h⟩ := of_bind h
          refine AO.calm rfl 2 rfl (by decide) (eStr x16) (Calm.assign rfl (congrArg (fun x => some (eStr x)) (Option.some.inj ex16))) ?_
          refine AO.calm rfl 3 rfl (by decide) (eBool b7) (Calm.assign rfl rfl) ?_
          refine AO.calm rfl 4 rfl (by decide) (eBool b10) (Calm.assign rfl rfl) ?_
          refine AO.nil (ρ' := [(2, (eStr x16)), (3, (eBool b7)), (4, (eBool b10))]) (H' := []) ⟨rfl, rfl, rfl, trivial⟩ (Sub.nil _) ?_
          refine AW.ret (ρ' := [(2, (eStr x16)), (3, (eBool b7)), (4, (eBool b10))]) (H' := []) ⟨rfl, rfl, rfl, trivial⟩ (Sub.refl _) ?_
          have hr := Option.some.inj h
          subst hr
          exact ⟨[(eStr x16), (eBool b7), (eBool b10)], ⟨rfl, rfl, rfl, rfl, rfl, rfl, trivial⟩, rfl⟩
end Go.Avl.T2
/- bosket/bosketlaw47.Ref; printed by avmain.py. -/
namespace Go.Avl.T2
open Go Go.RowKit Go.Proofs Go.Avl
set_option linter.unusedVariables false
set_option maxRecDepth 100000
set_option maxHeartbeats 4000000
attribute [local irreducible] AW AO AQ Spec SpecH Calm

def bosketlaw47_Ref (k : Nat) (p0 : S55) : Option S60 :=
  some ((S60.mk p0.f0 p0.f1 p0.f2))
theorem bosketlaw47_Ref_spec {k : Nat} {p0 : S55} {r : S60} (h : bosketlaw47_Ref k p0 = some r) : Spec Try.prog 45 [(e55 p0)] (e60 r) := by
  rw [bosketlaw47_Ref.eq_1] at h
  refine Spec.intro (res := [.cell 2 60]) Try.func45 rfl rfl rfl (Nat.le_of_ble_eq_true rfl) ?_
  refine AW.seq ?_
  refine AW.reg ?_
  refine AO.box rfl 1 rfl (by decide) rfl rfl rfl fun n2 => ?_
  refine AO.alloc rfl 2 rfl (by decide) rfl zr60 lay60 fun n3 => ?_
  refine AO.nil (ρ' := [(1, (.ptr n2 0)), (2, (.ptr n3 0))]) (H' := [(n2, .mem (e55 p0)), (n3, .mem (.st [(1, (eI64 (0 : Int))), (1, (eI64 (0 : Int))), (1, (eStr ByteArray.empty))]))]) ⟨rfl, rfl, trivial⟩ (Sub.cons 1 rfl (Sub.cons 0 rfl (Sub.nil _))) ?_
  refine AW.seq ?_
  refine AW.reg ?_
  refine AO.calm rfl 3 rfl (by decide) (.ptr n2 0) (Calm.fldPtr rfl rfl Try.underlying55 rfl sz3 _ rfl) ?_
  refine AO.calm rfl 4 rfl (by decide) (eI64 p0.f0) (Calm.load 0 rfl rfl rfl (At.cast (At.fld0 At.here) rfl) ag3 sz3) ?_
  refine AO.calm rfl 5 rfl (by decide) (.ptr n2 1) (Calm.fldPtr rfl rfl Try.underlying55 rfl sz3 _ rfl) ?_
  refine AO.calm rfl 6 rfl (by decide) (eI64 p0.f1) (Calm.load 0 rfl rfl rfl (At.cast (At.fldS (At.fld0 At.here)) rfl) ag3 sz3) ?_
  refine AO.calm rfl 7 rfl (by decide) (.ptr n2 2) (Calm.fldPtr rfl rfl Try.underlying55 rfl sz9 _ rfl) ?_
  refine AO.calm rfl 8 rfl (by decide) (eStr p0.f2) (Calm.load 0 rfl rfl rfl (At.cast (At.fldS (At.fldS (At.fld0 At.here))) rfl) ag9 sz9) ?_
  refine AO.calm rfl 9 rfl (by decide) (.st [(1, (eI64 p0.f0)), (1, (eI64 p0.f1)), (1, (eStr p0.f2))]) (Calm.build (qs := [(0, (eI64 p0.f0)), (1, (eI64 p0.f1)), (2, (eStr p0.f2))]) rfl ⟨rfl, rfl, rfl, rfl, rfl, rfl, rfl, rfl, rfl, trivial⟩ Try.underlying60 rfl zr60 lay60 (.cons rfl rfl rfl rfl (Put.cast (Put.fld0 Put.here) rfl) (.cons rfl rfl rfl rfl (Put.cast (Put.fldS (Put.fld0 Put.here)) rfl) (.cons rfl rfl rfl rfl (Put.cast (Put.fldS (Put.fldS (Put.fld0 Put.here))) rfl) .nil))) rfl) ?_
  refine AO.store (X' := (e60 (S60.mk p0.f0 p0.f1 p0.f2))) 1 rfl rfl rfl rfl rfl rfl (Put.cast Put.here rfl) rfl rfl sz60 rfl ?_
  refine AO.nil (ρ' := [(2, (.ptr n3 0))]) (H' := [(n3, .mem (e60 (S60.mk p0.f0 p0.f1 p0.f2)))]) ⟨rfl, trivial⟩ (Sub.cons 1 rfl (Sub.nil _)) ?_
  refine AW.ret (ρ' := [(2, (.ptr n3 0))]) (H' := [(n3, .mem (e60 (S60.mk p0.f0 p0.f1 p0.f2)))]) ⟨rfl, trivial⟩ (Sub.refl _) ?_
  have hr := Option.some.inj h
  subst hr
  exact ⟨[(e60 (S60.mk p0.f0 p0.f1 p0.f2))], ⟨⟨_, 0, rfl, rfl, ag60, sz60⟩, trivial⟩, rfl⟩
end Go.Avl.T2
/- bosket/bosketref47.Right; printed by avmain.py. -/
namespace Go.Avl.T2
open Go Go.RowKit Go.Proofs Go.Avl
set_option linter.unusedVariables false
set_option maxRecDepth 100000
set_option maxHeartbeats 4000000
attribute [local irreducible] AW AO AQ Spec SpecH Calm

def bosketref47_Right (k : Nat) (p0 : S60) : Option Bool :=
  (bosketref47_Form k p0.f0).bind fun t3 =>
  Option.bind (α := Bool) (if (1 : Int) ≤ p0.f0 then if p0.f0 ≤ (11 : Int) then if t3.2.1 = true then if t3.2.2 = true then some (decide ((p0.f2.size : Int) ≤ (65536 : Int)))
  else if p0.f1 = (0 : Int) then some (decide ((p0.f2.size : Int) ≤ (65536 : Int)))
  else some (false)
  else if p0.f2 = (ByteArray.mk #[]) then if t3.2.2 = true then some (decide ((p0.f2.size : Int) ≤ (65536 : Int)))
  else if p0.f1 = (0 : Int) then some (decide ((p0.f2.size : Int) ≤ (65536 : Int)))
  else some (false)
  else some (false)
  else some (false)
  else some (false)) fun b4 =>
  some (b4)
theorem bosketref47_Right_spec {k : Nat} {p0 : S60} {r : Bool} (h : bosketref47_Right k p0 = some r) : Spec Try.prog 44 [(e60 p0)] (eBool r) := by
  rw [bosketref47_Right.eq_1] at h
  refine Spec.intro (res := [.tmp 2]) Try.func44 rfl rfl rfl (Nat.le_of_ble_eq_true rfl) ?_
  refine AW.seq ?_
  refine AW.reg ?_
  refine AO.box rfl 1 rfl (by decide) rfl rfl rfl fun n2 => ?_
  refine AO.calm rfl 2 rfl (by decide) (eBool false) (Calm.assign rfl rfl) ?_
  refine AO.nil (ρ' := [(1, (.ptr n2 0))]) (H' := [(n2, .mem (e60 p0))]) ⟨rfl, trivial⟩ (Sub.refl _) ?_
  refine AW.seq ?_
  refine AW.reg ?_
  refine AO.calm rfl 7 rfl (by decide) (.ptr n2 0) (Calm.fldPtr rfl rfl Try.underlying60 rfl sz3 _ rfl) ?_
  refine AO.calm rfl 8 rfl (by decide) (eI64 p0.f0) (Calm.load 0 rfl rfl rfl (At.cast (At.fld0 At.here) rfl) ag3 sz3) ?_
  obtain ⟨t3, et3, h⟩ := of_bind h
  refine AO.callS [(eI64 p0.f0)] (.tup [(eStr t3.1), (eBool t3.2.1), (eBool t3.2.2)]) 9 rfl (by decide) ok41 rfl rfl rfl ⟨rfl, rfl, trivial⟩ (bosketref47_Form_spec et3) ?_
  refine AO.calm rfl 6 rfl (by decide) (.tup [(eStr t3.1), (eBool t3.2.1), (eBool t3.2.2)]) (Calm.move rfl rfl) ?_
  refine AO.calm rfl 10 rfl (by decide) (eStr t3.1) (Calm.extract rfl rfl rfl) ?_
  refine AO.calm rfl 11 rfl (by decide) (eBool t3.2.1) (Calm.extract rfl rfl rfl) ?_
  refine AO.calm rfl 12 rfl (by decide) (eBool t3.2.2) (Calm.extract rfl rfl rfl) ?_
  refine AO.calm rfl 3 rfl (by decide) (eStr t3.1) (Calm.assign rfl rfl) ?_
  refine AO.calm rfl 4 rfl (by decide) (eBool t3.2.1) (Calm.assign rfl rfl) ?_
  refine AO.calm rfl 5 rfl (by decide) (eBool t3.2.2) (Calm.assign rfl rfl) ?_
  refine AO.nil (ρ' := [(1, (.ptr n2 0)), (4, (eBool t3.2.1)), (5, (eBool t3.2.2))]) (H' := [(n2, .mem (e60 p0))]) ⟨rfl, rfl, rfl, trivial⟩ (Sub.refl _) ?_
  refine AW.seq ?_
  obtain ⟨b4, hq5, h⟩ := of_bind h
  refine AW.regM [(2, (eBool b4))] [] ?_ ?_
  · refine AO.calm rfl 13 rfl (by decide) (.ptr n2 0) (Calm.fldPtr rfl rfl Try.underlying60 rfl sz3 _ rfl) ?_
    refine AO.calm rfl 14 rfl (by decide) (eI64 p0.f0) (Calm.load 0 rfl rfl rfl (At.cast (At.fld0 At.here) rfl) ag3 sz3) ?_
    refine AO.calm rfl 15 rfl (by decide) (eBool (decide ((1 : Int) ≤ p0.f0))) (Calm.int rfl rfl rfl rfl) ?_
    refine AO.calm rfl 16 rfl (by decide) (eBool (decide ((1 : Int) ≤ p0.f0))) (Calm.move rfl rfl) ?_
    by_cases hc6 : (1 : Int) ≤ p0.f0
    · have hq5 := (if_pos hc6).symm.trans hq5
      refine AO.calmG 3 true 16 rfl rfl (congrArg (fun b => some (AV.fl (Value.bool b))) (decide_eq_true hc6)) 17 rfl (by decide) (.ptr n2 0) (Calm.fldPtr rfl rfl Try.underlying60 rfl sz3 _ rfl) ?_
      refine AO.calmG 3 true 16 rfl rfl (congrArg (fun b => some (AV.fl (Value.bool b))) (decide_eq_true hc6)) 18 rfl (by decide) (eI64 p0.f0) (Calm.load 0 rfl rfl rfl (At.cast (At.fld0 At.here) rfl) ag3 sz3) ?_
      refine AO.calmG 3 true 16 rfl rfl (congrArg (fun b => some (AV.fl (Value.bool b))) (decide_eq_true hc6)) 19 rfl (by decide) (eBool (decide (p0.f0 ≤ (11 : Int)))) (Calm.int rfl rfl rfl rfl) ?_
      refine AO.calm rfl 20 rfl (by decide) (eBool (decide (p0.f0 ≤ (11 : Int)))) (Calm.pickT rfl (congrArg (fun b => some (AV.fl (Value.bool b))) (decide_eq_true hc6)) rfl) ?_
      refine AO.calm rfl 21 rfl (by decide) (eBool (decide (p0.f0 ≤ (11 : Int)))) (Calm.move rfl rfl) ?_
      by_cases hc7 : p0.f0 ≤ (11 : Int)
      · have hq5 := (if_pos hc7).symm.trans hq5
        refine AO.calmG 8 true 21 rfl rfl (congrArg (fun b => some (AV.fl (Value.bool b))) (decide_eq_true hc7)) 22 rfl (by decide) (eBool t3.2.1) (Calm.move rfl rfl) ?_
        refine AO.calmG 8 true 21 rfl rfl (congrArg (fun b => some (AV.fl (Value.bool b))) (decide_eq_true hc7)) 23 rfl (by decide) (eBool t3.2.1) (Calm.move rfl rfl) ?_
        by_cases hc8 : t3.2.1 = true
        · have hq5 := (if_pos hc8).symm.trans hq5
          refine AO.skipG 10 true 23 rfl rfl (congrArg (fun b => some (AV.fl (Value.bool b))) hc8) 24 rfl (by decide) ?_
          refine AO.skipG 10 true 23 rfl rfl (congrArg (fun b => some (AV.fl (Value.bool b))) hc8) 25 rfl (by decide) ?_
          refine AO.skipG 10 true 23 rfl rfl (congrArg (fun b => some (AV.fl (Value.bool b))) hc8) 26 rfl (by decide) ?_
          refine AO.calmG 8 true 21 rfl rfl (congrArg (fun b => some (AV.fl (Value.bool b))) (decide_eq_true hc7)) 27 rfl (by decide) (eBool true) (Calm.pickT rfl (congrArg (fun b => some (AV.fl (Value.bool b))) hc8) rfl) ?_
          refine AO.calm rfl 28 rfl (by decide) (eBool true) (Calm.pickT rfl (congrArg (fun b => some (AV.fl (Value.bool b))) (decide_eq_true hc7)) rfl) ?_
          refine AO.calm rfl 29 rfl (by decide) (eBool true) (Calm.move rfl rfl) ?_
          refine AO.calmG 16 true 29 rfl rfl rfl 30 rfl (by decide) (eBool t3.2.2) (Calm.move rfl rfl) ?_
          refine AO.calmG 16 true 29 rfl rfl rfl 31 rfl (by decide) (eBool t3.2.2) (Calm.move rfl rfl) ?_
          by_cases hc9 : t3.2.2 = true
          · have hq5 := (if_pos hc9).symm.trans hq5
            refine AO.skipG 18 true 31 rfl rfl (congrArg (fun b => some (AV.fl (Value.bool b))) hc9) 32 rfl (by decide) ?_
            refine AO.skipG 18 true 31 rfl rfl (congrArg (fun b => some (AV.fl (Value.bool b))) hc9) 33 rfl (by decide) ?_
            refine AO.skipG 18 true 31 rfl rfl (congrArg (fun b => some (AV.fl (Value.bool b))) hc9) 34 rfl (by decide) ?_
            refine AO.calmG 16 true 29 rfl rfl rfl 35 rfl (by decide) (eBool true) (Calm.pickT rfl (congrArg (fun b => some (AV.fl (Value.bool b))) hc9) rfl) ?_
            refine AO.calm rfl 36 rfl (by decide) (eBool true) (Calm.pickT rfl rfl rfl) ?_
            refine AO.calm rfl 37 rfl (by decide) (eBool true) (Calm.move rfl rfl) ?_
            refine AO.calmG 24 true 37 rfl rfl rfl 38 rfl (by decide) (.ptr n2 2) (Calm.fldPtr rfl rfl Try.underlying60 rfl sz9 _ rfl) ?_
            refine AO.calmG 24 true 37 rfl rfl rfl 39 rfl (by decide) (eStr p0.f2) (Calm.load 0 rfl rfl rfl (At.cast (At.fldS (At.fldS (At.fld0 At.here))) rfl) ag9 sz9) ?_
            refine AO.calmG 24 true 37 rfl rfl rfl 40 rfl (by decide) (eI64 (p0.f2.size : Int)) (Calm.lenStr rfl rfl Try.underlying9) ?_
            refine AO.calmG 24 true 37 rfl rfl rfl 41 rfl (by decide) (eBool (decide ((p0.f2.size : Int) ≤ (65536 : Int)))) (Calm.int rfl rfl rfl rfl) ?_
            refine AO.calm rfl 42 rfl (by decide) (eBool (decide ((p0.f2.size : Int) ≤ (65536 : Int)))) (Calm.pickT rfl rfl rfl) ?_
            refine AO.calm rfl 2 rfl (by decide) (eBool (decide ((p0.f2.size : Int) ≤ (65536 : Int)))) (Calm.assign rfl rfl) ?_
            cases hq5
            refine AO.nilE ⟨rfl, rfl⟩ ?_ ?_
            · exact ⟨rfl, trivial⟩
            · exact (Sub.nil _)
          · have hq5 := (if_neg hc9).symm.trans hq5
            refine AO.calmG 18 false 31 rfl rfl (congrArg (fun b => some (AV.fl (Value.bool b))) (eq_false_of_ne_true hc9)) 32 rfl (by decide) (.ptr n2 1) (Calm.fldPtr rfl rfl Try.underlying60 rfl sz3 _ rfl) ?_
            refine AO.calmG 18 false 31 rfl rfl (congrArg (fun b => some (AV.fl (Value.bool b))) (eq_false_of_ne_true hc9)) 33 rfl (by decide) (eI64 p0.f1) (Calm.load 0 rfl rfl rfl (At.cast (At.fldS (At.fld0 At.here)) rfl) ag3 sz3) ?_
            refine AO.calmG 18 false 31 rfl rfl (congrArg (fun b => some (AV.fl (Value.bool b))) (eq_false_of_ne_true hc9)) 34 rfl (by decide) (eBool (decide (p0.f1 = (0 : Int)))) (Calm.int rfl rfl rfl rfl) ?_
            refine AO.calmG 16 true 29 rfl rfl rfl 35 rfl (by decide) (eBool (decide (p0.f1 = (0 : Int)))) (Calm.pickF rfl (congrArg (fun b => some (AV.fl (Value.bool b))) (eq_false_of_ne_true hc9)) rfl) ?_
            refine AO.calm rfl 36 rfl (by decide) (eBool (decide (p0.f1 = (0 : Int)))) (Calm.pickT rfl rfl rfl) ?_
            refine AO.calm rfl 37 rfl (by decide) (eBool (decide (p0.f1 = (0 : Int)))) (Calm.move rfl rfl) ?_
            by_cases hc10 : p0.f1 = (0 : Int)
            · have hq5 := (if_pos hc10).symm.trans hq5
              refine AO.calmG 24 true 37 rfl rfl (congrArg (fun b => some (AV.fl (Value.bool b))) (decide_eq_true hc10)) 38 rfl (by decide) (.ptr n2 2) (Calm.fldPtr rfl rfl Try.underlying60 rfl sz9 _ rfl) ?_
              refine AO.calmG 24 true 37 rfl rfl (congrArg (fun b => some (AV.fl (Value.bool b))) (decide_eq_true hc10)) 39 rfl (by decide) (eStr p0.f2) (Calm.load 0 rfl rfl rfl (At.cast (At.fldS (At.fldS (At.fld0 At.here))) rfl) ag9 sz9) ?_
              refine AO.calmG 24 true 37 rfl rfl (congrArg (fun b => some (AV.fl (Value.bool b))) (decide_eq_true hc10)) 40 rfl (by decide) (eI64 (p0.f2.size : Int)) (Calm.lenStr rfl rfl Try.underlying9) ?_
              refine AO.calmG 24 true 37 rfl rfl (congrArg (fun b => some (AV.fl (Value.bool b))) (decide_eq_true hc10)) 41 rfl (by decide) (eBool (decide ((p0.f2.size : Int) ≤ (65536 : Int)))) (Calm.int rfl rfl rfl rfl) ?_
              refine AO.calm rfl 42 rfl (by decide) (eBool (decide ((p0.f2.size : Int) ≤ (65536 : Int)))) (Calm.pickT rfl (congrArg (fun b => some (AV.fl (Value.bool b))) (decide_eq_true hc10)) rfl) ?_
              refine AO.calm rfl 2 rfl (by decide) (eBool (decide ((p0.f2.size : Int) ≤ (65536 : Int)))) (Calm.assign rfl rfl) ?_
              cases hq5
              refine AO.nilE ⟨rfl, rfl⟩ ?_ ?_
              · exact ⟨rfl, trivial⟩
              · exact (Sub.nil _)
            · have hq5 := (if_neg hc10).symm.trans hq5
              refine AO.skipG 24 false 37 rfl rfl (congrArg (fun b => some (AV.fl (Value.bool b))) (decide_eq_false hc10)) 38 rfl (by decide) ?_
              refine AO.skipG 24 false 37 rfl rfl (congrArg (fun b => some (AV.fl (Value.bool b))) (decide_eq_false hc10)) 39 rfl (by decide) ?_
              refine AO.skipG 24 false 37 rfl rfl (congrArg (fun b => some (AV.fl (Value.bool b))) (decide_eq_false hc10)) 40 rfl (by decide) ?_
              refine AO.skipG 24 false 37 rfl rfl (congrArg (fun b => some (AV.fl (Value.bool b))) (decide_eq_false hc10)) 41 rfl (by decide) ?_
              refine AO.calm rfl 42 rfl (by decide) (eBool false) (Calm.pickF rfl (congrArg (fun b => some (AV.fl (Value.bool b))) (decide_eq_false hc10)) rfl) ?_
              refine AO.calm rfl 2 rfl (by decide) (eBool false) (Calm.assign rfl rfl) ?_
              cases hq5
              refine AO.nilE ⟨rfl, rfl⟩ ?_ ?_
              · exact ⟨rfl, trivial⟩
              · exact (Sub.nil _)
        · have hq5 := (if_neg hc8).symm.trans hq5
          refine AO.calmG 10 false 23 rfl rfl (congrArg (fun b => some (AV.fl (Value.bool b))) (eq_false_of_ne_true hc8)) 24 rfl (by decide) (.ptr n2 2) (Calm.fldPtr rfl rfl Try.underlying60 rfl sz9 _ rfl) ?_
          refine AO.calmG 10 false 23 rfl rfl (congrArg (fun b => some (AV.fl (Value.bool b))) (eq_false_of_ne_true hc8)) 25 rfl (by decide) (eStr p0.f2) (Calm.load 0 rfl rfl rfl (At.cast (At.fldS (At.fldS (At.fld0 At.here))) rfl) ag9 sz9) ?_
          refine AO.calmG 10 false 23 rfl rfl (congrArg (fun b => some (AV.fl (Value.bool b))) (eq_false_of_ne_true hc8)) 26 rfl (by decide) (eBool (decide (p0.f2 = (ByteArray.mk #[])))) (Calm.str rfl rfl rfl rfl) ?_
          refine AO.calmG 8 true 21 rfl rfl (congrArg (fun b => some (AV.fl (Value.bool b))) (decide_eq_true hc7)) 27 rfl (by decide) (eBool (decide (p0.f2 = (ByteArray.mk #[])))) (Calm.pickF rfl (congrArg (fun b => some (AV.fl (Value.bool b))) (eq_false_of_ne_true hc8)) rfl) ?_
          refine AO.calm rfl 28 rfl (by decide) (eBool (decide (p0.f2 = (ByteArray.mk #[])))) (Calm.pickT rfl (congrArg (fun b => some (AV.fl (Value.bool b))) (decide_eq_true hc7)) rfl) ?_
          refine AO.calm rfl 29 rfl (by decide) (eBool (decide (p0.f2 = (ByteArray.mk #[])))) (Calm.move rfl rfl) ?_
          by_cases hc11 : p0.f2 = (ByteArray.mk #[])
          · have hq5 := (if_pos hc11).symm.trans hq5
            refine AO.calmG 16 true 29 rfl rfl (congrArg (fun b => some (AV.fl (Value.bool b))) (decide_eq_true hc11)) 30 rfl (by decide) (eBool t3.2.2) (Calm.move rfl rfl) ?_
            refine AO.calmG 16 true 29 rfl rfl (congrArg (fun b => some (AV.fl (Value.bool b))) (decide_eq_true hc11)) 31 rfl (by decide) (eBool t3.2.2) (Calm.move rfl rfl) ?_
            by_cases hc12 : t3.2.2 = true
            · have hq5 := (if_pos hc12).symm.trans hq5
              refine AO.skipG 18 true 31 rfl rfl (congrArg (fun b => some (AV.fl (Value.bool b))) hc12) 32 rfl (by decide) ?_
              refine AO.skipG 18 true 31 rfl rfl (congrArg (fun b => some (AV.fl (Value.bool b))) hc12) 33 rfl (by decide) ?_
              refine AO.skipG 18 true 31 rfl rfl (congrArg (fun b => some (AV.fl (Value.bool b))) hc12) 34 rfl (by decide) ?_
              refine AO.calmG 16 true 29 rfl rfl (congrArg (fun b => some (AV.fl (Value.bool b))) (decide_eq_true hc11)) 35 rfl (by decide) (eBool true) (Calm.pickT rfl (congrArg (fun b => some (AV.fl (Value.bool b))) hc12) rfl) ?_
              refine AO.calm rfl 36 rfl (by decide) (eBool true) (Calm.pickT rfl (congrArg (fun b => some (AV.fl (Value.bool b))) (decide_eq_true hc11)) rfl) ?_
              refine AO.calm rfl 37 rfl (by decide) (eBool true) (Calm.move rfl rfl) ?_
              refine AO.calmG 24 true 37 rfl rfl rfl 38 rfl (by decide) (.ptr n2 2) (Calm.fldPtr rfl rfl Try.underlying60 rfl sz9 _ rfl) ?_
              refine AO.calmG 24 true 37 rfl rfl rfl 39 rfl (by decide) (eStr p0.f2) (Calm.load 0 rfl rfl rfl (At.cast (At.fldS (At.fldS (At.fld0 At.here))) rfl) ag9 sz9) ?_
              refine AO.calmG 24 true 37 rfl rfl rfl 40 rfl (by decide) (eI64 (p0.f2.size : Int)) (Calm.lenStr rfl rfl Try.underlying9) ?_
              refine AO.calmG 24 true 37 rfl rfl rfl 41 rfl (by decide) (eBool (decide ((p0.f2.size : Int) ≤ (65536 : Int)))) (Calm.int rfl rfl rfl rfl) ?_
              refine AO.calm rfl 42 rfl (by decide) (eBool (decide ((p0.f2.size : Int) ≤ (65536 : Int)))) (Calm.pickT rfl rfl rfl) ?_
              refine AO.calm rfl 2 rfl (by decide) (eBool (decide ((p0.f2.size : Int) ≤ (65536 : Int)))) (Calm.assign rfl rfl) ?_
              cases hq5
              refine AO.nilE ⟨rfl, rfl⟩ ?_ ?_
              · exact ⟨rfl, trivial⟩
              · exact (Sub.nil _)
            · have hq5 := (if_neg hc12).symm.trans hq5
              refine AO.calmG 18 false 31 rfl rfl (congrArg (fun b => some (AV.fl (Value.bool b))) (eq_false_of_ne_true hc12)) 32 rfl (by decide) (.ptr n2 1) (Calm.fldPtr rfl rfl Try.underlying60 rfl sz3 _ rfl) ?_
              refine AO.calmG 18 false 31 rfl rfl (congrArg (fun b => some (AV.fl (Value.bool b))) (eq_false_of_ne_true hc12)) 33 rfl (by decide) (eI64 p0.f1) (Calm.load 0 rfl rfl rfl (At.cast (At.fldS (At.fld0 At.here)) rfl) ag3 sz3) ?_
              refine AO.calmG 18 false 31 rfl rfl (congrArg (fun b => some (AV.fl (Value.bool b))) (eq_false_of_ne_true hc12)) 34 rfl (by decide) (eBool (decide (p0.f1 = (0 : Int)))) (Calm.int rfl rfl rfl rfl) ?_
              refine AO.calmG 16 true 29 rfl rfl (congrArg (fun b => some (AV.fl (Value.bool b))) (decide_eq_true hc11)) 35 rfl (by decide) (eBool (decide (p0.f1 = (0 : Int)))) (Calm.pickF rfl (congrArg (fun b => some (AV.fl (Value.bool b))) (eq_false_of_ne_true hc12)) rfl) ?_
              refine AO.calm rfl 36 rfl (by decide) (eBool (decide (p0.f1 = (0 : Int)))) (Calm.pickT rfl (congrArg (fun b => some (AV.fl (Value.bool b))) (decide_eq_true hc11)) rfl) ?_
              refine AO.calm rfl 37 rfl (by decide) (eBool (decide (p0.f1 = (0 : Int)))) (Calm.move rfl rfl) ?_
              by_cases hc13 : p0.f1 = (0 : Int)
              · have hq5 := (if_pos hc13).symm.trans hq5
                refine AO.calmG 24 true 37 rfl rfl (congrArg (fun b => some (AV.fl (Value.bool b))) (decide_eq_true hc13)) 38 rfl (by decide) (.ptr n2 2) (Calm.fldPtr rfl rfl Try.underlying60 rfl sz9 _ rfl) ?_
                refine AO.calmG 24 true 37 rfl rfl (congrArg (fun b => some (AV.fl (Value.bool b))) (decide_eq_true hc13)) 39 rfl (by decide) (eStr p0.f2) (Calm.load 0 rfl rfl rfl (At.cast (At.fldS (At.fldS (At.fld0 At.here))) rfl) ag9 sz9) ?_
                refine AO.calmG 24 true 37 rfl rfl (congrArg (fun b => some (AV.fl (Value.bool b))) (decide_eq_true hc13)) 40 rfl (by decide) (eI64 (p0.f2.size : Int)) (Calm.lenStr rfl rfl Try.underlying9) ?_
                refine AO.calmG 24 true 37 rfl rfl (congrArg (fun b => some (AV.fl (Value.bool b))) (decide_eq_true hc13)) 41 rfl (by decide) (eBool (decide ((p0.f2.size : Int) ≤ (65536 : Int)))) (Calm.int rfl rfl rfl rfl) ?_
                refine AO.calm rfl 42 rfl (by decide) (eBool (decide ((p0.f2.size : Int) ≤ (65536 : Int)))) (Calm.pickT rfl (congrArg (fun b => some (AV.fl (Value.bool b))) (decide_eq_true hc13)) rfl) ?_
                refine AO.calm rfl 2 rfl (by decide) (eBool (decide ((p0.f2.size : Int) ≤ (65536 : Int)))) (Calm.assign rfl rfl) ?_
                cases hq5
                refine AO.nilE ⟨rfl, rfl⟩ ?_ ?_
                · exact ⟨rfl, trivial⟩
                · exact (Sub.nil _)
              · have hq5 := (if_neg hc13).symm.trans hq5
                refine AO.skipG 24 false 37 rfl rfl (congrArg (fun b => some (AV.fl (Value.bool b))) (decide_eq_false hc13)) 38 rfl (by decide) ?_
                refine AO.skipG 24 false 37 rfl rfl (congrArg (fun b => some (AV.fl (Value.bool b))) (decide_eq_false hc13)) 39 rfl (by decide) ?_
                refine AO.skipG 24 false 37 rfl rfl (congrArg (fun b => some (AV.fl (Value.bool b))) (decide_eq_false hc13)) 40 rfl (by decide) ?_
                refine AO.skipG 24 false 37 rfl rfl (congrArg (fun b => some (AV.fl (Value.bool b))) (decide_eq_false hc13)) 41 rfl (by decide) ?_
                refine AO.calm rfl 42 rfl (by decide) (eBool false) (Calm.pickF rfl (congrArg (fun b => some (AV.fl (Value.bool b))) (decide_eq_false hc13)) rfl) ?_
                refine AO.calm rfl 2 rfl (by decide) (eBool false) (Calm.assign rfl rfl) ?_
                cases hq5
                refine AO.nilE ⟨rfl, rfl⟩ ?_ ?_
                · exact ⟨rfl, trivial⟩
                · exact (Sub.nil _)
          · have hq5 := (if_neg hc11).symm.trans hq5
            refine AO.skipG 16 false 29 rfl rfl (congrArg (fun b => some (AV.fl (Value.bool b))) (decide_eq_false hc11)) 30 rfl (by decide) ?_
            refine AO.skipG 16 false 29 rfl rfl (congrArg (fun b => some (AV.fl (Value.bool b))) (decide_eq_false hc11)) 31 rfl (by decide) ?_
            refine AO.skipU 18 false 31 rfl rfl rfl 32 rfl (by decide) ?_
            refine AO.skipU 18 false 31 rfl rfl rfl 33 rfl (by decide) ?_
            refine AO.skipU 18 false 31 rfl rfl rfl 34 rfl (by decide) ?_
            refine AO.skipG 16 false 29 rfl rfl (congrArg (fun b => some (AV.fl (Value.bool b))) (decide_eq_false hc11)) 35 rfl (by decide) ?_
            refine AO.calm rfl 36 rfl (by decide) (eBool false) (Calm.pickF rfl (congrArg (fun b => some (AV.fl (Value.bool b))) (decide_eq_false hc11)) rfl) ?_
            refine AO.calm rfl 37 rfl (by decide) (eBool false) (Calm.move rfl rfl) ?_
            refine AO.skipG 24 false 37 rfl rfl rfl 38 rfl (by decide) ?_
            refine AO.skipG 24 false 37 rfl rfl rfl 39 rfl (by decide) ?_
            refine AO.skipG 24 false 37 rfl rfl rfl 40 rfl (by decide) ?_
            refine AO.skipG 24 false 37 rfl rfl rfl 41 rfl (by decide) ?_
            refine AO.calm rfl 42 rfl (by decide) (eBool false) (Calm.pickF rfl rfl rfl) ?_
            refine AO.calm rfl 2 rfl (by decide) (eBool false) (Calm.assign rfl rfl) ?_
            cases hq5
            refine AO.nilE ⟨rfl, rfl⟩ ?_ ?_
            · exact ⟨rfl, trivial⟩
            · exact (Sub.nil _)
      · have hq5 := (if_neg hc7).symm.trans hq5
        refine AO.skipG 8 false 21 rfl rfl (congrArg (fun b => some (AV.fl (Value.bool b))) (decide_eq_false hc7)) 22 rfl (by decide) ?_
        refine AO.skipG 8 false 21 rfl rfl (congrArg (fun b => some (AV.fl (Value.bool b))) (decide_eq_false hc7)) 23 rfl (by decide) ?_
        refine AO.skipU 10 false 23 rfl rfl rfl 24 rfl (by decide) ?_
        refine AO.skipU 10 false 23 rfl rfl rfl 25 rfl (by decide) ?_
        refine AO.skipU 10 false 23 rfl rfl rfl 26 rfl (by decide) ?_
        refine AO.skipG 8 false 21 rfl rfl (congrArg (fun b => some (AV.fl (Value.bool b))) (decide_eq_false hc7)) 27 rfl (by decide) ?_
        refine AO.calm rfl 28 rfl (by decide) (eBool false) (Calm.pickF rfl (congrArg (fun b => some (AV.fl (Value.bool b))) (decide_eq_false hc7)) rfl) ?_
        refine AO.calm rfl 29 rfl (by decide) (eBool false) (Calm.move rfl rfl) ?_
        refine AO.skipG 16 false 29 rfl rfl rfl 30 rfl (by decide) ?_
        refine AO.skipG 16 false 29 rfl rfl rfl 31 rfl (by decide) ?_
        refine AO.skipU 18 false 31 rfl rfl rfl 32 rfl (by decide) ?_
        refine AO.skipU 18 false 31 rfl rfl rfl 33 rfl (by decide) ?_
        refine AO.skipU 18 false 31 rfl rfl rfl 34 rfl (by decide) ?_
        refine AO.skipG 16 false 29 rfl rfl rfl 35 rfl (by decide) ?_
        refine AO.calm rfl 36 rfl (by decide) (eBool false) (Calm.pickF rfl rfl rfl) ?_
        refine AO.calm rfl 37 rfl (by decide) (eBool false) (Calm.move rfl rfl) ?_
        refine AO.skipG 24 false 37 rfl rfl rfl 38 rfl (by decide) ?_
        refine AO.skipG 24 false 37 rfl rfl rfl 39 rfl (by decide) ?_
        refine AO.skipG 24 false 37 rfl rfl rfl 40 rfl (by decide) ?_
        refine AO.skipG 24 false 37 rfl rfl rfl 41 rfl (by decide) ?_
        refine AO.calm rfl 42 rfl (by decide) (eBool false) (Calm.pickF rfl rfl rfl) ?_
        refine AO.calm rfl 2 rfl (by decide) (eBool false) (Calm.assign rfl rfl) ?_
        cases hq5
        refine AO.nilE ⟨rfl, rfl⟩ ?_ ?_
        · exact ⟨rfl, trivial⟩
        · exact (Sub.nil _)
    · have hq5 := (if_neg hc6).symm.trans hq5
      refine AO.skipG 3 false 16 rfl rfl (congrArg (fun b => some (AV.fl (Value.bool b))) (decide_eq_false hc6)) 17 rfl (by decide) ?_
      refine AO.skipG 3 false 16 rfl rfl (congrArg (fun b => some (AV.fl (Value.bool b))) (decide_eq_false hc6)) 18 rfl (by decide) ?_
      refine AO.skipG 3 false 16 rfl rfl (congrArg (fun b => some (AV.fl (Value.bool b))) (decide_eq_false hc6)) 19 rfl (by decide) ?_
      refine AO.calm rfl 20 rfl (by decide) (eBool false) (Calm.pickF rfl (congrArg (fun b => some (AV.fl (Value.bool b))) (decide_eq_false hc6)) rfl) ?_
      refine AO.calm rfl 21 rfl (by decide) (eBool false) (Calm.move rfl rfl) ?_
      refine AO.skipG 8 false 21 rfl rfl rfl 22 rfl (by decide) ?_
      refine AO.skipG 8 false 21 rfl rfl rfl 23 rfl (by decide) ?_
      refine AO.skipU 10 false 23 rfl rfl rfl 24 rfl (by decide) ?_
      refine AO.skipU 10 false 23 rfl rfl rfl 25 rfl (by decide) ?_
      refine AO.skipU 10 false 23 rfl rfl rfl 26 rfl (by decide) ?_
      refine AO.skipG 8 false 21 rfl rfl rfl 27 rfl (by decide) ?_
      refine AO.calm rfl 28 rfl (by decide) (eBool false) (Calm.pickF rfl rfl rfl) ?_
      refine AO.calm rfl 29 rfl (by decide) (eBool false) (Calm.move rfl rfl) ?_
      refine AO.skipG 16 false 29 rfl rfl rfl 30 rfl (by decide) ?_
      refine AO.skipG 16 false 29 rfl rfl rfl 31 rfl (by decide) ?_
      refine AO.skipU 18 false 31 rfl rfl rfl 32 rfl (by decide) ?_
      refine AO.skipU 18 false 31 rfl rfl rfl 33 rfl (by decide) ?_
      refine AO.skipU 18 false 31 rfl rfl rfl 34 rfl (by decide) ?_
      refine AO.skipG 16 false 29 rfl rfl rfl 35 rfl (by decide) ?_
      refine AO.calm rfl 36 rfl (by decide) (eBool false) (Calm.pickF rfl rfl rfl) ?_
      refine AO.calm rfl 37 rfl (by decide) (eBool false) (Calm.move rfl rfl) ?_
      refine AO.skipG 24 false 37 rfl rfl rfl 38 rfl (by decide) ?_
      refine AO.skipG 24 false 37 rfl rfl rfl 39 rfl (by decide) ?_
      refine AO.skipG 24 false 37 rfl rfl rfl 40 rfl (by decide) ?_
      refine AO.skipG 24 false 37 rfl rfl rfl 41 rfl (by decide) ?_
      refine AO.calm rfl 42 rfl (by decide) (eBool false) (Calm.pickF rfl rfl rfl) ?_
      refine AO.calm rfl 2 rfl (by decide) (eBool false) (Calm.assign rfl rfl) ?_
      cases hq5
      refine AO.nilE ⟨rfl, rfl⟩ ?_ ?_
      · exact ⟨rfl, trivial⟩
      · exact (Sub.nil _)
  · refine AW.ret (ρ' := [(2, (eBool b4))]) (H' := []) ⟨rfl, trivial⟩ (Sub.refl _) ?_
    have hr := Option.some.inj h
    subst hr
    exact ⟨[(eBool b4)], ⟨rfl, rfl, trivial⟩, rfl⟩
end Go.Avl.T2
/- bosket/bosketref47.Line; printed by avmain.py. -/
namespace Go.Avl.T2
open Go Go.RowKit Go.Proofs Go.Avl
set_option linter.unusedVariables false
set_option maxRecDepth 100000
set_option maxHeartbeats 4000000
attribute [local irreducible] AW AO AQ Spec SpecH Calm

def bosketref47_Line_c0 (k : Nat) (x7 : ByteArray) : Option ByteArray :=
  some (x7)
def bosketref47_Line_c1 (k : Nat) (p0 : S60) (t5 : (ByteArray × Bool × Bool)) (x6 : ByteArray) : Option ByteArray :=
  if t5.2.2 = true then if x6.size + (ByteArray.mk #[32]).size ≤ 9223372036854775807 then (bosketref13_Digits k p0.f1).bind fun t10 =>
  if (x6 ++ (ByteArray.mk #[32])).size + t10.size ≤ 9223372036854775807 then bosketref47_Line_c0 k ((x6 ++ (ByteArray.mk #[32])) ++ t10)
  else none
  else none
  else bosketref47_Line_c0 k x6
def bosketref47_Line (k : Nat) (p0 : S60) : Option ByteArray :=
  (bosketref47_Right k p0).bind fun t3 =>
  if (!t3) = true then some ((ByteArray.mk #[]))
  else (bosketref47_Form k p0.f0).bind fun t5 =>
  if t5.2.1 = true then if t5.1.size + (ByteArray.mk #[32]).size ≤ 9223372036854775807 then (bosketref03_Quote k p0.f2 (34 : Int)).bind fun t14 =>
  if (t5.1 ++ (ByteArray.mk #[32])).size + t14.size ≤ 9223372036854775807 then bosketref47_Line_c1 k p0 t5 ((t5.1 ++ (ByteArray.mk #[32])) ++ t14)
  else none
  else none
  else bosketref47_Line_c1 k p0 t5 t5.1
theorem bosketref47_Line_spec {k : Nat} {p0 : S60} {r : ByteArray} (h : bosketref47_Line k p0 = some r) : Spec Try.prog 46 [(e60 p0)] (eStr r) := by
  rw [bosketref47_Line.eq_1] at h
  refine Spec.intro (res := [.tmp 2]) Try.func46 rfl rfl rfl (Nat.le_of_ble_eq_true rfl) ?_
  refine AW.seq ?_
  refine AW.reg ?_
  refine AO.box rfl 1 rfl (by decide) rfl rfl rfl fun n2 => ?_
  refine AO.calm rfl 2 rfl (by decide) (eStr (ByteArray.mk #[])) (Calm.assign rfl rfl) ?_
  refine AO.nil (ρ' := [(1, (.ptr n2 0))]) (H' := [(n2, .mem (e60 p0))]) ⟨rfl, trivial⟩ (Sub.refl _) ?_
  refine AW.seq ?_
  refine AW.seq ?_
  refine AW.reg ?_
  refine AO.calm rfl 6 rfl (by decide) (e60 p0) (Calm.load 0 rfl rfl rfl (At.cast At.here rfl) ag60 sz60) ?_
  obtain ⟨t3, et3, h⟩ := of_bind h
  refine AO.callS [(e60 p0)] (eBool t3) 7 rfl (by decide) ok44 rfl rfl rfl ⟨rfl, rfl, trivial⟩ (bosketref47_Right_spec et3) ?_
  refine AO.calm rfl 8 rfl (by decide) (eBool (!t3)) (Calm.not rfl rfl) ?_
  refine AO.nil (ρ' := [(1, (.ptr n2 0)), (8, (eBool (!t3)))]) (H' := [(n2, .mem (e60 p0))]) ⟨rfl, rfl, trivial⟩ (Sub.refl _) ?_
  by_cases hc4 : (!t3) = true
  · have h := (if_pos hc4).symm.trans h
    refine AW.condT' (!t3) rfl hc4 ?_
    refine AW.seq ?_
    refine AW.reg ?_
    refine AO.calm rfl 2 rfl (by decide) (eStr (ByteArray.mk #[])) (Calm.assign rfl rfl) ?_
    refine AO.nil (ρ' := [(2, (eStr (ByteArray.mk #[])))]) (H' := []) ⟨rfl, trivial⟩ (Sub.nil _) ?_
    refine AW.ret (ρ' := [(2, (eStr (ByteArray.mk #[])))]) (H' := []) ⟨rfl, trivial⟩ (Sub.refl _) ?_
    have hr := Option.some.inj h
    subst hr
    exact ⟨[(eStr (ByteArray.mk #[]))], ⟨rfl, rfl, trivial⟩, rfl⟩
  · have h := (if_neg hc4).symm.trans h
    refine AW.condF' (!t3) rfl hc4 ?_
    refine AW.skip (ρ' := [(1, (.ptr n2 0))]) (H' := [(n2, .mem (e60 p0))]) ⟨rfl, trivial⟩ (Sub.refl _) ?_
    refine AW.seq ?_
    refine AW.reg ?_
    refine AO.calm rfl 10 rfl (by decide) (.ptr n2 0) (Calm.fldPtr rfl rfl Try.underlying60 rfl sz3 _ rfl) ?_
    refine AO.calm rfl 11 rfl (by decide) (eI64 p0.f0) (Calm.load 0 rfl rfl rfl (At.cast (At.fld0 At.here) rfl) ag3 sz3) ?_
    obtain ⟨t5, et5, h⟩ := of_bind h
    refine AO.callS [(eI64 p0.f0)] (.tup [(eStr t5.1), (eBool t5.2.1), (eBool t5.2.2)]) 12 rfl (by decide) ok41 rfl rfl rfl ⟨rfl, rfl, trivial⟩ (bosketref47_Form_spec et5) ?_
    refine AO.calm rfl 9 rfl (by decide) (.tup [(eStr t5.1), (eBool t5.2.1), (eBool t5.2.2)]) (Calm.move rfl rfl) ?_
    refine AO.calm rfl 13 rfl (by decide) (eStr t5.1) (Calm.extract rfl rfl rfl) ?_
    refine AO.calm rfl 14 rfl (by decide) (eBool t5.2.1) (Calm.extract rfl rfl rfl) ?_
    refine AO.calm rfl 15 rfl (by decide) (eBool t5.2.2) (Calm.extract rfl rfl rfl) ?_
    refine AO.calm rfl 3 rfl (by decide) (eStr t5.1) (Calm.assign rfl rfl) ?_
    refine AO.calm rfl 4 rfl (by decide) (eBool t5.2.1) (Calm.assign rfl rfl) ?_
    refine AO.calm rfl 5 rfl (by decide) (eBool t5.2.2) (Calm.assign rfl rfl) ?_
    refine AO.nil (ρ' := [(1, (.ptr n2 0)), (3, (eStr t5.1)), (4, (eBool t5.2.1)), (5, (eBool t5.2.2))]) (H' := [(n2, .mem (e60 p0))]) ⟨rfl, rfl, rfl, rfl, trivial⟩ (Sub.refl _) ?_
    refine AW.seq_mid (fun ρ H => ∃ (x6 : ByteArray), ρ = [(1, (.ptr n2 0)), (3, (eStr x6)), (5, (eBool t5.2.2))] ∧ H = [(n2, .mem (e60 p0))] ∧ bosketref47_Line_c1 k p0 t5 x6 = some r) ?_ ?_
    · refine AW.seq ?_
      refine AW.reg ?_
      refine AO.calm rfl 16 rfl (by decide) (eBool t5.2.1) (Calm.move rfl rfl) ?_
      refine AO.nil (ρ' := [(1, (.ptr n2 0)), (3, (eStr t5.1)), (5, (eBool t5.2.2)), (16, (eBool t5.2.1))]) (H' := [(n2, .mem (e60 p0))]) ⟨rfl, rfl, rfl, rfl, trivial⟩ (Sub.refl _) ?_
      by_cases hc12 : t5.2.1 = true
      · have h := (if_pos hc12).symm.trans h
        refine AW.condT' t5.2.1 rfl hc12 ?_
        refine AW.reg ?_
        refine AO.calm rfl 17 rfl (by decide) (eStr t5.1) (Calm.move rfl rfl) ?_
        obtain ⟨hg13, h⟩ := of_guard h
        refine AO.calm rfl 18 rfl (by decide) (eStr (t5.1 ++ (ByteArray.mk #[32]))) (Calm.cat rfl rfl rfl hg13) ?_
        refine AO.calm rfl 19 rfl (by decide) (.ptr n2 2) (Calm.fldPtr rfl rfl Try.underlying60 rfl sz9 _ rfl) ?_
        refine AO.calm rfl 20 rfl (by decide) (eStr p0.f2) (Calm.load 0 rfl rfl rfl (At.cast (At.fldS (At.fldS (At.fld0 At.here))) rfl) ag9 sz9) ?_
        obtain ⟨t14, et14, h⟩ := of_bind h
        refine AO.callS [(eStr p0.f2), (eU8 (34 : Int))] (eStr t14) 21 rfl (by decide) ok61 rfl rfl rfl ⟨rfl, rfl, rfl, rfl, trivial⟩ (bosketref03_Quote_spec et14) ?_
        obtain ⟨hg15, h⟩ := of_guard h
        refine AO.calm rfl 22 rfl (by decide) (eStr ((t5.1 ++ (ByteArray.mk #[32])) ++ t14)) (Calm.cat rfl rfl rfl hg15) ?_
        refine AO.calm rfl 3 rfl (by decide) (eStr ((t5.1 ++ (ByteArray.mk #[32])) ++ t14)) (Calm.assign rfl rfl) ?_
        refine AO.nil (ρ' := [(1, (.ptr n2 0)), (3, (eStr ((t5.1 ++ (ByteArray.mk #[32])) ++ t14))), (5, (eBool t5.2.2))]) (H' := [(n2, .mem (e60 p0))]) ⟨rfl, rfl, rfl, trivial⟩ (Sub.refl _) ?_
        exact ⟨((t5.1 ++ (ByteArray.mk #[32])) ++ t14), rfl, rfl, h⟩
      · have h := (if_neg hc12).symm.trans h
        refine AW.condF' t5.2.1 rfl hc12 ?_
        refine AW.skip (ρ' := [(1, (.ptr n2 0)), (3, (eStr t5.1)), (5, (eBool t5.2.2))]) (H' := [(n2, .mem (e60 p0))]) ⟨rfl, rfl, rfl, trivial⟩ (Sub.refl _) ?_
        exact ⟨t5.1, rfl, rfl, h⟩
    · rintro _ _ ⟨x6, rfl, rfl, h⟩
      rw [bosketref47_Line_c1.eq_1] at h
      refine AW.seq_mid (fun ρ H => ∃ (x7 : ByteArray), ρ = [(3, (eStr x7))] ∧ H = [] ∧ bosketref47_Line_c0 k x7 = some r) ?_ ?_
      · refine AW.seq ?_
        refine AW.reg ?_
        refine AO.calm rfl 23 rfl (by decide) (eBool t5.2.2) (Calm.move rfl rfl) ?_
        refine AO.nil (ρ' := [(1, (.ptr n2 0)), (3, (eStr x6)), (23, (eBool t5.2.2))]) (H' := [(n2, .mem (e60 p0))]) ⟨rfl, rfl, rfl, trivial⟩ (Sub.refl _) ?_
        by_cases hc8 : t5.2.2 = true
        · have h := (if_pos hc8).symm.trans h
          refine AW.condT' t5.2.2 rfl hc8 ?_
          refine AW.reg ?_
          refine AO.calm rfl 24 rfl (by decide) (eStr x6) (Calm.move rfl rfl) ?_
          obtain ⟨hg9, h⟩ := of_guard h
          refine AO.calm rfl 25 rfl (by decide) (eStr (x6 ++ (ByteArray.mk #[32]))) (Calm.cat rfl rfl rfl hg9) ?_
          refine AO.calm rfl 26 rfl (by decide) (.ptr n2 1) (Calm.fldPtr rfl rfl Try.underlying60 rfl sz3 _ rfl) ?_
          refine AO.calm rfl 27 rfl (by decide) (eI64 p0.f1) (Calm.load 0 rfl rfl rfl (At.cast (At.fldS (At.fld0 At.here)) rfl) ag3 sz3) ?_
          obtain ⟨t10, et10, h⟩ := of_bind h
          refine AO.callS [(eI64 p0.f1)] (eStr t10) 28 rfl (by decide) ok19 rfl rfl rfl ⟨rfl, rfl, trivial⟩ (bosketref13_Digits_spec et10) ?_
          obtain ⟨hg11, h⟩ := of_guard h
          refine AO.calm rfl 29 rfl (by decide) (eStr ((x6 ++ (ByteArray.mk #[32])) ++ t10)) (Calm.cat rfl rfl rfl hg11) ?_
          refine AO.calm rfl 3 rfl (by decide) (eStr ((x6 ++ (ByteArray.mk #[32])) ++ t10)) (Calm.assign rfl rfl) ?_
          refine AO.nil (ρ' := [(3, (eStr ((x6 ++ (ByteArray.mk #[32])) ++ t10)))]) (H' := []) ⟨rfl, trivial⟩ (Sub.nil _) ?_
          exact ⟨((x6 ++ (ByteArray.mk #[32])) ++ t10), rfl, rfl, h⟩
        · have h := (if_neg hc8).symm.trans h
          refine AW.condF' t5.2.2 rfl hc8 ?_
          refine AW.skip (ρ' := [(3, (eStr x6))]) (H' := []) ⟨rfl, trivial⟩ (Sub.nil _) ?_
          exact ⟨x6, rfl, rfl, h⟩
      · rintro _ _ ⟨x7, rfl, rfl, h⟩
        rw [bosketref47_Line_c0.eq_1] at h
        refine AW.seq ?_
        refine AW.reg ?_
        refine AO.calm rfl 30 rfl (by decide) (eStr x7) (Calm.move rfl rfl) ?_
        refine AO.calm rfl 2 rfl (by decide) (eStr x7) (Calm.assign rfl rfl) ?_
        refine AO.nil (ρ' := [(2, (eStr x7))]) (H' := []) ⟨rfl, trivial⟩ (Sub.refl _) ?_
        refine AW.ret (ρ' := [(2, (eStr x7))]) (H' := []) ⟨rfl, trivial⟩ (Sub.refl _) ?_
        have hr := Option.some.inj h
        subst hr
        exact ⟨[(eStr x7)], ⟨rfl, rfl, trivial⟩, rfl⟩
end Go.Avl.T2
