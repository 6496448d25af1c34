/- bosket/munch.Text; printed by avmain.py. -/
import Derived.Test.YthfongdjcpmpfaaAB
namespace Go.Avl.T1
open Go Go.RowKit Go.Proofs Go.Avl
set_option linter.unusedVariables false
set_option maxRecDepth 100000
set_option maxHeartbeats 4000000
attribute [local irreducible] AW AO AQ Spec SpecH Calm

def munch_Text_c0 (k : Nat) (x3 : (List Int)) : Option ByteArray :=
  some ((strOfNums x3))
def munch_Text_l1 (k : Nat) (p0 : (List S61)) : Nat → (List Int) → Int → Option ByteArray
  | 0, _, _ => none
  | j + 1, x5, x6 =>
    if x6 < (p0.length : Int) then if 0 ≤ x6 ∧ x6 < (p0.length : Int) then if (x5 ++ ((lget p0 x6).f1).data.toList.map fun b => (b.toNat : Int)).length * 1 ≤ 140737488355328 then (munch_Text_l1 k p0 j) (x5 ++ ((lget p0 x6).f1).data.toList.map fun b => (b.toNat : Int)) (w64 (x6 + (1 : Int)))
    else none
    else none
    else munch_Text_c0 k x5
def munch_Text (k : Nat) (p0 : (List S61)) : Option ByteArray :=
  munch_Text_l1 k p0 k [] (0 : Int)
theorem munch_Text_spec {k : Nat} {p0 : (List S61)} {r : ByteArray} (h : munch_Text k p0 = some r) : Spec Try.prog 34 [(.fz 3 (p0.map e61))] (eStr r) := by
  rw [munch_Text.eq_1] at h
  refine Spec.intro (res := [.tmp 2]) Try.func34 rfl rfl rfl (Nat.le_of_ble_eq_true rfl) ?_
  refine AW.seq ?_
  refine AW.reg ?_
  refine AO.calm rfl 2 rfl (by decide) (eStr (ByteArray.mk #[])) (Calm.assign rfl rfl) ?_
  refine AO.nil (ρ' := [(0, (.fz 3 (p0.map e61)))]) (H' := []) ⟨rfl, trivial⟩ (Sub.refl _) ?_
  refine AW.seq ?_
  refine AW.reg ?_
  refine AO.calm rfl 3 rfl (by decide) (.fl (.slice none 0 0)) (Calm.assign rfl rfl) ?_
  refine AO.nil (ρ' := [(0, (.fz 3 (p0.map e61))), (3, (.fl (.slice none 0 0)))]) (H' := []) ⟨rfl, rfl, trivial⟩ (Sub.refl _) ?_
  refine AW.seq_mid (fun ρ H => ∃ (n2 : Nat) (x3 : (List Int)), ρ = [(3, (.own n2 0 x3.length))] ∧ H = [(n2, .mem (.ar 1 (x3.map eU8)))] ∧ munch_Text_c0 k x3 = some r) ?_ ?_
  · refine AW.seq ?_
    refine AW.reg ?_
    refine AO.calm rfl 6 rfl (by decide) (.fz 3 (p0.map e61)) (Calm.move rfl rfl) ?_
    refine AO.calm rfl 7 rfl (by decide) (eI64 (p0.length : Int)) (Calm.lenL rfl rfl Try.underlying55) ?_
    refine AO.calm rfl 8 rfl (by decide) (eI64 (0 : Int)) (Calm.move rfl rfl) ?_
    refine AO.nil (ρ' := [(3, (.fl (.slice none 0 0))), (6, (.fz 3 (p0.map e61))), (7, (eI64 (p0.length : Int))), (8, (eI64 (0 : Int)))]) (H' := []) ⟨rfl, rfl, rfl, rfl, trivial⟩ (Sub.refl _) ?_
    refine AW.block ?_
    refine AW.nilOwn 3 1 rfl fun n14 => ?_
    refine AW.weak (ρ' := [(3, (.own n14 0 ([] : List Int).length)), (6, (.fz 3 (p0.map e61))), (7, (eI64 (p0.length : Int))), (8, (eI64 (0 : Int)))]) (H' := [(n14, .mem (.ar 1 (([] : List Int).map eU8)))]) ⟨rfl, rfl, rfl, rfl, trivial⟩ (Sub.refl _) ?_
    refine AW.loop (fun kq ρ H => ∃ (n4 : Nat) (x5 : (List Int)) (x6 : Int), ρ = [(3, (.own n4 0 x5.length)), (6, (.fz 3 (p0.map e61))), (7, (eI64 (p0.length : Int))), (8, (eI64 x6))] ∧ H = [(n4, .mem (.ar 1 (x5.map eU8)))] ∧ munch_Text_l1 k p0 kq x5 x6 = some r) k ⟨n14, [], (0 : Int), rfl, rfl, h⟩ ?_
    rintro kq8 _ _ ⟨n4, x5, x6, rfl, rfl, h⟩
    cases kq8 with
    | zero => rw [munch_Text_l1.eq_1] at h; cases h
    | succ kq8 =>
    rw [munch_Text_l1.eq_2] at h
    generalize hrec7 : munch_Text_l1 k p0 kq8 = rec7 at h
    refine AW.seq ?_
    refine AW.reg ?_
    refine AO.calm rfl 9 rfl (by decide) (eBool (decide (x6 < (p0.length : Int)))) (Calm.int rfl rfl rfl rfl) ?_
    refine AO.nil (ρ' := [(3, (.own n4 0 x5.length)), (6, (.fz 3 (p0.map e61))), (7, (eI64 (p0.length : Int))), (8, (eI64 x6)), (9, (eBool (decide (x6 < (p0.length : Int)))))]) (H' := [(n4, .mem (.ar 1 (x5.map eU8)))]) ⟨rfl, rfl, rfl, rfl, rfl, trivial⟩ (Sub.refl _) ?_
    refine AW.seq ?_
    by_cases hc9 : x6 < (p0.length : Int)
    · have h := (if_pos hc9).symm.trans h
      refine AW.condP (x6 < (p0.length : Int)) rfl hc9 ?_
      refine AW.skip (ρ' := [(3, (.own n4 0 x5.length)), (6, (.fz 3 (p0.map e61))), (7, (eI64 (p0.length : Int))), (8, (eI64 x6))]) (H' := [(n4, .mem (.ar 1 (x5.map eU8)))]) ⟨rfl, rfl, rfl, rfl, trivial⟩ (Sub.refl _) ?_
      refine AW.seq ?_
      refine AW.block ?_
      refine AW.seq ?_
      refine AW.reg ?_
      obtain ⟨hg10, h⟩ := of_guard h
      refine AO.calm rfl 10 rfl (by decide) (.rp (e61 (lget p0 x6))) (Calm.idxL (f := e61) rfl rfl rfl hg10 Try.underlying55 sz61) ?_
      refine AO.calm rfl 11 rfl (by decide) (e61 (lget p0 x6)) (Calm.loadRp rfl rfl ag61 sz61) ?_
      refine AO.alloc rfl 5 rfl (by decide) rfl zr61 lay61 fun n11 => ?_
      refine AO.store (X' := (e61 (lget p0 x6))) 0 rfl rfl rfl rfl rfl rfl (Put.cast Put.here rfl) rfl rfl sz61 rfl ?_
      refine AO.nil (ρ' := [(3, (.own n4 0 x5.length)), (5, (.ptr n11 0)), (6, (.fz 3 (p0.map e61))), (7, (eI64 (p0.length : Int))), (8, (eI64 x6))]) (H' := [(n4, .mem (.ar 1 (x5.map eU8))), (n11, .mem (e61 (lget p0 x6)))]) ⟨rfl, rfl, rfl, rfl, rfl, trivial⟩ (Sub.cons 1 rfl (Sub.cons 0 rfl (Sub.nil _))) ?_
      refine AW.reg ?_
      refine AO.calm rfl 12 rfl (by decide) (.own n4 0 x5.length) (Calm.move rfl rfl) ?_
      refine AO.calm rfl 13 rfl (by decide) (.ptr n11 1) (Calm.fldPtr rfl rfl Try.underlying61 rfl sz9 _ rfl) ?_
      refine AO.calm rfl 14 rfl (by decide) (eStr ((lget p0 x6).f1)) (Calm.load 1 rfl rfl rfl (At.cast (At.fldS (At.fld0 At.here)) rfl) ag9 sz9) ?_
      obtain ⟨hg13, h⟩ := of_guard h
      refine AO.appendStrL 0 15 rfl (by decide) rfl rfl rfl rfl rfl Try.underlying87 Try.underlying9 sz5 by5 zr5 rfl hg13 (by decide) fun n12 => ?_
      refine AO.calm rfl 3 rfl (by decide) (.own n12 0 (x5 ++ ((lget p0 x6).f1).data.toList.map fun b => (b.toNat : Int)).length) (Calm.assign rfl rfl) ?_
      refine AO.nil (ρ' := [(3, (.own n12 0 (x5 ++ ((lget p0 x6).f1).data.toList.map fun b => (b.toNat : Int)).length)), (6, (.fz 3 (p0.map e61))), (7, (eI64 (p0.length : Int))), (8, (eI64 x6))]) (H' := [(n12, .mem (.ar 1 ((x5 ++ ((lget p0 x6).f1).data.toList.map fun b => (b.toNat : Int)).map eU8)))]) ⟨rfl, rfl, rfl, rfl, trivial⟩ (Sub.cons 0 rfl (Sub.nil _)) ?_
      refine AW.reg ?_
      refine AO.calm rfl 16 rfl (by decide) (eI64 (w64 (x6 + (1 : Int)))) (Calm.int rfl rfl rfl rfl) ?_
      refine AO.calm rfl 8 rfl (by decide) (eI64 (w64 (x6 + (1 : Int)))) (Calm.move rfl rfl) ?_
      refine AO.nil (ρ' := [(3, (.own n12 0 (x5 ++ ((lget p0 x6).f1).data.toList.map fun b => (b.toNat : Int)).length)), (6, (.fz 3 (p0.map e61))), (7, (eI64 (p0.length : Int))), (8, (eI64 (w64 (x6 + (1 : Int)))))]) (H' := [(n12, .mem (.ar 1 ((x5 ++ ((lget p0 x6).f1).data.toList.map fun b => (b.toNat : Int)).map eU8)))]) ⟨rfl, rfl, rfl, rfl, trivial⟩ (Sub.refl _) ?_
      exact ⟨kq8, Nat.lt_succ_self _, n12, (x5 ++ ((lget p0 x6).f1).data.toList.map fun b => (b.toNat : Int)), (w64 (x6 + (1 : Int))), rfl, rfl, by rw [hrec7]; exact h⟩
    · have h := (if_neg hc9).symm.trans h
      refine AW.condN (x6 < (p0.length : Int)) rfl hc9 ?_
      refine AW.exit (ρ' := [(3, (.own n4 0 x5.length))]) (H' := [(n4, .mem (.ar 1 (x5.map eU8)))]) ⟨rfl, trivial⟩ (Sub.refl _) ?_
      exact ⟨n4, x5, rfl, rfl, h⟩
  · rintro _ _ ⟨n2, x3, rfl, rfl, h⟩
    rw [munch_Text_c0.eq_1] at h
    refine AW.seq ?_
    refine AW.reg ?_
    refine AO.calm rfl 17 rfl (by decide) (.own n2 0 x3.length) (Calm.move rfl rfl) ?_
    refine AO.calm rfl 18 rfl (by decide) (eStr (strOfNums x3)) (Calm.strO 0 rfl rfl rfl Try.underlying87 Try.underlying9 Try.underlying5) ?_
    refine AO.calm rfl 2 rfl (by decide) (eStr (strOfNums x3)) (Calm.assign rfl rfl) ?_
    refine AO.nil (ρ' := [(2, (eStr (strOfNums x3)))]) (H' := []) ⟨rfl, trivial⟩ (Sub.nil _) ?_
    refine AW.ret (ρ' := [(2, (eStr (strOfNums x3)))]) (H' := []) ⟨rfl, trivial⟩ (Sub.refl _) ?_
    have hr := Option.some.inj h
    subst hr
    exact ⟨[(eStr (strOfNums x3))], ⟨rfl, rfl, trivial⟩, rfl⟩
end Go.Avl.T1
