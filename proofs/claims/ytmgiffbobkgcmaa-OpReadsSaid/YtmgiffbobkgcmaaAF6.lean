/- Parts: T2f40, T2f48, T2f88, T2f69, T2f43, T2f42. -/
import Derived.Test.YtmgiffbobkgcmaaAF1
import Derived.Test.YtmgiffbobkgcmaaAF3
import Derived.Test.YtmgiffbobkgcmaaAF2
/- bosket/op.Form; printed by avmain.py. -/
namespace Go.Avl.T2
open Go Go.RowKit Go.Proofs Go.Avl
set_option linter.unusedVariables false
set_option maxRecDepth 100000
set_option maxHeartbeats 4000000
attribute [local irreducible] AW AO AQ Spec SpecH Calm

def op_Form_c0 (k : Nat) (p0 : Int) (b7 : Bool) (b8 : Bool) : Option (ByteArray × Bool × Bool) :=
  if 0 ≤ p0 ∧ p0 < (12 : Int) then (some (vget (vset (vset (vset (vset (vset (vset (vset (vset (vset (vset (vset (Vector.replicate 12 ByteArray.empty) (1 : Int) (ByteArray.mk #[117, 115, 101])) (2 : Int) (ByteArray.mk #[103, 114, 97, 109, 109, 97, 114])) (3 : Int) (ByteArray.mk #[108, 101, 120])) (4 : Int) (ByteArray.mk #[112, 97, 114, 115, 101])) (5 : Int) (ByteArray.mk #[112, 114, 105, 110, 116])) (6 : Int) (ByteArray.mk #[116, 105, 103, 104, 116])) (7 : Int) (ByteArray.mk #[102, 111, 114, 109, 97, 116])) (8 : Int) (ByteArray.mk #[110, 101, 120, 116])) (9 : Int) (ByteArray.mk #[116, 114, 101, 101, 115])) (10 : Int) (ByteArray.mk #[102, 101, 101, 100])) (11 : Int) (ByteArray.mk #[116, 97, 107, 101])) p0)).bind fun x10 =>
  some (x10, b7, b8)
  else none
def op_Form_c1 (k : Nat) (p0 : Int) : Option (ByteArray × Bool × Bool) :=
  op_Form_c0 k p0 false true
def op_Form_c2 (k : Nat) (p0 : Int) (b11 : Bool) : Option (ByteArray × Bool × Bool) :=
  op_Form_c0 k p0 true b11
def op_Form_c3 (k : Nat) (p0 : Int) : Option (ByteArray × Bool × Bool) :=
  op_Form_c2 k p0 true
def op_Form_c4 (k : Nat) (p0 : Int) (b16 : Bool) : Option (ByteArray × Bool × Bool) :=
  if b16 = true then op_Form_c1 k p0
  else op_Form_c0 k p0 false false
def op_Form_c5 (k : Nat) (p0 : Int) (b14 : Bool) : Option (ByteArray × Bool × Bool) :=
  if b14 = true then op_Form_c2 k p0 false
  else if p0 = (1 : Int) then op_Form_c4 k p0 (decide (p0 = (1 : Int)))
  else op_Form_c4 k p0 (decide (p0 = (10 : Int)))
def op_Form_c6 (k : Nat) (p0 : Int) (b12 : Bool) : Option (ByteArray × Bool × Bool) :=
  if b12 = true then op_Form_c3 k p0
  else if p0 = (2 : Int) then op_Form_c5 k p0 (decide (p0 = (2 : Int)))
  else if p0 = (3 : Int) then op_Form_c5 k p0 (decide (p0 = (3 : Int)))
  else if p0 = (4 : Int) then op_Form_c5 k p0 (decide (p0 = (4 : Int)))
  else if p0 = (6 : Int) then op_Form_c5 k p0 (decide (p0 = (6 : Int)))
  else if p0 = (8 : Int) then op_Form_c5 k p0 (decide (p0 = (8 : Int)))
  else op_Form_c5 k p0 (decide (p0 = (9 : Int)))
def op_Form (k : Nat) (p0 : Int) : Option (ByteArray × Bool × Bool) :=
  Option.bind (α := Bool) (if p0 < (1 : Int) then some (true)
  else some (decide ((12 : Int) ≤ p0))) fun b3 =>
  if b3 = true then some ((ByteArray.mk #[]), false, false)
  else if p0 = (5 : Int) then op_Form_c6 k p0 (decide (p0 = (5 : Int)))
  else op_Form_c6 k p0 (decide (p0 = (7 : Int)))
theorem op_Form_spec {k : Nat} {p0 : Int} {r : (ByteArray × Bool × Bool)} (h : op_Form k p0 = some r) : Spec Try.prog 40 [(eI64 p0)] (.tup [(eStr r.1), (eBool r.2.1), (eBool r.2.2)]) := by
  rw [op_Form.eq_1] at h
  refine Spec.intro (res := [.tmp 2, .tmp 3, .tmp 4]) Try.func40 rfl rfl rfl (Nat.le_of_ble_eq_true rfl) ?_
  refine AW.seq ?_
  refine AW.reg ?_
  refine AO.calm rfl 2 rfl (by decide) (eStr (ByteArray.mk #[])) (Calm.assign rfl rfl) ?_
  refine AO.calm rfl 3 rfl (by decide) (eBool false) (Calm.assign rfl rfl) ?_
  refine AO.calm rfl 4 rfl (by decide) (eBool false) (Calm.assign rfl rfl) ?_
  refine AO.nil (ρ' := [(0, (eI64 p0))]) (H' := []) ⟨rfl, trivial⟩ (Sub.refl _) ?_
  refine AW.seq ?_
  refine AW.reg ?_
  refine AO.calm rfl 8 rfl (by decide) (.ar 1 ((vset (vset (vset (vset (vset (vset (vset (vset (vset (vset (vset (Vector.replicate 12 ByteArray.empty) (1 : Int) (ByteArray.mk #[117, 115, 101])) (2 : Int) (ByteArray.mk #[103, 114, 97, 109, 109, 97, 114])) (3 : Int) (ByteArray.mk #[108, 101, 120])) (4 : Int) (ByteArray.mk #[112, 97, 114, 115, 101])) (5 : Int) (ByteArray.mk #[112, 114, 105, 110, 116])) (6 : Int) (ByteArray.mk #[116, 105, 103, 104, 116])) (7 : Int) (ByteArray.mk #[102, 111, 114, 109, 97, 116])) (8 : Int) (ByteArray.mk #[110, 101, 120, 116])) (9 : Int) (ByteArray.mk #[116, 114, 101, 101, 115])) (10 : Int) (ByteArray.mk #[102, 101, 101, 100])) (11 : Int) (ByteArray.mk #[116, 97, 107, 101])).toList.map eStr)) (Calm.buildAr (qs := [(1, (eStr (ByteArray.mk #[117, 115, 101]))), (2, (eStr (ByteArray.mk #[103, 114, 97, 109, 109, 97, 114]))), (3, (eStr (ByteArray.mk #[108, 101, 120]))), (4, (eStr (ByteArray.mk #[112, 97, 114, 115, 101]))), (5, (eStr (ByteArray.mk #[112, 114, 105, 110, 116]))), (6, (eStr (ByteArray.mk #[116, 105, 103, 104, 116]))), (7, (eStr (ByteArray.mk #[102, 111, 114, 109, 97, 116]))), (8, (eStr (ByteArray.mk #[110, 101, 120, 116]))), (9, (eStr (ByteArray.mk #[116, 114, 101, 101, 115]))), (10, (eStr (ByteArray.mk #[102, 101, 101, 100]))), (11, (eStr (ByteArray.mk #[116, 97, 107, 101])))]) rfl ⟨rfl, rfl, rfl, rfl, rfl, rfl, rfl, rfl, rfl, rfl, rfl, rfl, rfl, rfl, rfl, rfl, rfl, rfl, rfl, rfl, rfl, rfl, rfl, rfl, rfl, rfl, rfl, rfl, rfl, rfl, rfl, rfl, rfl, trivial⟩ Try.underlying94 sz9 zr94 lay94 (.cons rfl rfl rfl rfl (Put.cast (Put.vidx (1 : Int) (ByteArray.mk #[117, 115, 101]) (by decide) (by decide) Put.here) rfl) (.cons rfl rfl rfl rfl (Put.cast (Put.vidx (2 : Int) (ByteArray.mk #[103, 114, 97, 109, 109, 97, 114]) (by decide) (by decide) Put.here) rfl) (.cons rfl rfl rfl rfl (Put.cast (Put.vidx (3 : Int) (ByteArray.mk #[108, 101, 120]) (by decide) (by decide) Put.here) rfl) (.cons rfl rfl rfl rfl (Put.cast (Put.vidx (4 : Int) (ByteArray.mk #[112, 97, 114, 115, 101]) (by decide) (by decide) Put.here) rfl) (.cons rfl rfl rfl rfl (Put.cast (Put.vidx (5 : Int) (ByteArray.mk #[112, 114, 105, 110, 116]) (by decide) (by decide) Put.here) rfl) (.cons rfl rfl rfl rfl (Put.cast (Put.vidx (6 : Int) (ByteArray.mk #[116, 105, 103, 104, 116]) (by decide) (by decide) Put.here) rfl) (.cons rfl rfl rfl rfl (Put.cast (Put.vidx (7 : Int) (ByteArray.mk #[102, 111, 114, 109, 97, 116]) (by decide) (by decide) Put.here) rfl) (.cons rfl rfl rfl rfl (Put.cast (Put.vidx (8 : Int) (ByteArray.mk #[110, 101, 120, 116]) (by decide) (by decide) Put.here) rfl) (.cons rfl rfl rfl rfl (Put.cast (Put.vidx (9 : Int) (ByteArray.mk #[116, 114, 101, 101, 115]) (by decide) (by decide) Put.here) rfl) (.cons rfl rfl rfl rfl (Put.cast (Put.vidx (10 : Int) (ByteArray.mk #[102, 101, 101, 100]) (by decide) (by decide) Put.here) rfl) (.cons rfl rfl rfl rfl (Put.cast (Put.vidx (11 : Int) (ByteArray.mk #[116, 97, 107, 101]) (by decide) (by decide) Put.here) rfl) .nil))))))))))) rfl) ?_
  refine AO.alloc rfl 5 rfl (by decide) rfl zr94 lay94 fun n2 => ?_
  refine AO.store (X' := (.ar 1 ((vset (vset (vset (vset (vset (vset (vset (vset (vset (vset (vset (Vector.replicate 12 ByteArray.empty) (1 : Int) (ByteArray.mk #[117, 115, 101])) (2 : Int) (ByteArray.mk #[103, 114, 97, 109, 109, 97, 114])) (3 : Int) (ByteArray.mk #[108, 101, 120])) (4 : Int) (ByteArray.mk #[112, 97, 114, 115, 101])) (5 : Int) (ByteArray.mk #[112, 114, 105, 110, 116])) (6 : Int) (ByteArray.mk #[116, 105, 103, 104, 116])) (7 : Int) (ByteArray.mk #[102, 111, 114, 109, 97, 116])) (8 : Int) (ByteArray.mk #[110, 101, 120, 116])) (9 : Int) (ByteArray.mk #[116, 114, 101, 101, 115])) (10 : Int) (ByteArray.mk #[102, 101, 101, 100])) (11 : Int) (ByteArray.mk #[116, 97, 107, 101])).toList.map eStr))) 0 rfl rfl rfl rfl rfl rfl (Put.cast Put.here rfl) rfl rfl sz94 rfl ?_
  refine AO.nil (ρ' := [(0, (eI64 p0)), (5, (.ptr n2 0))]) (H' := [(n2, .mem (.ar 1 ((vset (vset (vset (vset (vset (vset (vset (vset (vset (vset (vset (Vector.replicate 12 ByteArray.empty) (1 : Int) (ByteArray.mk #[117, 115, 101])) (2 : Int) (ByteArray.mk #[103, 114, 97, 109, 109, 97, 114])) (3 : Int) (ByteArray.mk #[108, 101, 120])) (4 : Int) (ByteArray.mk #[112, 97, 114, 115, 101])) (5 : Int) (ByteArray.mk #[112, 114, 105, 110, 116])) (6 : Int) (ByteArray.mk #[116, 105, 103, 104, 116])) (7 : Int) (ByteArray.mk #[102, 111, 114, 109, 97, 116])) (8 : Int) (ByteArray.mk #[110, 101, 120, 116])) (9 : Int) (ByteArray.mk #[116, 114, 101, 101, 115])) (10 : Int) (ByteArray.mk #[102, 101, 101, 100])) (11 : Int) (ByteArray.mk #[116, 97, 107, 101])).toList.map eStr)))]) ⟨rfl, rfl, trivial⟩ (Sub.refl _) ?_
  refine AW.seq ?_
  refine AW.seq ?_
  obtain ⟨b3, hq4, h⟩ := of_bind h
  refine AW.regM [(0, (eI64 p0)), (5, (.ptr n2 0)), (14, (eBool b3))] [(n2, .mem (.ar 1 ((vset (vset (vset (vset (vset (vset (vset (vset (vset (vset (vset (Vector.replicate 12 ByteArray.empty) (1 : Int) (ByteArray.mk #[117, 115, 101])) (2 : Int) (ByteArray.mk #[103, 114, 97, 109, 109, 97, 114])) (3 : Int) (ByteArray.mk #[108, 101, 120])) (4 : Int) (ByteArray.mk #[112, 97, 114, 115, 101])) (5 : Int) (ByteArray.mk #[112, 114, 105, 110, 116])) (6 : Int) (ByteArray.mk #[116, 105, 103, 104, 116])) (7 : Int) (ByteArray.mk #[102, 111, 114, 109, 97, 116])) (8 : Int) (ByteArray.mk #[110, 101, 120, 116])) (9 : Int) (ByteArray.mk #[116, 114, 101, 101, 115])) (10 : Int) (ByteArray.mk #[102, 101, 101, 100])) (11 : Int) (ByteArray.mk #[116, 97, 107, 101])).toList.map eStr)))] ?_ ?_
  · refine AO.calm rfl 9 rfl (by decide) (eI64 p0) (Calm.move rfl rfl) ?_
    refine AO.calm rfl 10 rfl (by decide) (eBool (decide (p0 < (1 : Int)))) (Calm.int rfl rfl rfl rfl) ?_
    refine AO.calm rfl 11 rfl (by decide) (eBool (decide (p0 < (1 : Int)))) (Calm.move rfl rfl) ?_
    by_cases hc5 : p0 < (1 : Int)
    · have hq4 := (if_pos hc5).symm.trans hq4
      refine AO.skipG 2 true 11 rfl rfl (congrArg (fun b => some (AV.fl (Value.bool b))) (decide_eq_true hc5)) 12 rfl (by decide) ?_
      refine AO.skipG 2 true 11 rfl rfl (congrArg (fun b => some (AV.fl (Value.bool b))) (decide_eq_true hc5)) 13 rfl (by decide) ?_
      refine AO.calm rfl 14 rfl (by decide) (eBool true) (Calm.pickT rfl (congrArg (fun b => some (AV.fl (Value.bool b))) (decide_eq_true hc5)) rfl) ?_
      cases hq4
      refine AO.nilE ⟨rfl, rfl⟩ ?_ ?_
      · exact ⟨rfl, rfl, rfl, trivial⟩
      · exact (Sub.refl _)
    · have hq4 := (if_neg hc5).symm.trans hq4
      refine AO.calmG 2 false 11 rfl rfl (congrArg (fun b => some (AV.fl (Value.bool b))) (decide_eq_false hc5)) 12 rfl (by decide) (eI64 p0) (Calm.move rfl rfl) ?_
      refine AO.calmG 2 false 11 rfl rfl (congrArg (fun b => some (AV.fl (Value.bool b))) (decide_eq_false hc5)) 13 rfl (by decide) (eBool (decide ((12 : Int) ≤ p0))) (Calm.int rfl rfl rfl rfl) ?_
      refine AO.calm rfl 14 rfl (by decide) (eBool (decide ((12 : Int) ≤ p0))) (Calm.pickF rfl (congrArg (fun b => some (AV.fl (Value.bool b))) (decide_eq_false hc5)) rfl) ?_
      cases hq4
      refine AO.nilE ⟨rfl, rfl⟩ ?_ ?_
      · exact ⟨rfl, rfl, rfl, trivial⟩
      · exact (Sub.refl _)
  · by_cases hc6 : b3 = true
    · have h := (if_pos hc6).symm.trans h
      refine AW.condT' b3 rfl hc6 ?_
      refine AW.seq ?_
      refine AW.reg ?_
      refine AO.calm rfl 2 rfl (by decide) (eStr (ByteArray.mk #[])) (Calm.assign rfl rfl) ?_
      refine AO.calm rfl 3 rfl (by decide) (eBool false) (Calm.assign rfl rfl) ?_
      refine AO.calm rfl 4 rfl (by decide) (eBool false) (Calm.assign rfl rfl) ?_
      refine AO.nil (ρ' := [(2, (eStr (ByteArray.mk #[]))), (3, (eBool false)), (4, (eBool false))]) (H' := []) ⟨rfl, rfl, rfl, trivial⟩ (Sub.nil _) ?_
      refine AW.ret (ρ' := [(2, (eStr (ByteArray.mk #[]))), (3, (eBool false)), (4, (eBool false))]) (H' := []) ⟨rfl, rfl, rfl, trivial⟩ (Sub.refl _) ?_
      have hr := Option.some.inj h
      subst hr
      exact ⟨[(eStr (ByteArray.mk #[])), (eBool false), (eBool false)], ⟨rfl, rfl, rfl, rfl, rfl, rfl, trivial⟩, rfl⟩
    · have h := (if_neg hc6).symm.trans h
      refine AW.condF' b3 rfl hc6 ?_
      refine AW.skip (ρ' := [(0, (eI64 p0)), (5, (.ptr n2 0))]) (H' := [(n2, .mem (.ar 1 ((vset (vset (vset (vset (vset (vset (vset (vset (vset (vset (vset (Vector.replicate 12 ByteArray.empty) (1 : Int) (ByteArray.mk #[117, 115, 101])) (2 : Int) (ByteArray.mk #[103, 114, 97, 109, 109, 97, 114])) (3 : Int) (ByteArray.mk #[108, 101, 120])) (4 : Int) (ByteArray.mk #[112, 97, 114, 115, 101])) (5 : Int) (ByteArray.mk #[112, 114, 105, 110, 116])) (6 : Int) (ByteArray.mk #[116, 105, 103, 104, 116])) (7 : Int) (ByteArray.mk #[102, 111, 114, 109, 97, 116])) (8 : Int) (ByteArray.mk #[110, 101, 120, 116])) (9 : Int) (ByteArray.mk #[116, 114, 101, 101, 115])) (10 : Int) (ByteArray.mk #[102, 101, 101, 100])) (11 : Int) (ByteArray.mk #[116, 97, 107, 101])).toList.map eStr)))]) ⟨rfl, rfl, trivial⟩ (Sub.refl _) ?_
      refine AW.seq ?_
      refine AW.reg ?_
      refine AO.calm rfl 6 rfl (by decide) (eBool false) (Calm.assign rfl rfl) ?_
      refine AO.calm rfl 7 rfl (by decide) (eBool false) (Calm.assign rfl rfl) ?_
      refine AO.nil (ρ' := [(0, (eI64 p0)), (5, (.ptr n2 0)), (6, (eBool false)), (7, (eBool false))]) (H' := [(n2, .mem (.ar 1 ((vset (vset (vset (vset (vset (vset (vset (vset (vset (vset (vset (Vector.replicate 12 ByteArray.empty) (1 : Int) (ByteArray.mk #[117, 115, 101])) (2 : Int) (ByteArray.mk #[103, 114, 97, 109, 109, 97, 114])) (3 : Int) (ByteArray.mk #[108, 101, 120])) (4 : Int) (ByteArray.mk #[112, 97, 114, 115, 101])) (5 : Int) (ByteArray.mk #[112, 114, 105, 110, 116])) (6 : Int) (ByteArray.mk #[116, 105, 103, 104, 116])) (7 : Int) (ByteArray.mk #[102, 111, 114, 109, 97, 116])) (8 : Int) (ByteArray.mk #[110, 101, 120, 116])) (9 : Int) (ByteArray.mk #[116, 114, 101, 101, 115])) (10 : Int) (ByteArray.mk #[102, 101, 101, 100])) (11 : Int) (ByteArray.mk #[116, 97, 107, 101])).toList.map eStr)))]) ⟨rfl, rfl, rfl, rfl, trivial⟩ (Sub.refl _) ?_
      refine AW.seq_mid (fun ρ H => ∃ (b7 : Bool) (b8 : Bool), ρ = [(0, (eI64 p0)), (5, (.ptr n2 0)), (6, (eBool b7)), (7, (eBool b8))] ∧ H = [(n2, .mem (.ar 1 ((vset (vset (vset (vset (vset (vset (vset (vset (vset (vset (vset (Vector.replicate 12 ByteArray.empty) (1 : Int) (ByteArray.mk #[117, 115, 101])) (2 : Int) (ByteArray.mk #[103, 114, 97, 109, 109, 97, 114])) (3 : Int) (ByteArray.mk #[108, 101, 120])) (4 : Int) (ByteArray.mk #[112, 97, 114, 115, 101])) (5 : Int) (ByteArray.mk #[112, 114, 105, 110, 116])) (6 : Int) (ByteArray.mk #[116, 105, 103, 104, 116])) (7 : Int) (ByteArray.mk #[102, 111, 114, 109, 97, 116])) (8 : Int) (ByteArray.mk #[110, 101, 120, 116])) (9 : Int) (ByteArray.mk #[116, 114, 101, 101, 115])) (10 : Int) (ByteArray.mk #[102, 101, 101, 100])) (11 : Int) (ByteArray.mk #[116, 97, 107, 101])).toList.map eStr)))] ∧ op_Form_c0 k p0 b7 b8 = some r) ?_ ?_
      · refine AW.seq ?_
        refine AW.reg ?_
        refine AO.calm rfl 15 rfl (by decide) (eI64 p0) (Calm.move rfl rfl) ?_
        refine AO.nil (ρ' := [(0, (eI64 p0)), (5, (.ptr n2 0)), (6, (eBool false)), (7, (eBool false)), (15, (eI64 p0))]) (H' := [(n2, .mem (.ar 1 ((vset (vset (vset (vset (vset (vset (vset (vset (vset (vset (vset (Vector.replicate 12 ByteArray.empty) (1 : Int) (ByteArray.mk #[117, 115, 101])) (2 : Int) (ByteArray.mk #[103, 114, 97, 109, 109, 97, 114])) (3 : Int) (ByteArray.mk #[108, 101, 120])) (4 : Int) (ByteArray.mk #[112, 97, 114, 115, 101])) (5 : Int) (ByteArray.mk #[112, 114, 105, 110, 116])) (6 : Int) (ByteArray.mk #[116, 105, 103, 104, 116])) (7 : Int) (ByteArray.mk #[102, 111, 114, 109, 97, 116])) (8 : Int) (ByteArray.mk #[110, 101, 120, 116])) (9 : Int) (ByteArray.mk #[116, 114, 101, 101, 115])) (10 : Int) (ByteArray.mk #[102, 101, 101, 100])) (11 : Int) (ByteArray.mk #[116, 97, 107, 101])).toList.map eStr)))]) ⟨rfl, rfl, rfl, rfl, rfl, trivial⟩ (Sub.refl _) ?_
        refine AW.block ?_
        refine AW.seq_mid (fun ρ H => ρ = [(0, (eI64 p0)), (5, (.ptr n2 0)), (6, (eBool false))] ∧ H = [(n2, .mem (.ar 1 ((vset (vset (vset (vset (vset (vset (vset (vset (vset (vset (vset (Vector.replicate 12 ByteArray.empty) (1 : Int) (ByteArray.mk #[117, 115, 101])) (2 : Int) (ByteArray.mk #[103, 114, 97, 109, 109, 97, 114])) (3 : Int) (ByteArray.mk #[108, 101, 120])) (4 : Int) (ByteArray.mk #[112, 97, 114, 115, 101])) (5 : Int) (ByteArray.mk #[112, 114, 105, 110, 116])) (6 : Int) (ByteArray.mk #[116, 105, 103, 104, 116])) (7 : Int) (ByteArray.mk #[102, 111, 114, 109, 97, 116])) (8 : Int) (ByteArray.mk #[110, 101, 120, 116])) (9 : Int) (ByteArray.mk #[116, 114, 101, 101, 115])) (10 : Int) (ByteArray.mk #[102, 101, 101, 100])) (11 : Int) (ByteArray.mk #[116, 97, 107, 101])).toList.map eStr)))] ∧ op_Form_c1 k p0 = some r) ?_ ?_
        · refine AW.block ?_
          refine AW.seq_mid (fun ρ H => ∃ (b11 : Bool), ρ = [(0, (eI64 p0)), (5, (.ptr n2 0)), (7, (eBool b11))] ∧ H = [(n2, .mem (.ar 1 ((vset (vset (vset (vset (vset (vset (vset (vset (vset (vset (vset (Vector.replicate 12 ByteArray.empty) (1 : Int) (ByteArray.mk #[117, 115, 101])) (2 : Int) (ByteArray.mk #[103, 114, 97, 109, 109, 97, 114])) (3 : Int) (ByteArray.mk #[108, 101, 120])) (4 : Int) (ByteArray.mk #[112, 97, 114, 115, 101])) (5 : Int) (ByteArray.mk #[112, 114, 105, 110, 116])) (6 : Int) (ByteArray.mk #[116, 105, 103, 104, 116])) (7 : Int) (ByteArray.mk #[102, 111, 114, 109, 97, 116])) (8 : Int) (ByteArray.mk #[110, 101, 120, 116])) (9 : Int) (ByteArray.mk #[116, 114, 101, 101, 115])) (10 : Int) (ByteArray.mk #[102, 101, 101, 100])) (11 : Int) (ByteArray.mk #[116, 97, 107, 101])).toList.map eStr)))] ∧ op_Form_c2 k p0 b11 = some r) ?_ ?_
          · refine AW.block ?_
            refine AW.seq_mid (fun ρ H => ρ = [(0, (eI64 p0)), (5, (.ptr n2 0))] ∧ H = [(n2, .mem (.ar 1 ((vset (vset (vset (vset (vset (vset (vset (vset (vset (vset (vset (Vector.replicate 12 ByteArray.empty) (1 : Int) (ByteArray.mk #[117, 115, 101])) (2 : Int) (ByteArray.mk #[103, 114, 97, 109, 109, 97, 114])) (3 : Int) (ByteArray.mk #[108, 101, 120])) (4 : Int) (ByteArray.mk #[112, 97, 114, 115, 101])) (5 : Int) (ByteArray.mk #[112, 114, 105, 110, 116])) (6 : Int) (ByteArray.mk #[116, 105, 103, 104, 116])) (7 : Int) (ByteArray.mk #[102, 111, 114, 109, 97, 116])) (8 : Int) (ByteArray.mk #[110, 101, 120, 116])) (9 : Int) (ByteArray.mk #[116, 114, 101, 101, 115])) (10 : Int) (ByteArray.mk #[102, 101, 101, 100])) (11 : Int) (ByteArray.mk #[116, 97, 107, 101])).toList.map eStr)))] ∧ op_Form_c3 k p0 = some r) ?_ ?_
            · refine AW.block ?_
              refine AW.seq ?_
              refine AW.seq ?_
              refine AW.seq_mid (fun ρ H => ∃ (b12 : Bool), ρ = [(0, (eI64 p0)), (5, (.ptr n2 0)), (6, (eBool false)), (7, (eBool false)), (15, (eI64 p0)), (16, (eBool b12))] ∧ H = [(n2, .mem (.ar 1 ((vset (vset (vset (vset (vset (vset (vset (vset (vset (vset (vset (Vector.replicate 12 ByteArray.empty) (1 : Int) (ByteArray.mk #[117, 115, 101])) (2 : Int) (ByteArray.mk #[103, 114, 97, 109, 109, 97, 114])) (3 : Int) (ByteArray.mk #[108, 101, 120])) (4 : Int) (ByteArray.mk #[112, 97, 114, 115, 101])) (5 : Int) (ByteArray.mk #[112, 114, 105, 110, 116])) (6 : Int) (ByteArray.mk #[116, 105, 103, 104, 116])) (7 : Int) (ByteArray.mk #[102, 111, 114, 109, 97, 116])) (8 : Int) (ByteArray.mk #[110, 101, 120, 116])) (9 : Int) (ByteArray.mk #[116, 114, 101, 101, 115])) (10 : Int) (ByteArray.mk #[102, 101, 101, 100])) (11 : Int) (ByteArray.mk #[116, 97, 107, 101])).toList.map eStr)))] ∧ op_Form_c6 k p0 b12 = some r) ?_ ?_
              · refine AW.seq ?_
                refine AW.reg ?_
                refine AO.calm rfl 17 rfl (by decide) (eBool (decide (p0 = (5 : Int)))) (Calm.int rfl rfl rfl rfl) ?_
                refine AO.calm rfl 16 rfl (by decide) (eBool (decide (p0 = (5 : Int)))) (Calm.assign rfl rfl) ?_
                refine AO.nil (ρ' := [(0, (eI64 p0)), (5, (.ptr n2 0)), (6, (eBool false)), (7, (eBool false)), (15, (eI64 p0)), (16, (eBool (decide (p0 = (5 : Int)))))]) (H' := [(n2, .mem (.ar 1 ((vset (vset (vset (vset (vset (vset (vset (vset (vset (vset (vset (Vector.replicate 12 ByteArray.empty) (1 : Int) (ByteArray.mk #[117, 115, 101])) (2 : Int) (ByteArray.mk #[103, 114, 97, 109, 109, 97, 114])) (3 : Int) (ByteArray.mk #[108, 101, 120])) (4 : Int) (ByteArray.mk #[112, 97, 114, 115, 101])) (5 : Int) (ByteArray.mk #[112, 114, 105, 110, 116])) (6 : Int) (ByteArray.mk #[116, 105, 103, 104, 116])) (7 : Int) (ByteArray.mk #[102, 111, 114, 109, 97, 116])) (8 : Int) (ByteArray.mk #[110, 101, 120, 116])) (9 : Int) (ByteArray.mk #[116, 114, 101, 101, 115])) (10 : Int) (ByteArray.mk #[102, 101, 101, 100])) (11 : Int) (ByteArray.mk #[116, 97, 107, 101])).toList.map eStr)))]) ⟨rfl, rfl, rfl, rfl, rfl, rfl, trivial⟩ (Sub.refl _) ?_
                by_cases hc24 : p0 = (5 : Int)
                · have h := (if_pos hc24).symm.trans h
                  refine AW.condP (p0 = (5 : Int)) rfl hc24 ?_
                  refine AW.skip (ρ' := [(0, (eI64 p0)), (5, (.ptr n2 0)), (6, (eBool false)), (7, (eBool false)), (15, (eI64 p0)), (16, (eBool (decide (p0 = (5 : Int)))))]) (H' := [(n2, .mem (.ar 1 ((vset (vset (vset (vset (vset (vset (vset (vset (vset (vset (vset (Vector.replicate 12 ByteArray.empty) (1 : Int) (ByteArray.mk #[117, 115, 101])) (2 : Int) (ByteArray.mk #[103, 114, 97, 109, 109, 97, 114])) (3 : Int) (ByteArray.mk #[108, 101, 120])) (4 : Int) (ByteArray.mk #[112, 97, 114, 115, 101])) (5 : Int) (ByteArray.mk #[112, 114, 105, 110, 116])) (6 : Int) (ByteArray.mk #[116, 105, 103, 104, 116])) (7 : Int) (ByteArray.mk #[102, 111, 114, 109, 97, 116])) (8 : Int) (ByteArray.mk #[110, 101, 120, 116])) (9 : Int) (ByteArray.mk #[116, 114, 101, 101, 115])) (10 : Int) (ByteArray.mk #[102, 101, 101, 100])) (11 : Int) (ByteArray.mk #[116, 97, 107, 101])).toList.map eStr)))]) ⟨rfl, rfl, rfl, rfl, rfl, rfl, trivial⟩ (Sub.refl _) ?_
                  exact ⟨decide (p0 = (5 : Int)), rfl, rfl, h⟩
                · have h := (if_neg hc24).symm.trans h
                  refine AW.condN (p0 = (5 : Int)) rfl hc24 ?_
                  refine AW.reg ?_
                  refine AO.calm rfl 18 rfl (by decide) (eBool (decide (p0 = (7 : Int)))) (Calm.int rfl rfl rfl rfl) ?_
                  refine AO.calm rfl 16 rfl (by decide) (eBool (decide (p0 = (7 : Int)))) (Calm.assign rfl rfl) ?_
                  refine AO.nil (ρ' := [(0, (eI64 p0)), (5, (.ptr n2 0)), (6, (eBool false)), (7, (eBool false)), (15, (eI64 p0)), (16, (eBool (decide (p0 = (7 : Int)))))]) (H' := [(n2, .mem (.ar 1 ((vset (vset (vset (vset (vset (vset (vset (vset (vset (vset (vset (Vector.replicate 12 ByteArray.empty) (1 : Int) (ByteArray.mk #[117, 115, 101])) (2 : Int) (ByteArray.mk #[103, 114, 97, 109, 109, 97, 114])) (3 : Int) (ByteArray.mk #[108, 101, 120])) (4 : Int) (ByteArray.mk #[112, 97, 114, 115, 101])) (5 : Int) (ByteArray.mk #[112, 114, 105, 110, 116])) (6 : Int) (ByteArray.mk #[116, 105, 103, 104, 116])) (7 : Int) (ByteArray.mk #[102, 111, 114, 109, 97, 116])) (8 : Int) (ByteArray.mk #[110, 101, 120, 116])) (9 : Int) (ByteArray.mk #[116, 114, 101, 101, 115])) (10 : Int) (ByteArray.mk #[102, 101, 101, 100])) (11 : Int) (ByteArray.mk #[116, 97, 107, 101])).toList.map eStr)))]) ⟨rfl, rfl, rfl, rfl, rfl, rfl, trivial⟩ (Sub.refl _) ?_
                  exact ⟨decide (p0 = (7 : Int)), rfl, rfl, h⟩
              · rintro _ _ ⟨b12, rfl, rfl, h⟩
                rw [op_Form_c6.eq_1] at h
                by_cases hc13 : b12 = true
                · have h := (if_pos hc13).symm.trans h
                  refine AW.condT' b12 rfl hc13 ?_
                  refine AW.exit (ρ' := [(0, (eI64 p0)), (5, (.ptr n2 0))]) (H' := [(n2, .mem (.ar 1 ((vset (vset (vset (vset (vset (vset (vset (vset (vset (vset (vset (Vector.replicate 12 ByteArray.empty) (1 : Int) (ByteArray.mk #[117, 115, 101])) (2 : Int) (ByteArray.mk #[103, 114, 97, 109, 109, 97, 114])) (3 : Int) (ByteArray.mk #[108, 101, 120])) (4 : Int) (ByteArray.mk #[112, 97, 114, 115, 101])) (5 : Int) (ByteArray.mk #[112, 114, 105, 110, 116])) (6 : Int) (ByteArray.mk #[116, 105, 103, 104, 116])) (7 : Int) (ByteArray.mk #[102, 111, 114, 109, 97, 116])) (8 : Int) (ByteArray.mk #[110, 101, 120, 116])) (9 : Int) (ByteArray.mk #[116, 114, 101, 101, 115])) (10 : Int) (ByteArray.mk #[102, 101, 101, 100])) (11 : Int) (ByteArray.mk #[116, 97, 107, 101])).toList.map eStr)))]) ⟨rfl, rfl, trivial⟩ (Sub.refl _) ?_
                  exact ⟨rfl, rfl, h⟩
                · have h := (if_neg hc13).symm.trans h
                  refine AW.condF' b12 rfl hc13 ?_
                  refine AW.skip (ρ' := [(0, (eI64 p0)), (5, (.ptr n2 0)), (6, (eBool false)), (7, (eBool false)), (15, (eI64 p0))]) (H' := [(n2, .mem (.ar 1 ((vset (vset (vset (vset (vset (vset (vset (vset (vset (vset (vset (Vector.replicate 12 ByteArray.empty) (1 : Int) (ByteArray.mk #[117, 115, 101])) (2 : Int) (ByteArray.mk #[103, 114, 97, 109, 109, 97, 114])) (3 : Int) (ByteArray.mk #[108, 101, 120])) (4 : Int) (ByteArray.mk #[112, 97, 114, 115, 101])) (5 : Int) (ByteArray.mk #[112, 114, 105, 110, 116])) (6 : Int) (ByteArray.mk #[116, 105, 103, 104, 116])) (7 : Int) (ByteArray.mk #[102, 111, 114, 109, 97, 116])) (8 : Int) (ByteArray.mk #[110, 101, 120, 116])) (9 : Int) (ByteArray.mk #[116, 114, 101, 101, 115])) (10 : Int) (ByteArray.mk #[102, 101, 101, 100])) (11 : Int) (ByteArray.mk #[116, 97, 107, 101])).toList.map eStr)))]) ⟨rfl, rfl, rfl, rfl, rfl, trivial⟩ (Sub.refl _) ?_
                  refine AW.seq ?_
                  refine AW.seq_mid (fun ρ H => ∃ (b14 : Bool), ρ = [(0, (eI64 p0)), (5, (.ptr n2 0)), (6, (eBool false)), (7, (eBool false)), (15, (eI64 p0)), (19, (eBool b14))] ∧ H = [(n2, .mem (.ar 1 ((vset (vset (vset (vset (vset (vset (vset (vset (vset (vset (vset (Vector.replicate 12 ByteArray.empty) (1 : Int) (ByteArray.mk #[117, 115, 101])) (2 : Int) (ByteArray.mk #[103, 114, 97, 109, 109, 97, 114])) (3 : Int) (ByteArray.mk #[108, 101, 120])) (4 : Int) (ByteArray.mk #[112, 97, 114, 115, 101])) (5 : Int) (ByteArray.mk #[112, 114, 105, 110, 116])) (6 : Int) (ByteArray.mk #[116, 105, 103, 104, 116])) (7 : Int) (ByteArray.mk #[102, 111, 114, 109, 97, 116])) (8 : Int) (ByteArray.mk #[110, 101, 120, 116])) (9 : Int) (ByteArray.mk #[116, 114, 101, 101, 115])) (10 : Int) (ByteArray.mk #[102, 101, 101, 100])) (11 : Int) (ByteArray.mk #[116, 97, 107, 101])).toList.map eStr)))] ∧ op_Form_c5 k p0 b14 = some r) ?_ ?_
                  · refine AW.seq ?_
                    refine AW.reg ?_
                    refine AO.calm rfl 20 rfl (by decide) (eBool (decide (p0 = (2 : Int)))) (Calm.int rfl rfl rfl rfl) ?_
                    refine AO.calm rfl 19 rfl (by decide) (eBool (decide (p0 = (2 : Int)))) (Calm.assign rfl rfl) ?_
                    refine AO.nil (ρ' := [(0, (eI64 p0)), (5, (.ptr n2 0)), (6, (eBool false)), (7, (eBool false)), (15, (eI64 p0)), (19, (eBool (decide (p0 = (2 : Int)))))]) (H' := [(n2, .mem (.ar 1 ((vset (vset (vset (vset (vset (vset (vset (vset (vset (vset (vset (Vector.replicate 12 ByteArray.empty) (1 : Int) (ByteArray.mk #[117, 115, 101])) (2 : Int) (ByteArray.mk #[103, 114, 97, 109, 109, 97, 114])) (3 : Int) (ByteArray.mk #[108, 101, 120])) (4 : Int) (ByteArray.mk #[112, 97, 114, 115, 101])) (5 : Int) (ByteArray.mk #[112, 114, 105, 110, 116])) (6 : Int) (ByteArray.mk #[116, 105, 103, 104, 116])) (7 : Int) (ByteArray.mk #[102, 111, 114, 109, 97, 116])) (8 : Int) (ByteArray.mk #[110, 101, 120, 116])) (9 : Int) (ByteArray.mk #[116, 114, 101, 101, 115])) (10 : Int) (ByteArray.mk #[102, 101, 101, 100])) (11 : Int) (ByteArray.mk #[116, 97, 107, 101])).toList.map eStr)))]) ⟨rfl, rfl, rfl, rfl, rfl, rfl, trivial⟩ (Sub.refl _) ?_
                    by_cases hc19 : p0 = (2 : Int)
                    · have h := (if_pos hc19).symm.trans h
                      refine AW.condP (p0 = (2 : Int)) rfl hc19 ?_
                      refine AW.skip (ρ' := [(0, (eI64 p0)), (5, (.ptr n2 0)), (6, (eBool false)), (7, (eBool false)), (15, (eI64 p0)), (19, (eBool (decide (p0 = (2 : Int)))))]) (H' := [(n2, .mem (.ar 1 ((vset (vset (vset (vset (vset (vset (vset (vset (vset (vset (vset (Vector.replicate 12 ByteArray.empty) (1 : Int) (ByteArray.mk #[117, 115, 101])) (2 : Int) (ByteArray.mk #[103, 114, 97, 109, 109, 97, 114])) (3 : Int) (ByteArray.mk #[108, 101, 120])) (4 : Int) (ByteArray.mk #[112, 97, 114, 115, 101])) (5 : Int) (ByteArray.mk #[112, 114, 105, 110, 116])) (6 : Int) (ByteArray.mk #[116, 105, 103, 104, 116])) (7 : Int) (ByteArray.mk #[102, 111, 114, 109, 97, 116])) (8 : Int) (ByteArray.mk #[110, 101, 120, 116])) (9 : Int) (ByteArray.mk #[116, 114, 101, 101, 115])) (10 : Int) (ByteArray.mk #[102, 101, 101, 100])) (11 : Int) (ByteArray.mk #[116, 97, 107, 101])).toList.map eStr)))]) ⟨rfl, rfl, rfl, rfl, rfl, rfl, trivial⟩ (Sub.refl _) ?_
                      exact ⟨decide (p0 = (2 : Int)), rfl, rfl, h⟩
                    · have h := (if_neg hc19).symm.trans h
                      refine AW.condN (p0 = (2 : Int)) rfl hc19 ?_
                      refine AW.seq ?_
                      refine AW.reg ?_
                      refine AO.calm rfl 21 rfl (by decide) (eBool (decide (p0 = (3 : Int)))) (Calm.int rfl rfl rfl rfl) ?_
                      refine AO.calm rfl 19 rfl (by decide) (eBool (decide (p0 = (3 : Int)))) (Calm.assign rfl rfl) ?_
                      refine AO.nil (ρ' := [(0, (eI64 p0)), (5, (.ptr n2 0)), (6, (eBool false)), (7, (eBool false)), (15, (eI64 p0)), (19, (eBool (decide (p0 = (3 : Int)))))]) (H' := [(n2, .mem (.ar 1 ((vset (vset (vset (vset (vset (vset (vset (vset (vset (vset (vset (Vector.replicate 12 ByteArray.empty) (1 : Int) (ByteArray.mk #[117, 115, 101])) (2 : Int) (ByteArray.mk #[103, 114, 97, 109, 109, 97, 114])) (3 : Int) (ByteArray.mk #[108, 101, 120])) (4 : Int) (ByteArray.mk #[112, 97, 114, 115, 101])) (5 : Int) (ByteArray.mk #[112, 114, 105, 110, 116])) (6 : Int) (ByteArray.mk #[116, 105, 103, 104, 116])) (7 : Int) (ByteArray.mk #[102, 111, 114, 109, 97, 116])) (8 : Int) (ByteArray.mk #[110, 101, 120, 116])) (9 : Int) (ByteArray.mk #[116, 114, 101, 101, 115])) (10 : Int) (ByteArray.mk #[102, 101, 101, 100])) (11 : Int) (ByteArray.mk #[116, 97, 107, 101])).toList.map eStr)))]) ⟨rfl, rfl, rfl, rfl, rfl, rfl, trivial⟩ (Sub.refl _) ?_
                      by_cases hc20 : p0 = (3 : Int)
                      · have h := (if_pos hc20).symm.trans h
                        refine AW.condP (p0 = (3 : Int)) rfl hc20 ?_
                        refine AW.skip (ρ' := [(0, (eI64 p0)), (5, (.ptr n2 0)), (6, (eBool false)), (7, (eBool false)), (15, (eI64 p0)), (19, (eBool (decide (p0 = (3 : Int)))))]) (H' := [(n2, .mem (.ar 1 ((vset (vset (vset (vset (vset (vset (vset (vset (vset (vset (vset (Vector.replicate 12 ByteArray.empty) (1 : Int) (ByteArray.mk #[117, 115, 101])) (2 : Int) (ByteArray.mk #[103, 114, 97, 109, 109, 97, 114])) (3 : Int) (ByteArray.mk #[108, 101, 120])) (4 : Int) (ByteArray.mk #[112, 97, 114, 115, 101])) (5 : Int) (ByteArray.mk #[112, 114, 105, 110, 116])) (6 : Int) (ByteArray.mk #[116, 105, 103, 104, 116])) (7 : Int) (ByteArray.mk #[102, 111, 114, 109, 97, 116])) (8 : Int) (ByteArray.mk #[110, 101, 120, 116])) (9 : Int) (ByteArray.mk #[116, 114, 101, 101, 115])) (10 : Int) (ByteArray.mk #[102, 101, 101, 100])) (11 : Int) (ByteArray.mk #[116, 97, 107, 101])).toList.map eStr)))]) ⟨rfl, rfl, rfl, rfl, rfl, rfl, trivial⟩ (Sub.refl _) ?_
                        exact ⟨decide (p0 = (3 : Int)), rfl, rfl, h⟩
                      · have h := (if_neg hc20).symm.trans h
                        refine AW.condN (p0 = (3 : Int)) rfl hc20 ?_
                        refine AW.seq ?_
                        refine AW.reg ?_
                        refine AO.calm rfl 22 rfl (by decide) (eBool (decide (p0 = (4 : Int)))) (Calm.int rfl rfl rfl rfl) ?_
                        refine AO.calm rfl 19 rfl (by decide) (eBool (decide (p0 = (4 : Int)))) (Calm.assign rfl rfl) ?_
                        refine AO.nil (ρ' := [(0, (eI64 p0)), (5, (.ptr n2 0)), (6, (eBool false)), (7, (eBool false)), (15, (eI64 p0)), (19, (eBool (decide (p0 = (4 : Int)))))]) (H' := [(n2, .mem (.ar 1 ((vset (vset (vset (vset (vset (vset (vset (vset (vset (vset (vset (Vector.replicate 12 ByteArray.empty) (1 : Int) (ByteArray.mk #[117, 115, 101])) (2 : Int) (ByteArray.mk #[103, 114, 97, 109, 109, 97, 114])) (3 : Int) (ByteArray.mk #[108, 101, 120])) (4 : Int) (ByteArray.mk #[112, 97, 114, 115, 101])) (5 : Int) (ByteArray.mk #[112, 114, 105, 110, 116])) (6 : Int) (ByteArray.mk #[116, 105, 103, 104, 116])) (7 : Int) (ByteArray.mk #[102, 111, 114, 109, 97, 116])) (8 : Int) (ByteArray.mk #[110, 101, 120, 116])) (9 : Int) (ByteArray.mk #[116, 114, 101, 101, 115])) (10 : Int) (ByteArray.mk #[102, 101, 101, 100])) (11 : Int) (ByteArray.mk #[116, 97, 107, 101])).toList.map eStr)))]) ⟨rfl, rfl, rfl, rfl, rfl, rfl, trivial⟩ (Sub.refl _) ?_
                        by_cases hc21 : p0 = (4 : Int)
                        · have h := (if_pos hc21).symm.trans h
                          refine AW.condP (p0 = (4 : Int)) rfl hc21 ?_
                          refine AW.skip (ρ' := [(0, (eI64 p0)), (5, (.ptr n2 0)), (6, (eBool false)), (7, (eBool false)), (15, (eI64 p0)), (19, (eBool (decide (p0 = (4 : Int)))))]) (H' := [(n2, .mem (.ar 1 ((vset (vset (vset (vset (vset (vset (vset (vset (vset (vset (vset (Vector.replicate 12 ByteArray.empty) (1 : Int) (ByteArray.mk #[117, 115, 101])) (2 : Int) (ByteArray.mk #[103, 114, 97, 109, 109, 97, 114])) (3 : Int) (ByteArray.mk #[108, 101, 120])) (4 : Int) (ByteArray.mk #[112, 97, 114, 115, 101])) (5 : Int) (ByteArray.mk #[112, 114, 105, 110, 116])) (6 : Int) (ByteArray.mk #[116, 105, 103, 104, 116])) (7 : Int) (ByteArray.mk #[102, 111, 114, 109, 97, 116])) (8 : Int) (ByteArray.mk #[110, 101, 120, 116])) (9 : Int) (ByteArray.mk #[116, 114, 101, 101, 115])) (10 : Int) (ByteArray.mk #[102, 101, 101, 100])) (11 : Int) (ByteArray.mk #[116, 97, 107, 101])).toList.map eStr)))]) ⟨rfl, rfl, rfl, rfl, rfl, rfl, trivial⟩ (Sub.refl _) ?_
                          exact ⟨decide (p0 = (4 : Int)), rfl, rfl, h⟩
                        · have h := (if_neg hc21).symm.trans h
                          refine AW.condN (p0 = (4 : Int)) rfl hc21 ?_
                          refine AW.seq ?_
                          refine AW.reg ?_
                          refine AO.calm rfl 23 rfl (by decide) (eBool (decide (p0 = (6 : Int)))) (Calm.int rfl rfl rfl rfl) ?_
                          refine AO.calm rfl 19 rfl (by decide) (eBool (decide (p0 = (6 : Int)))) (Calm.assign rfl rfl) ?_
                          refine AO.nil (ρ' := [(0, (eI64 p0)), (5, (.ptr n2 0)), (6, (eBool false)), (7, (eBool false)), (15, (eI64 p0)), (19, (eBool (decide (p0 = (6 : Int)))))]) (H' := [(n2, .mem (.ar 1 ((vset (vset (vset (vset (vset (vset (vset (vset (vset (vset (vset (Vector.replicate 12 ByteArray.empty) (1 : Int) (ByteArray.mk #[117, 115, 101])) (2 : Int) (ByteArray.mk #[103, 114, 97, 109, 109, 97, 114])) (3 : Int) (ByteArray.mk #[108, 101, 120])) (4 : Int) (ByteArray.mk #[112, 97, 114, 115, 101])) (5 : Int) (ByteArray.mk #[112, 114, 105, 110, 116])) (6 : Int) (ByteArray.mk #[116, 105, 103, 104, 116])) (7 : Int) (ByteArray.mk #[102, 111, 114, 109, 97, 116])) (8 : Int) (ByteArray.mk #[110, 101, 120, 116])) (9 : Int) (ByteArray.mk #[116, 114, 101, 101, 115])) (10 : Int) (ByteArray.mk #[102, 101, 101, 100])) (11 : Int) (ByteArray.mk #[116, 97, 107, 101])).toList.map eStr)))]) ⟨rfl, rfl, rfl, rfl, rfl, rfl, trivial⟩ (Sub.refl _) ?_
                          by_cases hc22 : p0 = (6 : Int)
                          · have h := (if_pos hc22).symm.trans h
                            refine AW.condP (p0 = (6 : Int)) rfl hc22 ?_
                            refine AW.skip (ρ' := [(0, (eI64 p0)), (5, (.ptr n2 0)), (6, (eBool false)), (7, (eBool false)), (15, (eI64 p0)), (19, (eBool (decide (p0 = (6 : Int)))))]) (H' := [(n2, .mem (.ar 1 ((vset (vset (vset (vset (vset (vset (vset (vset (vset (vset (vset (Vector.replicate 12 ByteArray.empty) (1 : Int) (ByteArray.mk #[117, 115, 101])) (2 : Int) (ByteArray.mk #[103, 114, 97, 109, 109, 97, 114])) (3 : Int) (ByteArray.mk #[108, 101, 120])) (4 : Int) (ByteArray.mk #[112, 97, 114, 115, 101])) (5 : Int) (ByteArray.mk #[112, 114, 105, 110, 116])) (6 : Int) (ByteArray.mk #[116, 105, 103, 104, 116])) (7 : Int) (ByteArray.mk #[102, 111, 114, 109, 97, 116])) (8 : Int) (ByteArray.mk #[110, 101, 120, 116])) (9 : Int) (ByteArray.mk #[116, 114, 101, 101, 115])) (10 : Int) (ByteArray.mk #[102, 101, 101, 100])) (11 : Int) (ByteArray.mk #[116, 97, 107, 101])).toList.map eStr)))]) ⟨rfl, rfl, rfl, rfl, rfl, rfl, trivial⟩ (Sub.refl _) ?_
                            exact ⟨decide (p0 = (6 : Int)), rfl, rfl, h⟩
                          · have h := (if_neg hc22).symm.trans h
                            refine AW.condN (p0 = (6 : Int)) rfl hc22 ?_
                            refine AW.seq ?_
                            refine AW.reg ?_
                            refine AO.calm rfl 24 rfl (by decide) (eBool (decide (p0 = (8 : Int)))) (Calm.int rfl rfl rfl rfl) ?_
                            refine AO.calm rfl 19 rfl (by decide) (eBool (decide (p0 = (8 : Int)))) (Calm.assign rfl rfl) ?_
                            refine AO.nil (ρ' := [(0, (eI64 p0)), (5, (.ptr n2 0)), (6, (eBool false)), (7, (eBool false)), (15, (eI64 p0)), (19, (eBool (decide (p0 = (8 : Int)))))]) (H' := [(n2, .mem (.ar 1 ((vset (vset (vset (vset (vset (vset (vset (vset (vset (vset (vset (Vector.replicate 12 ByteArray.empty) (1 : Int) (ByteArray.mk #[117, 115, 101])) (2 : Int) (ByteArray.mk #[103, 114, 97, 109, 109, 97, 114])) (3 : Int) (ByteArray.mk #[108, 101, 120])) (4 : Int) (ByteArray.mk #[112, 97, 114, 115, 101])) (5 : Int) (ByteArray.mk #[112, 114, 105, 110, 116])) (6 : Int) (ByteArray.mk #[116, 105, 103, 104, 116])) (7 : Int) (ByteArray.mk #[102, 111, 114, 109, 97, 116])) (8 : Int) (ByteArray.mk #[110, 101, 120, 116])) (9 : Int) (ByteArray.mk #[116, 114, 101, 101, 115])) (10 : Int) (ByteArray.mk #[102, 101, 101, 100])) (11 : Int) (ByteArray.mk #[116, 97, 107, 101])).toList.map eStr)))]) ⟨rfl, rfl, rfl, rfl, rfl, rfl, trivial⟩ (Sub.refl _) ?_
                            by_cases hc23 : p0 = (8 : Int)
                            · have h := (if_pos hc23).symm.trans h
                              refine AW.condP (p0 = (8 : Int)) rfl hc23 ?_
                              refine AW.skip (ρ' := [(0, (eI64 p0)), (5, (.ptr n2 0)), (6, (eBool false)), (7, (eBool false)), (15, (eI64 p0)), (19, (eBool (decide (p0 = (8 : Int)))))]) (H' := [(n2, .mem (.ar 1 ((vset (vset (vset (vset (vset (vset (vset (vset (vset (vset (vset (Vector.replicate 12 ByteArray.empty) (1 : Int) (ByteArray.mk #[117, 115, 101])) (2 : Int) (ByteArray.mk #[103, 114, 97, 109, 109, 97, 114])) (3 : Int) (ByteArray.mk #[108, 101, 120])) (4 : Int) (ByteArray.mk #[112, 97, 114, 115, 101])) (5 : Int) (ByteArray.mk #[112, 114, 105, 110, 116])) (6 : Int) (ByteArray.mk #[116, 105, 103, 104, 116])) (7 : Int) (ByteArray.mk #[102, 111, 114, 109, 97, 116])) (8 : Int) (ByteArray.mk #[110, 101, 120, 116])) (9 : Int) (ByteArray.mk #[116, 114, 101, 101, 115])) (10 : Int) (ByteArray.mk #[102, 101, 101, 100])) (11 : Int) (ByteArray.mk #[116, 97, 107, 101])).toList.map eStr)))]) ⟨rfl, rfl, rfl, rfl, rfl, rfl, trivial⟩ (Sub.refl _) ?_
                              exact ⟨decide (p0 = (8 : Int)), rfl, rfl, h⟩
                            · have h := (if_neg hc23).symm.trans h
                              refine AW.condN (p0 = (8 : Int)) rfl hc23 ?_
                              refine AW.reg ?_
                              refine AO.calm rfl 25 rfl (by decide) (eBool (decide (p0 = (9 : Int)))) (Calm.int rfl rfl rfl rfl) ?_
                              refine AO.calm rfl 19 rfl (by decide) (eBool (decide (p0 = (9 : Int)))) (Calm.assign rfl rfl) ?_
                              refine AO.nil (ρ' := [(0, (eI64 p0)), (5, (.ptr n2 0)), (6, (eBool false)), (7, (eBool false)), (15, (eI64 p0)), (19, (eBool (decide (p0 = (9 : Int)))))]) (H' := [(n2, .mem (.ar 1 ((vset (vset (vset (vset (vset (vset (vset (vset (vset (vset (vset (Vector.replicate 12 ByteArray.empty) (1 : Int) (ByteArray.mk #[117, 115, 101])) (2 : Int) (ByteArray.mk #[103, 114, 97, 109, 109, 97, 114])) (3 : Int) (ByteArray.mk #[108, 101, 120])) (4 : Int) (ByteArray.mk #[112, 97, 114, 115, 101])) (5 : Int) (ByteArray.mk #[112, 114, 105, 110, 116])) (6 : Int) (ByteArray.mk #[116, 105, 103, 104, 116])) (7 : Int) (ByteArray.mk #[102, 111, 114, 109, 97, 116])) (8 : Int) (ByteArray.mk #[110, 101, 120, 116])) (9 : Int) (ByteArray.mk #[116, 114, 101, 101, 115])) (10 : Int) (ByteArray.mk #[102, 101, 101, 100])) (11 : Int) (ByteArray.mk #[116, 97, 107, 101])).toList.map eStr)))]) ⟨rfl, rfl, rfl, rfl, rfl, rfl, trivial⟩ (Sub.refl _) ?_
                              exact ⟨decide (p0 = (9 : Int)), rfl, rfl, h⟩
                  · rintro _ _ ⟨b14, rfl, rfl, h⟩
                    rw [op_Form_c5.eq_1] at h
                    by_cases hc15 : b14 = true
                    · have h := (if_pos hc15).symm.trans h
                      refine AW.condT' b14 rfl hc15 ?_
                      refine AW.exit (ρ' := [(0, (eI64 p0)), (5, (.ptr n2 0)), (7, (eBool false))]) (H' := [(n2, .mem (.ar 1 ((vset (vset (vset (vset (vset (vset (vset (vset (vset (vset (vset (Vector.replicate 12 ByteArray.empty) (1 : Int) (ByteArray.mk #[117, 115, 101])) (2 : Int) (ByteArray.mk #[103, 114, 97, 109, 109, 97, 114])) (3 : Int) (ByteArray.mk #[108, 101, 120])) (4 : Int) (ByteArray.mk #[112, 97, 114, 115, 101])) (5 : Int) (ByteArray.mk #[112, 114, 105, 110, 116])) (6 : Int) (ByteArray.mk #[116, 105, 103, 104, 116])) (7 : Int) (ByteArray.mk #[102, 111, 114, 109, 97, 116])) (8 : Int) (ByteArray.mk #[110, 101, 120, 116])) (9 : Int) (ByteArray.mk #[116, 114, 101, 101, 115])) (10 : Int) (ByteArray.mk #[102, 101, 101, 100])) (11 : Int) (ByteArray.mk #[116, 97, 107, 101])).toList.map eStr)))]) ⟨rfl, rfl, rfl, trivial⟩ (Sub.refl _) ?_
                      exact ⟨false, rfl, rfl, h⟩
                    · have h := (if_neg hc15).symm.trans h
                      refine AW.condF' b14 rfl hc15 ?_
                      refine AW.skip (ρ' := [(0, (eI64 p0)), (5, (.ptr n2 0)), (6, (eBool false)), (7, (eBool false)), (15, (eI64 p0))]) (H' := [(n2, .mem (.ar 1 ((vset (vset (vset (vset (vset (vset (vset (vset (vset (vset (vset (Vector.replicate 12 ByteArray.empty) (1 : Int) (ByteArray.mk #[117, 115, 101])) (2 : Int) (ByteArray.mk #[103, 114, 97, 109, 109, 97, 114])) (3 : Int) (ByteArray.mk #[108, 101, 120])) (4 : Int) (ByteArray.mk #[112, 97, 114, 115, 101])) (5 : Int) (ByteArray.mk #[112, 114, 105, 110, 116])) (6 : Int) (ByteArray.mk #[116, 105, 103, 104, 116])) (7 : Int) (ByteArray.mk #[102, 111, 114, 109, 97, 116])) (8 : Int) (ByteArray.mk #[110, 101, 120, 116])) (9 : Int) (ByteArray.mk #[116, 114, 101, 101, 115])) (10 : Int) (ByteArray.mk #[102, 101, 101, 100])) (11 : Int) (ByteArray.mk #[116, 97, 107, 101])).toList.map eStr)))]) ⟨rfl, rfl, rfl, rfl, rfl, trivial⟩ (Sub.refl _) ?_
                      refine AW.seq_mid (fun ρ H => ∃ (b16 : Bool), ρ = [(0, (eI64 p0)), (5, (.ptr n2 0)), (6, (eBool false)), (7, (eBool false)), (26, (eBool b16))] ∧ H = [(n2, .mem (.ar 1 ((vset (vset (vset (vset (vset (vset (vset (vset (vset (vset (vset (Vector.replicate 12 ByteArray.empty) (1 : Int) (ByteArray.mk #[117, 115, 101])) (2 : Int) (ByteArray.mk #[103, 114, 97, 109, 109, 97, 114])) (3 : Int) (ByteArray.mk #[108, 101, 120])) (4 : Int) (ByteArray.mk #[112, 97, 114, 115, 101])) (5 : Int) (ByteArray.mk #[112, 114, 105, 110, 116])) (6 : Int) (ByteArray.mk #[116, 105, 103, 104, 116])) (7 : Int) (ByteArray.mk #[102, 111, 114, 109, 97, 116])) (8 : Int) (ByteArray.mk #[110, 101, 120, 116])) (9 : Int) (ByteArray.mk #[116, 114, 101, 101, 115])) (10 : Int) (ByteArray.mk #[102, 101, 101, 100])) (11 : Int) (ByteArray.mk #[116, 97, 107, 101])).toList.map eStr)))] ∧ op_Form_c4 k p0 b16 = some r) ?_ ?_
                      · refine AW.seq ?_
                        refine AW.reg ?_
                        refine AO.calm rfl 27 rfl (by decide) (eBool (decide (p0 = (1 : Int)))) (Calm.int rfl rfl rfl rfl) ?_
                        refine AO.calm rfl 26 rfl (by decide) (eBool (decide (p0 = (1 : Int)))) (Calm.assign rfl rfl) ?_
                        refine AO.nil (ρ' := [(0, (eI64 p0)), (5, (.ptr n2 0)), (6, (eBool false)), (7, (eBool false)), (15, (eI64 p0)), (26, (eBool (decide (p0 = (1 : Int)))))]) (H' := [(n2, .mem (.ar 1 ((vset (vset (vset (vset (vset (vset (vset (vset (vset (vset (vset (Vector.replicate 12 ByteArray.empty) (1 : Int) (ByteArray.mk #[117, 115, 101])) (2 : Int) (ByteArray.mk #[103, 114, 97, 109, 109, 97, 114])) (3 : Int) (ByteArray.mk #[108, 101, 120])) (4 : Int) (ByteArray.mk #[112, 97, 114, 115, 101])) (5 : Int) (ByteArray.mk #[112, 114, 105, 110, 116])) (6 : Int) (ByteArray.mk #[116, 105, 103, 104, 116])) (7 : Int) (ByteArray.mk #[102, 111, 114, 109, 97, 116])) (8 : Int) (ByteArray.mk #[110, 101, 120, 116])) (9 : Int) (ByteArray.mk #[116, 114, 101, 101, 115])) (10 : Int) (ByteArray.mk #[102, 101, 101, 100])) (11 : Int) (ByteArray.mk #[116, 97, 107, 101])).toList.map eStr)))]) ⟨rfl, rfl, rfl, rfl, rfl, rfl, trivial⟩ (Sub.refl _) ?_
                        by_cases hc18 : p0 = (1 : Int)
                        · have h := (if_pos hc18).symm.trans h
                          refine AW.condP (p0 = (1 : Int)) rfl hc18 ?_
                          refine AW.skip (ρ' := [(0, (eI64 p0)), (5, (.ptr n2 0)), (6, (eBool false)), (7, (eBool false)), (26, (eBool (decide (p0 = (1 : Int)))))]) (H' := [(n2, .mem (.ar 1 ((vset (vset (vset (vset (vset (vset (vset (vset (vset (vset (vset (Vector.replicate 12 ByteArray.empty) (1 : Int) (ByteArray.mk #[117, 115, 101])) (2 : Int) (ByteArray.mk #[103, 114, 97, 109, 109, 97, 114])) (3 : Int) (ByteArray.mk #[108, 101, 120])) (4 : Int) (ByteArray.mk #[112, 97, 114, 115, 101])) (5 : Int) (ByteArray.mk #[112, 114, 105, 110, 116])) (6 : Int) (ByteArray.mk #[116, 105, 103, 104, 116])) (7 : Int) (ByteArray.mk #[102, 111, 114, 109, 97, 116])) (8 : Int) (ByteArray.mk #[110, 101, 120, 116])) (9 : Int) (ByteArray.mk #[116, 114, 101, 101, 115])) (10 : Int) (ByteArray.mk #[102, 101, 101, 100])) (11 : Int) (ByteArray.mk #[116, 97, 107, 101])).toList.map eStr)))]) ⟨rfl, rfl, rfl, rfl, rfl, trivial⟩ (Sub.refl _) ?_
                          exact ⟨decide (p0 = (1 : Int)), rfl, rfl, h⟩
                        · have h := (if_neg hc18).symm.trans h
                          refine AW.condN (p0 = (1 : Int)) rfl hc18 ?_
                          refine AW.reg ?_
                          refine AO.calm rfl 28 rfl (by decide) (eBool (decide (p0 = (10 : Int)))) (Calm.int rfl rfl rfl rfl) ?_
                          refine AO.calm rfl 26 rfl (by decide) (eBool (decide (p0 = (10 : Int)))) (Calm.assign rfl rfl) ?_
                          refine AO.nil (ρ' := [(0, (eI64 p0)), (5, (.ptr n2 0)), (6, (eBool false)), (7, (eBool false)), (26, (eBool (decide (p0 = (10 : Int)))))]) (H' := [(n2, .mem (.ar 1 ((vset (vset (vset (vset (vset (vset (vset (vset (vset (vset (vset (Vector.replicate 12 ByteArray.empty) (1 : Int) (ByteArray.mk #[117, 115, 101])) (2 : Int) (ByteArray.mk #[103, 114, 97, 109, 109, 97, 114])) (3 : Int) (ByteArray.mk #[108, 101, 120])) (4 : Int) (ByteArray.mk #[112, 97, 114, 115, 101])) (5 : Int) (ByteArray.mk #[112, 114, 105, 110, 116])) (6 : Int) (ByteArray.mk #[116, 105, 103, 104, 116])) (7 : Int) (ByteArray.mk #[102, 111, 114, 109, 97, 116])) (8 : Int) (ByteArray.mk #[110, 101, 120, 116])) (9 : Int) (ByteArray.mk #[116, 114, 101, 101, 115])) (10 : Int) (ByteArray.mk #[102, 101, 101, 100])) (11 : Int) (ByteArray.mk #[116, 97, 107, 101])).toList.map eStr)))]) ⟨rfl, rfl, rfl, rfl, rfl, trivial⟩ (Sub.refl _) ?_
                          exact ⟨decide (p0 = (10 : Int)), rfl, rfl, h⟩
                      · rintro _ _ ⟨b16, rfl, rfl, h⟩
                        rw [op_Form_c4.eq_1] at h
                        by_cases hc17 : b16 = true
                        · have h := (if_pos hc17).symm.trans h
                          refine AW.condT' b16 rfl hc17 ?_
                          refine AW.exit (ρ' := [(0, (eI64 p0)), (5, (.ptr n2 0)), (6, (eBool false))]) (H' := [(n2, .mem (.ar 1 ((vset (vset (vset (vset (vset (vset (vset (vset (vset (vset (vset (Vector.replicate 12 ByteArray.empty) (1 : Int) (ByteArray.mk #[117, 115, 101])) (2 : Int) (ByteArray.mk #[103, 114, 97, 109, 109, 97, 114])) (3 : Int) (ByteArray.mk #[108, 101, 120])) (4 : Int) (ByteArray.mk #[112, 97, 114, 115, 101])) (5 : Int) (ByteArray.mk #[112, 114, 105, 110, 116])) (6 : Int) (ByteArray.mk #[116, 105, 103, 104, 116])) (7 : Int) (ByteArray.mk #[102, 111, 114, 109, 97, 116])) (8 : Int) (ByteArray.mk #[110, 101, 120, 116])) (9 : Int) (ByteArray.mk #[116, 114, 101, 101, 115])) (10 : Int) (ByteArray.mk #[102, 101, 101, 100])) (11 : Int) (ByteArray.mk #[116, 97, 107, 101])).toList.map eStr)))]) ⟨rfl, rfl, rfl, trivial⟩ (Sub.refl _) ?_
                          exact ⟨rfl, rfl, h⟩
                        · have h := (if_neg hc17).symm.trans h
                          refine AW.condF' b16 rfl hc17 ?_
                          refine AW.skip (ρ' := [(0, (eI64 p0)), (5, (.ptr n2 0)), (6, (eBool false)), (7, (eBool false))]) (H' := [(n2, .mem (.ar 1 ((vset (vset (vset (vset (vset (vset (vset (vset (vset (vset (vset (Vector.replicate 12 ByteArray.empty) (1 : Int) (ByteArray.mk #[117, 115, 101])) (2 : Int) (ByteArray.mk #[103, 114, 97, 109, 109, 97, 114])) (3 : Int) (ByteArray.mk #[108, 101, 120])) (4 : Int) (ByteArray.mk #[112, 97, 114, 115, 101])) (5 : Int) (ByteArray.mk #[112, 114, 105, 110, 116])) (6 : Int) (ByteArray.mk #[116, 105, 103, 104, 116])) (7 : Int) (ByteArray.mk #[102, 111, 114, 109, 97, 116])) (8 : Int) (ByteArray.mk #[110, 101, 120, 116])) (9 : Int) (ByteArray.mk #[116, 114, 101, 101, 115])) (10 : Int) (ByteArray.mk #[102, 101, 101, 100])) (11 : Int) (ByteArray.mk #[116, 97, 107, 101])).toList.map eStr)))]) ⟨rfl, rfl, rfl, rfl, trivial⟩ (Sub.refl _) ?_
                          refine AW.exit (ρ' := [(0, (eI64 p0)), (5, (.ptr n2 0)), (6, (eBool false)), (7, (eBool false))]) (H' := [(n2, .mem (.ar 1 ((vset (vset (vset (vset (vset (vset (vset (vset (vset (vset (vset (Vector.replicate 12 ByteArray.empty) (1 : Int) (ByteArray.mk #[117, 115, 101])) (2 : Int) (ByteArray.mk #[103, 114, 97, 109, 109, 97, 114])) (3 : Int) (ByteArray.mk #[108, 101, 120])) (4 : Int) (ByteArray.mk #[112, 97, 114, 115, 101])) (5 : Int) (ByteArray.mk #[112, 114, 105, 110, 116])) (6 : Int) (ByteArray.mk #[116, 105, 103, 104, 116])) (7 : Int) (ByteArray.mk #[102, 111, 114, 109, 97, 116])) (8 : Int) (ByteArray.mk #[110, 101, 120, 116])) (9 : Int) (ByteArray.mk #[116, 114, 101, 101, 115])) (10 : Int) (ByteArray.mk #[102, 101, 101, 100])) (11 : Int) (ByteArray.mk #[116, 97, 107, 101])).toList.map eStr)))]) ⟨rfl, rfl, rfl, rfl, trivial⟩ (Sub.refl _) ?_
                          exact ⟨false, false, rfl, rfl, h⟩
            · rintro _ _ ⟨rfl, rfl, h⟩
              rw [op_Form_c3.eq_1] at h
              refine AW.reg ?_
              refine AO.calm rfl 7 rfl (by decide) (eBool true) (Calm.assign rfl rfl) ?_
              refine AO.nil (ρ' := [(0, (eI64 p0)), (5, (.ptr n2 0)), (7, (eBool true))]) (H' := [(n2, .mem (.ar 1 ((vset (vset (vset (vset (vset (vset (vset (vset (vset (vset (vset (Vector.replicate 12 ByteArray.empty) (1 : Int) (ByteArray.mk #[117, 115, 101])) (2 : Int) (ByteArray.mk #[103, 114, 97, 109, 109, 97, 114])) (3 : Int) (ByteArray.mk #[108, 101, 120])) (4 : Int) (ByteArray.mk #[112, 97, 114, 115, 101])) (5 : Int) (ByteArray.mk #[112, 114, 105, 110, 116])) (6 : Int) (ByteArray.mk #[116, 105, 103, 104, 116])) (7 : Int) (ByteArray.mk #[102, 111, 114, 109, 97, 116])) (8 : Int) (ByteArray.mk #[110, 101, 120, 116])) (9 : Int) (ByteArray.mk #[116, 114, 101, 101, 115])) (10 : Int) (ByteArray.mk #[102, 101, 101, 100])) (11 : Int) (ByteArray.mk #[116, 97, 107, 101])).toList.map eStr)))]) ⟨rfl, rfl, rfl, trivial⟩ (Sub.refl _) ?_
              exact ⟨true, rfl, rfl, h⟩
          · rintro _ _ ⟨b11, rfl, rfl, h⟩
            rw [op_Form_c2.eq_1] at h
            refine AW.seq ?_
            refine AW.reg ?_
            refine AO.calm rfl 6 rfl (by decide) (eBool true) (Calm.assign rfl rfl) ?_
            refine AO.nil (ρ' := [(0, (eI64 p0)), (5, (.ptr n2 0)), (6, (eBool true)), (7, (eBool b11))]) (H' := [(n2, .mem (.ar 1 ((vset (vset (vset (vset (vset (vset (vset (vset (vset (vset (vset (Vector.replicate 12 ByteArray.empty) (1 : Int) (ByteArray.mk #[117, 115, 101])) (2 : Int) (ByteArray.mk #[103, 114, 97, 109, 109, 97, 114])) (3 : Int) (ByteArray.mk #[108, 101, 120])) (4 : Int) (ByteArray.mk #[112, 97, 114, 115, 101])) (5 : Int) (ByteArray.mk #[112, 114, 105, 110, 116])) (6 : Int) (ByteArray.mk #[116, 105, 103, 104, 116])) (7 : Int) (ByteArray.mk #[102, 111, 114, 109, 97, 116])) (8 : Int) (ByteArray.mk #[110, 101, 120, 116])) (9 : Int) (ByteArray.mk #[116, 114, 101, 101, 115])) (10 : Int) (ByteArray.mk #[102, 101, 101, 100])) (11 : Int) (ByteArray.mk #[116, 97, 107, 101])).toList.map eStr)))]) ⟨rfl, rfl, rfl, rfl, trivial⟩ (Sub.refl _) ?_
            refine AW.exit (ρ' := [(0, (eI64 p0)), (5, (.ptr n2 0)), (6, (eBool true)), (7, (eBool b11))]) (H' := [(n2, .mem (.ar 1 ((vset (vset (vset (vset (vset (vset (vset (vset (vset (vset (vset (Vector.replicate 12 ByteArray.empty) (1 : Int) (ByteArray.mk #[117, 115, 101])) (2 : Int) (ByteArray.mk #[103, 114, 97, 109, 109, 97, 114])) (3 : Int) (ByteArray.mk #[108, 101, 120])) (4 : Int) (ByteArray.mk #[112, 97, 114, 115, 101])) (5 : Int) (ByteArray.mk #[112, 114, 105, 110, 116])) (6 : Int) (ByteArray.mk #[116, 105, 103, 104, 116])) (7 : Int) (ByteArray.mk #[102, 111, 114, 109, 97, 116])) (8 : Int) (ByteArray.mk #[110, 101, 120, 116])) (9 : Int) (ByteArray.mk #[116, 114, 101, 101, 115])) (10 : Int) (ByteArray.mk #[102, 101, 101, 100])) (11 : Int) (ByteArray.mk #[116, 97, 107, 101])).toList.map eStr)))]) ⟨rfl, rfl, rfl, rfl, trivial⟩ (Sub.refl _) ?_
            exact ⟨true, b11, rfl, rfl, h⟩
        · rintro _ _ ⟨rfl, rfl, h⟩
          rw [op_Form_c1.eq_1] at h
          refine AW.seq ?_
          refine AW.reg ?_
          refine AO.calm rfl 7 rfl (by decide) (eBool true) (Calm.assign rfl rfl) ?_
          refine AO.nil (ρ' := [(0, (eI64 p0)), (5, (.ptr n2 0)), (6, (eBool false)), (7, (eBool true))]) (H' := [(n2, .mem (.ar 1 ((vset (vset (vset (vset (vset (vset (vset (vset (vset (vset (vset (Vector.replicate 12 ByteArray.empty) (1 : Int) (ByteArray.mk #[117, 115, 101])) (2 : Int) (ByteArray.mk #[103, 114, 97, 109, 109, 97, 114])) (3 : Int) (ByteArray.mk #[108, 101, 120])) (4 : Int) (ByteArray.mk #[112, 97, 114, 115, 101])) (5 : Int) (ByteArray.mk #[112, 114, 105, 110, 116])) (6 : Int) (ByteArray.mk #[116, 105, 103, 104, 116])) (7 : Int) (ByteArray.mk #[102, 111, 114, 109, 97, 116])) (8 : Int) (ByteArray.mk #[110, 101, 120, 116])) (9 : Int) (ByteArray.mk #[116, 114, 101, 101, 115])) (10 : Int) (ByteArray.mk #[102, 101, 101, 100])) (11 : Int) (ByteArray.mk #[116, 97, 107, 101])).toList.map eStr)))]) ⟨rfl, rfl, rfl, rfl, trivial⟩ (Sub.refl _) ?_
          refine AW.exit (ρ' := [(0, (eI64 p0)), (5, (.ptr n2 0)), (6, (eBool false)), (7, (eBool true))]) (H' := [(n2, .mem (.ar 1 ((vset (vset (vset (vset (vset (vset (vset (vset (vset (vset (vset (Vector.replicate 12 ByteArray.empty) (1 : Int) (ByteArray.mk #[117, 115, 101])) (2 : Int) (ByteArray.mk #[103, 114, 97, 109, 109, 97, 114])) (3 : Int) (ByteArray.mk #[108, 101, 120])) (4 : Int) (ByteArray.mk #[112, 97, 114, 115, 101])) (5 : Int) (ByteArray.mk #[112, 114, 105, 110, 116])) (6 : Int) (ByteArray.mk #[116, 105, 103, 104, 116])) (7 : Int) (ByteArray.mk #[102, 111, 114, 109, 97, 116])) (8 : Int) (ByteArray.mk #[110, 101, 120, 116])) (9 : Int) (ByteArray.mk #[116, 114, 101, 101, 115])) (10 : Int) (ByteArray.mk #[102, 101, 101, 100])) (11 : Int) (ByteArray.mk #[116, 97, 107, 101])).toList.map eStr)))]) ⟨rfl, rfl, rfl, rfl, trivial⟩ (Sub.refl _) ?_
          exact ⟨false, true, rfl, rfl, h⟩
      · rintro _ _ ⟨b7, b8, rfl, rfl, h⟩
        rw [op_Form_c0.eq_1] at h
        refine AW.seq ?_
        refine AW.reg ?_
        refine AO.calm rfl 29 rfl (by decide) (eI64 p0) (Calm.move rfl rfl) ?_
        obtain ⟨hg9, h⟩ := of_guard h
        refine AO.calm rfl 30 rfl (by decide) (.ptr n2 (0 + p0.toNat * 1)) (Calm.idxP rfl rfl rfl hg9 Try.underlying94 sz9) ?_
        refine AO.calm rfl 31 rfl (by decide) (eStr (vget (vset (vset (vset (vset (vset (vset (vset (vset (vset (vset (vset (Vector.replicate 12 ByteArray.empty) (1 : Int) (ByteArray.mk #[117, 115, 101])) (2 : Int) (ByteArray.mk #[103, 114, 97, 109, 109, 97, 114])) (3 : Int) (ByteArray.mk #[108, 101, 120])) (4 : Int) (ByteArray.mk #[112, 97, 114, 115, 101])) (5 : Int) (ByteArray.mk #[112, 114, 105, 110, 116])) (6 : Int) (ByteArray.mk #[116, 105, 103, 104, 116])) (7 : Int) (ByteArray.mk #[102, 111, 114, 109, 97, 116])) (8 : Int) (ByteArray.mk #[110, 101, 120, 116])) (9 : Int) (ByteArray.mk #[116, 114, 101, 101, 115])) (10 : Int) (ByteArray.mk #[102, 101, 101, 100])) (11 : Int) (ByteArray.mk #[116, 97, 107, 101])) p0)) (Calm.load 0 rfl rfl rfl (At.cast (At.vidx p0 hg9.1 hg9.2 At.here) (by omega)) ag9 sz9) ?_
        refine AO.calm rfl 32 rfl (by decide) (eBool b7) (Calm.move rfl rfl) ?_
        refine AO.calm rfl 33 rfl (by decide) (eBool b8) (Calm.move rfl rfl) ?_
        obtain ⟨x10, ex10, h⟩ := of_bind h
        refine AO.calm rfl 2 rfl (by decide) (eStr x10) (Calm.assign rfl (congrArg (fun x => some (eStr x)) (Option.some.inj ex10))) ?_
        refine AO.calm rfl 3 rfl (by decide) (eBool b7) (Calm.assign rfl rfl) ?_
        refine AO.calm rfl 4 rfl (by decide) (eBool b8) (Calm.assign rfl rfl) ?_
        refine AO.nil (ρ' := [(2, (eStr x10)), (3, (eBool b7)), (4, (eBool b8))]) (H' := []) ⟨rfl, rfl, rfl, trivial⟩ (Sub.nil _) ?_
        refine AW.ret (ρ' := [(2, (eStr x10)), (3, (eBool b7)), (4, (eBool b8))]) (H' := []) ⟨rfl, rfl, rfl, trivial⟩ (Sub.refl _) ?_
        have hr := Option.some.inj h
        subst hr
        exact ⟨[(eStr x10), (eBool b7), (eBool b8)], ⟨rfl, rfl, rfl, rfl, rfl, rfl, trivial⟩, rfl⟩
end Go.Avl.T2
/- bosket/op.Kind; printed by avmain.py. -/
namespace Go.Avl.T2
open Go Go.RowKit Go.Proofs Go.Avl
set_option linter.unusedVariables false
set_option maxRecDepth 100000
set_option maxHeartbeats 4000000
attribute [local irreducible] AW AO AQ Spec SpecH Calm

def op_Kind_c0 (k : Nat) : Option Int :=
  some ((0 : Int))
def op_Kind_l1 (k : Nat) (p0 : ByteArray) : Nat → Int → Option Int
  | 0, _ => none
  | j + 1, x2 =>
    if x2 < (12 : Int) then (op_Form k x2).bind fun t6 =>
    if t6.1 = p0 then some (x2)
    else (op_Kind_l1 k p0 j) (w64 (x2 + (1 : Int)))
    else op_Kind_c0 k
def op_Kind (k : Nat) (p0 : ByteArray) : Option Int :=
  op_Kind_l1 k p0 k (1 : Int)
theorem op_Kind_spec {k : Nat} {p0 : ByteArray} {r : Int} (h : op_Kind k p0 = some r) : Spec Try.prog 48 [(eStr p0)] (eI64 r) := by
  rw [op_Kind.eq_1] at h
  refine Spec.intro (res := [.tmp 2]) Try.func48 rfl rfl rfl (Nat.le_of_ble_eq_true rfl) ?_
  refine AW.seq ?_
  refine AW.reg ?_
  refine AO.calm rfl 2 rfl (by decide) (eI64 (0 : Int)) (Calm.assign rfl rfl) ?_
  refine AO.nil (ρ' := [(0, (eStr p0))]) (H' := []) ⟨rfl, trivial⟩ (Sub.refl _) ?_
  refine AW.seq_mid (fun ρ H => ρ = [] ∧ H = [] ∧ op_Kind_c0 k = some r) ?_ ?_
  · refine AW.seq ?_
    refine AW.reg ?_
    refine AO.calm rfl 3 rfl (by decide) (eI64 (1 : Int)) (Calm.assign rfl rfl) ?_
    refine AO.nil (ρ' := [(0, (eStr p0)), (3, (eI64 (1 : Int)))]) (H' := []) ⟨rfl, rfl, trivial⟩ (Sub.refl _) ?_
    refine AW.block ?_
    refine AW.weak (ρ' := [(0, (eStr p0)), (3, (eI64 (1 : Int)))]) (H' := []) ⟨rfl, rfl, trivial⟩ (Sub.refl _) ?_
    refine AW.loop (fun kq ρ H => ∃ (x2 : Int), ρ = [(0, (eStr p0)), (3, (eI64 x2))] ∧ H = [] ∧ op_Kind_l1 k p0 kq x2 = some r) k ⟨(1 : Int), rfl, rfl, h⟩ ?_
    rintro kq4 _ _ ⟨x2, rfl, rfl, h⟩
    cases kq4 with
    | zero => rw [op_Kind_l1.eq_1] at h; cases h
    | succ kq4 =>
    rw [op_Kind_l1.eq_2] at h
    generalize hrec3 : op_Kind_l1 k p0 kq4 = rec3 at h
    refine AW.seq ?_
    refine AW.seq ?_
    refine AW.reg ?_
    refine AO.calm rfl 7 rfl (by decide) (eI64 x2) (Calm.move rfl rfl) ?_
    refine AO.calm rfl 8 rfl (by decide) (eBool (decide (x2 < (12 : Int)))) (Calm.int rfl rfl rfl rfl) ?_
    refine AO.nil (ρ' := [(0, (eStr p0)), (3, (eI64 x2)), (8, (eBool (decide (x2 < (12 : Int)))))]) (H' := []) ⟨rfl, rfl, rfl, trivial⟩ (Sub.refl _) ?_
    by_cases hc5 : x2 < (12 : Int)
    · have h := (if_pos hc5).symm.trans h
      refine AW.condP (x2 < (12 : Int)) rfl hc5 ?_
      refine AW.skip (ρ' := [(0, (eStr p0)), (3, (eI64 x2))]) (H' := []) ⟨rfl, rfl, trivial⟩ (Sub.refl _) ?_
      refine AW.seq ?_
      refine AW.block ?_
      refine AW.seq ?_
      refine AW.reg ?_
      refine AO.calm rfl 12 rfl (by decide) (eI64 x2) (Calm.move rfl rfl) ?_
      obtain ⟨t6, et6, h⟩ := of_bind h
      refine AO.callS [(eI64 x2)] (.tup [(eStr t6.1), (eBool t6.2.1), (eBool t6.2.2)]) 13 rfl (by decide) ok40 rfl rfl rfl ⟨rfl, rfl, trivial⟩ (op_Form_spec et6) ?_
      refine AO.calm rfl 11 rfl (by decide) (.tup [(eStr t6.1), (eBool t6.2.1), (eBool t6.2.2)]) (Calm.move rfl rfl) ?_
      refine AO.calm rfl 14 rfl (by decide) (eStr t6.1) (Calm.extract rfl rfl rfl) ?_
      refine AO.calm rfl 15 rfl (by decide) (eBool t6.2.1) (Calm.extract rfl rfl rfl) ?_
      refine AO.calm rfl 16 rfl (by decide) (eBool t6.2.2) (Calm.extract rfl rfl rfl) ?_
      refine AO.calm rfl 4 rfl (by decide) (eStr t6.1) (Calm.assign rfl rfl) ?_
      refine AO.calm rfl 5 rfl (by decide) (eBool t6.2.1) (Calm.assign rfl rfl) ?_
      refine AO.calm rfl 6 rfl (by decide) (eBool t6.2.2) (Calm.assign rfl rfl) ?_
      refine AO.nil (ρ' := [(0, (eStr p0)), (3, (eI64 x2)), (4, (eStr t6.1))]) (H' := []) ⟨rfl, rfl, rfl, trivial⟩ (Sub.refl _) ?_
      refine AW.seq ?_
      refine AW.reg ?_
      refine AO.calm rfl 17 rfl (by decide) (eStr t6.1) (Calm.move rfl rfl) ?_
      refine AO.calm rfl 18 rfl (by decide) (eStr p0) (Calm.move rfl rfl) ?_
      refine AO.calm rfl 19 rfl (by decide) (eBool (decide (t6.1 = p0))) (Calm.str rfl rfl rfl rfl) ?_
      refine AO.nil (ρ' := [(0, (eStr p0)), (3, (eI64 x2)), (19, (eBool (decide (t6.1 = p0))))]) (H' := []) ⟨rfl, rfl, rfl, trivial⟩ (Sub.refl _) ?_
      by_cases hc7 : t6.1 = p0
      · have h := (if_pos hc7).symm.trans h
        refine AW.condP (t6.1 = p0) rfl hc7 ?_
        refine AW.seq ?_
        refine AW.reg ?_
        refine AO.calm rfl 20 rfl (by decide) (eI64 x2) (Calm.move rfl rfl) ?_
        refine AO.calm rfl 2 rfl (by decide) (eI64 x2) (Calm.assign rfl rfl) ?_
        refine AO.nil (ρ' := [(2, (eI64 x2))]) (H' := []) ⟨rfl, trivial⟩ (Sub.refl _) ?_
        refine AW.ret (ρ' := [(2, (eI64 x2))]) (H' := []) ⟨rfl, trivial⟩ (Sub.refl _) ?_
        have hr := Option.some.inj h
        subst hr
        exact ⟨[(eI64 x2)], ⟨rfl, rfl, trivial⟩, rfl⟩
      · have h := (if_neg hc7).symm.trans h
        refine AW.condN (t6.1 = p0) rfl hc7 ?_
        refine AW.skip (ρ' := [(0, (eStr p0)), (3, (eI64 x2))]) (H' := []) ⟨rfl, rfl, trivial⟩ (Sub.refl _) ?_
        refine AW.reg ?_
        refine AO.calm rfl 9 rfl (by decide) (eI64 x2) (Calm.move rfl rfl) ?_
        refine AO.calm rfl 10 rfl (by decide) (eI64 (w64 (x2 + (1 : Int)))) (Calm.int rfl rfl rfl rfl) ?_
        refine AO.calm rfl 3 rfl (by decide) (eI64 (w64 (x2 + (1 : Int)))) (Calm.assign rfl rfl) ?_
        refine AO.nil (ρ' := [(0, (eStr p0)), (3, (eI64 (w64 (x2 + (1 : Int)))))]) (H' := []) ⟨rfl, rfl, trivial⟩ (Sub.refl _) ?_
        exact ⟨kq4, Nat.lt_succ_self _, (w64 (x2 + (1 : Int))), rfl, rfl, by rw [hrec3]; exact h⟩
    · have h := (if_neg hc5).symm.trans h
      refine AW.condN (x2 < (12 : Int)) rfl hc5 ?_
      refine AW.exit (ρ' := []) (H' := []) trivial (Sub.refl _) ?_
      exact ⟨rfl, rfl, h⟩
  · rintro _ _ ⟨rfl, rfl, h⟩
    rw [op_Kind_c0.eq_1] at h
    refine AW.seq ?_
    refine AW.reg ?_
    refine AO.calm rfl 2 rfl (by decide) (eI64 (0 : Int)) (Calm.assign rfl rfl) ?_
    refine AO.nil (ρ' := [(2, (eI64 (0 : Int)))]) (H' := []) ⟨rfl, trivial⟩ (Sub.refl _) ?_
    refine AW.ret (ρ' := [(2, (eI64 (0 : Int)))]) (H' := []) ⟨rfl, trivial⟩ (Sub.refl _) ?_
    have hr := Option.some.inj h
    subst hr
    exact ⟨[(eI64 (0 : Int))], ⟨rfl, rfl, trivial⟩, rfl⟩
end Go.Avl.T2
/- internal/stringslite.TrimPrefix; printed by avmain.py. -/
namespace Go.Avl.T2
open Go Go.RowKit Go.Proofs Go.Avl
set_option linter.unusedVariables false
set_option maxRecDepth 100000
set_option maxHeartbeats 4000000
attribute [local irreducible] AW AO AQ Spec SpecH Calm

def internal_stringslite_TrimPrefix (k : Nat) (p0 : ByteArray) (p1 : ByteArray) : Option ByteArray :=
  (internal_stringslite_HasPrefix k p0 p1).bind fun t3 =>
  if t3 = true then if 0 ≤ (p1.size : Int) ∧ (p1.size : Int) ≤ (p0.size : Int) ∧ (p0.size : Int) ≤ (p0.size : Int) then some ((p0.extract (p1.size : Int).toNat (p0.size : Int).toNat))
  else none
  else some (p0)
theorem internal_stringslite_TrimPrefix_spec {k : Nat} {p0 : ByteArray} {p1 : ByteArray} {r : ByteArray} (h : internal_stringslite_TrimPrefix k p0 p1 = some r) : Spec Try.prog 88 [(eStr p0), (eStr p1)] (eStr r) := by
  rw [internal_stringslite_TrimPrefix.eq_1] at h
  refine Spec.intro (res := [.tmp 4]) Try.func88 rfl rfl rfl (Nat.le_of_ble_eq_true rfl) ?_
  refine AW.seq ?_
  refine AW.reg ?_
  refine AO.calm rfl 4 rfl (by decide) (eStr (ByteArray.mk #[])) (Calm.assign rfl rfl) ?_
  refine AO.nil (ρ' := [(0, (eStr p0)), (1, (eStr p1))]) (H' := []) ⟨rfl, rfl, trivial⟩ (Sub.refl _) ?_
  refine AW.seq ?_
  refine AW.seq ?_
  refine AW.reg ?_
  refine AO.calm rfl 5 rfl (by decide) (eStr p0) (Calm.move rfl rfl) ?_
  refine AO.calm rfl 6 rfl (by decide) (eStr p1) (Calm.move rfl rfl) ?_
  obtain ⟨t3, et3, h⟩ := of_bind h
  refine AO.callS [(eStr p0), (eStr p1)] (eBool t3) 7 rfl (by decide) ok94 rfl rfl rfl ⟨rfl, rfl, rfl, rfl, trivial⟩ (internal_stringslite_HasPrefix_spec et3) ?_
  refine AO.nil (ρ' := [(0, (eStr p0)), (1, (eStr p1)), (7, (eBool t3))]) (H' := []) ⟨rfl, rfl, rfl, trivial⟩ (Sub.refl _) ?_
  by_cases hc4 : t3 = true
  · have h := (if_pos hc4).symm.trans h
    refine AW.condT' t3 rfl hc4 ?_
    refine AW.seq ?_
    refine AW.reg ?_
    refine AO.calm rfl 8 rfl (by decide) (eStr p0) (Calm.move rfl rfl) ?_
    refine AO.calm rfl 9 rfl (by decide) (eStr p1) (Calm.move rfl rfl) ?_
    refine AO.calm rfl 10 rfl (by decide) (eI64 (p1.size : Int)) (Calm.lenStr rfl rfl Try.underlying9) ?_
    obtain ⟨hg5, h⟩ := of_guard h
    refine AO.calm rfl 11 rfl (by decide) (eStr (p0.extract (p1.size : Int).toNat (p0.size : Int).toNat)) (Calm.sliceS rfl rfl rfl rfl hg5 Try.underlying9) ?_
    refine AO.calm rfl 4 rfl (by decide) (eStr (p0.extract (p1.size : Int).toNat (p0.size : Int).toNat)) (Calm.assign rfl rfl) ?_
    refine AO.nil (ρ' := [(4, (eStr (p0.extract (p1.size : Int).toNat (p0.size : Int).toNat)))]) (H' := []) ⟨rfl, trivial⟩ (Sub.refl _) ?_
    refine AW.ret (ρ' := [(4, (eStr (p0.extract (p1.size : Int).toNat (p0.size : Int).toNat)))]) (H' := []) ⟨rfl, trivial⟩ (Sub.refl _) ?_
    have hr := Option.some.inj h
    subst hr
    exact ⟨[(eStr (p0.extract (p1.size : Int).toNat (p0.size : Int).toNat))], ⟨rfl, rfl, trivial⟩, rfl⟩
  · have h := (if_neg hc4).symm.trans h
    refine AW.condF' t3 rfl hc4 ?_
    refine AW.skip (ρ' := [(0, (eStr p0))]) (H' := []) ⟨rfl, trivial⟩ (Sub.refl _) ?_
    refine AW.seq ?_
    refine AW.reg ?_
    refine AO.calm rfl 12 rfl (by decide) (eStr p0) (Calm.move rfl rfl) ?_
    refine AO.calm rfl 4 rfl (by decide) (eStr p0) (Calm.assign rfl rfl) ?_
    refine AO.nil (ρ' := [(4, (eStr p0))]) (H' := []) ⟨rfl, trivial⟩ (Sub.refl _) ?_
    refine AW.ret (ρ' := [(4, (eStr p0))]) (H' := []) ⟨rfl, trivial⟩ (Sub.refl _) ?_
    have hr := Option.some.inj h
    subst hr
    exact ⟨[(eStr p0)], ⟨rfl, rfl, trivial⟩, rfl⟩
end Go.Avl.T2
/- strings.TrimPrefix; printed by avmain.py. -/
namespace Go.Avl.T2
open Go Go.RowKit Go.Proofs Go.Avl
set_option linter.unusedVariables false
set_option maxRecDepth 100000
set_option maxHeartbeats 4000000
attribute [local irreducible] AW AO AQ Spec SpecH Calm

def strings_TrimPrefix (k : Nat) (p0 : ByteArray) (p1 : ByteArray) : Option ByteArray :=
  (internal_stringslite_TrimPrefix k p0 p1).bind fun t3 =>
  some (t3)
theorem strings_TrimPrefix_spec {k : Nat} {p0 : ByteArray} {p1 : ByteArray} {r : ByteArray} (h : strings_TrimPrefix k p0 p1 = some r) : Spec Try.prog 69 [(eStr p0), (eStr p1)] (eStr r) := by
  rw [strings_TrimPrefix.eq_1] at h
  refine Spec.intro (res := [.tmp 4]) Try.func69 rfl rfl rfl (Nat.le_of_ble_eq_true rfl) ?_
  refine AW.seq ?_
  refine AW.reg ?_
  refine AO.calm rfl 4 rfl (by decide) (eStr (ByteArray.mk #[])) (Calm.assign rfl rfl) ?_
  refine AO.nil (ρ' := [(0, (eStr p0)), (1, (eStr p1))]) (H' := []) ⟨rfl, rfl, trivial⟩ (Sub.refl _) ?_
  refine AW.seq ?_
  refine AW.reg ?_
  refine AO.calm rfl 5 rfl (by decide) (eStr p0) (Calm.move rfl rfl) ?_
  refine AO.calm rfl 6 rfl (by decide) (eStr p1) (Calm.move rfl rfl) ?_
  obtain ⟨t3, et3, h⟩ := of_bind h
  refine AO.callS [(eStr p0), (eStr p1)] (eStr t3) 7 rfl (by decide) ok88 rfl rfl rfl ⟨rfl, rfl, rfl, rfl, trivial⟩ (internal_stringslite_TrimPrefix_spec et3) ?_
  refine AO.calm rfl 4 rfl (by decide) (eStr t3) (Calm.assign rfl rfl) ?_
  refine AO.nil (ρ' := [(4, (eStr t3))]) (H' := []) ⟨rfl, trivial⟩ (Sub.refl _) ?_
  refine AW.ret (ρ' := [(4, (eStr t3))]) (H' := []) ⟨rfl, trivial⟩ (Sub.refl _) ?_
  have hr := Option.some.inj h
  subst hr
  exact ⟨[(eStr t3)], ⟨rfl, rfl, trivial⟩, rfl⟩
end Go.Avl.T2
/- (bosket/op.Op).Right; printed by avmain.py. -/
namespace Go.Avl.T2
open Go Go.RowKit Go.Proofs Go.Avl
set_option linter.unusedVariables false
set_option maxRecDepth 100000
set_option maxHeartbeats 4000000
attribute [local irreducible] AW AO AQ Spec SpecH Calm

def _op_Op_Right (k : Nat) (p0 : S55) : Option Bool :=
  (op_Form k p0.f0).bind fun t3 =>
  Option.bind (α := Bool) (if t3.1 ≠ (ByteArray.mk #[]) then if t3.2.1 = true then if t3.2.2 = true then some (decide ((p0.f2.size : Int) ≤ (65536 : Int)))
  else if p0.f1 = (0 : Int) then some (decide ((p0.f2.size : Int) ≤ (65536 : Int)))
  else some (false)
  else if p0.f2 = (ByteArray.mk #[]) then if t3.2.2 = true then some (decide ((p0.f2.size : Int) ≤ (65536 : Int)))
  else if p0.f1 = (0 : Int) then some (decide ((p0.f2.size : Int) ≤ (65536 : Int)))
  else some (false)
  else some (false)
  else some (false)) fun b4 =>
  some (b4)
theorem _op_Op_Right_spec {k : Nat} {p0 : S55} {r : Bool} (h : _op_Op_Right k p0 = some r) : Spec Try.prog 43 [(e55 p0)] (eBool r) := by
  rw [_op_Op_Right.eq_1] at h
  refine Spec.intro (res := [.tmp 2]) Try.func43 rfl rfl rfl (Nat.le_of_ble_eq_true rfl) ?_
  refine AW.seq ?_
  refine AW.reg ?_
  refine AO.box rfl 1 rfl (by decide) rfl rfl rfl fun n2 => ?_
  refine AO.calm rfl 2 rfl (by decide) (eBool false) (Calm.assign rfl rfl) ?_
  refine AO.nil (ρ' := [(1, (.ptr n2 0))]) (H' := [(n2, .mem (e55 p0))]) ⟨rfl, trivial⟩ (Sub.refl _) ?_
  refine AW.seq ?_
  refine AW.reg ?_
  refine AO.calm rfl 7 rfl (by decide) (.ptr n2 0) (Calm.fldPtr rfl rfl Try.underlying55 rfl sz3 _ rfl) ?_
  refine AO.calm rfl 8 rfl (by decide) (eI64 p0.f0) (Calm.load 0 rfl rfl rfl (At.cast (At.fld0 At.here) rfl) ag3 sz3) ?_
  obtain ⟨t3, et3, h⟩ := of_bind h
  refine AO.callS [(eI64 p0.f0)] (.tup [(eStr t3.1), (eBool t3.2.1), (eBool t3.2.2)]) 9 rfl (by decide) ok40 rfl rfl rfl ⟨rfl, rfl, trivial⟩ (op_Form_spec et3) ?_
  refine AO.calm rfl 6 rfl (by decide) (.tup [(eStr t3.1), (eBool t3.2.1), (eBool t3.2.2)]) (Calm.move rfl rfl) ?_
  refine AO.calm rfl 10 rfl (by decide) (eStr t3.1) (Calm.extract rfl rfl rfl) ?_
  refine AO.calm rfl 11 rfl (by decide) (eBool t3.2.1) (Calm.extract rfl rfl rfl) ?_
  refine AO.calm rfl 12 rfl (by decide) (eBool t3.2.2) (Calm.extract rfl rfl rfl) ?_
  refine AO.calm rfl 3 rfl (by decide) (eStr t3.1) (Calm.assign rfl rfl) ?_
  refine AO.calm rfl 4 rfl (by decide) (eBool t3.2.1) (Calm.assign rfl rfl) ?_
  refine AO.calm rfl 5 rfl (by decide) (eBool t3.2.2) (Calm.assign rfl rfl) ?_
  refine AO.nil (ρ' := [(1, (.ptr n2 0)), (3, (eStr t3.1)), (4, (eBool t3.2.1)), (5, (eBool t3.2.2))]) (H' := [(n2, .mem (e55 p0))]) ⟨rfl, rfl, rfl, rfl, trivial⟩ (Sub.refl _) ?_
  refine AW.seq ?_
  obtain ⟨b4, hq5, h⟩ := of_bind h
  refine AW.regM [(2, (eBool b4))] [] ?_ ?_
  · refine AO.calm rfl 13 rfl (by decide) (eStr t3.1) (Calm.move rfl rfl) ?_
    refine AO.calm rfl 14 rfl (by decide) (eBool (decide (t3.1 ≠ (ByteArray.mk #[])))) (Calm.str rfl rfl rfl rfl) ?_
    refine AO.calm rfl 15 rfl (by decide) (eBool (decide (t3.1 ≠ (ByteArray.mk #[])))) (Calm.move rfl rfl) ?_
    by_cases hc6 : t3.1 ≠ (ByteArray.mk #[])
    · have hq5 := (if_pos hc6).symm.trans hq5
      refine AO.calmG 2 true 15 rfl rfl (congrArg (fun b => some (AV.fl (Value.bool b))) (decide_eq_true hc6)) 16 rfl (by decide) (eBool t3.2.1) (Calm.move rfl rfl) ?_
      refine AO.calmG 2 true 15 rfl rfl (congrArg (fun b => some (AV.fl (Value.bool b))) (decide_eq_true hc6)) 17 rfl (by decide) (eBool t3.2.1) (Calm.move rfl rfl) ?_
      by_cases hc7 : t3.2.1 = true
      · have hq5 := (if_pos hc7).symm.trans hq5
        refine AO.skipG 4 true 17 rfl rfl (congrArg (fun b => some (AV.fl (Value.bool b))) hc7) 18 rfl (by decide) ?_
        refine AO.skipG 4 true 17 rfl rfl (congrArg (fun b => some (AV.fl (Value.bool b))) hc7) 19 rfl (by decide) ?_
        refine AO.skipG 4 true 17 rfl rfl (congrArg (fun b => some (AV.fl (Value.bool b))) hc7) 20 rfl (by decide) ?_
        refine AO.calmG 2 true 15 rfl rfl (congrArg (fun b => some (AV.fl (Value.bool b))) (decide_eq_true hc6)) 21 rfl (by decide) (eBool true) (Calm.pickT rfl (congrArg (fun b => some (AV.fl (Value.bool b))) hc7) rfl) ?_
        refine AO.calm rfl 22 rfl (by decide) (eBool true) (Calm.pickT rfl (congrArg (fun b => some (AV.fl (Value.bool b))) (decide_eq_true hc6)) rfl) ?_
        refine AO.calm rfl 23 rfl (by decide) (eBool true) (Calm.move rfl rfl) ?_
        refine AO.calmG 10 true 23 rfl rfl rfl 24 rfl (by decide) (eBool t3.2.2) (Calm.move rfl rfl) ?_
        refine AO.calmG 10 true 23 rfl rfl rfl 25 rfl (by decide) (eBool t3.2.2) (Calm.move rfl rfl) ?_
        by_cases hc8 : t3.2.2 = true
        · have hq5 := (if_pos hc8).symm.trans hq5
          refine AO.skipG 12 true 25 rfl rfl (congrArg (fun b => some (AV.fl (Value.bool b))) hc8) 26 rfl (by decide) ?_
          refine AO.skipG 12 true 25 rfl rfl (congrArg (fun b => some (AV.fl (Value.bool b))) hc8) 27 rfl (by decide) ?_
          refine AO.skipG 12 true 25 rfl rfl (congrArg (fun b => some (AV.fl (Value.bool b))) hc8) 28 rfl (by decide) ?_
          refine AO.calmG 10 true 23 rfl rfl rfl 29 rfl (by decide) (eBool true) (Calm.pickT rfl (congrArg (fun b => some (AV.fl (Value.bool b))) hc8) rfl) ?_
          refine AO.calm rfl 30 rfl (by decide) (eBool true) (Calm.pickT rfl rfl rfl) ?_
          refine AO.calm rfl 31 rfl (by decide) (eBool true) (Calm.move rfl rfl) ?_
          refine AO.calmG 18 true 31 rfl rfl rfl 32 rfl (by decide) (.ptr n2 2) (Calm.fldPtr rfl rfl Try.underlying55 rfl sz9 _ rfl) ?_
          refine AO.calmG 18 true 31 rfl rfl rfl 33 rfl (by decide) (eStr p0.f2) (Calm.load 0 rfl rfl rfl (At.cast (At.fldS (At.fldS (At.fld0 At.here))) rfl) ag9 sz9) ?_
          refine AO.calmG 18 true 31 rfl rfl rfl 34 rfl (by decide) (eI64 (p0.f2.size : Int)) (Calm.lenStr rfl rfl Try.underlying9) ?_
          refine AO.calmG 18 true 31 rfl rfl rfl 35 rfl (by decide) (eBool (decide ((p0.f2.size : Int) ≤ (65536 : Int)))) (Calm.int rfl rfl rfl rfl) ?_
          refine AO.calm rfl 36 rfl (by decide) (eBool (decide ((p0.f2.size : Int) ≤ (65536 : Int)))) (Calm.pickT rfl rfl rfl) ?_
          refine AO.calm rfl 2 rfl (by decide) (eBool (decide ((p0.f2.size : Int) ≤ (65536 : Int)))) (Calm.assign rfl rfl) ?_
          cases hq5
          refine AO.nilE ⟨rfl, rfl⟩ ?_ ?_
          · exact ⟨rfl, trivial⟩
          · exact (Sub.nil _)
        · have hq5 := (if_neg hc8).symm.trans hq5
          refine AO.calmG 12 false 25 rfl rfl (congrArg (fun b => some (AV.fl (Value.bool b))) (eq_false_of_ne_true hc8)) 26 rfl (by decide) (.ptr n2 1) (Calm.fldPtr rfl rfl Try.underlying55 rfl sz3 _ rfl) ?_
          refine AO.calmG 12 false 25 rfl rfl (congrArg (fun b => some (AV.fl (Value.bool b))) (eq_false_of_ne_true hc8)) 27 rfl (by decide) (eI64 p0.f1) (Calm.load 0 rfl rfl rfl (At.cast (At.fldS (At.fld0 At.here)) rfl) ag3 sz3) ?_
          refine AO.calmG 12 false 25 rfl rfl (congrArg (fun b => some (AV.fl (Value.bool b))) (eq_false_of_ne_true hc8)) 28 rfl (by decide) (eBool (decide (p0.f1 = (0 : Int)))) (Calm.int rfl rfl rfl rfl) ?_
          refine AO.calmG 10 true 23 rfl rfl rfl 29 rfl (by decide) (eBool (decide (p0.f1 = (0 : Int)))) (Calm.pickF rfl (congrArg (fun b => some (AV.fl (Value.bool b))) (eq_false_of_ne_true hc8)) rfl) ?_
          refine AO.calm rfl 30 rfl (by decide) (eBool (decide (p0.f1 = (0 : Int)))) (Calm.pickT rfl rfl rfl) ?_
          refine AO.calm rfl 31 rfl (by decide) (eBool (decide (p0.f1 = (0 : Int)))) (Calm.move rfl rfl) ?_
          by_cases hc9 : p0.f1 = (0 : Int)
          · have hq5 := (if_pos hc9).symm.trans hq5
            refine AO.calmG 18 true 31 rfl rfl (congrArg (fun b => some (AV.fl (Value.bool b))) (decide_eq_true hc9)) 32 rfl (by decide) (.ptr n2 2) (Calm.fldPtr rfl rfl Try.underlying55 rfl sz9 _ rfl) ?_
            refine AO.calmG 18 true 31 rfl rfl (congrArg (fun b => some (AV.fl (Value.bool b))) (decide_eq_true hc9)) 33 rfl (by decide) (eStr p0.f2) (Calm.load 0 rfl rfl rfl (At.cast (At.fldS (At.fldS (At.fld0 At.here))) rfl) ag9 sz9) ?_
            refine AO.calmG 18 true 31 rfl rfl (congrArg (fun b => some (AV.fl (Value.bool b))) (decide_eq_true hc9)) 34 rfl (by decide) (eI64 (p0.f2.size : Int)) (Calm.lenStr rfl rfl Try.underlying9) ?_
            refine AO.calmG 18 true 31 rfl rfl (congrArg (fun b => some (AV.fl (Value.bool b))) (decide_eq_true hc9)) 35 rfl (by decide) (eBool (decide ((p0.f2.size : Int) ≤ (65536 : Int)))) (Calm.int rfl rfl rfl rfl) ?_
            refine AO.calm rfl 36 rfl (by decide) (eBool (decide ((p0.f2.size : Int) ≤ (65536 : Int)))) (Calm.pickT rfl (congrArg (fun b => some (AV.fl (Value.bool b))) (decide_eq_true hc9)) rfl) ?_
            refine AO.calm rfl 2 rfl (by decide) (eBool (decide ((p0.f2.size : Int) ≤ (65536 : Int)))) (Calm.assign rfl rfl) ?_
            cases hq5
            refine AO.nilE ⟨rfl, rfl⟩ ?_ ?_
            · exact ⟨rfl, trivial⟩
            · exact (Sub.nil _)
          · have hq5 := (if_neg hc9).symm.trans hq5
            refine AO.skipG 18 false 31 rfl rfl (congrArg (fun b => some (AV.fl (Value.bool b))) (decide_eq_false hc9)) 32 rfl (by decide) ?_
            refine AO.skipG 18 false 31 rfl rfl (congrArg (fun b => some (AV.fl (Value.bool b))) (decide_eq_false hc9)) 33 rfl (by decide) ?_
            refine AO.skipG 18 false 31 rfl rfl (congrArg (fun b => some (AV.fl (Value.bool b))) (decide_eq_false hc9)) 34 rfl (by decide) ?_
            refine AO.skipG 18 false 31 rfl rfl (congrArg (fun b => some (AV.fl (Value.bool b))) (decide_eq_false hc9)) 35 rfl (by decide) ?_
            refine AO.calm rfl 36 rfl (by decide) (eBool false) (Calm.pickF rfl (congrArg (fun b => some (AV.fl (Value.bool b))) (decide_eq_false hc9)) rfl) ?_
            refine AO.calm rfl 2 rfl (by decide) (eBool false) (Calm.assign rfl rfl) ?_
            cases hq5
            refine AO.nilE ⟨rfl, rfl⟩ ?_ ?_
            · exact ⟨rfl, trivial⟩
            · exact (Sub.nil _)
      · have hq5 := (if_neg hc7).symm.trans hq5
        refine AO.calmG 4 false 17 rfl rfl (congrArg (fun b => some (AV.fl (Value.bool b))) (eq_false_of_ne_true hc7)) 18 rfl (by decide) (.ptr n2 2) (Calm.fldPtr rfl rfl Try.underlying55 rfl sz9 _ rfl) ?_
        refine AO.calmG 4 false 17 rfl rfl (congrArg (fun b => some (AV.fl (Value.bool b))) (eq_false_of_ne_true hc7)) 19 rfl (by decide) (eStr p0.f2) (Calm.load 0 rfl rfl rfl (At.cast (At.fldS (At.fldS (At.fld0 At.here))) rfl) ag9 sz9) ?_
        refine AO.calmG 4 false 17 rfl rfl (congrArg (fun b => some (AV.fl (Value.bool b))) (eq_false_of_ne_true hc7)) 20 rfl (by decide) (eBool (decide (p0.f2 = (ByteArray.mk #[])))) (Calm.str rfl rfl rfl rfl) ?_
        refine AO.calmG 2 true 15 rfl rfl (congrArg (fun b => some (AV.fl (Value.bool b))) (decide_eq_true hc6)) 21 rfl (by decide) (eBool (decide (p0.f2 = (ByteArray.mk #[])))) (Calm.pickF rfl (congrArg (fun b => some (AV.fl (Value.bool b))) (eq_false_of_ne_true hc7)) rfl) ?_
        refine AO.calm rfl 22 rfl (by decide) (eBool (decide (p0.f2 = (ByteArray.mk #[])))) (Calm.pickT rfl (congrArg (fun b => some (AV.fl (Value.bool b))) (decide_eq_true hc6)) rfl) ?_
        refine AO.calm rfl 23 rfl (by decide) (eBool (decide (p0.f2 = (ByteArray.mk #[])))) (Calm.move rfl rfl) ?_
        by_cases hc10 : p0.f2 = (ByteArray.mk #[])
        · have hq5 := (if_pos hc10).symm.trans hq5
          refine AO.calmG 10 true 23 rfl rfl (congrArg (fun b => some (AV.fl (Value.bool b))) (decide_eq_true hc10)) 24 rfl (by decide) (eBool t3.2.2) (Calm.move rfl rfl) ?_
          refine AO.calmG 10 true 23 rfl rfl (congrArg (fun b => some (AV.fl (Value.bool b))) (decide_eq_true hc10)) 25 rfl (by decide) (eBool t3.2.2) (Calm.move rfl rfl) ?_
          by_cases hc11 : t3.2.2 = true
          · have hq5 := (if_pos hc11).symm.trans hq5
            refine AO.skipG 12 true 25 rfl rfl (congrArg (fun b => some (AV.fl (Value.bool b))) hc11) 26 rfl (by decide) ?_
            refine AO.skipG 12 true 25 rfl rfl (congrArg (fun b => some (AV.fl (Value.bool b))) hc11) 27 rfl (by decide) ?_
            refine AO.skipG 12 true 25 rfl rfl (congrArg (fun b => some (AV.fl (Value.bool b))) hc11) 28 rfl (by decide) ?_
            refine AO.calmG 10 true 23 rfl rfl (congrArg (fun b => some (AV.fl (Value.bool b))) (decide_eq_true hc10)) 29 rfl (by decide) (eBool true) (Calm.pickT rfl (congrArg (fun b => some (AV.fl (Value.bool b))) hc11) rfl) ?_
            refine AO.calm rfl 30 rfl (by decide) (eBool true) (Calm.pickT rfl (congrArg (fun b => some (AV.fl (Value.bool b))) (decide_eq_true hc10)) rfl) ?_
            refine AO.calm rfl 31 rfl (by decide) (eBool true) (Calm.move rfl rfl) ?_
            refine AO.calmG 18 true 31 rfl rfl rfl 32 rfl (by decide) (.ptr n2 2) (Calm.fldPtr rfl rfl Try.underlying55 rfl sz9 _ rfl) ?_
            refine AO.calmG 18 true 31 rfl rfl rfl 33 rfl (by decide) (eStr p0.f2) (Calm.load 0 rfl rfl rfl (At.cast (At.fldS (At.fldS (At.fld0 At.here))) rfl) ag9 sz9) ?_
            refine AO.calmG 18 true 31 rfl rfl rfl 34 rfl (by decide) (eI64 (p0.f2.size : Int)) (Calm.lenStr rfl rfl Try.underlying9) ?_
            refine AO.calmG 18 true 31 rfl rfl rfl 35 rfl (by decide) (eBool (decide ((p0.f2.size : Int) ≤ (65536 : Int)))) (Calm.int rfl rfl rfl rfl) ?_
            refine AO.calm rfl 36 rfl (by decide) (eBool (decide ((p0.f2.size : Int) ≤ (65536 : Int)))) (Calm.pickT rfl rfl rfl) ?_
            refine AO.calm rfl 2 rfl (by decide) (eBool (decide ((p0.f2.size : Int) ≤ (65536 : Int)))) (Calm.assign rfl rfl) ?_
            cases hq5
            refine AO.nilE ⟨rfl, rfl⟩ ?_ ?_
            · exact ⟨rfl, trivial⟩
            · exact (Sub.nil _)
          · have hq5 := (if_neg hc11).symm.trans hq5
            refine AO.calmG 12 false 25 rfl rfl (congrArg (fun b => some (AV.fl (Value.bool b))) (eq_false_of_ne_true hc11)) 26 rfl (by decide) (.ptr n2 1) (Calm.fldPtr rfl rfl Try.underlying55 rfl sz3 _ rfl) ?_
            refine AO.calmG 12 false 25 rfl rfl (congrArg (fun b => some (AV.fl (Value.bool b))) (eq_false_of_ne_true hc11)) 27 rfl (by decide) (eI64 p0.f1) (Calm.load 0 rfl rfl rfl (At.cast (At.fldS (At.fld0 At.here)) rfl) ag3 sz3) ?_
            refine AO.calmG 12 false 25 rfl rfl (congrArg (fun b => some (AV.fl (Value.bool b))) (eq_false_of_ne_true hc11)) 28 rfl (by decide) (eBool (decide (p0.f1 = (0 : Int)))) (Calm.int rfl rfl rfl rfl) ?_
            refine AO.calmG 10 true 23 rfl rfl (congrArg (fun b => some (AV.fl (Value.bool b))) (decide_eq_true hc10)) 29 rfl (by decide) (eBool (decide (p0.f1 = (0 : Int)))) (Calm.pickF rfl (congrArg (fun b => some (AV.fl (Value.bool b))) (eq_false_of_ne_true hc11)) rfl) ?_
            refine AO.calm rfl 30 rfl (by decide) (eBool (decide (p0.f1 = (0 : Int)))) (Calm.pickT rfl (congrArg (fun b => some (AV.fl (Value.bool b))) (decide_eq_true hc10)) rfl) ?_
            refine AO.calm rfl 31 rfl (by decide) (eBool (decide (p0.f1 = (0 : Int)))) (Calm.move rfl rfl) ?_
            by_cases hc12 : p0.f1 = (0 : Int)
            · have hq5 := (if_pos hc12).symm.trans hq5
              refine AO.calmG 18 true 31 rfl rfl (congrArg (fun b => some (AV.fl (Value.bool b))) (decide_eq_true hc12)) 32 rfl (by decide) (.ptr n2 2) (Calm.fldPtr rfl rfl Try.underlying55 rfl sz9 _ rfl) ?_
              refine AO.calmG 18 true 31 rfl rfl (congrArg (fun b => some (AV.fl (Value.bool b))) (decide_eq_true hc12)) 33 rfl (by decide) (eStr p0.f2) (Calm.load 0 rfl rfl rfl (At.cast (At.fldS (At.fldS (At.fld0 At.here))) rfl) ag9 sz9) ?_
              refine AO.calmG 18 true 31 rfl rfl (congrArg (fun b => some (AV.fl (Value.bool b))) (decide_eq_true hc12)) 34 rfl (by decide) (eI64 (p0.f2.size : Int)) (Calm.lenStr rfl rfl Try.underlying9) ?_
              refine AO.calmG 18 true 31 rfl rfl (congrArg (fun b => some (AV.fl (Value.bool b))) (decide_eq_true hc12)) 35 rfl (by decide) (eBool (decide ((p0.f2.size : Int) ≤ (65536 : Int)))) (Calm.int rfl rfl rfl rfl) ?_
              refine AO.calm rfl 36 rfl (by decide) (eBool (decide ((p0.f2.size : Int) ≤ (65536 : Int)))) (Calm.pickT rfl (congrArg (fun b => some (AV.fl (Value.bool b))) (decide_eq_true hc12)) rfl) ?_
              refine AO.calm rfl 2 rfl (by decide) (eBool (decide ((p0.f2.size : Int) ≤ (65536 : Int)))) (Calm.assign rfl rfl) ?_
              cases hq5
              refine AO.nilE ⟨rfl, rfl⟩ ?_ ?_
              · exact ⟨rfl, trivial⟩
              · exact (Sub.nil _)
            · have hq5 := (if_neg hc12).symm.trans hq5
              refine AO.skipG 18 false 31 rfl rfl (congrArg (fun b => some (AV.fl (Value.bool b))) (decide_eq_false hc12)) 32 rfl (by decide) ?_
              refine AO.skipG 18 false 31 rfl rfl (congrArg (fun b => some (AV.fl (Value.bool b))) (decide_eq_false hc12)) 33 rfl (by decide) ?_
              refine AO.skipG 18 false 31 rfl rfl (congrArg (fun b => some (AV.fl (Value.bool b))) (decide_eq_false hc12)) 34 rfl (by decide) ?_
              refine AO.skipG 18 false 31 rfl rfl (congrArg (fun b => some (AV.fl (Value.bool b))) (decide_eq_false hc12)) 35 rfl (by decide) ?_
              refine AO.calm rfl 36 rfl (by decide) (eBool false) (Calm.pickF rfl (congrArg (fun b => some (AV.fl (Value.bool b))) (decide_eq_false hc12)) rfl) ?_
              refine AO.calm rfl 2 rfl (by decide) (eBool false) (Calm.assign rfl rfl) ?_
              cases hq5
              refine AO.nilE ⟨rfl, rfl⟩ ?_ ?_
              · exact ⟨rfl, trivial⟩
              · exact (Sub.nil _)
        · have hq5 := (if_neg hc10).symm.trans hq5
          refine AO.skipG 10 false 23 rfl rfl (congrArg (fun b => some (AV.fl (Value.bool b))) (decide_eq_false hc10)) 24 rfl (by decide) ?_
          refine AO.skipG 10 false 23 rfl rfl (congrArg (fun b => some (AV.fl (Value.bool b))) (decide_eq_false hc10)) 25 rfl (by decide) ?_
          refine AO.skipU 12 false 25 rfl rfl rfl 26 rfl (by decide) ?_
          refine AO.skipU 12 false 25 rfl rfl rfl 27 rfl (by decide) ?_
          refine AO.skipU 12 false 25 rfl rfl rfl 28 rfl (by decide) ?_
          refine AO.skipG 10 false 23 rfl rfl (congrArg (fun b => some (AV.fl (Value.bool b))) (decide_eq_false hc10)) 29 rfl (by decide) ?_
          refine AO.calm rfl 30 rfl (by decide) (eBool false) (Calm.pickF rfl (congrArg (fun b => some (AV.fl (Value.bool b))) (decide_eq_false hc10)) rfl) ?_
          refine AO.calm rfl 31 rfl (by decide) (eBool false) (Calm.move rfl rfl) ?_
          refine AO.skipG 18 false 31 rfl rfl rfl 32 rfl (by decide) ?_
          refine AO.skipG 18 false 31 rfl rfl rfl 33 rfl (by decide) ?_
          refine AO.skipG 18 false 31 rfl rfl rfl 34 rfl (by decide) ?_
          refine AO.skipG 18 false 31 rfl rfl rfl 35 rfl (by decide) ?_
          refine AO.calm rfl 36 rfl (by decide) (eBool false) (Calm.pickF rfl rfl rfl) ?_
          refine AO.calm rfl 2 rfl (by decide) (eBool false) (Calm.assign rfl rfl) ?_
          cases hq5
          refine AO.nilE ⟨rfl, rfl⟩ ?_ ?_
          · exact ⟨rfl, trivial⟩
          · exact (Sub.nil _)
    · have hq5 := (if_neg hc6).symm.trans hq5
      refine AO.skipG 2 false 15 rfl rfl (congrArg (fun b => some (AV.fl (Value.bool b))) (decide_eq_false hc6)) 16 rfl (by decide) ?_
      refine AO.skipG 2 false 15 rfl rfl (congrArg (fun b => some (AV.fl (Value.bool b))) (decide_eq_false hc6)) 17 rfl (by decide) ?_
      refine AO.skipU 4 false 17 rfl rfl rfl 18 rfl (by decide) ?_
      refine AO.skipU 4 false 17 rfl rfl rfl 19 rfl (by decide) ?_
      refine AO.skipU 4 false 17 rfl rfl rfl 20 rfl (by decide) ?_
      refine AO.skipG 2 false 15 rfl rfl (congrArg (fun b => some (AV.fl (Value.bool b))) (decide_eq_false hc6)) 21 rfl (by decide) ?_
      refine AO.calm rfl 22 rfl (by decide) (eBool false) (Calm.pickF rfl (congrArg (fun b => some (AV.fl (Value.bool b))) (decide_eq_false hc6)) rfl) ?_
      refine AO.calm rfl 23 rfl (by decide) (eBool false) (Calm.move rfl rfl) ?_
      refine AO.skipG 10 false 23 rfl rfl rfl 24 rfl (by decide) ?_
      refine AO.skipG 10 false 23 rfl rfl rfl 25 rfl (by decide) ?_
      refine AO.skipU 12 false 25 rfl rfl rfl 26 rfl (by decide) ?_
      refine AO.skipU 12 false 25 rfl rfl rfl 27 rfl (by decide) ?_
      refine AO.skipU 12 false 25 rfl rfl rfl 28 rfl (by decide) ?_
      refine AO.skipG 10 false 23 rfl rfl rfl 29 rfl (by decide) ?_
      refine AO.calm rfl 30 rfl (by decide) (eBool false) (Calm.pickF rfl rfl rfl) ?_
      refine AO.calm rfl 31 rfl (by decide) (eBool false) (Calm.move rfl rfl) ?_
      refine AO.skipG 18 false 31 rfl rfl rfl 32 rfl (by decide) ?_
      refine AO.skipG 18 false 31 rfl rfl rfl 33 rfl (by decide) ?_
      refine AO.skipG 18 false 31 rfl rfl rfl 34 rfl (by decide) ?_
      refine AO.skipG 18 false 31 rfl rfl rfl 35 rfl (by decide) ?_
      refine AO.calm rfl 36 rfl (by decide) (eBool false) (Calm.pickF rfl rfl rfl) ?_
      refine AO.calm rfl 2 rfl (by decide) (eBool false) (Calm.assign rfl rfl) ?_
      cases hq5
      refine AO.nilE ⟨rfl, rfl⟩ ?_ ?_
      · exact ⟨rfl, trivial⟩
      · exact (Sub.nil _)
  · refine AW.ret (ρ' := [(2, (eBool b4))]) (H' := []) ⟨rfl, trivial⟩ (Sub.refl _) ?_
    have hr := Option.some.inj h
    subst hr
    exact ⟨[(eBool b4)], ⟨rfl, rfl, trivial⟩, rfl⟩
end Go.Avl.T2
/- (bosket/op.Op).Line; printed by avmain.py. -/
namespace Go.Avl.T2
open Go Go.RowKit Go.Proofs Go.Avl
set_option linter.unusedVariables false
set_option maxRecDepth 100000
set_option maxHeartbeats 4000000
attribute [local irreducible] AW AO AQ Spec SpecH Calm

def _op_Op_Line_c0 (k : Nat) (x7 : ByteArray) : Option ByteArray :=
  some (x7)
def _op_Op_Line_c1 (k : Nat) (p0 : S55) (t5 : (ByteArray × Bool × Bool)) (x6 : ByteArray) : Option ByteArray :=
  if t5.2.2 = true then (spot_Digits k p0.f1).bind fun t9 =>
  if (ByteArray.mk #[32]).size + t9.size ≤ 9223372036854775807 then if x6.size + ((ByteArray.mk #[32]) ++ t9).size ≤ 9223372036854775807 then _op_Op_Line_c0 k (x6 ++ ((ByteArray.mk #[32]) ++ t9))
  else none
  else none
  else _op_Op_Line_c0 k x6
def _op_Op_Line (k : Nat) (p0 : S55) : Option ByteArray :=
  (_op_Op_Right k p0).bind fun t3 =>
  if (!t3) = true then some ((ByteArray.mk #[]))
  else (op_Form k p0.f0).bind fun t5 =>
  if t5.2.1 = true then (escape_Quote k p0.f2 (34 : Int)).bind fun t13 =>
  if (ByteArray.mk #[32]).size + t13.size ≤ 9223372036854775807 then if t5.1.size + ((ByteArray.mk #[32]) ++ t13).size ≤ 9223372036854775807 then _op_Op_Line_c1 k p0 t5 (t5.1 ++ ((ByteArray.mk #[32]) ++ t13))
  else none
  else none
  else _op_Op_Line_c1 k p0 t5 t5.1
theorem _op_Op_Line_spec {k : Nat} {p0 : S55} {r : ByteArray} (h : _op_Op_Line k p0 = some r) : Spec Try.prog 42 [(e55 p0)] (eStr r) := by
  rw [_op_Op_Line.eq_1] at h
  refine Spec.intro (res := [.tmp 2]) Try.func42 rfl rfl rfl (Nat.le_of_ble_eq_true rfl) ?_
  refine AW.seq ?_
  refine AW.reg ?_
  refine AO.box rfl 1 rfl (by decide) rfl rfl rfl fun n2 => ?_
  refine AO.calm rfl 2 rfl (by decide) (eStr (ByteArray.mk #[])) (Calm.assign rfl rfl) ?_
  refine AO.nil (ρ' := [(1, (.ptr n2 0))]) (H' := [(n2, .mem (e55 p0))]) ⟨rfl, trivial⟩ (Sub.refl _) ?_
  refine AW.seq ?_
  refine AW.seq ?_
  refine AW.reg ?_
  refine AO.calm rfl 6 rfl (by decide) (e55 p0) (Calm.load 0 rfl rfl rfl (At.cast At.here rfl) ag55 sz55) ?_
  obtain ⟨t3, et3, h⟩ := of_bind h
  refine AO.callS [(e55 p0)] (eBool t3) 7 rfl (by decide) ok43 rfl rfl rfl ⟨rfl, rfl, trivial⟩ (_op_Op_Right_spec et3) ?_
  refine AO.calm rfl 8 rfl (by decide) (eBool (!t3)) (Calm.not rfl rfl) ?_
  refine AO.nil (ρ' := [(1, (.ptr n2 0)), (8, (eBool (!t3)))]) (H' := [(n2, .mem (e55 p0))]) ⟨rfl, rfl, trivial⟩ (Sub.refl _) ?_
  by_cases hc4 : (!t3) = true
  · have h := (if_pos hc4).symm.trans h
    refine AW.condT' (!t3) rfl hc4 ?_
    refine AW.seq ?_
    refine AW.reg ?_
    refine AO.calm rfl 2 rfl (by decide) (eStr (ByteArray.mk #[])) (Calm.assign rfl rfl) ?_
    refine AO.nil (ρ' := [(2, (eStr (ByteArray.mk #[])))]) (H' := []) ⟨rfl, trivial⟩ (Sub.nil _) ?_
    refine AW.ret (ρ' := [(2, (eStr (ByteArray.mk #[])))]) (H' := []) ⟨rfl, trivial⟩ (Sub.refl _) ?_
    have hr := Option.some.inj h
    subst hr
    exact ⟨[(eStr (ByteArray.mk #[]))], ⟨rfl, rfl, trivial⟩, rfl⟩
  · have h := (if_neg hc4).symm.trans h
    refine AW.condF' (!t3) rfl hc4 ?_
    refine AW.skip (ρ' := [(1, (.ptr n2 0))]) (H' := [(n2, .mem (e55 p0))]) ⟨rfl, trivial⟩ (Sub.refl _) ?_
    refine AW.seq ?_
    refine AW.reg ?_
    refine AO.calm rfl 10 rfl (by decide) (.ptr n2 0) (Calm.fldPtr rfl rfl Try.underlying55 rfl sz3 _ rfl) ?_
    refine AO.calm rfl 11 rfl (by decide) (eI64 p0.f0) (Calm.load 0 rfl rfl rfl (At.cast (At.fld0 At.here) rfl) ag3 sz3) ?_
    obtain ⟨t5, et5, h⟩ := of_bind h
    refine AO.callS [(eI64 p0.f0)] (.tup [(eStr t5.1), (eBool t5.2.1), (eBool t5.2.2)]) 12 rfl (by decide) ok40 rfl rfl rfl ⟨rfl, rfl, trivial⟩ (op_Form_spec et5) ?_
    refine AO.calm rfl 9 rfl (by decide) (.tup [(eStr t5.1), (eBool t5.2.1), (eBool t5.2.2)]) (Calm.move rfl rfl) ?_
    refine AO.calm rfl 13 rfl (by decide) (eStr t5.1) (Calm.extract rfl rfl rfl) ?_
    refine AO.calm rfl 14 rfl (by decide) (eBool t5.2.1) (Calm.extract rfl rfl rfl) ?_
    refine AO.calm rfl 15 rfl (by decide) (eBool t5.2.2) (Calm.extract rfl rfl rfl) ?_
    refine AO.calm rfl 3 rfl (by decide) (eStr t5.1) (Calm.assign rfl rfl) ?_
    refine AO.calm rfl 4 rfl (by decide) (eBool t5.2.1) (Calm.assign rfl rfl) ?_
    refine AO.calm rfl 5 rfl (by decide) (eBool t5.2.2) (Calm.assign rfl rfl) ?_
    refine AO.nil (ρ' := [(1, (.ptr n2 0)), (3, (eStr t5.1)), (4, (eBool t5.2.1)), (5, (eBool t5.2.2))]) (H' := [(n2, .mem (e55 p0))]) ⟨rfl, rfl, rfl, rfl, trivial⟩ (Sub.refl _) ?_
    refine AW.seq_mid (fun ρ H => ∃ (x6 : ByteArray), ρ = [(1, (.ptr n2 0)), (3, (eStr x6)), (5, (eBool t5.2.2))] ∧ H = [(n2, .mem (e55 p0))] ∧ _op_Op_Line_c1 k p0 t5 x6 = some r) ?_ ?_
    · refine AW.seq ?_
      refine AW.reg ?_
      refine AO.calm rfl 16 rfl (by decide) (eBool t5.2.1) (Calm.move rfl rfl) ?_
      refine AO.nil (ρ' := [(1, (.ptr n2 0)), (3, (eStr t5.1)), (5, (eBool t5.2.2)), (16, (eBool t5.2.1))]) (H' := [(n2, .mem (e55 p0))]) ⟨rfl, rfl, rfl, rfl, trivial⟩ (Sub.refl _) ?_
      by_cases hc12 : t5.2.1 = true
      · have h := (if_pos hc12).symm.trans h
        refine AW.condT' t5.2.1 rfl hc12 ?_
        refine AW.reg ?_
        refine AO.calm rfl 17 rfl (by decide) (eStr t5.1) (Calm.move rfl rfl) ?_
        refine AO.calm rfl 18 rfl (by decide) (.ptr n2 2) (Calm.fldPtr rfl rfl Try.underlying55 rfl sz9 _ rfl) ?_
        refine AO.calm rfl 19 rfl (by decide) (eStr p0.f2) (Calm.load 0 rfl rfl rfl (At.cast (At.fldS (At.fldS (At.fld0 At.here))) rfl) ag9 sz9) ?_
        obtain ⟨t13, et13, h⟩ := of_bind h
        refine AO.callS [(eStr p0.f2), (eU8 (34 : Int))] (eStr t13) 20 rfl (by decide) ok60 rfl rfl rfl ⟨rfl, rfl, rfl, rfl, trivial⟩ (escape_Quote_spec et13) ?_
        obtain ⟨hg14, h⟩ := of_guard h
        refine AO.calm rfl 21 rfl (by decide) (eStr ((ByteArray.mk #[32]) ++ t13)) (Calm.cat rfl rfl rfl hg14) ?_
        obtain ⟨hg15, h⟩ := of_guard h
        refine AO.calm rfl 22 rfl (by decide) (eStr (t5.1 ++ ((ByteArray.mk #[32]) ++ t13))) (Calm.cat rfl rfl rfl hg15) ?_
        refine AO.calm rfl 3 rfl (by decide) (eStr (t5.1 ++ ((ByteArray.mk #[32]) ++ t13))) (Calm.assign rfl rfl) ?_
        refine AO.nil (ρ' := [(1, (.ptr n2 0)), (3, (eStr (t5.1 ++ ((ByteArray.mk #[32]) ++ t13)))), (5, (eBool t5.2.2))]) (H' := [(n2, .mem (e55 p0))]) ⟨rfl, rfl, rfl, trivial⟩ (Sub.refl _) ?_
        exact ⟨(t5.1 ++ ((ByteArray.mk #[32]) ++ t13)), rfl, rfl, h⟩
      · have h := (if_neg hc12).symm.trans h
        refine AW.condF' t5.2.1 rfl hc12 ?_
        refine AW.skip (ρ' := [(1, (.ptr n2 0)), (3, (eStr t5.1)), (5, (eBool t5.2.2))]) (H' := [(n2, .mem (e55 p0))]) ⟨rfl, rfl, rfl, trivial⟩ (Sub.refl _) ?_
        exact ⟨t5.1, rfl, rfl, h⟩
    · rintro _ _ ⟨x6, rfl, rfl, h⟩
      rw [_op_Op_Line_c1.eq_1] at h
      refine AW.seq_mid (fun ρ H => ∃ (x7 : ByteArray), ρ = [(3, (eStr x7))] ∧ H = [] ∧ _op_Op_Line_c0 k x7 = some r) ?_ ?_
      · refine AW.seq ?_
        refine AW.reg ?_
        refine AO.calm rfl 23 rfl (by decide) (eBool t5.2.2) (Calm.move rfl rfl) ?_
        refine AO.nil (ρ' := [(1, (.ptr n2 0)), (3, (eStr x6)), (23, (eBool t5.2.2))]) (H' := [(n2, .mem (e55 p0))]) ⟨rfl, rfl, rfl, trivial⟩ (Sub.refl _) ?_
        by_cases hc8 : t5.2.2 = true
        · have h := (if_pos hc8).symm.trans h
          refine AW.condT' t5.2.2 rfl hc8 ?_
          refine AW.reg ?_
          refine AO.calm rfl 24 rfl (by decide) (eStr x6) (Calm.move rfl rfl) ?_
          refine AO.calm rfl 25 rfl (by decide) (.ptr n2 1) (Calm.fldPtr rfl rfl Try.underlying55 rfl sz3 _ rfl) ?_
          refine AO.calm rfl 26 rfl (by decide) (eI64 p0.f1) (Calm.load 0 rfl rfl rfl (At.cast (At.fldS (At.fld0 At.here)) rfl) ag3 sz3) ?_
          obtain ⟨t9, et9, h⟩ := of_bind h
          refine AO.callS [(eI64 p0.f1)] (eStr t9) 27 rfl (by decide) ok18 rfl rfl rfl ⟨rfl, rfl, trivial⟩ (spot_Digits_spec et9) ?_
          obtain ⟨hg10, h⟩ := of_guard h
          refine AO.calm rfl 28 rfl (by decide) (eStr ((ByteArray.mk #[32]) ++ t9)) (Calm.cat rfl rfl rfl hg10) ?_
          obtain ⟨hg11, h⟩ := of_guard h
          refine AO.calm rfl 29 rfl (by decide) (eStr (x6 ++ ((ByteArray.mk #[32]) ++ t9))) (Calm.cat rfl rfl rfl hg11) ?_
          refine AO.calm rfl 3 rfl (by decide) (eStr (x6 ++ ((ByteArray.mk #[32]) ++ t9))) (Calm.assign rfl rfl) ?_
          refine AO.nil (ρ' := [(3, (eStr (x6 ++ ((ByteArray.mk #[32]) ++ t9))))]) (H' := []) ⟨rfl, trivial⟩ (Sub.nil _) ?_
          exact ⟨(x6 ++ ((ByteArray.mk #[32]) ++ t9)), rfl, rfl, h⟩
        · have h := (if_neg hc8).symm.trans h
          refine AW.condF' t5.2.2 rfl hc8 ?_
          refine AW.skip (ρ' := [(3, (eStr x6))]) (H' := []) ⟨rfl, trivial⟩ (Sub.nil _) ?_
          exact ⟨x6, rfl, rfl, h⟩
      · rintro _ _ ⟨x7, rfl, rfl, h⟩
        rw [_op_Op_Line_c0.eq_1] at h
        refine AW.seq ?_
        refine AW.reg ?_
        refine AO.calm rfl 30 rfl (by decide) (eStr x7) (Calm.move rfl rfl) ?_
        refine AO.calm rfl 2 rfl (by decide) (eStr x7) (Calm.assign rfl rfl) ?_
        refine AO.nil (ρ' := [(2, (eStr x7))]) (H' := []) ⟨rfl, trivial⟩ (Sub.refl _) ?_
        refine AW.ret (ρ' := [(2, (eStr x7))]) (H' := []) ⟨rfl, trivial⟩ (Sub.refl _) ?_
        have hr := Option.some.inj h
        subst hr
        exact ⟨[(eStr x7)], ⟨rfl, rfl, trivial⟩, rfl⟩
end Go.Avl.T2
