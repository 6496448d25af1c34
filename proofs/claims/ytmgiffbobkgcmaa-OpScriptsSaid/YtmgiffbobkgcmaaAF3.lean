/- Parts: T2f40, T2f41, T2f43, T2f42, T2f44, T2f46, T2f86, T2f67, T2f48, T2f88, T2f69, T2f47, T2f39, T2f45. -/
import Derived.Test.YtmgiffbobkgcmaaAF1
import Derived.Test.YtmgiffbobkgcmaaAF2
/- bosket/op.Form; printed by avmain.py. -/
namespace Go.Avl.T2
open Go Go.RowKit Go.Proofs Go.Avl
set_option linter.unusedVariables false
set_option maxRecDepth 100000
set_option maxHeartbeats 4000000
attribute [local irreducible] AW AO AQ Spec SpecH Calm

def op_Form_c0 (k : Nat) (p0 : Int) (b7 : Bool) (b8 : Bool) : Option (ByteArray × Bool × Bool) :=
  if 0 ≤ p0 ∧ p0 < (12 : Int) then (some (vget (vset (vset (vset (vset (vset (vset (vset (vset (vset (vset (vset (Vector.replicate 12 ByteArray.empty) (1 : Int) (ByteArray.mk #[117, 115, 101])) (2 : Int) (ByteArray.mk #[103, 114, 97, 109, 109, 97, 114])) (3 : Int) (ByteArray.mk #[108, 101, 120])) (4 : Int) (ByteArray.mk #[112, 97, 114, 115, 101])) (5 : Int) (ByteArray.mk #[112, 114, 105, 110, 116])) (6 : Int) (ByteArray.mk #[116, 105, 103, 104, 116])) (7 : Int) (ByteArray.mk #[102, 111, 114, 109, 97, 116])) (8 : Int) (ByteArray.mk #[110, 101, 120, 116])) (9 : Int) (ByteArray.mk #[116, 114, 101, 101, 115])) (10 : Int) (ByteArray.mk #[102, 101, 101, 100])) (11 : Int) (ByteArray.mk #[116, 97, 107, 101])) p0)).bind fun x10 =>
  some (x10, b7, b8)
  else none
def op_Form_c1 (k : Nat) (p0 : Int) : Option (ByteArray × Bool × Bool) :=
  op_Form_c0 k p0 false true
def op_Form_c2 (k : Nat) (p0 : Int) (b11 : Bool) : Option (ByteArray × Bool × Bool) :=
  op_Form_c0 k p0 true b11
def op_Form_c3 (k : Nat) (p0 : Int) : Option (ByteArray × Bool × Bool) :=
  op_Form_c2 k p0 true
def op_Form_c4 (k : Nat) (p0 : Int) (b16 : Bool) : Option (ByteArray × Bool × Bool) :=
  if b16 = true then op_Form_c1 k p0
  else op_Form_c0 k p0 false false
def op_Form_c5 (k : Nat) (p0 : Int) (b14 : Bool) : Option (ByteArray × Bool × Bool) :=
  if b14 = true then op_Form_c2 k p0 false
  else if p0 = (1 : Int) then op_Form_c4 k p0 (decide (p0 = (1 : Int)))
  else op_Form_c4 k p0 (decide (p0 = (10 : Int)))
def op_Form_c6 (k : Nat) (p0 : Int) (b12 : Bool) : Option (ByteArray × Bool × Bool) :=
  if b12 = true then op_Form_c3 k p0
  else if p0 = (2 : Int) then op_Form_c5 k p0 (decide (p0 = (2 : Int)))
  else if p0 = (3 : Int) then op_Form_c5 k p0 (decide (p0 = (3 : Int)))
  else if p0 = (4 : Int) then op_Form_c5 k p0 (decide (p0 = (4 : Int)))
  else if p0 = (6 : Int) then op_Form_c5 k p0 (decide (p0 = (6 : Int)))
  else if p0 = (8 : Int) then op_Form_c5 k p0 (decide (p0 = (8 : Int)))
  else op_Form_c5 k p0 (decide (p0 = (9 : Int)))
def op_Form (k : Nat) (p0 : Int) : Option (ByteArray × Bool × Bool) :=
  Option.bind (α := Bool) (if p0 < (1 : Int) then some (true)
  else some (decide ((12 : Int) ≤ p0))) fun b3 =>
  if b3 = true then some ((ByteArray.mk #[]), false, false)
  else if p0 = (5 : Int) then op_Form_c6 k p0 (decide (p0 = (5 : Int)))
  else op_Form_c6 k p0 (decide (p0 = (7 : Int)))
theorem op_Form_spec {k : Nat} {p0 : Int} {r : (ByteArray × Bool × Bool)} (h : op_Form k p0 = some r) : Spec Try.prog 40 [(eI64 p0)] (.tup [(eStr r.1), (eBool r.2.1), (eBool r.2.2)]) := by
  rw [op_Form.eq_1] at h
  refine Spec.intro (res := [.tmp 2, .tmp 3, .tmp 4]) Try.func40 rfl rfl rfl (Nat.le_of_ble_eq_true rfl) ?_
  refine AW.sr ?_
  refine AO.c (Calm.assign rfl rfl) ?_
  refine AO.c (Calm.assign rfl rfl) ?_
  refine AO.c (Calm.assign rfl rfl) ?_
  refine AO.nK [0] ?_
  refine AW.sr ?_
  refine AO.c (x := .ar 1 ((vset (vset (vset (vset (vset (vset (vset (vset (vset (vset (vset (Vector.replicate 12 ByteArray.empty) (1 : Int) (ByteArray.mk #[117, 115, 101])) (2 : Int) (ByteArray.mk #[103, 114, 97, 109, 109, 97, 114])) (3 : Int) (ByteArray.mk #[108, 101, 120])) (4 : Int) (ByteArray.mk #[112, 97, 114, 115, 101])) (5 : Int) (ByteArray.mk #[112, 114, 105, 110, 116])) (6 : Int) (ByteArray.mk #[116, 105, 103, 104, 116])) (7 : Int) (ByteArray.mk #[102, 111, 114, 109, 97, 116])) (8 : Int) (ByteArray.mk #[110, 101, 120, 116])) (9 : Int) (ByteArray.mk #[116, 114, 101, 101, 115])) (10 : Int) (ByteArray.mk #[102, 101, 101, 100])) (11 : Int) (ByteArray.mk #[116, 97, 107, 101])).toList.map eStr)) (Calm.buildAr (qs := [(1, (eStr (ByteArray.mk #[117, 115, 101]))), (2, (eStr (ByteArray.mk #[103, 114, 97, 109, 109, 97, 114]))), (3, (eStr (ByteArray.mk #[108, 101, 120]))), (4, (eStr (ByteArray.mk #[112, 97, 114, 115, 101]))), (5, (eStr (ByteArray.mk #[112, 114, 105, 110, 116]))), (6, (eStr (ByteArray.mk #[116, 105, 103, 104, 116]))), (7, (eStr (ByteArray.mk #[102, 111, 114, 109, 97, 116]))), (8, (eStr (ByteArray.mk #[110, 101, 120, 116]))), (9, (eStr (ByteArray.mk #[116, 114, 101, 101, 115]))), (10, (eStr (ByteArray.mk #[102, 101, 101, 100]))), (11, (eStr (ByteArray.mk #[116, 97, 107, 101])))]) rfl ⟨rfl, rfl, rfl, rfl, rfl, rfl, rfl, rfl, rfl, rfl, rfl, rfl, rfl, rfl, rfl, rfl, rfl, rfl, rfl, rfl, rfl, rfl, rfl, rfl, rfl, rfl, rfl, rfl, rfl, rfl, rfl, rfl, rfl, trivial⟩ Try.underlying94 sz9 zr94 lay94 (.cons rfl rfl rfl rfl (Put.cast (Put.vidx (1 : Int) (ByteArray.mk #[117, 115, 101]) (by decide) (by decide) Put.here) rfl) (.cons rfl rfl rfl rfl (Put.cast (Put.vidx (2 : Int) (ByteArray.mk #[103, 114, 97, 109, 109, 97, 114]) (by decide) (by decide) Put.here) rfl) (.cons rfl rfl rfl rfl (Put.cast (Put.vidx (3 : Int) (ByteArray.mk #[108, 101, 120]) (by decide) (by decide) Put.here) rfl) (.cons rfl rfl rfl rfl (Put.cast (Put.vidx (4 : Int) (ByteArray.mk #[112, 97, 114, 115, 101]) (by decide) (by decide) Put.here) rfl) (.cons rfl rfl rfl rfl (Put.cast (Put.vidx (5 : Int) (ByteArray.mk #[112, 114, 105, 110, 116]) (by decide) (by decide) Put.here) rfl) (.cons rfl rfl rfl rfl (Put.cast (Put.vidx (6 : Int) (ByteArray.mk #[116, 105, 103, 104, 116]) (by decide) (by decide) Put.here) rfl) (.cons rfl rfl rfl rfl (Put.cast (Put.vidx (7 : Int) (ByteArray.mk #[102, 111, 114, 109, 97, 116]) (by decide) (by decide) Put.here) rfl) (.cons rfl rfl rfl rfl (Put.cast (Put.vidx (8 : Int) (ByteArray.mk #[110, 101, 120, 116]) (by decide) (by decide) Put.here) rfl) (.cons rfl rfl rfl rfl (Put.cast (Put.vidx (9 : Int) (ByteArray.mk #[116, 114, 101, 101, 115]) (by decide) (by decide) Put.here) rfl) (.cons rfl rfl rfl rfl (Put.cast (Put.vidx (10 : Int) (ByteArray.mk #[102, 101, 101, 100]) (by decide) (by decide) Put.here) rfl) (.cons rfl rfl rfl rfl (Put.cast (Put.vidx (11 : Int) (ByteArray.mk #[116, 97, 107, 101]) (by decide) (by decide) Put.here) rfl) .nil))))))))))) rfl) ?_
  refine AO.alloc rfl 5 rfl (by decide) rfl zr94 lay94 fun n2 => ?_
  refine AO.store (X' := (.ar 1 ((vset (vset (vset (vset (vset (vset (vset (vset (vset (vset (vset (Vector.replicate 12 ByteArray.empty) (1 : Int) (ByteArray.mk #[117, 115, 101])) (2 : Int) (ByteArray.mk #[103, 114, 97, 109, 109, 97, 114])) (3 : Int) (ByteArray.mk #[108, 101, 120])) (4 : Int) (ByteArray.mk #[112, 97, 114, 115, 101])) (5 : Int) (ByteArray.mk #[112, 114, 105, 110, 116])) (6 : Int) (ByteArray.mk #[116, 105, 103, 104, 116])) (7 : Int) (ByteArray.mk #[102, 111, 114, 109, 97, 116])) (8 : Int) (ByteArray.mk #[110, 101, 120, 116])) (9 : Int) (ByteArray.mk #[116, 114, 101, 101, 115])) (10 : Int) (ByteArray.mk #[102, 101, 101, 100])) (11 : Int) (ByteArray.mk #[116, 97, 107, 101])).toList.map eStr))) 0 rfl rfl rfl rfl rfl rfl (Put.cast Put.here rfl) rfl (by simp [AV.size]) (by rw [sz94]; simp [AV.size]) rfl ?_
  refine AO.nK [0, 5] ?_
  refine AW.seq ?_
  refine AW.seq ?_
  obtain ⟨b3, hq4, h⟩ := of_bind h
  refine AW.regM [(0, (eI64 p0)), (5, (.ptr n2 0)), (14, (eBool b3))] [(n2, (.mem (.ar 1 ((vset (vset (vset (vset (vset (vset (vset (vset (vset (vset (vset (Vector.replicate 12 ByteArray.empty) (1 : Int) (ByteArray.mk #[117, 115, 101])) (2 : Int) (ByteArray.mk #[103, 114, 97, 109, 109, 97, 114])) (3 : Int) (ByteArray.mk #[108, 101, 120])) (4 : Int) (ByteArray.mk #[112, 97, 114, 115, 101])) (5 : Int) (ByteArray.mk #[112, 114, 105, 110, 116])) (6 : Int) (ByteArray.mk #[116, 105, 103, 104, 116])) (7 : Int) (ByteArray.mk #[102, 111, 114, 109, 97, 116])) (8 : Int) (ByteArray.mk #[110, 101, 120, 116])) (9 : Int) (ByteArray.mk #[116, 114, 101, 101, 115])) (10 : Int) (ByteArray.mk #[102, 101, 101, 100])) (11 : Int) (ByteArray.mk #[116, 97, 107, 101])).toList.map eStr))))] ?_ ?_
  ·refine AO.c (Calm.move rfl rfl) ?_
   refine AO.c (x := eBool (decide (p0 < (1 : Int)))) (Calm.int rfl rfl rfl rfl) ?_
   refine AO.c (Calm.move rfl rfl) ?_
   rcases of_ite hq4 with ⟨hc5, hq4⟩ | ⟨hc5, hq4⟩
   ·refine AO.sF rfl rfl (bD (decide_eq_true hc5)) ?_
    refine AO.sF rfl rfl (bD (decide_eq_true hc5)) ?_
    refine AO.c (Calm.pickT rfl (bD (decide_eq_true hc5)) rfl) ?_
    cases hq4
    refine AO.nilE ⟨rfl, rfl⟩ ?_ ?_
    · exact ⟨rfl, rfl, rfl, trivial⟩
    · exact (Sub.refl _)
   ·refine AO.cG rfl rfl (bD (decide_eq_false hc5)) (Calm.move rfl rfl) ?_
    refine AO.cG (x := eBool (decide ((12 : Int) ≤ p0))) rfl rfl (bD (decide_eq_false hc5)) (Calm.int rfl rfl rfl rfl) ?_
    refine AO.c (Calm.pickF rfl (bD (decide_eq_false hc5)) rfl) ?_
    cases hq4
    refine AO.nilE ⟨rfl, rfl⟩ ?_ ?_
    · exact ⟨rfl, rfl, rfl, trivial⟩
    · exact (Sub.refl _)
  ·rcases of_ite h with ⟨hc6, h⟩ | ⟨hc6, h⟩
   ·refine AW.condT' _ rfl hc6 ?_
    refine AW.sr ?_
    refine AO.c (Calm.assign rfl rfl) ?_
    refine AO.c (Calm.assign rfl rfl) ?_
    refine AO.c (Calm.assign rfl rfl) ?_
    refine AO.nH [2, 3, 4] (H' := []) (Sub.nil _) ?_
    refine AW.rK [2, 3, 4] ?_
    have hr := Option.some.inj h
    subst hr
    exact ⟨[(eStr (ByteArray.mk #[])), (eBool false), (eBool false)], ⟨rfl, rfl, rfl, rfl, rfl, rfl, trivial⟩, rfl⟩
   ·refine AW.condF' _ rfl hc6 ?_
    refine AW.sK [0, 5] ?_
    refine AW.sr ?_
    refine AO.c (Calm.assign rfl rfl) ?_
    refine AO.c (Calm.assign rfl rfl) ?_
    refine AO.nK [0, 5, 6, 7] ?_
    refine AW.seq_mid (fun ρ H => ∃ (b7 : Bool) (b8 : Bool), ρ = [(0, (eI64 p0)), (5, (.ptr n2 0)), (6, (eBool b7)), (7, (eBool b8))] ∧ H = [(n2, (.mem (.ar 1 ((vset (vset (vset (vset (vset (vset (vset (vset (vset (vset (vset (Vector.replicate 12 ByteArray.empty) (1 : Int) (ByteArray.mk #[117, 115, 101])) (2 : Int) (ByteArray.mk #[103, 114, 97, 109, 109, 97, 114])) (3 : Int) (ByteArray.mk #[108, 101, 120])) (4 : Int) (ByteArray.mk #[112, 97, 114, 115, 101])) (5 : Int) (ByteArray.mk #[112, 114, 105, 110, 116])) (6 : Int) (ByteArray.mk #[116, 105, 103, 104, 116])) (7 : Int) (ByteArray.mk #[102, 111, 114, 109, 97, 116])) (8 : Int) (ByteArray.mk #[110, 101, 120, 116])) (9 : Int) (ByteArray.mk #[116, 114, 101, 101, 115])) (10 : Int) (ByteArray.mk #[102, 101, 101, 100])) (11 : Int) (ByteArray.mk #[116, 97, 107, 101])).toList.map eStr))))] ∧ op_Form_c0 k p0 b7 b8 = some r) ?_ ?_
    ·refine AW.sr ?_
     refine AO.c (Calm.move rfl rfl) ?_
     refine AO.nK [0, 5, 6, 7, 15] ?_
     refine AW.block ?_
     refine AW.seq_mid (fun ρ H => ρ = [(0, (eI64 p0)), (5, (.ptr n2 0)), (6, (eBool false))] ∧ H = [(n2, (.mem (.ar 1 ((vset (vset (vset (vset (vset (vset (vset (vset (vset (vset (vset (Vector.replicate 12 ByteArray.empty) (1 : Int) (ByteArray.mk #[117, 115, 101])) (2 : Int) (ByteArray.mk #[103, 114, 97, 109, 109, 97, 114])) (3 : Int) (ByteArray.mk #[108, 101, 120])) (4 : Int) (ByteArray.mk #[112, 97, 114, 115, 101])) (5 : Int) (ByteArray.mk #[112, 114, 105, 110, 116])) (6 : Int) (ByteArray.mk #[116, 105, 103, 104, 116])) (7 : Int) (ByteArray.mk #[102, 111, 114, 109, 97, 116])) (8 : Int) (ByteArray.mk #[110, 101, 120, 116])) (9 : Int) (ByteArray.mk #[116, 114, 101, 101, 115])) (10 : Int) (ByteArray.mk #[102, 101, 101, 100])) (11 : Int) (ByteArray.mk #[116, 97, 107, 101])).toList.map eStr))))] ∧ op_Form_c1 k p0 = some r) ?_ ?_
     ·refine AW.block ?_
      refine AW.seq_mid (fun ρ H => ∃ (b11 : Bool), ρ = [(0, (eI64 p0)), (5, (.ptr n2 0)), (7, (eBool b11))] ∧ H = [(n2, (.mem (.ar 1 ((vset (vset (vset (vset (vset (vset (vset (vset (vset (vset (vset (Vector.replicate 12 ByteArray.empty) (1 : Int) (ByteArray.mk #[117, 115, 101])) (2 : Int) (ByteArray.mk #[103, 114, 97, 109, 109, 97, 114])) (3 : Int) (ByteArray.mk #[108, 101, 120])) (4 : Int) (ByteArray.mk #[112, 97, 114, 115, 101])) (5 : Int) (ByteArray.mk #[112, 114, 105, 110, 116])) (6 : Int) (ByteArray.mk #[116, 105, 103, 104, 116])) (7 : Int) (ByteArray.mk #[102, 111, 114, 109, 97, 116])) (8 : Int) (ByteArray.mk #[110, 101, 120, 116])) (9 : Int) (ByteArray.mk #[116, 114, 101, 101, 115])) (10 : Int) (ByteArray.mk #[102, 101, 101, 100])) (11 : Int) (ByteArray.mk #[116, 97, 107, 101])).toList.map eStr))))] ∧ op_Form_c2 k p0 b11 = some r) ?_ ?_
      ·refine AW.block ?_
       refine AW.seq_mid (fun ρ H => ρ = [(0, (eI64 p0)), (5, (.ptr n2 0))] ∧ H = [(n2, (.mem (.ar 1 ((vset (vset (vset (vset (vset (vset (vset (vset (vset (vset (vset (Vector.replicate 12 ByteArray.empty) (1 : Int) (ByteArray.mk #[117, 115, 101])) (2 : Int) (ByteArray.mk #[103, 114, 97, 109, 109, 97, 114])) (3 : Int) (ByteArray.mk #[108, 101, 120])) (4 : Int) (ByteArray.mk #[112, 97, 114, 115, 101])) (5 : Int) (ByteArray.mk #[112, 114, 105, 110, 116])) (6 : Int) (ByteArray.mk #[116, 105, 103, 104, 116])) (7 : Int) (ByteArray.mk #[102, 111, 114, 109, 97, 116])) (8 : Int) (ByteArray.mk #[110, 101, 120, 116])) (9 : Int) (ByteArray.mk #[116, 114, 101, 101, 115])) (10 : Int) (ByteArray.mk #[102, 101, 101, 100])) (11 : Int) (ByteArray.mk #[116, 97, 107, 101])).toList.map eStr))))] ∧ op_Form_c3 k p0 = some r) ?_ ?_
       ·refine AW.block ?_
        refine AW.seq ?_
        refine AW.seq ?_
        refine AW.seq_mid (fun ρ H => ∃ (b12 : Bool), ρ = [(0, (eI64 p0)), (5, (.ptr n2 0)), (6, (eBool false)), (7, (eBool false)), (15, (eI64 p0)), (16, (eBool b12))] ∧ H = [(n2, (.mem (.ar 1 ((vset (vset (vset (vset (vset (vset (vset (vset (vset (vset (vset (Vector.replicate 12 ByteArray.empty) (1 : Int) (ByteArray.mk #[117, 115, 101])) (2 : Int) (ByteArray.mk #[103, 114, 97, 109, 109, 97, 114])) (3 : Int) (ByteArray.mk #[108, 101, 120])) (4 : Int) (ByteArray.mk #[112, 97, 114, 115, 101])) (5 : Int) (ByteArray.mk #[112, 114, 105, 110, 116])) (6 : Int) (ByteArray.mk #[116, 105, 103, 104, 116])) (7 : Int) (ByteArray.mk #[102, 111, 114, 109, 97, 116])) (8 : Int) (ByteArray.mk #[110, 101, 120, 116])) (9 : Int) (ByteArray.mk #[116, 114, 101, 101, 115])) (10 : Int) (ByteArray.mk #[102, 101, 101, 100])) (11 : Int) (ByteArray.mk #[116, 97, 107, 101])).toList.map eStr))))] ∧ op_Form_c6 k p0 b12 = some r) ?_ ?_
        ·refine AW.sr ?_
         refine AO.c (x := eBool (decide (p0 = (5 : Int)))) (Calm.int rfl rfl rfl rfl) ?_
         refine AO.c (Calm.assign rfl rfl) ?_
         refine AO.nK [0, 5, 6, 7, 15, 16] ?_
         rcases of_ite h with ⟨hc24, h⟩ | ⟨hc24, h⟩
         ·refine AW.condP _ rfl hc24 ?_
          refine AW.sK [0, 5, 6, 7, 15, 16] ?_
          exact ⟨decide (p0 = (5 : Int)), rfl, rfl, h⟩
         ·refine AW.condN _ rfl hc24 ?_
          refine AW.reg ?_
          refine AO.c (x := eBool (decide (p0 = (7 : Int)))) (Calm.int rfl rfl rfl rfl) ?_
          refine AO.c (Calm.assign rfl rfl) ?_
          refine AO.nK [0, 5, 6, 7, 15, 16] ?_
          exact ⟨decide (p0 = (7 : Int)), rfl, rfl, h⟩
        ·rintro _ _ ⟨b12, rfl, rfl, h⟩
         rw [op_Form_c6.eq_1] at h
         rcases of_ite h with ⟨hc13, h⟩ | ⟨hc13, h⟩
         ·refine AW.condT' _ rfl hc13 ?_
          refine AW.eK [0, 5] ?_
          exact ⟨rfl, rfl, h⟩
         ·refine AW.condF' _ rfl hc13 ?_
          refine AW.sK [0, 5, 6, 7, 15] ?_
          refine AW.seq ?_
          refine AW.seq_mid (fun ρ H => ∃ (b14 : Bool), ρ = [(0, (eI64 p0)), (5, (.ptr n2 0)), (6, (eBool false)), (7, (eBool false)), (15, (eI64 p0)), (19, (eBool b14))] ∧ H = [(n2, (.mem (.ar 1 ((vset (vset (vset (vset (vset (vset (vset (vset (vset (vset (vset (Vector.replicate 12 ByteArray.empty) (1 : Int) (ByteArray.mk #[117, 115, 101])) (2 : Int) (ByteArray.mk #[103, 114, 97, 109, 109, 97, 114])) (3 : Int) (ByteArray.mk #[108, 101, 120])) (4 : Int) (ByteArray.mk #[112, 97, 114, 115, 101])) (5 : Int) (ByteArray.mk #[112, 114, 105, 110, 116])) (6 : Int) (ByteArray.mk #[116, 105, 103, 104, 116])) (7 : Int) (ByteArray.mk #[102, 111, 114, 109, 97, 116])) (8 : Int) (ByteArray.mk #[110, 101, 120, 116])) (9 : Int) (ByteArray.mk #[116, 114, 101, 101, 115])) (10 : Int) (ByteArray.mk #[102, 101, 101, 100])) (11 : Int) (ByteArray.mk #[116, 97, 107, 101])).toList.map eStr))))] ∧ op_Form_c5 k p0 b14 = some r) ?_ ?_
          ·refine AW.sr ?_
           refine AO.c (x := eBool (decide (p0 = (2 : Int)))) (Calm.int rfl rfl rfl rfl) ?_
           refine AO.c (Calm.assign rfl rfl) ?_
           refine AO.nK [0, 5, 6, 7, 15, 19] ?_
           rcases of_ite h with ⟨hc19, h⟩ | ⟨hc19, h⟩
           ·refine AW.condP _ rfl hc19 ?_
            refine AW.sK [0, 5, 6, 7, 15, 19] ?_
            exact ⟨decide (p0 = (2 : Int)), rfl, rfl, h⟩
           ·refine AW.condN _ rfl hc19 ?_
            refine AW.sr ?_
            refine AO.c (x := eBool (decide (p0 = (3 : Int)))) (Calm.int rfl rfl rfl rfl) ?_
            refine AO.c (Calm.assign rfl rfl) ?_
            refine AO.nK [0, 5, 6, 7, 15, 19] ?_
            rcases of_ite h with ⟨hc20, h⟩ | ⟨hc20, h⟩
            ·refine AW.condP _ rfl hc20 ?_
             refine AW.sK [0, 5, 6, 7, 15, 19] ?_
             exact ⟨decide (p0 = (3 : Int)), rfl, rfl, h⟩
            ·refine AW.condN _ rfl hc20 ?_
             refine AW.sr ?_
             refine AO.c (x := eBool (decide (p0 = (4 : Int)))) (Calm.int rfl rfl rfl rfl) ?_
             refine AO.c (Calm.assign rfl rfl) ?_
             refine AO.nK [0, 5, 6, 7, 15, 19] ?_
             rcases of_ite h with ⟨hc21, h⟩ | ⟨hc21, h⟩
             ·refine AW.condP _ rfl hc21 ?_
              refine AW.sK [0, 5, 6, 7, 15, 19] ?_
              exact ⟨decide (p0 = (4 : Int)), rfl, rfl, h⟩
             ·refine AW.condN _ rfl hc21 ?_
              refine AW.sr ?_
              refine AO.c (x := eBool (decide (p0 = (6 : Int)))) (Calm.int rfl rfl rfl rfl) ?_
              refine AO.c (Calm.assign rfl rfl) ?_
              refine AO.nK [0, 5, 6, 7, 15, 19] ?_
              rcases of_ite h with ⟨hc22, h⟩ | ⟨hc22, h⟩
              ·refine AW.condP _ rfl hc22 ?_
               refine AW.sK [0, 5, 6, 7, 15, 19] ?_
               exact ⟨decide (p0 = (6 : Int)), rfl, rfl, h⟩
              ·refine AW.condN _ rfl hc22 ?_
               refine AW.sr ?_
               refine AO.c (x := eBool (decide (p0 = (8 : Int)))) (Calm.int rfl rfl rfl rfl) ?_
               refine AO.c (Calm.assign rfl rfl) ?_
               refine AO.nK [0, 5, 6, 7, 15, 19] ?_
               rcases of_ite h with ⟨hc23, h⟩ | ⟨hc23, h⟩
               ·refine AW.condP _ rfl hc23 ?_
                refine AW.sK [0, 5, 6, 7, 15, 19] ?_
                exact ⟨decide (p0 = (8 : Int)), rfl, rfl, h⟩
               ·refine AW.condN _ rfl hc23 ?_
                refine AW.reg ?_
                refine AO.c (x := eBool (decide (p0 = (9 : Int)))) (Calm.int rfl rfl rfl rfl) ?_
                refine AO.c (Calm.assign rfl rfl) ?_
                refine AO.nK [0, 5, 6, 7, 15, 19] ?_
                exact ⟨decide (p0 = (9 : Int)), rfl, rfl, h⟩
          ·rintro _ _ ⟨b14, rfl, rfl, h⟩
           rw [op_Form_c5.eq_1] at h
           rcases of_ite h with ⟨hc15, h⟩ | ⟨hc15, h⟩
           ·refine AW.condT' _ rfl hc15 ?_
            refine AW.eK [0, 5, 7] ?_
            exact ⟨false, rfl, rfl, h⟩
           ·refine AW.condF' _ rfl hc15 ?_
            refine AW.sK [0, 5, 6, 7, 15] ?_
            refine AW.seq_mid (fun ρ H => ∃ (b16 : Bool), ρ = [(0, (eI64 p0)), (5, (.ptr n2 0)), (6, (eBool false)), (7, (eBool false)), (26, (eBool b16))] ∧ H = [(n2, (.mem (.ar 1 ((vset (vset (vset (vset (vset (vset (vset (vset (vset (vset (vset (Vector.replicate 12 ByteArray.empty) (1 : Int) (ByteArray.mk #[117, 115, 101])) (2 : Int) (ByteArray.mk #[103, 114, 97, 109, 109, 97, 114])) (3 : Int) (ByteArray.mk #[108, 101, 120])) (4 : Int) (ByteArray.mk #[112, 97, 114, 115, 101])) (5 : Int) (ByteArray.mk #[112, 114, 105, 110, 116])) (6 : Int) (ByteArray.mk #[116, 105, 103, 104, 116])) (7 : Int) (ByteArray.mk #[102, 111, 114, 109, 97, 116])) (8 : Int) (ByteArray.mk #[110, 101, 120, 116])) (9 : Int) (ByteArray.mk #[116, 114, 101, 101, 115])) (10 : Int) (ByteArray.mk #[102, 101, 101, 100])) (11 : Int) (ByteArray.mk #[116, 97, 107, 101])).toList.map eStr))))] ∧ op_Form_c4 k p0 b16 = some r) ?_ ?_
            ·refine AW.sr ?_
             refine AO.c (x := eBool (decide (p0 = (1 : Int)))) (Calm.int rfl rfl rfl rfl) ?_
             refine AO.c (Calm.assign rfl rfl) ?_
             refine AO.nK [0, 5, 6, 7, 15, 26] ?_
             rcases of_ite h with ⟨hc18, h⟩ | ⟨hc18, h⟩
             ·refine AW.condP _ rfl hc18 ?_
              refine AW.sK [0, 5, 6, 7, 26] ?_
              exact ⟨decide (p0 = (1 : Int)), rfl, rfl, h⟩
             ·refine AW.condN _ rfl hc18 ?_
              refine AW.reg ?_
              refine AO.c (x := eBool (decide (p0 = (10 : Int)))) (Calm.int rfl rfl rfl rfl) ?_
              refine AO.c (Calm.assign rfl rfl) ?_
              refine AO.nK [0, 5, 6, 7, 26] ?_
              exact ⟨decide (p0 = (10 : Int)), rfl, rfl, h⟩
            ·rintro _ _ ⟨b16, rfl, rfl, h⟩
             rw [op_Form_c4.eq_1] at h
             rcases of_ite h with ⟨hc17, h⟩ | ⟨hc17, h⟩
             ·refine AW.condT' _ rfl hc17 ?_
              refine AW.eK [0, 5, 6] ?_
              exact ⟨rfl, rfl, h⟩
             ·refine AW.condF' _ rfl hc17 ?_
              refine AW.sK [0, 5, 6, 7] ?_
              refine AW.eK [0, 5, 6, 7] ?_
              exact ⟨false, false, rfl, rfl, h⟩
       ·rintro _ _ ⟨rfl, rfl, h⟩
        rw [op_Form_c3.eq_1] at h
        refine AW.reg ?_
        refine AO.c (Calm.assign rfl rfl) ?_
        refine AO.nK [0, 5, 7] ?_
        exact ⟨true, rfl, rfl, h⟩
      ·rintro _ _ ⟨b11, rfl, rfl, h⟩
       rw [op_Form_c2.eq_1] at h
       refine AW.sr ?_
       refine AO.c (Calm.assign rfl rfl) ?_
       refine AO.nK [0, 5, 6, 7] ?_
       refine AW.eK [0, 5, 6, 7] ?_
       exact ⟨true, b11, rfl, rfl, h⟩
     ·rintro _ _ ⟨rfl, rfl, h⟩
      rw [op_Form_c1.eq_1] at h
      refine AW.sr ?_
      refine AO.c (Calm.assign rfl rfl) ?_
      refine AO.nK [0, 5, 6, 7] ?_
      refine AW.eK [0, 5, 6, 7] ?_
      exact ⟨false, true, rfl, rfl, h⟩
    ·rintro _ _ ⟨b7, b8, rfl, rfl, h⟩
     rw [op_Form_c0.eq_1] at h
     refine AW.sr ?_
     refine AO.c (Calm.move rfl rfl) ?_
     obtain ⟨hg9, h⟩ := of_guard h
     refine AO.c (Calm.idxP rfl rfl rfl hg9 Try.underlying94 sz9) ?_
     refine AO.c (Calm.load 0 rfl rfl rfl (At.cast (At.vidx p0 hg9.1 hg9.2 At.here) (by omega)) ag9 sz9) ?_
     refine AO.c (Calm.move rfl rfl) ?_
     refine AO.c (Calm.move rfl rfl) ?_
     obtain ⟨x10, ex10, h⟩ := of_bind h
     refine AO.c (Calm.assign rfl (congrArg (fun x => some (eStr x)) (Option.some.inj ex10))) ?_
     refine AO.c (Calm.assign rfl rfl) ?_
     refine AO.c (Calm.assign rfl rfl) ?_
     refine AO.nH [2, 3, 4] (H' := []) (Sub.nil _) ?_
     refine AW.rK [2, 3, 4] ?_
     have hr := Option.some.inj h
     subst hr
     exact ⟨[(eStr x10), (eBool b7), (eBool b8)], ⟨rfl, rfl, rfl, rfl, rfl, rfl, trivial⟩, rfl⟩
end Go.Avl.T2
/- bosket/bosketref47.Form; printed by avmain.py. -/
namespace Go.Avl.T2
open Go Go.RowKit Go.Proofs Go.Avl
set_option linter.unusedVariables false
set_option maxRecDepth 100000
set_option maxHeartbeats 4000000
attribute [local irreducible] AW AO AQ Spec SpecH Calm

def bosketref47_Form (k : Nat) (p0 : Int) : Option (ByteArray × Bool × Bool) :=
  Option.bind (α := Bool) (if p0 < (1 : Int) then some (true)
  else some (decide ((11 : Int) < p0))) fun b2 =>
  if b2 = true then some ((ByteArray.mk #[]), false, false)
  else Option.bind (α := Bool) (if (2 : Int) ≤ p0 then some (decide (p0 ≤ (9 : Int)))
  else some (false)) fun b7 =>
  Option.bind (α := Bool) (if p0 = (1 : Int) then some (true)
  else if p0 = (5 : Int) then some (true)
  else if p0 = (7 : Int) then some (true)
  else some (decide (p0 = (10 : Int)))) fun b10 =>
  if 0 ≤ p0 ∧ p0 < (([(ByteArray.mk #[]), (ByteArray.mk #[117, 115, 101]), (ByteArray.mk #[103, 114, 97, 109, 109, 97, 114]), (ByteArray.mk #[108, 101, 120]), (ByteArray.mk #[112, 97, 114, 115, 101]), (ByteArray.mk #[112, 114, 105, 110, 116]), (ByteArray.mk #[116, 105, 103, 104, 116]), (ByteArray.mk #[102, 111, 114, 109, 97, 116]), (ByteArray.mk #[110, 101, 120, 116]), (ByteArray.mk #[116, 114, 101, 101, 115]), (ByteArray.mk #[102, 101, 101, 100]), (ByteArray.mk #[116, 97, 107, 101])] : List ByteArray).length : Int) then (some (lget ([(ByteArray.mk #[]), (ByteArray.mk #[117, 115, 101]), (ByteArray.mk #[103, 114, 97, 109, 109, 97, 114]), (ByteArray.mk #[108, 101, 120]), (ByteArray.mk #[112, 97, 114, 115, 101]), (ByteArray.mk #[112, 114, 105, 110, 116]), (ByteArray.mk #[116, 105, 103, 104, 116]), (ByteArray.mk #[102, 111, 114, 109, 97, 116]), (ByteArray.mk #[110, 101, 120, 116]), (ByteArray.mk #[116, 114, 101, 101, 115]), (ByteArray.mk #[102, 101, 101, 100]), (ByteArray.mk #[116, 97, 107, 101])] : List ByteArray) p0)).bind fun x16 =>
  some (x16, b7, b10)
  else none
theorem bosketref47_Form_spec {k : Nat} {p0 : Int} {r : (ByteArray × Bool × Bool)} (h : bosketref47_Form k p0 = some r) : Spec Try.prog 41 [(eI64 p0)] (.tup [(eStr r.1), (eBool r.2.1), (eBool r.2.2)]) := by
  rw [bosketref47_Form.eq_1] at h
  refine Spec.intro (res := [.tmp 2, .tmp 3, .tmp 4]) Try.func41 rfl rfl rfl (Nat.le_of_ble_eq_true rfl) ?_
  refine AW.sr ?_
  refine AO.c (Calm.assign rfl rfl) ?_
  refine AO.c (Calm.assign rfl rfl) ?_
  refine AO.c (Calm.assign rfl rfl) ?_
  refine AO.nK [0] ?_
  refine AW.seq ?_
  refine AW.seq ?_
  obtain ⟨b2, hq3, h⟩ := of_bind h
  refine AW.regM [(0, (eI64 p0)), (13, (eBool b2))] [] ?_ ?_
  ·refine AO.c (Calm.move rfl rfl) ?_
   refine AO.c (x := eBool (decide (p0 < (1 : Int)))) (Calm.int rfl rfl rfl rfl) ?_
   refine AO.c (Calm.move rfl rfl) ?_
   rcases of_ite hq3 with ⟨hc4, hq3⟩ | ⟨hc4, hq3⟩
   ·refine AO.sF rfl rfl (bD (decide_eq_true hc4)) ?_
    refine AO.sF rfl rfl (bD (decide_eq_true hc4)) ?_
    refine AO.c (Calm.pickT rfl (bD (decide_eq_true hc4)) rfl) ?_
    cases hq3
    refine AO.nilE ⟨rfl, rfl⟩ ?_ ?_
    · exact ⟨rfl, rfl, trivial⟩
    · exact (Sub.refl _)
   ·refine AO.cG rfl rfl (bD (decide_eq_false hc4)) (Calm.move rfl rfl) ?_
    refine AO.cG (x := eBool (decide ((11 : Int) < p0))) rfl rfl (bD (decide_eq_false hc4)) (Calm.int rfl rfl rfl rfl) ?_
    refine AO.c (Calm.pickF rfl (bD (decide_eq_false hc4)) rfl) ?_
    cases hq3
    refine AO.nilE ⟨rfl, rfl⟩ ?_ ?_
    · exact ⟨rfl, rfl, trivial⟩
    · exact (Sub.refl _)
  ·rcases of_ite h with ⟨hc5, h⟩ | ⟨hc5, h⟩
   ·refine AW.condT' _ rfl hc5 ?_
    refine AW.sr ?_
    refine AO.c (Calm.assign rfl rfl) ?_
    refine AO.c (Calm.assign rfl rfl) ?_
    refine AO.c (Calm.assign rfl rfl) ?_
    refine AO.nK [2, 3, 4] ?_
    refine AW.rK [2, 3, 4] ?_
    have hr := Option.some.inj h
    subst hr
    exact ⟨[(eStr (ByteArray.mk #[])), (eBool false), (eBool false)], ⟨rfl, rfl, rfl, rfl, rfl, rfl, trivial⟩, rfl⟩
   ·refine AW.condF' _ rfl hc5 ?_
    refine AW.sK [0] ?_
    refine AW.sr ?_
    refine AO.lit (Z := (eStr ByteArray.empty)) (xs := (([(ByteArray.mk #[]), (ByteArray.mk #[117, 115, 101]), (ByteArray.mk #[103, 114, 97, 109, 109, 97, 114]), (ByteArray.mk #[108, 101, 120]), (ByteArray.mk #[112, 97, 114, 115, 101]), (ByteArray.mk #[112, 114, 105, 110, 116]), (ByteArray.mk #[116, 105, 103, 104, 116]), (ByteArray.mk #[102, 111, 114, 109, 97, 116]), (ByteArray.mk #[110, 101, 120, 116]), (ByteArray.mk #[116, 114, 101, 101, 115]), (ByteArray.mk #[102, 101, 101, 100]), (ByteArray.mk #[116, 97, 107, 101])] : List ByteArray).map eStr)) (qs := [(0, (eStr (ByteArray.mk #[]))), (1, (eStr (ByteArray.mk #[117, 115, 101]))), (2, (eStr (ByteArray.mk #[103, 114, 97, 109, 109, 97, 114]))), (3, (eStr (ByteArray.mk #[108, 101, 120]))), (4, (eStr (ByteArray.mk #[112, 97, 114, 115, 101]))), (5, (eStr (ByteArray.mk #[112, 114, 105, 110, 116]))), (6, (eStr (ByteArray.mk #[116, 105, 103, 104, 116]))), (7, (eStr (ByteArray.mk #[102, 111, 114, 109, 97, 116]))), (8, (eStr (ByteArray.mk #[110, 101, 120, 116]))), (9, (eStr (ByteArray.mk #[116, 114, 101, 101, 115]))), (10, (eStr (ByteArray.mk #[102, 101, 101, 100]))), (11, (eStr (ByteArray.mk #[116, 97, 107, 101])))]) rfl 14 rfl (by decide) rfl ⟨rfl, rfl, rfl, rfl, rfl, rfl, rfl, rfl, rfl, rfl, rfl, rfl, rfl, rfl, rfl, rfl, rfl, rfl, rfl, rfl, rfl, rfl, rfl, rfl, rfl, rfl, rfl, rfl, rfl, rfl, rfl, rfl, rfl, rfl, rfl, rfl, trivial⟩ Try.underlying45 sz9 zr9 lay9 rfl (by decide) (litOK (z := 1) [(eStr (ByteArray.mk #[])), (eStr (ByteArray.mk #[117, 115, 101])), (eStr (ByteArray.mk #[103, 114, 97, 109, 109, 97, 114])), (eStr (ByteArray.mk #[108, 101, 120])), (eStr (ByteArray.mk #[112, 97, 114, 115, 101])), (eStr (ByteArray.mk #[112, 114, 105, 110, 116])), (eStr (ByteArray.mk #[116, 105, 103, 104, 116])), (eStr (ByteArray.mk #[102, 111, 114, 109, 97, 116])), (eStr (ByteArray.mk #[110, 101, 120, 116])), (eStr (ByteArray.mk #[116, 114, 101, 101, 115])), (eStr (ByteArray.mk #[102, 101, 101, 100])), (eStr (ByteArray.mk #[116, 97, 107, 101]))] rfl ⟨⟨rfl, rfl⟩, ⟨rfl, rfl⟩, ⟨rfl, rfl⟩, ⟨rfl, rfl⟩, ⟨rfl, rfl⟩, ⟨rfl, rfl⟩, ⟨rfl, rfl⟩, ⟨rfl, rfl⟩, ⟨rfl, rfl⟩, ⟨rfl, rfl⟩, ⟨rfl, rfl⟩, ⟨rfl, rfl⟩, trivial⟩) rfl fun n6 => ?_
    refine AO.c (Calm.assign rfl rfl) ?_
    refine AO.nK [0, 5] ?_
    refine AW.seq ?_
    obtain ⟨b7, hq8, h⟩ := of_bind h
    refine AW.regM [(0, (eI64 p0)), (5, (.own n6 0 ([(ByteArray.mk #[]), (ByteArray.mk #[117, 115, 101]), (ByteArray.mk #[103, 114, 97, 109, 109, 97, 114]), (ByteArray.mk #[108, 101, 120]), (ByteArray.mk #[112, 97, 114, 115, 101]), (ByteArray.mk #[112, 114, 105, 110, 116]), (ByteArray.mk #[116, 105, 103, 104, 116]), (ByteArray.mk #[102, 111, 114, 109, 97, 116]), (ByteArray.mk #[110, 101, 120, 116]), (ByteArray.mk #[116, 114, 101, 101, 115]), (ByteArray.mk #[102, 101, 101, 100]), (ByteArray.mk #[116, 97, 107, 101])] : List ByteArray).length)), (6, (eBool b7))] [(n6, (.mem (.ar 1 (([(ByteArray.mk #[]), (ByteArray.mk #[117, 115, 101]), (ByteArray.mk #[103, 114, 97, 109, 109, 97, 114]), (ByteArray.mk #[108, 101, 120]), (ByteArray.mk #[112, 97, 114, 115, 101]), (ByteArray.mk #[112, 114, 105, 110, 116]), (ByteArray.mk #[116, 105, 103, 104, 116]), (ByteArray.mk #[102, 111, 114, 109, 97, 116]), (ByteArray.mk #[110, 101, 120, 116]), (ByteArray.mk #[116, 114, 101, 101, 115]), (ByteArray.mk #[102, 101, 101, 100]), (ByteArray.mk #[116, 97, 107, 101])] : List ByteArray).map eStr))))] ?_ ?_
    ·refine AO.c (Calm.move rfl rfl) ?_
     refine AO.c (x := eBool (decide ((2 : Int) ≤ p0))) (Calm.int rfl rfl rfl rfl) ?_
     refine AO.c (Calm.move rfl rfl) ?_
     rcases of_ite hq8 with ⟨hc9, hq8⟩ | ⟨hc9, hq8⟩
     ·refine AO.cG rfl rfl (bD (decide_eq_true hc9)) (Calm.move rfl rfl) ?_
      refine AO.cG (x := eBool (decide (p0 ≤ (9 : Int)))) rfl rfl (bD (decide_eq_true hc9)) (Calm.int rfl rfl rfl rfl) ?_
      refine AO.c (Calm.pickT rfl (bD (decide_eq_true hc9)) rfl) ?_
      refine AO.c (Calm.assign rfl rfl) ?_
      cases hq8
      refine AO.nilE ⟨rfl, rfl⟩ ?_ ?_
      · exact ⟨rfl, rfl, rfl, trivial⟩
      · exact (Sub.refl _)
     ·refine AO.sT rfl rfl (bD (decide_eq_false hc9)) ?_
      refine AO.sT rfl rfl (bD (decide_eq_false hc9)) ?_
      refine AO.c (Calm.pickF rfl (bD (decide_eq_false hc9)) rfl) ?_
      refine AO.c (Calm.assign rfl rfl) ?_
      cases hq8
      refine AO.nilE ⟨rfl, rfl⟩ ?_ ?_
      · exact ⟨rfl, rfl, rfl, trivial⟩
      · exact (Sub.refl _)
    ·refine AW.seq ?_
     obtain ⟨b10, hq11, h⟩ := of_bind h
     refine AW.regM [(0, (eI64 p0)), (5, (.own n6 0 ([(ByteArray.mk #[]), (ByteArray.mk #[117, 115, 101]), (ByteArray.mk #[103, 114, 97, 109, 109, 97, 114]), (ByteArray.mk #[108, 101, 120]), (ByteArray.mk #[112, 97, 114, 115, 101]), (ByteArray.mk #[112, 114, 105, 110, 116]), (ByteArray.mk #[116, 105, 103, 104, 116]), (ByteArray.mk #[102, 111, 114, 109, 97, 116]), (ByteArray.mk #[110, 101, 120, 116]), (ByteArray.mk #[116, 114, 101, 101, 115]), (ByteArray.mk #[102, 101, 101, 100]), (ByteArray.mk #[116, 97, 107, 101])] : List ByteArray).length)), (6, (eBool b7)), (7, (eBool b10))] [(n6, (.mem (.ar 1 (([(ByteArray.mk #[]), (ByteArray.mk #[117, 115, 101]), (ByteArray.mk #[103, 114, 97, 109, 109, 97, 114]), (ByteArray.mk #[108, 101, 120]), (ByteArray.mk #[112, 97, 114, 115, 101]), (ByteArray.mk #[112, 114, 105, 110, 116]), (ByteArray.mk #[116, 105, 103, 104, 116]), (ByteArray.mk #[102, 111, 114, 109, 97, 116]), (ByteArray.mk #[110, 101, 120, 116]), (ByteArray.mk #[116, 114, 101, 101, 115]), (ByteArray.mk #[102, 101, 101, 100]), (ByteArray.mk #[116, 97, 107, 101])] : List ByteArray).map eStr))))] ?_ ?_
     ·refine AO.c (Calm.move rfl rfl) ?_
      refine AO.c (x := eBool (decide (p0 = (1 : Int)))) (Calm.int rfl rfl rfl rfl) ?_
      refine AO.c (Calm.move rfl rfl) ?_
      rcases of_ite hq11 with ⟨hc12, hq11⟩ | ⟨hc12, hq11⟩
      ·refine AO.sF rfl rfl (bD (decide_eq_true hc12)) ?_
       refine AO.sF rfl rfl (bD (decide_eq_true hc12)) ?_
       refine AO.c (Calm.pickT rfl (bD (decide_eq_true hc12)) rfl) ?_
       refine AO.c (Calm.move rfl rfl) ?_
       refine AO.sF rfl rfl rfl ?_
       refine AO.sF rfl rfl rfl ?_
       refine AO.c (Calm.pickT rfl rfl rfl) ?_
       refine AO.c (Calm.move rfl rfl) ?_
       refine AO.sF rfl rfl rfl ?_
       refine AO.sF rfl rfl rfl ?_
       refine AO.c (Calm.pickT rfl rfl rfl) ?_
       refine AO.c (Calm.assign rfl rfl) ?_
       cases hq11
       refine AO.nilE ⟨rfl, rfl⟩ ?_ ?_
       · exact ⟨rfl, rfl, rfl, rfl, trivial⟩
       · exact (Sub.refl _)
      ·refine AO.cG rfl rfl (bD (decide_eq_false hc12)) (Calm.move rfl rfl) ?_
       refine AO.cG (x := eBool (decide (p0 = (5 : Int)))) rfl rfl (bD (decide_eq_false hc12)) (Calm.int rfl rfl rfl rfl) ?_
       refine AO.c (Calm.pickF rfl (bD (decide_eq_false hc12)) rfl) ?_
       refine AO.c (Calm.move rfl rfl) ?_
       rcases of_ite hq11 with ⟨hc13, hq11⟩ | ⟨hc13, hq11⟩
       ·refine AO.sF rfl rfl (bD (decide_eq_true hc13)) ?_
        refine AO.sF rfl rfl (bD (decide_eq_true hc13)) ?_
        refine AO.c (Calm.pickT rfl (bD (decide_eq_true hc13)) rfl) ?_
        refine AO.c (Calm.move rfl rfl) ?_
        refine AO.sF rfl rfl rfl ?_
        refine AO.sF rfl rfl rfl ?_
        refine AO.c (Calm.pickT rfl rfl rfl) ?_
        refine AO.c (Calm.assign rfl rfl) ?_
        cases hq11
        refine AO.nilE ⟨rfl, rfl⟩ ?_ ?_
        · exact ⟨rfl, rfl, rfl, rfl, trivial⟩
        · exact (Sub.refl _)
       ·refine AO.cG rfl rfl (bD (decide_eq_false hc13)) (Calm.move rfl rfl) ?_
        refine AO.cG (x := eBool (decide (p0 = (7 : Int)))) rfl rfl (bD (decide_eq_false hc13)) (Calm.int rfl rfl rfl rfl) ?_
        refine AO.c (Calm.pickF rfl (bD (decide_eq_false hc13)) rfl) ?_
        refine AO.c (Calm.move rfl rfl) ?_
        rcases of_ite hq11 with ⟨hc14, hq11⟩ | ⟨hc14, hq11⟩
        ·refine AO.sF rfl rfl (bD (decide_eq_true hc14)) ?_
         refine AO.sF rfl rfl (bD (decide_eq_true hc14)) ?_
         refine AO.c (Calm.pickT rfl (bD (decide_eq_true hc14)) rfl) ?_
         refine AO.c (Calm.assign rfl rfl) ?_
         cases hq11
         refine AO.nilE ⟨rfl, rfl⟩ ?_ ?_
         · exact ⟨rfl, rfl, rfl, rfl, trivial⟩
         · exact (Sub.refl _)
        ·refine AO.cG rfl rfl (bD (decide_eq_false hc14)) (Calm.move rfl rfl) ?_
         refine AO.cG (x := eBool (decide (p0 = (10 : Int)))) rfl rfl (bD (decide_eq_false hc14)) (Calm.int rfl rfl rfl rfl) ?_
         refine AO.c (Calm.pickF rfl (bD (decide_eq_false hc14)) rfl) ?_
         refine AO.c (Calm.assign rfl rfl) ?_
         cases hq11
         refine AO.nilE ⟨rfl, rfl⟩ ?_ ?_
         · exact ⟨rfl, rfl, rfl, rfl, trivial⟩
         · exact (Sub.refl _)
     ·refine AW.sr ?_
      refine AO.c (Calm.move rfl rfl) ?_
      refine AO.c (Calm.move rfl rfl) ?_
      obtain ⟨hg15, h⟩ := of_guard h
      refine AO.c (Calm.idxO 0 rfl rfl rfl rfl hg15 Try.underlying45 sz9) ?_
      refine AO.c (Calm.load 0 rfl rfl rfl (At.cast (At.lidx p0 hg15.1 hg15.2 At.here) (by omega)) ag9 sz9) ?_
      refine AO.c (Calm.move rfl rfl) ?_
      refine AO.c (Calm.move rfl rfl) ?_
      obtain ⟨x16, ex16, h⟩ := of_bind h
      refine AO.c (Calm.assign rfl (congrArg (fun x => some (eStr x)) (Option.some.inj ex16))) ?_
      refine AO.c (Calm.assign rfl rfl) ?_
      refine AO.c (Calm.assign rfl rfl) ?_
      refine AO.nH [2, 3, 4] (H' := []) (Sub.nil _) ?_
      refine AW.rK [2, 3, 4] ?_
      have hr := Option.some.inj h
      subst hr
      exact ⟨[(eStr x16), (eBool b7), (eBool b10)], ⟨rfl, rfl, rfl, rfl, rfl, rfl, trivial⟩, rfl⟩
end Go.Avl.T2
/- (bosket/op.Op).Right; printed by avmain.py. -/
namespace Go.Avl.T2
open Go Go.RowKit Go.Proofs Go.Avl
set_option linter.unusedVariables false
set_option maxRecDepth 100000
set_option maxHeartbeats 4000000
attribute [local irreducible] AW AO AQ Spec SpecH Calm

def _op_Op_Right (k : Nat) (p0 : S55) : Option Bool :=
  (op_Form k p0.f0).bind fun t3 =>
  Option.bind (α := Bool) (if t3.1 ≠ (ByteArray.mk #[]) then if t3.2.1 = true then if t3.2.2 = true then some (decide ((p0.f2.size : Int) ≤ (65536 : Int)))
  else if p0.f1 = (0 : Int) then some (decide ((p0.f2.size : Int) ≤ (65536 : Int)))
  else some (false)
  else if p0.f2 = (ByteArray.mk #[]) then if t3.2.2 = true then some (decide ((p0.f2.size : Int) ≤ (65536 : Int)))
  else if p0.f1 = (0 : Int) then some (decide ((p0.f2.size : Int) ≤ (65536 : Int)))
  else some (false)
  else some (false)
  else some (false)) fun b4 =>
  some (b4)
theorem _op_Op_Right_spec {k : Nat} {p0 : S55} {r : Bool} (h : _op_Op_Right k p0 = some r) : Spec Try.prog 43 [(e55 p0)] (eBool r) := by
  rw [_op_Op_Right.eq_1] at h
  refine Spec.intro (res := [.tmp 2]) Try.func43 rfl rfl rfl (Nat.le_of_ble_eq_true rfl) ?_
  refine AW.sr ?_
  refine AO.box rfl 1 rfl (by decide) rfl rfl rfl fun n2 => ?_
  refine AO.c (Calm.assign rfl rfl) ?_
  refine AO.nK [1] ?_
  refine AW.sr ?_
  refine AO.c (x := .ptr n2 0) (Calm.fldPtr rfl rfl Try.underlying55 rfl sz3 _ rfl) ?_
  refine AO.c (Calm.load 0 rfl rfl rfl (At.cast (At.fld0 At.here) rfl) ag3 sz3) ?_
  obtain ⟨t3, et3, h⟩ := of_bind h
  refine AO.callS [(eI64 p0.f0)] (.tup [(eStr t3.1), (eBool t3.2.1), (eBool t3.2.2)]) 9 rfl (by decide) ok40 rfl rfl rfl ⟨rfl, rfl, trivial⟩ (op_Form_spec et3) ?_
  refine AO.c (Calm.move rfl rfl) ?_
  refine AO.c (Calm.extract rfl rfl rfl) ?_
  refine AO.c (Calm.extract rfl rfl rfl) ?_
  refine AO.c (Calm.extract rfl rfl rfl) ?_
  refine AO.c (Calm.assign rfl rfl) ?_
  refine AO.c (Calm.assign rfl rfl) ?_
  refine AO.c (Calm.assign rfl rfl) ?_
  refine AO.nK [1, 3, 4, 5] ?_
  refine AW.seq ?_
  obtain ⟨b4, hq5, h⟩ := of_bind h
  refine AW.regM [(2, (eBool b4))] [] ?_ ?_
  ·refine AO.c (Calm.move rfl rfl) ?_
   refine AO.c (x := eBool (decide (t3.1 ≠ (ByteArray.mk #[])))) (Calm.str rfl rfl rfl rfl) ?_
   refine AO.c (Calm.move rfl rfl) ?_
   rcases of_ite hq5 with ⟨hc6, hq5⟩ | ⟨hc6, hq5⟩
   ·refine AO.cG rfl rfl (bD (decide_eq_true hc6)) (Calm.move rfl rfl) ?_
    refine AO.cG rfl rfl (bD (decide_eq_true hc6)) (Calm.move rfl rfl) ?_
    rcases of_ite hq5 with ⟨hc7, hq5⟩ | ⟨hc7, hq5⟩
    ·refine AO.sF rfl rfl (bD hc7) ?_
     refine AO.sF rfl rfl (bD hc7) ?_
     refine AO.sF rfl rfl (bD hc7) ?_
     refine AO.cG rfl rfl (bD (decide_eq_true hc6)) (Calm.pickT rfl (bD hc7) rfl) ?_
     refine AO.c (Calm.pickT rfl (bD (decide_eq_true hc6)) rfl) ?_
     refine AO.c (Calm.move rfl rfl) ?_
     refine AO.cG rfl rfl rfl (Calm.move rfl rfl) ?_
     refine AO.cG rfl rfl rfl (Calm.move rfl rfl) ?_
     rcases of_ite hq5 with ⟨hc8, hq5⟩ | ⟨hc8, hq5⟩
     ·refine AO.sF rfl rfl (bD hc8) ?_
      refine AO.sF rfl rfl (bD hc8) ?_
      refine AO.sF rfl rfl (bD hc8) ?_
      refine AO.cG rfl rfl rfl (Calm.pickT rfl (bD hc8) rfl) ?_
      refine AO.c (Calm.pickT rfl rfl rfl) ?_
      refine AO.c (Calm.move rfl rfl) ?_
      refine AO.cG (x := .ptr n2 2) rfl rfl rfl (Calm.fldPtr rfl rfl Try.underlying55 rfl sz9 _ rfl) ?_
      refine AO.cG rfl rfl rfl (Calm.load 0 rfl rfl rfl (At.cast (At.fldS (At.fldS (At.fld0 At.here))) rfl) ag9 sz9) ?_
      refine AO.cG rfl rfl rfl (Calm.lenStr rfl rfl Try.underlying9) ?_
      refine AO.cG (x := eBool (decide ((p0.f2.size : Int) ≤ (65536 : Int)))) rfl rfl rfl (Calm.int rfl rfl rfl rfl) ?_
      refine AO.c (Calm.pickT rfl rfl rfl) ?_
      refine AO.c (Calm.assign rfl rfl) ?_
      cases hq5
      refine AO.nilE ⟨rfl, rfl⟩ ?_ ?_
      · exact ⟨rfl, trivial⟩
      · exact (Sub.nil _)
     ·refine AO.cG (x := .ptr n2 1) rfl rfl (bD (eq_false_of_ne_true hc8)) (Calm.fldPtr rfl rfl Try.underlying55 rfl sz3 _ rfl) ?_
      refine AO.cG rfl rfl (bD (eq_false_of_ne_true hc8)) (Calm.load 0 rfl rfl rfl (At.cast (At.fldS (At.fld0 At.here)) rfl) ag3 sz3) ?_
      refine AO.cG (x := eBool (decide (p0.f1 = (0 : Int)))) rfl rfl (bD (eq_false_of_ne_true hc8)) (Calm.int rfl rfl rfl rfl) ?_
      refine AO.cG rfl rfl rfl (Calm.pickF rfl (bD (eq_false_of_ne_true hc8)) rfl) ?_
      refine AO.c (Calm.pickT rfl rfl rfl) ?_
      refine AO.c (Calm.move rfl rfl) ?_
      rcases of_ite hq5 with ⟨hc9, hq5⟩ | ⟨hc9, hq5⟩
      ·refine AO.cG (x := .ptr n2 2) rfl rfl (bD (decide_eq_true hc9)) (Calm.fldPtr rfl rfl Try.underlying55 rfl sz9 _ rfl) ?_
       refine AO.cG rfl rfl (bD (decide_eq_true hc9)) (Calm.load 0 rfl rfl rfl (At.cast (At.fldS (At.fldS (At.fld0 At.here))) rfl) ag9 sz9) ?_
       refine AO.cG rfl rfl (bD (decide_eq_true hc9)) (Calm.lenStr rfl rfl Try.underlying9) ?_
       refine AO.cG (x := eBool (decide ((p0.f2.size : Int) ≤ (65536 : Int)))) rfl rfl (bD (decide_eq_true hc9)) (Calm.int rfl rfl rfl rfl) ?_
       refine AO.c (Calm.pickT rfl (bD (decide_eq_true hc9)) rfl) ?_
       refine AO.c (Calm.assign rfl rfl) ?_
       cases hq5
       refine AO.nilE ⟨rfl, rfl⟩ ?_ ?_
       · exact ⟨rfl, trivial⟩
       · exact (Sub.nil _)
      ·refine AO.sT rfl rfl (bD (decide_eq_false hc9)) ?_
       refine AO.sT rfl rfl (bD (decide_eq_false hc9)) ?_
       refine AO.sT rfl rfl (bD (decide_eq_false hc9)) ?_
       refine AO.sT rfl rfl (bD (decide_eq_false hc9)) ?_
       refine AO.c (Calm.pickF rfl (bD (decide_eq_false hc9)) rfl) ?_
       refine AO.c (Calm.assign rfl rfl) ?_
       cases hq5
       refine AO.nilE ⟨rfl, rfl⟩ ?_ ?_
       · exact ⟨rfl, trivial⟩
       · exact (Sub.nil _)
    ·refine AO.cG (x := .ptr n2 2) rfl rfl (bD (eq_false_of_ne_true hc7)) (Calm.fldPtr rfl rfl Try.underlying55 rfl sz9 _ rfl) ?_
     refine AO.cG rfl rfl (bD (eq_false_of_ne_true hc7)) (Calm.load 0 rfl rfl rfl (At.cast (At.fldS (At.fldS (At.fld0 At.here))) rfl) ag9 sz9) ?_
     refine AO.cG (x := eBool (decide (p0.f2 = (ByteArray.mk #[])))) rfl rfl (bD (eq_false_of_ne_true hc7)) (Calm.str rfl rfl rfl rfl) ?_
     refine AO.cG rfl rfl (bD (decide_eq_true hc6)) (Calm.pickF rfl (bD (eq_false_of_ne_true hc7)) rfl) ?_
     refine AO.c (Calm.pickT rfl (bD (decide_eq_true hc6)) rfl) ?_
     refine AO.c (Calm.move rfl rfl) ?_
     rcases of_ite hq5 with ⟨hc10, hq5⟩ | ⟨hc10, hq5⟩
     ·refine AO.cG rfl rfl (bD (decide_eq_true hc10)) (Calm.move rfl rfl) ?_
      refine AO.cG rfl rfl (bD (decide_eq_true hc10)) (Calm.move rfl rfl) ?_
      rcases of_ite hq5 with ⟨hc11, hq5⟩ | ⟨hc11, hq5⟩
      ·refine AO.sF rfl rfl (bD hc11) ?_
       refine AO.sF rfl rfl (bD hc11) ?_
       refine AO.sF rfl rfl (bD hc11) ?_
       refine AO.cG rfl rfl (bD (decide_eq_true hc10)) (Calm.pickT rfl (bD hc11) rfl) ?_
       refine AO.c (Calm.pickT rfl (bD (decide_eq_true hc10)) rfl) ?_
       refine AO.c (Calm.move rfl rfl) ?_
       refine AO.cG (x := .ptr n2 2) rfl rfl rfl (Calm.fldPtr rfl rfl Try.underlying55 rfl sz9 _ rfl) ?_
       refine AO.cG rfl rfl rfl (Calm.load 0 rfl rfl rfl (At.cast (At.fldS (At.fldS (At.fld0 At.here))) rfl) ag9 sz9) ?_
       refine AO.cG rfl rfl rfl (Calm.lenStr rfl rfl Try.underlying9) ?_
       refine AO.cG (x := eBool (decide ((p0.f2.size : Int) ≤ (65536 : Int)))) rfl rfl rfl (Calm.int rfl rfl rfl rfl) ?_
       refine AO.c (Calm.pickT rfl rfl rfl) ?_
       refine AO.c (Calm.assign rfl rfl) ?_
       cases hq5
       refine AO.nilE ⟨rfl, rfl⟩ ?_ ?_
       · exact ⟨rfl, trivial⟩
       · exact (Sub.nil _)
      ·refine AO.cG (x := .ptr n2 1) rfl rfl (bD (eq_false_of_ne_true hc11)) (Calm.fldPtr rfl rfl Try.underlying55 rfl sz3 _ rfl) ?_
       refine AO.cG rfl rfl (bD (eq_false_of_ne_true hc11)) (Calm.load 0 rfl rfl rfl (At.cast (At.fldS (At.fld0 At.here)) rfl) ag3 sz3) ?_
       refine AO.cG (x := eBool (decide (p0.f1 = (0 : Int)))) rfl rfl (bD (eq_false_of_ne_true hc11)) (Calm.int rfl rfl rfl rfl) ?_
       refine AO.cG rfl rfl (bD (decide_eq_true hc10)) (Calm.pickF rfl (bD (eq_false_of_ne_true hc11)) rfl) ?_
       refine AO.c (Calm.pickT rfl (bD (decide_eq_true hc10)) rfl) ?_
       refine AO.c (Calm.move rfl rfl) ?_
       rcases of_ite hq5 with ⟨hc12, hq5⟩ | ⟨hc12, hq5⟩
       ·refine AO.cG (x := .ptr n2 2) rfl rfl (bD (decide_eq_true hc12)) (Calm.fldPtr rfl rfl Try.underlying55 rfl sz9 _ rfl) ?_
        refine AO.cG rfl rfl (bD (decide_eq_true hc12)) (Calm.load 0 rfl rfl rfl (At.cast (At.fldS (At.fldS (At.fld0 At.here))) rfl) ag9 sz9) ?_
        refine AO.cG rfl rfl (bD (decide_eq_true hc12)) (Calm.lenStr rfl rfl Try.underlying9) ?_
        refine AO.cG (x := eBool (decide ((p0.f2.size : Int) ≤ (65536 : Int)))) rfl rfl (bD (decide_eq_true hc12)) (Calm.int rfl rfl rfl rfl) ?_
        refine AO.c (Calm.pickT rfl (bD (decide_eq_true hc12)) rfl) ?_
        refine AO.c (Calm.assign rfl rfl) ?_
        cases hq5
        refine AO.nilE ⟨rfl, rfl⟩ ?_ ?_
        · exact ⟨rfl, trivial⟩
        · exact (Sub.nil _)
       ·refine AO.sT rfl rfl (bD (decide_eq_false hc12)) ?_
        refine AO.sT rfl rfl (bD (decide_eq_false hc12)) ?_
        refine AO.sT rfl rfl (bD (decide_eq_false hc12)) ?_
        refine AO.sT rfl rfl (bD (decide_eq_false hc12)) ?_
        refine AO.c (Calm.pickF rfl (bD (decide_eq_false hc12)) rfl) ?_
        refine AO.c (Calm.assign rfl rfl) ?_
        cases hq5
        refine AO.nilE ⟨rfl, rfl⟩ ?_ ?_
        · exact ⟨rfl, trivial⟩
        · exact (Sub.nil _)
     ·refine AO.sT rfl rfl (bD (decide_eq_false hc10)) ?_
      refine AO.sT rfl rfl (bD (decide_eq_false hc10)) ?_
      refine AO.sU rfl rfl rfl ?_
      refine AO.sU rfl rfl rfl ?_
      refine AO.sU rfl rfl rfl ?_
      refine AO.sT rfl rfl (bD (decide_eq_false hc10)) ?_
      refine AO.c (Calm.pickF rfl (bD (decide_eq_false hc10)) rfl) ?_
      refine AO.c (Calm.move rfl rfl) ?_
      refine AO.sT rfl rfl rfl ?_
      refine AO.sT rfl rfl rfl ?_
      refine AO.sT rfl rfl rfl ?_
      refine AO.sT rfl rfl rfl ?_
      refine AO.c (Calm.pickF rfl rfl rfl) ?_
      refine AO.c (Calm.assign rfl rfl) ?_
      cases hq5
      refine AO.nilE ⟨rfl, rfl⟩ ?_ ?_
      · exact ⟨rfl, trivial⟩
      · exact (Sub.nil _)
   ·refine AO.sT rfl rfl (bD (decide_eq_false hc6)) ?_
    refine AO.sT rfl rfl (bD (decide_eq_false hc6)) ?_
    refine AO.sU rfl rfl rfl ?_
    refine AO.sU rfl rfl rfl ?_
    refine AO.sU rfl rfl rfl ?_
    refine AO.sT rfl rfl (bD (decide_eq_false hc6)) ?_
    refine AO.c (Calm.pickF rfl (bD (decide_eq_false hc6)) rfl) ?_
    refine AO.c (Calm.move rfl rfl) ?_
    refine AO.sT rfl rfl rfl ?_
    refine AO.sT rfl rfl rfl ?_
    refine AO.sU rfl rfl rfl ?_
    refine AO.sU rfl rfl rfl ?_
    refine AO.sU rfl rfl rfl ?_
    refine AO.sT rfl rfl rfl ?_
    refine AO.c (Calm.pickF rfl rfl rfl) ?_
    refine AO.c (Calm.move rfl rfl) ?_
    refine AO.sT rfl rfl rfl ?_
    refine AO.sT rfl rfl rfl ?_
    refine AO.sT rfl rfl rfl ?_
    refine AO.sT rfl rfl rfl ?_
    refine AO.c (Calm.pickF rfl rfl rfl) ?_
    refine AO.c (Calm.assign rfl rfl) ?_
    cases hq5
    refine AO.nilE ⟨rfl, rfl⟩ ?_ ?_
    · exact ⟨rfl, trivial⟩
    · exact (Sub.nil _)
  ·refine AW.rK [2] ?_
   have hr := Option.some.inj h
   subst hr
   exact ⟨[(eBool b4)], ⟨rfl, rfl, trivial⟩, rfl⟩
end Go.Avl.T2
/- (bosket/op.Op).Line; printed by avmain.py. -/
namespace Go.Avl.T2
open Go Go.RowKit Go.Proofs Go.Avl
set_option linter.unusedVariables false
set_option maxRecDepth 100000
set_option maxHeartbeats 4000000
attribute [local irreducible] AW AO AQ Spec SpecH Calm

def _op_Op_Line_c0 (k : Nat) (x7 : ByteArray) : Option ByteArray :=
  some (x7)
def _op_Op_Line_c1 (k : Nat) (p0 : S55) (t5 : (ByteArray × Bool × Bool)) (x6 : ByteArray) : Option ByteArray :=
  if t5.2.2 = true then (spot_Digits k p0.f1).bind fun t9 =>
  if (ByteArray.mk #[32]).size + t9.size ≤ 9223372036854775807 then if x6.size + ((ByteArray.mk #[32]) ++ t9).size ≤ 9223372036854775807 then _op_Op_Line_c0 k (x6 ++ ((ByteArray.mk #[32]) ++ t9))
  else none
  else none
  else _op_Op_Line_c0 k x6
def _op_Op_Line (k : Nat) (p0 : S55) : Option ByteArray :=
  (_op_Op_Right k p0).bind fun t3 =>
  if (!t3) = true then some ((ByteArray.mk #[]))
  else (op_Form k p0.f0).bind fun t5 =>
  if t5.2.1 = true then (escape_Quote k p0.f2 (34 : Int)).bind fun t13 =>
  if (ByteArray.mk #[32]).size + t13.size ≤ 9223372036854775807 then if t5.1.size + ((ByteArray.mk #[32]) ++ t13).size ≤ 9223372036854775807 then _op_Op_Line_c1 k p0 t5 (t5.1 ++ ((ByteArray.mk #[32]) ++ t13))
  else none
  else none
  else _op_Op_Line_c1 k p0 t5 t5.1
theorem _op_Op_Line_spec {k : Nat} {p0 : S55} {r : ByteArray} (h : _op_Op_Line k p0 = some r) : Spec Try.prog 42 [(e55 p0)] (eStr r) := by
  rw [_op_Op_Line.eq_1] at h
  refine Spec.intro (res := [.tmp 2]) Try.func42 rfl rfl rfl (Nat.le_of_ble_eq_true rfl) ?_
  refine AW.sr ?_
  refine AO.box rfl 1 rfl (by decide) rfl rfl rfl fun n2 => ?_
  refine AO.c (Calm.assign rfl rfl) ?_
  refine AO.nK [1] ?_
  refine AW.seq ?_
  refine AW.sr ?_
  refine AO.c (Calm.load 0 rfl rfl rfl (At.cast At.here rfl) ag55 sz55) ?_
  obtain ⟨t3, et3, h⟩ := of_bind h
  refine AO.callS [(e55 p0)] (eBool t3) 7 rfl (by decide) ok43 rfl rfl rfl ⟨rfl, rfl, trivial⟩ (_op_Op_Right_spec et3) ?_
  refine AO.c (Calm.not rfl rfl) ?_
  refine AO.nK [1, 8] ?_
  rcases of_ite h with ⟨hc4, h⟩ | ⟨hc4, h⟩
  ·refine AW.condT' _ rfl hc4 ?_
   refine AW.sr ?_
   refine AO.c (Calm.assign rfl rfl) ?_
   refine AO.nH [2] (H' := []) (Sub.nil _) ?_
   refine AW.rK [2] ?_
   have hr := Option.some.inj h
   subst hr
   exact ⟨[(eStr (ByteArray.mk #[]))], ⟨rfl, rfl, trivial⟩, rfl⟩
  ·refine AW.condF' _ rfl hc4 ?_
   refine AW.sK [1] ?_
   refine AW.sr ?_
   refine AO.c (x := .ptr n2 0) (Calm.fldPtr rfl rfl Try.underlying55 rfl sz3 _ rfl) ?_
   refine AO.c (Calm.load 0 rfl rfl rfl (At.cast (At.fld0 At.here) rfl) ag3 sz3) ?_
   obtain ⟨t5, et5, h⟩ := of_bind h
   refine AO.callS [(eI64 p0.f0)] (.tup [(eStr t5.1), (eBool t5.2.1), (eBool t5.2.2)]) 12 rfl (by decide) ok40 rfl rfl rfl ⟨rfl, rfl, trivial⟩ (op_Form_spec et5) ?_
   refine AO.c (Calm.move rfl rfl) ?_
   refine AO.c (Calm.extract rfl rfl rfl) ?_
   refine AO.c (Calm.extract rfl rfl rfl) ?_
   refine AO.c (Calm.extract rfl rfl rfl) ?_
   refine AO.c (Calm.assign rfl rfl) ?_
   refine AO.c (Calm.assign rfl rfl) ?_
   refine AO.c (Calm.assign rfl rfl) ?_
   refine AO.nK [1, 3, 4, 5] ?_
   refine AW.seq_mid (fun ρ H => ∃ (x6 : ByteArray), ρ = [(1, (.ptr n2 0)), (3, (eStr x6)), (5, (eBool t5.2.2))] ∧ H = [(n2, (.mem (e55 p0)))] ∧ _op_Op_Line_c1 k p0 t5 x6 = some r) ?_ ?_
   ·refine AW.sr ?_
    refine AO.c (Calm.move rfl rfl) ?_
    refine AO.nK [1, 3, 5, 16] ?_
    rcases of_ite h with ⟨hc12, h⟩ | ⟨hc12, h⟩
    ·refine AW.condT' _ rfl hc12 ?_
     refine AW.reg ?_
     refine AO.c (Calm.move rfl rfl) ?_
     refine AO.c (x := .ptr n2 2) (Calm.fldPtr rfl rfl Try.underlying55 rfl sz9 _ rfl) ?_
     refine AO.c (Calm.load 0 rfl rfl rfl (At.cast (At.fldS (At.fldS (At.fld0 At.here))) rfl) ag9 sz9) ?_
     obtain ⟨t13, et13, h⟩ := of_bind h
     refine AO.callS [(eStr p0.f2), (eU8 (34 : Int))] (eStr t13) 20 rfl (by decide) ok60 rfl rfl rfl ⟨rfl, rfl, rfl, rfl, trivial⟩ (escape_Quote_spec et13) ?_
     obtain ⟨hg14, h⟩ := of_guard h
     refine AO.c (x := eStr ((ByteArray.mk #[32]) ++ t13)) (Calm.cat rfl rfl rfl hg14) ?_
     obtain ⟨hg15, h⟩ := of_guard h
     refine AO.c (x := eStr (t5.1 ++ ((ByteArray.mk #[32]) ++ t13))) (Calm.cat rfl rfl rfl hg15) ?_
     refine AO.c (Calm.assign rfl rfl) ?_
     refine AO.nK [1, 3, 5] ?_
     exact ⟨(t5.1 ++ ((ByteArray.mk #[32]) ++ t13)), rfl, rfl, h⟩
    ·refine AW.condF' _ rfl hc12 ?_
     refine AW.sK [1, 3, 5] ?_
     exact ⟨t5.1, rfl, rfl, h⟩
   ·rintro _ _ ⟨x6, rfl, rfl, h⟩
    rw [_op_Op_Line_c1.eq_1] at h
    refine AW.seq_mid (fun ρ H => ∃ (x7 : ByteArray), ρ = [(3, (eStr x7))] ∧ H = [] ∧ _op_Op_Line_c0 k x7 = some r) ?_ ?_
    ·refine AW.sr ?_
     refine AO.c (Calm.move rfl rfl) ?_
     refine AO.nK [1, 3, 23] ?_
     rcases of_ite h with ⟨hc8, h⟩ | ⟨hc8, h⟩
     ·refine AW.condT' _ rfl hc8 ?_
      refine AW.reg ?_
      refine AO.c (Calm.move rfl rfl) ?_
      refine AO.c (x := .ptr n2 1) (Calm.fldPtr rfl rfl Try.underlying55 rfl sz3 _ rfl) ?_
      refine AO.c (Calm.load 0 rfl rfl rfl (At.cast (At.fldS (At.fld0 At.here)) rfl) ag3 sz3) ?_
      obtain ⟨t9, et9, h⟩ := of_bind h
      refine AO.callS [(eI64 p0.f1)] (eStr t9) 27 rfl (by decide) ok18 rfl rfl rfl ⟨rfl, rfl, trivial⟩ (spot_Digits_spec et9) ?_
      obtain ⟨hg10, h⟩ := of_guard h
      refine AO.c (x := eStr ((ByteArray.mk #[32]) ++ t9)) (Calm.cat rfl rfl rfl hg10) ?_
      obtain ⟨hg11, h⟩ := of_guard h
      refine AO.c (x := eStr (x6 ++ ((ByteArray.mk #[32]) ++ t9))) (Calm.cat rfl rfl rfl hg11) ?_
      refine AO.c (Calm.assign rfl rfl) ?_
      refine AO.nH [3] (H' := []) (Sub.nil _) ?_
      exact ⟨(x6 ++ ((ByteArray.mk #[32]) ++ t9)), rfl, rfl, h⟩
     ·refine AW.condF' _ rfl hc8 ?_
      refine AW.sH [3] (H' := []) (Sub.nil _) ?_
      exact ⟨x6, rfl, rfl, h⟩
    ·rintro _ _ ⟨x7, rfl, rfl, h⟩
     rw [_op_Op_Line_c0.eq_1] at h
     refine AW.sr ?_
     refine AO.c (Calm.move rfl rfl) ?_
     refine AO.c (Calm.assign rfl rfl) ?_
     refine AO.nK [2] ?_
     refine AW.rK [2] ?_
     have hr := Option.some.inj h
     subst hr
     exact ⟨[(eStr x7)], ⟨rfl, rfl, trivial⟩, rfl⟩
end Go.Avl.T2
/- bosket/bosketref47.Right; printed by avmain.py. -/
namespace Go.Avl.T2
open Go Go.RowKit Go.Proofs Go.Avl
set_option linter.unusedVariables false
set_option maxRecDepth 100000
set_option maxHeartbeats 4000000
attribute [local irreducible] AW AO AQ Spec SpecH Calm

def bosketref47_Right (k : Nat) (p0 : S60) : Option Bool :=
  (bosketref47_Form k p0.f0).bind fun t3 =>
  Option.bind (α := Bool) (if (1 : Int) ≤ p0.f0 then if p0.f0 ≤ (11 : Int) then if t3.2.1 = true then if t3.2.2 = true then some (decide ((p0.f2.size : Int) ≤ (65536 : Int)))
  else if p0.f1 = (0 : Int) then some (decide ((p0.f2.size : Int) ≤ (65536 : Int)))
  else some (false)
  else if p0.f2 = (ByteArray.mk #[]) then if t3.2.2 = true then some (decide ((p0.f2.size : Int) ≤ (65536 : Int)))
  else if p0.f1 = (0 : Int) then some (decide ((p0.f2.size : Int) ≤ (65536 : Int)))
  else some (false)
  else some (false)
  else some (false)
  else some (false)) fun b4 =>
  some (b4)
theorem bosketref47_Right_spec {k : Nat} {p0 : S60} {r : Bool} (h : bosketref47_Right k p0 = some r) : Spec Try.prog 44 [(e60 p0)] (eBool r) := by
  rw [bosketref47_Right.eq_1] at h
  refine Spec.intro (res := [.tmp 2]) Try.func44 rfl rfl rfl (Nat.le_of_ble_eq_true rfl) ?_
  refine AW.sr ?_
  refine AO.box rfl 1 rfl (by decide) rfl rfl rfl fun n2 => ?_
  refine AO.c (Calm.assign rfl rfl) ?_
  refine AO.nK [1] ?_
  refine AW.sr ?_
  refine AO.c (x := .ptr n2 0) (Calm.fldPtr rfl rfl Try.underlying60 rfl sz3 _ rfl) ?_
  refine AO.c (Calm.load 0 rfl rfl rfl (At.cast (At.fld0 At.here) rfl) ag3 sz3) ?_
  obtain ⟨t3, et3, h⟩ := of_bind h
  refine AO.callS [(eI64 p0.f0)] (.tup [(eStr t3.1), (eBool t3.2.1), (eBool t3.2.2)]) 9 rfl (by decide) ok41 rfl rfl rfl ⟨rfl, rfl, trivial⟩ (bosketref47_Form_spec et3) ?_
  refine AO.c (Calm.move rfl rfl) ?_
  refine AO.c (Calm.extract rfl rfl rfl) ?_
  refine AO.c (Calm.extract rfl rfl rfl) ?_
  refine AO.c (Calm.extract rfl rfl rfl) ?_
  refine AO.c (Calm.assign rfl rfl) ?_
  refine AO.c (Calm.assign rfl rfl) ?_
  refine AO.c (Calm.assign rfl rfl) ?_
  refine AO.nK [1, 4, 5] ?_
  refine AW.seq ?_
  obtain ⟨b4, hq5, h⟩ := of_bind h
  refine AW.regM [(2, (eBool b4))] [] ?_ ?_
  ·refine AO.c (x := .ptr n2 0) (Calm.fldPtr rfl rfl Try.underlying60 rfl sz3 _ rfl) ?_
   refine AO.c (Calm.load 0 rfl rfl rfl (At.cast (At.fld0 At.here) rfl) ag3 sz3) ?_
   refine AO.c (x := eBool (decide ((1 : Int) ≤ p0.f0))) (Calm.int rfl rfl rfl rfl) ?_
   refine AO.c (Calm.move rfl rfl) ?_
   rcases of_ite hq5 with ⟨hc6, hq5⟩ | ⟨hc6, hq5⟩
   ·refine AO.cG (x := .ptr n2 0) rfl rfl (bD (decide_eq_true hc6)) (Calm.fldPtr rfl rfl Try.underlying60 rfl sz3 _ rfl) ?_
    refine AO.cG rfl rfl (bD (decide_eq_true hc6)) (Calm.load 0 rfl rfl rfl (At.cast (At.fld0 At.here) rfl) ag3 sz3) ?_
    refine AO.cG (x := eBool (decide (p0.f0 ≤ (11 : Int)))) rfl rfl (bD (decide_eq_true hc6)) (Calm.int rfl rfl rfl rfl) ?_
    refine AO.c (Calm.pickT rfl (bD (decide_eq_true hc6)) rfl) ?_
    refine AO.c (Calm.move rfl rfl) ?_
    rcases of_ite hq5 with ⟨hc7, hq5⟩ | ⟨hc7, hq5⟩
    ·refine AO.cG rfl rfl (bD (decide_eq_true hc7)) (Calm.move rfl rfl) ?_
     refine AO.cG rfl rfl (bD (decide_eq_true hc7)) (Calm.move rfl rfl) ?_
     rcases of_ite hq5 with ⟨hc8, hq5⟩ | ⟨hc8, hq5⟩
     ·refine AO.sF rfl rfl (bD hc8) ?_
      refine AO.sF rfl rfl (bD hc8) ?_
      refine AO.sF rfl rfl (bD hc8) ?_
      refine AO.cG rfl rfl (bD (decide_eq_true hc7)) (Calm.pickT rfl (bD hc8) rfl) ?_
      refine AO.c (Calm.pickT rfl (bD (decide_eq_true hc7)) rfl) ?_
      refine AO.c (Calm.move rfl rfl) ?_
      refine AO.cG rfl rfl rfl (Calm.move rfl rfl) ?_
      refine AO.cG rfl rfl rfl (Calm.move rfl rfl) ?_
      rcases of_ite hq5 with ⟨hc9, hq5⟩ | ⟨hc9, hq5⟩
      ·refine AO.sF rfl rfl (bD hc9) ?_
       refine AO.sF rfl rfl (bD hc9) ?_
       refine AO.sF rfl rfl (bD hc9) ?_
       refine AO.cG rfl rfl rfl (Calm.pickT rfl (bD hc9) rfl) ?_
       refine AO.c (Calm.pickT rfl rfl rfl) ?_
       refine AO.c (Calm.move rfl rfl) ?_
       refine AO.cG (x := .ptr n2 2) rfl rfl rfl (Calm.fldPtr rfl rfl Try.underlying60 rfl sz9 _ rfl) ?_
       refine AO.cG rfl rfl rfl (Calm.load 0 rfl rfl rfl (At.cast (At.fldS (At.fldS (At.fld0 At.here))) rfl) ag9 sz9) ?_
       refine AO.cG rfl rfl rfl (Calm.lenStr rfl rfl Try.underlying9) ?_
       refine AO.cG (x := eBool (decide ((p0.f2.size : Int) ≤ (65536 : Int)))) rfl rfl rfl (Calm.int rfl rfl rfl rfl) ?_
       refine AO.c (Calm.pickT rfl rfl rfl) ?_
       refine AO.c (Calm.assign rfl rfl) ?_
       cases hq5
       refine AO.nilE ⟨rfl, rfl⟩ ?_ ?_
       · exact ⟨rfl, trivial⟩
       · exact (Sub.nil _)
      ·refine AO.cG (x := .ptr n2 1) rfl rfl (bD (eq_false_of_ne_true hc9)) (Calm.fldPtr rfl rfl Try.underlying60 rfl sz3 _ rfl) ?_
       refine AO.cG rfl rfl (bD (eq_false_of_ne_true hc9)) (Calm.load 0 rfl rfl rfl (At.cast (At.fldS (At.fld0 At.here)) rfl) ag3 sz3) ?_
       refine AO.cG (x := eBool (decide (p0.f1 = (0 : Int)))) rfl rfl (bD (eq_false_of_ne_true hc9)) (Calm.int rfl rfl rfl rfl) ?_
       refine AO.cG rfl rfl rfl (Calm.pickF rfl (bD (eq_false_of_ne_true hc9)) rfl) ?_
       refine AO.c (Calm.pickT rfl rfl rfl) ?_
       refine AO.c (Calm.move rfl rfl) ?_
       rcases of_ite hq5 with ⟨hc10, hq5⟩ | ⟨hc10, hq5⟩
       ·refine AO.cG (x := .ptr n2 2) rfl rfl (bD (decide_eq_true hc10)) (Calm.fldPtr rfl rfl Try.underlying60 rfl sz9 _ rfl) ?_
        refine AO.cG rfl rfl (bD (decide_eq_true hc10)) (Calm.load 0 rfl rfl rfl (At.cast (At.fldS (At.fldS (At.fld0 At.here))) rfl) ag9 sz9) ?_
        refine AO.cG rfl rfl (bD (decide_eq_true hc10)) (Calm.lenStr rfl rfl Try.underlying9) ?_
        refine AO.cG (x := eBool (decide ((p0.f2.size : Int) ≤ (65536 : Int)))) rfl rfl (bD (decide_eq_true hc10)) (Calm.int rfl rfl rfl rfl) ?_
        refine AO.c (Calm.pickT rfl (bD (decide_eq_true hc10)) rfl) ?_
        refine AO.c (Calm.assign rfl rfl) ?_
        cases hq5
        refine AO.nilE ⟨rfl, rfl⟩ ?_ ?_
        · exact ⟨rfl, trivial⟩
        · exact (Sub.nil _)
       ·refine AO.sT rfl rfl (bD (decide_eq_false hc10)) ?_
        refine AO.sT rfl rfl (bD (decide_eq_false hc10)) ?_
        refine AO.sT rfl rfl (bD (decide_eq_false hc10)) ?_
        refine AO.sT rfl rfl (bD (decide_eq_false hc10)) ?_
        refine AO.c (Calm.pickF rfl (bD (decide_eq_false hc10)) rfl) ?_
        refine AO.c (Calm.assign rfl rfl) ?_
        cases hq5
        refine AO.nilE ⟨rfl, rfl⟩ ?_ ?_
        · exact ⟨rfl, trivial⟩
        · exact (Sub.nil _)
     ·refine AO.cG (x := .ptr n2 2) rfl rfl (bD (eq_false_of_ne_true hc8)) (Calm.fldPtr rfl rfl Try.underlying60 rfl sz9 _ rfl) ?_
      refine AO.cG rfl rfl (bD (eq_false_of_ne_true hc8)) (Calm.load 0 rfl rfl rfl (At.cast (At.fldS (At.fldS (At.fld0 At.here))) rfl) ag9 sz9) ?_
      refine AO.cG (x := eBool (decide (p0.f2 = (ByteArray.mk #[])))) rfl rfl (bD (eq_false_of_ne_true hc8)) (Calm.str rfl rfl rfl rfl) ?_
      refine AO.cG rfl rfl (bD (decide_eq_true hc7)) (Calm.pickF rfl (bD (eq_false_of_ne_true hc8)) rfl) ?_
      refine AO.c (Calm.pickT rfl (bD (decide_eq_true hc7)) rfl) ?_
      refine AO.c (Calm.move rfl rfl) ?_
      rcases of_ite hq5 with ⟨hc11, hq5⟩ | ⟨hc11, hq5⟩
      ·refine AO.cG rfl rfl (bD (decide_eq_true hc11)) (Calm.move rfl rfl) ?_
       refine AO.cG rfl rfl (bD (decide_eq_true hc11)) (Calm.move rfl rfl) ?_
       rcases of_ite hq5 with ⟨hc12, hq5⟩ | ⟨hc12, hq5⟩
       ·refine AO.sF rfl rfl (bD hc12) ?_
        refine AO.sF rfl rfl (bD hc12) ?_
        refine AO.sF rfl rfl (bD hc12) ?_
        refine AO.cG rfl rfl (bD (decide_eq_true hc11)) (Calm.pickT rfl (bD hc12) rfl) ?_
        refine AO.c (Calm.pickT rfl (bD (decide_eq_true hc11)) rfl) ?_
        refine AO.c (Calm.move rfl rfl) ?_
        refine AO.cG (x := .ptr n2 2) rfl rfl rfl (Calm.fldPtr rfl rfl Try.underlying60 rfl sz9 _ rfl) ?_
        refine AO.cG rfl rfl rfl (Calm.load 0 rfl rfl rfl (At.cast (At.fldS (At.fldS (At.fld0 At.here))) rfl) ag9 sz9) ?_
        refine AO.cG rfl rfl rfl (Calm.lenStr rfl rfl Try.underlying9) ?_
        refine AO.cG (x := eBool (decide ((p0.f2.size : Int) ≤ (65536 : Int)))) rfl rfl rfl (Calm.int rfl rfl rfl rfl) ?_
        refine AO.c (Calm.pickT rfl rfl rfl) ?_
        refine AO.c (Calm.assign rfl rfl) ?_
        cases hq5
        refine AO.nilE ⟨rfl, rfl⟩ ?_ ?_
        · exact ⟨rfl, trivial⟩
        · exact (Sub.nil _)
       ·refine AO.cG (x := .ptr n2 1) rfl rfl (bD (eq_false_of_ne_true hc12)) (Calm.fldPtr rfl rfl Try.underlying60 rfl sz3 _ rfl) ?_
        refine AO.cG rfl rfl (bD (eq_false_of_ne_true hc12)) (Calm.load 0 rfl rfl rfl (At.cast (At.fldS (At.fld0 At.here)) rfl) ag3 sz3) ?_
        refine AO.cG (x := eBool (decide (p0.f1 = (0 : Int)))) rfl rfl (bD (eq_false_of_ne_true hc12)) (Calm.int rfl rfl rfl rfl) ?_
        refine AO.cG rfl rfl (bD (decide_eq_true hc11)) (Calm.pickF rfl (bD (eq_false_of_ne_true hc12)) rfl) ?_
        refine AO.c (Calm.pickT rfl (bD (decide_eq_true hc11)) rfl) ?_
        refine AO.c (Calm.move rfl rfl) ?_
        rcases of_ite hq5 with ⟨hc13, hq5⟩ | ⟨hc13, hq5⟩
        ·refine AO.cG (x := .ptr n2 2) rfl rfl (bD (decide_eq_true hc13)) (Calm.fldPtr rfl rfl Try.underlying60 rfl sz9 _ rfl) ?_
         refine AO.cG rfl rfl (bD (decide_eq_true hc13)) (Calm.load 0 rfl rfl rfl (At.cast (At.fldS (At.fldS (At.fld0 At.here))) rfl) ag9 sz9) ?_
         refine AO.cG rfl rfl (bD (decide_eq_true hc13)) (Calm.lenStr rfl rfl Try.underlying9) ?_
         refine AO.cG (x := eBool (decide ((p0.f2.size : Int) ≤ (65536 : Int)))) rfl rfl (bD (decide_eq_true hc13)) (Calm.int rfl rfl rfl rfl) ?_
         refine AO.c (Calm.pickT rfl (bD (decide_eq_true hc13)) rfl) ?_
         refine AO.c (Calm.assign rfl rfl) ?_
         cases hq5
         refine AO.nilE ⟨rfl, rfl⟩ ?_ ?_
         · exact ⟨rfl, trivial⟩
         · exact (Sub.nil _)
        ·refine AO.sT rfl rfl (bD (decide_eq_false hc13)) ?_
         refine AO.sT rfl rfl (bD (decide_eq_false hc13)) ?_
         refine AO.sT rfl rfl (bD (decide_eq_false hc13)) ?_
         refine AO.sT rfl rfl (bD (decide_eq_false hc13)) ?_
         refine AO.c (Calm.pickF rfl (bD (decide_eq_false hc13)) rfl) ?_
         refine AO.c (Calm.assign rfl rfl) ?_
         cases hq5
         refine AO.nilE ⟨rfl, rfl⟩ ?_ ?_
         · exact ⟨rfl, trivial⟩
         · exact (Sub.nil _)
      ·refine AO.sT rfl rfl (bD (decide_eq_false hc11)) ?_
       refine AO.sT rfl rfl (bD (decide_eq_false hc11)) ?_
       refine AO.sU rfl rfl rfl ?_
       refine AO.sU rfl rfl rfl ?_
       refine AO.sU rfl rfl rfl ?_
       refine AO.sT rfl rfl (bD (decide_eq_false hc11)) ?_
       refine AO.c (Calm.pickF rfl (bD (decide_eq_false hc11)) rfl) ?_
       refine AO.c (Calm.move rfl rfl) ?_
       refine AO.sT rfl rfl rfl ?_
       refine AO.sT rfl rfl rfl ?_
       refine AO.sT rfl rfl rfl ?_
       refine AO.sT rfl rfl rfl ?_
       refine AO.c (Calm.pickF rfl rfl rfl) ?_
       refine AO.c (Calm.assign rfl rfl) ?_
       cases hq5
       refine AO.nilE ⟨rfl, rfl⟩ ?_ ?_
       · exact ⟨rfl, trivial⟩
       · exact (Sub.nil _)
    ·refine AO.sT rfl rfl (bD (decide_eq_false hc7)) ?_
     refine AO.sT rfl rfl (bD (decide_eq_false hc7)) ?_
     refine AO.sU rfl rfl rfl ?_
     refine AO.sU rfl rfl rfl ?_
     refine AO.sU rfl rfl rfl ?_
     refine AO.sT rfl rfl (bD (decide_eq_false hc7)) ?_
     refine AO.c (Calm.pickF rfl (bD (decide_eq_false hc7)) rfl) ?_
     refine AO.c (Calm.move rfl rfl) ?_
     refine AO.sT rfl rfl rfl ?_
     refine AO.sT rfl rfl rfl ?_
     refine AO.sU rfl rfl rfl ?_
     refine AO.sU rfl rfl rfl ?_
     refine AO.sU rfl rfl rfl ?_
     refine AO.sT rfl rfl rfl ?_
     refine AO.c (Calm.pickF rfl rfl rfl) ?_
     refine AO.c (Calm.move rfl rfl) ?_
     refine AO.sT rfl rfl rfl ?_
     refine AO.sT rfl rfl rfl ?_
     refine AO.sT rfl rfl rfl ?_
     refine AO.sT rfl rfl rfl ?_
     refine AO.c (Calm.pickF rfl rfl rfl) ?_
     refine AO.c (Calm.assign rfl rfl) ?_
     cases hq5
     refine AO.nilE ⟨rfl, rfl⟩ ?_ ?_
     · exact ⟨rfl, trivial⟩
     · exact (Sub.nil _)
   ·refine AO.sT rfl rfl (bD (decide_eq_false hc6)) ?_
    refine AO.sT rfl rfl (bD (decide_eq_false hc6)) ?_
    refine AO.sT rfl rfl (bD (decide_eq_false hc6)) ?_
    refine AO.c (Calm.pickF rfl (bD (decide_eq_false hc6)) rfl) ?_
    refine AO.c (Calm.move rfl rfl) ?_
    refine AO.sT rfl rfl rfl ?_
    refine AO.sT rfl rfl rfl ?_
    refine AO.sU rfl rfl rfl ?_
    refine AO.sU rfl rfl rfl ?_
    refine AO.sU rfl rfl rfl ?_
    refine AO.sT rfl rfl rfl ?_
    refine AO.c (Calm.pickF rfl rfl rfl) ?_
    refine AO.c (Calm.move rfl rfl) ?_
    refine AO.sT rfl rfl rfl ?_
    refine AO.sT rfl rfl rfl ?_
    refine AO.sU rfl rfl rfl ?_
    refine AO.sU rfl rfl rfl ?_
    refine AO.sU rfl rfl rfl ?_
    refine AO.sT rfl rfl rfl ?_
    refine AO.c (Calm.pickF rfl rfl rfl) ?_
    refine AO.c (Calm.move rfl rfl) ?_
    refine AO.sT rfl rfl rfl ?_
    refine AO.sT rfl rfl rfl ?_
    refine AO.sT rfl rfl rfl ?_
    refine AO.sT rfl rfl rfl ?_
    refine AO.c (Calm.pickF rfl rfl rfl) ?_
    refine AO.c (Calm.assign rfl rfl) ?_
    cases hq5
    refine AO.nilE ⟨rfl, rfl⟩ ?_ ?_
    · exact ⟨rfl, trivial⟩
    · exact (Sub.nil _)
  ·refine AW.rK [2] ?_
   have hr := Option.some.inj h
   subst hr
   exact ⟨[(eBool b4)], ⟨rfl, rfl, trivial⟩, rfl⟩
end Go.Avl.T2
/- bosket/bosketref47.Line; printed by avmain.py. -/
namespace Go.Avl.T2
open Go Go.RowKit Go.Proofs Go.Avl
set_option linter.unusedVariables false
set_option maxRecDepth 100000
set_option maxHeartbeats 4000000
attribute [local irreducible] AW AO AQ Spec SpecH Calm

def bosketref47_Line_c0 (k : Nat) (x7 : ByteArray) : Option ByteArray :=
  some (x7)
def bosketref47_Line_c1 (k : Nat) (p0 : S60) (t5 : (ByteArray × Bool × Bool)) (x6 : ByteArray) : Option ByteArray :=
  if t5.2.2 = true then if x6.size + (ByteArray.mk #[32]).size ≤ 9223372036854775807 then (bosketref13_Digits k p0.f1).bind fun t10 =>
  if (x6 ++ (ByteArray.mk #[32])).size + t10.size ≤ 9223372036854775807 then bosketref47_Line_c0 k ((x6 ++ (ByteArray.mk #[32])) ++ t10)
  else none
  else none
  else bosketref47_Line_c0 k x6
def bosketref47_Line (k : Nat) (p0 : S60) : Option ByteArray :=
  (bosketref47_Right k p0).bind fun t3 =>
  if (!t3) = true then some ((ByteArray.mk #[]))
  else (bosketref47_Form k p0.f0).bind fun t5 =>
  if t5.2.1 = true then if t5.1.size + (ByteArray.mk #[32]).size ≤ 9223372036854775807 then (bosketref03_Quote k p0.f2 (34 : Int)).bind fun t14 =>
  if (t5.1 ++ (ByteArray.mk #[32])).size + t14.size ≤ 9223372036854775807 then bosketref47_Line_c1 k p0 t5 ((t5.1 ++ (ByteArray.mk #[32])) ++ t14)
  else none
  else none
  else bosketref47_Line_c1 k p0 t5 t5.1
theorem bosketref47_Line_spec {k : Nat} {p0 : S60} {r : ByteArray} (h : bosketref47_Line k p0 = some r) : Spec Try.prog 46 [(e60 p0)] (eStr r) := by
  rw [bosketref47_Line.eq_1] at h
  refine Spec.intro (res := [.tmp 2]) Try.func46 rfl rfl rfl (Nat.le_of_ble_eq_true rfl) ?_
  refine AW.sr ?_
  refine AO.box rfl 1 rfl (by decide) rfl rfl rfl fun n2 => ?_
  refine AO.c (Calm.assign rfl rfl) ?_
  refine AO.nK [1] ?_
  refine AW.seq ?_
  refine AW.sr ?_
  refine AO.c (Calm.load 0 rfl rfl rfl (At.cast At.here rfl) ag60 sz60) ?_
  obtain ⟨t3, et3, h⟩ := of_bind h
  refine AO.callS [(e60 p0)] (eBool t3) 7 rfl (by decide) ok44 rfl rfl rfl ⟨rfl, rfl, trivial⟩ (bosketref47_Right_spec et3) ?_
  refine AO.c (Calm.not rfl rfl) ?_
  refine AO.nK [1, 8] ?_
  rcases of_ite h with ⟨hc4, h⟩ | ⟨hc4, h⟩
  ·refine AW.condT' _ rfl hc4 ?_
   refine AW.sr ?_
   refine AO.c (Calm.assign rfl rfl) ?_
   refine AO.nH [2] (H' := []) (Sub.nil _) ?_
   refine AW.rK [2] ?_
   have hr := Option.some.inj h
   subst hr
   exact ⟨[(eStr (ByteArray.mk #[]))], ⟨rfl, rfl, trivial⟩, rfl⟩
  ·refine AW.condF' _ rfl hc4 ?_
   refine AW.sK [1] ?_
   refine AW.sr ?_
   refine AO.c (x := .ptr n2 0) (Calm.fldPtr rfl rfl Try.underlying60 rfl sz3 _ rfl) ?_
   refine AO.c (Calm.load 0 rfl rfl rfl (At.cast (At.fld0 At.here) rfl) ag3 sz3) ?_
   obtain ⟨t5, et5, h⟩ := of_bind h
   refine AO.callS [(eI64 p0.f0)] (.tup [(eStr t5.1), (eBool t5.2.1), (eBool t5.2.2)]) 12 rfl (by decide) ok41 rfl rfl rfl ⟨rfl, rfl, trivial⟩ (bosketref47_Form_spec et5) ?_
   refine AO.c (Calm.move rfl rfl) ?_
   refine AO.c (Calm.extract rfl rfl rfl) ?_
   refine AO.c (Calm.extract rfl rfl rfl) ?_
   refine AO.c (Calm.extract rfl rfl rfl) ?_
   refine AO.c (Calm.assign rfl rfl) ?_
   refine AO.c (Calm.assign rfl rfl) ?_
   refine AO.c (Calm.assign rfl rfl) ?_
   refine AO.nK [1, 3, 4, 5] ?_
   refine AW.seq_mid (fun ρ H => ∃ (x6 : ByteArray), ρ = [(1, (.ptr n2 0)), (3, (eStr x6)), (5, (eBool t5.2.2))] ∧ H = [(n2, (.mem (e60 p0)))] ∧ bosketref47_Line_c1 k p0 t5 x6 = some r) ?_ ?_
   ·refine AW.sr ?_
    refine AO.c (Calm.move rfl rfl) ?_
    refine AO.nK [1, 3, 5, 16] ?_
    rcases of_ite h with ⟨hc12, h⟩ | ⟨hc12, h⟩
    ·refine AW.condT' _ rfl hc12 ?_
     refine AW.reg ?_
     refine AO.c (Calm.move rfl rfl) ?_
     obtain ⟨hg13, h⟩ := of_guard h
     refine AO.c (x := eStr (t5.1 ++ (ByteArray.mk #[32]))) (Calm.cat rfl rfl rfl hg13) ?_
     refine AO.c (x := .ptr n2 2) (Calm.fldPtr rfl rfl Try.underlying60 rfl sz9 _ rfl) ?_
     refine AO.c (Calm.load 0 rfl rfl rfl (At.cast (At.fldS (At.fldS (At.fld0 At.here))) rfl) ag9 sz9) ?_
     obtain ⟨t14, et14, h⟩ := of_bind h
     refine AO.callS [(eStr p0.f2), (eU8 (34 : Int))] (eStr t14) 21 rfl (by decide) ok61 rfl rfl rfl ⟨rfl, rfl, rfl, rfl, trivial⟩ (bosketref03_Quote_spec et14) ?_
     obtain ⟨hg15, h⟩ := of_guard h
     refine AO.c (x := eStr ((t5.1 ++ (ByteArray.mk #[32])) ++ t14)) (Calm.cat rfl rfl rfl hg15) ?_
     refine AO.c (Calm.assign rfl rfl) ?_
     refine AO.nK [1, 3, 5] ?_
     exact ⟨((t5.1 ++ (ByteArray.mk #[32])) ++ t14), rfl, rfl, h⟩
    ·refine AW.condF' _ rfl hc12 ?_
     refine AW.sK [1, 3, 5] ?_
     exact ⟨t5.1, rfl, rfl, h⟩
   ·rintro _ _ ⟨x6, rfl, rfl, h⟩
    rw [bosketref47_Line_c1.eq_1] at h
    refine AW.seq_mid (fun ρ H => ∃ (x7 : ByteArray), ρ = [(3, (eStr x7))] ∧ H = [] ∧ bosketref47_Line_c0 k x7 = some r) ?_ ?_
    ·refine AW.sr ?_
     refine AO.c (Calm.move rfl rfl) ?_
     refine AO.nK [1, 3, 23] ?_
     rcases of_ite h with ⟨hc8, h⟩ | ⟨hc8, h⟩
     ·refine AW.condT' _ rfl hc8 ?_
      refine AW.reg ?_
      refine AO.c (Calm.move rfl rfl) ?_
      obtain ⟨hg9, h⟩ := of_guard h
      refine AO.c (x := eStr (x6 ++ (ByteArray.mk #[32]))) (Calm.cat rfl rfl rfl hg9) ?_
      refine AO.c (x := .ptr n2 1) (Calm.fldPtr rfl rfl Try.underlying60 rfl sz3 _ rfl) ?_
      refine AO.c (Calm.load 0 rfl rfl rfl (At.cast (At.fldS (At.fld0 At.here)) rfl) ag3 sz3) ?_
      obtain ⟨t10, et10, h⟩ := of_bind h
      refine AO.callS [(eI64 p0.f1)] (eStr t10) 28 rfl (by decide) ok19 rfl rfl rfl ⟨rfl, rfl, trivial⟩ (bosketref13_Digits_spec et10) ?_
      obtain ⟨hg11, h⟩ := of_guard h
      refine AO.c (x := eStr ((x6 ++ (ByteArray.mk #[32])) ++ t10)) (Calm.cat rfl rfl rfl hg11) ?_
      refine AO.c (Calm.assign rfl rfl) ?_
      refine AO.nH [3] (H' := []) (Sub.nil _) ?_
      exact ⟨((x6 ++ (ByteArray.mk #[32])) ++ t10), rfl, rfl, h⟩
     ·refine AW.condF' _ rfl hc8 ?_
      refine AW.sH [3] (H' := []) (Sub.nil _) ?_
      exact ⟨x6, rfl, rfl, h⟩
    ·rintro _ _ ⟨x7, rfl, rfl, h⟩
     rw [bosketref47_Line_c0.eq_1] at h
     refine AW.sr ?_
     refine AO.c (Calm.move rfl rfl) ?_
     refine AO.c (Calm.assign rfl rfl) ?_
     refine AO.nK [2] ?_
     refine AW.rK [2] ?_
     have hr := Option.some.inj h
     subst hr
     exact ⟨[(eStr x7)], ⟨rfl, rfl, trivial⟩, rfl⟩
end Go.Avl.T2
/- internal/stringslite.Cut; printed by avmain.py. -/
namespace Go.Avl.T2
open Go Go.RowKit Go.Proofs Go.Avl
set_option linter.unusedVariables false
set_option maxRecDepth 100000
set_option maxHeartbeats 4000000
attribute [local irreducible] AW AO AQ Spec SpecH Calm

def internal_stringslite_Cut (k : Nat) (p0 : ByteArray) (p1 : ByteArray) : Option (ByteArray × ByteArray × Bool) :=
  (internal_stringslite_Index k p0 p1).bind fun t3 =>
  if (0 : Int) ≤ t3 then if 0 ≤ (0 : Int) ∧ (0 : Int) ≤ t3 ∧ t3 ≤ (p0.size : Int) then if 0 ≤ (w64 (t3 + (p1.size : Int))) ∧ (w64 (t3 + (p1.size : Int))) ≤ (p0.size : Int) ∧ (p0.size : Int) ≤ (p0.size : Int) then some ((p0.extract (0 : Int).toNat t3.toNat), (p0.extract (w64 (t3 + (p1.size : Int))).toNat (p0.size : Int).toNat), true)
  else none
  else none
  else some (p0, (ByteArray.mk #[]), false)
theorem internal_stringslite_Cut_spec {k : Nat} {p0 : ByteArray} {p1 : ByteArray} {r : (ByteArray × ByteArray × Bool)} (h : internal_stringslite_Cut k p0 p1 = some r) : Spec Try.prog 86 [(eStr p0), (eStr p1)] (.tup [(eStr r.1), (eStr r.2.1), (eBool r.2.2)]) := by
  rw [internal_stringslite_Cut.eq_1] at h
  refine Spec.intro (res := [.tmp 4, .tmp 5, .tmp 6]) Try.func86 rfl rfl rfl (Nat.le_of_ble_eq_true rfl) ?_
  refine AW.sr ?_
  refine AO.c (Calm.assign rfl rfl) ?_
  refine AO.c (Calm.assign rfl rfl) ?_
  refine AO.c (Calm.assign rfl rfl) ?_
  refine AO.nK [0, 1] ?_
  refine AW.seq ?_
  refine AW.sr ?_
  refine AO.c (Calm.move rfl rfl) ?_
  refine AO.c (Calm.move rfl rfl) ?_
  obtain ⟨t3, et3, h⟩ := of_bind h
  refine AO.callS [(eStr p0), (eStr p1)] (eI64 t3) 10 rfl (by decide) ok91 rfl rfl rfl ⟨rfl, rfl, rfl, rfl, trivial⟩ (internal_stringslite_Index_spec et3) ?_
  refine AO.c (Calm.assign rfl rfl) ?_
  refine AO.nK [0, 1, 7] ?_
  refine AW.sr ?_
  refine AO.c (Calm.move rfl rfl) ?_
  refine AO.c (x := eBool (decide ((0 : Int) ≤ t3))) (Calm.int rfl rfl rfl rfl) ?_
  refine AO.nK [0, 1, 7, 12] ?_
  rcases of_ite h with ⟨hc4, h⟩ | ⟨hc4, h⟩
  ·refine AW.condP _ rfl hc4 ?_
   refine AW.seq ?_
   refine AW.regQ (by rfl) (by decide +kernel) ?_
   refine AQ.c (Calm.move rfl rfl) ?_
   refine AQ.c (Calm.move rfl rfl) ?_
   obtain ⟨hg5, h⟩ := of_guard h
   refine AQ.c (x := eStr (p0.extract (0 : Int).toNat t3.toNat)) (Calm.sliceS rfl rfl rfl rfl hg5 Try.underlying9) ?_
   refine AQ.c (Calm.move rfl rfl) ?_
   refine AQ.c (Calm.move rfl rfl) ?_
   refine AQ.c (Calm.move rfl rfl) ?_
   refine AQ.c (Calm.lenStr rfl rfl Try.underlying9) ?_
   refine AQ.c (x := eI64 (w64 (t3 + (p1.size : Int)))) (Calm.int rfl rfl rfl rfl) ?_
   obtain ⟨hg6, h⟩ := of_guard h
   refine AQ.c (x := eStr (p0.extract (w64 (t3 + (p1.size : Int))).toNat (p0.size : Int).toNat)) (Calm.sliceS rfl rfl rfl rfl hg6 Try.underlying9) ?_
   refine AQ.c (Calm.assign rfl rfl) ?_
   refine AQ.c (Calm.assign rfl rfl) ?_
   refine AQ.c (Calm.assign rfl rfl) ?_
   refine AQ.nK [4, 5, 6] ?_
   refine AW.rK [4, 5, 6] ?_
   have hr := Option.some.inj h
   subst hr
   exact ⟨[(eStr (p0.extract (0 : Int).toNat t3.toNat)), (eStr (p0.extract (w64 (t3 + (p1.size : Int))).toNat (p0.size : Int).toNat)), (eBool true)], ⟨rfl, rfl, rfl, rfl, rfl, rfl, trivial⟩, rfl⟩
  ·refine AW.condN _ rfl hc4 ?_
   refine AW.sK [0] ?_
   refine AW.sr ?_
   refine AO.c (Calm.move rfl rfl) ?_
   refine AO.c (Calm.assign rfl rfl) ?_
   refine AO.c (Calm.assign rfl rfl) ?_
   refine AO.c (Calm.assign rfl rfl) ?_
   refine AO.nK [4, 5, 6] ?_
   refine AW.rK [4, 5, 6] ?_
   have hr := Option.some.inj h
   subst hr
   exact ⟨[(eStr p0), (eStr (ByteArray.mk #[])), (eBool false)], ⟨rfl, rfl, rfl, rfl, rfl, rfl, trivial⟩, rfl⟩
end Go.Avl.T2
/- strings.Cut; printed by avmain.py. -/
namespace Go.Avl.T2
open Go Go.RowKit Go.Proofs Go.Avl
set_option linter.unusedVariables false
set_option maxRecDepth 100000
set_option maxHeartbeats 4000000
attribute [local irreducible] AW AO AQ Spec SpecH Calm

def strings_Cut (k : Nat) (p0 : ByteArray) (p1 : ByteArray) : Option (ByteArray × ByteArray × Bool) :=
  (internal_stringslite_Cut k p0 p1).bind fun t3 =>
  some (t3.1, t3.2.1, t3.2.2)
theorem strings_Cut_spec {k : Nat} {p0 : ByteArray} {p1 : ByteArray} {r : (ByteArray × ByteArray × Bool)} (h : strings_Cut k p0 p1 = some r) : Spec Try.prog 67 [(eStr p0), (eStr p1)] (.tup [(eStr r.1), (eStr r.2.1), (eBool r.2.2)]) := by
  rw [strings_Cut.eq_1] at h
  refine Spec.intro (res := [.tmp 4, .tmp 5, .tmp 6]) Try.func67 rfl rfl rfl (Nat.le_of_ble_eq_true rfl) ?_
  refine AW.sr ?_
  refine AO.c (Calm.assign rfl rfl) ?_
  refine AO.c (Calm.assign rfl rfl) ?_
  refine AO.c (Calm.assign rfl rfl) ?_
  refine AO.nK [0, 1] ?_
  refine AW.sr ?_
  refine AO.c (Calm.move rfl rfl) ?_
  refine AO.c (Calm.move rfl rfl) ?_
  obtain ⟨t3, et3, h⟩ := of_bind h
  refine AO.callS [(eStr p0), (eStr p1)] (.tup [(eStr t3.1), (eStr t3.2.1), (eBool t3.2.2)]) 9 rfl (by decide) ok86 rfl rfl rfl ⟨rfl, rfl, rfl, rfl, trivial⟩ (internal_stringslite_Cut_spec et3) ?_
  refine AO.c (Calm.extract rfl rfl rfl) ?_
  refine AO.c (Calm.extract rfl rfl rfl) ?_
  refine AO.c (Calm.extract rfl rfl rfl) ?_
  refine AO.c (Calm.assign rfl rfl) ?_
  refine AO.c (Calm.assign rfl rfl) ?_
  refine AO.c (Calm.assign rfl rfl) ?_
  refine AO.nK [4, 5, 6] ?_
  refine AW.rK [4, 5, 6] ?_
  have hr := Option.some.inj h
  subst hr
  exact ⟨[(eStr t3.1), (eStr t3.2.1), (eBool t3.2.2)], ⟨rfl, rfl, rfl, rfl, rfl, rfl, trivial⟩, rfl⟩
end Go.Avl.T2
/- bosket/op.Kind; printed by avmain.py. -/
namespace Go.Avl.T2
open Go Go.RowKit Go.Proofs Go.Avl
set_option linter.unusedVariables false
set_option maxRecDepth 100000
set_option maxHeartbeats 4000000
attribute [local irreducible] AW AO AQ Spec SpecH Calm

def op_Kind_c0 (k : Nat) : Option Int :=
  some ((0 : Int))
def op_Kind_l1 (k : Nat) (p0 : ByteArray) : Nat → Int → Option Int
  | 0, _ => none
  | j + 1, x2 =>
    if x2 < (12 : Int) then (op_Form k x2).bind fun t6 =>
    if t6.1 = p0 then some (x2)
    else (op_Kind_l1 k p0 j) (w64 (x2 + (1 : Int)))
    else op_Kind_c0 k
def op_Kind (k : Nat) (p0 : ByteArray) : Option Int :=
  op_Kind_l1 k p0 k (1 : Int)
theorem op_Kind_spec {k : Nat} {p0 : ByteArray} {r : Int} (h : op_Kind k p0 = some r) : Spec Try.prog 48 [(eStr p0)] (eI64 r) := by
  rw [op_Kind.eq_1] at h
  refine Spec.intro (res := [.tmp 2]) Try.func48 rfl rfl rfl (Nat.le_of_ble_eq_true rfl) ?_
  refine AW.sr ?_
  refine AO.c (Calm.assign rfl rfl) ?_
  refine AO.nK [0] ?_
  refine AW.seq_mid (fun ρ H => ρ = [] ∧ H = [] ∧ op_Kind_c0 k = some r) ?_ ?_
  ·refine AW.sr ?_
   refine AO.c (Calm.assign rfl rfl) ?_
   refine AO.nK [0, 3] ?_
   refine AW.block ?_
   refine AW.wK [0, 3] ?_
   refine AW.loop (fun kq ρ H => ∃ (x2 : Int), ρ = [(0, (eStr p0)), (3, (eI64 x2))] ∧ H = [] ∧ op_Kind_l1 k p0 kq x2 = some r) k ⟨(1 : Int), rfl, rfl, h⟩ ?_
   rintro kq4 _ _ ⟨x2, rfl, rfl, h⟩
   cases kq4 with
   | zero => rw [op_Kind_l1.eq_1] at h; cases h
   | succ kq4 =>
   rw [op_Kind_l1.eq_2] at h
   generalize hrec3 : op_Kind_l1 k p0 kq4 = rec3 at h
   refine AW.seq ?_
   refine AW.sr ?_
   refine AO.c (Calm.move rfl rfl) ?_
   refine AO.c (x := eBool (decide (x2 < (12 : Int)))) (Calm.int rfl rfl rfl rfl) ?_
   refine AO.nK [0, 3, 8] ?_
   rcases of_ite h with ⟨hc5, h⟩ | ⟨hc5, h⟩
   ·refine AW.condP _ rfl hc5 ?_
    refine AW.sK [0, 3] ?_
    refine AW.seq ?_
    refine AW.block ?_
    refine AW.sr ?_
    refine AO.c (Calm.move rfl rfl) ?_
    obtain ⟨t6, et6, h⟩ := of_bind h
    refine AO.callS [(eI64 x2)] (.tup [(eStr t6.1), (eBool t6.2.1), (eBool t6.2.2)]) 13 rfl (by decide) ok40 rfl rfl rfl ⟨rfl, rfl, trivial⟩ (op_Form_spec et6) ?_
    refine AO.c (Calm.move rfl rfl) ?_
    refine AO.c (Calm.extract rfl rfl rfl) ?_
    refine AO.c (Calm.extract rfl rfl rfl) ?_
    refine AO.c (Calm.extract rfl rfl rfl) ?_
    refine AO.c (Calm.assign rfl rfl) ?_
    refine AO.c (Calm.assign rfl rfl) ?_
    refine AO.c (Calm.assign rfl rfl) ?_
    refine AO.nK [0, 3, 4] ?_
    refine AW.sr ?_
    refine AO.c (Calm.move rfl rfl) ?_
    refine AO.c (Calm.move rfl rfl) ?_
    refine AO.c (x := eBool (decide (t6.1 = p0))) (Calm.str rfl rfl rfl rfl) ?_
    refine AO.nK [0, 3, 19] ?_
    rcases of_ite h with ⟨hc7, h⟩ | ⟨hc7, h⟩
    ·refine AW.condP _ rfl hc7 ?_
     refine AW.sr ?_
     refine AO.c (Calm.move rfl rfl) ?_
     refine AO.c (Calm.assign rfl rfl) ?_
     refine AO.nK [2] ?_
     refine AW.rK [2] ?_
     have hr := Option.some.inj h
     subst hr
     exact ⟨[(eI64 x2)], ⟨rfl, rfl, trivial⟩, rfl⟩
    ·refine AW.condN _ rfl hc7 ?_
     refine AW.sK [0, 3] ?_
     refine AW.reg ?_
     refine AO.c (Calm.move rfl rfl) ?_
     refine AO.c (x := eI64 (w64 (x2 + (1 : Int)))) (Calm.int rfl rfl rfl rfl) ?_
     refine AO.c (Calm.assign rfl rfl) ?_
     refine AO.nK [0, 3] ?_
     exact ⟨kq4, Nat.lt_succ_self _, (w64 (x2 + (1 : Int))), rfl, rfl, by rw [hrec3]; exact h⟩
   ·refine AW.condN _ rfl hc5 ?_
    refine AW.eK [] ?_
    exact ⟨rfl, rfl, h⟩
  ·rintro _ _ ⟨rfl, rfl, h⟩
   rw [op_Kind_c0.eq_1] at h
   refine AW.sr ?_
   refine AO.c (Calm.assign rfl rfl) ?_
   refine AO.nK [2] ?_
   refine AW.rK [2] ?_
   have hr := Option.some.inj h
   subst hr
   exact ⟨[(eI64 (0 : Int))], ⟨rfl, rfl, trivial⟩, rfl⟩
end Go.Avl.T2
/- internal/stringslite.TrimPrefix; printed by avmain.py. -/
namespace Go.Avl.T2
open Go Go.RowKit Go.Proofs Go.Avl
set_option linter.unusedVariables false
set_option maxRecDepth 100000
set_option maxHeartbeats 4000000
attribute [local irreducible] AW AO AQ Spec SpecH Calm

def internal_stringslite_TrimPrefix (k : Nat) (p0 : ByteArray) (p1 : ByteArray) : Option ByteArray :=
  (internal_stringslite_HasPrefix k p0 p1).bind fun t3 =>
  if t3 = true then if 0 ≤ (p1.size : Int) ∧ (p1.size : Int) ≤ (p0.size : Int) ∧ (p0.size : Int) ≤ (p0.size : Int) then some ((p0.extract (p1.size : Int).toNat (p0.size : Int).toNat))
  else none
  else some (p0)
theorem internal_stringslite_TrimPrefix_spec {k : Nat} {p0 : ByteArray} {p1 : ByteArray} {r : ByteArray} (h : internal_stringslite_TrimPrefix k p0 p1 = some r) : Spec Try.prog 88 [(eStr p0), (eStr p1)] (eStr r) := by
  rw [internal_stringslite_TrimPrefix.eq_1] at h
  refine Spec.intro (res := [.tmp 4]) Try.func88 rfl rfl rfl (Nat.le_of_ble_eq_true rfl) ?_
  refine AW.sr ?_
  refine AO.c (Calm.assign rfl rfl) ?_
  refine AO.nK [0, 1] ?_
  refine AW.seq ?_
  refine AW.sr ?_
  refine AO.c (Calm.move rfl rfl) ?_
  refine AO.c (Calm.move rfl rfl) ?_
  obtain ⟨t3, et3, h⟩ := of_bind h
  refine AO.callS [(eStr p0), (eStr p1)] (eBool t3) 7 rfl (by decide) ok94 rfl rfl rfl ⟨rfl, rfl, rfl, rfl, trivial⟩ (internal_stringslite_HasPrefix_spec et3) ?_
  refine AO.nK [0, 1, 7] ?_
  rcases of_ite h with ⟨hc4, h⟩ | ⟨hc4, h⟩
  ·refine AW.condT' _ rfl hc4 ?_
   refine AW.sr ?_
   refine AO.c (Calm.move rfl rfl) ?_
   refine AO.c (Calm.move rfl rfl) ?_
   refine AO.c (Calm.lenStr rfl rfl Try.underlying9) ?_
   obtain ⟨hg5, h⟩ := of_guard h
   refine AO.c (x := eStr (p0.extract (p1.size : Int).toNat (p0.size : Int).toNat)) (Calm.sliceS rfl rfl rfl rfl hg5 Try.underlying9) ?_
   refine AO.c (Calm.assign rfl rfl) ?_
   refine AO.nK [4] ?_
   refine AW.rK [4] ?_
   have hr := Option.some.inj h
   subst hr
   exact ⟨[(eStr (p0.extract (p1.size : Int).toNat (p0.size : Int).toNat))], ⟨rfl, rfl, trivial⟩, rfl⟩
  ·refine AW.condF' _ rfl hc4 ?_
   refine AW.sK [0] ?_
   refine AW.sr ?_
   refine AO.c (Calm.move rfl rfl) ?_
   refine AO.c (Calm.assign rfl rfl) ?_
   refine AO.nK [4] ?_
   refine AW.rK [4] ?_
   have hr := Option.some.inj h
   subst hr
   exact ⟨[(eStr p0)], ⟨rfl, rfl, trivial⟩, rfl⟩
end Go.Avl.T2
/- strings.TrimPrefix; printed by avmain.py. -/
namespace Go.Avl.T2
open Go Go.RowKit Go.Proofs Go.Avl
set_option linter.unusedVariables false
set_option maxRecDepth 100000
set_option maxHeartbeats 4000000
attribute [local irreducible] AW AO AQ Spec SpecH Calm

def strings_TrimPrefix (k : Nat) (p0 : ByteArray) (p1 : ByteArray) : Option ByteArray :=
  (internal_stringslite_TrimPrefix k p0 p1).bind fun t3 =>
  some (t3)
theorem strings_TrimPrefix_spec {k : Nat} {p0 : ByteArray} {p1 : ByteArray} {r : ByteArray} (h : strings_TrimPrefix k p0 p1 = some r) : Spec Try.prog 69 [(eStr p0), (eStr p1)] (eStr r) := by
  rw [strings_TrimPrefix.eq_1] at h
  refine Spec.intro (res := [.tmp 4]) Try.func69 rfl rfl rfl (Nat.le_of_ble_eq_true rfl) ?_
  refine AW.sr ?_
  refine AO.c (Calm.assign rfl rfl) ?_
  refine AO.nK [0, 1] ?_
  refine AW.sr ?_
  refine AO.c (Calm.move rfl rfl) ?_
  refine AO.c (Calm.move rfl rfl) ?_
  obtain ⟨t3, et3, h⟩ := of_bind h
  refine AO.callS [(eStr p0), (eStr p1)] (eStr t3) 7 rfl (by decide) ok88 rfl rfl rfl ⟨rfl, rfl, rfl, rfl, trivial⟩ (internal_stringslite_TrimPrefix_spec et3) ?_
  refine AO.c (Calm.assign rfl rfl) ?_
  refine AO.nK [4] ?_
  refine AW.rK [4] ?_
  have hr := Option.some.inj h
  subst hr
  exact ⟨[(eStr t3)], ⟨rfl, rfl, trivial⟩, rfl⟩
end Go.Avl.T2
/- bosket/op.Read; printed by avmain.py. -/
namespace Go.Avl.T2
open Go Go.RowKit Go.Proofs Go.Avl
set_option linter.unusedVariables false
set_option maxRecDepth 100000
set_option maxHeartbeats 4000000
attribute [local irreducible] AW AO AQ Spec SpecH Calm

def op_Read_c0 (k : Nat) (p0 : ByteArray) (t4 : Int) (x8 : ByteArray) (x9 : Int) : Option (S55 × Int) :=
  Option.bind (α := Bool) ((_op_Op_Right k (S55.mk t4 x9 x8)).bind fun t12 =>
  if (!t12) = true then some (true)
  else (_op_Op_Line k (S55.mk t4 x9 x8)).bind fun t14 =>
  some (decide (t14 ≠ p0))) fun b10 =>
  if b10 = true then some ((S55.mk (0 : Int) (0 : Int) ByteArray.empty), (24 : Int))
  else some ((S55.mk t4 x9 x8), (0 : Int))
def op_Read_c1 (k : Nat) (p0 : ByteArray) (t4 : Int) (t6 : (ByteArray × Bool × Bool)) (x7 : ByteArray) (x8 : ByteArray) : Option (S55 × Int) :=
  if t6.2.2 = true then (spot_Number k x7).bind fun t17 =>
  if (!t17.2) = true then some ((S55.mk (0 : Int) (0 : Int) ByteArray.empty), (24 : Int))
  else op_Read_c0 k p0 t4 x8 t17.1
  else op_Read_c0 k p0 t4 x8 (0 : Int)
def op_Read (k : Nat) (p0 : ByteArray) : Option (S55 × Int) :=
  (strings_Cut k p0 (ByteArray.mk #[32])).bind fun t3 =>
  (op_Kind k t3.1).bind fun t4 =>
  (op_Form k t4).bind fun t6 =>
  if t6.2.1 = true then (escape_Unquote k t3.2.1 (34 : Int)).bind fun t20 =>
  if (!t20.2.2) = true then some ((S55.mk (0 : Int) (0 : Int) ByteArray.empty), (24 : Int))
  else if 0 ≤ t20.2.1 ∧ t20.2.1 ≤ (t3.2.1.size : Int) ∧ (t3.2.1.size : Int) ≤ (t3.2.1.size : Int) then (strings_TrimPrefix k (t3.2.1.extract t20.2.1.toNat (t3.2.1.size : Int).toNat) (ByteArray.mk #[32])).bind fun t23 =>
  op_Read_c1 k p0 t4 t6 t23 t20.1
  else none
  else op_Read_c1 k p0 t4 t6 t3.2.1 ByteArray.empty
theorem op_Read_spec {k : Nat} {p0 : ByteArray} {r : (S55 × Int)} (h : op_Read k p0 = some r) : Spec Try.prog 47 [(eStr p0)] (.tup [(e55 r.1), (eI64 r.2)]) := by
  rw [op_Read.eq_1] at h
  refine Spec.intro (res := [.cell 2 55, .tmp 3]) Try.func47 rfl rfl rfl (Nat.le_of_ble_eq_true rfl) ?_
  refine AW.sr ?_
  refine AO.alloc rfl 2 rfl (by decide) rfl zr55 lay55 fun n2 => ?_
  refine AO.c (Calm.assign rfl rfl) ?_
  refine AO.nK [0, 2] ?_
  refine AW.sr ?_
  refine AO.c (Calm.move rfl rfl) ?_
  obtain ⟨t3, et3, h⟩ := of_bind h
  refine AO.callS [(eStr p0), (eStr (ByteArray.mk #[32]))] (.tup [(eStr t3.1), (eStr t3.2.1), (eBool t3.2.2)]) 18 rfl (by decide) ok67 rfl rfl rfl ⟨rfl, rfl, rfl, rfl, trivial⟩ (strings_Cut_spec et3) ?_
  refine AO.c (Calm.move rfl rfl) ?_
  refine AO.c (Calm.extract rfl rfl rfl) ?_
  refine AO.c (Calm.extract rfl rfl rfl) ?_
  refine AO.c (Calm.extract rfl rfl rfl) ?_
  refine AO.c (Calm.assign rfl rfl) ?_
  refine AO.c (Calm.assign rfl rfl) ?_
  refine AO.c (Calm.assign rfl rfl) ?_
  refine AO.nK [0, 2, 4, 5] ?_
  refine AW.sr ?_
  refine AO.c (Calm.move rfl rfl) ?_
  obtain ⟨t4, et4, h⟩ := of_bind h
  refine AO.callS [(eStr t3.1)] (eI64 t4) 23 rfl (by decide) ok48 rfl rfl rfl ⟨rfl, rfl, trivial⟩ (op_Kind_spec et4) ?_
  refine AO.c (x := .st [(1, (eI64 t4)), (1, (eI64 (0 : Int))), (1, (eStr ByteArray.empty))]) (Calm.build (qs := [(0, (eI64 t4))]) rfl ⟨rfl, rfl, rfl, trivial⟩ Try.underlying55 rfl zr55 lay55 (.cons rfl rfl rfl rfl (Put.cast (Put.fld0 Put.here) rfl) .nil) rfl) ?_
  refine AO.alloc rfl 7 rfl (by decide) rfl zr55 lay55 fun n5 => ?_
  refine AO.store (X' := (e55 (S55.mk t4 (0 : Int) ByteArray.empty))) 0 rfl rfl rfl rfl rfl rfl (Put.cast Put.here rfl) rfl rfl sz55 rfl ?_
  refine AO.nH [0, 2, 5, 7] (H' := [(n2, (.mem (.st [(1, (eI64 (0 : Int))), (1, (eI64 (0 : Int))), (1, (eStr ByteArray.empty))]))), (n5, (.mem (e55 (S55.mk t4 (0 : Int) ByteArray.empty))))]) (Sub.cons 1 rfl (Sub.cons 0 rfl (Sub.nil _))) ?_
  refine AW.sr ?_
  refine AO.c (x := .ptr n5 0) (Calm.fldPtr rfl rfl Try.underlying55 rfl sz3 _ rfl) ?_
  refine AO.c (Calm.load 1 rfl rfl rfl (At.cast (At.fld0 At.here) rfl) ag3 sz3) ?_
  obtain ⟨t6, et6, h⟩ := of_bind h
  refine AO.callS [(eI64 t4)] (.tup [(eStr t6.1), (eBool t6.2.1), (eBool t6.2.2)]) 28 rfl (by decide) ok40 rfl rfl rfl ⟨rfl, rfl, trivial⟩ (op_Form_spec et6) ?_
  refine AO.c (Calm.move rfl rfl) ?_
  refine AO.c (Calm.extract rfl rfl rfl) ?_
  refine AO.c (Calm.extract rfl rfl rfl) ?_
  refine AO.c (Calm.extract rfl rfl rfl) ?_
  refine AO.c (Calm.assign rfl rfl) ?_
  refine AO.c (Calm.assign rfl rfl) ?_
  refine AO.c (Calm.assign rfl rfl) ?_
  refine AO.nK [0, 2, 5, 7, 9, 10] ?_
  refine AW.seq_mid (fun ρ H => ∃ (x7 : ByteArray) (x8 : ByteArray), ρ = [(0, (eStr p0)), (2, (.ptr n2 0)), (5, (eStr x7)), (7, (.ptr n5 0)), (10, (eBool t6.2.2))] ∧ H = [(n2, (.mem (.st [(1, (eI64 (0 : Int))), (1, (eI64 (0 : Int))), (1, (eStr ByteArray.empty))]))), (n5, (.mem (.st [(1, (eI64 t4)), (1, (eI64 (0 : Int))), (1, (eStr x8))])))] ∧ op_Read_c1 k p0 t4 t6 x7 x8 = some r) ?_ ?_
  ·refine AW.sr ?_
   refine AO.c (Calm.move rfl rfl) ?_
   refine AO.nK [0, 2, 5, 7, 10, 32] ?_
   rcases of_ite h with ⟨hc19, h⟩ | ⟨hc19, h⟩
   ·refine AW.condT' _ rfl hc19 ?_
    refine AW.sr ?_
    refine AO.c (Calm.move rfl rfl) ?_
    obtain ⟨t20, et20, h⟩ := of_bind h
    refine AO.callS [(eStr t3.2.1), (eU8 (34 : Int))] (.tup [(eStr t20.1), (eI64 t20.2.1), (eBool t20.2.2)]) 35 rfl (by decide) ok68 rfl rfl rfl ⟨rfl, rfl, rfl, rfl, trivial⟩ (escape_Unquote_spec et20) ?_
    refine AO.c (Calm.move rfl rfl) ?_
    refine AO.c (Calm.extract rfl rfl rfl) ?_
    refine AO.c (Calm.extract rfl rfl rfl) ?_
    refine AO.c (Calm.extract rfl rfl rfl) ?_
    refine AO.c (Calm.assign rfl rfl) ?_
    refine AO.c (Calm.assign rfl rfl) ?_
    refine AO.c (Calm.assign rfl rfl) ?_
    refine AO.nK [0, 2, 5, 7, 10, 11, 12, 13] ?_
    refine AW.seq ?_
    refine AW.sr ?_
    refine AO.c (Calm.move rfl rfl) ?_
    refine AO.c (Calm.not rfl rfl) ?_
    refine AO.nK [0, 2, 5, 7, 10, 11, 12, 40] ?_
    rcases of_ite h with ⟨hc21, h⟩ | ⟨hc21, h⟩
    ·refine AW.condT' _ rfl hc21 ?_
     refine AW.sr ?_
     refine AO.c (x := .st [(1, (eI64 (0 : Int))), (1, (eI64 (0 : Int))), (1, (eStr ByteArray.empty))]) (Calm.build (qs := []) rfl trivial Try.underlying55 rfl zr55 lay55 .nil rfl) ?_
     refine AO.store (X' := (e55 (S55.mk (0 : Int) (0 : Int) ByteArray.empty))) 0 rfl rfl rfl rfl rfl rfl (Put.cast Put.here rfl) rfl rfl sz55 rfl ?_
     refine AO.c (Calm.assign rfl rfl) ?_
     refine AO.nH [2, 3] (H' := [(n2, (.mem (e55 (S55.mk (0 : Int) (0 : Int) ByteArray.empty))))]) (Sub.cons 0 rfl (Sub.nil _)) ?_
     refine AW.rK [2, 3] ?_
     have hr := Option.some.inj h
     subst hr
     exact ⟨[(e55 (S55.mk (0 : Int) (0 : Int) ByteArray.empty)), (eI64 (24 : Int))], ⟨⟨_, 0, rfl, rfl, ag55, sz55⟩, rfl, rfl, trivial⟩, rfl⟩
    ·refine AW.condF' _ rfl hc21 ?_
     refine AW.sK [0, 2, 5, 7, 10, 11, 12] ?_
     refine AW.sr ?_
     refine AO.c (Calm.move rfl rfl) ?_
     refine AO.c (x := .ptr n5 2) (Calm.fldPtr rfl rfl Try.underlying55 rfl sz9 _ rfl) ?_
     refine AO.store (X' := (.st [(1, (eI64 t4)), (1, (eI64 (0 : Int))), (1, (eStr t20.1))])) 1 rfl rfl rfl rfl rfl rfl (Put.cast (Put.fldS (Put.fldS (Put.fld0 Put.here))) rfl) rfl rfl sz9 rfl ?_
     refine AO.nK [0, 2, 5, 7, 10, 12] ?_
     refine AW.reg ?_
     refine AO.c (Calm.move rfl rfl) ?_
     refine AO.c (Calm.move rfl rfl) ?_
     obtain ⟨hg22, h⟩ := of_guard h
     refine AO.c (x := eStr (t3.2.1.extract t20.2.1.toNat (t3.2.1.size : Int).toNat)) (Calm.sliceS rfl rfl rfl rfl hg22 Try.underlying9) ?_
     obtain ⟨t23, et23, h⟩ := of_bind h
     refine AO.callS [(eStr (t3.2.1.extract t20.2.1.toNat (t3.2.1.size : Int).toNat)), (eStr (ByteArray.mk #[32]))] (eStr t23) 47 rfl (by decide) ok69 rfl rfl rfl ⟨rfl, rfl, rfl, rfl, trivial⟩ (strings_TrimPrefix_spec et23) ?_
     refine AO.c (Calm.assign rfl rfl) ?_
     refine AO.nK [0, 2, 5, 7, 10] ?_
     exact ⟨t23, t20.1, rfl, rfl, h⟩
   ·refine AW.condF' _ rfl hc19 ?_
    refine AW.sK [0, 2, 5, 7, 10] ?_
    exact ⟨t3.2.1, ByteArray.empty, rfl, rfl, h⟩
  ·rintro _ _ ⟨x7, x8, rfl, rfl, h⟩
   rw [op_Read_c1.eq_1] at h
   refine AW.seq_mid (fun ρ H => ∃ (x9 : Int), ρ = [(0, (eStr p0)), (2, (.ptr n2 0)), (7, (.ptr n5 0))] ∧ H = [(n2, (.mem (.st [(1, (eI64 (0 : Int))), (1, (eI64 (0 : Int))), (1, (eStr ByteArray.empty))]))), (n5, (.mem (.st [(1, (eI64 t4)), (1, (eI64 x9)), (1, (eStr x8))])))] ∧ op_Read_c0 k p0 t4 x8 x9 = some r) ?_ ?_
   ·refine AW.sr ?_
    refine AO.c (Calm.move rfl rfl) ?_
    refine AO.nK [0, 2, 5, 7, 48] ?_
    rcases of_ite h with ⟨hc16, h⟩ | ⟨hc16, h⟩
    ·refine AW.condT' _ rfl hc16 ?_
     refine AW.sr ?_
     refine AO.c (Calm.move rfl rfl) ?_
     obtain ⟨t17, et17, h⟩ := of_bind h
     refine AO.callS [(eStr x7)] (.tup [(eI64 t17.1), (eBool t17.2)]) 51 rfl (by decide) ok16 rfl rfl rfl ⟨rfl, rfl, trivial⟩ (spot_Number_spec et17) ?_
     refine AO.c (Calm.move rfl rfl) ?_
     refine AO.c (Calm.extract rfl rfl rfl) ?_
     refine AO.c (Calm.extract rfl rfl rfl) ?_
     refine AO.c (Calm.assign rfl rfl) ?_
     refine AO.c (Calm.assign rfl rfl) ?_
     refine AO.nK [0, 2, 7, 14, 15] ?_
     refine AW.seq ?_
     refine AW.sr ?_
     refine AO.c (Calm.move rfl rfl) ?_
     refine AO.c (Calm.not rfl rfl) ?_
     refine AO.nK [0, 2, 7, 14, 55] ?_
     rcases of_ite h with ⟨hc18, h⟩ | ⟨hc18, h⟩
     ·refine AW.condT' _ rfl hc18 ?_
      refine AW.sr ?_
      refine AO.c (x := .st [(1, (eI64 (0 : Int))), (1, (eI64 (0 : Int))), (1, (eStr ByteArray.empty))]) (Calm.build (qs := []) rfl trivial Try.underlying55 rfl zr55 lay55 .nil rfl) ?_
      refine AO.store (X' := (e55 (S55.mk (0 : Int) (0 : Int) ByteArray.empty))) 0 rfl rfl rfl rfl rfl rfl (Put.cast Put.here rfl) rfl rfl sz55 rfl ?_
      refine AO.c (Calm.assign rfl rfl) ?_
      refine AO.nH [2, 3] (H' := [(n2, (.mem (e55 (S55.mk (0 : Int) (0 : Int) ByteArray.empty))))]) (Sub.cons 0 rfl (Sub.nil _)) ?_
      refine AW.rK [2, 3] ?_
      have hr := Option.some.inj h
      subst hr
      exact ⟨[(e55 (S55.mk (0 : Int) (0 : Int) ByteArray.empty)), (eI64 (24 : Int))], ⟨⟨_, 0, rfl, rfl, ag55, sz55⟩, rfl, rfl, trivial⟩, rfl⟩
     ·refine AW.condF' _ rfl hc18 ?_
      refine AW.sK [0, 2, 7, 14] ?_
      refine AW.reg ?_
      refine AO.c (Calm.move rfl rfl) ?_
      refine AO.c (x := .ptr n5 1) (Calm.fldPtr rfl rfl Try.underlying55 rfl sz3 _ rfl) ?_
      refine AO.store (X' := (.st [(1, (eI64 t4)), (1, (eI64 t17.1)), (1, (eStr x8))])) 1 rfl rfl rfl rfl rfl rfl (Put.cast (Put.fldS (Put.fld0 Put.here)) rfl) rfl rfl sz3 rfl ?_
      refine AO.nK [0, 2, 7] ?_
      exact ⟨t17.1, rfl, rfl, h⟩
    ·refine AW.condF' _ rfl hc16 ?_
     refine AW.sK [0, 2, 7] ?_
     exact ⟨(0 : Int), rfl, rfl, h⟩
   ·rintro _ _ ⟨x9, rfl, rfl, h⟩
    rw [op_Read_c0.eq_1] at h
    refine AW.seq ?_
    refine AW.seq ?_
    obtain ⟨b10, hq11, h⟩ := of_bind h
    refine AW.regM [(2, (.ptr n2 0)), (7, (.ptr n5 0)), (67, (eBool b10))] [(n2, (.mem (.st [(1, (eI64 (0 : Int))), (1, (eI64 (0 : Int))), (1, (eStr ByteArray.empty))]))), (n5, (.mem (.st [(1, (eI64 t4)), (1, (eI64 x9)), (1, (eStr x8))])))] ?_ ?_
    ·refine AO.c (Calm.load 1 rfl rfl rfl (At.cast At.here rfl) ag55 sz55) ?_
     obtain ⟨t12, et12, hq11⟩ := of_bind hq11
     refine AO.callS [(e55 (S55.mk t4 x9 x8))] (eBool t12) 60 rfl (by decide) ok43 rfl rfl rfl ⟨rfl, rfl, trivial⟩ (_op_Op_Right_spec et12) ?_
     refine AO.c (Calm.not rfl rfl) ?_
     refine AO.c (Calm.move rfl rfl) ?_
     rcases of_ite hq11 with ⟨hc13, hq11⟩ | ⟨hc13, hq11⟩
     ·refine AO.sF rfl rfl (bD hc13) ?_
      refine AO.sF rfl rfl (bD hc13) ?_
      refine AO.sF rfl rfl (bD hc13) ?_
      refine AO.sF rfl rfl (bD hc13) ?_
      refine AO.c (Calm.pickT rfl (bD hc13) rfl) ?_
      cases hq11
      refine AO.nilE ⟨rfl, rfl⟩ ?_ ?_
      · exact ⟨rfl, rfl, rfl, trivial⟩
      · exact (Sub.refl _)
     ·refine AO.cG rfl rfl (bD (eq_false_of_ne_true hc13)) (Calm.load 1 rfl rfl rfl (At.cast At.here rfl) ag55 sz55) ?_
      obtain ⟨t14, et14, hq11⟩ := of_bind hq11
      refine AO.callG 3 false 62 [(e55 (S55.mk t4 x9 x8))] (eStr t14) 64 rfl (by decide) ok42 rfl rfl (bD (eq_false_of_ne_true hc13)) rfl rfl ⟨rfl, rfl, trivial⟩ (_op_Op_Line_spec et14) ?_
      refine AO.cG rfl rfl (bD (eq_false_of_ne_true hc13)) (Calm.move rfl rfl) ?_
      refine AO.cG (x := eBool (decide (t14 ≠ p0))) rfl rfl (bD (eq_false_of_ne_true hc13)) (Calm.str rfl rfl rfl rfl) ?_
      refine AO.c (Calm.pickF rfl (bD (eq_false_of_ne_true hc13)) rfl) ?_
      cases hq11
      refine AO.nilE ⟨rfl, rfl⟩ ?_ ?_
      · exact ⟨rfl, rfl, rfl, trivial⟩
      · exact (Sub.refl _)
    ·rcases of_ite h with ⟨hc15, h⟩ | ⟨hc15, h⟩
     ·refine AW.condT' _ rfl hc15 ?_
      refine AW.sr ?_
      refine AO.c (x := .st [(1, (eI64 (0 : Int))), (1, (eI64 (0 : Int))), (1, (eStr ByteArray.empty))]) (Calm.build (qs := []) rfl trivial Try.underlying55 rfl zr55 lay55 .nil rfl) ?_
      refine AO.store (X' := (e55 (S55.mk (0 : Int) (0 : Int) ByteArray.empty))) 0 rfl rfl rfl rfl rfl rfl (Put.cast Put.here rfl) rfl rfl sz55 rfl ?_
      refine AO.c (Calm.assign rfl rfl) ?_
      refine AO.nH [2, 3] (H' := [(n2, (.mem (e55 (S55.mk (0 : Int) (0 : Int) ByteArray.empty))))]) (Sub.cons 0 rfl (Sub.nil _)) ?_
      refine AW.rK [2, 3] ?_
      have hr := Option.some.inj h
      subst hr
      exact ⟨[(e55 (S55.mk (0 : Int) (0 : Int) ByteArray.empty)), (eI64 (24 : Int))], ⟨⟨_, 0, rfl, rfl, ag55, sz55⟩, rfl, rfl, trivial⟩, rfl⟩
     ·refine AW.condF' _ rfl hc15 ?_
      refine AW.sK [2, 7] ?_
      refine AW.sr ?_
      refine AO.c (Calm.load 1 rfl rfl rfl (At.cast At.here rfl) ag55 sz55) ?_
      refine AO.store (X' := (e55 (S55.mk t4 x9 x8))) 0 rfl rfl rfl rfl rfl rfl (Put.cast Put.here rfl) rfl rfl sz55 rfl ?_
      refine AO.c (Calm.assign rfl rfl) ?_
      refine AO.nH [2, 3] (H' := [(n2, (.mem (e55 (S55.mk t4 x9 x8))))]) (Sub.cons 0 rfl (Sub.nil _)) ?_
      refine AW.rK [2, 3] ?_
      have hr := Option.some.inj h
      subst hr
      exact ⟨[(e55 (S55.mk t4 x9 x8)), (eI64 (0 : Int))], ⟨⟨_, 0, rfl, rfl, ag55, sz55⟩, rfl, rfl, trivial⟩, rfl⟩
end Go.Avl.T2
/- bosket/bosketlaw47.awake; printed by avmain.py. -/
namespace Go.Avl.T2
open Go Go.RowKit Go.Proofs Go.Avl
set_option linter.unusedVariables false
set_option maxRecDepth 100000
set_option maxHeartbeats 4000000
attribute [local irreducible] AW AO AQ Spec SpecH Calm

def bosketlaw47_awake (k : Nat) : Option Bool :=
  (op_Read k (ByteArray.mk #[112, 114, 105, 110, 116, 32, 34, 40, 55, 41, 34, 32, 52, 48])).bind fun t1 =>
  Option.bind (α := Bool) (if t1.2 = (0 : Int) then some (decide (t1.1 = (S55.mk (5 : Int) (40 : Int) (ByteArray.mk #[40, 55, 41]))))
  else some (false)) fun b3 =>
  some (b3)
theorem bosketlaw47_awake_spec {k : Nat}  {r : Bool} (h : bosketlaw47_awake k = some r) : Spec Try.prog 39 [] (eBool r) := by
  rw [bosketlaw47_awake.eq_1] at h
  refine Spec.intro (res := [.tmp 0]) Try.func39 rfl rfl rfl (Nat.le_of_ble_eq_true rfl) ?_
  refine AW.sr ?_
  refine AO.c (Calm.assign rfl rfl) ?_
  refine AO.nK [] ?_
  refine AW.sr ?_
  obtain ⟨t1, et1, h⟩ := of_bind h
  refine AO.callS [(eStr (ByteArray.mk #[112, 114, 105, 110, 116, 32, 34, 40, 55, 41, 34, 32, 52, 48]))] (.tup [(e55 t1.1), (eI64 t1.2)]) 4 rfl (by decide) ok47 rfl rfl rfl ⟨rfl, rfl, trivial⟩ (op_Read_spec et1) ?_
  refine AO.c (Calm.move rfl rfl) ?_
  refine AO.c (Calm.extract rfl rfl rfl) ?_
  refine AO.c (Calm.extract rfl rfl rfl) ?_
  refine AO.alloc rfl 1 rfl (by decide) rfl zr55 lay55 fun n2 => ?_
  refine AO.store (X' := (e55 t1.1)) 0 rfl rfl rfl rfl rfl rfl (Put.cast Put.here rfl) rfl rfl sz55 rfl ?_
  refine AO.c (Calm.assign rfl rfl) ?_
  refine AO.nK [1, 2] ?_
  refine AW.seq ?_
  obtain ⟨b3, hq4, h⟩ := of_bind h
  refine AW.regM [(0, (eBool b3))] [] ?_ ?_
  ·refine AO.c (Calm.move rfl rfl) ?_
   refine AO.c (x := eBool (decide (t1.2 = (0 : Int)))) (Calm.int rfl rfl rfl rfl) ?_
   refine AO.c (Calm.move rfl rfl) ?_
   rcases of_ite hq4 with ⟨hc5, hq4⟩ | ⟨hc5, hq4⟩
   ·refine AO.cG rfl rfl (bD (decide_eq_true hc5)) (Calm.load 0 rfl rfl rfl (At.cast At.here rfl) ag55 sz55) ?_
    refine AO.cG (x := .st [(1, (eI64 (5 : Int))), (1, (eI64 (40 : Int))), (1, (eStr (ByteArray.mk #[40, 55, 41])))]) rfl rfl (bD (decide_eq_true hc5)) (Calm.build (qs := [(0, (eI64 (5 : Int))), (1, (eI64 (40 : Int))), (2, (eStr (ByteArray.mk #[40, 55, 41])))]) rfl ⟨rfl, rfl, rfl, rfl, rfl, rfl, rfl, rfl, rfl, trivial⟩ Try.underlying55 rfl zr55 lay55 (.cons rfl rfl rfl rfl (Put.cast (Put.fld0 Put.here) rfl) (.cons rfl rfl rfl rfl (Put.cast (Put.fldS (Put.fld0 Put.here)) rfl) (.cons rfl rfl rfl rfl (Put.cast (Put.fldS (Put.fldS (Put.fld0 Put.here))) rfl) .nil))) rfl) ?_
    refine AO.cG (x := eBool (decide (t1.1 = (S55.mk (5 : Int) (40 : Int) (ByteArray.mk #[40, 55, 41]))))) rfl rfl (bD (decide_eq_true hc5)) (Calm.eqS rfl rfl rfl eg55 (eqk55 t1.1 (S55.mk (5 : Int) (40 : Int) (ByteArray.mk #[40, 55, 41]))) (by decide)) ?_
    refine AO.c (Calm.pickT rfl (bD (decide_eq_true hc5)) rfl) ?_
    refine AO.c (Calm.assign rfl rfl) ?_
    cases hq4
    refine AO.nilE ⟨rfl, rfl⟩ ?_ ?_
    · exact ⟨rfl, trivial⟩
    · exact (Sub.nil _)
   ·refine AO.sT rfl rfl (bD (decide_eq_false hc5)) ?_
    refine AO.sT rfl rfl (bD (decide_eq_false hc5)) ?_
    refine AO.sT rfl rfl (bD (decide_eq_false hc5)) ?_
    refine AO.c (Calm.pickF rfl (bD (decide_eq_false hc5)) rfl) ?_
    refine AO.c (Calm.assign rfl rfl) ?_
    cases hq4
    refine AO.nilE ⟨rfl, rfl⟩ ?_ ?_
    · exact ⟨rfl, trivial⟩
    · exact (Sub.nil _)
  ·refine AW.rK [0] ?_
   have hr := Option.some.inj h
   subst hr
   exact ⟨[(eBool b3)], ⟨rfl, rfl, trivial⟩, rfl⟩
end Go.Avl.T2
/- bosket/bosketlaw47.Ref; printed by avmain.py. -/
namespace Go.Avl.T2
open Go Go.RowKit Go.Proofs Go.Avl
set_option linter.unusedVariables false
set_option maxRecDepth 100000
set_option maxHeartbeats 4000000
attribute [local irreducible] AW AO AQ Spec SpecH Calm

def bosketlaw47_Ref (k : Nat) (p0 : S55) : Option S60 :=
  some ((S60.mk p0.f0 p0.f1 p0.f2))
theorem bosketlaw47_Ref_spec {k : Nat} {p0 : S55} {r : S60} (h : bosketlaw47_Ref k p0 = some r) : Spec Try.prog 45 [(e55 p0)] (e60 r) := by
  rw [bosketlaw47_Ref.eq_1] at h
  refine Spec.intro (res := [.cell 2 60]) Try.func45 rfl rfl rfl (Nat.le_of_ble_eq_true rfl) ?_
  refine AW.sr ?_
  refine AO.box rfl 1 rfl (by decide) rfl rfl rfl fun n2 => ?_
  refine AO.alloc rfl 2 rfl (by decide) rfl zr60 lay60 fun n3 => ?_
  refine AO.nH [1, 2] (H' := [(n2, (.mem (e55 p0))), (n3, (.mem (.st [(1, (eI64 (0 : Int))), (1, (eI64 (0 : Int))), (1, (eStr ByteArray.empty))])))]) (Sub.cons 1 rfl (Sub.cons 0 rfl (Sub.nil _))) ?_
  refine AW.sr ?_
  refine AO.c (x := .ptr n2 0) (Calm.fldPtr rfl rfl Try.underlying55 rfl sz3 _ rfl) ?_
  refine AO.c (Calm.load 0 rfl rfl rfl (At.cast (At.fld0 At.here) rfl) ag3 sz3) ?_
  refine AO.c (x := .ptr n2 1) (Calm.fldPtr rfl rfl Try.underlying55 rfl sz3 _ rfl) ?_
  refine AO.c (Calm.load 0 rfl rfl rfl (At.cast (At.fldS (At.fld0 At.here)) rfl) ag3 sz3) ?_
  refine AO.c (x := .ptr n2 2) (Calm.fldPtr rfl rfl Try.underlying55 rfl sz9 _ rfl) ?_
  refine AO.c (Calm.load 0 rfl rfl rfl (At.cast (At.fldS (At.fldS (At.fld0 At.here))) rfl) ag9 sz9) ?_
  refine AO.c (x := .st [(1, (eI64 p0.f0)), (1, (eI64 p0.f1)), (1, (eStr p0.f2))]) (Calm.build (qs := [(0, (eI64 p0.f0)), (1, (eI64 p0.f1)), (2, (eStr p0.f2))]) rfl ⟨rfl, rfl, rfl, rfl, rfl, rfl, rfl, rfl, rfl, trivial⟩ Try.underlying60 rfl zr60 lay60 (.cons rfl rfl rfl rfl (Put.cast (Put.fld0 Put.here) rfl) (.cons rfl rfl rfl rfl (Put.cast (Put.fldS (Put.fld0 Put.here)) rfl) (.cons rfl rfl rfl rfl (Put.cast (Put.fldS (Put.fldS (Put.fld0 Put.here))) rfl) .nil))) rfl) ?_
  refine AO.store (X' := (e60 (S60.mk p0.f0 p0.f1 p0.f2))) 1 rfl rfl rfl rfl rfl rfl (Put.cast Put.here rfl) rfl rfl sz60 rfl ?_
  refine AO.nH [2] (H' := [(n3, (.mem (e60 (S60.mk p0.f0 p0.f1 p0.f2))))]) (Sub.cons 1 rfl (Sub.nil _)) ?_
  refine AW.rK [2] ?_
  have hr := Option.some.inj h
  subst hr
  exact ⟨[(e60 (S60.mk p0.f0 p0.f1 p0.f2))], ⟨⟨_, 0, rfl, rfl, ag60, sz60⟩, trivial⟩, rfl⟩
end Go.Avl.T2
