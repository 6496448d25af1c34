/- Parts: T1B, T1f61, T1f62, T1f43, T1f48, T1f37, T1f63. -/
import Derived.Test.YthfongdjcpmpfaaAv3
import Derived.Test.YthfongdjcpmpfaaProg
/- Types and facts; printed by avmain.py. -/
namespace Go.Avl.T1
open Go Go.RowKit Go.Proofs Go.Avl
set_option linter.unusedVariables false
set_option maxRecDepth 100000
set_option maxHeartbeats 4000000
abbrev e24 (l : List Int) : AV := .fz 1 (l.map eI64)
structure S26 where
  f0 : (Vector Int 256)
  f1 : (List (List Int))
  f2 : (List Int)
deriving Inhabited, DecidableEq
abbrev e26 (x : S26) : AV := .st [(256, (.ar 1 (x.f0.toList.map eU8))), (1, (.fz 1 (x.f1.map e24))), (1, (.fz 1 (x.f2.map eI64)))]
structure S61 where
  f0 : Int
  f1 : ByteArray
  f2 : Int
deriving Inhabited, DecidableEq
abbrev e61 (x : S61) : AV := .st [(1, (eI64 x.f0)), (1, (eStr x.f1)), (1, (eI64 x.f2))]
theorem zr26 : tyZero Try.prog 26 = some (((List.replicate 256 (.int .u8 0)) ++ ([.slice none 0 0] ++ ([.slice none 0 0] ++ [])))) := by rfl
theorem lay26 : ∀ g, Sim g (.st [(256, (.ar 1 ((Vector.replicate 256 (0 : Int)).toList.map eU8))), (1, (.fl (.slice none 0 0))), (1, (.fl (.slice none 0 0)))]) (((List.replicate 256 (.int .u8 0)) ++ ([.slice none 0 0] ++ ([.slice none 0 0] ++ [])))) := fun g => (Sim.stCons (lay_vec1 (lay_fl rfl)) rfl (Sim.stCons (lay_fl rfl) rfl (Sim.stCons (lay_fl rfl) rfl Sim.stNil)))
theorem sz22 : tySize Try.prog 22 = some 256 := by rfl
theorem sz5 : tySize Try.prog 5 = some 1 := by rfl
theorem sz3 : tySize Try.prog 3 = some 1 := by rfl
theorem zr3 : tyZero Try.prog 3 = some ([.int .i64 0]) := by rfl
theorem lay3 : ∀ g, Sim g (eI64 (0 : Int)) ([.int .i64 0]) := fun g => (lay_fl rfl)
theorem sz24 : tySize Try.prog 24 = some 1 := by rfl
theorem zr24 : tyZero Try.prog 24 = some ([.slice none 0 0]) := by rfl
theorem lay24 : ∀ g, Sim g (.fl (.slice none 0 0)) ([.slice none 0 0]) := fun g => (lay_fl rfl)
theorem sz23 : tySize Try.prog 23 = some 1 := by rfl
theorem ag26 : tyAgg Try.prog 26 = some true := by rfl
theorem sz26 : tySize Try.prog 26 = some 258 := by rfl
theorem ag23 : tyAgg Try.prog 23 = some false := by rfl
theorem ag5 : tyAgg Try.prog 5 = some false := by rfl
theorem ag24 : tyAgg Try.prog 24 = some false := by rfl
theorem ag3 : tyAgg Try.prog 3 = some false := by rfl
theorem ok55 : FnOK Try.prog 55 := FnOK.mk Try.func55 rfl rfl
theorem ok56 : FnOK Try.prog 56 := FnOK.mk Try.func56 rfl rfl
theorem ok15 : FnOK Try.prog 15 := FnOK.mk Try.func15 rfl rfl
theorem zr61 : tyZero Try.prog 61 = some (([.int .i64 0] ++ ([.string ByteArray.empty] ++ ([.int .i64 0] ++ [])))) := by rfl
theorem lay61 : ∀ g, Sim g (.st [(1, (eI64 (0 : Int))), (1, (eStr ByteArray.empty)), (1, (eI64 (0 : Int)))]) (([.int .i64 0] ++ ([.string ByteArray.empty] ++ ([.int .i64 0] ++ [])))) := fun g => (Sim.stCons (lay_fl rfl) rfl (Sim.stCons (lay_fl rfl) rfl (Sim.stCons (lay_fl rfl) rfl Sim.stNil)))
theorem sz61 : tySize Try.prog 61 = some 3 := by rfl
theorem by61 : tyBytes Try.prog 61 = some 32 := by rfl
theorem ok52 : FnOK Try.prog 52 := FnOK.mk Try.func52 rfl rfl
theorem ok32 : FnOK Try.prog 32 := FnOK.mk Try.func32 rfl rfl
theorem sz9 : tySize Try.prog 9 = some 1 := by rfl
theorem ag9 : tyAgg Try.prog 9 = some false := by rfl
theorem ag61 : tyAgg Try.prog 61 = some true := by rfl
theorem eqk61 (x y : S61) : EqOK Try.prog 2 61 (e61 x) (e61 y) (decide (x = y)) := (EqOK.struct (bs := [decide (x.f0 = y.f0), decide (x.f1 = y.f1), decide (x.f2 = y.f2)]) Try.underlying61 (by decide +kernel) ⟨⟨rfl, (eI64 x.f0), (eI64 y.f0), (At.cast (At.fld0 At.here) rfl), (At.cast (At.fld0 At.here) rfl), ag3, ag3, sz3, sz3, (EqOK.int Try.underlying3)⟩, ⟨rfl, (eStr x.f1), (eStr y.f1), (At.cast (At.fldS (At.fld0 At.here)) rfl), (At.cast (At.fldS (At.fld0 At.here)) rfl), ag9, ag9, sz9, sz9, (EqOK.str Try.underlying9)⟩, ⟨rfl, (eI64 x.f2), (eI64 y.f2), (At.cast (At.fldS (At.fldS (At.fld0 At.here))) rfl), (At.cast (At.fldS (At.fldS (At.fld0 At.here))) rfl), ag3, ag3, sz3, sz3, (EqOK.int Try.underlying3)⟩, trivial⟩).of (by cases x; cases y; simp)
theorem eg61 : Try.prog.eqGuardType Try.prog.depth 61 = false := by decide +kernel
theorem ok54 : FnOK Try.prog 54 := FnOK.mk Try.func54 rfl rfl
theorem ok53 : FnOK Try.prog 53 := FnOK.mk Try.func53 rfl rfl
theorem ok58 : FnOK Try.prog 58 := FnOK.mk Try.func58 rfl rfl
theorem ok19 : FnOK Try.prog 19 := FnOK.mk Try.func19 rfl rfl
theorem ok57 : FnOK Try.prog 57 := FnOK.mk Try.func57 rfl rfl
theorem ok12 : FnOK Try.prog 12 := FnOK.mk Try.func12 rfl rfl
theorem ok13 : FnOK Try.prog 13 := FnOK.mk Try.func13 rfl rfl
theorem ok14 : FnOK Try.prog 14 := FnOK.mk Try.func14 rfl rfl
theorem ok16 : FnOK Try.prog 16 := FnOK.mk Try.func16 rfl rfl
theorem ok17 : FnOK Try.prog 17 := FnOK.mk Try.func17 rfl rfl
theorem ok18 : FnOK Try.prog 18 := FnOK.mk Try.func18 rfl rfl
theorem by5 : tyBytes Try.prog 5 = some 1 := by rfl
theorem zr5 : tyZero Try.prog 5 = some ([.int .u8 0]) := by rfl
theorem ok33 : FnOK Try.prog 33 := FnOK.mk Try.func33 rfl rfl
theorem ok34 : FnOK Try.prog 34 := FnOK.mk Try.func34 rfl rfl
theorem ok35 : FnOK Try.prog 35 := FnOK.mk Try.func35 rfl rfl
theorem ok36 : FnOK Try.prog 36 := FnOK.mk Try.func36 rfl rfl
theorem ok40 : FnOK Try.prog 40 := FnOK.mk Try.func40 rfl rfl
theorem ok59 : FnOK Try.prog 59 := FnOK.mk Try.func59 rfl rfl
theorem ok60 : FnOK Try.prog 60 := FnOK.mk Try.func60 rfl rfl
theorem ok41 : FnOK Try.prog 41 := FnOK.mk Try.func41 rfl rfl
theorem ok38 : FnOK Try.prog 38 := FnOK.mk Try.func38 rfl rfl
theorem ok30 : FnOK Try.prog 30 := FnOK.mk Try.func30 rfl rfl
theorem zr9 : tyZero Try.prog 9 = some ([.string ByteArray.empty]) := by rfl
theorem lay9 : ∀ g, Sim g (eStr ByteArray.empty) ([.string ByteArray.empty]) := fun g => (lay_fl rfl)
theorem by9 : tyBytes Try.prog 9 = some 16 := by rfl
theorem ok61 : FnOK Try.prog 61 := FnOK.mk Try.func61 rfl rfl
theorem lay5 : ∀ g, Sim g (eU8 (0 : Int)) ([.int .u8 0]) := fun g => (lay_fl rfl)
theorem ok62 : FnOK Try.prog 62 := FnOK.mk Try.func62 rfl rfl
theorem ok43 : FnOK Try.prog 43 := FnOK.mk Try.func43 rfl rfl
theorem ok48 : FnOK Try.prog 48 := FnOK.mk Try.func48 rfl rfl
theorem ok42 : FnOK Try.prog 42 := FnOK.mk Try.func42 rfl rfl
theorem ok37 : FnOK Try.prog 37 := FnOK.mk Try.func37 rfl rfl
theorem ok39 : FnOK Try.prog 39 := FnOK.mk Try.func39 rfl rfl
theorem ok63 : FnOK Try.prog 63 := FnOK.mk Try.func63 rfl rfl
theorem ok46 : FnOK Try.prog 46 := FnOK.mk Try.func46 rfl rfl
theorem ok44 : FnOK Try.prog 44 := FnOK.mk Try.func44 rfl rfl
theorem ok45 : FnOK Try.prog 45 := FnOK.mk Try.func45 rfl rfl
theorem ok47 : FnOK Try.prog 47 := FnOK.mk Try.func47 rfl rfl
theorem ok49 : FnOK Try.prog 49 := FnOK.mk Try.func49 rfl rfl
theorem ok50 : FnOK Try.prog 50 := FnOK.mk Try.func50 rfl rfl
theorem ok51 : FnOK Try.prog 51 := FnOK.mk Try.func51 rfl rfl
end Go.Avl.T1
/- bosket/escape.letter; printed by avmain.py. -/
namespace Go.Avl.T1
open Go Go.RowKit Go.Proofs Go.Avl
set_option linter.unusedVariables false
set_option maxRecDepth 100000
set_option maxHeartbeats 4000000
attribute [local irreducible] AW AO AQ Spec SpecH Calm

def escape_letter (k : Nat) (p0 : Int) : Option Int :=
  if p0 = (10 : Int) then some ((110 : Int))
  else if p0 = (9 : Int) then some ((116 : Int))
  else if p0 = (13 : Int) then some ((114 : Int))
  else some ((0 : Int))
theorem escape_letter_spec {k : Nat} {p0 : Int} {r : Int} (h : escape_letter k p0 = some r) : Spec Try.prog 61 [(eU8 p0)] (eU8 r) := by
  rw [escape_letter.eq_1] at h
  refine Spec.intro (res := [.tmp 2]) Try.func61 rfl rfl rfl (Nat.le_of_ble_eq_true rfl) ?_
  refine AW.seq ?_
  refine AW.reg ?_
  refine AO.calm rfl 2 rfl (by decide) (eU8 (0 : Int)) (Calm.assign rfl rfl) ?_
  refine AO.nil (ρ' := [(0, (eU8 p0))]) (H' := []) ⟨rfl, trivial⟩ (Sub.refl _) ?_
  refine AW.seq ?_
  refine AW.seq ?_
  refine AW.reg ?_
  refine AO.calm rfl 3 rfl (by decide) (eU8 p0) (Calm.move rfl rfl) ?_
  refine AO.nil (ρ' := [(3, (eU8 p0))]) (H' := []) ⟨rfl, trivial⟩ (Sub.refl _) ?_
  refine AW.block ?_
  refine AW.seq ?_
  refine AW.reg ?_
  refine AO.calm rfl 5 rfl (by decide) (eBool (decide (p0 = (10 : Int)))) (Calm.int rfl rfl rfl rfl) ?_
  refine AO.calm rfl 4 rfl (by decide) (eBool (decide (p0 = (10 : Int)))) (Calm.assign rfl rfl) ?_
  refine AO.nil (ρ' := [(3, (eU8 p0)), (4, (eBool (decide (p0 = (10 : Int)))))]) (H' := []) ⟨rfl, rfl, trivial⟩ (Sub.refl _) ?_
  by_cases hc2 : p0 = (10 : Int)
  · have h := (if_pos hc2).symm.trans h
    refine AW.condP (p0 = (10 : Int)) rfl hc2 ?_
    refine AW.seq ?_
    refine AW.reg ?_
    refine AO.calm rfl 2 rfl (by decide) (eU8 (110 : Int)) (Calm.assign rfl rfl) ?_
    refine AO.nil (ρ' := [(2, (eU8 (110 : Int)))]) (H' := []) ⟨rfl, trivial⟩ (Sub.refl _) ?_
    refine AW.ret (ρ' := [(2, (eU8 (110 : Int)))]) (H' := []) ⟨rfl, trivial⟩ (Sub.refl _) ?_
    have hr := Option.some.inj h
    subst hr
    exact ⟨[(eU8 (110 : Int))], ⟨rfl, rfl, trivial⟩, rfl⟩
  · have h := (if_neg hc2).symm.trans h
    refine AW.condN (p0 = (10 : Int)) rfl hc2 ?_
    refine AW.seq ?_
    refine AW.reg ?_
    refine AO.calm rfl 7 rfl (by decide) (eBool (decide (p0 = (9 : Int)))) (Calm.int rfl rfl rfl rfl) ?_
    refine AO.calm rfl 6 rfl (by decide) (eBool (decide (p0 = (9 : Int)))) (Calm.assign rfl rfl) ?_
    refine AO.nil (ρ' := [(3, (eU8 p0)), (6, (eBool (decide (p0 = (9 : Int)))))]) (H' := []) ⟨rfl, rfl, trivial⟩ (Sub.refl _) ?_
    by_cases hc3 : p0 = (9 : Int)
    · have h := (if_pos hc3).symm.trans h
      refine AW.condP (p0 = (9 : Int)) rfl hc3 ?_
      refine AW.seq ?_
      refine AW.reg ?_
      refine AO.calm rfl 2 rfl (by decide) (eU8 (116 : Int)) (Calm.assign rfl rfl) ?_
      refine AO.nil (ρ' := [(2, (eU8 (116 : Int)))]) (H' := []) ⟨rfl, trivial⟩ (Sub.refl _) ?_
      refine AW.ret (ρ' := [(2, (eU8 (116 : Int)))]) (H' := []) ⟨rfl, trivial⟩ (Sub.refl _) ?_
      have hr := Option.some.inj h
      subst hr
      exact ⟨[(eU8 (116 : Int))], ⟨rfl, rfl, trivial⟩, rfl⟩
    · have h := (if_neg hc3).symm.trans h
      refine AW.condN (p0 = (9 : Int)) rfl hc3 ?_
      refine AW.seq ?_
      refine AW.reg ?_
      refine AO.calm rfl 9 rfl (by decide) (eBool (decide (p0 = (13 : Int)))) (Calm.int rfl rfl rfl rfl) ?_
      refine AO.calm rfl 8 rfl (by decide) (eBool (decide (p0 = (13 : Int)))) (Calm.assign rfl rfl) ?_
      refine AO.nil (ρ' := [(8, (eBool (decide (p0 = (13 : Int)))))]) (H' := []) ⟨rfl, trivial⟩ (Sub.refl _) ?_
      by_cases hc4 : p0 = (13 : Int)
      · have h := (if_pos hc4).symm.trans h
        refine AW.condP (p0 = (13 : Int)) rfl hc4 ?_
        refine AW.seq ?_
        refine AW.reg ?_
        refine AO.calm rfl 2 rfl (by decide) (eU8 (114 : Int)) (Calm.assign rfl rfl) ?_
        refine AO.nil (ρ' := [(2, (eU8 (114 : Int)))]) (H' := []) ⟨rfl, trivial⟩ (Sub.refl _) ?_
        refine AW.ret (ρ' := [(2, (eU8 (114 : Int)))]) (H' := []) ⟨rfl, trivial⟩ (Sub.refl _) ?_
        have hr := Option.some.inj h
        subst hr
        exact ⟨[(eU8 (114 : Int))], ⟨rfl, rfl, trivial⟩, rfl⟩
      · have h := (if_neg hc4).symm.trans h
        refine AW.condN (p0 = (13 : Int)) rfl hc4 ?_
        refine AW.skip (ρ' := []) (H' := []) trivial (Sub.refl _) ?_
        refine AW.seq ?_
        refine AW.reg ?_
        refine AO.calm rfl 2 rfl (by decide) (eU8 (0 : Int)) (Calm.assign rfl rfl) ?_
        refine AO.nil (ρ' := [(2, (eU8 (0 : Int)))]) (H' := []) ⟨rfl, trivial⟩ (Sub.refl _) ?_
        refine AW.ret (ρ' := [(2, (eU8 (0 : Int)))]) (H' := []) ⟨rfl, trivial⟩ (Sub.refl _) ?_
        have hr := Option.some.inj h
        subst hr
        exact ⟨[(eU8 (0 : Int))], ⟨rfl, rfl, trivial⟩, rfl⟩
end Go.Avl.T1
/- bosket/escape.digit; printed by avmain.py. -/
namespace Go.Avl.T1
open Go Go.RowKit Go.Proofs Go.Avl
set_option linter.unusedVariables false
set_option maxRecDepth 100000
set_option maxHeartbeats 4000000
attribute [local irreducible] AW AO AQ Spec SpecH Calm

def escape_digit (k : Nat) (p0 : Int) : Option Int :=
  if p0 < (10 : Int) then some ((w8 ((48 : Int) + p0)))
  else some ((w8 ((w8 ((97 : Int) + p0)) - (10 : Int))))
theorem escape_digit_spec {k : Nat} {p0 : Int} {r : Int} (h : escape_digit k p0 = some r) : Spec Try.prog 62 [(eU8 p0)] (eU8 r) := by
  rw [escape_digit.eq_1] at h
  refine Spec.intro (res := [.tmp 2]) Try.func62 rfl rfl rfl (Nat.le_of_ble_eq_true rfl) ?_
  refine AW.seq ?_
  refine AW.reg ?_
  refine AO.calm rfl 2 rfl (by decide) (eU8 (0 : Int)) (Calm.assign rfl rfl) ?_
  refine AO.nil (ρ' := [(0, (eU8 p0))]) (H' := []) ⟨rfl, trivial⟩ (Sub.refl _) ?_
  refine AW.seq ?_
  refine AW.seq ?_
  refine AW.reg ?_
  refine AO.calm rfl 3 rfl (by decide) (eU8 p0) (Calm.move rfl rfl) ?_
  refine AO.calm rfl 4 rfl (by decide) (eBool (decide (p0 < (10 : Int)))) (Calm.int rfl rfl rfl rfl) ?_
  refine AO.nil (ρ' := [(0, (eU8 p0)), (4, (eBool (decide (p0 < (10 : Int)))))]) (H' := []) ⟨rfl, rfl, trivial⟩ (Sub.refl _) ?_
  by_cases hc2 : p0 < (10 : Int)
  · have h := (if_pos hc2).symm.trans h
    refine AW.condP (p0 < (10 : Int)) rfl hc2 ?_
    refine AW.seq ?_
    refine AW.reg ?_
    refine AO.calm rfl 5 rfl (by decide) (eU8 p0) (Calm.move rfl rfl) ?_
    refine AO.calm rfl 6 rfl (by decide) (eU8 (w8 ((48 : Int) + p0))) (Calm.int rfl rfl rfl rfl) ?_
    refine AO.calm rfl 2 rfl (by decide) (eU8 (w8 ((48 : Int) + p0))) (Calm.assign rfl rfl) ?_
    refine AO.nil (ρ' := [(2, (eU8 (w8 ((48 : Int) + p0))))]) (H' := []) ⟨rfl, trivial⟩ (Sub.refl _) ?_
    refine AW.ret (ρ' := [(2, (eU8 (w8 ((48 : Int) + p0))))]) (H' := []) ⟨rfl, trivial⟩ (Sub.refl _) ?_
    have hr := Option.some.inj h
    subst hr
    exact ⟨[(eU8 (w8 ((48 : Int) + p0)))], ⟨rfl, rfl, trivial⟩, rfl⟩
  · have h := (if_neg hc2).symm.trans h
    refine AW.condN (p0 < (10 : Int)) rfl hc2 ?_
    refine AW.skip (ρ' := [(0, (eU8 p0))]) (H' := []) ⟨rfl, trivial⟩ (Sub.refl _) ?_
    refine AW.seq ?_
    refine AW.reg ?_
    refine AO.calm rfl 7 rfl (by decide) (eU8 p0) (Calm.move rfl rfl) ?_
    refine AO.calm rfl 8 rfl (by decide) (eU8 (w8 ((97 : Int) + p0))) (Calm.int rfl rfl rfl rfl) ?_
    refine AO.calm rfl 9 rfl (by decide) (eU8 (w8 ((w8 ((97 : Int) + p0)) - (10 : Int)))) (Calm.int rfl rfl rfl rfl) ?_
    refine AO.calm rfl 2 rfl (by decide) (eU8 (w8 ((w8 ((97 : Int) + p0)) - (10 : Int)))) (Calm.assign rfl rfl) ?_
    refine AO.nil (ρ' := [(2, (eU8 (w8 ((w8 ((97 : Int) + p0)) - (10 : Int)))))]) (H' := []) ⟨rfl, trivial⟩ (Sub.refl _) ?_
    refine AW.ret (ρ' := [(2, (eU8 (w8 ((w8 ((97 : Int) + p0)) - (10 : Int)))))]) (H' := []) ⟨rfl, trivial⟩ (Sub.refl _) ?_
    have hr := Option.some.inj h
    subst hr
    exact ⟨[(eU8 (w8 ((w8 ((97 : Int) + p0)) - (10 : Int))))], ⟨rfl, rfl, trivial⟩, rfl⟩
end Go.Avl.T1
/- bosket/escape.Byte; printed by avmain.py. -/
namespace Go.Avl.T1
open Go Go.RowKit Go.Proofs Go.Avl
set_option linter.unusedVariables false
set_option maxRecDepth 100000
set_option maxHeartbeats 4000000
attribute [local irreducible] AW AO AQ Spec SpecH Calm

def escape_Byte_c0 (k : Nat) (p0 : Int) : Option ByteArray :=
  some ((strOfNums ([p0] : List Int)))
def escape_Byte_l1 (k : Nat) (p0 : Int) (p1 : ByteArray) : Nat → Int → Option ByteArray
  | 0, _ => none
  | j + 1, x15 =>
    if x15 < (p1.size : Int) then if 0 ≤ x15 ∧ x15 < (p1.size : Int) then if (byteAt p1 x15) = p0 then some ((strOfNums ([(92 : Int), p0] : List Int)))
    else (escape_Byte_l1 k p0 p1 j) (w64 (x15 + (1 : Int)))
    else none
    else escape_Byte_c0 k p0
def escape_Byte (k : Nat) (p0 : Int) (p1 : ByteArray) : Option ByteArray :=
  (escape_letter k p0).bind fun t3 =>
  if t3 ≠ (0 : Int) then some ((strOfNums ([(92 : Int), t3] : List Int)))
  else Option.bind (α := Bool) (if p0 < (32 : Int) then some (true)
  else some (decide ((126 : Int) < p0))) fun b6 =>
  if b6 = true then (escape_digit k (Int.fdiv p0 (2 ^ (min (4 : Int).toNat IntKind.u8.bits)))).bind fun t10 =>
  (escape_digit k (bits .and .u8 p0 (15 : Int))).bind fun t11 =>
  some ((strOfNums ([(92 : Int), (120 : Int), t10, t11] : List Int)))
  else if p0 = (92 : Int) then some ((ByteArray.mk #[92, 92]))
  else escape_Byte_l1 k p0 p1 k (0 : Int)
theorem escape_Byte_spec {k : Nat} {p0 : Int} {p1 : ByteArray} {r : ByteArray} (h : escape_Byte k p0 p1 = some r) : Spec Try.prog 43 [(eU8 p0), (eStr p1)] (eStr r) := by
  rw [escape_Byte.eq_1] at h
  refine Spec.intro (res := [.tmp 4]) Try.func43 rfl rfl rfl (Nat.le_of_ble_eq_true rfl) ?_
  refine AW.seq ?_
  refine AW.reg ?_
  refine AO.calm rfl 4 rfl (by decide) (eStr (ByteArray.mk #[])) (Calm.assign rfl rfl) ?_
  refine AO.nil (ρ' := [(0, (eU8 p0)), (1, (eStr p1))]) (H' := []) ⟨rfl, rfl, trivial⟩ (Sub.refl _) ?_
  refine AW.seq ?_
  refine AW.seq ?_
  refine AW.reg ?_
  refine AO.calm rfl 7 rfl (by decide) (eU8 p0) (Calm.move rfl rfl) ?_
  obtain ⟨t3, et3, h⟩ := of_bind h
  refine AO.callS [(eU8 p0)] (eU8 t3) 8 rfl (by decide) ok61 rfl rfl rfl ⟨rfl, rfl, trivial⟩ (escape_letter_spec et3) ?_
  refine AO.calm rfl 5 rfl (by decide) (eU8 t3) (Calm.assign rfl rfl) ?_
  refine AO.nil (ρ' := [(0, (eU8 p0)), (1, (eStr p1)), (5, (eU8 t3))]) (H' := []) ⟨rfl, rfl, rfl, trivial⟩ (Sub.refl _) ?_
  refine AW.seq ?_
  refine AW.reg ?_
  refine AO.calm rfl 9 rfl (by decide) (eU8 t3) (Calm.move rfl rfl) ?_
  refine AO.calm rfl 10 rfl (by decide) (eBool (decide (t3 ≠ (0 : Int)))) (Calm.int rfl rfl rfl rfl) ?_
  refine AO.nil (ρ' := [(0, (eU8 p0)), (1, (eStr p1)), (5, (eU8 t3)), (10, (eBool (decide (t3 ≠ (0 : Int)))))]) (H' := []) ⟨rfl, rfl, rfl, rfl, trivial⟩ (Sub.refl _) ?_
  by_cases hc4 : t3 ≠ (0 : Int)
  · have h := (if_pos hc4).symm.trans h
    refine AW.condP (t3 ≠ (0 : Int)) rfl hc4 ?_
    refine AW.seq ?_
    refine AW.reg ?_
    refine AO.calm rfl 11 rfl (by decide) (eU8 t3) (Calm.move rfl rfl) ?_
    refine AO.lit (Z := (eU8 (0 : Int))) (xs := (([(92 : Int), t3] : List Int).map eU8)) (qs := [(0, (eU8 (92 : Int))), (1, (eU8 t3))]) rfl 12 rfl (by decide) rfl ⟨rfl, rfl, rfl, rfl, rfl, rfl, trivial⟩ Try.underlying87 sz5 zr5 lay5 rfl (by decide) (litOK (z := 1) [(eU8 (92 : Int)), (eU8 t3)] rfl ⟨⟨rfl, rfl⟩, ⟨rfl, rfl⟩, trivial⟩) rfl fun n5 => ?_
    refine AO.calm rfl 13 rfl (by decide) (eStr (strOfNums ([(92 : Int), t3] : List Int))) (Calm.strO 0 rfl rfl rfl Try.underlying87 Try.underlying9 Try.underlying5) ?_
    refine AO.calm rfl 4 rfl (by decide) (eStr (strOfNums ([(92 : Int), t3] : List Int))) (Calm.assign rfl rfl) ?_
    refine AO.nil (ρ' := [(4, (eStr (strOfNums ([(92 : Int), t3] : List Int))))]) (H' := []) ⟨rfl, trivial⟩ (Sub.nil _) ?_
    refine AW.ret (ρ' := [(4, (eStr (strOfNums ([(92 : Int), t3] : List Int))))]) (H' := []) ⟨rfl, trivial⟩ (Sub.refl _) ?_
    have hr := Option.some.inj h
    subst hr
    exact ⟨[(eStr (strOfNums ([(92 : Int), t3] : List Int)))], ⟨rfl, rfl, trivial⟩, rfl⟩
  · have h := (if_neg hc4).symm.trans h
    refine AW.condN (t3 ≠ (0 : Int)) rfl hc4 ?_
    refine AW.skip (ρ' := [(0, (eU8 p0)), (1, (eStr p1))]) (H' := []) ⟨rfl, rfl, trivial⟩ (Sub.refl _) ?_
    refine AW.seq ?_
    refine AW.seq ?_
    obtain ⟨b6, hq7, h⟩ := of_bind h
    refine AW.regM [(0, (eU8 p0)), (1, (eStr p1)), (19, (eBool b6))] [] ?_ ?_
    · refine AO.calm rfl 14 rfl (by decide) (eU8 p0) (Calm.move rfl rfl) ?_
      refine AO.calm rfl 15 rfl (by decide) (eBool (decide (p0 < (32 : Int)))) (Calm.int rfl rfl rfl rfl) ?_
      refine AO.calm rfl 16 rfl (by decide) (eBool (decide (p0 < (32 : Int)))) (Calm.move rfl rfl) ?_
      by_cases hc8 : p0 < (32 : Int)
      · have hq7 := (if_pos hc8).symm.trans hq7
        refine AO.skipG 2 true 16 rfl rfl (congrArg (fun b => some (AV.fl (Value.bool b))) (decide_eq_true hc8)) 17 rfl (by decide) ?_
        refine AO.skipG 2 true 16 rfl rfl (congrArg (fun b => some (AV.fl (Value.bool b))) (decide_eq_true hc8)) 18 rfl (by decide) ?_
        refine AO.calm rfl 19 rfl (by decide) (eBool true) (Calm.pickT rfl (congrArg (fun b => some (AV.fl (Value.bool b))) (decide_eq_true hc8)) rfl) ?_
        cases hq7
        refine AO.nilE ⟨rfl, rfl⟩ ?_ ?_
        · exact ⟨rfl, rfl, rfl, trivial⟩
        · exact (Sub.refl _)
      · have hq7 := (if_neg hc8).symm.trans hq7
        refine AO.calmG 2 false 16 rfl rfl (congrArg (fun b => some (AV.fl (Value.bool b))) (decide_eq_false hc8)) 17 rfl (by decide) (eU8 p0) (Calm.move rfl rfl) ?_
        refine AO.calmG 2 false 16 rfl rfl (congrArg (fun b => some (AV.fl (Value.bool b))) (decide_eq_false hc8)) 18 rfl (by decide) (eBool (decide ((126 : Int) < p0))) (Calm.int rfl rfl rfl rfl) ?_
        refine AO.calm rfl 19 rfl (by decide) (eBool (decide ((126 : Int) < p0))) (Calm.pickF rfl (congrArg (fun b => some (AV.fl (Value.bool b))) (decide_eq_false hc8)) rfl) ?_
        cases hq7
        refine AO.nilE ⟨rfl, rfl⟩ ?_ ?_
        · exact ⟨rfl, rfl, rfl, trivial⟩
        · exact (Sub.refl _)
    · by_cases hc9 : b6 = true
      · have h := (if_pos hc9).symm.trans h
        refine AW.condT' b6 rfl hc9 ?_
        refine AW.seq ?_
        refine AW.reg ?_
        refine AO.calm rfl 20 rfl (by decide) (eU8 p0) (Calm.move rfl rfl) ?_
        refine AO.calm rfl 21 rfl (by decide) (eU8 (Int.fdiv p0 (2 ^ (min (4 : Int).toNat IntKind.u8.bits)))) (Calm.shr rfl rfl rfl (by decide)) ?_
        obtain ⟨t10, et10, h⟩ := of_bind h
        refine AO.callS [(eU8 (Int.fdiv p0 (2 ^ (min (4 : Int).toNat IntKind.u8.bits))))] (eU8 t10) 22 rfl (by decide) ok62 rfl rfl rfl ⟨rfl, rfl, trivial⟩ (escape_digit_spec et10) ?_
        refine AO.calm rfl 23 rfl (by decide) (eU8 p0) (Calm.move rfl rfl) ?_
        refine AO.calm rfl 24 rfl (by decide) (eU8 (bits .and .u8 p0 (15 : Int))) (Calm.int rfl rfl rfl rfl) ?_
        obtain ⟨t11, et11, h⟩ := of_bind h
        refine AO.callS [(eU8 (bits .and .u8 p0 (15 : Int)))] (eU8 t11) 25 rfl (by decide) ok62 rfl rfl rfl ⟨rfl, rfl, trivial⟩ (escape_digit_spec et11) ?_
        refine AO.lit (Z := (eU8 (0 : Int))) (xs := (([(92 : Int), (120 : Int), t10, t11] : List Int).map eU8)) (qs := [(0, (eU8 (92 : Int))), (1, (eU8 (120 : Int))), (2, (eU8 t10)), (3, (eU8 t11))]) rfl 26 rfl (by decide) rfl ⟨rfl, rfl, rfl, rfl, rfl, rfl, rfl, rfl, rfl, rfl, rfl, rfl, trivial⟩ Try.underlying87 sz5 zr5 lay5 rfl (by decide) (litOK (z := 1) [(eU8 (92 : Int)), (eU8 (120 : Int)), (eU8 t10), (eU8 t11)] rfl ⟨⟨rfl, rfl⟩, ⟨rfl, rfl⟩, ⟨rfl, rfl⟩, ⟨rfl, rfl⟩, trivial⟩) rfl fun n12 => ?_
        refine AO.calm rfl 27 rfl (by decide) (eStr (strOfNums ([(92 : Int), (120 : Int), t10, t11] : List Int))) (Calm.strO 0 rfl rfl rfl Try.underlying87 Try.underlying9 Try.underlying5) ?_
        refine AO.calm rfl 4 rfl (by decide) (eStr (strOfNums ([(92 : Int), (120 : Int), t10, t11] : List Int))) (Calm.assign rfl rfl) ?_
        refine AO.nil (ρ' := [(4, (eStr (strOfNums ([(92 : Int), (120 : Int), t10, t11] : List Int))))]) (H' := []) ⟨rfl, trivial⟩ (Sub.nil _) ?_
        refine AW.ret (ρ' := [(4, (eStr (strOfNums ([(92 : Int), (120 : Int), t10, t11] : List Int))))]) (H' := []) ⟨rfl, trivial⟩ (Sub.refl _) ?_
        have hr := Option.some.inj h
        subst hr
        exact ⟨[(eStr (strOfNums ([(92 : Int), (120 : Int), t10, t11] : List Int)))], ⟨rfl, rfl, trivial⟩, rfl⟩
      · have h := (if_neg hc9).symm.trans h
        refine AW.condF' b6 rfl hc9 ?_
        refine AW.skip (ρ' := [(0, (eU8 p0)), (1, (eStr p1))]) (H' := []) ⟨rfl, rfl, trivial⟩ (Sub.refl _) ?_
        refine AW.seq ?_
        refine AW.seq ?_
        refine AW.reg ?_
        refine AO.calm rfl 28 rfl (by decide) (eU8 p0) (Calm.move rfl rfl) ?_
        refine AO.calm rfl 29 rfl (by decide) (eBool (decide (p0 = (92 : Int)))) (Calm.int rfl rfl rfl rfl) ?_
        refine AO.nil (ρ' := [(0, (eU8 p0)), (1, (eStr p1)), (29, (eBool (decide (p0 = (92 : Int)))))]) (H' := []) ⟨rfl, rfl, rfl, trivial⟩ (Sub.refl _) ?_
        by_cases hc13 : p0 = (92 : Int)
        · have h := (if_pos hc13).symm.trans h
          refine AW.condP (p0 = (92 : Int)) rfl hc13 ?_
          refine AW.seq ?_
          refine AW.reg ?_
          refine AO.calm rfl 4 rfl (by decide) (eStr (ByteArray.mk #[92, 92])) (Calm.assign rfl rfl) ?_
          refine AO.nil (ρ' := [(4, (eStr (ByteArray.mk #[92, 92])))]) (H' := []) ⟨rfl, trivial⟩ (Sub.refl _) ?_
          refine AW.ret (ρ' := [(4, (eStr (ByteArray.mk #[92, 92])))]) (H' := []) ⟨rfl, trivial⟩ (Sub.refl _) ?_
          have hr := Option.some.inj h
          subst hr
          exact ⟨[(eStr (ByteArray.mk #[92, 92]))], ⟨rfl, rfl, trivial⟩, rfl⟩
        · have h := (if_neg hc13).symm.trans h
          refine AW.condN (p0 = (92 : Int)) rfl hc13 ?_
          refine AW.skip (ρ' := [(0, (eU8 p0)), (1, (eStr p1))]) (H' := []) ⟨rfl, rfl, trivial⟩ (Sub.refl _) ?_
          refine AW.seq_mid (fun ρ H => ρ = [(0, (eU8 p0))] ∧ H = [] ∧ escape_Byte_c0 k p0 = some r) ?_ ?_
          · refine AW.seq ?_
            refine AW.reg ?_
            refine AO.calm rfl 30 rfl (by decide) (eStr p1) (Calm.move rfl rfl) ?_
            refine AO.calm rfl 31 rfl (by decide) (eI64 (p1.size : Int)) (Calm.lenStr rfl rfl Try.underlying9) ?_
            refine AO.calm rfl 32 rfl (by decide) (eI64 (0 : Int)) (Calm.move rfl rfl) ?_
            refine AO.nil (ρ' := [(0, (eU8 p0)), (1, (eStr p1)), (31, (eI64 (p1.size : Int))), (32, (eI64 (0 : Int)))]) (H' := []) ⟨rfl, rfl, rfl, rfl, trivial⟩ (Sub.refl _) ?_
            refine AW.block ?_
            refine AW.weak (ρ' := [(0, (eU8 p0)), (1, (eStr p1)), (31, (eI64 (p1.size : Int))), (32, (eI64 (0 : Int)))]) (H' := []) ⟨rfl, rfl, rfl, rfl, trivial⟩ (Sub.refl _) ?_
            refine AW.loop (fun kq ρ H => ∃ (x15 : Int), ρ = [(0, (eU8 p0)), (1, (eStr p1)), (31, (eI64 (p1.size : Int))), (32, (eI64 x15))] ∧ H = [] ∧ escape_Byte_l1 k p0 p1 kq x15 = some r) k ⟨(0 : Int), rfl, rfl, h⟩ ?_
            rintro kq17 _ _ ⟨x15, rfl, rfl, h⟩
            cases kq17 with
            | zero => rw [escape_Byte_l1.eq_1] at h; cases h
            | succ kq17 =>
            rw [escape_Byte_l1.eq_2] at h
            generalize hrec16 : escape_Byte_l1 k p0 p1 kq17 = rec16 at h
            refine AW.seq ?_
            refine AW.reg ?_
            refine AO.calm rfl 33 rfl (by decide) (eBool (decide (x15 < (p1.size : Int)))) (Calm.int rfl rfl rfl rfl) ?_
            refine AO.nil (ρ' := [(0, (eU8 p0)), (1, (eStr p1)), (31, (eI64 (p1.size : Int))), (32, (eI64 x15)), (33, (eBool (decide (x15 < (p1.size : Int)))))]) (H' := []) ⟨rfl, rfl, rfl, rfl, rfl, trivial⟩ (Sub.refl _) ?_
            refine AW.seq ?_
            by_cases hc18 : x15 < (p1.size : Int)
            · have h := (if_pos hc18).symm.trans h
              refine AW.condP (x15 < (p1.size : Int)) rfl hc18 ?_
              refine AW.skip (ρ' := [(0, (eU8 p0)), (1, (eStr p1)), (31, (eI64 (p1.size : Int))), (32, (eI64 x15))]) (H' := []) ⟨rfl, rfl, rfl, rfl, trivial⟩ (Sub.refl _) ?_
              refine AW.seq ?_
              refine AW.block ?_
              refine AW.seq ?_
              refine AW.reg ?_
              refine AO.calm rfl 34 rfl (by decide) (eI64 x15) (Calm.move rfl rfl) ?_
              refine AO.calm rfl 6 rfl (by decide) (eI64 x15) (Calm.assign rfl rfl) ?_
              refine AO.nil (ρ' := [(0, (eU8 p0)), (1, (eStr p1)), (6, (eI64 x15)), (31, (eI64 (p1.size : Int))), (32, (eI64 x15))]) (H' := []) ⟨rfl, rfl, rfl, rfl, rfl, trivial⟩ (Sub.refl _) ?_
              refine AW.seq ?_
              refine AW.reg ?_
              refine AO.calm rfl 35 rfl (by decide) (eStr p1) (Calm.move rfl rfl) ?_
              refine AO.calm rfl 36 rfl (by decide) (eI64 x15) (Calm.move rfl rfl) ?_
              obtain ⟨hg19, h⟩ := of_guard h
              refine AO.calm rfl 37 rfl (by decide) (eU8 (byteAt p1 x15)) (Calm.idxS rfl rfl rfl hg19 Try.underlying9) ?_
              refine AO.calm rfl 38 rfl (by decide) (eU8 p0) (Calm.move rfl rfl) ?_
              refine AO.calm rfl 39 rfl (by decide) (eBool (decide ((byteAt p1 x15) = p0))) (Calm.int rfl rfl rfl rfl) ?_
              refine AO.nil (ρ' := [(0, (eU8 p0)), (1, (eStr p1)), (31, (eI64 (p1.size : Int))), (32, (eI64 x15)), (39, (eBool (decide ((byteAt p1 x15) = p0))))]) (H' := []) ⟨rfl, rfl, rfl, rfl, rfl, trivial⟩ (Sub.refl _) ?_
              by_cases hc20 : (byteAt p1 x15) = p0
              · have h := (if_pos hc20).symm.trans h
                refine AW.condP ((byteAt p1 x15) = p0) rfl hc20 ?_
                refine AW.seq ?_
                refine AW.reg ?_
                refine AO.calm rfl 40 rfl (by decide) (eU8 p0) (Calm.move rfl rfl) ?_
                refine AO.lit (Z := (eU8 (0 : Int))) (xs := (([(92 : Int), p0] : List Int).map eU8)) (qs := [(0, (eU8 (92 : Int))), (1, (eU8 p0))]) rfl 41 rfl (by decide) rfl ⟨rfl, rfl, rfl, rfl, rfl, rfl, trivial⟩ Try.underlying87 sz5 zr5 lay5 rfl (by decide) (litOK (z := 1) [(eU8 (92 : Int)), (eU8 p0)] rfl ⟨⟨rfl, rfl⟩, ⟨rfl, rfl⟩, trivial⟩) rfl fun n21 => ?_
                refine AO.calm rfl 42 rfl (by decide) (eStr (strOfNums ([(92 : Int), p0] : List Int))) (Calm.strO 0 rfl rfl rfl Try.underlying87 Try.underlying9 Try.underlying5) ?_
                refine AO.calm rfl 4 rfl (by decide) (eStr (strOfNums ([(92 : Int), p0] : List Int))) (Calm.assign rfl rfl) ?_
                refine AO.nil (ρ' := [(4, (eStr (strOfNums ([(92 : Int), p0] : List Int))))]) (H' := []) ⟨rfl, trivial⟩ (Sub.nil _) ?_
                refine AW.ret (ρ' := [(4, (eStr (strOfNums ([(92 : Int), p0] : List Int))))]) (H' := []) ⟨rfl, trivial⟩ (Sub.refl _) ?_
                have hr := Option.some.inj h
                subst hr
                exact ⟨[(eStr (strOfNums ([(92 : Int), p0] : List Int)))], ⟨rfl, rfl, trivial⟩, rfl⟩
              · have h := (if_neg hc20).symm.trans h
                refine AW.condN ((byteAt p1 x15) = p0) rfl hc20 ?_
                refine AW.skip (ρ' := [(0, (eU8 p0)), (1, (eStr p1)), (31, (eI64 (p1.size : Int))), (32, (eI64 x15))]) (H' := []) ⟨rfl, rfl, rfl, rfl, trivial⟩ (Sub.refl _) ?_
                refine AW.reg ?_
                refine AO.calm rfl 43 rfl (by decide) (eI64 (w64 (x15 + (1 : Int)))) (Calm.int rfl rfl rfl rfl) ?_
                refine AO.calm rfl 32 rfl (by decide) (eI64 (w64 (x15 + (1 : Int)))) (Calm.move rfl rfl) ?_
                refine AO.nil (ρ' := [(0, (eU8 p0)), (1, (eStr p1)), (31, (eI64 (p1.size : Int))), (32, (eI64 (w64 (x15 + (1 : Int)))))]) (H' := []) ⟨rfl, rfl, rfl, rfl, trivial⟩ (Sub.refl _) ?_
                exact ⟨kq17, Nat.lt_succ_self _, (w64 (x15 + (1 : Int))), rfl, rfl, by rw [hrec16]; exact h⟩
            · have h := (if_neg hc18).symm.trans h
              refine AW.condN (x15 < (p1.size : Int)) rfl hc18 ?_
              refine AW.exit (ρ' := [(0, (eU8 p0))]) (H' := []) ⟨rfl, trivial⟩ (Sub.refl _) ?_
              exact ⟨rfl, rfl, h⟩
          · rintro _ _ ⟨rfl, rfl, h⟩
            rw [escape_Byte_c0.eq_1] at h
            refine AW.seq ?_
            refine AW.reg ?_
            refine AO.calm rfl 44 rfl (by decide) (eU8 p0) (Calm.move rfl rfl) ?_
            refine AO.lit (Z := (eU8 (0 : Int))) (xs := (([p0] : List Int).map eU8)) (qs := [(0, (eU8 p0))]) rfl 45 rfl (by decide) rfl ⟨rfl, rfl, rfl, trivial⟩ Try.underlying87 sz5 zr5 lay5 rfl (by decide) (litOK (z := 1) [(eU8 p0)] rfl ⟨⟨rfl, rfl⟩, trivial⟩) rfl fun n14 => ?_
            refine AO.calm rfl 46 rfl (by decide) (eStr (strOfNums ([p0] : List Int))) (Calm.strO 0 rfl rfl rfl Try.underlying87 Try.underlying9 Try.underlying5) ?_
            refine AO.calm rfl 4 rfl (by decide) (eStr (strOfNums ([p0] : List Int))) (Calm.assign rfl rfl) ?_
            refine AO.nil (ρ' := [(4, (eStr (strOfNums ([p0] : List Int))))]) (H' := []) ⟨rfl, trivial⟩ (Sub.nil _) ?_
            refine AW.ret (ρ' := [(4, (eStr (strOfNums ([p0] : List Int))))]) (H' := []) ⟨rfl, trivial⟩ (Sub.refl _) ?_
            have hr := Option.some.inj h
            subst hr
            exact ⟨[(eStr (strOfNums ([p0] : List Int)))], ⟨rfl, rfl, trivial⟩, rfl⟩
end Go.Avl.T1
/- bosket/escape.Quote; printed by avmain.py. -/
namespace Go.Avl.T1
open Go Go.RowKit Go.Proofs Go.Avl
set_option linter.unusedVariables false
set_option maxRecDepth 100000
set_option maxHeartbeats 4000000
attribute [local irreducible] AW AO AQ Spec SpecH Calm

def escape_Quote_c0 (k : Nat) (p1 : Int) (x4 : ByteArray) : Option ByteArray :=
  if x4.size + (strOfNums ([p1] : List Int)).size ≤ 9223372036854775807 then some ((x4 ++ (strOfNums ([p1] : List Int))))
  else none
def escape_Quote_l1 (k : Nat) (p0 : ByteArray) (p1 : Int) : Nat → ByteArray → Int → Option ByteArray
  | 0, _, _ => none
  | j + 1, x7, x8 =>
    if x8 < (p0.size : Int) then if 0 ≤ x8 ∧ x8 < (p0.size : Int) then (escape_Byte k (byteAt p0 x8) (strOfNums ([p1] : List Int))).bind fun t14 =>
    if x7.size + t14.size ≤ 9223372036854775807 then (escape_Quote_l1 k p0 p1 j) (x7 ++ t14) (w64 (x8 + (1 : Int)))
    else none
    else none
    else escape_Quote_c0 k p1 x7
def escape_Quote (k : Nat) (p0 : ByteArray) (p1 : Int) : Option ByteArray :=
  escape_Quote_l1 k p0 p1 k (strOfNums ([p1] : List Int)) (0 : Int)
theorem escape_Quote_spec {k : Nat} {p0 : ByteArray} {p1 : Int} {r : ByteArray} (h : escape_Quote k p0 p1 = some r) : Spec Try.prog 48 [(eStr p0), (eU8 p1)] (eStr r) := by
  rw [escape_Quote.eq_1] at h
  refine Spec.intro (res := [.tmp 4]) Try.func48 rfl rfl rfl (Nat.le_of_ble_eq_true rfl) ?_
  refine AW.seq ?_
  refine AW.reg ?_
  refine AO.calm rfl 4 rfl (by decide) (eStr (ByteArray.mk #[])) (Calm.assign rfl rfl) ?_
  refine AO.nil (ρ' := [(0, (eStr p0)), (1, (eU8 p1))]) (H' := []) ⟨rfl, rfl, trivial⟩ (Sub.refl _) ?_
  refine AW.seq ?_
  refine AW.reg ?_
  refine AO.calm rfl 7 rfl (by decide) (eU8 p1) (Calm.move rfl rfl) ?_
  refine AO.lit (Z := (eU8 (0 : Int))) (xs := (([p1] : List Int).map eU8)) (qs := [(0, (eU8 p1))]) rfl 8 rfl (by decide) rfl ⟨rfl, rfl, rfl, trivial⟩ Try.underlying87 sz5 zr5 lay5 rfl (by decide) (litOK (z := 1) [(eU8 p1)] rfl ⟨⟨rfl, rfl⟩, trivial⟩) rfl fun n3 => ?_
  refine AO.calm rfl 9 rfl (by decide) (eStr (strOfNums ([p1] : List Int))) (Calm.strO 0 rfl rfl rfl Try.underlying87 Try.underlying9 Try.underlying5) ?_
  refine AO.calm rfl 5 rfl (by decide) (eStr (strOfNums ([p1] : List Int))) (Calm.assign rfl rfl) ?_
  refine AO.nil (ρ' := [(0, (eStr p0)), (1, (eU8 p1)), (5, (eStr (strOfNums ([p1] : List Int))))]) (H' := []) ⟨rfl, rfl, rfl, trivial⟩ (Sub.nil _) ?_
  refine AW.seq_mid (fun ρ H => ∃ (x4 : ByteArray), ρ = [(1, (eU8 p1)), (5, (eStr x4))] ∧ H = [] ∧ escape_Quote_c0 k p1 x4 = some r) ?_ ?_
  · refine AW.seq ?_
    refine AW.reg ?_
    refine AO.calm rfl 10 rfl (by decide) (eStr p0) (Calm.move rfl rfl) ?_
    refine AO.calm rfl 11 rfl (by decide) (eI64 (p0.size : Int)) (Calm.lenStr rfl rfl Try.underlying9) ?_
    refine AO.calm rfl 12 rfl (by decide) (eI64 (0 : Int)) (Calm.move rfl rfl) ?_
    refine AO.nil (ρ' := [(0, (eStr p0)), (1, (eU8 p1)), (5, (eStr (strOfNums ([p1] : List Int)))), (11, (eI64 (p0.size : Int))), (12, (eI64 (0 : Int)))]) (H' := []) ⟨rfl, rfl, rfl, rfl, rfl, trivial⟩ (Sub.refl _) ?_
    refine AW.block ?_
    refine AW.weak (ρ' := [(0, (eStr p0)), (1, (eU8 p1)), (5, (eStr (strOfNums ([p1] : List Int)))), (11, (eI64 (p0.size : Int))), (12, (eI64 (0 : Int)))]) (H' := []) ⟨rfl, rfl, rfl, rfl, rfl, trivial⟩ (Sub.refl _) ?_
    refine AW.loop (fun kq ρ H => ∃ (x7 : ByteArray) (x8 : Int), ρ = [(0, (eStr p0)), (1, (eU8 p1)), (5, (eStr x7)), (11, (eI64 (p0.size : Int))), (12, (eI64 x8))] ∧ H = [] ∧ escape_Quote_l1 k p0 p1 kq x7 x8 = some r) k ⟨(strOfNums ([p1] : List Int)), (0 : Int), rfl, rfl, h⟩ ?_
    rintro kq10 _ _ ⟨x7, x8, rfl, rfl, h⟩
    cases kq10 with
    | zero => rw [escape_Quote_l1.eq_1] at h; cases h
    | succ kq10 =>
    rw [escape_Quote_l1.eq_2] at h
    generalize hrec9 : escape_Quote_l1 k p0 p1 kq10 = rec9 at h
    refine AW.seq ?_
    refine AW.reg ?_
    refine AO.calm rfl 13 rfl (by decide) (eBool (decide (x8 < (p0.size : Int)))) (Calm.int rfl rfl rfl rfl) ?_
    refine AO.nil (ρ' := [(0, (eStr p0)), (1, (eU8 p1)), (5, (eStr x7)), (11, (eI64 (p0.size : Int))), (12, (eI64 x8)), (13, (eBool (decide (x8 < (p0.size : Int)))))]) (H' := []) ⟨rfl, rfl, rfl, rfl, rfl, rfl, trivial⟩ (Sub.refl _) ?_
    refine AW.seq ?_
    by_cases hc11 : x8 < (p0.size : Int)
    · have h := (if_pos hc11).symm.trans h
      refine AW.condP (x8 < (p0.size : Int)) rfl hc11 ?_
      refine AW.skip (ρ' := [(0, (eStr p0)), (1, (eU8 p1)), (5, (eStr x7)), (11, (eI64 (p0.size : Int))), (12, (eI64 x8))]) (H' := []) ⟨rfl, rfl, rfl, rfl, rfl, trivial⟩ (Sub.refl _) ?_
      refine AW.seq ?_
      refine AW.block ?_
      refine AW.seq ?_
      refine AW.reg ?_
      refine AO.calm rfl 14 rfl (by decide) (eI64 x8) (Calm.move rfl rfl) ?_
      refine AO.calm rfl 6 rfl (by decide) (eI64 x8) (Calm.assign rfl rfl) ?_
      refine AO.nil (ρ' := [(0, (eStr p0)), (1, (eU8 p1)), (5, (eStr x7)), (6, (eI64 x8)), (11, (eI64 (p0.size : Int))), (12, (eI64 x8))]) (H' := []) ⟨rfl, rfl, rfl, rfl, rfl, rfl, trivial⟩ (Sub.refl _) ?_
      obtain ⟨hg12, h⟩ := of_guard h
      obtain ⟨t14, et14, h⟩ := of_bind h
      obtain ⟨hg15, h⟩ := of_guard h
      refine AW.regAny (by rfl) (by decide +kernel) [(eStr x7), (eStr p0), (eI64 x8), (eU8 (byteAt p0 x8)), (eU8 p1), (.fz 1 (([p1] : List Int).map eU8)), (eStr (strOfNums ([p1] : List Int))), (eStr t14), (eStr (x7 ++ t14)), (eStr (x7 ++ t14))] [(0, (eStr p0)), (1, (eU8 p1)), (5, (eStr x7)), (6, (eI64 x8)), (11, (eI64 (p0.size : Int))), (12, (eI64 x8))] ⟨rfl, rfl, rfl, rfl, rfl, rfl, trivial⟩ rfl ?_ [(0, (eStr p0)), (1, (eU8 p1)), (5, (eStr (x7 ++ t14))), (11, (eI64 (p0.size : Int))), (12, (eI64 x8))] [] ⟨rfl, rfl, rfl, rfl, rfl, trivial⟩ (Sub.refl _) ?_
      · refine ⟨?_, ?_, ?_, ?_, ?_, ?_, ?_, ?_, ?_, ?_, trivial⟩
        · refine AO.weak (ρ' := [(5, (eStr x7))]) (H' := []) ⟨rfl, trivial⟩ (Sub.refl _) ?_
          refine AO.calm rfl 15 rfl (by decide) (eStr x7) (Calm.move rfl rfl) ?_
          exact AO.nilE (ρ' := [(15, (eStr x7))]) (H' := []) ⟨⟨_, rfl, rfl⟩, Sub.refl _⟩ ⟨rfl, trivial⟩ (Sub.refl _)
        · refine AO.weak (ρ' := [(0, (eStr p0))]) (H' := []) ⟨rfl, trivial⟩ (Sub.refl _) ?_
          refine AO.calm rfl 16 rfl (by decide) (eStr p0) (Calm.move rfl rfl) ?_
          exact AO.nilE (ρ' := [(16, (eStr p0))]) (H' := []) ⟨⟨_, rfl, rfl⟩, Sub.refl _⟩ ⟨rfl, trivial⟩ (Sub.refl _)
        · refine AO.weak (ρ' := [(6, (eI64 x8))]) (H' := []) ⟨rfl, trivial⟩ (Sub.refl _) ?_
          refine AO.calm rfl 17 rfl (by decide) (eI64 x8) (Calm.move rfl rfl) ?_
          exact AO.nilE (ρ' := [(17, (eI64 x8))]) (H' := []) ⟨⟨_, rfl, rfl⟩, Sub.refl _⟩ ⟨rfl, trivial⟩ (Sub.refl _)
        · refine AO.weak (ρ' := [(16, (eStr p0)), (17, (eI64 x8))]) (H' := []) ⟨rfl, rfl, trivial⟩ (Sub.refl _) ?_
          refine AO.calm rfl 18 rfl (by decide) (eU8 (byteAt p0 x8)) (Calm.idxS rfl rfl rfl hg12 Try.underlying9) ?_
          exact AO.nilE (ρ' := [(18, (eU8 (byteAt p0 x8)))]) (H' := []) ⟨⟨_, rfl, rfl⟩, Sub.refl _⟩ ⟨rfl, trivial⟩ (Sub.refl _)
        · refine AO.weak (ρ' := [(1, (eU8 p1))]) (H' := []) ⟨rfl, trivial⟩ (Sub.refl _) ?_
          refine AO.calm rfl 19 rfl (by decide) (eU8 p1) (Calm.move rfl rfl) ?_
          exact AO.nilE (ρ' := [(19, (eU8 p1))]) (H' := []) ⟨⟨_, rfl, rfl⟩, Sub.refl _⟩ ⟨rfl, trivial⟩ (Sub.refl _)
        · refine AO.weak (ρ' := [(19, (eU8 p1))]) (H' := []) ⟨rfl, trivial⟩ (Sub.refl _) ?_
          refine AO.lit (Z := (eU8 (0 : Int))) (xs := (([p1] : List Int).map eU8)) (qs := [(0, (eU8 p1))]) rfl 20 rfl (by decide) rfl ⟨rfl, rfl, rfl, trivial⟩ Try.underlying87 sz5 zr5 lay5 rfl (by decide) (litOK (z := 1) [(eU8 p1)] rfl ⟨⟨rfl, rfl⟩, trivial⟩) rfl fun n13 => ?_
          refine AO.freezeS 0 [(20, (.fz 1 (([p1] : List Int).map eU8)))] rfl ⟨fz_all rfl, trivial⟩ ?_
          exact AO.nilE (ρ' := [(20, (.fz 1 (([p1] : List Int).map eU8)))]) (H' := []) ⟨⟨_, rfl, rfl⟩, Sub.refl _⟩ ⟨rfl, trivial⟩ (Sub.refl _)
        · refine AO.weak (ρ' := [(20, (.fz 1 (([p1] : List Int).map eU8)))]) (H' := []) ⟨rfl, trivial⟩ (Sub.refl _) ?_
          refine AO.calm rfl 21 rfl (by decide) (eStr (strOfNums ([p1] : List Int))) (Calm.strL rfl rfl Try.underlying87 Try.underlying9 Try.underlying5) ?_
          exact AO.nilE (ρ' := [(21, (eStr (strOfNums ([p1] : List Int))))]) (H' := []) ⟨⟨_, rfl, rfl⟩, Sub.refl _⟩ ⟨rfl, trivial⟩ (Sub.refl _)
        · refine AO.weak (ρ' := [(18, (eU8 (byteAt p0 x8))), (21, (eStr (strOfNums ([p1] : List Int))))]) (H' := []) ⟨rfl, rfl, trivial⟩ (Sub.refl _) ?_
          refine AO.callS [(eU8 (byteAt p0 x8)), (eStr (strOfNums ([p1] : List Int)))] (eStr t14) 22 rfl (by decide) ok43 rfl rfl rfl ⟨rfl, rfl, rfl, rfl, trivial⟩ (escape_Byte_spec et14) ?_
          exact AO.nilE (ρ' := [(22, (eStr t14))]) (H' := []) ⟨⟨_, rfl, rfl⟩, Sub.refl _⟩ ⟨rfl, trivial⟩ (Sub.refl _)
        · refine AO.weak (ρ' := [(15, (eStr x7)), (22, (eStr t14))]) (H' := []) ⟨rfl, rfl, trivial⟩ (Sub.refl _) ?_
          refine AO.calm rfl 23 rfl (by decide) (eStr (x7 ++ t14)) (Calm.cat rfl rfl rfl hg15) ?_
          exact AO.nilE (ρ' := [(23, (eStr (x7 ++ t14)))]) (H' := []) ⟨⟨_, rfl, rfl⟩, Sub.refl _⟩ ⟨rfl, trivial⟩ (Sub.refl _)
        · refine AO.weak (ρ' := [(23, (eStr (x7 ++ t14)))]) (H' := []) ⟨rfl, trivial⟩ (Sub.refl _) ?_
          refine AO.calm rfl 5 rfl (by decide) (eStr (x7 ++ t14)) (Calm.assign rfl rfl) ?_
          exact AO.nilE (ρ' := [(5, (eStr (x7 ++ t14)))]) (H' := []) ⟨⟨_, rfl, rfl⟩, Sub.refl _⟩ ⟨rfl, trivial⟩ (Sub.refl _)
      · refine AW.reg ?_
        refine AO.calm rfl 24 rfl (by decide) (eI64 (w64 (x8 + (1 : Int)))) (Calm.int rfl rfl rfl rfl) ?_
        refine AO.calm rfl 12 rfl (by decide) (eI64 (w64 (x8 + (1 : Int)))) (Calm.move rfl rfl) ?_
        refine AO.nil (ρ' := [(0, (eStr p0)), (1, (eU8 p1)), (5, (eStr (x7 ++ t14))), (11, (eI64 (p0.size : Int))), (12, (eI64 (w64 (x8 + (1 : Int)))))]) (H' := []) ⟨rfl, rfl, rfl, rfl, rfl, trivial⟩ (Sub.refl _) ?_
        exact ⟨kq10, Nat.lt_succ_self _, (x7 ++ t14), (w64 (x8 + (1 : Int))), rfl, rfl, by rw [hrec9]; exact h⟩
    · have h := (if_neg hc11).symm.trans h
      refine AW.condN (x8 < (p0.size : Int)) rfl hc11 ?_
      refine AW.exit (ρ' := [(1, (eU8 p1)), (5, (eStr x7))]) (H' := []) ⟨rfl, rfl, trivial⟩ (Sub.refl _) ?_
      exact ⟨x7, rfl, rfl, h⟩
  · rintro _ _ ⟨x4, rfl, rfl, h⟩
    rw [escape_Quote_c0.eq_1] at h
    refine AW.seq ?_
    refine AW.reg ?_
    refine AO.calm rfl 25 rfl (by decide) (eStr x4) (Calm.move rfl rfl) ?_
    refine AO.calm rfl 26 rfl (by decide) (eU8 p1) (Calm.move rfl rfl) ?_
    refine AO.lit (Z := (eU8 (0 : Int))) (xs := (([p1] : List Int).map eU8)) (qs := [(0, (eU8 p1))]) rfl 27 rfl (by decide) rfl ⟨rfl, rfl, rfl, trivial⟩ Try.underlying87 sz5 zr5 lay5 rfl (by decide) (litOK (z := 1) [(eU8 p1)] rfl ⟨⟨rfl, rfl⟩, trivial⟩) rfl fun n5 => ?_
    refine AO.calm rfl 28 rfl (by decide) (eStr (strOfNums ([p1] : List Int))) (Calm.strO 0 rfl rfl rfl Try.underlying87 Try.underlying9 Try.underlying5) ?_
    obtain ⟨hg6, h⟩ := of_guard h
    refine AO.calm rfl 29 rfl (by decide) (eStr (x4 ++ (strOfNums ([p1] : List Int)))) (Calm.cat rfl rfl rfl hg6) ?_
    refine AO.calm rfl 4 rfl (by decide) (eStr (x4 ++ (strOfNums ([p1] : List Int)))) (Calm.assign rfl rfl) ?_
    refine AO.nil (ρ' := [(4, (eStr (x4 ++ (strOfNums ([p1] : List Int)))))]) (H' := []) ⟨rfl, trivial⟩ (Sub.nil _) ?_
    refine AW.ret (ρ' := [(4, (eStr (x4 ++ (strOfNums ([p1] : List Int)))))]) (H' := []) ⟨rfl, trivial⟩ (Sub.refl _) ?_
    have hr := Option.some.inj h
    subst hr
    exact ⟨[(eStr (x4 ++ (strOfNums ([p1] : List Int))))], ⟨rfl, rfl, trivial⟩, rfl⟩
end Go.Avl.T1
/- bosket/bosketlaw03.awake; printed by avmain.py. -/
namespace Go.Avl.T1
open Go Go.RowKit Go.Proofs Go.Avl
set_option linter.unusedVariables false
set_option maxRecDepth 100000
set_option maxHeartbeats 4000000
attribute [local irreducible] AW AO AQ Spec SpecH Calm

def bosketlaw03_awake (k : Nat) : Option Bool :=
  Option.bind (α := Bool) ((escape_Byte k (10 : Int) (ByteArray.mk #[])).bind fun t3 =>
  if t3 = (ByteArray.mk #[92, 110]) then (escape_Quote k (ByteArray.mk #[97, 34, 98]) (34 : Int)).bind fun t5 =>
  some (decide (t5 = (ByteArray.mk #[34, 97, 92, 34, 98, 34])))
  else some (false)) fun b1 =>
  some (b1)
theorem bosketlaw03_awake_spec {k : Nat}  {r : Bool} (h : bosketlaw03_awake k = some r) : Spec Try.prog 37 [] (eBool r) := by
  rw [bosketlaw03_awake.eq_1] at h
  refine Spec.intro (res := [.tmp 0]) Try.func37 rfl rfl rfl (Nat.le_of_ble_eq_true rfl) ?_
  refine AW.seq ?_
  refine AW.reg ?_
  refine AO.calm rfl 0 rfl (by decide) (eBool false) (Calm.assign rfl rfl) ?_
  refine AO.nil (ρ' := []) (H' := []) trivial (Sub.refl _) ?_
  refine AW.seq ?_
  obtain ⟨b1, hq2, h⟩ := of_bind h
  refine AW.regM [(0, (eBool b1))] [] ?_ ?_
  · obtain ⟨t3, et3, hq2⟩ := of_bind hq2
    refine AO.callS [(eU8 (10 : Int)), (eStr (ByteArray.mk #[]))] (eStr t3) 1 rfl (by decide) ok43 rfl rfl rfl ⟨rfl, rfl, rfl, rfl, trivial⟩ (escape_Byte_spec et3) ?_
    refine AO.calm rfl 2 rfl (by decide) (eBool (decide (t3 = (ByteArray.mk #[92, 110])))) (Calm.str rfl rfl rfl rfl) ?_
    refine AO.calm rfl 3 rfl (by decide) (eBool (decide (t3 = (ByteArray.mk #[92, 110])))) (Calm.move rfl rfl) ?_
    by_cases hc4 : t3 = (ByteArray.mk #[92, 110])
    · have hq2 := (if_pos hc4).symm.trans hq2
      obtain ⟨t5, et5, hq2⟩ := of_bind hq2
      refine AO.callG 2 true 3 [(eStr (ByteArray.mk #[97, 34, 98])), (eU8 (34 : Int))] (eStr t5) 4 rfl (by decide) ok48 rfl rfl (congrArg (fun b => some (AV.fl (Value.bool b))) (decide_eq_true hc4)) rfl rfl ⟨rfl, rfl, rfl, rfl, trivial⟩ (escape_Quote_spec et5) ?_
      refine AO.calmG 2 true 3 rfl rfl (congrArg (fun b => some (AV.fl (Value.bool b))) (decide_eq_true hc4)) 5 rfl (by decide) (eBool (decide (t5 = (ByteArray.mk #[34, 97, 92, 34, 98, 34])))) (Calm.str rfl rfl rfl rfl) ?_
      refine AO.calm rfl 6 rfl (by decide) (eBool (decide (t5 = (ByteArray.mk #[34, 97, 92, 34, 98, 34])))) (Calm.pickT rfl (congrArg (fun b => some (AV.fl (Value.bool b))) (decide_eq_true hc4)) rfl) ?_
      refine AO.calm rfl 0 rfl (by decide) (eBool (decide (t5 = (ByteArray.mk #[34, 97, 92, 34, 98, 34])))) (Calm.assign rfl rfl) ?_
      cases hq2
      refine AO.nilE ⟨rfl, rfl⟩ ?_ ?_
      · exact ⟨rfl, trivial⟩
      · exact (Sub.refl _)
    · have hq2 := (if_neg hc4).symm.trans hq2
      refine AO.skipG 2 false 3 rfl rfl (congrArg (fun b => some (AV.fl (Value.bool b))) (decide_eq_false hc4)) 4 rfl (by decide) ?_
      refine AO.skipG 2 false 3 rfl rfl (congrArg (fun b => some (AV.fl (Value.bool b))) (decide_eq_false hc4)) 5 rfl (by decide) ?_
      refine AO.calm rfl 6 rfl (by decide) (eBool false) (Calm.pickF rfl (congrArg (fun b => some (AV.fl (Value.bool b))) (decide_eq_false hc4)) rfl) ?_
      refine AO.calm rfl 0 rfl (by decide) (eBool false) (Calm.assign rfl rfl) ?_
      cases hq2
      refine AO.nilE ⟨rfl, rfl⟩ ?_ ?_
      · exact ⟨rfl, trivial⟩
      · exact (Sub.refl _)
  · refine AW.ret (ρ' := [(0, (eBool b1))]) (H' := []) ⟨rfl, trivial⟩ (Sub.refl _) ?_
    have hr := Option.some.inj h
    subst hr
    exact ⟨[(eBool b1)], ⟨rfl, rfl, trivial⟩, rfl⟩
end Go.Avl.T1
/- bosket/escape.value; printed by avmain.py. -/
namespace Go.Avl.T1
open Go Go.RowKit Go.Proofs Go.Avl
set_option linter.unusedVariables false
set_option maxRecDepth 100000
set_option maxHeartbeats 4000000
attribute [local irreducible] AW AO AQ Spec SpecH Calm

def escape_value (k : Nat) (p0 : Int) : Option Int :=
  Option.bind (α := Bool) (if (48 : Int) ≤ p0 then some (decide (p0 ≤ (57 : Int)))
  else some (false)) fun b2 =>
  if b2 = true then some ((w64 (w8 (p0 - (48 : Int)))))
  else Option.bind (α := Bool) (if (97 : Int) ≤ p0 then some (decide (p0 ≤ (102 : Int)))
  else some (false)) fun b6 =>
  if b6 = true then some ((w64 ((w64 (w8 (p0 - (97 : Int)))) + (10 : Int))))
  else some ((-1 : Int))
theorem escape_value_spec {k : Nat} {p0 : Int} {r : Int} (h : escape_value k p0 = some r) : Spec Try.prog 63 [(eU8 p0)] (eI64 r) := by
  rw [escape_value.eq_1] at h
  refine Spec.intro (res := [.tmp 2]) Try.func63 rfl rfl rfl (Nat.le_of_ble_eq_true rfl) ?_
  refine AW.seq ?_
  refine AW.reg ?_
  refine AO.calm rfl 2 rfl (by decide) (eI64 (0 : Int)) (Calm.assign rfl rfl) ?_
  refine AO.nil (ρ' := [(0, (eU8 p0))]) (H' := []) ⟨rfl, trivial⟩ (Sub.refl _) ?_
  refine AW.seq ?_
  refine AW.block ?_
  refine AW.seq ?_
  obtain ⟨b2, hq3, h⟩ := of_bind h
  refine AW.regM [(0, (eU8 p0)), (3, (eBool b2))] [] ?_ ?_
  · refine AO.calm rfl 4 rfl (by decide) (eU8 p0) (Calm.move rfl rfl) ?_
    refine AO.calm rfl 5 rfl (by decide) (eBool (decide ((48 : Int) ≤ p0))) (Calm.int rfl rfl rfl rfl) ?_
    refine AO.calm rfl 6 rfl (by decide) (eBool (decide ((48 : Int) ≤ p0))) (Calm.move rfl rfl) ?_
    by_cases hc4 : (48 : Int) ≤ p0
    · have hq3 := (if_pos hc4).symm.trans hq3
      refine AO.calmG 2 true 6 rfl rfl (congrArg (fun b => some (AV.fl (Value.bool b))) (decide_eq_true hc4)) 7 rfl (by decide) (eU8 p0) (Calm.move rfl rfl) ?_
      refine AO.calmG 2 true 6 rfl rfl (congrArg (fun b => some (AV.fl (Value.bool b))) (decide_eq_true hc4)) 8 rfl (by decide) (eBool (decide (p0 ≤ (57 : Int)))) (Calm.int rfl rfl rfl rfl) ?_
      refine AO.calm rfl 9 rfl (by decide) (eBool (decide (p0 ≤ (57 : Int)))) (Calm.pickT rfl (congrArg (fun b => some (AV.fl (Value.bool b))) (decide_eq_true hc4)) rfl) ?_
      refine AO.calm rfl 3 rfl (by decide) (eBool (decide (p0 ≤ (57 : Int)))) (Calm.assign rfl rfl) ?_
      cases hq3
      refine AO.nilE ⟨rfl, rfl⟩ ?_ ?_
      · exact ⟨rfl, rfl, trivial⟩
      · exact (Sub.refl _)
    · have hq3 := (if_neg hc4).symm.trans hq3
      refine AO.skipG 2 false 6 rfl rfl (congrArg (fun b => some (AV.fl (Value.bool b))) (decide_eq_false hc4)) 7 rfl (by decide) ?_
      refine AO.skipG 2 false 6 rfl rfl (congrArg (fun b => some (AV.fl (Value.bool b))) (decide_eq_false hc4)) 8 rfl (by decide) ?_
      refine AO.calm rfl 9 rfl (by decide) (eBool false) (Calm.pickF rfl (congrArg (fun b => some (AV.fl (Value.bool b))) (decide_eq_false hc4)) rfl) ?_
      refine AO.calm rfl 3 rfl (by decide) (eBool false) (Calm.assign rfl rfl) ?_
      cases hq3
      refine AO.nilE ⟨rfl, rfl⟩ ?_ ?_
      · exact ⟨rfl, rfl, trivial⟩
      · exact (Sub.refl _)
  · by_cases hc5 : b2 = true
    · have h := (if_pos hc5).symm.trans h
      refine AW.condT' b2 rfl hc5 ?_
      refine AW.seq ?_
      refine AW.reg ?_
      refine AO.calm rfl 10 rfl (by decide) (eU8 p0) (Calm.move rfl rfl) ?_
      refine AO.calm rfl 11 rfl (by decide) (eU8 (w8 (p0 - (48 : Int)))) (Calm.int rfl rfl rfl rfl) ?_
      refine AO.calm rfl 12 rfl (by decide) (eI64 (w64 (w8 (p0 - (48 : Int))))) (Calm.conv rfl rfl Try.underlying5 Try.underlying3) ?_
      refine AO.calm rfl 2 rfl (by decide) (eI64 (w64 (w8 (p0 - (48 : Int))))) (Calm.assign rfl rfl) ?_
      refine AO.nil (ρ' := [(2, (eI64 (w64 (w8 (p0 - (48 : Int))))))]) (H' := []) ⟨rfl, trivial⟩ (Sub.refl _) ?_
      refine AW.ret (ρ' := [(2, (eI64 (w64 (w8 (p0 - (48 : Int))))))]) (H' := []) ⟨rfl, trivial⟩ (Sub.refl _) ?_
      have hr := Option.some.inj h
      subst hr
      exact ⟨[(eI64 (w64 (w8 (p0 - (48 : Int)))))], ⟨rfl, rfl, trivial⟩, rfl⟩
    · have h := (if_neg hc5).symm.trans h
      refine AW.condF' b2 rfl hc5 ?_
      refine AW.seq ?_
      obtain ⟨b6, hq7, h⟩ := of_bind h
      refine AW.regM [(0, (eU8 p0)), (13, (eBool b6))] [] ?_ ?_
      · refine AO.calm rfl 14 rfl (by decide) (eU8 p0) (Calm.move rfl rfl) ?_
        refine AO.calm rfl 15 rfl (by decide) (eBool (decide ((97 : Int) ≤ p0))) (Calm.int rfl rfl rfl rfl) ?_
        refine AO.calm rfl 16 rfl (by decide) (eBool (decide ((97 : Int) ≤ p0))) (Calm.move rfl rfl) ?_
        by_cases hc8 : (97 : Int) ≤ p0
        · have hq7 := (if_pos hc8).symm.trans hq7
          refine AO.calmG 2 true 16 rfl rfl (congrArg (fun b => some (AV.fl (Value.bool b))) (decide_eq_true hc8)) 17 rfl (by decide) (eU8 p0) (Calm.move rfl rfl) ?_
          refine AO.calmG 2 true 16 rfl rfl (congrArg (fun b => some (AV.fl (Value.bool b))) (decide_eq_true hc8)) 18 rfl (by decide) (eBool (decide (p0 ≤ (102 : Int)))) (Calm.int rfl rfl rfl rfl) ?_
          refine AO.calm rfl 19 rfl (by decide) (eBool (decide (p0 ≤ (102 : Int)))) (Calm.pickT rfl (congrArg (fun b => some (AV.fl (Value.bool b))) (decide_eq_true hc8)) rfl) ?_
          refine AO.calm rfl 13 rfl (by decide) (eBool (decide (p0 ≤ (102 : Int)))) (Calm.assign rfl rfl) ?_
          cases hq7
          refine AO.nilE ⟨rfl, rfl⟩ ?_ ?_
          · exact ⟨rfl, rfl, trivial⟩
          · exact (Sub.refl _)
        · have hq7 := (if_neg hc8).symm.trans hq7
          refine AO.skipG 2 false 16 rfl rfl (congrArg (fun b => some (AV.fl (Value.bool b))) (decide_eq_false hc8)) 17 rfl (by decide) ?_
          refine AO.skipG 2 false 16 rfl rfl (congrArg (fun b => some (AV.fl (Value.bool b))) (decide_eq_false hc8)) 18 rfl (by decide) ?_
          refine AO.calm rfl 19 rfl (by decide) (eBool false) (Calm.pickF rfl (congrArg (fun b => some (AV.fl (Value.bool b))) (decide_eq_false hc8)) rfl) ?_
          refine AO.calm rfl 13 rfl (by decide) (eBool false) (Calm.assign rfl rfl) ?_
          cases hq7
          refine AO.nilE ⟨rfl, rfl⟩ ?_ ?_
          · exact ⟨rfl, rfl, trivial⟩
          · exact (Sub.refl _)
      · by_cases hc9 : b6 = true
        · have h := (if_pos hc9).symm.trans h
          refine AW.condT' b6 rfl hc9 ?_
          refine AW.seq ?_
          refine AW.reg ?_
          refine AO.calm rfl 20 rfl (by decide) (eU8 p0) (Calm.move rfl rfl) ?_
          refine AO.calm rfl 21 rfl (by decide) (eU8 (w8 (p0 - (97 : Int)))) (Calm.int rfl rfl rfl rfl) ?_
          refine AO.calm rfl 22 rfl (by decide) (eI64 (w64 (w8 (p0 - (97 : Int))))) (Calm.conv rfl rfl Try.underlying5 Try.underlying3) ?_
          refine AO.calm rfl 23 rfl (by decide) (eI64 (w64 ((w64 (w8 (p0 - (97 : Int)))) + (10 : Int)))) (Calm.int rfl rfl rfl rfl) ?_
          refine AO.calm rfl 2 rfl (by decide) (eI64 (w64 ((w64 (w8 (p0 - (97 : Int)))) + (10 : Int)))) (Calm.assign rfl rfl) ?_
          refine AO.nil (ρ' := [(2, (eI64 (w64 ((w64 (w8 (p0 - (97 : Int)))) + (10 : Int)))))]) (H' := []) ⟨rfl, trivial⟩ (Sub.refl _) ?_
          refine AW.ret (ρ' := [(2, (eI64 (w64 ((w64 (w8 (p0 - (97 : Int)))) + (10 : Int)))))]) (H' := []) ⟨rfl, trivial⟩ (Sub.refl _) ?_
          have hr := Option.some.inj h
          subst hr
          exact ⟨[(eI64 (w64 ((w64 (w8 (p0 - (97 : Int)))) + (10 : Int))))], ⟨rfl, rfl, trivial⟩, rfl⟩
        · have h := (if_neg hc9).symm.trans h
          refine AW.condF' b6 rfl hc9 ?_
          refine AW.skip (ρ' := []) (H' := []) trivial (Sub.refl _) ?_
          refine AW.seq ?_
          refine AW.reg ?_
          refine AO.calm rfl 2 rfl (by decide) (eI64 (-1 : Int)) (Calm.assign rfl rfl) ?_
          refine AO.nil (ρ' := [(2, (eI64 (-1 : Int)))]) (H' := []) ⟨rfl, trivial⟩ (Sub.refl _) ?_
          refine AW.ret (ρ' := [(2, (eI64 (-1 : Int)))]) (H' := []) ⟨rfl, trivial⟩ (Sub.refl _) ?_
          have hr := Option.some.inj h
          subst hr
          exact ⟨[(eI64 (-1 : Int))], ⟨rfl, rfl, trivial⟩, rfl⟩
end Go.Avl.T1
