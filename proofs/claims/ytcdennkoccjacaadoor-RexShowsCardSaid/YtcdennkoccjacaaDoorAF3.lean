/- Parts: TEf47, TEf37, TEf50, TEf39, TEf48, TEf49, TEf38, TEf52, TEf41, TEf28, TEf42, TEf20, TEf7, TEf5, TEf19, TEf6, TEf17. -/
import Derived.Test.YtcdennkoccjacaaDoorAF1
import Derived.Test.YtcdennkoccjacaaDoorAF2
/- math/bits.OnesCount64; printed by avmain.py. -/
namespace Go.Avl.TE
open Go Go.RowKit Go.Proofs Go.Avl
set_option linter.unusedVariables false
set_option maxRecDepth 100000
set_option maxHeartbeats 4000000
attribute [local irreducible] AW AO AQ Spec SpecH Calm

def math_bits_OnesCount64 (k : Nat) (p0 : Int) : Option Int :=
  (some (u64 ((bits .and .u64 (Int.fdiv p0 (2 ^ (min (1 : Int).toNat IntKind.u64.bits))) (6148914691236517205 : Int)) + (bits .and .u64 p0 (6148914691236517205 : Int))))).bind fun x2 =>
  (some (u64 ((bits .and .u64 (Int.fdiv x2 (2 ^ (min (2 : Int).toNat IntKind.u64.bits))) (3689348814741910323 : Int)) + (bits .and .u64 x2 (3689348814741910323 : Int))))).bind fun x3 =>
  (some (bits .and .u64 (u64 ((Int.fdiv x3 (2 ^ (min (4 : Int).toNat IntKind.u64.bits))) + x3)) (1085102592571150095 : Int))).bind fun x4 =>
  (some (u64 (x4 + (Int.fdiv x4 (2 ^ (min (8 : Int).toNat IntKind.u64.bits)))))).bind fun x5 =>
  (some (u64 (x5 + (Int.fdiv x5 (2 ^ (min (16 : Int).toNat IntKind.u64.bits)))))).bind fun x6 =>
  (some (u64 (x6 + (Int.fdiv x6 (2 ^ (min (32 : Int).toNat IntKind.u64.bits)))))).bind fun x7 =>
  some ((bits .and .i64 (w64 x7) (127 : Int)))
theorem math_bits_OnesCount64_spec {k : Nat} {p0 : Int} {r : Int} (h : math_bits_OnesCount64 k p0 = some r) : Spec Tryd.prog 47 [(eU64 p0)] (eI64 r) := by
  rw [math_bits_OnesCount64.eq_1] at h
  refine Spec.intro (res := [.tmp 2]) Tryd.func47 rfl rfl rfl (Nat.le_of_ble_eq_true rfl) ?_
  refine AW.sr ?_
  refine AO.c (Calm.assign rfl rfl) ?_
  refine AO.nK [0] ?_
  refine AW.sr ?_
  refine AO.c (Calm.move rfl rfl) ?_
  refine AO.c (x := eU64 (Int.fdiv p0 (2 ^ (min (1 : Int).toNat IntKind.u64.bits)))) (Calm.shr rfl rfl rfl (by decide)) ?_
  refine AO.c (x := eU64 (bits .and .u64 (Int.fdiv p0 (2 ^ (min (1 : Int).toNat IntKind.u64.bits))) (6148914691236517205 : Int))) (Calm.int rfl rfl rfl rfl) ?_
  refine AO.c (Calm.move rfl rfl) ?_
  refine AO.c (x := eU64 (bits .and .u64 p0 (6148914691236517205 : Int))) (Calm.int rfl rfl rfl rfl) ?_
  refine AO.c (x := eU64 (u64 ((bits .and .u64 (Int.fdiv p0 (2 ^ (min (1 : Int).toNat IntKind.u64.bits))) (6148914691236517205 : Int)) + (bits .and .u64 p0 (6148914691236517205 : Int))))) (Calm.int rfl rfl rfl rfl) ?_
  obtain ⟨x2, ex2, h⟩ := of_bind h
  refine AO.c (Calm.assign rfl (congrArg (fun x => some (eU64 x)) (Option.some.inj ex2))) ?_
  refine AO.nK [0] ?_
  refine AW.sr ?_
  refine AO.c (Calm.move rfl rfl) ?_
  refine AO.c (x := eU64 (Int.fdiv x2 (2 ^ (min (2 : Int).toNat IntKind.u64.bits)))) (Calm.shr rfl rfl rfl (by decide)) ?_
  refine AO.c (x := eU64 (bits .and .u64 (Int.fdiv x2 (2 ^ (min (2 : Int).toNat IntKind.u64.bits))) (3689348814741910323 : Int))) (Calm.int rfl rfl rfl rfl) ?_
  refine AO.c (Calm.move rfl rfl) ?_
  refine AO.c (x := eU64 (bits .and .u64 x2 (3689348814741910323 : Int))) (Calm.int rfl rfl rfl rfl) ?_
  refine AO.c (x := eU64 (u64 ((bits .and .u64 (Int.fdiv x2 (2 ^ (min (2 : Int).toNat IntKind.u64.bits))) (3689348814741910323 : Int)) + (bits .and .u64 x2 (3689348814741910323 : Int))))) (Calm.int rfl rfl rfl rfl) ?_
  obtain ⟨x3, ex3, h⟩ := of_bind h
  refine AO.c (Calm.assign rfl (congrArg (fun x => some (eU64 x)) (Option.some.inj ex3))) ?_
  refine AO.nK [0] ?_
  refine AW.sr ?_
  refine AO.c (Calm.move rfl rfl) ?_
  refine AO.c (x := eU64 (Int.fdiv x3 (2 ^ (min (4 : Int).toNat IntKind.u64.bits)))) (Calm.shr rfl rfl rfl (by decide)) ?_
  refine AO.c (Calm.move rfl rfl) ?_
  refine AO.c (x := eU64 (u64 ((Int.fdiv x3 (2 ^ (min (4 : Int).toNat IntKind.u64.bits))) + x3))) (Calm.int rfl rfl rfl rfl) ?_
  refine AO.c (x := eU64 (bits .and .u64 (u64 ((Int.fdiv x3 (2 ^ (min (4 : Int).toNat IntKind.u64.bits))) + x3)) (1085102592571150095 : Int))) (Calm.int rfl rfl rfl rfl) ?_
  obtain ⟨x4, ex4, h⟩ := of_bind h
  refine AO.c (Calm.assign rfl (congrArg (fun x => some (eU64 x)) (Option.some.inj ex4))) ?_
  refine AO.nK [0] ?_
  refine AW.sr ?_
  refine AO.c (Calm.move rfl rfl) ?_
  refine AO.c (Calm.move rfl rfl) ?_
  refine AO.c (x := eU64 (Int.fdiv x4 (2 ^ (min (8 : Int).toNat IntKind.u64.bits)))) (Calm.shr rfl rfl rfl (by decide)) ?_
  refine AO.c (x := eU64 (u64 (x4 + (Int.fdiv x4 (2 ^ (min (8 : Int).toNat IntKind.u64.bits)))))) (Calm.int rfl rfl rfl rfl) ?_
  obtain ⟨x5, ex5, h⟩ := of_bind h
  refine AO.c (Calm.assign rfl (congrArg (fun x => some (eU64 x)) (Option.some.inj ex5))) ?_
  refine AO.nK [0] ?_
  refine AW.sr ?_
  refine AO.c (Calm.move rfl rfl) ?_
  refine AO.c (Calm.move rfl rfl) ?_
  refine AO.c (x := eU64 (Int.fdiv x5 (2 ^ (min (16 : Int).toNat IntKind.u64.bits)))) (Calm.shr rfl rfl rfl (by decide)) ?_
  refine AO.c (x := eU64 (u64 (x5 + (Int.fdiv x5 (2 ^ (min (16 : Int).toNat IntKind.u64.bits)))))) (Calm.int rfl rfl rfl rfl) ?_
  obtain ⟨x6, ex6, h⟩ := of_bind h
  refine AO.c (Calm.assign rfl (congrArg (fun x => some (eU64 x)) (Option.some.inj ex6))) ?_
  refine AO.nK [0] ?_
  refine AW.sr ?_
  refine AO.c (Calm.move rfl rfl) ?_
  refine AO.c (Calm.move rfl rfl) ?_
  refine AO.c (x := eU64 (Int.fdiv x6 (2 ^ (min (32 : Int).toNat IntKind.u64.bits)))) (Calm.shr rfl rfl rfl (by decide)) ?_
  refine AO.c (x := eU64 (u64 (x6 + (Int.fdiv x6 (2 ^ (min (32 : Int).toNat IntKind.u64.bits)))))) (Calm.int rfl rfl rfl rfl) ?_
  obtain ⟨x7, ex7, h⟩ := of_bind h
  refine AO.c (Calm.assign rfl (congrArg (fun x => some (eU64 x)) (Option.some.inj ex7))) ?_
  refine AO.nK [0] ?_
  refine AW.sr ?_
  refine AO.c (Calm.move rfl rfl) ?_
  refine AO.c (x := eI64 (w64 x7)) (Calm.conv rfl rfl Tryd.underlying36 Tryd.underlying3) ?_
  refine AO.c (x := eI64 (bits .and .i64 (w64 x7) (127 : Int))) (Calm.int rfl rfl rfl rfl) ?_
  refine AO.c (Calm.assign rfl rfl) ?_
  refine AO.nK [2] ?_
  refine AW.rK [2] ?_
  have hr := Option.some.inj h
  subst hr
  exact ⟨[(eI64 (bits .and .i64 (w64 x7) (127 : Int)))], ⟨rfl, rfl, trivial⟩, rfl⟩
end Go.Avl.TE
/- bosket/byteset.Len; printed by avmain.py. -/
namespace Go.Avl.TE
open Go Go.RowKit Go.Proofs Go.Avl
set_option linter.unusedVariables false
set_option maxRecDepth 100000
set_option maxHeartbeats 4000000
attribute [local irreducible] AW AO AQ Spec SpecH Calm

def byteset_Len_c0 (k : Nat) (x3 : Int) : Option Int :=
  some (x3)
def byteset_Len_l1 (k : Nat) (p0 : (Vector Int 4)) : Nat → Int → Int → Option Int
  | 0, _, _ => none
  | j + 1, x4, x5 =>
    if x5 < (4 : Int) then if 0 ≤ x5 ∧ x5 < (4 : Int) then (math_bits_OnesCount64 k (vget p0 x5)).bind fun t10 =>
    (byteset_Len_l1 k p0 j) (w64 (x4 + t10)) (w64 (x5 + (1 : Int)))
    else none
    else byteset_Len_c0 k x4
def byteset_Len (k : Nat) (p0 : (Vector Int 4)) : Option Int :=
  byteset_Len_l1 k p0 k (0 : Int) (0 : Int)
theorem byteset_Len_spec {k : Nat} {p0 : (Vector Int 4)} {r : Int} (h : byteset_Len k p0 = some r) : Spec Tryd.prog 37 [(.ar 1 (p0.toList.map eU64))] (eI64 r) := by
  rw [byteset_Len.eq_1] at h
  refine Spec.intro (res := [.tmp 2]) Tryd.func37 rfl rfl rfl (Nat.le_of_ble_eq_true rfl) ?_
  refine AW.sr ?_
  refine AO.box rfl 1 rfl (by decide) rfl rfl rfl fun n2 => ?_
  refine AO.c (Calm.assign rfl rfl) ?_
  refine AO.nK [1] ?_
  refine AW.sr ?_
  refine AO.c (Calm.assign rfl rfl) ?_
  refine AO.nK [1, 3] ?_
  refine AW.seq_mid (fun ρ H => ∃ (x3 : Int), ρ = [(3, (eI64 x3))] ∧ H = [] ∧ byteset_Len_c0 k x3 = some r) ?_ ?_
  ·refine AW.sr ?_
   refine AO.c (Calm.load 0 rfl rfl rfl (At.cast At.here rfl) ag38 (by rw [sz38]; simp [AV.size])) ?_
   refine AO.c (Calm.move rfl rfl) ?_
   refine AO.nH [3, 6, 7] (H' := []) (Sub.nil _) ?_
   refine AW.block ?_
   refine AW.wK [3, 6, 7] ?_
   refine AW.loop (fun kq ρ H => ∃ (x4 : Int) (x5 : Int), ρ = [(3, (eI64 x4)), (6, (.ar 1 (p0.toList.map eU64))), (7, (eI64 x5))] ∧ H = [] ∧ byteset_Len_l1 k p0 kq x4 x5 = some r) k ⟨(0 : Int), (0 : Int), rfl, rfl, h⟩ ?_
   rintro kq7 _ _ ⟨x4, x5, rfl, rfl, h⟩
   cases kq7 with
   | zero => rw [byteset_Len_l1.eq_1] at h; cases h
   | succ kq7 =>
   rw [byteset_Len_l1.eq_2] at h
   generalize hrec6 : byteset_Len_l1 k p0 kq7 = rec6 at h
   refine AW.sr ?_
   refine AO.c (x := eBool (decide (x5 < (4 : Int)))) (Calm.int rfl rfl rfl rfl) ?_
   refine AO.nK [3, 6, 7, 8] ?_
   refine AW.seq ?_
   rcases of_ite h with ⟨hc8, h⟩ | ⟨hc8, h⟩
   ·refine AW.condP _ rfl hc8 ?_
    refine AW.sK [3, 6, 7] ?_
    refine AW.seq ?_
    refine AW.block ?_
    refine AW.sr ?_
    obtain ⟨hg9, h⟩ := of_guard h
    refine AO.c (x := eU64 (vget p0 x5)) (Calm.idxVv (f := eU64) rfl rfl rfl hg9 Tryd.underlying38 sz36 ag36 rfl) ?_
    refine AO.c (Calm.assign rfl rfl) ?_
    refine AO.nK [3, 5, 6, 7] ?_
    refine AW.reg ?_
    refine AO.c (Calm.move rfl rfl) ?_
    refine AO.c (Calm.move rfl rfl) ?_
    obtain ⟨t10, et10, h⟩ := of_bind h
    refine AO.callS [(eU64 (vget p0 x5))] (eI64 t10) 12 rfl (by decide) ok47 rfl rfl rfl ⟨rfl, rfl, trivial⟩ (math_bits_OnesCount64_spec et10) ?_
    refine AO.c (x := eI64 (w64 (x4 + t10))) (Calm.int rfl rfl rfl rfl) ?_
    refine AO.c (Calm.assign rfl rfl) ?_
    refine AO.nK [3, 6, 7] ?_
    refine AW.reg ?_
    refine AO.c (x := eI64 (w64 (x5 + (1 : Int)))) (Calm.int rfl rfl rfl rfl) ?_
    refine AO.c (Calm.move rfl rfl) ?_
    refine AO.nK [3, 6, 7] ?_
    exact ⟨kq7, Nat.lt_succ_self _, (w64 (x4 + t10)), (w64 (x5 + (1 : Int))), rfl, rfl, by rw [hrec6]; exact h⟩
   ·refine AW.condN _ rfl hc8 ?_
    refine AW.eK [3] ?_
    exact ⟨x4, rfl, rfl, h⟩
  ·rintro _ _ ⟨x3, rfl, rfl, h⟩
   rw [byteset_Len_c0.eq_1] at h
   refine AW.sr ?_
   refine AO.c (Calm.move rfl rfl) ?_
   refine AO.c (Calm.assign rfl rfl) ?_
   refine AO.nK [2] ?_
   refine AW.rK [2] ?_
   have hr := Option.some.inj h
   subst hr
   exact ⟨[(eI64 x3)], ⟨rfl, rfl, trivial⟩, rfl⟩
end Go.Avl.TE
/- math/bits.TrailingZeros64; printed by avmain.py. -/
namespace Go.Avl.TE
open Go Go.RowKit Go.Proofs Go.Avl
set_option linter.unusedVariables false
set_option maxRecDepth 100000
set_option maxHeartbeats 4000000
attribute [local irreducible] AW AO AQ Spec SpecH Calm

def math_bits_TrailingZeros64 (k : Nat) (p0 : Int) : Option Int :=
  if p0 = (0 : Int) then some ((64 : Int))
  else if 0 ≤ (Int.fdiv (u64 ((bits .and .u64 p0 (IntKind.u64.wrap (0 - p0))) * (285870213051353865 : Int))) (2 ^ (min (58 : Int).toNat IntKind.u64.bits))) ∧ (Int.fdiv (u64 ((bits .and .u64 p0 (IntKind.u64.wrap (0 - p0))) * (285870213051353865 : Int))) (2 ^ (min (58 : Int).toNat IntKind.u64.bits))) < (64 : Int) then (some (w64 (lget tab0 (Int.fdiv (u64 ((bits .and .u64 p0 (IntKind.u64.wrap (0 - p0))) * (285870213051353865 : Int))) (2 ^ (min (58 : Int).toNat IntKind.u64.bits)))))).bind fun x4 =>
  some (x4)
  else none
theorem math_bits_TrailingZeros64_spec {k : Nat} {p0 : Int} {r : Int} (h : math_bits_TrailingZeros64 k p0 = some r) : Spec Tryd.prog 50 [(eU64 p0)] (eI64 r) := by
  rw [math_bits_TrailingZeros64.eq_1] at h
  refine Spec.intro (res := [.tmp 2]) Tryd.func50 rfl rfl rfl (Nat.le_of_ble_eq_true rfl) ?_
  refine AW.sr ?_
  refine AO.c (Calm.assign rfl rfl) ?_
  refine AO.nK [0] ?_
  refine AW.seq ?_
  refine AW.sr ?_
  refine AO.c (Calm.move rfl rfl) ?_
  refine AO.c (x := eBool (decide (p0 = (0 : Int)))) (Calm.int rfl rfl rfl rfl) ?_
  refine AO.nK [0, 4] ?_
  rcases of_ite h with ⟨hc2, h⟩ | ⟨hc2, h⟩
  ·refine AW.condP _ rfl hc2 ?_
   refine AW.sr ?_
   refine AO.c (Calm.assign rfl rfl) ?_
   refine AO.nK [2] ?_
   refine AW.rK [2] ?_
   have hr := Option.some.inj h
   subst hr
   exact ⟨[(eI64 (64 : Int))], ⟨rfl, rfl, trivial⟩, rfl⟩
  ·refine AW.condN _ rfl hc2 ?_
   refine AW.sK [0] ?_
   refine AW.sr ?_
   refine AO.c (Calm.move rfl rfl) ?_
   refine AO.c (Calm.move rfl rfl) ?_
   refine AO.c (x := eU64 (IntKind.u64.wrap (0 - p0))) (Calm.neg rfl rfl) ?_
   refine AO.c (x := eU64 (bits .and .u64 p0 (IntKind.u64.wrap (0 - p0)))) (Calm.int rfl rfl rfl rfl) ?_
   refine AO.c (x := eU64 (u64 ((bits .and .u64 p0 (IntKind.u64.wrap (0 - p0))) * (285870213051353865 : Int)))) (Calm.int rfl rfl rfl rfl) ?_
   refine AO.c (x := eU64 (Int.fdiv (u64 ((bits .and .u64 p0 (IntKind.u64.wrap (0 - p0))) * (285870213051353865 : Int))) (2 ^ (min (58 : Int).toNat IntKind.u64.bits)))) (Calm.shr rfl rfl rfl (by decide)) ?_
   obtain ⟨hg3, h⟩ := of_guard h
   refine AO.c (x := .fl (.pointer (some ⟨0, (Int.fdiv (u64 ((bits .and .u64 p0 (IntKind.u64.wrap (0 - p0))) * (285870213051353865 : Int))) (2 ^ (min (58 : Int).toNat IntKind.u64.bits))).toNat * 1, none⟩))) (Calm.idxGlob rfl rfl rfl hg3 Tryd.underlying80 sz5) ?_
   refine AO.c (x := eU8 (lget tab0 (Int.fdiv (u64 ((bits .and .u64 p0 (IntKind.u64.wrap (0 - p0))) * (285870213051353865 : Int))) (2 ^ (min (58 : Int).toNat IntKind.u64.bits))))) (Calm.loadTab rfl rfl (tb0 _ hg3) ag5 sz5) ?_
   refine AO.c (x := eI64 (w64 (lget tab0 (Int.fdiv (u64 ((bits .and .u64 p0 (IntKind.u64.wrap (0 - p0))) * (285870213051353865 : Int))) (2 ^ (min (58 : Int).toNat IntKind.u64.bits)))))) (Calm.conv rfl rfl Tryd.underlying5 Tryd.underlying3) ?_
   obtain ⟨x4, ex4, h⟩ := of_bind h
   refine AO.c (Calm.assign rfl (congrArg (fun x => some (eI64 x)) (Option.some.inj ex4))) ?_
   refine AO.nK [2] ?_
   refine AW.rK [2] ?_
   have hr := Option.some.inj h
   subst hr
   exact ⟨[(eI64 x4)], ⟨rfl, rfl, trivial⟩, rfl⟩
end Go.Avl.TE
/- bosket/byteset.First; printed by avmain.py. -/
namespace Go.Avl.TE
open Go Go.RowKit Go.Proofs Go.Avl
set_option linter.unusedVariables false
set_option maxRecDepth 100000
set_option maxHeartbeats 4000000
attribute [local irreducible] AW AO AQ Spec SpecH Calm

def byteset_First_c0 (k : Nat) : Option Int :=
  some ((-1 : Int))
def byteset_First_l1 (k : Nat) (p0 : (Vector Int 4)) : Nat → Int → Option Int
  | 0, _ => none
  | j + 1, x3 =>
    if x3 < (4 : Int) then if 0 ≤ x3 ∧ x3 < (4 : Int) then if (vget p0 x3) ≠ (0 : Int) then (math_bits_TrailingZeros64 k (vget p0 x3)).bind fun t9 =>
    some ((w64 ((w64 ((64 : Int) * x3)) + t9)))
    else (byteset_First_l1 k p0 j) (w64 (x3 + (1 : Int)))
    else none
    else byteset_First_c0 k
def byteset_First (k : Nat) (p0 : (Vector Int 4)) : Option Int :=
  byteset_First_l1 k p0 k (0 : Int)
theorem byteset_First_spec {k : Nat} {p0 : (Vector Int 4)} {r : Int} (h : byteset_First k p0 = some r) : Spec Tryd.prog 39 [(.ar 1 (p0.toList.map eU64))] (eI64 r) := by
  rw [byteset_First.eq_1] at h
  refine Spec.intro (res := [.tmp 2]) Tryd.func39 rfl rfl rfl (Nat.le_of_ble_eq_true rfl) ?_
  refine AW.sr ?_
  refine AO.box rfl 1 rfl (by decide) rfl rfl rfl fun n2 => ?_
  refine AO.c (Calm.assign rfl rfl) ?_
  refine AO.nK [1] ?_
  refine AW.seq_mid (fun ρ H => ρ = [] ∧ H = [] ∧ byteset_First_c0 k = some r) ?_ ?_
  ·refine AW.sr ?_
   refine AO.c (Calm.load 0 rfl rfl rfl (At.cast At.here rfl) ag38 (by rw [sz38]; simp [AV.size])) ?_
   refine AO.c (Calm.move rfl rfl) ?_
   refine AO.nH [5, 6] (H' := []) (Sub.nil _) ?_
   refine AW.block ?_
   refine AW.wK [5, 6] ?_
   refine AW.loop (fun kq ρ H => ∃ (x3 : Int), ρ = [(5, (.ar 1 (p0.toList.map eU64))), (6, (eI64 x3))] ∧ H = [] ∧ byteset_First_l1 k p0 kq x3 = some r) k ⟨(0 : Int), rfl, rfl, h⟩ ?_
   rintro kq5 _ _ ⟨x3, rfl, rfl, h⟩
   cases kq5 with
   | zero => rw [byteset_First_l1.eq_1] at h; cases h
   | succ kq5 =>
   rw [byteset_First_l1.eq_2] at h
   generalize hrec4 : byteset_First_l1 k p0 kq5 = rec4 at h
   refine AW.sr ?_
   refine AO.c (x := eBool (decide (x3 < (4 : Int)))) (Calm.int rfl rfl rfl rfl) ?_
   refine AO.nK [5, 6, 7] ?_
   refine AW.seq ?_
   rcases of_ite h with ⟨hc6, h⟩ | ⟨hc6, h⟩
   ·refine AW.condP _ rfl hc6 ?_
    refine AW.sK [5, 6] ?_
    refine AW.seq ?_
    refine AW.block ?_
    refine AW.sr ?_
    refine AO.c (Calm.move rfl rfl) ?_
    obtain ⟨hg7, h⟩ := of_guard h
    refine AO.c (x := eU64 (vget p0 x3)) (Calm.idxVv (f := eU64) rfl rfl rfl hg7 Tryd.underlying38 sz36 ag36 rfl) ?_
    refine AO.c (Calm.assign rfl rfl) ?_
    refine AO.c (Calm.assign rfl rfl) ?_
    refine AO.nK [3, 4, 5, 6] ?_
    refine AW.sr ?_
    refine AO.c (Calm.move rfl rfl) ?_
    refine AO.c (x := eBool (decide ((vget p0 x3) ≠ (0 : Int)))) (Calm.int rfl rfl rfl rfl) ?_
    refine AO.nK [3, 4, 5, 6, 11] ?_
    rcases of_ite h with ⟨hc8, h⟩ | ⟨hc8, h⟩
    ·refine AW.condP _ rfl hc8 ?_
     refine AW.sr ?_
     refine AO.c (Calm.move rfl rfl) ?_
     refine AO.c (x := eI64 (w64 ((64 : Int) * x3))) (Calm.int rfl rfl rfl rfl) ?_
     refine AO.c (Calm.move rfl rfl) ?_
     obtain ⟨t9, et9, h⟩ := of_bind h
     refine AO.callS [(eU64 (vget p0 x3))] (eI64 t9) 15 rfl (by decide) ok50 rfl rfl rfl ⟨rfl, rfl, trivial⟩ (math_bits_TrailingZeros64_spec et9) ?_
     refine AO.c (x := eI64 (w64 ((w64 ((64 : Int) * x3)) + t9))) (Calm.int rfl rfl rfl rfl) ?_
     refine AO.c (Calm.assign rfl rfl) ?_
     refine AO.nK [2] ?_
     refine AW.rK [2] ?_
     have hr := Option.some.inj h
     subst hr
     exact ⟨[(eI64 (w64 ((w64 ((64 : Int) * x3)) + t9)))], ⟨rfl, rfl, trivial⟩, rfl⟩
    ·refine AW.condN _ rfl hc8 ?_
     refine AW.sK [5, 6] ?_
     refine AW.reg ?_
     refine AO.c (x := eI64 (w64 (x3 + (1 : Int)))) (Calm.int rfl rfl rfl rfl) ?_
     refine AO.c (Calm.move rfl rfl) ?_
     refine AO.nK [5, 6] ?_
     exact ⟨kq5, Nat.lt_succ_self _, (w64 (x3 + (1 : Int))), rfl, rfl, by rw [hrec4]; exact h⟩
   ·refine AW.condN _ rfl hc6 ?_
    refine AW.eK [] ?_
    exact ⟨rfl, rfl, h⟩
  ·rintro _ _ ⟨rfl, rfl, h⟩
   rw [byteset_First_c0.eq_1] at h
   refine AW.sr ?_
   refine AO.c (Calm.assign rfl rfl) ?_
   refine AO.nK [2] ?_
   refine AW.rK [2] ?_
   have hr := Option.some.inj h
   subst hr
   exact ⟨[(eI64 (-1 : Int))], ⟨rfl, rfl, trivial⟩, rfl⟩
end Go.Avl.TE
/- bosket/escape.letter; printed by avmain.py. -/
namespace Go.Avl.TE
open Go Go.RowKit Go.Proofs Go.Avl
set_option linter.unusedVariables false
set_option maxRecDepth 100000
set_option maxHeartbeats 4000000
attribute [local irreducible] AW AO AQ Spec SpecH Calm

def escape_letter (k : Nat) (p0 : Int) : Option Int :=
  if p0 = (10 : Int) then some ((110 : Int))
  else if p0 = (9 : Int) then some ((116 : Int))
  else if p0 = (13 : Int) then some ((114 : Int))
  else some ((0 : Int))
theorem escape_letter_spec {k : Nat} {p0 : Int} {r : Int} (h : escape_letter k p0 = some r) : Spec Tryd.prog 48 [(eU8 p0)] (eU8 r) := by
  rw [escape_letter.eq_1] at h
  refine Spec.intro (res := [.tmp 2]) Tryd.func48 rfl rfl rfl (Nat.le_of_ble_eq_true rfl) ?_
  refine AW.sr ?_
  refine AO.c (Calm.assign rfl rfl) ?_
  refine AO.nK [0] ?_
  refine AW.seq ?_
  refine AW.sr ?_
  refine AO.c (Calm.move rfl rfl) ?_
  refine AO.nK [3] ?_
  refine AW.block ?_
  refine AW.sr ?_
  refine AO.c (x := eBool (decide (p0 = (10 : Int)))) (Calm.int rfl rfl rfl rfl) ?_
  refine AO.c (Calm.assign rfl rfl) ?_
  refine AO.nK [3, 4] ?_
  rcases of_ite h with ⟨hc2, h⟩ | ⟨hc2, h⟩
  ·refine AW.condP _ rfl hc2 ?_
   refine AW.sr ?_
   refine AO.c (Calm.assign rfl rfl) ?_
   refine AO.nK [2] ?_
   refine AW.rK [2] ?_
   have hr := Option.some.inj h
   subst hr
   exact ⟨[(eU8 (110 : Int))], ⟨rfl, rfl, trivial⟩, rfl⟩
  ·refine AW.condN _ rfl hc2 ?_
   refine AW.sr ?_
   refine AO.c (x := eBool (decide (p0 = (9 : Int)))) (Calm.int rfl rfl rfl rfl) ?_
   refine AO.c (Calm.assign rfl rfl) ?_
   refine AO.nK [3, 6] ?_
   rcases of_ite h with ⟨hc3, h⟩ | ⟨hc3, h⟩
   ·refine AW.condP _ rfl hc3 ?_
    refine AW.sr ?_
    refine AO.c (Calm.assign rfl rfl) ?_
    refine AO.nK [2] ?_
    refine AW.rK [2] ?_
    have hr := Option.some.inj h
    subst hr
    exact ⟨[(eU8 (116 : Int))], ⟨rfl, rfl, trivial⟩, rfl⟩
   ·refine AW.condN _ rfl hc3 ?_
    refine AW.sr ?_
    refine AO.c (x := eBool (decide (p0 = (13 : Int)))) (Calm.int rfl rfl rfl rfl) ?_
    refine AO.c (Calm.assign rfl rfl) ?_
    refine AO.nK [8] ?_
    rcases of_ite h with ⟨hc4, h⟩ | ⟨hc4, h⟩
    ·refine AW.condP _ rfl hc4 ?_
     refine AW.sr ?_
     refine AO.c (Calm.assign rfl rfl) ?_
     refine AO.nK [2] ?_
     refine AW.rK [2] ?_
     have hr := Option.some.inj h
     subst hr
     exact ⟨[(eU8 (114 : Int))], ⟨rfl, rfl, trivial⟩, rfl⟩
    ·refine AW.condN _ rfl hc4 ?_
     refine AW.sK [] ?_
     refine AW.sr ?_
     refine AO.c (Calm.assign rfl rfl) ?_
     refine AO.nK [2] ?_
     refine AW.rK [2] ?_
     have hr := Option.some.inj h
     subst hr
     exact ⟨[(eU8 (0 : Int))], ⟨rfl, rfl, trivial⟩, rfl⟩
end Go.Avl.TE
/- bosket/escape.digit; printed by avmain.py. -/
namespace Go.Avl.TE
open Go Go.RowKit Go.Proofs Go.Avl
set_option linter.unusedVariables false
set_option maxRecDepth 100000
set_option maxHeartbeats 4000000
attribute [local irreducible] AW AO AQ Spec SpecH Calm

def escape_digit (k : Nat) (p0 : Int) : Option Int :=
  if p0 < (10 : Int) then some ((w8 ((48 : Int) + p0)))
  else some ((w8 ((w8 ((97 : Int) + p0)) - (10 : Int))))
theorem escape_digit_spec {k : Nat} {p0 : Int} {r : Int} (h : escape_digit k p0 = some r) : Spec Tryd.prog 49 [(eU8 p0)] (eU8 r) := by
  rw [escape_digit.eq_1] at h
  refine Spec.intro (res := [.tmp 2]) Tryd.func49 rfl rfl rfl (Nat.le_of_ble_eq_true rfl) ?_
  refine AW.sr ?_
  refine AO.c (Calm.assign rfl rfl) ?_
  refine AO.nK [0] ?_
  refine AW.seq ?_
  refine AW.sr ?_
  refine AO.c (Calm.move rfl rfl) ?_
  refine AO.c (x := eBool (decide (p0 < (10 : Int)))) (Calm.int rfl rfl rfl rfl) ?_
  refine AO.nK [0, 4] ?_
  rcases of_ite h with ⟨hc2, h⟩ | ⟨hc2, h⟩
  ·refine AW.condP _ rfl hc2 ?_
   refine AW.sr ?_
   refine AO.c (Calm.move rfl rfl) ?_
   refine AO.c (x := eU8 (w8 ((48 : Int) + p0))) (Calm.int rfl rfl rfl rfl) ?_
   refine AO.c (Calm.assign rfl rfl) ?_
   refine AO.nK [2] ?_
   refine AW.rK [2] ?_
   have hr := Option.some.inj h
   subst hr
   exact ⟨[(eU8 (w8 ((48 : Int) + p0)))], ⟨rfl, rfl, trivial⟩, rfl⟩
  ·refine AW.condN _ rfl hc2 ?_
   refine AW.sK [0] ?_
   refine AW.sr ?_
   refine AO.c (Calm.move rfl rfl) ?_
   refine AO.c (x := eU8 (w8 ((97 : Int) + p0))) (Calm.int rfl rfl rfl rfl) ?_
   refine AO.c (x := eU8 (w8 ((w8 ((97 : Int) + p0)) - (10 : Int)))) (Calm.int rfl rfl rfl rfl) ?_
   refine AO.c (Calm.assign rfl rfl) ?_
   refine AO.nK [2] ?_
   refine AW.rK [2] ?_
   have hr := Option.some.inj h
   subst hr
   exact ⟨[(eU8 (w8 ((w8 ((97 : Int) + p0)) - (10 : Int))))], ⟨rfl, rfl, trivial⟩, rfl⟩
end Go.Avl.TE
/- bosket/escape.Byte; printed by avmain.py. -/
namespace Go.Avl.TE
open Go Go.RowKit Go.Proofs Go.Avl
set_option linter.unusedVariables false
set_option maxRecDepth 100000
set_option maxHeartbeats 4000000
attribute [local irreducible] AW AO AQ Spec SpecH Calm

def escape_Byte_c0 (k : Nat) (p0 : Int) : Option ByteArray :=
  some ((strOfNums ([p0] : List Int)))
def escape_Byte_l1 (k : Nat) (p0 : Int) (p1 : ByteArray) : Nat → Int → Option ByteArray
  | 0, _ => none
  | j + 1, x15 =>
    if x15 < (p1.size : Int) then if 0 ≤ x15 ∧ x15 < (p1.size : Int) then if (byteAt p1 x15) = p0 then some ((strOfNums ([(92 : Int), p0] : List Int)))
    else (escape_Byte_l1 k p0 p1 j) (w64 (x15 + (1 : Int)))
    else none
    else escape_Byte_c0 k p0
def escape_Byte (k : Nat) (p0 : Int) (p1 : ByteArray) : Option ByteArray :=
  (escape_letter k p0).bind fun t3 =>
  if t3 ≠ (0 : Int) then some ((strOfNums ([(92 : Int), t3] : List Int)))
  else Option.bind (α := Bool) (if p0 < (32 : Int) then some (true)
  else some (decide ((126 : Int) < p0))) fun b6 =>
  if b6 = true then (escape_digit k (Int.fdiv p0 (2 ^ (min (4 : Int).toNat IntKind.u8.bits)))).bind fun t10 =>
  (escape_digit k (bits .and .u8 p0 (15 : Int))).bind fun t11 =>
  some ((strOfNums ([(92 : Int), (120 : Int), t10, t11] : List Int)))
  else if p0 = (92 : Int) then some ((ByteArray.mk #[92, 92]))
  else escape_Byte_l1 k p0 p1 k (0 : Int)
theorem escape_Byte_spec {k : Nat} {p0 : Int} {p1 : ByteArray} {r : ByteArray} (h : escape_Byte k p0 p1 = some r) : Spec Tryd.prog 38 [(eU8 p0), (eStr p1)] (eStr r) := by
  rw [escape_Byte.eq_1] at h
  refine Spec.intro (res := [.tmp 4]) Tryd.func38 rfl rfl rfl (Nat.le_of_ble_eq_true rfl) ?_
  refine AW.sr ?_
  refine AO.c (Calm.assign rfl rfl) ?_
  refine AO.nK [0, 1] ?_
  refine AW.seq ?_
  refine AW.sr ?_
  refine AO.c (Calm.move rfl rfl) ?_
  obtain ⟨t3, et3, h⟩ := of_bind h
  refine AO.callS [(eU8 p0)] (eU8 t3) 8 rfl (by decide) ok48 rfl rfl rfl ⟨rfl, rfl, trivial⟩ (escape_letter_spec et3) ?_
  refine AO.c (Calm.assign rfl rfl) ?_
  refine AO.nK [0, 1, 5] ?_
  refine AW.sr ?_
  refine AO.c (Calm.move rfl rfl) ?_
  refine AO.c (x := eBool (decide (t3 ≠ (0 : Int)))) (Calm.int rfl rfl rfl rfl) ?_
  refine AO.nK [0, 1, 5, 10] ?_
  rcases of_ite h with ⟨hc4, h⟩ | ⟨hc4, h⟩
  ·refine AW.condP _ rfl hc4 ?_
   refine AW.sr ?_
   refine AO.c (Calm.move rfl rfl) ?_
   refine AO.lit (Z := (eU8 (0 : Int))) (xs := (([(92 : Int), t3] : List Int).map eU8)) (qs := [(0, (eU8 (92 : Int))), (1, (eU8 t3))]) rfl 12 rfl (by decide) rfl ⟨rfl, rfl, rfl, rfl, rfl, rfl, trivial⟩ Tryd.underlying60 sz5 zr5 lay5 rfl (by decide) (litOK (z := 1) [(eU8 (92 : Int)), (eU8 t3)] rfl ⟨⟨rfl, rfl⟩, ⟨rfl, rfl⟩, trivial⟩) rfl fun n5 => ?_
   refine AO.c (x := eStr (strOfNums ([(92 : Int), t3] : List Int))) (Calm.strO 0 rfl rfl rfl Tryd.underlying60 Tryd.underlying9 Tryd.underlying5) ?_
   refine AO.c (Calm.assign rfl rfl) ?_
   refine AO.nH [4] (H' := []) (Sub.nil _) ?_
   refine AW.rK [4] ?_
   have hr := Option.some.inj h
   subst hr
   exact ⟨[(eStr (strOfNums ([(92 : Int), t3] : List Int)))], ⟨rfl, rfl, trivial⟩, rfl⟩
  ·refine AW.condN _ rfl hc4 ?_
   refine AW.sK [0, 1] ?_
   refine AW.seq ?_
   refine AW.seq ?_
   obtain ⟨b6, hq7, h⟩ := of_bind h
   refine AW.regM [(0, (eU8 p0)), (1, (eStr p1)), (19, (eBool b6))] [] ?_ ?_
   ·refine AO.c (Calm.move rfl rfl) ?_
    refine AO.c (x := eBool (decide (p0 < (32 : Int)))) (Calm.int rfl rfl rfl rfl) ?_
    refine AO.c (Calm.move rfl rfl) ?_
    rcases of_ite hq7 with ⟨hc8, hq7⟩ | ⟨hc8, hq7⟩
    ·refine AO.sF rfl rfl (bD (decide_eq_true hc8)) ?_
     refine AO.sF rfl rfl (bD (decide_eq_true hc8)) ?_
     refine AO.c (Calm.pickT rfl (bD (decide_eq_true hc8)) rfl) ?_
     cases hq7
     refine AO.nilE ⟨rfl, rfl⟩ ?_ ?_
     · exact ⟨rfl, rfl, rfl, trivial⟩
     · exact (Sub.refl _)
    ·refine AO.cG rfl rfl (bD (decide_eq_false hc8)) (Calm.move rfl rfl) ?_
     refine AO.cG (x := eBool (decide ((126 : Int) < p0))) rfl rfl (bD (decide_eq_false hc8)) (Calm.int rfl rfl rfl rfl) ?_
     refine AO.c (Calm.pickF rfl (bD (decide_eq_false hc8)) rfl) ?_
     cases hq7
     refine AO.nilE ⟨rfl, rfl⟩ ?_ ?_
     · exact ⟨rfl, rfl, rfl, trivial⟩
     · exact (Sub.refl _)
   ·rcases of_ite h with ⟨hc9, h⟩ | ⟨hc9, h⟩
    ·refine AW.condT' _ rfl hc9 ?_
     refine AW.sr ?_
     refine AO.c (Calm.move rfl rfl) ?_
     refine AO.c (x := eU8 (Int.fdiv p0 (2 ^ (min (4 : Int).toNat IntKind.u8.bits)))) (Calm.shr rfl rfl rfl (by decide)) ?_
     obtain ⟨t10, et10, h⟩ := of_bind h
     refine AO.callS [(eU8 (Int.fdiv p0 (2 ^ (min (4 : Int).toNat IntKind.u8.bits))))] (eU8 t10) 22 rfl (by decide) ok49 rfl rfl rfl ⟨rfl, rfl, trivial⟩ (escape_digit_spec et10) ?_
     refine AO.c (Calm.move rfl rfl) ?_
     refine AO.c (x := eU8 (bits .and .u8 p0 (15 : Int))) (Calm.int rfl rfl rfl rfl) ?_
     obtain ⟨t11, et11, h⟩ := of_bind h
     refine AO.callS [(eU8 (bits .and .u8 p0 (15 : Int)))] (eU8 t11) 25 rfl (by decide) ok49 rfl rfl rfl ⟨rfl, rfl, trivial⟩ (escape_digit_spec et11) ?_
     refine AO.lit (Z := (eU8 (0 : Int))) (xs := (([(92 : Int), (120 : Int), t10, t11] : List Int).map eU8)) (qs := [(0, (eU8 (92 : Int))), (1, (eU8 (120 : Int))), (2, (eU8 t10)), (3, (eU8 t11))]) rfl 26 rfl (by decide) rfl ⟨rfl, rfl, rfl, rfl, rfl, rfl, rfl, rfl, rfl, rfl, rfl, rfl, trivial⟩ Tryd.underlying60 sz5 zr5 lay5 rfl (by decide) (litOK (z := 1) [(eU8 (92 : Int)), (eU8 (120 : Int)), (eU8 t10), (eU8 t11)] rfl ⟨⟨rfl, rfl⟩, ⟨rfl, rfl⟩, ⟨rfl, rfl⟩, ⟨rfl, rfl⟩, trivial⟩) rfl fun n12 => ?_
     refine AO.c (x := eStr (strOfNums ([(92 : Int), (120 : Int), t10, t11] : List Int))) (Calm.strO 0 rfl rfl rfl Tryd.underlying60 Tryd.underlying9 Tryd.underlying5) ?_
     refine AO.c (Calm.assign rfl rfl) ?_
     refine AO.nH [4] (H' := []) (Sub.nil _) ?_
     refine AW.rK [4] ?_
     have hr := Option.some.inj h
     subst hr
     exact ⟨[(eStr (strOfNums ([(92 : Int), (120 : Int), t10, t11] : List Int)))], ⟨rfl, rfl, trivial⟩, rfl⟩
    ·refine AW.condF' _ rfl hc9 ?_
     refine AW.sK [0, 1] ?_
     refine AW.seq ?_
     refine AW.sr ?_
     refine AO.c (Calm.move rfl rfl) ?_
     refine AO.c (x := eBool (decide (p0 = (92 : Int)))) (Calm.int rfl rfl rfl rfl) ?_
     refine AO.nK [0, 1, 29] ?_
     rcases of_ite h with ⟨hc13, h⟩ | ⟨hc13, h⟩
     ·refine AW.condP _ rfl hc13 ?_
      refine AW.sr ?_
      refine AO.c (Calm.assign rfl rfl) ?_
      refine AO.nK [4] ?_
      refine AW.rK [4] ?_
      have hr := Option.some.inj h
      subst hr
      exact ⟨[(eStr (ByteArray.mk #[92, 92]))], ⟨rfl, rfl, trivial⟩, rfl⟩
     ·refine AW.condN _ rfl hc13 ?_
      refine AW.sK [0, 1] ?_
      refine AW.seq_mid (fun ρ H => ρ = [(0, (eU8 p0))] ∧ H = [] ∧ escape_Byte_c0 k p0 = some r) ?_ ?_
      ·refine AW.sr ?_
       refine AO.c (Calm.move rfl rfl) ?_
       refine AO.c (Calm.lenStr rfl rfl Tryd.underlying9) ?_
       refine AO.c (Calm.move rfl rfl) ?_
       refine AO.nK [0, 1, 31, 32] ?_
       refine AW.block ?_
       refine AW.wK [0, 1, 31, 32] ?_
       refine AW.loop (fun kq ρ H => ∃ (x15 : Int), ρ = [(0, (eU8 p0)), (1, (eStr p1)), (31, (eI64 (p1.size : Int))), (32, (eI64 x15))] ∧ H = [] ∧ escape_Byte_l1 k p0 p1 kq x15 = some r) k ⟨(0 : Int), rfl, rfl, h⟩ ?_
       rintro kq17 _ _ ⟨x15, rfl, rfl, h⟩
       cases kq17 with
       | zero => rw [escape_Byte_l1.eq_1] at h; cases h
       | succ kq17 =>
       rw [escape_Byte_l1.eq_2] at h
       generalize hrec16 : escape_Byte_l1 k p0 p1 kq17 = rec16 at h
       refine AW.sr ?_
       refine AO.c (x := eBool (decide (x15 < (p1.size : Int)))) (Calm.int rfl rfl rfl rfl) ?_
       refine AO.nK [0, 1, 31, 32, 33] ?_
       refine AW.seq ?_
       rcases of_ite h with ⟨hc18, h⟩ | ⟨hc18, h⟩
       ·refine AW.condP _ rfl hc18 ?_
        refine AW.sK [0, 1, 31, 32] ?_
        refine AW.seq ?_
        refine AW.block ?_
        refine AW.sr ?_
        refine AO.c (Calm.move rfl rfl) ?_
        refine AO.c (Calm.assign rfl rfl) ?_
        refine AO.nK [0, 1, 6, 31, 32] ?_
        refine AW.sr ?_
        refine AO.c (Calm.move rfl rfl) ?_
        refine AO.c (Calm.move rfl rfl) ?_
        obtain ⟨hg19, h⟩ := of_guard h
        refine AO.c (x := eU8 (byteAt p1 x15)) (Calm.idxS rfl rfl rfl hg19 Tryd.underlying9) ?_
        refine AO.c (Calm.move rfl rfl) ?_
        refine AO.c (x := eBool (decide ((byteAt p1 x15) = p0))) (Calm.int rfl rfl rfl rfl) ?_
        refine AO.nK [0, 1, 31, 32, 39] ?_
        rcases of_ite h with ⟨hc20, h⟩ | ⟨hc20, h⟩
        ·refine AW.condP _ rfl hc20 ?_
         refine AW.sr ?_
         refine AO.c (Calm.move rfl rfl) ?_
         refine AO.lit (Z := (eU8 (0 : Int))) (xs := (([(92 : Int), p0] : List Int).map eU8)) (qs := [(0, (eU8 (92 : Int))), (1, (eU8 p0))]) rfl 41 rfl (by decide) rfl ⟨rfl, rfl, rfl, rfl, rfl, rfl, trivial⟩ Tryd.underlying60 sz5 zr5 lay5 rfl (by decide) (litOK (z := 1) [(eU8 (92 : Int)), (eU8 p0)] rfl ⟨⟨rfl, rfl⟩, ⟨rfl, rfl⟩, trivial⟩) rfl fun n21 => ?_
         refine AO.c (x := eStr (strOfNums ([(92 : Int), p0] : List Int))) (Calm.strO 0 rfl rfl rfl Tryd.underlying60 Tryd.underlying9 Tryd.underlying5) ?_
         refine AO.c (Calm.assign rfl rfl) ?_
         refine AO.nH [4] (H' := []) (Sub.nil _) ?_
         refine AW.rK [4] ?_
         have hr := Option.some.inj h
         subst hr
         exact ⟨[(eStr (strOfNums ([(92 : Int), p0] : List Int)))], ⟨rfl, rfl, trivial⟩, rfl⟩
        ·refine AW.condN _ rfl hc20 ?_
         refine AW.sK [0, 1, 31, 32] ?_
         refine AW.reg ?_
         refine AO.c (x := eI64 (w64 (x15 + (1 : Int)))) (Calm.int rfl rfl rfl rfl) ?_
         refine AO.c (Calm.move rfl rfl) ?_
         refine AO.nK [0, 1, 31, 32] ?_
         exact ⟨kq17, Nat.lt_succ_self _, (w64 (x15 + (1 : Int))), rfl, rfl, by rw [hrec16]; exact h⟩
       ·refine AW.condN _ rfl hc18 ?_
        refine AW.eK [0] ?_
        exact ⟨rfl, rfl, h⟩
      ·rintro _ _ ⟨rfl, rfl, h⟩
       rw [escape_Byte_c0.eq_1] at h
       refine AW.sr ?_
       refine AO.c (Calm.move rfl rfl) ?_
       refine AO.lit (Z := (eU8 (0 : Int))) (xs := (([p0] : List Int).map eU8)) (qs := [(0, (eU8 p0))]) rfl 45 rfl (by decide) rfl ⟨rfl, rfl, rfl, trivial⟩ Tryd.underlying60 sz5 zr5 lay5 rfl (by decide) (litOK (z := 1) [(eU8 p0)] rfl ⟨⟨rfl, rfl⟩, trivial⟩) rfl fun n14 => ?_
       refine AO.c (x := eStr (strOfNums ([p0] : List Int))) (Calm.strO 0 rfl rfl rfl Tryd.underlying60 Tryd.underlying9 Tryd.underlying5) ?_
       refine AO.c (Calm.assign rfl rfl) ?_
       refine AO.nH [4] (H' := []) (Sub.nil _) ?_
       refine AW.rK [4] ?_
       have hr := Option.some.inj h
       subst hr
       exact ⟨[(eStr (strOfNums ([p0] : List Int)))], ⟨rfl, rfl, trivial⟩, rfl⟩
end Go.Avl.TE
/- bosket/byteset.List; printed by avmain.py. -/
namespace Go.Avl.TE
open Go Go.RowKit Go.Proofs Go.Avl
set_option linter.unusedVariables false
set_option maxRecDepth 100000
set_option maxHeartbeats 4000000
attribute [local irreducible] AW AO AQ Spec SpecH Calm

def byteset_List_c0 (k : Nat) (x4 : (List Int)) : Option (List Int) :=
  some (x4)
def byteset_List_c1 (k : Nat) (rec8 : ((List Int) → Int → Option (List Int))) (x7 : Int) (x12 : (List Int)) : Option (List Int) :=
  rec8 x12 (w64 (x7 + (1 : Int)))
def byteset_List_l2 (k : Nat) (rec8 : ((List Int) → Int → Option (List Int))) (x7 : Int) : Nat → (List Int) → Int → Option (List Int)
  | 0, _, _ => none
  | j + 1, x15, x16 =>
    if x16 ≠ (0 : Int) then (math_bits_TrailingZeros64 k x16).bind fun t20 =>
    if (x15 ++ ([(w8 (w64 ((w64 ((64 : Int) * x7)) + t20)))] : List Int)).length * 1 ≤ 140737488355328 then (byteset_List_l2 k rec8 x7 j) (x15 ++ ([(w8 (w64 ((w64 ((64 : Int) * x7)) + t20)))] : List Int)) (bits .and .u64 x16 (u64 (x16 - (1 : Int))))
    else none
    else byteset_List_c1 k rec8 x7 x15
def byteset_List_l3 (k : Nat) (p0 : (Vector Int 4)) : Nat → (List Int) → Int → Option (List Int)
  | 0, _, _ => none
  | j + 1, x6, x7 =>
    if x7 < (4 : Int) then if 0 ≤ x7 ∧ x7 < (4 : Int) then byteset_List_l2 k (byteset_List_l3 k p0 j) x7 k x6 (vget p0 x7)
    else none
    else byteset_List_c0 k x6
def byteset_List (k : Nat) (p0 : (Vector Int 4)) : Option (List Int) :=
  byteset_List_l3 k p0 k ([] : List Int) (0 : Int)
theorem byteset_List_spec {k : Nat} {p0 : (Vector Int 4)} {r : (List Int)} (h : byteset_List k p0 = some r) : Spec Tryd.prog 52 [(.ar 1 (p0.toList.map eU64))] (e60 r) := by
  rw [byteset_List.eq_1] at h
  refine Spec.intro (res := [.tmp 2]) Tryd.func52 rfl rfl rfl (Nat.le_of_ble_eq_true rfl) ?_
  refine AW.sr ?_
  refine AO.box rfl 1 rfl (by decide) rfl rfl rfl fun n2 => ?_
  refine AO.c (Calm.assign rfl rfl) ?_
  refine AO.nK [1] ?_
  refine AW.sr ?_
  refine AO.c (Calm.assign rfl rfl) ?_
  refine AO.nK [1, 3] ?_
  refine AW.seq_mid (fun ρ H => ∃ (n3 : Nat) (x4 : (List Int)), ρ = [(3, (.own n3 0 x4.length))] ∧ H = [(n3, (.mem (.ar 1 (x4.map eU8))))] ∧ byteset_List_c0 k x4 = some r) ?_ ?_
  ·refine AW.sr ?_
   refine AO.c (Calm.load 0 rfl rfl rfl (At.cast At.here rfl) ag38 (by rw [sz38]; simp [AV.size])) ?_
   refine AO.c (Calm.move rfl rfl) ?_
   refine AO.nH [3, 6, 7] (H' := []) (Sub.nil _) ?_
   refine AW.block ?_
   refine AW.nilOwn 3 1 rfl fun n24 => ?_
   refine AW.wK [3, 6, 7] ?_
   refine AW.loop (fun kq ρ H => ∃ (n5 : Nat) (x6 : (List Int)) (x7 : Int), ρ = [(3, (.own n5 0 x6.length)), (6, (.ar 1 (p0.toList.map eU64))), (7, (eI64 x7))] ∧ H = [(n5, (.mem (.ar 1 (x6.map eU8))))] ∧ byteset_List_l3 k p0 kq x6 x7 = some r) k ⟨n24, ([] : List Int), (0 : Int), rfl, rfl, h⟩ ?_
   rintro kq9 _ _ ⟨n5, x6, x7, rfl, rfl, h⟩
   cases kq9 with
   | zero => rw [byteset_List_l3.eq_1] at h; cases h
   | succ kq9 =>
   rw [byteset_List_l3.eq_2] at h
   generalize hrec8 : byteset_List_l3 k p0 kq9 = rec8 at h
   refine AW.sr ?_
   refine AO.c (x := eBool (decide (x7 < (4 : Int)))) (Calm.int rfl rfl rfl rfl) ?_
   refine AO.nK [3, 6, 7, 8] ?_
   refine AW.seq ?_
   rcases of_ite h with ⟨hc10, h⟩ | ⟨hc10, h⟩
   ·refine AW.condP _ rfl hc10 ?_
    refine AW.sK [3, 6, 7] ?_
    refine AW.seq_mid (fun ρ H => ∃ (n11 : Nat) (x12 : (List Int)), ρ = [(3, (.own n11 0 x12.length)), (6, (.ar 1 (p0.toList.map eU64))), (7, (eI64 x7))] ∧ H = [(n11, (.mem (.ar 1 (x12.map eU8))))] ∧ byteset_List_c1 k rec8 x7 x12 = some r) ?_ ?_
    ·refine AW.block ?_
     refine AW.sr ?_
     refine AO.c (Calm.move rfl rfl) ?_
     obtain ⟨hg13, h⟩ := of_guard h
     refine AO.c (x := eU64 (vget p0 x7)) (Calm.idxVv (f := eU64) rfl rfl rfl hg13 Tryd.underlying38 sz36 ag36 rfl) ?_
     refine AO.c (Calm.assign rfl rfl) ?_
     refine AO.c (Calm.assign rfl rfl) ?_
     refine AO.nK [3, 4, 5, 6, 7] ?_
     refine AW.block ?_
     refine AW.wK [3, 4, 5, 6, 7] ?_
     refine AW.loop (fun kq ρ H => ∃ (n14 : Nat) (x15 : (List Int)) (x16 : Int), ρ = [(3, (.own n14 0 x15.length)), (4, (eI64 x7)), (5, (eU64 x16)), (6, (.ar 1 (p0.toList.map eU64))), (7, (eI64 x7))] ∧ H = [(n14, (.mem (.ar 1 (x15.map eU8))))] ∧ byteset_List_l2 k rec8 x7 kq x15 x16 = some r) k ⟨n5, x6, (vget p0 x7), rfl, rfl, h⟩ ?_
     rintro kq18 _ _ ⟨n14, x15, x16, rfl, rfl, h⟩
     cases kq18 with
     | zero => rw [byteset_List_l2.eq_1] at h; cases h
     | succ kq18 =>
     rw [byteset_List_l2.eq_2] at h
     generalize hrec17 : byteset_List_l2 k rec8 x7 kq18 = rec17 at h
     refine AW.seq ?_
     refine AW.sr ?_
     refine AO.c (Calm.move rfl rfl) ?_
     refine AO.c (x := eBool (decide (x16 ≠ (0 : Int)))) (Calm.int rfl rfl rfl rfl) ?_
     refine AO.nK [3, 4, 5, 6, 7, 12] ?_
     rcases of_ite h with ⟨hc19, h⟩ | ⟨hc19, h⟩
     ·refine AW.condP _ rfl hc19 ?_
      refine AW.sK [3, 4, 5, 6, 7] ?_
      refine AW.block ?_
      refine AW.sr ?_
      refine AO.c (Calm.move rfl rfl) ?_
      refine AO.c (Calm.move rfl rfl) ?_
      refine AO.c (x := eI64 (w64 ((64 : Int) * x7))) (Calm.int rfl rfl rfl rfl) ?_
      refine AO.c (Calm.move rfl rfl) ?_
      obtain ⟨t20, et20, h⟩ := of_bind h
      refine AO.callS [(eU64 x16)] (eI64 t20) 17 rfl (by decide) ok50 rfl rfl rfl ⟨rfl, rfl, trivial⟩ (math_bits_TrailingZeros64_spec et20) ?_
      refine AO.c (x := eI64 (w64 ((w64 ((64 : Int) * x7)) + t20))) (Calm.int rfl rfl rfl rfl) ?_
      refine AO.c (x := eU8 (w8 (w64 ((w64 ((64 : Int) * x7)) + t20)))) (Calm.conv rfl rfl Tryd.underlying3 Tryd.underlying5) ?_
      refine AO.lit (Z := (eU8 (0 : Int))) (xs := (([(w8 (w64 ((w64 ((64 : Int) * x7)) + t20)))] : List Int).map eU8)) (qs := [(0, (eU8 (w8 (w64 ((w64 ((64 : Int) * x7)) + t20)))))]) rfl 20 rfl (by decide) rfl ⟨rfl, rfl, rfl, trivial⟩ Tryd.underlying60 sz5 zr5 lay5 rfl (by decide) (litOK (z := 1) [(eU8 (w8 (w64 ((w64 ((64 : Int) * x7)) + t20))))] rfl ⟨⟨rfl, rfl⟩, trivial⟩) rfl fun n21 => ?_
      obtain ⟨hg23, h⟩ := of_guard h
      refine AO.appendL (l := x15) (m := ([(w8 (w64 ((w64 ((64 : Int) * x7)) + t20)))] : List Int)) 1 21 rfl (by decide) rfl rfl rfl rfl rfl (Src.ownL (f := eU8) (l := ([(w8 (w64 ((w64 ((64 : Int) * x7)) + t20)))] : List Int)) 0 rfl) Tryd.underlying60 Tryd.underlying60 sz5 by5 zr5 rfl hg23 (by decide) fun n22 => ?_
      refine AO.c (Calm.assign rfl rfl) ?_
      refine AO.nH [3, 4, 5, 6, 7] (H' := [(n22, (.mem (.ar 1 ((x15 ++ ([(w8 (w64 ((w64 ((64 : Int) * x7)) + t20)))] : List Int)).map eU8))))]) (Sub.cons 1 rfl (Sub.nil _)) ?_
      refine AW.reg ?_
      refine AO.c (Calm.move rfl rfl) ?_
      refine AO.c (Calm.move rfl rfl) ?_
      refine AO.c (x := eU64 (u64 (x16 - (1 : Int)))) (Calm.int rfl rfl rfl rfl) ?_
      refine AO.c (x := eU64 (bits .and .u64 x16 (u64 (x16 - (1 : Int))))) (Calm.int rfl rfl rfl rfl) ?_
      refine AO.c (Calm.assign rfl rfl) ?_
      refine AO.nK [3, 4, 5, 6, 7] ?_
      exact ⟨kq18, Nat.lt_succ_self _, n22, (x15 ++ ([(w8 (w64 ((w64 ((64 : Int) * x7)) + t20)))] : List Int)), (bits .and .u64 x16 (u64 (x16 - (1 : Int)))), rfl, rfl, by rw [hrec17]; exact h⟩
     ·refine AW.condN _ rfl hc19 ?_
      refine AW.eK [3, 6, 7] ?_
      exact ⟨n14, x15, rfl, rfl, h⟩
    ·rintro _ _ ⟨n11, x12, rfl, rfl, h⟩
     rw [byteset_List_c1.eq_1] at h
     refine AW.reg ?_
     refine AO.c (x := eI64 (w64 (x7 + (1 : Int)))) (Calm.int rfl rfl rfl rfl) ?_
     refine AO.c (Calm.move rfl rfl) ?_
     refine AO.nK [3, 6, 7] ?_
     exact ⟨kq9, Nat.lt_succ_self _, n11, x12, (w64 (x7 + (1 : Int))), rfl, rfl, by rw [hrec8]; exact h⟩
   ·refine AW.condN _ rfl hc10 ?_
    refine AW.eK [3] ?_
    exact ⟨n5, x6, rfl, rfl, h⟩
  ·rintro _ _ ⟨n3, x4, rfl, rfl, h⟩
   rw [byteset_List_c0.eq_1] at h
   refine AW.sr ?_
   refine AO.c (Calm.move rfl rfl) ?_
   refine AO.c (Calm.assign rfl rfl) ?_
   refine AO.nK [2] ?_
   refine AW.freezeS 0 [(2, (.fz 1 (x4.map eU8)))] rfl ⟨fz_all rfl, trivial⟩ ?_
   refine AW.rK [2] ?_
   have hr := Option.some.inj h
   subst hr
   exact ⟨[(.fz 1 (x4.map eU8))], ⟨rfl, rfl, trivial⟩, rfl⟩
end Go.Avl.TE
/- bosket/byteset.Spans; printed by avmain.py. -/
namespace Go.Avl.TE
open Go Go.RowKit Go.Proofs Go.Avl
set_option linter.unusedVariables false
set_option maxRecDepth 100000
set_option maxHeartbeats 4000000
attribute [local irreducible] AW AO AQ Spec SpecH Calm

def byteset_Spans_c0 (k : Nat) (x4 : (List S71)) : Option (List S71) :=
  some (x4)
def byteset_Spans_c1 (k : Nat) (rec9 : ((List S71) → Int → Option (List S71))) (x8 : Int) (x13 : (List S71)) : Option (List S71) :=
  rec9 x13 (w64 (x8 + (1 : Int)))
def byteset_Spans_l2 (k : Nat) (t5 : (List Int)) : Nat → (List S71) → Int → Option (List S71)
  | 0, _, _ => none
  | j + 1, x7, x8 =>
    if x8 < (t5.length : Int) then if 0 ≤ x8 ∧ x8 < (t5.length : Int) then Option.bind (α := Bool) (if (0 : Int) < (x7.length : Int) then if 0 ≤ (w64 ((x7.length : Int) - (1 : Int))) ∧ (w64 ((x7.length : Int) - (1 : Int))) < (x7.length : Int) then some (decide ((w64 ((w64 ((lget x7 (w64 ((x7.length : Int) - (1 : Int)))).f1)) + (1 : Int))) = (w64 (lget t5 x8))))
    else none
    else some (false)) fun b15 =>
    if b15 = true then if 0 ≤ (w64 ((x7.length : Int) - (1 : Int))) ∧ (w64 ((x7.length : Int) - (1 : Int))) < (x7.length : Int) then byteset_Spans_c1 k (byteset_Spans_l2 k t5 j) x8 (lset x7 (w64 ((x7.length : Int) - (1 : Int))) (S71.mk ((lget x7 (w64 ((x7.length : Int) - (1 : Int)))).f0) (lget t5 x8)))
    else none
    else if (x7 ++ ([(S71.mk (lget t5 x8) (lget t5 x8))] : List S71)).length * 2 ≤ 140737488355328 then byteset_Spans_c1 k (byteset_Spans_l2 k t5 j) x8 (x7 ++ ([(S71.mk (lget t5 x8) (lget t5 x8))] : List S71))
    else none
    else none
    else byteset_Spans_c0 k x7
def byteset_Spans (k : Nat) (p0 : (Vector Int 4)) : Option (List S71) :=
  (byteset_List k p0).bind fun t5 =>
  byteset_Spans_l2 k t5 k ([] : List S71) (0 : Int)
theorem byteset_Spans_spec {k : Nat} {p0 : (Vector Int 4)} {r : (List S71)} (h : byteset_Spans k p0 = some r) : Spec Tryd.prog 41 [(.ar 1 (p0.toList.map eU64))] (e68 r) := by
  rw [byteset_Spans.eq_1] at h
  refine Spec.intro (res := [.tmp 2]) Tryd.func41 rfl rfl rfl (Nat.le_of_ble_eq_true rfl) ?_
  refine AW.sr ?_
  refine AO.box rfl 1 rfl (by decide) rfl rfl rfl fun n2 => ?_
  refine AO.c (Calm.assign rfl rfl) ?_
  refine AO.nK [1] ?_
  refine AW.sr ?_
  refine AO.c (Calm.assign rfl rfl) ?_
  refine AO.nK [1, 3] ?_
  refine AW.seq_mid (fun ρ H => ∃ (n3 : Nat) (x4 : (List S71)), ρ = [(3, (.own n3 0 x4.length))] ∧ H = [(n3, (.mem (.ar 2 (x4.map e71))))] ∧ byteset_Spans_c0 k x4 = some r) ?_ ?_
  ·refine AW.sr ?_
   refine AO.c (Calm.load 0 rfl rfl rfl (At.cast At.here rfl) ag38 (by rw [sz38]; simp [AV.size])) ?_
   obtain ⟨t5, et5, h⟩ := of_bind h
   refine AO.callS [(.ar 1 (p0.toList.map eU64))] (.fz 1 (t5.map eU8)) 8 rfl (by decide) ok52 rfl rfl rfl ⟨rfl, rfl, trivial⟩ (byteset_List_spec et5) ?_
   refine AO.c (Calm.lenL rfl rfl Tryd.underlying60) ?_
   refine AO.c (Calm.move rfl rfl) ?_
   refine AO.nH [3, 8, 9, 10] (H' := []) (Sub.nil _) ?_
   refine AW.block ?_
   refine AW.nilOwn 3 2 rfl fun n24 => ?_
   refine AW.wK [3, 8, 9, 10] ?_
   refine AW.loop (fun kq ρ H => ∃ (n6 : Nat) (x7 : (List S71)) (x8 : Int), ρ = [(3, (.own n6 0 x7.length)), (8, (.fz 1 (t5.map eU8))), (9, (eI64 (t5.length : Int))), (10, (eI64 x8))] ∧ H = [(n6, (.mem (.ar 2 (x7.map e71))))] ∧ byteset_Spans_l2 k t5 kq x7 x8 = some r) k ⟨n24, ([] : List S71), (0 : Int), rfl, rfl, h⟩ ?_
   rintro kq10 _ _ ⟨n6, x7, x8, rfl, rfl, h⟩
   cases kq10 with
   | zero => rw [byteset_Spans_l2.eq_1] at h; cases h
   | succ kq10 =>
   rw [byteset_Spans_l2.eq_2] at h
   generalize hrec9 : byteset_Spans_l2 k t5 kq10 = rec9 at h
   refine AW.sr ?_
   refine AO.c (x := eBool (decide (x8 < (t5.length : Int)))) (Calm.int rfl rfl rfl rfl) ?_
   refine AO.nK [3, 8, 9, 10, 11] ?_
   refine AW.seq ?_
   rcases of_ite h with ⟨hc11, h⟩ | ⟨hc11, h⟩
   ·refine AW.condP _ rfl hc11 ?_
    refine AW.sK [3, 8, 9, 10] ?_
    refine AW.seq_mid (fun ρ H => ∃ (n12 : Nat) (x13 : (List S71)), ρ = [(3, (.own n12 0 x13.length)), (8, (.fz 1 (t5.map eU8))), (9, (eI64 (t5.length : Int))), (10, (eI64 x8))] ∧ H = [(n12, (.mem (.ar 2 (x13.map e71))))] ∧ byteset_Spans_c1 k rec9 x8 x13 = some r) ?_ ?_
    ·refine AW.block ?_
     refine AW.sr ?_
     obtain ⟨hg14, h⟩ := of_guard h
     refine AO.c (Calm.idxL (f := eU8) rfl rfl rfl hg14 Tryd.underlying60 sz5) ?_
     refine AO.c (Calm.loadRp rfl rfl ag5 sz5) ?_
     refine AO.c (Calm.assign rfl rfl) ?_
     refine AO.nK [3, 5, 8, 9, 10] ?_
     refine AW.seq ?_
     refine AW.sr ?_
     refine AO.c (Calm.move rfl rfl) ?_
     refine AO.c (Calm.lenOwn rfl rfl Tryd.underlying68) ?_
     refine AO.c (Calm.assign rfl rfl) ?_
     refine AO.nK [3, 5, 6, 8, 9, 10] ?_
     refine AW.seq ?_
     obtain ⟨b15, hq16, h⟩ := of_bind h
     refine AW.regM [(3, (.own n6 0 x7.length)), (5, (eU8 (lget t5 x8))), (6, (eI64 (x7.length : Int))), (8, (.fz 1 (t5.map eU8))), (9, (eI64 (t5.length : Int))), (10, (eI64 x8)), (30, (eBool b15))] [(n6, (.mem (.ar 2 (x7.map e71))))] ?_ ?_
     ·refine AO.c (Calm.move rfl rfl) ?_
      refine AO.c (x := eBool (decide ((0 : Int) < (x7.length : Int)))) (Calm.int rfl rfl rfl rfl) ?_
      refine AO.c (Calm.move rfl rfl) ?_
      rcases of_ite hq16 with ⟨hc17, hq16⟩ | ⟨hc17, hq16⟩
      ·refine AO.cG rfl rfl (bD (decide_eq_true hc17)) (Calm.move rfl rfl) ?_
       refine AO.cG rfl rfl (bD (decide_eq_true hc17)) (Calm.move rfl rfl) ?_
       refine AO.cG (x := eI64 (w64 ((x7.length : Int) - (1 : Int)))) rfl rfl (bD (decide_eq_true hc17)) (Calm.int rfl rfl rfl rfl) ?_
       obtain ⟨hg18, hq16⟩ := of_guard hq16
       refine AO.cG rfl rfl (bD (decide_eq_true hc17)) (Calm.idxO 0 rfl rfl rfl rfl hg18 Tryd.underlying68 sz71) ?_
       refine AO.cG (x := .ptr n6 ((w64 ((x7.length : Int) - (1 : Int))).toNat * 2 + 0 + 1)) rfl rfl (bD (decide_eq_true hc17)) (Calm.fldPtr rfl rfl Tryd.underlying71 rfl sz5 _ rfl) ?_
       refine AO.cG rfl rfl (bD (decide_eq_true hc17)) (Calm.load 0 rfl rfl rfl (At.cast (At.lidx (w64 ((x7.length : Int) - (1 : Int))) hg18.1 hg18.2 (At.fldS (At.fld0 At.here))) (by omega)) ag5 sz5) ?_
       refine AO.cG (x := eI64 (w64 ((lget x7 (w64 ((x7.length : Int) - (1 : Int)))).f1))) rfl rfl (bD (decide_eq_true hc17)) (Calm.conv rfl rfl Tryd.underlying5 Tryd.underlying3) ?_
       refine AO.cG (x := eI64 (w64 ((w64 ((lget x7 (w64 ((x7.length : Int) - (1 : Int)))).f1)) + (1 : Int)))) rfl rfl (bD (decide_eq_true hc17)) (Calm.int rfl rfl rfl rfl) ?_
       refine AO.cG rfl rfl (bD (decide_eq_true hc17)) (Calm.move rfl rfl) ?_
       refine AO.cG (x := eI64 (w64 (lget t5 x8))) rfl rfl (bD (decide_eq_true hc17)) (Calm.conv rfl rfl Tryd.underlying5 Tryd.underlying3) ?_
       refine AO.cG (x := eBool (decide ((w64 ((w64 ((lget x7 (w64 ((x7.length : Int) - (1 : Int)))).f1)) + (1 : Int))) = (w64 (lget t5 x8))))) rfl rfl (bD (decide_eq_true hc17)) (Calm.int rfl rfl rfl rfl) ?_
       refine AO.c (Calm.pickT rfl (bD (decide_eq_true hc17)) rfl) ?_
       cases hq16
       refine AO.nilE ⟨rfl, rfl⟩ ?_ ?_
       · exact ⟨rfl, rfl, rfl, rfl, rfl, rfl, rfl, trivial⟩
       · exact (Sub.refl _)
      ·refine AO.sT rfl rfl (bD (decide_eq_false hc17)) ?_
       refine AO.sT rfl rfl (bD (decide_eq_false hc17)) ?_
       refine AO.sT rfl rfl (bD (decide_eq_false hc17)) ?_
       refine AO.sT rfl rfl (bD (decide_eq_false hc17)) ?_
       refine AO.sT rfl rfl (bD (decide_eq_false hc17)) ?_
       refine AO.sT rfl rfl (bD (decide_eq_false hc17)) ?_
       refine AO.sT rfl rfl (bD (decide_eq_false hc17)) ?_
       refine AO.sT rfl rfl (bD (decide_eq_false hc17)) ?_
       refine AO.sT rfl rfl (bD (decide_eq_false hc17)) ?_
       refine AO.sT rfl rfl (bD (decide_eq_false hc17)) ?_
       refine AO.sT rfl rfl (bD (decide_eq_false hc17)) ?_
       refine AO.c (Calm.pickF rfl (bD (decide_eq_false hc17)) rfl) ?_
       cases hq16
       refine AO.nilE ⟨rfl, rfl⟩ ?_ ?_
       · exact ⟨rfl, rfl, rfl, rfl, rfl, rfl, rfl, trivial⟩
       · exact (Sub.refl _)
     ·rcases of_ite h with ⟨hc19, h⟩ | ⟨hc19, h⟩
      ·refine AW.condT' _ rfl hc19 ?_
       refine AW.sr ?_
       refine AO.c (Calm.move rfl rfl) ?_
       refine AO.c (Calm.move rfl rfl) ?_
       refine AO.c (x := eI64 (w64 ((x7.length : Int) - (1 : Int)))) (Calm.int rfl rfl rfl rfl) ?_
       refine AO.c (Calm.move rfl rfl) ?_
       obtain ⟨hg20, h⟩ := of_guard h
       refine AO.c (Calm.idxO 0 rfl rfl rfl rfl hg20 Tryd.underlying68 sz71) ?_
       refine AO.c (x := .ptr n6 ((w64 ((x7.length : Int) - (1 : Int))).toNat * 2 + 0 + 1)) (Calm.fldPtr rfl rfl Tryd.underlying71 rfl sz5 _ rfl) ?_
       refine AO.store (X' := (.ar 2 ((lset x7 (w64 ((x7.length : Int) - (1 : Int))) (S71.mk ((lget x7 (w64 ((x7.length : Int) - (1 : Int)))).f0) (lget t5 x8))).map e71))) 0 rfl rfl rfl rfl rfl rfl (Put.cast (Put.lidx (w64 ((x7.length : Int) - (1 : Int))) (S71.mk ((lget x7 (w64 ((x7.length : Int) - (1 : Int)))).f0) (lget t5 x8)) hg20.1 hg20.2 (Put.fldS (Put.fld0 Put.here))) (by omega)) rfl rfl sz5 rfl ?_
       refine AO.coe 3 (y' := (.own n6 0 (lset x7 (w64 ((x7.length : Int) - (1 : Int))) (S71.mk ((lget x7 (w64 ((x7.length : Int) - (1 : Int)))).f0) (lget t5 x8))).length)) rfl (fun _ _ h => lset_own h) ?_
       refine AO.coe 31 (y' := (.own n6 0 (lset x7 (w64 ((x7.length : Int) - (1 : Int))) (S71.mk ((lget x7 (w64 ((x7.length : Int) - (1 : Int)))).f0) (lget t5 x8))).length)) rfl (fun _ _ h => lset_own h) ?_
       refine AO.nK [3, 8, 9, 10] ?_
       refine AW.eK [3, 8, 9, 10] ?_
       exact ⟨n6, (lset x7 (w64 ((x7.length : Int) - (1 : Int))) (S71.mk ((lget x7 (w64 ((x7.length : Int) - (1 : Int)))).f0) (lget t5 x8))), rfl, rfl, h⟩
      ·refine AW.condF' _ rfl hc19 ?_
       refine AW.sK [3, 5, 8, 9, 10] ?_
       refine AW.reg ?_
       refine AO.c (Calm.move rfl rfl) ?_
       refine AO.c (Calm.move rfl rfl) ?_
       refine AO.c (Calm.move rfl rfl) ?_
       refine AO.c (x := .st [(1, (eU8 (lget t5 x8))), (1, (eU8 (lget t5 x8)))]) (Calm.build (qs := [(0, (eU8 (lget t5 x8))), (1, (eU8 (lget t5 x8)))]) rfl ⟨rfl, rfl, rfl, rfl, rfl, rfl, trivial⟩ Tryd.underlying71 rfl zr71 lay71 (.cons rfl rfl rfl rfl (Put.cast (Put.fld0 Put.here) rfl) (.cons rfl rfl rfl rfl (Put.cast (Put.fldS (Put.fld0 Put.here)) rfl) .nil)) rfl) ?_
       refine AO.lit (Z := (.st [(1, (eU8 (0 : Int))), (1, (eU8 (0 : Int)))])) (xs := (([(S71.mk (lget t5 x8) (lget t5 x8))] : List S71).map e71)) (qs := [(0, (e71 (S71.mk (lget t5 x8) (lget t5 x8))))]) rfl 41 rfl (by decide) rfl ⟨rfl, rfl, rfl, trivial⟩ Tryd.underlying68 sz71 zr71 lay71 rfl (by decide) (litOK (z := 2) [(e71 (S71.mk (lget t5 x8) (lget t5 x8)))] rfl ⟨⟨rfl, rfl⟩, trivial⟩) rfl fun n21 => ?_
       obtain ⟨hg23, h⟩ := of_guard h
       refine AO.appendL (l := x7) (m := ([(S71.mk (lget t5 x8) (lget t5 x8))] : List S71)) 1 42 rfl (by decide) rfl rfl rfl rfl rfl (Src.ownL (f := e71) (l := ([(S71.mk (lget t5 x8) (lget t5 x8))] : List S71)) 0 rfl) Tryd.underlying68 Tryd.underlying68 sz71 by71 zr71 rfl hg23 (by decide) fun n22 => ?_
       refine AO.c (Calm.assign rfl rfl) ?_
       refine AO.nH [3, 8, 9, 10] (H' := [(n22, (.mem (.ar 2 ((x7 ++ ([(S71.mk (lget t5 x8) (lget t5 x8))] : List S71)).map e71))))]) (Sub.cons 1 rfl (Sub.nil _)) ?_
       exact ⟨n22, (x7 ++ ([(S71.mk (lget t5 x8) (lget t5 x8))] : List S71)), rfl, rfl, h⟩
    ·rintro _ _ ⟨n12, x13, rfl, rfl, h⟩
     rw [byteset_Spans_c1.eq_1] at h
     refine AW.reg ?_
     refine AO.c (x := eI64 (w64 (x8 + (1 : Int)))) (Calm.int rfl rfl rfl rfl) ?_
     refine AO.c (Calm.move rfl rfl) ?_
     refine AO.nK [3, 8, 9, 10] ?_
     exact ⟨kq10, Nat.lt_succ_self _, n12, x13, (w64 (x8 + (1 : Int))), rfl, rfl, by rw [hrec9]; exact h⟩
   ·refine AW.condN _ rfl hc11 ?_
    refine AW.eK [3] ?_
    exact ⟨n6, x7, rfl, rfl, h⟩
  ·rintro _ _ ⟨n3, x4, rfl, rfl, h⟩
   rw [byteset_Spans_c0.eq_1] at h
   refine AW.sr ?_
   refine AO.c (Calm.move rfl rfl) ?_
   refine AO.c (Calm.assign rfl rfl) ?_
   refine AO.nK [2] ?_
   refine AW.freezeS 0 [(2, (.fz 2 (x4.map e71)))] rfl ⟨fz_all rfl, trivial⟩ ?_
   refine AW.rK [2] ?_
   have hr := Option.some.inj h
   subst hr
   exact ⟨[(.fz 2 (x4.map e71))], ⟨rfl, rfl, trivial⟩, rfl⟩
end Go.Avl.TE
/- bosket/rex.set; printed by avmain.py. -/
namespace Go.Avl.TE
open Go Go.RowKit Go.Proofs Go.Avl
set_option linter.unusedVariables false
set_option maxRecDepth 100000
set_option maxHeartbeats 4000000
attribute [local irreducible] AW AO AQ Spec SpecH Calm

def rex_set_c0 (k : Nat) (x11 : ByteArray) : Option ByteArray :=
  if x11.size + (ByteArray.mk #[93]).size ≤ 9223372036854775807 then some ((x11 ++ (ByteArray.mk #[93])))
  else none
def rex_set_c1 (k : Nat) (rec16 : (ByteArray → Int → Option ByteArray)) (x15 : Int) (x19 : ByteArray) : Option ByteArray :=
  rec16 x19 (w64 (x15 + (1 : Int)))
def rex_set_l2 (k : Nat) (t13 : (List S71)) : Nat → ByteArray → Int → Option ByteArray
  | 0, _, _ => none
  | j + 1, x14, x15 =>
    if x15 < (t13.length : Int) then if 0 ≤ x15 ∧ x15 < (t13.length : Int) then (escape_Byte k ((lget t13 x15).f0) (ByteArray.mk #[47, 93, 94, 45, 34])).bind fun t22 =>
    if x14.size + t22.size ≤ 9223372036854775807 then if ((lget t13 x15).f0) < ((lget t13 x15).f1) then (escape_Byte k ((lget t13 x15).f1) (ByteArray.mk #[47, 93, 94, 45, 34])).bind fun t25 =>
    if (ByteArray.mk #[45]).size + t25.size ≤ 9223372036854775807 then if (x14 ++ t22).size + ((ByteArray.mk #[45]) ++ t25).size ≤ 9223372036854775807 then rex_set_c1 k (rex_set_l2 k t13 j) x15 ((x14 ++ t22) ++ ((ByteArray.mk #[45]) ++ t25))
    else none
    else none
    else rex_set_c1 k (rex_set_l2 k t13 j) x15 (x14 ++ t22)
    else none
    else none
    else rex_set_c0 k x14
def rex_set_c3 (k : Nat) (x9 : (Vector Int 4)) (x10 : ByteArray) : Option ByteArray :=
  (byteset_Spans k x9).bind fun t13 =>
  rex_set_l2 k t13 k x10 (0 : Int)
def rex_set (k : Nat) (p0 : (Vector Int 4)) : Option ByteArray :=
  (byteset_Full k).bind fun t3 =>
  if p0 = t3 then some ((ByteArray.mk #[46]))
  else (byteset_Len k p0).bind fun t5 =>
  if t5 = (1 : Int) then (byteset_First k p0).bind fun t7 =>
  (escape_Byte k (w8 t7) (ByteArray.mk #[47, 40, 41, 91, 93, 124, 42, 43, 63, 46, 34, 126])).bind fun t8 =>
  some (t8)
  else (byteset_Len k p0).bind fun t28 =>
  if (128 : Int) < t28 then (byteset_Not k p0).bind fun t30 =>
  rex_set_c3 k t30 (ByteArray.mk #[91, 94])
  else rex_set_c3 k p0 (ByteArray.mk #[91])
theorem rex_set_spec {k : Nat} {p0 : (Vector Int 4)} {r : ByteArray} (h : rex_set k p0 = some r) : Spec Tryd.prog 28 [(.ar 1 (p0.toList.map eU64))] (eStr r) := by
  rw [rex_set.eq_1] at h
  refine Spec.intro (res := [.tmp 2]) Tryd.func28 rfl rfl rfl (Nat.le_of_ble_eq_true rfl) ?_
  refine AW.sr ?_
  refine AO.box rfl 1 rfl (by decide) rfl rfl rfl fun n2 => ?_
  refine AO.c (Calm.assign rfl rfl) ?_
  refine AO.nK [1] ?_
  refine AW.seq ?_
  refine AW.seq ?_
  obtain ⟨t3, et3, h⟩ := of_bind h
  refine AW.regAny (by rfl) (by decide +kernel) [(.ar 1 (p0.toList.map eU64)), (.ar 1 (t3.toList.map eU64)), (eBool (decide (p0 = t3)))] [(1, (.ptr n2 0))] ⟨rfl, trivial⟩ rfl ?_ [(1, (.ptr n2 0)), (8, (eBool (decide (p0 = t3))))] [(n2, (.mem (.ar 1 (p0.toList.map eU64))))] ⟨rfl, rfl, trivial⟩ (Sub.refl _) ?_
  ·refine ⟨?_, ?_, ?_, trivial⟩
   ·refine AO.wK [1] ?_
    refine AO.c (Calm.load 0 rfl rfl rfl (At.cast At.here rfl) ag38 (by rw [sz38]; simp [AV.size])) ?_
    exact AO.nE (d := 6) rfl ⟨⟨_, rfl, rfl⟩, Sub.refl _⟩
   ·refine AO.wK [] ?_
    refine AO.callS [] (.ar 1 (t3.toList.map eU64)) 7 rfl (by decide) ok36 rfl rfl rfl trivial (byteset_Full_spec et3) ?_
    exact AO.nE (d := 7) rfl ⟨⟨_, rfl, rfl⟩, Sub.refl _⟩
   ·refine AO.wK [6, 7] ?_
    refine AO.c (x := eBool (decide (p0 = t3))) (Calm.eqA rfl rfl rfl eg38 (eqa38 p0 t3) (by decide)) ?_
    exact AO.nE (d := 8) rfl ⟨⟨_, rfl, rfl⟩, Sub.refl _⟩
  ·rcases of_ite h with ⟨hc4, h⟩ | ⟨hc4, h⟩
   ·refine AW.condP _ rfl hc4 ?_
    refine AW.sr ?_
    refine AO.c (Calm.assign rfl rfl) ?_
    refine AO.nH [2] (H' := []) (Sub.nil _) ?_
    refine AW.rK [2] ?_
    have hr := Option.some.inj h
    subst hr
    exact ⟨[(eStr (ByteArray.mk #[46]))], ⟨rfl, rfl, trivial⟩, rfl⟩
   ·refine AW.condN _ rfl hc4 ?_
    refine AW.sK [1] ?_
    refine AW.seq ?_
    refine AW.sr ?_
    refine AO.c (Calm.load 0 rfl rfl rfl (At.cast At.here rfl) ag38 (by rw [sz38]; simp [AV.size])) ?_
    obtain ⟨t5, et5, h⟩ := of_bind h
    refine AO.callS [(.ar 1 (p0.toList.map eU64))] (eI64 t5) 10 rfl (by decide) ok37 rfl rfl rfl ⟨rfl, rfl, trivial⟩ (byteset_Len_spec et5) ?_
    refine AO.c (x := eBool (decide (t5 = (1 : Int)))) (Calm.int rfl rfl rfl rfl) ?_
    refine AO.nK [1, 11] ?_
    rcases of_ite h with ⟨hc6, h⟩ | ⟨hc6, h⟩
    ·refine AW.condP _ rfl hc6 ?_
     refine AW.sr ?_
     refine AO.c (Calm.load 0 rfl rfl rfl (At.cast At.here rfl) ag38 (by rw [sz38]; simp [AV.size])) ?_
     obtain ⟨t7, et7, h⟩ := of_bind h
     refine AO.callS [(.ar 1 (p0.toList.map eU64))] (eI64 t7) 13 rfl (by decide) ok39 rfl rfl rfl ⟨rfl, rfl, trivial⟩ (byteset_First_spec et7) ?_
     refine AO.c (x := eU8 (w8 t7)) (Calm.conv rfl rfl Tryd.underlying3 Tryd.underlying5) ?_
     obtain ⟨t8, et8, h⟩ := of_bind h
     refine AO.callS [(eU8 (w8 t7)), (eStr (ByteArray.mk #[47, 40, 41, 91, 93, 124, 42, 43, 63, 46, 34, 126]))] (eStr t8) 15 rfl (by decide) ok38 rfl rfl rfl ⟨rfl, rfl, rfl, rfl, trivial⟩ (escape_Byte_spec et8) ?_
     refine AO.c (Calm.assign rfl rfl) ?_
     refine AO.nH [2] (H' := []) (Sub.nil _) ?_
     refine AW.rK [2] ?_
     have hr := Option.some.inj h
     subst hr
     exact ⟨[(eStr t8)], ⟨rfl, rfl, trivial⟩, rfl⟩
    ·refine AW.condN _ rfl hc6 ?_
     refine AW.sK [1] ?_
     refine AW.sr ?_
     refine AO.c (Calm.assign rfl rfl) ?_
     refine AO.nK [1, 3] ?_
     refine AW.seq_mid (fun ρ H => ∃ (x9 : (Vector Int 4)) (x10 : ByteArray), ρ = [(1, (.ptr n2 0)), (3, (eStr x10))] ∧ H = [(n2, (.mem (.ar 1 (x9.toList.map eU64))))] ∧ rex_set_c3 k x9 x10 = some r) ?_ ?_
     ·refine AW.sr ?_
      refine AO.c (Calm.load 0 rfl rfl rfl (At.cast At.here rfl) ag38 (by rw [sz38]; simp [AV.size])) ?_
      obtain ⟨t28, et28, h⟩ := of_bind h
      refine AO.callS [(.ar 1 (p0.toList.map eU64))] (eI64 t28) 17 rfl (by decide) ok37 rfl rfl rfl ⟨rfl, rfl, trivial⟩ (byteset_Len_spec et28) ?_
      refine AO.c (x := eBool (decide ((128 : Int) < t28))) (Calm.int rfl rfl rfl rfl) ?_
      refine AO.nK [1, 3, 18] ?_
      rcases of_ite h with ⟨hc29, h⟩ | ⟨hc29, h⟩
      ·refine AW.condP _ rfl hc29 ?_
       refine AW.reg ?_
       refine AO.c (Calm.load 0 rfl rfl rfl (At.cast At.here rfl) ag38 (by rw [sz38]; simp [AV.size])) ?_
       obtain ⟨t30, et30, h⟩ := of_bind h
       refine AO.callS [(.ar 1 (p0.toList.map eU64))] (.ar 1 (t30.toList.map eU64)) 20 rfl (by decide) ok40 rfl rfl rfl ⟨rfl, rfl, trivial⟩ (byteset_Not_spec et30) ?_
       refine AO.c (Calm.assign rfl rfl) ?_
       refine AO.store (X' := (.ar 1 (t30.toList.map eU64))) 0 rfl rfl rfl rfl rfl rfl (Put.cast Put.here rfl) rfl (by simp [AV.size]) (by rw [sz38]; simp [AV.size]) rfl ?_
       refine AO.nK [1, 3] ?_
       exact ⟨t30, (ByteArray.mk #[91, 94]), rfl, rfl, h⟩
      ·refine AW.condN _ rfl hc29 ?_
       refine AW.sK [1, 3] ?_
       exact ⟨p0, (ByteArray.mk #[91]), rfl, rfl, h⟩
     ·rintro _ _ ⟨x9, x10, rfl, rfl, h⟩
      rw [rex_set_c3.eq_1] at h
      refine AW.seq_mid (fun ρ H => ∃ (x11 : ByteArray), ρ = [(3, (eStr x11))] ∧ H = [] ∧ rex_set_c0 k x11 = some r) ?_ ?_
      ·refine AW.sr ?_
       refine AO.c (Calm.load 0 rfl rfl rfl (At.cast At.here rfl) ag38 (by rw [sz38]; simp [AV.size])) ?_
       obtain ⟨t13, et13, h⟩ := of_bind h
       refine AO.callS [(.ar 1 (x9.toList.map eU64))] (.fz 2 (t13.map e71)) 22 rfl (by decide) ok41 rfl rfl rfl ⟨rfl, rfl, trivial⟩ (byteset_Spans_spec et13) ?_
       refine AO.c (Calm.lenL rfl rfl Tryd.underlying68) ?_
       refine AO.c (Calm.move rfl rfl) ?_
       refine AO.nH [3, 22, 23, 24] (H' := []) (Sub.nil _) ?_
       refine AW.block ?_
       refine AW.wK [3, 22, 23, 24] ?_
       refine AW.loop (fun kq ρ H => ∃ (x14 : ByteArray) (x15 : Int), ρ = [(3, (eStr x14)), (22, (.fz 2 (t13.map e71))), (23, (eI64 (t13.length : Int))), (24, (eI64 x15))] ∧ H = [] ∧ rex_set_l2 k t13 kq x14 x15 = some r) k ⟨x10, (0 : Int), rfl, rfl, h⟩ ?_
       rintro kq17 _ _ ⟨x14, x15, rfl, rfl, h⟩
       cases kq17 with
       | zero => rw [rex_set_l2.eq_1] at h; cases h
       | succ kq17 =>
       rw [rex_set_l2.eq_2] at h
       generalize hrec16 : rex_set_l2 k t13 kq17 = rec16 at h
       refine AW.sr ?_
       refine AO.c (x := eBool (decide (x15 < (t13.length : Int)))) (Calm.int rfl rfl rfl rfl) ?_
       refine AO.nK [3, 22, 23, 24, 25] ?_
       refine AW.seq ?_
       rcases of_ite h with ⟨hc18, h⟩ | ⟨hc18, h⟩
       ·refine AW.condP _ rfl hc18 ?_
        refine AW.sK [3, 22, 23, 24] ?_
        refine AW.seq_mid (fun ρ H => ∃ (x19 : ByteArray), ρ = [(3, (eStr x19)), (22, (.fz 2 (t13.map e71))), (23, (eI64 (t13.length : Int))), (24, (eI64 x15))] ∧ H = [] ∧ rex_set_c1 k rec16 x15 x19 = some r) ?_ ?_
        ·refine AW.block ?_
         refine AW.sr ?_
         obtain ⟨hg20, h⟩ := of_guard h
         refine AO.c (Calm.idxL (f := e71) rfl rfl rfl hg20 Tryd.underlying68 sz71) ?_
         refine AO.c (Calm.loadRp rfl rfl ag71 sz71) ?_
         refine AO.alloc rfl 5 rfl (by decide) rfl zr71 lay71 fun n21 => ?_
         refine AO.store (X' := (e71 (lget t13 x15))) 0 rfl rfl rfl rfl rfl rfl (Put.cast Put.here rfl) rfl rfl sz71 rfl ?_
         refine AO.nK [3, 5, 22, 23, 24] ?_
         refine AW.sr ?_
         refine AO.c (Calm.move rfl rfl) ?_
         refine AO.c (x := .ptr n21 0) (Calm.fldPtr rfl rfl Tryd.underlying71 rfl sz5 _ rfl) ?_
         refine AO.c (Calm.load 0 rfl rfl rfl (At.cast (At.fld0 At.here) rfl) ag5 sz5) ?_
         obtain ⟨t22, et22, h⟩ := of_bind h
         refine AO.callS [(eU8 ((lget t13 x15).f0)), (eStr (ByteArray.mk #[47, 93, 94, 45, 34]))] (eStr t22) 31 rfl (by decide) ok38 rfl rfl rfl ⟨rfl, rfl, rfl, rfl, trivial⟩ (escape_Byte_spec et22) ?_
         obtain ⟨hg23, h⟩ := of_guard h
         refine AO.c (x := eStr (x14 ++ t22)) (Calm.cat rfl rfl rfl hg23) ?_
         refine AO.c (Calm.assign rfl rfl) ?_
         refine AO.nK [3, 5, 22, 23, 24] ?_
         refine AW.sr ?_
         refine AO.c (x := .ptr n21 1) (Calm.fldPtr rfl rfl Tryd.underlying71 rfl sz5 _ rfl) ?_
         refine AO.c (Calm.load 0 rfl rfl rfl (At.cast (At.fldS (At.fld0 At.here)) rfl) ag5 sz5) ?_
         refine AO.c (x := .ptr n21 0) (Calm.fldPtr rfl rfl Tryd.underlying71 rfl sz5 _ rfl) ?_
         refine AO.c (Calm.load 0 rfl rfl rfl (At.cast (At.fld0 At.here) rfl) ag5 sz5) ?_
         refine AO.c (x := eBool (decide (((lget t13 x15).f0) < ((lget t13 x15).f1)))) (Calm.int rfl rfl rfl rfl) ?_
         refine AO.nK [3, 5, 22, 23, 24, 37] ?_
         rcases of_ite h with ⟨hc24, h⟩ | ⟨hc24, h⟩
         ·refine AW.condP _ rfl hc24 ?_
          refine AW.reg ?_
          refine AO.c (Calm.move rfl rfl) ?_
          refine AO.c (x := .ptr n21 1) (Calm.fldPtr rfl rfl Tryd.underlying71 rfl sz5 _ rfl) ?_
          refine AO.c (Calm.load 0 rfl rfl rfl (At.cast (At.fldS (At.fld0 At.here)) rfl) ag5 sz5) ?_
          obtain ⟨t25, et25, h⟩ := of_bind h
          refine AO.callS [(eU8 ((lget t13 x15).f1)), (eStr (ByteArray.mk #[47, 93, 94, 45, 34]))] (eStr t25) 41 rfl (by decide) ok38 rfl rfl rfl ⟨rfl, rfl, rfl, rfl, trivial⟩ (escape_Byte_spec et25) ?_
          obtain ⟨hg26, h⟩ := of_guard h
          refine AO.c (x := eStr ((ByteArray.mk #[45]) ++ t25)) (Calm.cat rfl rfl rfl hg26) ?_
          obtain ⟨hg27, h⟩ := of_guard h
          refine AO.c (x := eStr ((x14 ++ t22) ++ ((ByteArray.mk #[45]) ++ t25))) (Calm.cat rfl rfl rfl hg27) ?_
          refine AO.c (Calm.assign rfl rfl) ?_
          refine AO.nH [3, 22, 23, 24] (H' := []) (Sub.nil _) ?_
          exact ⟨((x14 ++ t22) ++ ((ByteArray.mk #[45]) ++ t25)), rfl, rfl, h⟩
         ·refine AW.condN _ rfl hc24 ?_
          refine AW.sH [3, 22, 23, 24] (H' := []) (Sub.nil _) ?_
          exact ⟨(x14 ++ t22), rfl, rfl, h⟩
        ·rintro _ _ ⟨x19, rfl, rfl, h⟩
         rw [rex_set_c1.eq_1] at h
         refine AW.reg ?_
         refine AO.c (x := eI64 (w64 (x15 + (1 : Int)))) (Calm.int rfl rfl rfl rfl) ?_
         refine AO.c (Calm.move rfl rfl) ?_
         refine AO.nK [3, 22, 23, 24] ?_
         exact ⟨kq17, Nat.lt_succ_self _, x19, (w64 (x15 + (1 : Int))), rfl, rfl, by rw [hrec16]; exact h⟩
       ·refine AW.condN _ rfl hc18 ?_
        refine AW.eK [3] ?_
        exact ⟨x14, rfl, rfl, h⟩
      ·rintro _ _ ⟨x11, rfl, rfl, h⟩
       rw [rex_set_c0.eq_1] at h
       refine AW.sr ?_
       refine AO.c (Calm.move rfl rfl) ?_
       obtain ⟨hg12, h⟩ := of_guard h
       refine AO.c (x := eStr (x11 ++ (ByteArray.mk #[93]))) (Calm.cat rfl rfl rfl hg12) ?_
       refine AO.c (Calm.assign rfl rfl) ?_
       refine AO.nK [2] ?_
       refine AW.rK [2] ?_
       have hr := Option.some.inj h
       subst hr
       exact ⟨[(eStr (x11 ++ (ByteArray.mk #[93])))], ⟨rfl, rfl, trivial⟩, rfl⟩
end Go.Avl.TE
/- bosket/rex.strength; printed by avmain.py. -/
namespace Go.Avl.TE
open Go Go.RowKit Go.Proofs Go.Avl
set_option linter.unusedVariables false
set_option maxRecDepth 100000
set_option maxHeartbeats 4000000
attribute [local irreducible] AW AO AQ Spec SpecH Calm

def rex_strength_c0 (k : Nat) (b4 : Bool) : Option Int :=
  if b4 = true then some ((2 : Int))
  else some ((3 : Int))
def rex_strength (k : Nat) (p0 : Int) : Option Int :=
  if p0 = (3 : Int) then some ((0 : Int))
  else if p0 = (2 : Int) then some ((1 : Int))
  else if p0 = (4 : Int) then rex_strength_c0 k (decide (p0 = (4 : Int)))
  else if p0 = (5 : Int) then rex_strength_c0 k (decide (p0 = (5 : Int)))
  else rex_strength_c0 k (decide (p0 = (6 : Int)))
theorem rex_strength_spec {k : Nat} {p0 : Int} {r : Int} (h : rex_strength k p0 = some r) : Spec Tryd.prog 42 [(eI64 p0)] (eI64 r) := by
  rw [rex_strength.eq_1] at h
  refine Spec.intro (res := [.tmp 2]) Tryd.func42 rfl rfl rfl (Nat.le_of_ble_eq_true rfl) ?_
  refine AW.sr ?_
  refine AO.c (Calm.assign rfl rfl) ?_
  refine AO.nK [0] ?_
  refine AW.seq ?_
  refine AW.sr ?_
  refine AO.c (Calm.move rfl rfl) ?_
  refine AO.nK [3] ?_
  refine AW.block ?_
  refine AW.sr ?_
  refine AO.c (x := eBool (decide (p0 = (3 : Int)))) (Calm.int rfl rfl rfl rfl) ?_
  refine AO.c (Calm.assign rfl rfl) ?_
  refine AO.nK [3, 4] ?_
  rcases of_ite h with ⟨hc2, h⟩ | ⟨hc2, h⟩
  ·refine AW.condP _ rfl hc2 ?_
   refine AW.sr ?_
   refine AO.c (Calm.assign rfl rfl) ?_
   refine AO.nK [2] ?_
   refine AW.rK [2] ?_
   have hr := Option.some.inj h
   subst hr
   exact ⟨[(eI64 (0 : Int))], ⟨rfl, rfl, trivial⟩, rfl⟩
  ·refine AW.condN _ rfl hc2 ?_
   refine AW.sr ?_
   refine AO.c (x := eBool (decide (p0 = (2 : Int)))) (Calm.int rfl rfl rfl rfl) ?_
   refine AO.c (Calm.assign rfl rfl) ?_
   refine AO.nK [3, 6] ?_
   rcases of_ite h with ⟨hc3, h⟩ | ⟨hc3, h⟩
   ·refine AW.condP _ rfl hc3 ?_
    refine AW.sr ?_
    refine AO.c (Calm.assign rfl rfl) ?_
    refine AO.nK [2] ?_
    refine AW.rK [2] ?_
    have hr := Option.some.inj h
    subst hr
    exact ⟨[(eI64 (1 : Int))], ⟨rfl, rfl, trivial⟩, rfl⟩
   ·refine AW.condN _ rfl hc3 ?_
    refine AW.seq_mid (fun ρ H => ∃ (b4 : Bool), ρ = [(8, (eBool b4))] ∧ H = [] ∧ rex_strength_c0 k b4 = some r) ?_ ?_
    ·refine AW.sr ?_
     refine AO.c (x := eBool (decide (p0 = (4 : Int)))) (Calm.int rfl rfl rfl rfl) ?_
     refine AO.c (Calm.assign rfl rfl) ?_
     refine AO.nK [3, 8] ?_
     rcases of_ite h with ⟨hc6, h⟩ | ⟨hc6, h⟩
     ·refine AW.condP _ rfl hc6 ?_
      refine AW.sK [8] ?_
      exact ⟨decide (p0 = (4 : Int)), rfl, rfl, h⟩
     ·refine AW.condN _ rfl hc6 ?_
      refine AW.sr ?_
      refine AO.c (x := eBool (decide (p0 = (5 : Int)))) (Calm.int rfl rfl rfl rfl) ?_
      refine AO.c (Calm.assign rfl rfl) ?_
      refine AO.nK [3, 8] ?_
      rcases of_ite h with ⟨hc7, h⟩ | ⟨hc7, h⟩
      ·refine AW.condP _ rfl hc7 ?_
       refine AW.sK [8] ?_
       exact ⟨decide (p0 = (5 : Int)), rfl, rfl, h⟩
      ·refine AW.condN _ rfl hc7 ?_
       refine AW.reg ?_
       refine AO.c (x := eBool (decide (p0 = (6 : Int)))) (Calm.int rfl rfl rfl rfl) ?_
       refine AO.c (Calm.assign rfl rfl) ?_
       refine AO.nK [8] ?_
       exact ⟨decide (p0 = (6 : Int)), rfl, rfl, h⟩
    ·rintro _ _ ⟨b4, rfl, rfl, h⟩
     rw [rex_strength_c0.eq_1] at h
     rcases of_ite h with ⟨hc5, h⟩ | ⟨hc5, h⟩
     ·refine AW.condT' _ rfl hc5 ?_
      refine AW.sr ?_
      refine AO.c (Calm.assign rfl rfl) ?_
      refine AO.nK [2] ?_
      refine AW.rK [2] ?_
      have hr := Option.some.inj h
      subst hr
      exact ⟨[(eI64 (2 : Int))], ⟨rfl, rfl, trivial⟩, rfl⟩
     ·refine AW.condF' _ rfl hc5 ?_
      refine AW.sK [] ?_
      refine AW.sr ?_
      refine AO.c (Calm.assign rfl rfl) ?_
      refine AO.nK [2] ?_
      refine AW.rK [2] ?_
      have hr := Option.some.inj h
      subst hr
      exact ⟨[(eI64 (3 : Int))], ⟨rfl, rfl, trivial⟩, rfl⟩
end Go.Avl.TE
/- bosket/rex.show, bosket/rex.within; printed by avmain.py. -/
namespace Go.Avl.TE
open Go Go.RowKit Go.Proofs Go.Avl
set_option linter.unusedVariables false
set_option maxRecDepth 100000
set_option maxHeartbeats 4000000
attribute [local irreducible] AW AO AQ Spec SpecH Calm

mutual
def rex_show_r (k : Nat) : Nat → (List S40) → Option ByteArray
  | 0, _ => none
  | j + 1, p0 =>
    if 0 ≤ (w64 ((p0.length : Int) - (1 : Int))) ∧ (w64 ((p0.length : Int) - (1 : Int))) < (p0.length : Int) then (rex_Parts k p0).bind fun t4 =>
    if ((lget p0 (w64 ((p0.length : Int) - (1 : Int)))).f0) = (1 : Int) then (rex_set k ((lget p0 (w64 ((p0.length : Int) - (1 : Int)))).f1)).bind fun t6 =>
    some (t6)
    else if ((lget p0 (w64 ((p0.length : Int) - (1 : Int)))).f0) = (2 : Int) then if 0 ≤ (0 : Int) ∧ (0 : Int) < (t4.length : Int) then ((rex_within_r k j) (lget t4 (0 : Int)) (1 : Int)).bind fun t9 =>
    if 0 ≤ (1 : Int) ∧ (1 : Int) < (t4.length : Int) then ((rex_within_r k j) (lget t4 (1 : Int)) (2 : Int)).bind fun t11 =>
    if t9.size + t11.size ≤ 9223372036854775807 then some ((t9 ++ t11))
    else none
    else none
    else none
    else if ((lget p0 (w64 ((p0.length : Int) - (1 : Int)))).f0) = (3 : Int) then if 0 ≤ (0 : Int) ∧ (0 : Int) < (t4.length : Int) then ((rex_within_r k j) (lget t4 (0 : Int)) (0 : Int)).bind fun t15 =>
    if t15.size + (ByteArray.mk #[124]).size ≤ 9223372036854775807 then if 0 ≤ (1 : Int) ∧ (1 : Int) < (t4.length : Int) then ((rex_within_r k j) (lget t4 (1 : Int)) (1 : Int)).bind fun t18 =>
    if (t15 ++ (ByteArray.mk #[124])).size + t18.size ≤ 9223372036854775807 then some (((t15 ++ (ByteArray.mk #[124])) ++ t18))
    else none
    else none
    else none
    else none
    else if ((lget p0 (w64 ((p0.length : Int) - (1 : Int)))).f0) = (4 : Int) then if 0 ≤ (0 : Int) ∧ (0 : Int) < (t4.length : Int) then ((rex_within_r k j) (lget t4 (0 : Int)) (2 : Int)).bind fun t22 =>
    if t22.size + (ByteArray.mk #[42]).size ≤ 9223372036854775807 then some ((t22 ++ (ByteArray.mk #[42])))
    else none
    else none
    else if ((lget p0 (w64 ((p0.length : Int) - (1 : Int)))).f0) = (5 : Int) then if 0 ≤ (0 : Int) ∧ (0 : Int) < (t4.length : Int) then ((rex_within_r k j) (lget t4 (0 : Int)) (2 : Int)).bind fun t26 =>
    if t26.size + (ByteArray.mk #[43]).size ≤ 9223372036854775807 then some ((t26 ++ (ByteArray.mk #[43])))
    else none
    else none
    else if ((lget p0 (w64 ((p0.length : Int) - (1 : Int)))).f0) = (6 : Int) then if 0 ≤ (0 : Int) ∧ (0 : Int) < (t4.length : Int) then ((rex_within_r k j) (lget t4 (0 : Int)) (2 : Int)).bind fun t30 =>
    if t30.size + (ByteArray.mk #[63]).size ≤ 9223372036854775807 then some ((t30 ++ (ByteArray.mk #[63])))
    else none
    else none
    else some ((ByteArray.mk #[126]))
    else none
def rex_within_r (k : Nat) : Nat → (List S40) → Int → Option ByteArray
  | 0, _, _ => none
  | j + 1, p0, p1 =>
    ((rex_show_r k j) p0).bind fun t3 =>
    if 0 ≤ (w64 ((p0.length : Int) - (1 : Int))) ∧ (w64 ((p0.length : Int) - (1 : Int))) < (p0.length : Int) then (rex_strength k ((lget p0 (w64 ((p0.length : Int) - (1 : Int)))).f0)).bind fun t5 =>
    if t5 < p1 then if (ByteArray.mk #[40]).size + t3.size ≤ 9223372036854775807 then if ((ByteArray.mk #[40]) ++ t3).size + (ByteArray.mk #[41]).size ≤ 9223372036854775807 then some ((((ByteArray.mk #[40]) ++ t3) ++ (ByteArray.mk #[41])))
    else none
    else none
    else some (t3)
    else none
end
def rex_show (k : Nat) (p0 : (List S40)) : Option ByteArray := rex_show_r k k p0
theorem rex_show_all (k : Nat) : ∀ j : Nat, (∀ (p0 : (List S40)) (r : ByteArray), rex_show_r k j p0 = some r → Spec Tryd.prog 20 [(.fz 5 (p0.map e40))] (eStr r)) ∧ (∀ (p0 : (List S40)) (p1 : Int) (r : ByteArray), rex_within_r k j p0 p1 = some r → Spec Tryd.prog 29 [(.fz 5 (p0.map e40)), (eI64 p1)] (eStr r)) := by
  intro j
  induction j with
  | zero => exact ⟨(by intro p0 r h; rw [rex_show_r.eq_1] at h; cases h), (by intro p0 p1 r h; rw [rex_within_r.eq_1] at h; cases h)⟩
  | succ j hself =>
  obtain ⟨hself20, hself29⟩ := hself
  refine ⟨?_, ?_⟩
  ·intro p0 r h
   rw [rex_show_r.eq_2] at h
   generalize hsself20 : rex_show_r k j = self20 at h hself20
   generalize hsself29 : rex_within_r k j = self29 at h hself29
   refine Spec.intro (res := [.tmp 2]) Tryd.func20 rfl rfl rfl (Nat.le_of_ble_eq_true rfl) ?_
   refine AW.sr ?_
   refine AO.c (Calm.assign rfl rfl) ?_
   refine AO.nK [0] ?_
   refine AW.sr ?_
   refine AO.c (Calm.move rfl rfl) ?_
   refine AO.c (Calm.move rfl rfl) ?_
   refine AO.c (Calm.lenL rfl rfl Tryd.underlying23) ?_
   refine AO.c (x := eI64 (w64 ((p0.length : Int) - (1 : Int)))) (Calm.int rfl rfl rfl rfl) ?_
   obtain ⟨hg2, h⟩ := of_guard h
   refine AO.c (Calm.idxL (f := e40) rfl rfl rfl hg2 Tryd.underlying23 sz40) ?_
   refine AO.c (Calm.loadRp rfl rfl ag40 sz40) ?_
   refine AO.alloc rfl 3 rfl (by decide) rfl zr40 lay40 fun n3 => ?_
   refine AO.store (X' := (e40 (lget p0 (w64 ((p0.length : Int) - (1 : Int)))))) 0 rfl rfl rfl rfl rfl rfl (Put.cast Put.here rfl) rfl rfl sz40 rfl ?_
   refine AO.nK [0, 3] ?_
   refine AW.sr ?_
   refine AO.c (Calm.move rfl rfl) ?_
   obtain ⟨t4, et4, h⟩ := of_bind h
   refine AO.callS [(.fz 5 (p0.map e40))] (.fz 1 (t4.map e23)) 12 rfl (by decide) ok14 rfl rfl rfl ⟨rfl, rfl, trivial⟩ (rex_Parts_spec et4) ?_
   refine AO.c (Calm.assign rfl rfl) ?_
   refine AO.nK [3, 4] ?_
   refine AW.seq ?_
   refine AW.sr ?_
   refine AO.c (x := .ptr n3 0) (Calm.fldPtr rfl rfl Tryd.underlying40 rfl sz3 _ rfl) ?_
   refine AO.c (Calm.load 0 rfl rfl rfl (At.cast (At.fld0 At.here) rfl) ag3 sz3) ?_
   refine AO.nK [3, 4, 14] ?_
   refine AW.block ?_
   refine AW.sr ?_
   refine AO.c (x := eBool (decide (((lget p0 (w64 ((p0.length : Int) - (1 : Int)))).f0) = (1 : Int)))) (Calm.int rfl rfl rfl rfl) ?_
   refine AO.c (Calm.assign rfl rfl) ?_
   refine AO.nK [3, 4, 14, 15] ?_
   rcases of_ite h with ⟨hc5, h⟩ | ⟨hc5, h⟩
   ·refine AW.condP _ rfl hc5 ?_
    refine AW.sr ?_
    refine AO.c (x := .ptr n3 1) (Calm.fldPtr rfl rfl Tryd.underlying40 rfl sz38 _ rfl) ?_
    refine AO.c (Calm.load 0 rfl rfl rfl (At.cast (At.fldS (At.fld0 At.here)) rfl) ag38 (by rw [sz38]; simp [AV.size])) ?_
    obtain ⟨t6, et6, h⟩ := of_bind h
    refine AO.callS [(.ar 1 (((lget p0 (w64 ((p0.length : Int) - (1 : Int)))).f1).toList.map eU64))] (eStr t6) 19 rfl (by decide) ok28 rfl rfl rfl ⟨rfl, rfl, trivial⟩ (rex_set_spec et6) ?_
    refine AO.c (Calm.assign rfl rfl) ?_
    refine AO.nH [2] (H' := []) (Sub.nil _) ?_
    refine AW.rK [2] ?_
    have hr := Option.some.inj h
    subst hr
    exact ⟨[(eStr t6)], ⟨rfl, rfl, trivial⟩, rfl⟩
   ·refine AW.condN _ rfl hc5 ?_
    refine AW.sr ?_
    refine AO.c (x := eBool (decide (((lget p0 (w64 ((p0.length : Int) - (1 : Int)))).f0) = (2 : Int)))) (Calm.int rfl rfl rfl rfl) ?_
    refine AO.c (Calm.assign rfl rfl) ?_
    refine AO.nH [4, 14, 20] (H' := []) (Sub.nil _) ?_
    rcases of_ite h with ⟨hc7, h⟩ | ⟨hc7, h⟩
    ·refine AW.condP _ rfl hc7 ?_
     refine AW.seq ?_
     refine AW.regQ (by rfl) (by decide +kernel) ?_
     refine AQ.c (Calm.move rfl rfl) ?_
     obtain ⟨hg8, h⟩ := of_guard h
     refine AQ.c (Calm.idxL (f := e23) rfl rfl rfl hg8 Tryd.underlying41 sz23) ?_
     refine AQ.c (Calm.loadRp rfl rfl ag23 sz23) ?_
     obtain ⟨t9, et9, h⟩ := of_bind h
     refine AQ.c (Calm.call (args := [(.fz 5 ((lget t4 (0 : Int)).map e40)), (eI64 (1 : Int))]) rfl rfl ok29 ⟨rfl, rfl, rfl, rfl, trivial⟩ rfl (hself29 _ _ _ et9)) ?_
     refine AQ.c (Calm.move rfl rfl) ?_
     obtain ⟨hg10, h⟩ := of_guard h
     refine AQ.c (Calm.idxL (f := e23) rfl rfl rfl hg10 Tryd.underlying41 sz23) ?_
     refine AQ.c (Calm.loadRp rfl rfl ag23 sz23) ?_
     obtain ⟨t11, et11, h⟩ := of_bind h
     refine AQ.c (Calm.call (args := [(.fz 5 ((lget t4 (1 : Int)).map e40)), (eI64 (2 : Int))]) rfl rfl ok29 ⟨rfl, rfl, rfl, rfl, trivial⟩ rfl (hself29 _ _ _ et11)) ?_
     obtain ⟨hg12, h⟩ := of_guard h
     refine AQ.c (x := eStr (t9 ++ t11)) (Calm.cat rfl rfl rfl hg12) ?_
     refine AQ.c (Calm.assign rfl rfl) ?_
     refine AQ.nK [2] ?_
     refine AW.rK [2] ?_
     have hr := Option.some.inj h
     subst hr
     exact ⟨[(eStr (t9 ++ t11))], ⟨rfl, rfl, trivial⟩, rfl⟩
    ·refine AW.condN _ rfl hc7 ?_
     refine AW.sr ?_
     refine AO.c (x := eBool (decide (((lget p0 (w64 ((p0.length : Int) - (1 : Int)))).f0) = (3 : Int)))) (Calm.int rfl rfl rfl rfl) ?_
     refine AO.c (Calm.assign rfl rfl) ?_
     refine AO.nK [4, 14, 31] ?_
     rcases of_ite h with ⟨hc13, h⟩ | ⟨hc13, h⟩
     ·refine AW.condP _ rfl hc13 ?_
      refine AW.seq ?_
      refine AW.regQ (by rfl) (by decide +kernel) ?_
      refine AQ.c (Calm.move rfl rfl) ?_
      obtain ⟨hg14, h⟩ := of_guard h
      refine AQ.c (Calm.idxL (f := e23) rfl rfl rfl hg14 Tryd.underlying41 sz23) ?_
      refine AQ.c (Calm.loadRp rfl rfl ag23 sz23) ?_
      obtain ⟨t15, et15, h⟩ := of_bind h
      refine AQ.c (Calm.call (args := [(.fz 5 ((lget t4 (0 : Int)).map e40)), (eI64 (0 : Int))]) rfl rfl ok29 ⟨rfl, rfl, rfl, rfl, trivial⟩ rfl (hself29 _ _ _ et15)) ?_
      obtain ⟨hg16, h⟩ := of_guard h
      refine AQ.c (x := eStr (t15 ++ (ByteArray.mk #[124]))) (Calm.cat rfl rfl rfl hg16) ?_
      refine AQ.c (Calm.move rfl rfl) ?_
      obtain ⟨hg17, h⟩ := of_guard h
      refine AQ.c (Calm.idxL (f := e23) rfl rfl rfl hg17 Tryd.underlying41 sz23) ?_
      refine AQ.c (Calm.loadRp rfl rfl ag23 sz23) ?_
      obtain ⟨t18, et18, h⟩ := of_bind h
      refine AQ.c (Calm.call (args := [(.fz 5 ((lget t4 (1 : Int)).map e40)), (eI64 (1 : Int))]) rfl rfl ok29 ⟨rfl, rfl, rfl, rfl, trivial⟩ rfl (hself29 _ _ _ et18)) ?_
      obtain ⟨hg19, h⟩ := of_guard h
      refine AQ.c (x := eStr ((t15 ++ (ByteArray.mk #[124])) ++ t18)) (Calm.cat rfl rfl rfl hg19) ?_
      refine AQ.c (Calm.assign rfl rfl) ?_
      refine AQ.nK [2] ?_
      refine AW.rK [2] ?_
      have hr := Option.some.inj h
      subst hr
      exact ⟨[(eStr ((t15 ++ (ByteArray.mk #[124])) ++ t18))], ⟨rfl, rfl, trivial⟩, rfl⟩
     ·refine AW.condN _ rfl hc13 ?_
      refine AW.sr ?_
      refine AO.c (x := eBool (decide (((lget p0 (w64 ((p0.length : Int) - (1 : Int)))).f0) = (4 : Int)))) (Calm.int rfl rfl rfl rfl) ?_
      refine AO.c (Calm.assign rfl rfl) ?_
      refine AO.nK [4, 14, 43] ?_
      rcases of_ite h with ⟨hc20, h⟩ | ⟨hc20, h⟩
      ·refine AW.condP _ rfl hc20 ?_
       refine AW.sr ?_
       refine AO.c (Calm.move rfl rfl) ?_
       obtain ⟨hg21, h⟩ := of_guard h
       refine AO.c (Calm.idxL (f := e23) rfl rfl rfl hg21 Tryd.underlying41 sz23) ?_
       refine AO.c (Calm.loadRp rfl rfl ag23 sz23) ?_
       obtain ⟨t22, et22, h⟩ := of_bind h
       refine AO.callS [(.fz 5 ((lget t4 (0 : Int)).map e40)), (eI64 (2 : Int))] (eStr t22) 48 rfl (by decide) ok29 rfl rfl rfl ⟨rfl, rfl, rfl, rfl, trivial⟩ (hself29 _ _ _ et22) ?_
       obtain ⟨hg23, h⟩ := of_guard h
       refine AO.c (x := eStr (t22 ++ (ByteArray.mk #[42]))) (Calm.cat rfl rfl rfl hg23) ?_
       refine AO.c (Calm.assign rfl rfl) ?_
       refine AO.nK [2] ?_
       refine AW.rK [2] ?_
       have hr := Option.some.inj h
       subst hr
       exact ⟨[(eStr (t22 ++ (ByteArray.mk #[42])))], ⟨rfl, rfl, trivial⟩, rfl⟩
      ·refine AW.condN _ rfl hc20 ?_
       refine AW.sr ?_
       refine AO.c (x := eBool (decide (((lget p0 (w64 ((p0.length : Int) - (1 : Int)))).f0) = (5 : Int)))) (Calm.int rfl rfl rfl rfl) ?_
       refine AO.c (Calm.assign rfl rfl) ?_
       refine AO.nK [4, 14, 50] ?_
       rcases of_ite h with ⟨hc24, h⟩ | ⟨hc24, h⟩
       ·refine AW.condP _ rfl hc24 ?_
        refine AW.sr ?_
        refine AO.c (Calm.move rfl rfl) ?_
        obtain ⟨hg25, h⟩ := of_guard h
        refine AO.c (Calm.idxL (f := e23) rfl rfl rfl hg25 Tryd.underlying41 sz23) ?_
        refine AO.c (Calm.loadRp rfl rfl ag23 sz23) ?_
        obtain ⟨t26, et26, h⟩ := of_bind h
        refine AO.callS [(.fz 5 ((lget t4 (0 : Int)).map e40)), (eI64 (2 : Int))] (eStr t26) 55 rfl (by decide) ok29 rfl rfl rfl ⟨rfl, rfl, rfl, rfl, trivial⟩ (hself29 _ _ _ et26) ?_
        obtain ⟨hg27, h⟩ := of_guard h
        refine AO.c (x := eStr (t26 ++ (ByteArray.mk #[43]))) (Calm.cat rfl rfl rfl hg27) ?_
        refine AO.c (Calm.assign rfl rfl) ?_
        refine AO.nK [2] ?_
        refine AW.rK [2] ?_
        have hr := Option.some.inj h
        subst hr
        exact ⟨[(eStr (t26 ++ (ByteArray.mk #[43])))], ⟨rfl, rfl, trivial⟩, rfl⟩
       ·refine AW.condN _ rfl hc24 ?_
        refine AW.sr ?_
        refine AO.c (x := eBool (decide (((lget p0 (w64 ((p0.length : Int) - (1 : Int)))).f0) = (6 : Int)))) (Calm.int rfl rfl rfl rfl) ?_
        refine AO.c (Calm.assign rfl rfl) ?_
        refine AO.nK [4, 57] ?_
        rcases of_ite h with ⟨hc28, h⟩ | ⟨hc28, h⟩
        ·refine AW.condP _ rfl hc28 ?_
         refine AW.sr ?_
         refine AO.c (Calm.move rfl rfl) ?_
         obtain ⟨hg29, h⟩ := of_guard h
         refine AO.c (Calm.idxL (f := e23) rfl rfl rfl hg29 Tryd.underlying41 sz23) ?_
         refine AO.c (Calm.loadRp rfl rfl ag23 sz23) ?_
         obtain ⟨t30, et30, h⟩ := of_bind h
         refine AO.callS [(.fz 5 ((lget t4 (0 : Int)).map e40)), (eI64 (2 : Int))] (eStr t30) 62 rfl (by decide) ok29 rfl rfl rfl ⟨rfl, rfl, rfl, rfl, trivial⟩ (hself29 _ _ _ et30) ?_
         obtain ⟨hg31, h⟩ := of_guard h
         refine AO.c (x := eStr (t30 ++ (ByteArray.mk #[63]))) (Calm.cat rfl rfl rfl hg31) ?_
         refine AO.c (Calm.assign rfl rfl) ?_
         refine AO.nK [2] ?_
         refine AW.rK [2] ?_
         have hr := Option.some.inj h
         subst hr
         exact ⟨[(eStr (t30 ++ (ByteArray.mk #[63])))], ⟨rfl, rfl, trivial⟩, rfl⟩
        ·refine AW.condN _ rfl hc28 ?_
         refine AW.sK [] ?_
         refine AW.sr ?_
         refine AO.c (Calm.assign rfl rfl) ?_
         refine AO.nK [2] ?_
         refine AW.rK [2] ?_
         have hr := Option.some.inj h
         subst hr
         exact ⟨[(eStr (ByteArray.mk #[126]))], ⟨rfl, rfl, trivial⟩, rfl⟩
  ·intro p0 p1 r h
   rw [rex_within_r.eq_2] at h
   generalize hsself20 : rex_show_r k j = self20 at h hself20
   generalize hsself29 : rex_within_r k j = self29 at h hself29
   refine Spec.intro (res := [.tmp 4]) Tryd.func29 rfl rfl rfl (Nat.le_of_ble_eq_true rfl) ?_
   refine AW.sr ?_
   refine AO.c (Calm.assign rfl rfl) ?_
   refine AO.nK [0, 1] ?_
   refine AW.sr ?_
   refine AO.c (Calm.move rfl rfl) ?_
   obtain ⟨t3, et3, h⟩ := of_bind h
   refine AO.callS [(.fz 5 (p0.map e40))] (eStr t3) 7 rfl (by decide) ok20 rfl rfl rfl ⟨rfl, rfl, trivial⟩ (hself20 _ _ et3) ?_
   refine AO.c (Calm.assign rfl rfl) ?_
   refine AO.nK [0, 1, 5] ?_
   refine AW.seq ?_
   refine AW.sr ?_
   refine AO.c (Calm.move rfl rfl) ?_
   refine AO.c (Calm.move rfl rfl) ?_
   refine AO.c (Calm.lenL rfl rfl Tryd.underlying23) ?_
   refine AO.c (x := eI64 (w64 ((p0.length : Int) - (1 : Int)))) (Calm.int rfl rfl rfl rfl) ?_
   obtain ⟨hg4, h⟩ := of_guard h
   refine AO.c (Calm.idxL (f := e40) rfl rfl rfl hg4 Tryd.underlying23 sz40) ?_
   refine AO.c (Calm.fldRp rfl rfl Tryd.underlying40 rfl sz3 (At.cast (At.fld0 At.here) rfl)) ?_
   refine AO.c (Calm.loadRp rfl rfl ag3 sz3) ?_
   obtain ⟨t5, et5, h⟩ := of_bind h
   refine AO.callS [(eI64 ((lget p0 (w64 ((p0.length : Int) - (1 : Int)))).f0))] (eI64 t5) 15 rfl (by decide) ok42 rfl rfl rfl ⟨rfl, rfl, trivial⟩ (rex_strength_spec et5) ?_
   refine AO.c (Calm.move rfl rfl) ?_
   refine AO.c (x := eBool (decide (t5 < p1))) (Calm.int rfl rfl rfl rfl) ?_
   refine AO.nK [5, 17] ?_
   rcases of_ite h with ⟨hc6, h⟩ | ⟨hc6, h⟩
   ·refine AW.condP _ rfl hc6 ?_
    refine AW.sr ?_
    refine AO.c (Calm.move rfl rfl) ?_
    obtain ⟨hg7, h⟩ := of_guard h
    refine AO.c (x := eStr ((ByteArray.mk #[40]) ++ t3)) (Calm.cat rfl rfl rfl hg7) ?_
    obtain ⟨hg8, h⟩ := of_guard h
    refine AO.c (x := eStr (((ByteArray.mk #[40]) ++ t3) ++ (ByteArray.mk #[41]))) (Calm.cat rfl rfl rfl hg8) ?_
    refine AO.c (Calm.assign rfl rfl) ?_
    refine AO.nK [4] ?_
    refine AW.rK [4] ?_
    have hr := Option.some.inj h
    subst hr
    exact ⟨[(eStr (((ByteArray.mk #[40]) ++ t3) ++ (ByteArray.mk #[41])))], ⟨rfl, rfl, trivial⟩, rfl⟩
   ·refine AW.condN _ rfl hc6 ?_
    refine AW.sK [5] ?_
    refine AW.sr ?_
    refine AO.c (Calm.move rfl rfl) ?_
    refine AO.c (Calm.assign rfl rfl) ?_
    refine AO.nK [4] ?_
    refine AW.rK [4] ?_
    have hr := Option.some.inj h
    subst hr
    exact ⟨[(eStr t3)], ⟨rfl, rfl, trivial⟩, rfl⟩
theorem rex_show_spec {k : Nat} {p0 : (List S40)} {r : ByteArray} (h : rex_show k p0 = some r) : Spec Tryd.prog 20 [(.fz 5 (p0.map e40))] (eStr r) := (rex_show_all k k).1 p0 r h
end Go.Avl.TE
/- bosket/rex.Show; printed by avmain.py. -/
namespace Go.Avl.TE
open Go Go.RowKit Go.Proofs Go.Avl
set_option linter.unusedVariables false
set_option maxRecDepth 100000
set_option maxHeartbeats 4000000
attribute [local irreducible] AW AO AQ Spec SpecH Calm

def rex_Show (k : Nat) (p0 : (List S40)) : Option ByteArray :=
  (rex_Check k p0).bind fun t2 =>
  if t2 ≠ (0 : Int) then some ((ByteArray.mk #[]))
  else (rex_show k p0).bind fun t4 =>
  some (t4)
theorem rex_Show_spec {k : Nat} {p0 : (List S40)} {r : ByteArray} (h : rex_Show k p0 = some r) : Spec Tryd.prog 7 [(.fz 5 (p0.map e40))] (eStr r) := by
  rw [rex_Show.eq_1] at h
  refine Spec.intro (res := [.tmp 2]) Tryd.func7 rfl rfl rfl (Nat.le_of_ble_eq_true rfl) ?_
  refine AW.sr ?_
  refine AO.c (Calm.assign rfl rfl) ?_
  refine AO.nK [0] ?_
  refine AW.seq ?_
  refine AW.sr ?_
  refine AO.c (Calm.move rfl rfl) ?_
  obtain ⟨t2, et2, h⟩ := of_bind h
  refine AO.callS [(.fz 5 (p0.map e40))] (eI64 t2) 4 rfl (by decide) ok12 rfl rfl rfl ⟨rfl, rfl, trivial⟩ (rex_Check_spec et2) ?_
  refine AO.c (x := eBool (decide (t2 ≠ (0 : Int)))) (Calm.int rfl rfl rfl rfl) ?_
  refine AO.nK [0, 5] ?_
  rcases of_ite h with ⟨hc3, h⟩ | ⟨hc3, h⟩
  ·refine AW.condP _ rfl hc3 ?_
   refine AW.sr ?_
   refine AO.c (Calm.assign rfl rfl) ?_
   refine AO.nK [2] ?_
   refine AW.rK [2] ?_
   have hr := Option.some.inj h
   subst hr
   exact ⟨[(eStr (ByteArray.mk #[]))], ⟨rfl, rfl, trivial⟩, rfl⟩
  ·refine AW.condN _ rfl hc3 ?_
   refine AW.sK [0] ?_
   refine AW.sr ?_
   refine AO.c (Calm.move rfl rfl) ?_
   obtain ⟨t4, et4, h⟩ := of_bind h
   refine AO.callS [(.fz 5 (p0.map e40))] (eStr t4) 7 rfl (by decide) ok20 rfl rfl rfl ⟨rfl, rfl, trivial⟩ (rex_show_spec et4) ?_
   refine AO.c (Calm.assign rfl rfl) ?_
   refine AO.nK [2] ?_
   refine AW.rK [2] ?_
   have hr := Option.some.inj h
   subst hr
   exact ⟨[(eStr t4)], ⟨rfl, rfl, trivial⟩, rfl⟩
end Go.Avl.TE
/- bosket/bosketlaw04.awake; printed by avmain.py. -/
namespace Go.Avl.TE
open Go Go.RowKit Go.Proofs Go.Avl
set_option linter.unusedVariables false
set_option maxRecDepth 100000
set_option maxHeartbeats 4000000
attribute [local irreducible] AW AO AQ Spec SpecH Calm

def bosketlaw04_awake (k : Nat) : Option Bool :=
  (rex_Parse k (ByteArray.mk #[91, 97, 45, 99, 93, 42, 120])).bind fun t1 =>
  Option.bind (α := Bool) (if t1.2 = (0 : Int) then if (t1.1.length : Int) = (4 : Int) then if 0 ≤ (1 : Int) ∧ (1 : Int) < (t1.1.length : Int) then if ((lget t1.1 (1 : Int)).f0) = (4 : Int) then if 0 ≤ (3 : Int) ∧ (3 : Int) < (t1.1.length : Int) then if ((lget t1.1 (3 : Int)).f0) = (2 : Int) then (rex_Show k t1.1).bind fun t10 =>
  some (decide (t10 = (ByteArray.mk #[91, 97, 45, 99, 93, 42, 120])))
  else some (false)
  else none
  else some (false)
  else none
  else some (false)
  else some (false)) fun b2 =>
  some (b2)
theorem bosketlaw04_awake_spec {k : Nat}  {r : Bool} (h : bosketlaw04_awake k = some r) : Spec Tryd.prog 5 [] (eBool r) := by
  rw [bosketlaw04_awake.eq_1] at h
  refine Spec.intro (res := [.tmp 0]) Tryd.func5 rfl rfl rfl (Nat.le_of_ble_eq_true rfl) ?_
  refine AW.sr ?_
  refine AO.c (Calm.assign rfl rfl) ?_
  refine AO.nK [] ?_
  refine AW.sr ?_
  obtain ⟨t1, et1, h⟩ := of_bind h
  refine AO.callS [(eStr (ByteArray.mk #[91, 97, 45, 99, 93, 42, 120]))] (.tup [(.fz 5 (t1.1.map e40)), (eI64 t1.2)]) 4 rfl (by decide) ok8 rfl rfl rfl ⟨rfl, rfl, trivial⟩ (rex_Parse_spec et1) ?_
  refine AO.c (Calm.move rfl rfl) ?_
  refine AO.c (Calm.extract rfl rfl rfl) ?_
  refine AO.c (Calm.extract rfl rfl rfl) ?_
  refine AO.c (Calm.assign rfl rfl) ?_
  refine AO.c (Calm.assign rfl rfl) ?_
  refine AO.nK [1, 2] ?_
  refine AW.seq ?_
  obtain ⟨b2, hq3, h⟩ := of_bind h
  refine AW.regM [(0, (eBool b2))] [] ?_ ?_
  ·refine AO.c (Calm.move rfl rfl) ?_
   refine AO.c (x := eBool (decide (t1.2 = (0 : Int)))) (Calm.int rfl rfl rfl rfl) ?_
   refine AO.c (Calm.move rfl rfl) ?_
   rcases of_ite hq3 with ⟨hc4, hq3⟩ | ⟨hc4, hq3⟩
   ·refine AO.cG rfl rfl (bD (decide_eq_true hc4)) (Calm.move rfl rfl) ?_
    refine AO.cG rfl rfl (bD (decide_eq_true hc4)) (Calm.lenL rfl rfl Tryd.underlying23) ?_
    refine AO.cG (x := eBool (decide ((t1.1.length : Int) = (4 : Int)))) rfl rfl (bD (decide_eq_true hc4)) (Calm.int rfl rfl rfl rfl) ?_
    refine AO.c (Calm.pickT rfl (bD (decide_eq_true hc4)) rfl) ?_
    refine AO.c (Calm.move rfl rfl) ?_
    rcases of_ite hq3 with ⟨hc5, hq3⟩ | ⟨hc5, hq3⟩
    ·refine AO.cG rfl rfl (bD (decide_eq_true hc5)) (Calm.move rfl rfl) ?_
     obtain ⟨hg6, hq3⟩ := of_guard hq3
     refine AO.cG rfl rfl (bD (decide_eq_true hc5)) (Calm.idxL (f := e40) rfl rfl rfl hg6 Tryd.underlying23 sz40) ?_
     refine AO.cG rfl rfl (bD (decide_eq_true hc5)) (Calm.fldRp rfl rfl Tryd.underlying40 rfl sz3 (At.cast (At.fld0 At.here) rfl)) ?_
     refine AO.cG rfl rfl (bD (decide_eq_true hc5)) (Calm.loadRp rfl rfl ag3 sz3) ?_
     refine AO.cG (x := eBool (decide (((lget t1.1 (1 : Int)).f0) = (4 : Int)))) rfl rfl (bD (decide_eq_true hc5)) (Calm.int rfl rfl rfl rfl) ?_
     refine AO.c (Calm.pickT rfl (bD (decide_eq_true hc5)) rfl) ?_
     refine AO.c (Calm.move rfl rfl) ?_
     rcases of_ite hq3 with ⟨hc7, hq3⟩ | ⟨hc7, hq3⟩
     ·refine AO.cG rfl rfl (bD (decide_eq_true hc7)) (Calm.move rfl rfl) ?_
      obtain ⟨hg8, hq3⟩ := of_guard hq3
      refine AO.cG rfl rfl (bD (decide_eq_true hc7)) (Calm.idxL (f := e40) rfl rfl rfl hg8 Tryd.underlying23 sz40) ?_
      refine AO.cG rfl rfl (bD (decide_eq_true hc7)) (Calm.fldRp rfl rfl Tryd.underlying40 rfl sz3 (At.cast (At.fld0 At.here) rfl)) ?_
      refine AO.cG rfl rfl (bD (decide_eq_true hc7)) (Calm.loadRp rfl rfl ag3 sz3) ?_
      refine AO.cG (x := eBool (decide (((lget t1.1 (3 : Int)).f0) = (2 : Int)))) rfl rfl (bD (decide_eq_true hc7)) (Calm.int rfl rfl rfl rfl) ?_
      refine AO.c (Calm.pickT rfl (bD (decide_eq_true hc7)) rfl) ?_
      refine AO.c (Calm.move rfl rfl) ?_
      rcases of_ite hq3 with ⟨hc9, hq3⟩ | ⟨hc9, hq3⟩
      ·refine AO.cG rfl rfl (bD (decide_eq_true hc9)) (Calm.move rfl rfl) ?_
       obtain ⟨t10, et10, hq3⟩ := of_bind hq3
       refine AO.callG 21 true 28 [(.fz 5 (t1.1.map e40))] (eStr t10) 30 rfl (by decide) ok7 rfl rfl (bD (decide_eq_true hc9)) rfl rfl ⟨rfl, rfl, trivial⟩ (rex_Show_spec et10) ?_
       refine AO.cG (x := eBool (decide (t10 = (ByteArray.mk #[91, 97, 45, 99, 93, 42, 120])))) rfl rfl (bD (decide_eq_true hc9)) (Calm.str rfl rfl rfl rfl) ?_
       refine AO.c (Calm.pickT rfl (bD (decide_eq_true hc9)) rfl) ?_
       refine AO.c (Calm.assign rfl rfl) ?_
       cases hq3
       refine AO.nilE ⟨rfl, rfl⟩ ?_ ?_
       · exact ⟨rfl, trivial⟩
       · exact (Sub.refl _)
      ·refine AO.sT rfl rfl (bD (decide_eq_false hc9)) ?_
       refine AO.sT rfl rfl (bD (decide_eq_false hc9)) ?_
       refine AO.sT rfl rfl (bD (decide_eq_false hc9)) ?_
       refine AO.c (Calm.pickF rfl (bD (decide_eq_false hc9)) rfl) ?_
       refine AO.c (Calm.assign rfl rfl) ?_
       cases hq3
       refine AO.nilE ⟨rfl, rfl⟩ ?_ ?_
       · exact ⟨rfl, trivial⟩
       · exact (Sub.refl _)
     ·refine AO.sT rfl rfl (bD (decide_eq_false hc7)) ?_
      refine AO.sT rfl rfl (bD (decide_eq_false hc7)) ?_
      refine AO.sT rfl rfl (bD (decide_eq_false hc7)) ?_
      refine AO.sT rfl rfl (bD (decide_eq_false hc7)) ?_
      refine AO.sT rfl rfl (bD (decide_eq_false hc7)) ?_
      refine AO.c (Calm.pickF rfl (bD (decide_eq_false hc7)) rfl) ?_
      refine AO.c (Calm.move rfl rfl) ?_
      refine AO.sT rfl rfl rfl ?_
      refine AO.sT rfl rfl rfl ?_
      refine AO.sT rfl rfl rfl ?_
      refine AO.c (Calm.pickF rfl rfl rfl) ?_
      refine AO.c (Calm.assign rfl rfl) ?_
      cases hq3
      refine AO.nilE ⟨rfl, rfl⟩ ?_ ?_
      · exact ⟨rfl, trivial⟩
      · exact (Sub.refl _)
    ·refine AO.sT rfl rfl (bD (decide_eq_false hc5)) ?_
     refine AO.sT rfl rfl (bD (decide_eq_false hc5)) ?_
     refine AO.sT rfl rfl (bD (decide_eq_false hc5)) ?_
     refine AO.sT rfl rfl (bD (decide_eq_false hc5)) ?_
     refine AO.sT rfl rfl (bD (decide_eq_false hc5)) ?_
     refine AO.c (Calm.pickF rfl (bD (decide_eq_false hc5)) rfl) ?_
     refine AO.c (Calm.move rfl rfl) ?_
     refine AO.sT rfl rfl rfl ?_
     refine AO.sT rfl rfl rfl ?_
     refine AO.sT rfl rfl rfl ?_
     refine AO.sT rfl rfl rfl ?_
     refine AO.sT rfl rfl rfl ?_
     refine AO.c (Calm.pickF rfl rfl rfl) ?_
     refine AO.c (Calm.move rfl rfl) ?_
     refine AO.sT rfl rfl rfl ?_
     refine AO.sT rfl rfl rfl ?_
     refine AO.sT rfl rfl rfl ?_
     refine AO.c (Calm.pickF rfl rfl rfl) ?_
     refine AO.c (Calm.assign rfl rfl) ?_
     cases hq3
     refine AO.nilE ⟨rfl, rfl⟩ ?_ ?_
     · exact ⟨rfl, trivial⟩
     · exact (Sub.refl _)
   ·refine AO.sT rfl rfl (bD (decide_eq_false hc4)) ?_
    refine AO.sT rfl rfl (bD (decide_eq_false hc4)) ?_
    refine AO.sT rfl rfl (bD (decide_eq_false hc4)) ?_
    refine AO.c (Calm.pickF rfl (bD (decide_eq_false hc4)) rfl) ?_
    refine AO.c (Calm.move rfl rfl) ?_
    refine AO.sT rfl rfl rfl ?_
    refine AO.sT rfl rfl rfl ?_
    refine AO.sT rfl rfl rfl ?_
    refine AO.sT rfl rfl rfl ?_
    refine AO.sT rfl rfl rfl ?_
    refine AO.c (Calm.pickF rfl rfl rfl) ?_
    refine AO.c (Calm.move rfl rfl) ?_
    refine AO.sT rfl rfl rfl ?_
    refine AO.sT rfl rfl rfl ?_
    refine AO.sT rfl rfl rfl ?_
    refine AO.sT rfl rfl rfl ?_
    refine AO.sT rfl rfl rfl ?_
    refine AO.c (Calm.pickF rfl rfl rfl) ?_
    refine AO.c (Calm.move rfl rfl) ?_
    refine AO.sT rfl rfl rfl ?_
    refine AO.sT rfl rfl rfl ?_
    refine AO.sT rfl rfl rfl ?_
    refine AO.c (Calm.pickF rfl rfl rfl) ?_
    refine AO.c (Calm.assign rfl rfl) ?_
    cases hq3
    refine AO.nilE ⟨rfl, rfl⟩ ?_ ?_
    · exact ⟨rfl, trivial⟩
    · exact (Sub.refl _)
  ·refine AW.rK [0] ?_
   have hr := Option.some.inj h
   subst hr
   exact ⟨[(eBool b2)], ⟨rfl, rfl, trivial⟩, rfl⟩
end Go.Avl.TE
/- bosket/bosketref04.Takes; printed by avmain.py. -/
namespace Go.Avl.TE
open Go Go.RowKit Go.Proofs Go.Avl
set_option linter.unusedVariables false
set_option maxRecDepth 100000
set_option maxHeartbeats 4000000
attribute [local irreducible] AW AO AQ Spec SpecH Calm

def bosketref04_Takes (k : Nat) (p0 : Int) : Option Int :=
  Option.bind (α := Bool) (if p0 < (0 : Int) then some (true)
  else some (decide ((6 : Int) < p0))) fun b3 =>
  if b3 = true then some ((-1 : Int))
  else if 0 ≤ p0 ∧ p0 < (([(0 : Int), (0 : Int), (2 : Int), (2 : Int), (1 : Int), (1 : Int), (1 : Int)] : List Int).length : Int) then (some (lget ([(0 : Int), (0 : Int), (2 : Int), (2 : Int), (1 : Int), (1 : Int), (1 : Int)] : List Int) p0)).bind fun x8 =>
  some (x8)
  else none
theorem bosketref04_Takes_spec {k : Nat} {p0 : Int} {r : Int} (h : bosketref04_Takes k p0 = some r) : Spec Tryd.prog 19 [(eI64 p0)] (eI64 r) := by
  rw [bosketref04_Takes.eq_1] at h
  refine Spec.intro (res := [.tmp 2]) Tryd.func19 rfl rfl rfl (Nat.le_of_ble_eq_true rfl) ?_
  refine AW.sr ?_
  refine AO.c (Calm.assign rfl rfl) ?_
  refine AO.nK [0] ?_
  refine AW.sr ?_
  refine AO.lit (Z := (eI64 (0 : Int))) (xs := (([(0 : Int), (0 : Int), (2 : Int), (2 : Int), (1 : Int), (1 : Int), (1 : Int)] : List Int).map eI64)) (qs := [(0, (eI64 (0 : Int))), (1, (eI64 (0 : Int))), (2, (eI64 (2 : Int))), (3, (eI64 (2 : Int))), (4, (eI64 (1 : Int))), (5, (eI64 (1 : Int))), (6, (eI64 (1 : Int)))]) rfl 4 rfl (by decide) rfl ⟨rfl, rfl, rfl, rfl, rfl, rfl, rfl, rfl, rfl, rfl, rfl, rfl, rfl, rfl, rfl, rfl, rfl, rfl, rfl, rfl, rfl, trivial⟩ Tryd.underlying53 sz3 zr3 lay3 rfl (by decide) (litOK (z := 1) [(eI64 (0 : Int)), (eI64 (0 : Int)), (eI64 (2 : Int)), (eI64 (2 : Int)), (eI64 (1 : Int)), (eI64 (1 : Int)), (eI64 (1 : Int))] rfl ⟨⟨rfl, rfl⟩, ⟨rfl, rfl⟩, ⟨rfl, rfl⟩, ⟨rfl, rfl⟩, ⟨rfl, rfl⟩, ⟨rfl, rfl⟩, ⟨rfl, rfl⟩, trivial⟩) rfl fun n2 => ?_
  refine AO.c (Calm.assign rfl rfl) ?_
  refine AO.nK [0, 3] ?_
  refine AW.seq ?_
  refine AW.seq ?_
  obtain ⟨b3, hq4, h⟩ := of_bind h
  refine AW.regM [(0, (eI64 p0)), (3, (.own n2 0 ([(0 : Int), (0 : Int), (2 : Int), (2 : Int), (1 : Int), (1 : Int), (1 : Int)] : List Int).length)), (10, (eBool b3))] [(n2, (.mem (.ar 1 (([(0 : Int), (0 : Int), (2 : Int), (2 : Int), (1 : Int), (1 : Int), (1 : Int)] : List Int).map eI64))))] ?_ ?_
  ·refine AO.c (Calm.move rfl rfl) ?_
   refine AO.c (x := eBool (decide (p0 < (0 : Int)))) (Calm.int rfl rfl rfl rfl) ?_
   refine AO.c (Calm.move rfl rfl) ?_
   rcases of_ite hq4 with ⟨hc5, hq4⟩ | ⟨hc5, hq4⟩
   ·refine AO.sF rfl rfl (bD (decide_eq_true hc5)) ?_
    refine AO.sF rfl rfl (bD (decide_eq_true hc5)) ?_
    refine AO.c (Calm.pickT rfl (bD (decide_eq_true hc5)) rfl) ?_
    cases hq4
    refine AO.nilE ⟨rfl, rfl⟩ ?_ ?_
    · exact ⟨rfl, rfl, rfl, trivial⟩
    · exact (Sub.refl _)
   ·refine AO.cG rfl rfl (bD (decide_eq_false hc5)) (Calm.move rfl rfl) ?_
    refine AO.cG (x := eBool (decide ((6 : Int) < p0))) rfl rfl (bD (decide_eq_false hc5)) (Calm.int rfl rfl rfl rfl) ?_
    refine AO.c (Calm.pickF rfl (bD (decide_eq_false hc5)) rfl) ?_
    cases hq4
    refine AO.nilE ⟨rfl, rfl⟩ ?_ ?_
    · exact ⟨rfl, rfl, rfl, trivial⟩
    · exact (Sub.refl _)
  ·rcases of_ite h with ⟨hc6, h⟩ | ⟨hc6, h⟩
   ·refine AW.condT' _ rfl hc6 ?_
    refine AW.sr ?_
    refine AO.c (Calm.assign rfl rfl) ?_
    refine AO.nH [2] (H' := []) (Sub.nil _) ?_
    refine AW.rK [2] ?_
    have hr := Option.some.inj h
    subst hr
    exact ⟨[(eI64 (-1 : Int))], ⟨rfl, rfl, trivial⟩, rfl⟩
   ·refine AW.condF' _ rfl hc6 ?_
    refine AW.sK [0, 3] ?_
    refine AW.sr ?_
    refine AO.c (Calm.move rfl rfl) ?_
    refine AO.c (Calm.move rfl rfl) ?_
    obtain ⟨hg7, h⟩ := of_guard h
    refine AO.c (Calm.idxO 0 rfl rfl rfl rfl hg7 Tryd.underlying53 sz3) ?_
    refine AO.c (Calm.load 0 rfl rfl rfl (At.cast (At.lidx p0 hg7.1 hg7.2 At.here) (by omega)) ag3 sz3) ?_
    obtain ⟨x8, ex8, h⟩ := of_bind h
    refine AO.c (Calm.assign rfl (congrArg (fun x => some (eI64 x)) (Option.some.inj ex8))) ?_
    refine AO.nH [2] (H' := []) (Sub.nil _) ?_
    refine AW.rK [2] ?_
    have hr := Option.some.inj h
    subst hr
    exact ⟨[(eI64 x8)], ⟨rfl, rfl, trivial⟩, rfl⟩
end Go.Avl.TE
/- bosket/bosketref04.Check; printed by avmain.py. -/
namespace Go.Avl.TE
open Go Go.RowKit Go.Proofs Go.Avl
set_option linter.unusedVariables false
set_option maxRecDepth 100000
set_option maxHeartbeats 4000000
attribute [local irreducible] AW AO AQ Spec SpecH Calm

def bosketref04_Check_c0 (k : Nat) (x3 : Int) : Option Int :=
  if x3 ≠ (1 : Int) then some ((5 : Int))
  else some ((0 : Int))
def bosketref04_Check_l1 (k : Nat) (p0 : (List S40)) : Nat → Int → Int → Option Int
  | 0, _, _ => none
  | j + 1, x5, x6 =>
    if x6 < (p0.length : Int) then if 0 ≤ x6 ∧ x6 < (p0.length : Int) then (bosketref04_Takes k ((lget p0 x6).f0)).bind fun t11 =>
    Option.bind (α := Bool) (if t11 < (0 : Int) then some (true)
    else if x5 < t11 then some (true)
    else if 0 ≤ x6 ∧ x6 < (p0.length : Int) then if 0 ≤ x6 ∧ x6 < (p0.length : Int) then some (((decide (((lget p0 x6).f0) = (1 : Int))) == (decide (((lget p0 x6).f1) = (Vector.replicate 4 (0 : Int))))))
    else none
    else none) fun b12 =>
    if b12 = true then some ((5 : Int))
    else (bosketref04_Check_l1 k p0 j) (w64 ((w64 (x5 - t11)) + (1 : Int))) (w64 (x6 + (1 : Int)))
    else none
    else bosketref04_Check_c0 k x5
def bosketref04_Check (k : Nat) (p0 : (List S40)) : Option Int :=
  if (400 : Int) < (p0.length : Int) then some ((6 : Int))
  else bosketref04_Check_l1 k p0 k (0 : Int) (0 : Int)
theorem bosketref04_Check_spec {k : Nat} {p0 : (List S40)} {r : Int} (h : bosketref04_Check k p0 = some r) : Spec Tryd.prog 6 [(.fz 5 (p0.map e40))] (eI64 r) := by
  rw [bosketref04_Check.eq_1] at h
  refine Spec.intro (res := [.tmp 2]) Tryd.func6 rfl rfl rfl (Nat.le_of_ble_eq_true rfl) ?_
  refine AW.sr ?_
  refine AO.c (Calm.assign rfl rfl) ?_
  refine AO.nK [0] ?_
  refine AW.seq ?_
  refine AW.sr ?_
  refine AO.c (Calm.move rfl rfl) ?_
  refine AO.c (Calm.lenL rfl rfl Tryd.underlying23) ?_
  refine AO.c (x := eBool (decide ((400 : Int) < (p0.length : Int)))) (Calm.int rfl rfl rfl rfl) ?_
  refine AO.nK [0, 8] ?_
  rcases of_ite h with ⟨hc2, h⟩ | ⟨hc2, h⟩
  ·refine AW.condP _ rfl hc2 ?_
   refine AW.sr ?_
   refine AO.c (Calm.assign rfl rfl) ?_
   refine AO.nK [2] ?_
   refine AW.rK [2] ?_
   have hr := Option.some.inj h
   subst hr
   exact ⟨[(eI64 (6 : Int))], ⟨rfl, rfl, trivial⟩, rfl⟩
  ·refine AW.condN _ rfl hc2 ?_
   refine AW.sK [0] ?_
   refine AW.sr ?_
   refine AO.c (Calm.assign rfl rfl) ?_
   refine AO.nK [0, 3] ?_
   refine AW.seq_mid (fun ρ H => ∃ (x3 : Int), ρ = [(3, (eI64 x3))] ∧ H = [] ∧ bosketref04_Check_c0 k x3 = some r) ?_ ?_
   ·refine AW.sr ?_
    refine AO.c (Calm.assign rfl rfl) ?_
    refine AO.nK [0, 3, 4] ?_
    refine AW.block ?_
    refine AW.wK [0, 3, 4] ?_
    refine AW.loop (fun kq ρ H => ∃ (x5 : Int) (x6 : Int), ρ = [(0, (.fz 5 (p0.map e40))), (3, (eI64 x5)), (4, (eI64 x6))] ∧ H = [] ∧ bosketref04_Check_l1 k p0 kq x5 x6 = some r) k ⟨(0 : Int), (0 : Int), rfl, rfl, h⟩ ?_
    rintro kq8 _ _ ⟨x5, x6, rfl, rfl, h⟩
    cases kq8 with
    | zero => rw [bosketref04_Check_l1.eq_1] at h; cases h
    | succ kq8 =>
    rw [bosketref04_Check_l1.eq_2] at h
    generalize hrec7 : bosketref04_Check_l1 k p0 kq8 = rec7 at h
    refine AW.seq ?_
    refine AW.sr ?_
    refine AO.c (Calm.move rfl rfl) ?_
    refine AO.c (Calm.move rfl rfl) ?_
    refine AO.c (Calm.lenL rfl rfl Tryd.underlying23) ?_
    refine AO.c (x := eBool (decide (x6 < (p0.length : Int)))) (Calm.int rfl rfl rfl rfl) ?_
    refine AO.nK [0, 3, 4, 12] ?_
    rcases of_ite h with ⟨hc9, h⟩ | ⟨hc9, h⟩
    ·refine AW.condP _ rfl hc9 ?_
     refine AW.sK [0, 3, 4] ?_
     refine AW.seq ?_
     refine AW.block ?_
     refine AW.sr ?_
     refine AO.c (Calm.move rfl rfl) ?_
     refine AO.c (Calm.move rfl rfl) ?_
     obtain ⟨hg10, h⟩ := of_guard h
     refine AO.c (Calm.idxL (f := e40) rfl rfl rfl hg10 Tryd.underlying23 sz40) ?_
     refine AO.c (Calm.fldRp rfl rfl Tryd.underlying40 rfl sz3 (At.cast (At.fld0 At.here) rfl)) ?_
     refine AO.c (Calm.loadRp rfl rfl ag3 sz3) ?_
     obtain ⟨t11, et11, h⟩ := of_bind h
     refine AO.callS [(eI64 ((lget p0 x6).f0))] (eI64 t11) 20 rfl (by decide) ok19 rfl rfl rfl ⟨rfl, rfl, trivial⟩ (bosketref04_Takes_spec et11) ?_
     refine AO.c (Calm.assign rfl rfl) ?_
     refine AO.nK [0, 3, 4, 5] ?_
     refine AW.seq ?_
     refine AW.seq ?_
     obtain ⟨b12, hq13, h⟩ := of_bind h
     refine AW.regQM (by rfl) (by decide +kernel) [(0, (.fz 5 (p0.map e40))), (3, (eI64 x5)), (4, (eI64 x6)), (5, (eI64 t11)), (43, (eBool b12))] ?_ ?_
     ·refine AQ.c (Calm.move rfl rfl) ?_
      refine AQ.c (x := eBool (decide (t11 < (0 : Int)))) (Calm.int rfl rfl rfl rfl) ?_
      refine AQ.c (Calm.move rfl rfl) ?_
      rcases of_ite hq13 with ⟨hc14, hq13⟩ | ⟨hc14, hq13⟩
      ·refine AQ.sF rfl rfl (bD (decide_eq_true hc14)) ?_
       refine AQ.sF rfl rfl (bD (decide_eq_true hc14)) ?_
       refine AQ.sF rfl rfl (bD (decide_eq_true hc14)) ?_
       refine AQ.c (Calm.pickT rfl (bD (decide_eq_true hc14)) rfl) ?_
       refine AQ.c (Calm.move rfl rfl) ?_
       refine AQ.sF rfl rfl rfl ?_
       refine AQ.sF rfl rfl rfl ?_
       refine AQ.sF rfl rfl rfl ?_
       refine AQ.sF rfl rfl rfl ?_
       refine AQ.sF rfl rfl rfl ?_
       refine AQ.sF rfl rfl rfl ?_
       refine AQ.sF rfl rfl rfl ?_
       refine AQ.sF rfl rfl rfl ?_
       refine AQ.sF rfl rfl rfl ?_
       refine AQ.sF rfl rfl rfl ?_
       refine AQ.sF rfl rfl rfl ?_
       refine AQ.sF rfl rfl rfl ?_
       refine AQ.sF rfl rfl rfl ?_
       refine AQ.sF rfl rfl rfl ?_
       refine AQ.c (Calm.pickT rfl rfl rfl) ?_
       cases hq13
       refine AQ.nilE rfl ?_
       exact ⟨rfl, rfl, rfl, rfl, rfl, trivial⟩
      ·refine AQ.cG rfl rfl (bD (decide_eq_false hc14)) (Calm.move rfl rfl) ?_
       refine AQ.cG rfl rfl (bD (decide_eq_false hc14)) (Calm.move rfl rfl) ?_
       refine AQ.cG (x := eBool (decide (x5 < t11))) rfl rfl (bD (decide_eq_false hc14)) (Calm.int rfl rfl rfl rfl) ?_
       refine AQ.c (Calm.pickF rfl (bD (decide_eq_false hc14)) rfl) ?_
       refine AQ.c (Calm.move rfl rfl) ?_
       rcases of_ite hq13 with ⟨hc15, hq13⟩ | ⟨hc15, hq13⟩
       ·refine AQ.sF rfl rfl (bD (decide_eq_true hc15)) ?_
        refine AQ.sF rfl rfl (bD (decide_eq_true hc15)) ?_
        refine AQ.sF rfl rfl (bD (decide_eq_true hc15)) ?_
        refine AQ.sF rfl rfl (bD (decide_eq_true hc15)) ?_
        refine AQ.sF rfl rfl (bD (decide_eq_true hc15)) ?_
        refine AQ.sF rfl rfl (bD (decide_eq_true hc15)) ?_
        refine AQ.sF rfl rfl (bD (decide_eq_true hc15)) ?_
        refine AQ.sF rfl rfl (bD (decide_eq_true hc15)) ?_
        refine AQ.sF rfl rfl (bD (decide_eq_true hc15)) ?_
        refine AQ.sF rfl rfl (bD (decide_eq_true hc15)) ?_
        refine AQ.sF rfl rfl (bD (decide_eq_true hc15)) ?_
        refine AQ.sF rfl rfl (bD (decide_eq_true hc15)) ?_
        refine AQ.sF rfl rfl (bD (decide_eq_true hc15)) ?_
        refine AQ.sF rfl rfl (bD (decide_eq_true hc15)) ?_
        refine AQ.c (Calm.pickT rfl (bD (decide_eq_true hc15)) rfl) ?_
        cases hq13
        refine AQ.nilE rfl ?_
        exact ⟨rfl, rfl, rfl, rfl, rfl, trivial⟩
       ·refine AQ.cG rfl rfl (bD (decide_eq_false hc15)) (Calm.move rfl rfl) ?_
        refine AQ.cG rfl rfl (bD (decide_eq_false hc15)) (Calm.move rfl rfl) ?_
        obtain ⟨hg16, hq13⟩ := of_guard hq13
        refine AQ.cG rfl rfl (bD (decide_eq_false hc15)) (Calm.idxL (f := e40) rfl rfl rfl hg16 Tryd.underlying23 sz40) ?_
        refine AQ.cG rfl rfl (bD (decide_eq_false hc15)) (Calm.fldRp rfl rfl Tryd.underlying40 rfl sz3 (At.cast (At.fld0 At.here) rfl)) ?_
        refine AQ.cG rfl rfl (bD (decide_eq_false hc15)) (Calm.loadRp rfl rfl ag3 sz3) ?_
        refine AQ.cG (x := eBool (decide (((lget p0 x6).f0) = (1 : Int)))) rfl rfl (bD (decide_eq_false hc15)) (Calm.int rfl rfl rfl rfl) ?_
        refine AQ.cG rfl rfl (bD (decide_eq_false hc15)) (Calm.move rfl rfl) ?_
        refine AQ.cG rfl rfl (bD (decide_eq_false hc15)) (Calm.move rfl rfl) ?_
        obtain ⟨hg17, hq13⟩ := of_guard hq13
        refine AQ.cG rfl rfl (bD (decide_eq_false hc15)) (Calm.idxL (f := e40) rfl rfl rfl hg17 Tryd.underlying23 sz40) ?_
        refine AQ.cG rfl rfl (bD (decide_eq_false hc15)) (Calm.fldRp rfl rfl Tryd.underlying40 rfl sz38 (At.cast (At.fldS (At.fld0 At.here)) rfl)) ?_
        refine AQ.cG rfl rfl (bD (decide_eq_false hc15)) (Calm.loadRp rfl rfl ag38 (by rw [sz38]; simp [AV.size])) ?_
        refine AQ.cG (x := .ar 1 ((Vector.replicate 4 (0 : Int)).toList.map eU64)) rfl rfl (bD (decide_eq_false hc15)) (Calm.buildAr (qs := []) rfl trivial Tryd.underlying38 sz36 zr38 lay38 .nil rfl) ?_
        refine AQ.cG (x := eBool (decide (((lget p0 x6).f1) = (Vector.replicate 4 (0 : Int))))) rfl rfl (bD (decide_eq_false hc15)) (Calm.eqA rfl rfl rfl eg38 (eqa38 ((lget p0 x6).f1) (Vector.replicate 4 (0 : Int))) (by decide)) ?_
        refine AQ.cG (x := eBool ((decide (((lget p0 x6).f0) = (1 : Int))) == (decide (((lget p0 x6).f1) = (Vector.replicate 4 (0 : Int)))))) rfl rfl (bD (decide_eq_false hc15)) (Calm.boolEq rfl rfl rfl Tryd.underlying4) ?_
        refine AQ.c (Calm.pickF rfl (bD (decide_eq_false hc15)) rfl) ?_
        cases hq13
        refine AQ.nilE rfl ?_
        exact ⟨rfl, rfl, rfl, rfl, rfl, trivial⟩
     ·rcases of_ite h with ⟨hc18, h⟩ | ⟨hc18, h⟩
      ·refine AW.condT' _ rfl hc18 ?_
       refine AW.sr ?_
       refine AO.c (Calm.assign rfl rfl) ?_
       refine AO.nK [2] ?_
       refine AW.rK [2] ?_
       have hr := Option.some.inj h
       subst hr
       exact ⟨[(eI64 (5 : Int))], ⟨rfl, rfl, trivial⟩, rfl⟩
      ·refine AW.condF' _ rfl hc18 ?_
       refine AW.sK [0, 3, 4, 5] ?_
       refine AW.reg ?_
       refine AO.c (Calm.move rfl rfl) ?_
       refine AO.c (Calm.move rfl rfl) ?_
       refine AO.c (x := eI64 (w64 (x5 - t11))) (Calm.int rfl rfl rfl rfl) ?_
       refine AO.c (x := eI64 (w64 ((w64 (x5 - t11)) + (1 : Int)))) (Calm.int rfl rfl rfl rfl) ?_
       refine AO.c (Calm.assign rfl rfl) ?_
       refine AO.nK [0, 3, 4] ?_
       refine AW.reg ?_
       refine AO.c (Calm.move rfl rfl) ?_
       refine AO.c (x := eI64 (w64 (x6 + (1 : Int)))) (Calm.int rfl rfl rfl rfl) ?_
       refine AO.c (Calm.assign rfl rfl) ?_
       refine AO.nK [0, 3, 4] ?_
       exact ⟨kq8, Nat.lt_succ_self _, (w64 ((w64 (x5 - t11)) + (1 : Int))), (w64 (x6 + (1 : Int))), rfl, rfl, by rw [hrec7]; exact h⟩
    ·refine AW.condN _ rfl hc9 ?_
     refine AW.eK [3] ?_
     exact ⟨x5, rfl, rfl, h⟩
   ·rintro _ _ ⟨x3, rfl, rfl, h⟩
    rw [bosketref04_Check_c0.eq_1] at h
    refine AW.seq ?_
    refine AW.sr ?_
    refine AO.c (Calm.move rfl rfl) ?_
    refine AO.c (x := eBool (decide (x3 ≠ (1 : Int)))) (Calm.int rfl rfl rfl rfl) ?_
    refine AO.nK [49] ?_
    rcases of_ite h with ⟨hc4, h⟩ | ⟨hc4, h⟩
    ·refine AW.condP _ rfl hc4 ?_
     refine AW.sr ?_
     refine AO.c (Calm.assign rfl rfl) ?_
     refine AO.nK [2] ?_
     refine AW.rK [2] ?_
     have hr := Option.some.inj h
     subst hr
     exact ⟨[(eI64 (5 : Int))], ⟨rfl, rfl, trivial⟩, rfl⟩
    ·refine AW.condN _ rfl hc4 ?_
     refine AW.sK [] ?_
     refine AW.sr ?_
     refine AO.c (Calm.assign rfl rfl) ?_
     refine AO.nK [2] ?_
     refine AW.rK [2] ?_
     have hr := Option.some.inj h
     subst hr
     exact ⟨[(eI64 (0 : Int))], ⟨rfl, rfl, trivial⟩, rfl⟩
end Go.Avl.TE
/- bosket/bosketref04.Start; printed by avmain.py. -/
namespace Go.Avl.TE
open Go Go.RowKit Go.Proofs Go.Avl
set_option linter.unusedVariables false
set_option maxRecDepth 100000
set_option maxHeartbeats 4000000
attribute [local irreducible] AW AO AQ Spec SpecH Calm

def bosketref04_Start_c0 (k : Nat) : Option Int :=
  some ((0 : Int))
def bosketref04_Start_l1 (k : Nat) (p0 : (List S40)) : Nat → Int → Int → Option Int
  | 0, _, _ => none
  | j + 1, x3, x4 =>
    if (0 : Int) ≤ x4 then if 0 ≤ x4 ∧ x4 < (p0.length : Int) then (bosketref04_Takes k ((lget p0 x4).f0)).bind fun t9 =>
    if (w64 ((w64 (x3 - (1 : Int))) + t9)) = (0 : Int) then some (x4)
    else (bosketref04_Start_l1 k p0 j) (w64 ((w64 (x3 - (1 : Int))) + t9)) (w64 (x4 - (1 : Int)))
    else none
    else bosketref04_Start_c0 k
def bosketref04_Start (k : Nat) (p0 : (List S40)) (p1 : Int) : Option Int :=
  bosketref04_Start_l1 k p0 k (1 : Int) p1
theorem bosketref04_Start_spec {k : Nat} {p0 : (List S40)} {p1 : Int} {r : Int} (h : bosketref04_Start k p0 p1 = some r) : Spec Tryd.prog 17 [(.fz 5 (p0.map e40)), (eI64 p1)] (eI64 r) := by
  rw [bosketref04_Start.eq_1] at h
  refine Spec.intro (res := [.tmp 4]) Tryd.func17 rfl rfl rfl (Nat.le_of_ble_eq_true rfl) ?_
  refine AW.sr ?_
  refine AO.c (Calm.assign rfl rfl) ?_
  refine AO.nK [0, 1] ?_
  refine AW.sr ?_
  refine AO.c (Calm.assign rfl rfl) ?_
  refine AO.nK [0, 1, 5] ?_
  refine AW.seq_mid (fun ρ H => ρ = [] ∧ H = [] ∧ bosketref04_Start_c0 k = some r) ?_ ?_
  ·refine AW.sr ?_
   refine AO.c (Calm.move rfl rfl) ?_
   refine AO.c (Calm.assign rfl rfl) ?_
   refine AO.nK [0, 5, 6] ?_
   refine AW.block ?_
   refine AW.wK [0, 5, 6] ?_
   refine AW.loop (fun kq ρ H => ∃ (x3 : Int) (x4 : Int), ρ = [(0, (.fz 5 (p0.map e40))), (5, (eI64 x3)), (6, (eI64 x4))] ∧ H = [] ∧ bosketref04_Start_l1 k p0 kq x3 x4 = some r) k ⟨(1 : Int), p1, rfl, rfl, h⟩ ?_
   rintro kq6 _ _ ⟨x3, x4, rfl, rfl, h⟩
   cases kq6 with
   | zero => rw [bosketref04_Start_l1.eq_1] at h; cases h
   | succ kq6 =>
   rw [bosketref04_Start_l1.eq_2] at h
   generalize hrec5 : bosketref04_Start_l1 k p0 kq6 = rec5 at h
   refine AW.seq ?_
   refine AW.sr ?_
   refine AO.c (Calm.move rfl rfl) ?_
   refine AO.c (x := eBool (decide ((0 : Int) ≤ x4))) (Calm.int rfl rfl rfl rfl) ?_
   refine AO.nK [0, 5, 6, 9] ?_
   rcases of_ite h with ⟨hc7, h⟩ | ⟨hc7, h⟩
   ·refine AW.condP _ rfl hc7 ?_
    refine AW.sK [0, 5, 6] ?_
    refine AW.seq ?_
    refine AW.block ?_
    refine AW.sr ?_
    refine AO.c (Calm.move rfl rfl) ?_
    refine AO.c (x := eI64 (w64 (x3 - (1 : Int)))) (Calm.int rfl rfl rfl rfl) ?_
    refine AO.c (Calm.move rfl rfl) ?_
    refine AO.c (Calm.move rfl rfl) ?_
    obtain ⟨hg8, h⟩ := of_guard h
    refine AO.c (Calm.idxL (f := e40) rfl rfl rfl hg8 Tryd.underlying23 sz40) ?_
    refine AO.c (Calm.fldRp rfl rfl Tryd.underlying40 rfl sz3 (At.cast (At.fld0 At.here) rfl)) ?_
    refine AO.c (Calm.loadRp rfl rfl ag3 sz3) ?_
    obtain ⟨t9, et9, h⟩ := of_bind h
    refine AO.callS [(eI64 ((lget p0 x4).f0))] (eI64 t9) 19 rfl (by decide) ok19 rfl rfl rfl ⟨rfl, rfl, trivial⟩ (bosketref04_Takes_spec et9) ?_
    refine AO.c (x := eI64 (w64 ((w64 (x3 - (1 : Int))) + t9))) (Calm.int rfl rfl rfl rfl) ?_
    refine AO.c (Calm.assign rfl rfl) ?_
    refine AO.nK [0, 5, 6] ?_
    refine AW.sr ?_
    refine AO.c (Calm.move rfl rfl) ?_
    refine AO.c (x := eBool (decide ((w64 ((w64 (x3 - (1 : Int))) + t9)) = (0 : Int)))) (Calm.int rfl rfl rfl rfl) ?_
    refine AO.nK [0, 5, 6, 22] ?_
    rcases of_ite h with ⟨hc10, h⟩ | ⟨hc10, h⟩
    ·refine AW.condP _ rfl hc10 ?_
     refine AW.sr ?_
     refine AO.c (Calm.move rfl rfl) ?_
     refine AO.c (Calm.assign rfl rfl) ?_
     refine AO.nK [4] ?_
     refine AW.rK [4] ?_
     have hr := Option.some.inj h
     subst hr
     exact ⟨[(eI64 x4)], ⟨rfl, rfl, trivial⟩, rfl⟩
    ·refine AW.condN _ rfl hc10 ?_
     refine AW.sK [0, 5, 6] ?_
     refine AW.reg ?_
     refine AO.c (Calm.move rfl rfl) ?_
     refine AO.c (x := eI64 (w64 (x4 - (1 : Int)))) (Calm.int rfl rfl rfl rfl) ?_
     refine AO.c (Calm.assign rfl rfl) ?_
     refine AO.nK [0, 5, 6] ?_
     exact ⟨kq6, Nat.lt_succ_self _, (w64 ((w64 (x3 - (1 : Int))) + t9)), (w64 (x4 - (1 : Int))), rfl, rfl, by rw [hrec5]; exact h⟩
   ·refine AW.condN _ rfl hc7 ?_
    refine AW.eK [] ?_
    exact ⟨rfl, rfl, h⟩
  ·rintro _ _ ⟨rfl, rfl, h⟩
   rw [bosketref04_Start_c0.eq_1] at h
   refine AW.sr ?_
   refine AO.c (Calm.assign rfl rfl) ?_
   refine AO.nK [4] ?_
   refine AW.rK [4] ?_
   have hr := Option.some.inj h
   subst hr
   exact ⟨[(eI64 (0 : Int))], ⟨rfl, rfl, trivial⟩, rfl⟩
end Go.Avl.TE
