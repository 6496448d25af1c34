/- Parts: TDB, TDf10, TDf12, TDf29, TDf17, TDf30, TDf18, TDf9, TDf22, TDf16, TDf21. -/
import Derived.Test.YthfongdjcpmpfaaDoorAv3
import Derived.Test.YthfongdjcpmpfaaDoorProg
/- Types and facts; printed by avmain.py. -/
namespace Go.Avl.TD
open Go Go.RowKit Go.Proofs Go.Avl
set_option linter.unusedVariables false
set_option maxRecDepth 100000
set_option maxHeartbeats 4000000
abbrev e27 (v : Vector Int 4) : AV := .ar 1 (v.toList.map eU64)
abbrev e22 (l : List Int) : AV := .fz 1 (l.map eU8)
structure S35 where
  f0 : Int
  f1 : Int
deriving Inhabited, DecidableEq
abbrev e35 (x : S35) : AV := .st [(1, (eU8 x.f0)), (1, (eU8 x.f1))]
abbrev e32 (l : List S35) : AV := .fz 2 (l.map e35)
abbrev e39 (v : Vector Int 256) : AV := .ar 1 (v.toList.map eU8)
theorem zr27 : tyZero Tryd.prog 27 = some ((List.replicate 4 (.int .u64 0))) := by rfl
theorem lay27 : ∀ g, Sim g (.ar 1 ((Vector.replicate 4 (0 : Int)).toList.map eU64)) ((List.replicate 4 (.int .u64 0))) := fun g => (lay_vec1 (lay_fl rfl))
theorem sz5 : tySize Tryd.prog 5 = some 1 := by rfl
theorem ag5 : tyAgg Tryd.prog 5 = some false := by rfl
theorem sz25 : tySize Tryd.prog 25 = some 1 := by rfl
theorem ag25 : tyAgg Tryd.prog 25 = some false := by rfl
theorem ag27 : tyAgg Tryd.prog 27 = some true := by rfl
theorem sz27 : tySize Tryd.prog 27 = some 4 := by rfl
theorem tb0 : ∀ i : Int, 0 ≤ i ∧ i < (64 : Int) → (0, i.toNat * 1, Value.int .u8 (lget tab0 i)) ∈ tabs := fun i h => by
  rw [Nat.mul_one]; exact tab_mem (l := tab0) i.toNat (by have : tab0.length = 64 := rfl; omega)
theorem ok29 : FnOK Tryd.prog 29 := FnOK.mk Tryd.func29 rfl rfl
theorem zr5 : tyZero Tryd.prog 5 = some ([.int .u8 0]) := by rfl
theorem lay5 : ∀ g, Sim g (eU8 (0 : Int)) ([.int .u8 0]) := fun g => (lay_fl rfl)
theorem by5 : tyBytes Tryd.prog 5 = some 1 := by rfl
theorem ok17 : FnOK Tryd.prog 17 := FnOK.mk Tryd.func17 rfl rfl
theorem zr35 : tyZero Tryd.prog 35 = some (([.int .u8 0] ++ ([.int .u8 0] ++ []))) := by rfl
theorem lay35 : ∀ g, Sim g (.st [(1, (eU8 (0 : Int))), (1, (eU8 (0 : Int)))]) (([.int .u8 0] ++ ([.int .u8 0] ++ []))) := fun g => (Sim.stCons (lay_fl rfl) rfl (Sim.stCons (lay_fl rfl) rfl Sim.stNil))
theorem sz35 : tySize Tryd.prog 35 = some 2 := by rfl
theorem by35 : tyBytes Tryd.prog 35 = some 2 := by rfl
theorem ok8 : FnOK Tryd.prog 8 := FnOK.mk Tryd.func8 rfl rfl
theorem ok11 : FnOK Tryd.prog 11 := FnOK.mk Tryd.func11 rfl rfl
theorem ag35 : tyAgg Tryd.prog 35 = some true := by rfl
theorem eqk35 (x y : S35) : EqOK Tryd.prog 2 35 (e35 x) (e35 y) (decide (x = y)) := (EqOK.struct (bs := [decide (x.f0 = y.f0), decide (x.f1 = y.f1)]) Tryd.underlying35 (by decide +kernel) ⟨⟨rfl, (eU8 x.f0), (eU8 y.f0), (At.cast (At.fld0 At.here) rfl), (At.cast (At.fld0 At.here) rfl), ag5, ag5, sz5, sz5, (EqOK.int Tryd.underlying5)⟩, ⟨rfl, (eU8 x.f1), (eU8 y.f1), (At.cast (At.fldS (At.fld0 At.here)) rfl), (At.cast (At.fldS (At.fld0 At.here)) rfl), ag5, ag5, sz5, sz5, (EqOK.int Tryd.underlying5)⟩, trivial⟩).of (by cases x; cases y; simp)
theorem eg35 : Tryd.prog.eqGuardType Tryd.prog.depth 35 = false := by decide +kernel
theorem ok7 : FnOK Tryd.prog 7 := FnOK.mk Tryd.func7 rfl rfl
theorem ok10 : FnOK Tryd.prog 10 := FnOK.mk Tryd.func10 rfl rfl
theorem ok12 : FnOK Tryd.prog 12 := FnOK.mk Tryd.func12 rfl rfl
theorem eqa27 (x y : (Vector Int 4)) : EqOK Tryd.prog 2 27 (.ar 1 (x.toList.map eU64)) (.ar 1 (y.toList.map eU64)) (decide (x = y)) := EqOK.vec (m := 1) Tryd.underlying27 (fun a b => EqOK.int Tryd.underlying25) (fun _ => ag25) (fun _ => sz25) (fun _ => rfl) (by rfl) ⟨_, rfl⟩ x y
theorem eg27 : Tryd.prog.eqGuardType Tryd.prog.depth 27 = false := by decide +kernel
theorem ok22 : FnOK Tryd.prog 22 := FnOK.mk Tryd.func22 rfl rfl
theorem ok30 : FnOK Tryd.prog 30 := FnOK.mk Tryd.func30 rfl rfl
theorem sz4 : tySize Tryd.prog 4 = some 1 := by rfl
theorem ag4 : tyAgg Tryd.prog 4 = some false := by rfl
theorem zr4 : tyZero Tryd.prog 4 = some ([.bool false]) := by rfl
theorem lay4 : ∀ g, Sim g (eBool false) ([.bool false]) := fun g => (lay_fl rfl)
theorem by4 : tyBytes Tryd.prog 4 = some 1 := by rfl
theorem ok9 : FnOK Tryd.prog 9 := FnOK.mk Tryd.func9 rfl rfl
theorem ok27 : FnOK Tryd.prog 27 := FnOK.mk Tryd.func27 rfl rfl
theorem ok25 : FnOK Tryd.prog 25 := FnOK.mk Tryd.func25 rfl rfl
theorem ok16 : FnOK Tryd.prog 16 := FnOK.mk Tryd.func16 rfl rfl
theorem ok18 : FnOK Tryd.prog 18 := FnOK.mk Tryd.func18 rfl rfl
theorem ok19 : FnOK Tryd.prog 19 := FnOK.mk Tryd.func19 rfl rfl
theorem ok20 : FnOK Tryd.prog 20 := FnOK.mk Tryd.func20 rfl rfl
theorem ok21 : FnOK Tryd.prog 21 := FnOK.mk Tryd.func21 rfl rfl
theorem ok23 : FnOK Tryd.prog 23 := FnOK.mk Tryd.func23 rfl rfl
theorem ok24 : FnOK Tryd.prog 24 := FnOK.mk Tryd.func24 rfl rfl
theorem ok26 : FnOK Tryd.prog 26 := FnOK.mk Tryd.func26 rfl rfl
theorem zr39 : tyZero Tryd.prog 39 = some ((List.replicate 256 (.int .u8 0))) := by rfl
theorem lay39 : ∀ g, Sim g (.ar 1 ((Vector.replicate 256 (0 : Int)).toList.map eU8)) ((List.replicate 256 (.int .u8 0))) := fun g => (lay_vec1 (lay_fl rfl))
theorem ok28 : FnOK Tryd.prog 28 := FnOK.mk Tryd.func28 rfl rfl
theorem zr3 : tyZero Tryd.prog 3 = some ([.int .i64 0]) := by rfl
theorem mz3 : ∀ g, ∃ zv, ((Tryd.prog.info? 3).bind (·.zero)) = some zv ∧ V1 g (eI64 (0 : Int)) zv := fun g => ⟨_, rfl, rfl⟩
theorem ag39 : tyAgg Tryd.prog 39 = some true := by rfl
theorem sz39 : tySize Tryd.prog 39 = some 256 := by rfl
theorem ok13 : FnOK Tryd.prog 13 := FnOK.mk Tryd.func13 rfl rfl
theorem ok14 : FnOK Tryd.prog 14 := FnOK.mk Tryd.func14 rfl rfl
theorem ok15 : FnOK Tryd.prog 15 := FnOK.mk Tryd.func15 rfl rfl
end Go.Avl.TD
/- bosket/byteset.Range; printed by avmain.py. -/
namespace Go.Avl.TD
open Go Go.RowKit Go.Proofs Go.Avl
set_option linter.unusedVariables false
set_option maxRecDepth 100000
set_option maxHeartbeats 4000000
attribute [local irreducible] AW AO AQ Spec SpecH Calm

def byteset_Range_c0 (k : Nat) (x5 : (Vector Int 4)) : Option (Vector Int 4) :=
  some (x5)
def byteset_Range_l1 (k : Nat) (p1 : Int) : Nat → (Vector Int 4) → Int → Option (Vector Int 4)
  | 0, _, _ => none
  | j + 1, x6, x7 =>
    if x7 ≤ (w64 p1) then if 0 ≤ (IntKind.i64.wrap (x7.tdiv (64 : Int))) ∧ (IntKind.i64.wrap (x7.tdiv (64 : Int))) < (4 : Int) then if 0 ≤ (u64 (x7.tmod (64 : Int))) then if 0 ≤ (IntKind.i64.wrap (x7.tdiv (64 : Int))) ∧ (IntKind.i64.wrap (x7.tdiv (64 : Int))) < (4 : Int) then (byteset_Range_l1 k p1 j) (vset x6 (IntKind.i64.wrap (x7.tdiv (64 : Int))) (bits .or .u64 (vget x6 (IntKind.i64.wrap (x7.tdiv (64 : Int)))) (IntKind.u64.wrap ((1 : Int) * 2 ^ (min (u64 (x7.tmod (64 : Int))).toNat IntKind.u64.bits))))) (w64 (x7 + (1 : Int)))
    else none
    else none
    else none
    else byteset_Range_c0 k x6
def byteset_Range (k : Nat) (p0 : Int) (p1 : Int) : Option (Vector Int 4) :=
  byteset_Range_l1 k p1 k (Vector.replicate 4 (0 : Int)) (w64 p0)
theorem byteset_Range_spec {k : Nat} {p0 : Int} {p1 : Int} {r : (Vector Int 4)} (h : byteset_Range k p0 p1 = some r) : Spec Tryd.prog 10 [(eU8 p0), (eU8 p1)] (e27 r) := by
  rw [byteset_Range.eq_1] at h
  refine Spec.intro (res := [.cell 4 27]) Tryd.func10 rfl rfl rfl (Nat.le_of_ble_eq_true rfl) ?_
  refine AW.seq ?_
  refine AW.reg ?_
  refine AO.alloc rfl 4 rfl (by decide) rfl zr27 lay27 fun n3 => ?_
  refine AO.nil (ρ' := [(0, (eU8 p0)), (1, (eU8 p1)), (4, (.ptr n3 0))]) (H' := [(n3, (.mem (.ar 1 ((Vector.replicate 4 (0 : Int)).toList.map eU64))))]) ⟨rfl, rfl, rfl, trivial⟩ (Sub.refl _) ?_
  refine AW.seq ?_
  refine AW.reg ?_
  refine AO.alloc rfl 5 rfl (by decide) rfl zr27 lay27 fun n4 => ?_
  refine AO.nil (ρ' := [(0, (eU8 p0)), (1, (eU8 p1)), (4, (.ptr n3 0)), (5, (.ptr n4 0))]) (H' := [(n3, (.mem (.ar 1 ((Vector.replicate 4 (0 : Int)).toList.map eU64)))), (n4, (.mem (.ar 1 ((Vector.replicate 4 (0 : Int)).toList.map eU64))))]) ⟨rfl, rfl, rfl, rfl, trivial⟩ (Sub.cons 1 rfl (Sub.cons 0 rfl (Sub.nil _))) ?_
  refine AW.seq_mid (fun ρ H => ∃ (x5 : (Vector Int 4)), ρ = [(4, (.ptr n3 0)), (5, (.ptr n4 0))] ∧ H = [(n3, (.mem (.ar 1 ((Vector.replicate 4 (0 : Int)).toList.map eU64)))), (n4, (.mem (.ar 1 (x5.toList.map eU64))))] ∧ byteset_Range_c0 k x5 = some r) ?_ ?_
  · refine AW.seq ?_
    refine AW.reg ?_
    refine AO.calm rfl 7 rfl (by decide) (eU8 p0) (Calm.move rfl rfl) ?_
    refine AO.calm rfl 8 rfl (by decide) (eI64 (w64 p0)) (Calm.conv rfl rfl Tryd.underlying5 Tryd.underlying3) ?_
    refine AO.calm rfl 6 rfl (by decide) (eI64 (w64 p0)) (Calm.assign rfl rfl) ?_
    refine AO.nil (ρ' := [(1, (eU8 p1)), (4, (.ptr n3 0)), (5, (.ptr n4 0)), (6, (eI64 (w64 p0)))]) (H' := [(n3, (.mem (.ar 1 ((Vector.replicate 4 (0 : Int)).toList.map eU64)))), (n4, (.mem (.ar 1 ((Vector.replicate 4 (0 : Int)).toList.map eU64))))]) ⟨rfl, rfl, rfl, rfl, trivial⟩ (Sub.refl _) ?_
    refine AW.block ?_
    refine AW.weak (ρ' := [(1, (eU8 p1)), (4, (.ptr n3 0)), (5, (.ptr n4 0)), (6, (eI64 (w64 p0)))]) (H' := [(n3, (.mem (.ar 1 ((Vector.replicate 4 (0 : Int)).toList.map eU64)))), (n4, (.mem (.ar 1 ((Vector.replicate 4 (0 : Int)).toList.map eU64))))]) ⟨rfl, rfl, rfl, rfl, trivial⟩ (Sub.refl _) ?_
    refine AW.loop (fun kq ρ H => ∃ (x6 : (Vector Int 4)) (x7 : Int), ρ = [(1, (eU8 p1)), (4, (.ptr n3 0)), (5, (.ptr n4 0)), (6, (eI64 x7))] ∧ H = [(n3, (.mem (.ar 1 ((Vector.replicate 4 (0 : Int)).toList.map eU64)))), (n4, (.mem (.ar 1 (x6.toList.map eU64))))] ∧ byteset_Range_l1 k p1 kq x6 x7 = some r) k ⟨(Vector.replicate 4 (0 : Int)), (w64 p0), rfl, rfl, h⟩ ?_
    rintro kq9 _ _ ⟨x6, x7, rfl, rfl, h⟩
    cases kq9 with
    | zero => rw [byteset_Range_l1.eq_1] at h; cases h
    | succ kq9 =>
    rw [byteset_Range_l1.eq_2] at h
    generalize hrec8 : byteset_Range_l1 k p1 kq9 = rec8 at h
    refine AW.seq ?_
    refine AW.seq ?_
    refine AW.reg ?_
    refine AO.calm rfl 9 rfl (by decide) (eI64 x7) (Calm.move rfl rfl) ?_
    refine AO.calm rfl 10 rfl (by decide) (eU8 p1) (Calm.move rfl rfl) ?_
    refine AO.calm rfl 11 rfl (by decide) (eI64 (w64 p1)) (Calm.conv rfl rfl Tryd.underlying5 Tryd.underlying3) ?_
    refine AO.calm rfl 12 rfl (by decide) (eBool (decide (x7 ≤ (w64 p1)))) (Calm.int rfl rfl rfl rfl) ?_
    refine AO.nil (ρ' := [(1, (eU8 p1)), (4, (.ptr n3 0)), (5, (.ptr n4 0)), (6, (eI64 x7)), (12, (eBool (decide (x7 ≤ (w64 p1)))))]) (H' := [(n3, (.mem (.ar 1 ((Vector.replicate 4 (0 : Int)).toList.map eU64)))), (n4, (.mem (.ar 1 (x6.toList.map eU64))))]) ⟨rfl, rfl, rfl, rfl, rfl, trivial⟩ (Sub.refl _) ?_
    by_cases hc10 : x7 ≤ (w64 p1)
    · have h := (if_pos hc10).symm.trans h
      refine AW.condP (x7 ≤ (w64 p1)) rfl hc10 ?_
      refine AW.skip (ρ' := [(1, (eU8 p1)), (4, (.ptr n3 0)), (5, (.ptr n4 0)), (6, (eI64 x7))]) (H' := [(n3, (.mem (.ar 1 ((Vector.replicate 4 (0 : Int)).toList.map eU64)))), (n4, (.mem (.ar 1 (x6.toList.map eU64))))]) ⟨rfl, rfl, rfl, rfl, trivial⟩ (Sub.refl _) ?_
      refine AW.seq ?_
      refine AW.block ?_
      refine AW.reg ?_
      refine AO.calm rfl 15 rfl (by decide) (eI64 x7) (Calm.move rfl rfl) ?_
      refine AO.calm rfl 16 rfl (by decide) (eI64 (IntKind.i64.wrap (x7.tdiv (64 : Int)))) (Calm.quo rfl rfl rfl (by decide)) ?_
      obtain ⟨hg11, h⟩ := of_guard h
      refine AO.calm rfl 17 rfl (by decide) (.ptr n4 (0 + (IntKind.i64.wrap (x7.tdiv (64 : Int))).toNat * 1)) (Calm.idxP rfl rfl rfl hg11 Tryd.underlying27 sz25) ?_
      refine AO.calm rfl 18 rfl (by decide) (eU64 (vget x6 (IntKind.i64.wrap (x7.tdiv (64 : Int))))) (Calm.load 1 rfl rfl rfl (At.cast (At.vidx (IntKind.i64.wrap (x7.tdiv (64 : Int))) hg11.1 hg11.2 At.here) (by omega)) ag25 sz25) ?_
      refine AO.calm rfl 19 rfl (by decide) (eI64 x7) (Calm.move rfl rfl) ?_
      refine AO.calm rfl 20 rfl (by decide) (eI64 (x7.tmod (64 : Int))) (Calm.rem rfl rfl rfl (by decide)) ?_
      refine AO.calm rfl 21 rfl (by decide) (eU64 (u64 (x7.tmod (64 : Int)))) (Calm.conv rfl rfl Tryd.underlying3 Tryd.underlying52) ?_
      obtain ⟨hg12, h⟩ := of_guard h
      refine AO.calm rfl 22 rfl (by decide) (eU64 (IntKind.u64.wrap ((1 : Int) * 2 ^ (min (u64 (x7.tmod (64 : Int))).toNat IntKind.u64.bits)))) (Calm.shl rfl rfl rfl hg12) ?_
      refine AO.calm rfl 23 rfl (by decide) (eU64 (bits .or .u64 (vget x6 (IntKind.i64.wrap (x7.tdiv (64 : Int)))) (IntKind.u64.wrap ((1 : Int) * 2 ^ (min (u64 (x7.tmod (64 : Int))).toNat IntKind.u64.bits))))) (Calm.int rfl rfl rfl rfl) ?_
      obtain ⟨hg13, h⟩ := of_guard h
      refine AO.calm rfl 24 rfl (by decide) (.ptr n4 (0 + (IntKind.i64.wrap (x7.tdiv (64 : Int))).toNat * 1)) (Calm.idxP rfl rfl rfl hg13 Tryd.underlying27 sz25) ?_
      refine AO.store (X' := (.ar 1 ((vset x6 (IntKind.i64.wrap (x7.tdiv (64 : Int))) (bits .or .u64 (vget x6 (IntKind.i64.wrap (x7.tdiv (64 : Int)))) (IntKind.u64.wrap ((1 : Int) * 2 ^ (min (u64 (x7.tmod (64 : Int))).toNat IntKind.u64.bits))))).toList.map eU64))) 1 rfl rfl rfl rfl rfl rfl (Put.cast (Put.vidx (IntKind.i64.wrap (x7.tdiv (64 : Int))) (bits .or .u64 (vget x6 (IntKind.i64.wrap (x7.tdiv (64 : Int)))) (IntKind.u64.wrap ((1 : Int) * 2 ^ (min (u64 (x7.tmod (64 : Int))).toNat IntKind.u64.bits)))) hg13.1 hg13.2 Put.here) (by omega)) rfl rfl sz25 rfl ?_
      refine AO.nil (ρ' := [(1, (eU8 p1)), (4, (.ptr n3 0)), (5, (.ptr n4 0)), (6, (eI64 x7))]) (H' := [(n3, (.mem (.ar 1 ((Vector.replicate 4 (0 : Int)).toList.map eU64)))), (n4, (.mem (.ar 1 ((vset x6 (IntKind.i64.wrap (x7.tdiv (64 : Int))) (bits .or .u64 (vget x6 (IntKind.i64.wrap (x7.tdiv (64 : Int)))) (IntKind.u64.wrap ((1 : Int) * 2 ^ (min (u64 (x7.tmod (64 : Int))).toNat IntKind.u64.bits))))).toList.map eU64))))]) ⟨rfl, rfl, rfl, rfl, trivial⟩ (Sub.refl _) ?_
      refine AW.reg ?_
      refine AO.calm rfl 13 rfl (by decide) (eI64 x7) (Calm.move rfl rfl) ?_
      refine AO.calm rfl 14 rfl (by decide) (eI64 (w64 (x7 + (1 : Int)))) (Calm.int rfl rfl rfl rfl) ?_
      refine AO.calm rfl 6 rfl (by decide) (eI64 (w64 (x7 + (1 : Int)))) (Calm.assign rfl rfl) ?_
      refine AO.nil (ρ' := [(1, (eU8 p1)), (4, (.ptr n3 0)), (5, (.ptr n4 0)), (6, (eI64 (w64 (x7 + (1 : Int)))))]) (H' := [(n3, (.mem (.ar 1 ((Vector.replicate 4 (0 : Int)).toList.map eU64)))), (n4, (.mem (.ar 1 ((vset x6 (IntKind.i64.wrap (x7.tdiv (64 : Int))) (bits .or .u64 (vget x6 (IntKind.i64.wrap (x7.tdiv (64 : Int)))) (IntKind.u64.wrap ((1 : Int) * 2 ^ (min (u64 (x7.tmod (64 : Int))).toNat IntKind.u64.bits))))).toList.map eU64))))]) ⟨rfl, rfl, rfl, rfl, trivial⟩ (Sub.refl _) ?_
      exact ⟨kq9, Nat.lt_succ_self _, (vset x6 (IntKind.i64.wrap (x7.tdiv (64 : Int))) (bits .or .u64 (vget x6 (IntKind.i64.wrap (x7.tdiv (64 : Int)))) (IntKind.u64.wrap ((1 : Int) * 2 ^ (min (u64 (x7.tmod (64 : Int))).toNat IntKind.u64.bits))))), (w64 (x7 + (1 : Int))), rfl, rfl, by rw [hrec8]; exact h⟩
    · have h := (if_neg hc10).symm.trans h
      refine AW.condN (x7 ≤ (w64 p1)) rfl hc10 ?_
      refine AW.exit (ρ' := [(4, (.ptr n3 0)), (5, (.ptr n4 0))]) (H' := [(n3, (.mem (.ar 1 ((Vector.replicate 4 (0 : Int)).toList.map eU64)))), (n4, (.mem (.ar 1 (x6.toList.map eU64))))]) ⟨rfl, rfl, trivial⟩ (Sub.refl _) ?_
      exact ⟨x6, rfl, rfl, h⟩
  · rintro _ _ ⟨x5, rfl, rfl, h⟩
    rw [byteset_Range_c0.eq_1] at h
    refine AW.seq ?_
    refine AW.reg ?_
    refine AO.calm rfl 25 rfl (by decide) (.ar 1 (x5.toList.map eU64)) (Calm.load 1 rfl rfl rfl (At.cast At.here rfl) ag27 (by rw [sz27]; simp [AV.size])) ?_
    refine AO.store (X' := (.ar 1 (x5.toList.map eU64))) 0 rfl rfl rfl rfl rfl rfl (Put.cast Put.here rfl) rfl (by simp [AV.size]) (by rw [sz27]; simp [AV.size]) rfl ?_
    refine AO.nil (ρ' := [(4, (.ptr n3 0))]) (H' := [(n3, (.mem (.ar 1 (x5.toList.map eU64))))]) ⟨rfl, trivial⟩ (Sub.cons 0 rfl (Sub.nil _)) ?_
    refine AW.ret (ρ' := [(4, (.ptr n3 0))]) (H' := [(n3, (.mem (.ar 1 (x5.toList.map eU64))))]) ⟨rfl, trivial⟩ (Sub.refl _) ?_
    have hr := Option.some.inj h
    subst hr
    exact ⟨[(.ar 1 (x5.toList.map eU64))], ⟨⟨_, 0, rfl, rfl, ag27, (by rw [sz27]; simp [AV.size])⟩, trivial⟩, rfl⟩
end Go.Avl.TD
/- bosket/byteset.Or; printed by avmain.py. -/
namespace Go.Avl.TD
open Go Go.RowKit Go.Proofs Go.Avl
set_option linter.unusedVariables false
set_option maxRecDepth 100000
set_option maxHeartbeats 4000000
attribute [local irreducible] AW AO AQ Spec SpecH Calm

def byteset_Or_c0 (k : Nat) (x6 : (Vector Int 4)) : Option (Vector Int 4) :=
  some (x6)
def byteset_Or_l1 (k : Nat) (p1 : (Vector Int 4)) : Nat → (Vector Int 4) → Int → Option (Vector Int 4)
  | 0, _, _ => none
  | j + 1, x7, x8 =>
    if x8 < (4 : Int) then if 0 ≤ x8 ∧ x8 < (4 : Int) then if 0 ≤ x8 ∧ x8 < (4 : Int) then if 0 ≤ x8 ∧ x8 < (4 : Int) then (byteset_Or_l1 k p1 j) (vset x7 x8 (bits .or .u64 (vget x7 x8) (vget p1 x8))) (w64 (x8 + (1 : Int)))
    else none
    else none
    else none
    else byteset_Or_c0 k x7
def byteset_Or (k : Nat) (p0 : (Vector Int 4)) (p1 : (Vector Int 4)) : Option (Vector Int 4) :=
  byteset_Or_l1 k p1 k p0 (0 : Int)
theorem byteset_Or_spec {k : Nat} {p0 : (Vector Int 4)} {p1 : (Vector Int 4)} {r : (Vector Int 4)} (h : byteset_Or k p0 p1 = some r) : Spec Tryd.prog 12 [(.ar 1 (p0.toList.map eU64)), (.ar 1 (p1.toList.map eU64))] (e27 r) := by
  rw [byteset_Or.eq_1] at h
  refine Spec.intro (res := [.cell 4 27]) Tryd.func12 rfl rfl rfl (Nat.le_of_ble_eq_true rfl) ?_
  refine AW.seq ?_
  refine AW.reg ?_
  refine AO.box rfl 2 rfl (by decide) rfl rfl rfl fun n3 => ?_
  refine AO.box rfl 3 rfl (by decide) rfl rfl rfl fun n4 => ?_
  refine AO.alloc rfl 4 rfl (by decide) rfl zr27 lay27 fun n5 => ?_
  refine AO.nil (ρ' := [(2, (.ptr n3 0)), (3, (.ptr n4 0)), (4, (.ptr n5 0))]) (H' := [(n3, (.mem (.ar 1 (p0.toList.map eU64)))), (n4, (.mem (.ar 1 (p1.toList.map eU64)))), (n5, (.mem (.ar 1 ((Vector.replicate 4 (0 : Int)).toList.map eU64))))]) ⟨rfl, rfl, rfl, trivial⟩ (Sub.cons 2 rfl (Sub.cons 1 rfl (Sub.cons 0 rfl (Sub.nil _)))) ?_
  refine AW.seq_mid (fun ρ H => ∃ (x6 : (Vector Int 4)), ρ = [(2, (.ptr n3 0)), (4, (.ptr n5 0))] ∧ H = [(n3, (.mem (.ar 1 (x6.toList.map eU64)))), (n5, (.mem (.ar 1 ((Vector.replicate 4 (0 : Int)).toList.map eU64))))] ∧ byteset_Or_c0 k x6 = some r) ?_ ?_
  · refine AW.seq ?_
    refine AW.reg ?_
    refine AO.calm rfl 6 rfl (by decide) (eI64 (0 : Int)) (Calm.move rfl rfl) ?_
    refine AO.nil (ρ' := [(2, (.ptr n3 0)), (3, (.ptr n4 0)), (4, (.ptr n5 0)), (6, (eI64 (0 : Int)))]) (H' := [(n3, (.mem (.ar 1 (p0.toList.map eU64)))), (n4, (.mem (.ar 1 (p1.toList.map eU64)))), (n5, (.mem (.ar 1 ((Vector.replicate 4 (0 : Int)).toList.map eU64))))]) ⟨rfl, rfl, rfl, rfl, trivial⟩ (Sub.refl _) ?_
    refine AW.block ?_
    refine AW.weak (ρ' := [(2, (.ptr n3 0)), (3, (.ptr n4 0)), (4, (.ptr n5 0)), (6, (eI64 (0 : Int)))]) (H' := [(n3, (.mem (.ar 1 (p0.toList.map eU64)))), (n4, (.mem (.ar 1 (p1.toList.map eU64)))), (n5, (.mem (.ar 1 ((Vector.replicate 4 (0 : Int)).toList.map eU64))))]) ⟨rfl, rfl, rfl, rfl, trivial⟩ (Sub.refl _) ?_
    refine AW.loop (fun kq ρ H => ∃ (x7 : (Vector Int 4)) (x8 : Int), ρ = [(2, (.ptr n3 0)), (3, (.ptr n4 0)), (4, (.ptr n5 0)), (6, (eI64 x8))] ∧ H = [(n3, (.mem (.ar 1 (x7.toList.map eU64)))), (n4, (.mem (.ar 1 (p1.toList.map eU64)))), (n5, (.mem (.ar 1 ((Vector.replicate 4 (0 : Int)).toList.map eU64))))] ∧ byteset_Or_l1 k p1 kq x7 x8 = some r) k ⟨p0, (0 : Int), rfl, rfl, h⟩ ?_
    rintro kq10 _ _ ⟨x7, x8, rfl, rfl, h⟩
    cases kq10 with
    | zero => rw [byteset_Or_l1.eq_1] at h; cases h
    | succ kq10 =>
    rw [byteset_Or_l1.eq_2] at h
    generalize hrec9 : byteset_Or_l1 k p1 kq10 = rec9 at h
    refine AW.seq ?_
    refine AW.reg ?_
    refine AO.calm rfl 7 rfl (by decide) (eBool (decide (x8 < (4 : Int)))) (Calm.int rfl rfl rfl rfl) ?_
    refine AO.nil (ρ' := [(2, (.ptr n3 0)), (3, (.ptr n4 0)), (4, (.ptr n5 0)), (6, (eI64 x8)), (7, (eBool (decide (x8 < (4 : Int)))))]) (H' := [(n3, (.mem (.ar 1 (x7.toList.map eU64)))), (n4, (.mem (.ar 1 (p1.toList.map eU64)))), (n5, (.mem (.ar 1 ((Vector.replicate 4 (0 : Int)).toList.map eU64))))]) ⟨rfl, rfl, rfl, rfl, rfl, trivial⟩ (Sub.refl _) ?_
    refine AW.seq ?_
    by_cases hc11 : x8 < (4 : Int)
    · have h := (if_pos hc11).symm.trans h
      refine AW.condP (x8 < (4 : Int)) rfl hc11 ?_
      refine AW.skip (ρ' := [(2, (.ptr n3 0)), (3, (.ptr n4 0)), (4, (.ptr n5 0)), (6, (eI64 x8))]) (H' := [(n3, (.mem (.ar 1 (x7.toList.map eU64)))), (n4, (.mem (.ar 1 (p1.toList.map eU64)))), (n5, (.mem (.ar 1 ((Vector.replicate 4 (0 : Int)).toList.map eU64))))]) ⟨rfl, rfl, rfl, rfl, trivial⟩ (Sub.refl _) ?_
      refine AW.seq ?_
      refine AW.block ?_
      refine AW.seq ?_
      refine AW.reg ?_
      refine AO.calm rfl 8 rfl (by decide) (eI64 x8) (Calm.move rfl rfl) ?_
      refine AO.calm rfl 5 rfl (by decide) (eI64 x8) (Calm.assign rfl rfl) ?_
      refine AO.nil (ρ' := [(2, (.ptr n3 0)), (3, (.ptr n4 0)), (4, (.ptr n5 0)), (5, (eI64 x8)), (6, (eI64 x8))]) (H' := [(n3, (.mem (.ar 1 (x7.toList.map eU64)))), (n4, (.mem (.ar 1 (p1.toList.map eU64)))), (n5, (.mem (.ar 1 ((Vector.replicate 4 (0 : Int)).toList.map eU64))))]) ⟨rfl, rfl, rfl, rfl, rfl, trivial⟩ (Sub.refl _) ?_
      obtain ⟨hg12, h⟩ := of_guard h
      obtain ⟨hg13, h⟩ := of_guard h
      obtain ⟨hg14, h⟩ := of_guard h
      refine AW.regAnyL rfl rfl (by rfl) (by decide +kernel) (by decide +kernel) [(eI64 x8), (.ptr n3 (0 + x8.toNat * 1)), (eU64 (vget x7 x8)), (eI64 x8), (.ptr n4 (0 + x8.toNat * 1)), (eU64 (vget p1 x8)), (eU64 (bits .or .u64 (vget x7 x8) (vget p1 x8))), (.ptr n3 (0 + x8.toNat * 1))] [(2, (.ptr n3 0)), (3, (.ptr n4 0)), (4, (.ptr n5 0)), (5, (eI64 x8)), (6, (eI64 x8))] ⟨rfl, rfl, rfl, rfl, rfl, trivial⟩ rfl ?_ [(2, (.ptr n3 0)), (3, (.ptr n4 0)), (4, (.ptr n5 0)), (6, (eI64 x8)), (15, (eU64 (bits .or .u64 (vget x7 x8) (vget p1 x8)))), (16, (.ptr n3 (0 + x8.toNat * 1)))] ⟨rfl, rfl, rfl, rfl, rfl, rfl, trivial⟩ ?_
      · refine ⟨?_, ?_, ?_, ?_, ?_, ?_, ?_, ?_, trivial⟩
        · refine AO.weak (ρ' := [(5, (eI64 x8))]) (H' := [(n3, (.mem (.ar 1 (x7.toList.map eU64)))), (n4, (.mem (.ar 1 (p1.toList.map eU64)))), (n5, (.mem (.ar 1 ((Vector.replicate 4 (0 : Int)).toList.map eU64))))]) ⟨rfl, trivial⟩ (Sub.refl _) ?_
          refine AO.calm rfl 9 rfl (by decide) (eI64 x8) (Calm.move rfl rfl) ?_
          exact AO.nilE (ρ' := [(9, (eI64 x8))]) (H' := [(n3, (.mem (.ar 1 (x7.toList.map eU64)))), (n4, (.mem (.ar 1 (p1.toList.map eU64)))), (n5, (.mem (.ar 1 ((Vector.replicate 4 (0 : Int)).toList.map eU64))))]) ⟨⟨_, rfl, rfl⟩, Sub.refl _⟩ ⟨rfl, trivial⟩ (Sub.refl _)
        · refine AO.weak (ρ' := [(2, (.ptr n3 0)), (9, (eI64 x8))]) (H' := [(n3, (.mem (.ar 1 (x7.toList.map eU64)))), (n4, (.mem (.ar 1 (p1.toList.map eU64)))), (n5, (.mem (.ar 1 ((Vector.replicate 4 (0 : Int)).toList.map eU64))))]) ⟨rfl, rfl, trivial⟩ (Sub.refl _) ?_
          refine AO.calm rfl 10 rfl (by decide) (.ptr n3 (0 + x8.toNat * 1)) (Calm.idxP rfl rfl rfl hg12 Tryd.underlying27 sz25) ?_
          exact AO.nilE (ρ' := [(10, (.ptr n3 (0 + x8.toNat * 1)))]) (H' := [(n3, (.mem (.ar 1 (x7.toList.map eU64)))), (n4, (.mem (.ar 1 (p1.toList.map eU64)))), (n5, (.mem (.ar 1 ((Vector.replicate 4 (0 : Int)).toList.map eU64))))]) ⟨⟨_, rfl, rfl⟩, Sub.refl _⟩ ⟨rfl, trivial⟩ (Sub.refl _)
        · refine AO.weak (ρ' := [(10, (.ptr n3 (0 + x8.toNat * 1)))]) (H' := [(n3, (.mem (.ar 1 (x7.toList.map eU64)))), (n4, (.mem (.ar 1 (p1.toList.map eU64)))), (n5, (.mem (.ar 1 ((Vector.replicate 4 (0 : Int)).toList.map eU64))))]) ⟨rfl, trivial⟩ (Sub.refl _) ?_
          refine AO.calm rfl 11 rfl (by decide) (eU64 (vget x7 x8)) (Calm.load 0 rfl rfl rfl (At.cast (At.vidx x8 hg12.1 hg12.2 At.here) (by omega)) ag25 sz25) ?_
          exact AO.nilE (ρ' := [(11, (eU64 (vget x7 x8)))]) (H' := [(n3, (.mem (.ar 1 (x7.toList.map eU64)))), (n4, (.mem (.ar 1 (p1.toList.map eU64)))), (n5, (.mem (.ar 1 ((Vector.replicate 4 (0 : Int)).toList.map eU64))))]) ⟨⟨_, rfl, rfl⟩, Sub.refl _⟩ ⟨rfl, trivial⟩ (Sub.refl _)
        · refine AO.weak (ρ' := [(5, (eI64 x8))]) (H' := [(n3, (.mem (.ar 1 (x7.toList.map eU64)))), (n4, (.mem (.ar 1 (p1.toList.map eU64)))), (n5, (.mem (.ar 1 ((Vector.replicate 4 (0 : Int)).toList.map eU64))))]) ⟨rfl, trivial⟩ (Sub.refl _) ?_
          refine AO.calm rfl 12 rfl (by decide) (eI64 x8) (Calm.move rfl rfl) ?_
          exact AO.nilE (ρ' := [(12, (eI64 x8))]) (H' := [(n3, (.mem (.ar 1 (x7.toList.map eU64)))), (n4, (.mem (.ar 1 (p1.toList.map eU64)))), (n5, (.mem (.ar 1 ((Vector.replicate 4 (0 : Int)).toList.map eU64))))]) ⟨⟨_, rfl, rfl⟩, Sub.refl _⟩ ⟨rfl, trivial⟩ (Sub.refl _)
        · refine AO.weak (ρ' := [(3, (.ptr n4 0)), (12, (eI64 x8))]) (H' := [(n3, (.mem (.ar 1 (x7.toList.map eU64)))), (n4, (.mem (.ar 1 (p1.toList.map eU64)))), (n5, (.mem (.ar 1 ((Vector.replicate 4 (0 : Int)).toList.map eU64))))]) ⟨rfl, rfl, trivial⟩ (Sub.refl _) ?_
          refine AO.calm rfl 13 rfl (by decide) (.ptr n4 (0 + x8.toNat * 1)) (Calm.idxP rfl rfl rfl hg13 Tryd.underlying27 sz25) ?_
          exact AO.nilE (ρ' := [(13, (.ptr n4 (0 + x8.toNat * 1)))]) (H' := [(n3, (.mem (.ar 1 (x7.toList.map eU64)))), (n4, (.mem (.ar 1 (p1.toList.map eU64)))), (n5, (.mem (.ar 1 ((Vector.replicate 4 (0 : Int)).toList.map eU64))))]) ⟨⟨_, rfl, rfl⟩, Sub.refl _⟩ ⟨rfl, trivial⟩ (Sub.refl _)
        · refine AO.weak (ρ' := [(13, (.ptr n4 (0 + x8.toNat * 1)))]) (H' := [(n3, (.mem (.ar 1 (x7.toList.map eU64)))), (n4, (.mem (.ar 1 (p1.toList.map eU64)))), (n5, (.mem (.ar 1 ((Vector.replicate 4 (0 : Int)).toList.map eU64))))]) ⟨rfl, trivial⟩ (Sub.refl _) ?_
          refine AO.calm rfl 14 rfl (by decide) (eU64 (vget p1 x8)) (Calm.load 1 rfl rfl rfl (At.cast (At.vidx x8 hg13.1 hg13.2 At.here) (by omega)) ag25 sz25) ?_
          exact AO.nilE (ρ' := [(14, (eU64 (vget p1 x8)))]) (H' := [(n3, (.mem (.ar 1 (x7.toList.map eU64)))), (n4, (.mem (.ar 1 (p1.toList.map eU64)))), (n5, (.mem (.ar 1 ((Vector.replicate 4 (0 : Int)).toList.map eU64))))]) ⟨⟨_, rfl, rfl⟩, Sub.refl _⟩ ⟨rfl, trivial⟩ (Sub.refl _)
        · refine AO.weak (ρ' := [(11, (eU64 (vget x7 x8))), (14, (eU64 (vget p1 x8)))]) (H' := [(n3, (.mem (.ar 1 (x7.toList.map eU64)))), (n4, (.mem (.ar 1 (p1.toList.map eU64)))), (n5, (.mem (.ar 1 ((Vector.replicate 4 (0 : Int)).toList.map eU64))))]) ⟨rfl, rfl, trivial⟩ (Sub.refl _) ?_
          refine AO.calm rfl 15 rfl (by decide) (eU64 (bits .or .u64 (vget x7 x8) (vget p1 x8))) (Calm.int rfl rfl rfl rfl) ?_
          exact AO.nilE (ρ' := [(15, (eU64 (bits .or .u64 (vget x7 x8) (vget p1 x8))))]) (H' := [(n3, (.mem (.ar 1 (x7.toList.map eU64)))), (n4, (.mem (.ar 1 (p1.toList.map eU64)))), (n5, (.mem (.ar 1 ((Vector.replicate 4 (0 : Int)).toList.map eU64))))]) ⟨⟨_, rfl, rfl⟩, Sub.refl _⟩ ⟨rfl, trivial⟩ (Sub.refl _)
        · refine AO.weak (ρ' := [(2, (.ptr n3 0)), (9, (eI64 x8))]) (H' := [(n3, (.mem (.ar 1 (x7.toList.map eU64)))), (n4, (.mem (.ar 1 (p1.toList.map eU64)))), (n5, (.mem (.ar 1 ((Vector.replicate 4 (0 : Int)).toList.map eU64))))]) ⟨rfl, rfl, trivial⟩ (Sub.refl _) ?_
          refine AO.calm rfl 16 rfl (by decide) (.ptr n3 (0 + x8.toNat * 1)) (Calm.idxP rfl rfl rfl hg14 Tryd.underlying27 sz25) ?_
          exact AO.nilE (ρ' := [(16, (.ptr n3 (0 + x8.toNat * 1)))]) (H' := [(n3, (.mem (.ar 1 (x7.toList.map eU64)))), (n4, (.mem (.ar 1 (p1.toList.map eU64)))), (n5, (.mem (.ar 1 ((Vector.replicate 4 (0 : Int)).toList.map eU64))))]) ⟨⟨_, rfl, rfl⟩, Sub.refl _⟩ ⟨rfl, trivial⟩ (Sub.refl _)
      · refine AO.store (X' := (.ar 1 ((vset x7 x8 (bits .or .u64 (vget x7 x8) (vget p1 x8))).toList.map eU64))) 0 rfl rfl rfl rfl rfl rfl (Put.cast (Put.vidx x8 (bits .or .u64 (vget x7 x8) (vget p1 x8)) hg14.1 hg14.2 Put.here) (by omega)) rfl rfl sz25 rfl ?_
        refine AO.nil (ρ' := [(2, (.ptr n3 0)), (3, (.ptr n4 0)), (4, (.ptr n5 0)), (6, (eI64 x8))]) (H' := [(n3, (.mem (.ar 1 ((vset x7 x8 (bits .or .u64 (vget x7 x8) (vget p1 x8))).toList.map eU64)))), (n4, (.mem (.ar 1 (p1.toList.map eU64)))), (n5, (.mem (.ar 1 ((Vector.replicate 4 (0 : Int)).toList.map eU64))))]) ⟨rfl, rfl, rfl, rfl, trivial⟩ (Sub.refl _) ?_
        refine AW.reg ?_
        refine AO.calm rfl 17 rfl (by decide) (eI64 (w64 (x8 + (1 : Int)))) (Calm.int rfl rfl rfl rfl) ?_
        refine AO.calm rfl 6 rfl (by decide) (eI64 (w64 (x8 + (1 : Int)))) (Calm.move rfl rfl) ?_
        refine AO.nil (ρ' := [(2, (.ptr n3 0)), (3, (.ptr n4 0)), (4, (.ptr n5 0)), (6, (eI64 (w64 (x8 + (1 : Int)))))]) (H' := [(n3, (.mem (.ar 1 ((vset x7 x8 (bits .or .u64 (vget x7 x8) (vget p1 x8))).toList.map eU64)))), (n4, (.mem (.ar 1 (p1.toList.map eU64)))), (n5, (.mem (.ar 1 ((Vector.replicate 4 (0 : Int)).toList.map eU64))))]) ⟨rfl, rfl, rfl, rfl, trivial⟩ (Sub.refl _) ?_
        exact ⟨kq10, Nat.lt_succ_self _, (vset x7 x8 (bits .or .u64 (vget x7 x8) (vget p1 x8))), (w64 (x8 + (1 : Int))), rfl, rfl, by rw [hrec9]; exact h⟩
    · have h := (if_neg hc11).symm.trans h
      refine AW.condN (x8 < (4 : Int)) rfl hc11 ?_
      refine AW.exit (ρ' := [(2, (.ptr n3 0)), (4, (.ptr n5 0))]) (H' := [(n3, (.mem (.ar 1 (x7.toList.map eU64)))), (n5, (.mem (.ar 1 ((Vector.replicate 4 (0 : Int)).toList.map eU64))))]) ⟨rfl, rfl, trivial⟩ (Sub.cons 0 rfl (Sub.cons 1 rfl (Sub.nil _))) ?_
      exact ⟨x7, rfl, rfl, h⟩
  · rintro _ _ ⟨x6, rfl, rfl, h⟩
    rw [byteset_Or_c0.eq_1] at h
    refine AW.seq ?_
    refine AW.reg ?_
    refine AO.calm rfl 18 rfl (by decide) (.ar 1 (x6.toList.map eU64)) (Calm.load 0 rfl rfl rfl (At.cast At.here rfl) ag27 (by rw [sz27]; simp [AV.size])) ?_
    refine AO.store (X' := (.ar 1 (x6.toList.map eU64))) 1 rfl rfl rfl rfl rfl rfl (Put.cast Put.here rfl) rfl (by simp [AV.size]) (by rw [sz27]; simp [AV.size]) rfl ?_
    refine AO.nil (ρ' := [(4, (.ptr n5 0))]) (H' := [(n5, (.mem (.ar 1 (x6.toList.map eU64))))]) ⟨rfl, trivial⟩ (Sub.cons 1 rfl (Sub.nil _)) ?_
    refine AW.ret (ρ' := [(4, (.ptr n5 0))]) (H' := [(n5, (.mem (.ar 1 (x6.toList.map eU64))))]) ⟨rfl, trivial⟩ (Sub.refl _) ?_
    have hr := Option.some.inj h
    subst hr
    exact ⟨[(.ar 1 (x6.toList.map eU64))], ⟨⟨_, 0, rfl, rfl, ag27, (by rw [sz27]; simp [AV.size])⟩, trivial⟩, rfl⟩
end Go.Avl.TD
/- math/bits.TrailingZeros64; printed by avmain.py. -/
namespace Go.Avl.TD
open Go Go.RowKit Go.Proofs Go.Avl
set_option linter.unusedVariables false
set_option maxRecDepth 100000
set_option maxHeartbeats 4000000
attribute [local irreducible] AW AO AQ Spec SpecH Calm

def math_bits_TrailingZeros64 (k : Nat) (p0 : Int) : Option Int :=
  if p0 = (0 : Int) then some ((64 : Int))
  else if 0 ≤ (Int.fdiv (u64 ((bits .and .u64 p0 (IntKind.u64.wrap (0 - p0))) * (285870213051353865 : Int))) (2 ^ (min (58 : Int).toNat IntKind.u64.bits))) ∧ (Int.fdiv (u64 ((bits .and .u64 p0 (IntKind.u64.wrap (0 - p0))) * (285870213051353865 : Int))) (2 ^ (min (58 : Int).toNat IntKind.u64.bits))) < (64 : Int) then (some (w64 (lget tab0 (Int.fdiv (u64 ((bits .and .u64 p0 (IntKind.u64.wrap (0 - p0))) * (285870213051353865 : Int))) (2 ^ (min (58 : Int).toNat IntKind.u64.bits)))))).bind fun x4 =>
  some (x4)
  else none
theorem math_bits_TrailingZeros64_spec {k : Nat} {p0 : Int} {r : Int} (h : math_bits_TrailingZeros64 k p0 = some r) : Spec Tryd.prog 29 [(eU64 p0)] (eI64 r) := by
  rw [math_bits_TrailingZeros64.eq_1] at h
  refine Spec.intro (res := [.tmp 2]) Tryd.func29 rfl rfl rfl (Nat.le_of_ble_eq_true rfl) ?_
  refine AW.seq ?_
  refine AW.reg ?_
  refine AO.calm rfl 2 rfl (by decide) (eI64 (0 : Int)) (Calm.assign rfl rfl) ?_
  refine AO.nil (ρ' := [(0, (eU64 p0))]) (H' := []) ⟨rfl, trivial⟩ (Sub.refl _) ?_
  refine AW.seq ?_
  refine AW.seq ?_
  refine AW.reg ?_
  refine AO.calm rfl 3 rfl (by decide) (eU64 p0) (Calm.move rfl rfl) ?_
  refine AO.calm rfl 4 rfl (by decide) (eBool (decide (p0 = (0 : Int)))) (Calm.int rfl rfl rfl rfl) ?_
  refine AO.nil (ρ' := [(0, (eU64 p0)), (4, (eBool (decide (p0 = (0 : Int)))))]) (H' := []) ⟨rfl, rfl, trivial⟩ (Sub.refl _) ?_
  by_cases hc2 : p0 = (0 : Int)
  · have h := (if_pos hc2).symm.trans h
    refine AW.condP (p0 = (0 : Int)) rfl hc2 ?_
    refine AW.seq ?_
    refine AW.reg ?_
    refine AO.calm rfl 2 rfl (by decide) (eI64 (64 : Int)) (Calm.assign rfl rfl) ?_
    refine AO.nil (ρ' := [(2, (eI64 (64 : Int)))]) (H' := []) ⟨rfl, trivial⟩ (Sub.refl _) ?_
    refine AW.ret (ρ' := [(2, (eI64 (64 : Int)))]) (H' := []) ⟨rfl, trivial⟩ (Sub.refl _) ?_
    have hr := Option.some.inj h
    subst hr
    exact ⟨[(eI64 (64 : Int))], ⟨rfl, rfl, trivial⟩, rfl⟩
  · have h := (if_neg hc2).symm.trans h
    refine AW.condN (p0 = (0 : Int)) rfl hc2 ?_
    refine AW.skip (ρ' := [(0, (eU64 p0))]) (H' := []) ⟨rfl, trivial⟩ (Sub.refl _) ?_
    refine AW.seq ?_
    refine AW.reg ?_
    refine AO.calm rfl 5 rfl (by decide) (eU64 p0) (Calm.move rfl rfl) ?_
    refine AO.calm rfl 6 rfl (by decide) (eU64 p0) (Calm.move rfl rfl) ?_
    refine AO.calm rfl 7 rfl (by decide) (eU64 (IntKind.u64.wrap (0 - p0))) (Calm.neg rfl rfl) ?_
    refine AO.calm rfl 8 rfl (by decide) (eU64 (bits .and .u64 p0 (IntKind.u64.wrap (0 - p0)))) (Calm.int rfl rfl rfl rfl) ?_
    refine AO.calm rfl 9 rfl (by decide) (eU64 (u64 ((bits .and .u64 p0 (IntKind.u64.wrap (0 - p0))) * (285870213051353865 : Int)))) (Calm.int rfl rfl rfl rfl) ?_
    refine AO.calm rfl 10 rfl (by decide) (eU64 (Int.fdiv (u64 ((bits .and .u64 p0 (IntKind.u64.wrap (0 - p0))) * (285870213051353865 : Int))) (2 ^ (min (58 : Int).toNat IntKind.u64.bits)))) (Calm.shr rfl rfl rfl (by decide)) ?_
    obtain ⟨hg3, h⟩ := of_guard h
    refine AO.calm rfl 11 rfl (by decide) (.fl (.pointer (some ⟨0, (Int.fdiv (u64 ((bits .and .u64 p0 (IntKind.u64.wrap (0 - p0))) * (285870213051353865 : Int))) (2 ^ (min (58 : Int).toNat IntKind.u64.bits))).toNat * 1, none⟩))) (Calm.idxGlob rfl rfl rfl hg3 Tryd.underlying57 sz5) ?_
    refine AO.calm rfl 12 rfl (by decide) (eU8 (lget tab0 (Int.fdiv (u64 ((bits .and .u64 p0 (IntKind.u64.wrap (0 - p0))) * (285870213051353865 : Int))) (2 ^ (min (58 : Int).toNat IntKind.u64.bits))))) (Calm.loadTab rfl rfl (tb0 _ hg3) ag5 sz5) ?_
    refine AO.calm rfl 13 rfl (by decide) (eI64 (w64 (lget tab0 (Int.fdiv (u64 ((bits .and .u64 p0 (IntKind.u64.wrap (0 - p0))) * (285870213051353865 : Int))) (2 ^ (min (58 : Int).toNat IntKind.u64.bits)))))) (Calm.conv rfl rfl Tryd.underlying5 Tryd.underlying3) ?_
    obtain ⟨x4, ex4, h⟩ := of_bind h
    refine AO.calm rfl 2 rfl (by decide) (eI64 x4) (Calm.assign rfl (congrArg (fun x => some (eI64 x)) (Option.some.inj ex4))) ?_
    refine AO.nil (ρ' := [(2, (eI64 x4))]) (H' := []) ⟨rfl, trivial⟩ (Sub.refl _) ?_
    refine AW.ret (ρ' := [(2, (eI64 x4))]) (H' := []) ⟨rfl, trivial⟩ (Sub.refl _) ?_
    have hr := Option.some.inj h
    subst hr
    exact ⟨[(eI64 x4)], ⟨rfl, rfl, trivial⟩, rfl⟩
end Go.Avl.TD
/- bosket/byteset.List; printed by avmain.py. -/
namespace Go.Avl.TD
open Go Go.RowKit Go.Proofs Go.Avl
set_option linter.unusedVariables false
set_option maxRecDepth 100000
set_option maxHeartbeats 4000000
attribute [local irreducible] AW AO AQ Spec SpecH Calm

def byteset_List_c0 (k : Nat) (x4 : (List Int)) : Option (List Int) :=
  some (x4)
def byteset_List_c1 (k : Nat) (rec8 : ((List Int) → Int → Option (List Int))) (x7 : Int) (x12 : (List Int)) : Option (List Int) :=
  rec8 x12 (w64 (x7 + (1 : Int)))
def byteset_List_l2 (k : Nat) (rec8 : ((List Int) → Int → Option (List Int))) (x7 : Int) : Nat → (List Int) → Int → Option (List Int)
  | 0, _, _ => none
  | j + 1, x15, x16 =>
    if x16 ≠ (0 : Int) then (math_bits_TrailingZeros64 k x16).bind fun t20 =>
    if (x15 ++ ([(w8 (w64 ((w64 ((64 : Int) * x7)) + t20)))] : List Int)).length * 1 ≤ 140737488355328 then (byteset_List_l2 k rec8 x7 j) (x15 ++ ([(w8 (w64 ((w64 ((64 : Int) * x7)) + t20)))] : List Int)) (bits .and .u64 x16 (u64 (x16 - (1 : Int))))
    else none
    else byteset_List_c1 k rec8 x7 x15
def byteset_List_l3 (k : Nat) (p0 : (Vector Int 4)) : Nat → (List Int) → Int → Option (List Int)
  | 0, _, _ => none
  | j + 1, x6, x7 =>
    if x7 < (4 : Int) then if 0 ≤ x7 ∧ x7 < (4 : Int) then byteset_List_l2 k (byteset_List_l3 k p0 j) x7 k x6 (vget p0 x7)
    else none
    else byteset_List_c0 k x6
def byteset_List (k : Nat) (p0 : (Vector Int 4)) : Option (List Int) :=
  byteset_List_l3 k p0 k ([] : List Int) (0 : Int)
theorem byteset_List_spec {k : Nat} {p0 : (Vector Int 4)} {r : (List Int)} (h : byteset_List k p0 = some r) : Spec Tryd.prog 17 [(.ar 1 (p0.toList.map eU64))] (e22 r) := by
  rw [byteset_List.eq_1] at h
  refine Spec.intro (res := [.tmp 2]) Tryd.func17 rfl rfl rfl (Nat.le_of_ble_eq_true rfl) ?_
  refine AW.seq ?_
  refine AW.reg ?_
  refine AO.box rfl 1 rfl (by decide) rfl rfl rfl fun n2 => ?_
  refine AO.calm rfl 2 rfl (by decide) (.fl (.slice none 0 0)) (Calm.assign rfl rfl) ?_
  refine AO.nil (ρ' := [(1, (.ptr n2 0))]) (H' := [(n2, (.mem (.ar 1 (p0.toList.map eU64))))]) ⟨rfl, trivial⟩ (Sub.refl _) ?_
  refine AW.seq ?_
  refine AW.reg ?_
  refine AO.calm rfl 3 rfl (by decide) (.fl (.slice none 0 0)) (Calm.assign rfl rfl) ?_
  refine AO.nil (ρ' := [(1, (.ptr n2 0)), (3, (.fl (.slice none 0 0)))]) (H' := [(n2, (.mem (.ar 1 (p0.toList.map eU64))))]) ⟨rfl, rfl, trivial⟩ (Sub.refl _) ?_
  refine AW.seq_mid (fun ρ H => ∃ (n3 : Nat) (x4 : (List Int)), ρ = [(3, (.own n3 0 x4.length))] ∧ H = [(n3, (.mem (.ar 1 (x4.map eU8))))] ∧ byteset_List_c0 k x4 = some r) ?_ ?_
  · refine AW.seq ?_
    refine AW.reg ?_
    refine AO.calm rfl 6 rfl (by decide) (.ar 1 (p0.toList.map eU64)) (Calm.load 0 rfl rfl rfl (At.cast At.here rfl) ag27 (by rw [sz27]; simp [AV.size])) ?_
    refine AO.calm rfl 7 rfl (by decide) (eI64 (0 : Int)) (Calm.move rfl rfl) ?_
    refine AO.nil (ρ' := [(3, (.fl (.slice none 0 0))), (6, (.ar 1 (p0.toList.map eU64))), (7, (eI64 (0 : Int)))]) (H' := []) ⟨rfl, rfl, rfl, trivial⟩ (Sub.nil _) ?_
    refine AW.block ?_
    refine AW.nilOwn 3 1 rfl fun n24 => ?_
    refine AW.weak (ρ' := [(3, (.own n24 0 ([] : List Int).length)), (6, (.ar 1 (p0.toList.map eU64))), (7, (eI64 (0 : Int)))]) (H' := [(n24, (.mem (.ar 1 (([] : List Int).map eU8))))]) ⟨rfl, rfl, rfl, trivial⟩ (Sub.refl _) ?_
    refine AW.loop (fun kq ρ H => ∃ (n5 : Nat) (x6 : (List Int)) (x7 : Int), ρ = [(3, (.own n5 0 x6.length)), (6, (.ar 1 (p0.toList.map eU64))), (7, (eI64 x7))] ∧ H = [(n5, (.mem (.ar 1 (x6.map eU8))))] ∧ byteset_List_l3 k p0 kq x6 x7 = some r) k ⟨n24, ([] : List Int), (0 : Int), rfl, rfl, h⟩ ?_
    rintro kq9 _ _ ⟨n5, x6, x7, rfl, rfl, h⟩
    cases kq9 with
    | zero => rw [byteset_List_l3.eq_1] at h; cases h
    | succ kq9 =>
    rw [byteset_List_l3.eq_2] at h
    generalize hrec8 : byteset_List_l3 k p0 kq9 = rec8 at h
    refine AW.seq ?_
    refine AW.reg ?_
    refine AO.calm rfl 8 rfl (by decide) (eBool (decide (x7 < (4 : Int)))) (Calm.int rfl rfl rfl rfl) ?_
    refine AO.nil (ρ' := [(3, (.own n5 0 x6.length)), (6, (.ar 1 (p0.toList.map eU64))), (7, (eI64 x7)), (8, (eBool (decide (x7 < (4 : Int)))))]) (H' := [(n5, (.mem (.ar 1 (x6.map eU8))))]) ⟨rfl, rfl, rfl, rfl, trivial⟩ (Sub.refl _) ?_
    refine AW.seq ?_
    by_cases hc10 : x7 < (4 : Int)
    · have h := (if_pos hc10).symm.trans h
      refine AW.condP (x7 < (4 : Int)) rfl hc10 ?_
      refine AW.skip (ρ' := [(3, (.own n5 0 x6.length)), (6, (.ar 1 (p0.toList.map eU64))), (7, (eI64 x7))]) (H' := [(n5, (.mem (.ar 1 (x6.map eU8))))]) ⟨rfl, rfl, rfl, trivial⟩ (Sub.refl _) ?_
      refine AW.seq_mid (fun ρ H => ∃ (n11 : Nat) (x12 : (List Int)), ρ = [(3, (.own n11 0 x12.length)), (6, (.ar 1 (p0.toList.map eU64))), (7, (eI64 x7))] ∧ H = [(n11, (.mem (.ar 1 (x12.map eU8))))] ∧ byteset_List_c1 k rec8 x7 x12 = some r) ?_ ?_
      · refine AW.block ?_
        refine AW.seq ?_
        refine AW.reg ?_
        refine AO.calm rfl 9 rfl (by decide) (eI64 x7) (Calm.move rfl rfl) ?_
        obtain ⟨hg13, h⟩ := of_guard h
        refine AO.calm rfl 10 rfl (by decide) (eU64 (vget p0 x7)) (Calm.idxVv (f := eU64) rfl rfl rfl hg13 Tryd.underlying27 sz25 ag25 rfl) ?_
        refine AO.calm rfl 4 rfl (by decide) (eI64 x7) (Calm.assign rfl rfl) ?_
        refine AO.calm rfl 5 rfl (by decide) (eU64 (vget p0 x7)) (Calm.assign rfl rfl) ?_
        refine AO.nil (ρ' := [(3, (.own n5 0 x6.length)), (4, (eI64 x7)), (5, (eU64 (vget p0 x7))), (6, (.ar 1 (p0.toList.map eU64))), (7, (eI64 x7))]) (H' := [(n5, (.mem (.ar 1 (x6.map eU8))))]) ⟨rfl, rfl, rfl, rfl, rfl, trivial⟩ (Sub.refl _) ?_
        refine AW.block ?_
        refine AW.weak (ρ' := [(3, (.own n5 0 x6.length)), (4, (eI64 x7)), (5, (eU64 (vget p0 x7))), (6, (.ar 1 (p0.toList.map eU64))), (7, (eI64 x7))]) (H' := [(n5, (.mem (.ar 1 (x6.map eU8))))]) ⟨rfl, rfl, rfl, rfl, rfl, trivial⟩ (Sub.refl _) ?_
        refine AW.loop (fun kq ρ H => ∃ (n14 : Nat) (x15 : (List Int)) (x16 : Int), ρ = [(3, (.own n14 0 x15.length)), (4, (eI64 x7)), (5, (eU64 x16)), (6, (.ar 1 (p0.toList.map eU64))), (7, (eI64 x7))] ∧ H = [(n14, (.mem (.ar 1 (x15.map eU8))))] ∧ byteset_List_l2 k rec8 x7 kq x15 x16 = some r) k ⟨n5, x6, (vget p0 x7), rfl, rfl, h⟩ ?_
        rintro kq18 _ _ ⟨n14, x15, x16, rfl, rfl, h⟩
        cases kq18 with
        | zero => rw [byteset_List_l2.eq_1] at h; cases h
        | succ kq18 =>
        rw [byteset_List_l2.eq_2] at h
        generalize hrec17 : byteset_List_l2 k rec8 x7 kq18 = rec17 at h
        refine AW.seq ?_
        refine AW.seq ?_
        refine AW.reg ?_
        refine AO.calm rfl 11 rfl (by decide) (eU64 x16) (Calm.move rfl rfl) ?_
        refine AO.calm rfl 12 rfl (by decide) (eBool (decide (x16 ≠ (0 : Int)))) (Calm.int rfl rfl rfl rfl) ?_
        refine AO.nil (ρ' := [(3, (.own n14 0 x15.length)), (4, (eI64 x7)), (5, (eU64 x16)), (6, (.ar 1 (p0.toList.map eU64))), (7, (eI64 x7)), (12, (eBool (decide (x16 ≠ (0 : Int)))))]) (H' := [(n14, (.mem (.ar 1 (x15.map eU8))))]) ⟨rfl, rfl, rfl, rfl, rfl, rfl, trivial⟩ (Sub.refl _) ?_
        by_cases hc19 : x16 ≠ (0 : Int)
        · have h := (if_pos hc19).symm.trans h
          refine AW.condP (x16 ≠ (0 : Int)) rfl hc19 ?_
          refine AW.skip (ρ' := [(3, (.own n14 0 x15.length)), (4, (eI64 x7)), (5, (eU64 x16)), (6, (.ar 1 (p0.toList.map eU64))), (7, (eI64 x7))]) (H' := [(n14, (.mem (.ar 1 (x15.map eU8))))]) ⟨rfl, rfl, rfl, rfl, rfl, trivial⟩ (Sub.refl _) ?_
          refine AW.block ?_
          refine AW.seq ?_
          refine AW.reg ?_
          refine AO.calm rfl 13 rfl (by decide) (.own n14 0 x15.length) (Calm.move rfl rfl) ?_
          refine AO.calm rfl 14 rfl (by decide) (eI64 x7) (Calm.move rfl rfl) ?_
          refine AO.calm rfl 15 rfl (by decide) (eI64 (w64 ((64 : Int) * x7))) (Calm.int rfl rfl rfl rfl) ?_
          refine AO.calm rfl 16 rfl (by decide) (eU64 x16) (Calm.move rfl rfl) ?_
          obtain ⟨t20, et20, h⟩ := of_bind h
          refine AO.callS [(eU64 x16)] (eI64 t20) 17 rfl (by decide) ok29 rfl rfl rfl ⟨rfl, rfl, trivial⟩ (math_bits_TrailingZeros64_spec et20) ?_
          refine AO.calm rfl 18 rfl (by decide) (eI64 (w64 ((w64 ((64 : Int) * x7)) + t20))) (Calm.int rfl rfl rfl rfl) ?_
          refine AO.calm rfl 19 rfl (by decide) (eU8 (w8 (w64 ((w64 ((64 : Int) * x7)) + t20)))) (Calm.conv rfl rfl Tryd.underlying3 Tryd.underlying5) ?_
          refine AO.lit (Z := (eU8 (0 : Int))) (xs := (([(w8 (w64 ((w64 ((64 : Int) * x7)) + t20)))] : List Int).map eU8)) (qs := [(0, (eU8 (w8 (w64 ((w64 ((64 : Int) * x7)) + t20)))))]) rfl 20 rfl (by decide) rfl ⟨rfl, rfl, rfl, trivial⟩ Tryd.underlying22 sz5 zr5 lay5 rfl (by decide) (litOK (z := 1) [(eU8 (w8 (w64 ((w64 ((64 : Int) * x7)) + t20))))] rfl ⟨⟨rfl, rfl⟩, trivial⟩) rfl fun n21 => ?_
          obtain ⟨hg23, h⟩ := of_guard h
          refine AO.appendL (l := x15) (m := ([(w8 (w64 ((w64 ((64 : Int) * x7)) + t20)))] : List Int)) 1 21 rfl (by decide) rfl rfl rfl rfl rfl (Src.ownL (f := eU8) (l := ([(w8 (w64 ((w64 ((64 : Int) * x7)) + t20)))] : List Int)) 0 rfl) Tryd.underlying22 Tryd.underlying22 sz5 by5 zr5 rfl hg23 (by decide) fun n22 => ?_
          refine AO.calm rfl 3 rfl (by decide) (.own n22 0 (x15 ++ ([(w8 (w64 ((w64 ((64 : Int) * x7)) + t20)))] : List Int)).length) (Calm.assign rfl rfl) ?_
          refine AO.nil (ρ' := [(3, (.own n22 0 (x15 ++ ([(w8 (w64 ((w64 ((64 : Int) * x7)) + t20)))] : List Int)).length)), (4, (eI64 x7)), (5, (eU64 x16)), (6, (.ar 1 (p0.toList.map eU64))), (7, (eI64 x7))]) (H' := [(n22, (.mem (.ar 1 ((x15 ++ ([(w8 (w64 ((w64 ((64 : Int) * x7)) + t20)))] : List Int)).map eU8))))]) ⟨rfl, rfl, rfl, rfl, rfl, trivial⟩ (Sub.cons 1 rfl (Sub.nil _)) ?_
          refine AW.reg ?_
          refine AO.calm rfl 22 rfl (by decide) (eU64 x16) (Calm.move rfl rfl) ?_
          refine AO.calm rfl 23 rfl (by decide) (eU64 x16) (Calm.move rfl rfl) ?_
          refine AO.calm rfl 24 rfl (by decide) (eU64 (u64 (x16 - (1 : Int)))) (Calm.int rfl rfl rfl rfl) ?_
          refine AO.calm rfl 25 rfl (by decide) (eU64 (bits .and .u64 x16 (u64 (x16 - (1 : Int))))) (Calm.int rfl rfl rfl rfl) ?_
          refine AO.calm rfl 5 rfl (by decide) (eU64 (bits .and .u64 x16 (u64 (x16 - (1 : Int))))) (Calm.assign rfl rfl) ?_
          refine AO.nil (ρ' := [(3, (.own n22 0 (x15 ++ ([(w8 (w64 ((w64 ((64 : Int) * x7)) + t20)))] : List Int)).length)), (4, (eI64 x7)), (5, (eU64 (bits .and .u64 x16 (u64 (x16 - (1 : Int)))))), (6, (.ar 1 (p0.toList.map eU64))), (7, (eI64 x7))]) (H' := [(n22, (.mem (.ar 1 ((x15 ++ ([(w8 (w64 ((w64 ((64 : Int) * x7)) + t20)))] : List Int)).map eU8))))]) ⟨rfl, rfl, rfl, rfl, rfl, trivial⟩ (Sub.refl _) ?_
          exact ⟨kq18, Nat.lt_succ_self _, n22, (x15 ++ ([(w8 (w64 ((w64 ((64 : Int) * x7)) + t20)))] : List Int)), (bits .and .u64 x16 (u64 (x16 - (1 : Int)))), rfl, rfl, by rw [hrec17]; exact h⟩
        · have h := (if_neg hc19).symm.trans h
          refine AW.condN (x16 ≠ (0 : Int)) rfl hc19 ?_
          refine AW.exit (ρ' := [(3, (.own n14 0 x15.length)), (6, (.ar 1 (p0.toList.map eU64))), (7, (eI64 x7))]) (H' := [(n14, (.mem (.ar 1 (x15.map eU8))))]) ⟨rfl, rfl, rfl, trivial⟩ (Sub.refl _) ?_
          exact ⟨n14, x15, rfl, rfl, h⟩
      · rintro _ _ ⟨n11, x12, rfl, rfl, h⟩
        rw [byteset_List_c1.eq_1] at h
        refine AW.reg ?_
        refine AO.calm rfl 26 rfl (by decide) (eI64 (w64 (x7 + (1 : Int)))) (Calm.int rfl rfl rfl rfl) ?_
        refine AO.calm rfl 7 rfl (by decide) (eI64 (w64 (x7 + (1 : Int)))) (Calm.move rfl rfl) ?_
        refine AO.nil (ρ' := [(3, (.own n11 0 x12.length)), (6, (.ar 1 (p0.toList.map eU64))), (7, (eI64 (w64 (x7 + (1 : Int)))))]) (H' := [(n11, (.mem (.ar 1 (x12.map eU8))))]) ⟨rfl, rfl, rfl, trivial⟩ (Sub.refl _) ?_
        exact ⟨kq9, Nat.lt_succ_self _, n11, x12, (w64 (x7 + (1 : Int))), rfl, rfl, by rw [hrec8]; exact h⟩
    · have h := (if_neg hc10).symm.trans h
      refine AW.condN (x7 < (4 : Int)) rfl hc10 ?_
      refine AW.exit (ρ' := [(3, (.own n5 0 x6.length))]) (H' := [(n5, (.mem (.ar 1 (x6.map eU8))))]) ⟨rfl, trivial⟩ (Sub.refl _) ?_
      exact ⟨n5, x6, rfl, rfl, h⟩
  · rintro _ _ ⟨n3, x4, rfl, rfl, h⟩
    rw [byteset_List_c0.eq_1] at h
    refine AW.seq ?_
    refine AW.reg ?_
    refine AO.calm rfl 27 rfl (by decide) (.own n3 0 x4.length) (Calm.move rfl rfl) ?_
    refine AO.calm rfl 2 rfl (by decide) (.own n3 0 x4.length) (Calm.assign rfl rfl) ?_
    refine AO.nil (ρ' := [(2, (.own n3 0 x4.length))]) (H' := [(n3, (.mem (.ar 1 (x4.map eU8))))]) ⟨rfl, trivial⟩ (Sub.refl _) ?_
    refine AW.freezeS 0 [(2, (.fz 1 (x4.map eU8)))] rfl ⟨fz_all rfl, trivial⟩ ?_
    refine AW.ret (ρ' := [(2, (.fz 1 (x4.map eU8)))]) (H' := []) ⟨rfl, trivial⟩ (Sub.refl _) ?_
    have hr := Option.some.inj h
    subst hr
    exact ⟨[(.fz 1 (x4.map eU8))], ⟨rfl, rfl, trivial⟩, rfl⟩
end Go.Avl.TD
/- math/bits.OnesCount64; printed by avmain.py. -/
namespace Go.Avl.TD
open Go Go.RowKit Go.Proofs Go.Avl
set_option linter.unusedVariables false
set_option maxRecDepth 100000
set_option maxHeartbeats 4000000
attribute [local irreducible] AW AO AQ Spec SpecH Calm

def math_bits_OnesCount64 (k : Nat) (p0 : Int) : Option Int :=
  (some (u64 ((bits .and .u64 (Int.fdiv p0 (2 ^ (min (1 : Int).toNat IntKind.u64.bits))) (6148914691236517205 : Int)) + (bits .and .u64 p0 (6148914691236517205 : Int))))).bind fun x2 =>
  (some (u64 ((bits .and .u64 (Int.fdiv x2 (2 ^ (min (2 : Int).toNat IntKind.u64.bits))) (3689348814741910323 : Int)) + (bits .and .u64 x2 (3689348814741910323 : Int))))).bind fun x3 =>
  (some (bits .and .u64 (u64 ((Int.fdiv x3 (2 ^ (min (4 : Int).toNat IntKind.u64.bits))) + x3)) (1085102592571150095 : Int))).bind fun x4 =>
  (some (u64 (x4 + (Int.fdiv x4 (2 ^ (min (8 : Int).toNat IntKind.u64.bits)))))).bind fun x5 =>
  (some (u64 (x5 + (Int.fdiv x5 (2 ^ (min (16 : Int).toNat IntKind.u64.bits)))))).bind fun x6 =>
  (some (u64 (x6 + (Int.fdiv x6 (2 ^ (min (32 : Int).toNat IntKind.u64.bits)))))).bind fun x7 =>
  some ((bits .and .i64 (w64 x7) (127 : Int)))
theorem math_bits_OnesCount64_spec {k : Nat} {p0 : Int} {r : Int} (h : math_bits_OnesCount64 k p0 = some r) : Spec Tryd.prog 30 [(eU64 p0)] (eI64 r) := by
  rw [math_bits_OnesCount64.eq_1] at h
  refine Spec.intro (res := [.tmp 2]) Tryd.func30 rfl rfl rfl (Nat.le_of_ble_eq_true rfl) ?_
  refine AW.seq ?_
  refine AW.reg ?_
  refine AO.calm rfl 2 rfl (by decide) (eI64 (0 : Int)) (Calm.assign rfl rfl) ?_
  refine AO.nil (ρ' := [(0, (eU64 p0))]) (H' := []) ⟨rfl, trivial⟩ (Sub.refl _) ?_
  refine AW.seq ?_
  refine AW.reg ?_
  refine AO.calm rfl 3 rfl (by decide) (eU64 p0) (Calm.move rfl rfl) ?_
  refine AO.calm rfl 4 rfl (by decide) (eU64 (Int.fdiv p0 (2 ^ (min (1 : Int).toNat IntKind.u64.bits)))) (Calm.shr rfl rfl rfl (by decide)) ?_
  refine AO.calm rfl 5 rfl (by decide) (eU64 (bits .and .u64 (Int.fdiv p0 (2 ^ (min (1 : Int).toNat IntKind.u64.bits))) (6148914691236517205 : Int))) (Calm.int rfl rfl rfl rfl) ?_
  refine AO.calm rfl 6 rfl (by decide) (eU64 p0) (Calm.move rfl rfl) ?_
  refine AO.calm rfl 7 rfl (by decide) (eU64 (bits .and .u64 p0 (6148914691236517205 : Int))) (Calm.int rfl rfl rfl rfl) ?_
  refine AO.calm rfl 8 rfl (by decide) (eU64 (u64 ((bits .and .u64 (Int.fdiv p0 (2 ^ (min (1 : Int).toNat IntKind.u64.bits))) (6148914691236517205 : Int)) + (bits .and .u64 p0 (6148914691236517205 : Int))))) (Calm.int rfl rfl rfl rfl) ?_
  obtain ⟨x2, ex2, h⟩ := of_bind h
  refine AO.calm rfl 0 rfl (by decide) (eU64 x2) (Calm.assign rfl (congrArg (fun x => some (eU64 x)) (Option.some.inj ex2))) ?_
  refine AO.nil (ρ' := [(0, (eU64 x2))]) (H' := []) ⟨rfl, trivial⟩ (Sub.refl _) ?_
  refine AW.seq ?_
  refine AW.reg ?_
  refine AO.calm rfl 9 rfl (by decide) (eU64 x2) (Calm.move rfl rfl) ?_
  refine AO.calm rfl 10 rfl (by decide) (eU64 (Int.fdiv x2 (2 ^ (min (2 : Int).toNat IntKind.u64.bits)))) (Calm.shr rfl rfl rfl (by decide)) ?_
  refine AO.calm rfl 11 rfl (by decide) (eU64 (bits .and .u64 (Int.fdiv x2 (2 ^ (min (2 : Int).toNat IntKind.u64.bits))) (3689348814741910323 : Int))) (Calm.int rfl rfl rfl rfl) ?_
  refine AO.calm rfl 12 rfl (by decide) (eU64 x2) (Calm.move rfl rfl) ?_
  refine AO.calm rfl 13 rfl (by decide) (eU64 (bits .and .u64 x2 (3689348814741910323 : Int))) (Calm.int rfl rfl rfl rfl) ?_
  refine AO.calm rfl 14 rfl (by decide) (eU64 (u64 ((bits .and .u64 (Int.fdiv x2 (2 ^ (min (2 : Int).toNat IntKind.u64.bits))) (3689348814741910323 : Int)) + (bits .and .u64 x2 (3689348814741910323 : Int))))) (Calm.int rfl rfl rfl rfl) ?_
  obtain ⟨x3, ex3, h⟩ := of_bind h
  refine AO.calm rfl 0 rfl (by decide) (eU64 x3) (Calm.assign rfl (congrArg (fun x => some (eU64 x)) (Option.some.inj ex3))) ?_
  refine AO.nil (ρ' := [(0, (eU64 x3))]) (H' := []) ⟨rfl, trivial⟩ (Sub.refl _) ?_
  refine AW.seq ?_
  refine AW.reg ?_
  refine AO.calm rfl 15 rfl (by decide) (eU64 x3) (Calm.move rfl rfl) ?_
  refine AO.calm rfl 16 rfl (by decide) (eU64 (Int.fdiv x3 (2 ^ (min (4 : Int).toNat IntKind.u64.bits)))) (Calm.shr rfl rfl rfl (by decide)) ?_
  refine AO.calm rfl 17 rfl (by decide) (eU64 x3) (Calm.move rfl rfl) ?_
  refine AO.calm rfl 18 rfl (by decide) (eU64 (u64 ((Int.fdiv x3 (2 ^ (min (4 : Int).toNat IntKind.u64.bits))) + x3))) (Calm.int rfl rfl rfl rfl) ?_
  refine AO.calm rfl 19 rfl (by decide) (eU64 (bits .and .u64 (u64 ((Int.fdiv x3 (2 ^ (min (4 : Int).toNat IntKind.u64.bits))) + x3)) (1085102592571150095 : Int))) (Calm.int rfl rfl rfl rfl) ?_
  obtain ⟨x4, ex4, h⟩ := of_bind h
  refine AO.calm rfl 0 rfl (by decide) (eU64 x4) (Calm.assign rfl (congrArg (fun x => some (eU64 x)) (Option.some.inj ex4))) ?_
  refine AO.nil (ρ' := [(0, (eU64 x4))]) (H' := []) ⟨rfl, trivial⟩ (Sub.refl _) ?_
  refine AW.seq ?_
  refine AW.reg ?_
  refine AO.calm rfl 20 rfl (by decide) (eU64 x4) (Calm.move rfl rfl) ?_
  refine AO.calm rfl 21 rfl (by decide) (eU64 x4) (Calm.move rfl rfl) ?_
  refine AO.calm rfl 22 rfl (by decide) (eU64 (Int.fdiv x4 (2 ^ (min (8 : Int).toNat IntKind.u64.bits)))) (Calm.shr rfl rfl rfl (by decide)) ?_
  refine AO.calm rfl 23 rfl (by decide) (eU64 (u64 (x4 + (Int.fdiv x4 (2 ^ (min (8 : Int).toNat IntKind.u64.bits)))))) (Calm.int rfl rfl rfl rfl) ?_
  obtain ⟨x5, ex5, h⟩ := of_bind h
  refine AO.calm rfl 0 rfl (by decide) (eU64 x5) (Calm.assign rfl (congrArg (fun x => some (eU64 x)) (Option.some.inj ex5))) ?_
  refine AO.nil (ρ' := [(0, (eU64 x5))]) (H' := []) ⟨rfl, trivial⟩ (Sub.refl _) ?_
  refine AW.seq ?_
  refine AW.reg ?_
  refine AO.calm rfl 24 rfl (by decide) (eU64 x5) (Calm.move rfl rfl) ?_
  refine AO.calm rfl 25 rfl (by decide) (eU64 x5) (Calm.move rfl rfl) ?_
  refine AO.calm rfl 26 rfl (by decide) (eU64 (Int.fdiv x5 (2 ^ (min (16 : Int).toNat IntKind.u64.bits)))) (Calm.shr rfl rfl rfl (by decide)) ?_
  refine AO.calm rfl 27 rfl (by decide) (eU64 (u64 (x5 + (Int.fdiv x5 (2 ^ (min (16 : Int).toNat IntKind.u64.bits)))))) (Calm.int rfl rfl rfl rfl) ?_
  obtain ⟨x6, ex6, h⟩ := of_bind h
  refine AO.calm rfl 0 rfl (by decide) (eU64 x6) (Calm.assign rfl (congrArg (fun x => some (eU64 x)) (Option.some.inj ex6))) ?_
  refine AO.nil (ρ' := [(0, (eU64 x6))]) (H' := []) ⟨rfl, trivial⟩ (Sub.refl _) ?_
  refine AW.seq ?_
  refine AW.reg ?_
  refine AO.calm rfl 28 rfl (by decide) (eU64 x6) (Calm.move rfl rfl) ?_
  refine AO.calm rfl 29 rfl (by decide) (eU64 x6) (Calm.move rfl rfl) ?_
  refine AO.calm rfl 30 rfl (by decide) (eU64 (Int.fdiv x6 (2 ^ (min (32 : Int).toNat IntKind.u64.bits)))) (Calm.shr rfl rfl rfl (by decide)) ?_
  refine AO.calm rfl 31 rfl (by decide) (eU64 (u64 (x6 + (Int.fdiv x6 (2 ^ (min (32 : Int).toNat IntKind.u64.bits)))))) (Calm.int rfl rfl rfl rfl) ?_
  obtain ⟨x7, ex7, h⟩ := of_bind h
  refine AO.calm rfl 0 rfl (by decide) (eU64 x7) (Calm.assign rfl (congrArg (fun x => some (eU64 x)) (Option.some.inj ex7))) ?_
  refine AO.nil (ρ' := [(0, (eU64 x7))]) (H' := []) ⟨rfl, trivial⟩ (Sub.refl _) ?_
  refine AW.seq ?_
  refine AW.reg ?_
  refine AO.calm rfl 32 rfl (by decide) (eU64 x7) (Calm.move rfl rfl) ?_
  refine AO.calm rfl 33 rfl (by decide) (eI64 (w64 x7)) (Calm.conv rfl rfl Tryd.underlying25 Tryd.underlying3) ?_
  refine AO.calm rfl 34 rfl (by decide) (eI64 (bits .and .i64 (w64 x7) (127 : Int))) (Calm.int rfl rfl rfl rfl) ?_
  refine AO.calm rfl 2 rfl (by decide) (eI64 (bits .and .i64 (w64 x7) (127 : Int))) (Calm.assign rfl rfl) ?_
  refine AO.nil (ρ' := [(2, (eI64 (bits .and .i64 (w64 x7) (127 : Int))))]) (H' := []) ⟨rfl, trivial⟩ (Sub.refl _) ?_
  refine AW.ret (ρ' := [(2, (eI64 (bits .and .i64 (w64 x7) (127 : Int))))]) (H' := []) ⟨rfl, trivial⟩ (Sub.refl _) ?_
  have hr := Option.some.inj h
  subst hr
  exact ⟨[(eI64 (bits .and .i64 (w64 x7) (127 : Int)))], ⟨rfl, rfl, trivial⟩, rfl⟩
end Go.Avl.TD
/- bosket/byteset.Len; printed by avmain.py. -/
namespace Go.Avl.TD
open Go Go.RowKit Go.Proofs Go.Avl
set_option linter.unusedVariables false
set_option maxRecDepth 100000
set_option maxHeartbeats 4000000
attribute [local irreducible] AW AO AQ Spec SpecH Calm

def byteset_Len_c0 (k : Nat) (x3 : Int) : Option Int :=
  some (x3)
def byteset_Len_l1 (k : Nat) (p0 : (Vector Int 4)) : Nat → Int → Int → Option Int
  | 0, _, _ => none
  | j + 1, x4, x5 =>
    if x5 < (4 : Int) then if 0 ≤ x5 ∧ x5 < (4 : Int) then (math_bits_OnesCount64 k (vget p0 x5)).bind fun t10 =>
    (byteset_Len_l1 k p0 j) (w64 (x4 + t10)) (w64 (x5 + (1 : Int)))
    else none
    else byteset_Len_c0 k x4
def byteset_Len (k : Nat) (p0 : (Vector Int 4)) : Option Int :=
  byteset_Len_l1 k p0 k (0 : Int) (0 : Int)
theorem byteset_Len_spec {k : Nat} {p0 : (Vector Int 4)} {r : Int} (h : byteset_Len k p0 = some r) : Spec Tryd.prog 18 [(.ar 1 (p0.toList.map eU64))] (eI64 r) := by
  rw [byteset_Len.eq_1] at h
  refine Spec.intro (res := [.tmp 2]) Tryd.func18 rfl rfl rfl (Nat.le_of_ble_eq_true rfl) ?_
  refine AW.seq ?_
  refine AW.reg ?_
  refine AO.box rfl 1 rfl (by decide) rfl rfl rfl fun n2 => ?_
  refine AO.calm rfl 2 rfl (by decide) (eI64 (0 : Int)) (Calm.assign rfl rfl) ?_
  refine AO.nil (ρ' := [(1, (.ptr n2 0))]) (H' := [(n2, (.mem (.ar 1 (p0.toList.map eU64))))]) ⟨rfl, trivial⟩ (Sub.refl _) ?_
  refine AW.seq ?_
  refine AW.reg ?_
  refine AO.calm rfl 3 rfl (by decide) (eI64 (0 : Int)) (Calm.assign rfl rfl) ?_
  refine AO.nil (ρ' := [(1, (.ptr n2 0)), (3, (eI64 (0 : Int)))]) (H' := [(n2, (.mem (.ar 1 (p0.toList.map eU64))))]) ⟨rfl, rfl, trivial⟩ (Sub.refl _) ?_
  refine AW.seq_mid (fun ρ H => ∃ (x3 : Int), ρ = [(3, (eI64 x3))] ∧ H = [] ∧ byteset_Len_c0 k x3 = some r) ?_ ?_
  · refine AW.seq ?_
    refine AW.reg ?_
    refine AO.calm rfl 6 rfl (by decide) (.ar 1 (p0.toList.map eU64)) (Calm.load 0 rfl rfl rfl (At.cast At.here rfl) ag27 (by rw [sz27]; simp [AV.size])) ?_
    refine AO.calm rfl 7 rfl (by decide) (eI64 (0 : Int)) (Calm.move rfl rfl) ?_
    refine AO.nil (ρ' := [(3, (eI64 (0 : Int))), (6, (.ar 1 (p0.toList.map eU64))), (7, (eI64 (0 : Int)))]) (H' := []) ⟨rfl, rfl, rfl, trivial⟩ (Sub.nil _) ?_
    refine AW.block ?_
    refine AW.weak (ρ' := [(3, (eI64 (0 : Int))), (6, (.ar 1 (p0.toList.map eU64))), (7, (eI64 (0 : Int)))]) (H' := []) ⟨rfl, rfl, rfl, trivial⟩ (Sub.refl _) ?_
    refine AW.loop (fun kq ρ H => ∃ (x4 : Int) (x5 : Int), ρ = [(3, (eI64 x4)), (6, (.ar 1 (p0.toList.map eU64))), (7, (eI64 x5))] ∧ H = [] ∧ byteset_Len_l1 k p0 kq x4 x5 = some r) k ⟨(0 : Int), (0 : Int), rfl, rfl, h⟩ ?_
    rintro kq7 _ _ ⟨x4, x5, rfl, rfl, h⟩
    cases kq7 with
    | zero => rw [byteset_Len_l1.eq_1] at h; cases h
    | succ kq7 =>
    rw [byteset_Len_l1.eq_2] at h
    generalize hrec6 : byteset_Len_l1 k p0 kq7 = rec6 at h
    refine AW.seq ?_
    refine AW.reg ?_
    refine AO.calm rfl 8 rfl (by decide) (eBool (decide (x5 < (4 : Int)))) (Calm.int rfl rfl rfl rfl) ?_
    refine AO.nil (ρ' := [(3, (eI64 x4)), (6, (.ar 1 (p0.toList.map eU64))), (7, (eI64 x5)), (8, (eBool (decide (x5 < (4 : Int)))))]) (H' := []) ⟨rfl, rfl, rfl, rfl, trivial⟩ (Sub.refl _) ?_
    refine AW.seq ?_
    by_cases hc8 : x5 < (4 : Int)
    · have h := (if_pos hc8).symm.trans h
      refine AW.condP (x5 < (4 : Int)) rfl hc8 ?_
      refine AW.skip (ρ' := [(3, (eI64 x4)), (6, (.ar 1 (p0.toList.map eU64))), (7, (eI64 x5))]) (H' := []) ⟨rfl, rfl, rfl, trivial⟩ (Sub.refl _) ?_
      refine AW.seq ?_
      refine AW.block ?_
      refine AW.seq ?_
      refine AW.reg ?_
      obtain ⟨hg9, h⟩ := of_guard h
      refine AO.calm rfl 9 rfl (by decide) (eU64 (vget p0 x5)) (Calm.idxVv (f := eU64) rfl rfl rfl hg9 Tryd.underlying27 sz25 ag25 rfl) ?_
      refine AO.calm rfl 5 rfl (by decide) (eU64 (vget p0 x5)) (Calm.assign rfl rfl) ?_
      refine AO.nil (ρ' := [(3, (eI64 x4)), (5, (eU64 (vget p0 x5))), (6, (.ar 1 (p0.toList.map eU64))), (7, (eI64 x5))]) (H' := []) ⟨rfl, rfl, rfl, rfl, trivial⟩ (Sub.refl _) ?_
      refine AW.reg ?_
      refine AO.calm rfl 10 rfl (by decide) (eI64 x4) (Calm.move rfl rfl) ?_
      refine AO.calm rfl 11 rfl (by decide) (eU64 (vget p0 x5)) (Calm.move rfl rfl) ?_
      obtain ⟨t10, et10, h⟩ := of_bind h
      refine AO.callS [(eU64 (vget p0 x5))] (eI64 t10) 12 rfl (by decide) ok30 rfl rfl rfl ⟨rfl, rfl, trivial⟩ (math_bits_OnesCount64_spec et10) ?_
      refine AO.calm rfl 13 rfl (by decide) (eI64 (w64 (x4 + t10))) (Calm.int rfl rfl rfl rfl) ?_
      refine AO.calm rfl 3 rfl (by decide) (eI64 (w64 (x4 + t10))) (Calm.assign rfl rfl) ?_
      refine AO.nil (ρ' := [(3, (eI64 (w64 (x4 + t10)))), (6, (.ar 1 (p0.toList.map eU64))), (7, (eI64 x5))]) (H' := []) ⟨rfl, rfl, rfl, trivial⟩ (Sub.refl _) ?_
      refine AW.reg ?_
      refine AO.calm rfl 14 rfl (by decide) (eI64 (w64 (x5 + (1 : Int)))) (Calm.int rfl rfl rfl rfl) ?_
      refine AO.calm rfl 7 rfl (by decide) (eI64 (w64 (x5 + (1 : Int)))) (Calm.move rfl rfl) ?_
      refine AO.nil (ρ' := [(3, (eI64 (w64 (x4 + t10)))), (6, (.ar 1 (p0.toList.map eU64))), (7, (eI64 (w64 (x5 + (1 : Int)))))]) (H' := []) ⟨rfl, rfl, rfl, trivial⟩ (Sub.refl _) ?_
      exact ⟨kq7, Nat.lt_succ_self _, (w64 (x4 + t10)), (w64 (x5 + (1 : Int))), rfl, rfl, by rw [hrec6]; exact h⟩
    · have h := (if_neg hc8).symm.trans h
      refine AW.condN (x5 < (4 : Int)) rfl hc8 ?_
      refine AW.exit (ρ' := [(3, (eI64 x4))]) (H' := []) ⟨rfl, trivial⟩ (Sub.refl _) ?_
      exact ⟨x4, rfl, rfl, h⟩
  · rintro _ _ ⟨x3, rfl, rfl, h⟩
    rw [byteset_Len_c0.eq_1] at h
    refine AW.seq ?_
    refine AW.reg ?_
    refine AO.calm rfl 15 rfl (by decide) (eI64 x3) (Calm.move rfl rfl) ?_
    refine AO.calm rfl 2 rfl (by decide) (eI64 x3) (Calm.assign rfl rfl) ?_
    refine AO.nil (ρ' := [(2, (eI64 x3))]) (H' := []) ⟨rfl, trivial⟩ (Sub.refl _) ?_
    refine AW.ret (ρ' := [(2, (eI64 x3))]) (H' := []) ⟨rfl, trivial⟩ (Sub.refl _) ?_
    have hr := Option.some.inj h
    subst hr
    exact ⟨[(eI64 x3)], ⟨rfl, rfl, trivial⟩, rfl⟩
end Go.Avl.TD
/- bosket/bosketref02.Of; printed by avmain.py. -/
namespace Go.Avl.TD
open Go Go.RowKit Go.Proofs Go.Avl
set_option linter.unusedVariables false
set_option maxRecDepth 100000
set_option maxHeartbeats 4000000
attribute [local irreducible] AW AO AQ Spec SpecH Calm

def bosketref02_Of_c0 (k : Nat) (x4 : (Vector Int 4)) : Option (Vector Int 4) :=
  some (x4)
def bosketref02_Of_c1 (k : Nat) (rec7 : ((Vector Int 4) → Int → Option (Vector Int 4))) (x6 : Int) (x13 : (Vector Int 4)) : Option (Vector Int 4) :=
  rec7 x13 (w64 (x6 + (1 : Int)))
def bosketref02_Of_l2 (k : Nat) (p0 : (List Bool)) : Nat → (Vector Int 4) → Int → Option (Vector Int 4)
  | 0, _, _ => none
  | j + 1, x5, x6 =>
    Option.bind (α := Bool) (if x6 < (256 : Int) then some (decide (x6 < (p0.length : Int)))
    else some (false)) fun b9 =>
    if b9 = true then if 0 ≤ x6 ∧ x6 < (p0.length : Int) then if (lget p0 x6) = true then if 0 ≤ (IntKind.i64.wrap (x6.tdiv (64 : Int))) ∧ (IntKind.i64.wrap (x6.tdiv (64 : Int))) < (4 : Int) then if 0 ≤ (u64 (x6.tmod (64 : Int))) then if 0 ≤ (IntKind.i64.wrap (x6.tdiv (64 : Int))) ∧ (IntKind.i64.wrap (x6.tdiv (64 : Int))) < (4 : Int) then bosketref02_Of_c1 k (bosketref02_Of_l2 k p0 j) x6 (vset x5 (IntKind.i64.wrap (x6.tdiv (64 : Int))) (u64 ((vget x5 (IntKind.i64.wrap (x6.tdiv (64 : Int)))) + (IntKind.u64.wrap ((1 : Int) * 2 ^ (min (u64 (x6.tmod (64 : Int))).toNat IntKind.u64.bits))))))
    else none
    else none
    else none
    else bosketref02_Of_c1 k (bosketref02_Of_l2 k p0 j) x6 x5
    else none
    else bosketref02_Of_c0 k x5
def bosketref02_Of (k : Nat) (p0 : (List Bool)) : Option (Vector Int 4) :=
  bosketref02_Of_l2 k p0 k (Vector.replicate 4 (0 : Int)) (0 : Int)
theorem bosketref02_Of_spec {k : Nat} {p0 : (List Bool)} {r : (Vector Int 4)} (h : bosketref02_Of k p0 = some r) : Spec Tryd.prog 9 [(.fz 1 (p0.map eBool))] (e27 r) := by
  rw [bosketref02_Of.eq_1] at h
  refine Spec.intro (res := [.cell 2 27]) Tryd.func9 rfl rfl rfl (Nat.le_of_ble_eq_true rfl) ?_
  refine AW.seq ?_
  refine AW.reg ?_
  refine AO.alloc rfl 2 rfl (by decide) rfl zr27 lay27 fun n2 => ?_
  refine AO.nil (ρ' := [(0, (.fz 1 (p0.map eBool))), (2, (.ptr n2 0))]) (H' := [(n2, (.mem (.ar 1 ((Vector.replicate 4 (0 : Int)).toList.map eU64))))]) ⟨rfl, rfl, trivial⟩ (Sub.refl _) ?_
  refine AW.seq ?_
  refine AW.reg ?_
  refine AO.alloc rfl 3 rfl (by decide) rfl zr27 lay27 fun n3 => ?_
  refine AO.nil (ρ' := [(0, (.fz 1 (p0.map eBool))), (2, (.ptr n2 0)), (3, (.ptr n3 0))]) (H' := [(n2, (.mem (.ar 1 ((Vector.replicate 4 (0 : Int)).toList.map eU64)))), (n3, (.mem (.ar 1 ((Vector.replicate 4 (0 : Int)).toList.map eU64))))]) ⟨rfl, rfl, rfl, trivial⟩ (Sub.cons 1 rfl (Sub.cons 0 rfl (Sub.nil _))) ?_
  refine AW.seq_mid (fun ρ H => ∃ (x4 : (Vector Int 4)), ρ = [(2, (.ptr n2 0)), (3, (.ptr n3 0))] ∧ H = [(n2, (.mem (.ar 1 ((Vector.replicate 4 (0 : Int)).toList.map eU64)))), (n3, (.mem (.ar 1 (x4.toList.map eU64))))] ∧ bosketref02_Of_c0 k x4 = some r) ?_ ?_
  · refine AW.seq ?_
    refine AW.reg ?_
    refine AO.calm rfl 4 rfl (by decide) (eI64 (0 : Int)) (Calm.assign rfl rfl) ?_
    refine AO.nil (ρ' := [(0, (.fz 1 (p0.map eBool))), (2, (.ptr n2 0)), (3, (.ptr n3 0)), (4, (eI64 (0 : Int)))]) (H' := [(n2, (.mem (.ar 1 ((Vector.replicate 4 (0 : Int)).toList.map eU64)))), (n3, (.mem (.ar 1 ((Vector.replicate 4 (0 : Int)).toList.map eU64))))]) ⟨rfl, rfl, rfl, rfl, trivial⟩ (Sub.refl _) ?_
    refine AW.block ?_
    refine AW.weak (ρ' := [(0, (.fz 1 (p0.map eBool))), (2, (.ptr n2 0)), (3, (.ptr n3 0)), (4, (eI64 (0 : Int)))]) (H' := [(n2, (.mem (.ar 1 ((Vector.replicate 4 (0 : Int)).toList.map eU64)))), (n3, (.mem (.ar 1 ((Vector.replicate 4 (0 : Int)).toList.map eU64))))]) ⟨rfl, rfl, rfl, rfl, trivial⟩ (Sub.refl _) ?_
    refine AW.loop (fun kq ρ H => ∃ (x5 : (Vector Int 4)) (x6 : Int), ρ = [(0, (.fz 1 (p0.map eBool))), (2, (.ptr n2 0)), (3, (.ptr n3 0)), (4, (eI64 x6))] ∧ H = [(n2, (.mem (.ar 1 ((Vector.replicate 4 (0 : Int)).toList.map eU64)))), (n3, (.mem (.ar 1 (x5.toList.map eU64))))] ∧ bosketref02_Of_l2 k p0 kq x5 x6 = some r) k ⟨(Vector.replicate 4 (0 : Int)), (0 : Int), rfl, rfl, h⟩ ?_
    rintro kq8 _ _ ⟨x5, x6, rfl, rfl, h⟩
    cases kq8 with
    | zero => rw [bosketref02_Of_l2.eq_1] at h; cases h
    | succ kq8 =>
    rw [bosketref02_Of_l2.eq_2] at h
    generalize hrec7 : bosketref02_Of_l2 k p0 kq8 = rec7 at h
    refine AW.seq ?_
    refine AW.seq ?_
    obtain ⟨b9, hq10, h⟩ := of_bind h
    refine AW.regM [(0, (.fz 1 (p0.map eBool))), (2, (.ptr n2 0)), (3, (.ptr n3 0)), (4, (eI64 x6)), (12, (eBool b9))] [(n2, (.mem (.ar 1 ((Vector.replicate 4 (0 : Int)).toList.map eU64)))), (n3, (.mem (.ar 1 (x5.toList.map eU64))))] ?_ ?_
    · refine AO.calm rfl 5 rfl (by decide) (eI64 x6) (Calm.move rfl rfl) ?_
      refine AO.calm rfl 6 rfl (by decide) (eBool (decide (x6 < (256 : Int)))) (Calm.int rfl rfl rfl rfl) ?_
      refine AO.calm rfl 7 rfl (by decide) (eBool (decide (x6 < (256 : Int)))) (Calm.move rfl rfl) ?_
      by_cases hc11 : x6 < (256 : Int)
      · have hq10 := (if_pos hc11).symm.trans hq10
        refine AO.calmG 2 true 7 rfl rfl (congrArg (fun b => some (AV.fl (Value.bool b))) (decide_eq_true hc11)) 8 rfl (by decide) (eI64 x6) (Calm.move rfl rfl) ?_
        refine AO.calmG 2 true 7 rfl rfl (congrArg (fun b => some (AV.fl (Value.bool b))) (decide_eq_true hc11)) 9 rfl (by decide) (.fz 1 (p0.map eBool)) (Calm.move rfl rfl) ?_
        refine AO.calmG 2 true 7 rfl rfl (congrArg (fun b => some (AV.fl (Value.bool b))) (decide_eq_true hc11)) 10 rfl (by decide) (eI64 (p0.length : Int)) (Calm.lenL rfl rfl Tryd.underlying24) ?_
        refine AO.calmG 2 true 7 rfl rfl (congrArg (fun b => some (AV.fl (Value.bool b))) (decide_eq_true hc11)) 11 rfl (by decide) (eBool (decide (x6 < (p0.length : Int)))) (Calm.int rfl rfl rfl rfl) ?_
        refine AO.calm rfl 12 rfl (by decide) (eBool (decide (x6 < (p0.length : Int)))) (Calm.pickT rfl (congrArg (fun b => some (AV.fl (Value.bool b))) (decide_eq_true hc11)) rfl) ?_
        cases hq10
        refine AO.nilE ⟨rfl, rfl⟩ ?_ ?_
        · exact ⟨rfl, rfl, rfl, rfl, rfl, trivial⟩
        · exact (Sub.refl _)
      · have hq10 := (if_neg hc11).symm.trans hq10
        refine AO.skipG 2 false 7 rfl rfl (congrArg (fun b => some (AV.fl (Value.bool b))) (decide_eq_false hc11)) 8 rfl (by decide) ?_
        refine AO.skipG 2 false 7 rfl rfl (congrArg (fun b => some (AV.fl (Value.bool b))) (decide_eq_false hc11)) 9 rfl (by decide) ?_
        refine AO.skipG 2 false 7 rfl rfl (congrArg (fun b => some (AV.fl (Value.bool b))) (decide_eq_false hc11)) 10 rfl (by decide) ?_
        refine AO.skipG 2 false 7 rfl rfl (congrArg (fun b => some (AV.fl (Value.bool b))) (decide_eq_false hc11)) 11 rfl (by decide) ?_
        refine AO.calm rfl 12 rfl (by decide) (eBool false) (Calm.pickF rfl (congrArg (fun b => some (AV.fl (Value.bool b))) (decide_eq_false hc11)) rfl) ?_
        cases hq10
        refine AO.nilE ⟨rfl, rfl⟩ ?_ ?_
        · exact ⟨rfl, rfl, rfl, rfl, rfl, trivial⟩
        · exact (Sub.refl _)
    · by_cases hc12 : b9 = true
      · have h := (if_pos hc12).symm.trans h
        refine AW.condT' b9 rfl hc12 ?_
        refine AW.skip (ρ' := [(0, (.fz 1 (p0.map eBool))), (2, (.ptr n2 0)), (3, (.ptr n3 0)), (4, (eI64 x6))]) (H' := [(n2, (.mem (.ar 1 ((Vector.replicate 4 (0 : Int)).toList.map eU64)))), (n3, (.mem (.ar 1 (x5.toList.map eU64))))]) ⟨rfl, rfl, rfl, rfl, trivial⟩ (Sub.refl _) ?_
        refine AW.seq_mid (fun ρ H => ∃ (x13 : (Vector Int 4)), ρ = [(0, (.fz 1 (p0.map eBool))), (2, (.ptr n2 0)), (3, (.ptr n3 0)), (4, (eI64 x6))] ∧ H = [(n2, (.mem (.ar 1 ((Vector.replicate 4 (0 : Int)).toList.map eU64)))), (n3, (.mem (.ar 1 (x13.toList.map eU64))))] ∧ bosketref02_Of_c1 k rec7 x6 x13 = some r) ?_ ?_
        · refine AW.block ?_
          refine AW.seq ?_
          refine AW.reg ?_
          refine AO.calm rfl 15 rfl (by decide) (.fz 1 (p0.map eBool)) (Calm.move rfl rfl) ?_
          refine AO.calm rfl 16 rfl (by decide) (eI64 x6) (Calm.move rfl rfl) ?_
          obtain ⟨hg14, h⟩ := of_guard h
          refine AO.calm rfl 17 rfl (by decide) (.rp (eBool (lget p0 x6))) (Calm.idxL (f := eBool) rfl rfl rfl hg14 Tryd.underlying24 sz4) ?_
          refine AO.calm rfl 18 rfl (by decide) (eBool (lget p0 x6)) (Calm.loadRp rfl rfl ag4 sz4) ?_
          refine AO.nil (ρ' := [(0, (.fz 1 (p0.map eBool))), (2, (.ptr n2 0)), (3, (.ptr n3 0)), (4, (eI64 x6)), (18, (eBool (lget p0 x6)))]) (H' := [(n2, (.mem (.ar 1 ((Vector.replicate 4 (0 : Int)).toList.map eU64)))), (n3, (.mem (.ar 1 (x5.toList.map eU64))))]) ⟨rfl, rfl, rfl, rfl, rfl, trivial⟩ (Sub.refl _) ?_
          by_cases hc15 : (lget p0 x6) = true
          · have h := (if_pos hc15).symm.trans h
            refine AW.condT' (lget p0 x6) rfl hc15 ?_
            refine AW.reg ?_
            refine AO.calm rfl 19 rfl (by decide) (eI64 x6) (Calm.move rfl rfl) ?_
            refine AO.calm rfl 20 rfl (by decide) (eI64 (IntKind.i64.wrap (x6.tdiv (64 : Int)))) (Calm.quo rfl rfl rfl (by decide)) ?_
            refine AO.calm rfl 21 rfl (by decide) (eI64 x6) (Calm.move rfl rfl) ?_
            refine AO.calm rfl 22 rfl (by decide) (eI64 (IntKind.i64.wrap (x6.tdiv (64 : Int)))) (Calm.quo rfl rfl rfl (by decide)) ?_
            obtain ⟨hg16, h⟩ := of_guard h
            refine AO.calm rfl 23 rfl (by decide) (.ptr n3 (0 + (IntKind.i64.wrap (x6.tdiv (64 : Int))).toNat * 1)) (Calm.idxP rfl rfl rfl hg16 Tryd.underlying27 sz25) ?_
            refine AO.calm rfl 24 rfl (by decide) (eU64 (vget x5 (IntKind.i64.wrap (x6.tdiv (64 : Int))))) (Calm.load 1 rfl rfl rfl (At.cast (At.vidx (IntKind.i64.wrap (x6.tdiv (64 : Int))) hg16.1 hg16.2 At.here) (by omega)) ag25 sz25) ?_
            refine AO.calm rfl 25 rfl (by decide) (eI64 x6) (Calm.move rfl rfl) ?_
            refine AO.calm rfl 26 rfl (by decide) (eI64 (x6.tmod (64 : Int))) (Calm.rem rfl rfl rfl (by decide)) ?_
            refine AO.calm rfl 27 rfl (by decide) (eU64 (u64 (x6.tmod (64 : Int)))) (Calm.conv rfl rfl Tryd.underlying3 Tryd.underlying52) ?_
            obtain ⟨hg17, h⟩ := of_guard h
            refine AO.calm rfl 28 rfl (by decide) (eU64 (IntKind.u64.wrap ((1 : Int) * 2 ^ (min (u64 (x6.tmod (64 : Int))).toNat IntKind.u64.bits)))) (Calm.shl rfl rfl rfl hg17) ?_
            refine AO.calm rfl 29 rfl (by decide) (eU64 (u64 ((vget x5 (IntKind.i64.wrap (x6.tdiv (64 : Int)))) + (IntKind.u64.wrap ((1 : Int) * 2 ^ (min (u64 (x6.tmod (64 : Int))).toNat IntKind.u64.bits)))))) (Calm.int rfl rfl rfl rfl) ?_
            obtain ⟨hg18, h⟩ := of_guard h
            refine AO.calm rfl 30 rfl (by decide) (.ptr n3 (0 + (IntKind.i64.wrap (x6.tdiv (64 : Int))).toNat * 1)) (Calm.idxP rfl rfl rfl hg18 Tryd.underlying27 sz25) ?_
            refine AO.store (X' := (.ar 1 ((vset x5 (IntKind.i64.wrap (x6.tdiv (64 : Int))) (u64 ((vget x5 (IntKind.i64.wrap (x6.tdiv (64 : Int)))) + (IntKind.u64.wrap ((1 : Int) * 2 ^ (min (u64 (x6.tmod (64 : Int))).toNat IntKind.u64.bits)))))).toList.map eU64))) 1 rfl rfl rfl rfl rfl rfl (Put.cast (Put.vidx (IntKind.i64.wrap (x6.tdiv (64 : Int))) (u64 ((vget x5 (IntKind.i64.wrap (x6.tdiv (64 : Int)))) + (IntKind.u64.wrap ((1 : Int) * 2 ^ (min (u64 (x6.tmod (64 : Int))).toNat IntKind.u64.bits))))) hg18.1 hg18.2 Put.here) (by omega)) rfl rfl sz25 rfl ?_
            refine AO.nil (ρ' := [(0, (.fz 1 (p0.map eBool))), (2, (.ptr n2 0)), (3, (.ptr n3 0)), (4, (eI64 x6))]) (H' := [(n2, (.mem (.ar 1 ((Vector.replicate 4 (0 : Int)).toList.map eU64)))), (n3, (.mem (.ar 1 ((vset x5 (IntKind.i64.wrap (x6.tdiv (64 : Int))) (u64 ((vget x5 (IntKind.i64.wrap (x6.tdiv (64 : Int)))) + (IntKind.u64.wrap ((1 : Int) * 2 ^ (min (u64 (x6.tmod (64 : Int))).toNat IntKind.u64.bits)))))).toList.map eU64))))]) ⟨rfl, rfl, rfl, rfl, trivial⟩ (Sub.refl _) ?_
            exact ⟨(vset x5 (IntKind.i64.wrap (x6.tdiv (64 : Int))) (u64 ((vget x5 (IntKind.i64.wrap (x6.tdiv (64 : Int)))) + (IntKind.u64.wrap ((1 : Int) * 2 ^ (min (u64 (x6.tmod (64 : Int))).toNat IntKind.u64.bits)))))), rfl, rfl, h⟩
          · have h := (if_neg hc15).symm.trans h
            refine AW.condF' (lget p0 x6) rfl hc15 ?_
            refine AW.skip (ρ' := [(0, (.fz 1 (p0.map eBool))), (2, (.ptr n2 0)), (3, (.ptr n3 0)), (4, (eI64 x6))]) (H' := [(n2, (.mem (.ar 1 ((Vector.replicate 4 (0 : Int)).toList.map eU64)))), (n3, (.mem (.ar 1 (x5.toList.map eU64))))]) ⟨rfl, rfl, rfl, rfl, trivial⟩ (Sub.refl _) ?_
            exact ⟨x5, rfl, rfl, h⟩
        · rintro _ _ ⟨x13, rfl, rfl, h⟩
          rw [bosketref02_Of_c1.eq_1] at h
          refine AW.reg ?_
          refine AO.calm rfl 13 rfl (by decide) (eI64 x6) (Calm.move rfl rfl) ?_
          refine AO.calm rfl 14 rfl (by decide) (eI64 (w64 (x6 + (1 : Int)))) (Calm.int rfl rfl rfl rfl) ?_
          refine AO.calm rfl 4 rfl (by decide) (eI64 (w64 (x6 + (1 : Int)))) (Calm.assign rfl rfl) ?_
          refine AO.nil (ρ' := [(0, (.fz 1 (p0.map eBool))), (2, (.ptr n2 0)), (3, (.ptr n3 0)), (4, (eI64 (w64 (x6 + (1 : Int)))))]) (H' := [(n2, (.mem (.ar 1 ((Vector.replicate 4 (0 : Int)).toList.map eU64)))), (n3, (.mem (.ar 1 (x13.toList.map eU64))))]) ⟨rfl, rfl, rfl, rfl, trivial⟩ (Sub.refl _) ?_
          exact ⟨kq8, Nat.lt_succ_self _, x13, (w64 (x6 + (1 : Int))), rfl, rfl, by rw [hrec7]; exact h⟩
      · have h := (if_neg hc12).symm.trans h
        refine AW.condF' b9 rfl hc12 ?_
        refine AW.exit (ρ' := [(2, (.ptr n2 0)), (3, (.ptr n3 0))]) (H' := [(n2, (.mem (.ar 1 ((Vector.replicate 4 (0 : Int)).toList.map eU64)))), (n3, (.mem (.ar 1 (x5.toList.map eU64))))]) ⟨rfl, rfl, trivial⟩ (Sub.refl _) ?_
        exact ⟨x5, rfl, rfl, h⟩
  · rintro _ _ ⟨x4, rfl, rfl, h⟩
    rw [bosketref02_Of_c0.eq_1] at h
    refine AW.seq ?_
    refine AW.reg ?_
    refine AO.calm rfl 31 rfl (by decide) (.ar 1 (x4.toList.map eU64)) (Calm.load 1 rfl rfl rfl (At.cast At.here rfl) ag27 (by rw [sz27]; simp [AV.size])) ?_
    refine AO.store (X' := (.ar 1 (x4.toList.map eU64))) 0 rfl rfl rfl rfl rfl rfl (Put.cast Put.here rfl) rfl (by simp [AV.size]) (by rw [sz27]; simp [AV.size]) rfl ?_
    refine AO.nil (ρ' := [(2, (.ptr n2 0))]) (H' := [(n2, (.mem (.ar 1 (x4.toList.map eU64))))]) ⟨rfl, trivial⟩ (Sub.cons 0 rfl (Sub.nil _)) ?_
    refine AW.ret (ρ' := [(2, (.ptr n2 0))]) (H' := [(n2, (.mem (.ar 1 (x4.toList.map eU64))))]) ⟨rfl, trivial⟩ (Sub.refl _) ?_
    have hr := Option.some.inj h
    subst hr
    exact ⟨[(.ar 1 (x4.toList.map eU64))], ⟨⟨_, 0, rfl, rfl, ag27, (by rw [sz27]; simp [AV.size])⟩, trivial⟩, rfl⟩
end Go.Avl.TD
/- bosket/bosketref02.Has; printed by avmain.py. -/
namespace Go.Avl.TD
open Go Go.RowKit Go.Proofs Go.Avl
set_option linter.unusedVariables false
set_option maxRecDepth 100000
set_option maxHeartbeats 4000000
attribute [local irreducible] AW AO AQ Spec SpecH Calm

def bosketref02_Has_c0 (k : Nat) (x5 : Int) : Option Bool :=
  some (decide ((x5.tmod (2 : Int)) = (1 : Int)))
def bosketref02_Has_l1 (k : Nat) (p1 : Int) : Nat → Int → Int → Option Bool
  | 0, _, _ => none
  | j + 1, x6, x7 =>
    if x7 < (p1.tmod (64 : Int)) then (bosketref02_Has_l1 k p1 j) (IntKind.u64.wrap (x6.tdiv (2 : Int))) (w64 (x7 + (1 : Int)))
    else bosketref02_Has_c0 k x6
def bosketref02_Has (k : Nat) (p0 : (Vector Int 4)) (p1 : Int) : Option Bool :=
  if 0 ≤ (IntKind.i64.wrap (p1.tdiv (64 : Int))) ∧ (IntKind.i64.wrap (p1.tdiv (64 : Int))) < (4 : Int) then bosketref02_Has_l1 k p1 k (vget p0 (IntKind.i64.wrap (p1.tdiv (64 : Int)))) (0 : Int)
  else none
theorem bosketref02_Has_spec {k : Nat} {p0 : (Vector Int 4)} {p1 : Int} {r : Bool} (h : bosketref02_Has k p0 p1 = some r) : Spec Tryd.prog 22 [(.ar 1 (p0.toList.map eU64)), (eI64 p1)] (eBool r) := by
  rw [bosketref02_Has.eq_1] at h
  refine Spec.intro (res := [.tmp 4]) Tryd.func22 rfl rfl rfl (Nat.le_of_ble_eq_true rfl) ?_
  refine AW.seq ?_
  refine AW.reg ?_
  refine AO.box rfl 2 rfl (by decide) rfl rfl rfl fun n3 => ?_
  refine AO.calm rfl 4 rfl (by decide) (eBool false) (Calm.assign rfl rfl) ?_
  refine AO.nil (ρ' := [(1, (eI64 p1)), (2, (.ptr n3 0))]) (H' := [(n3, (.mem (.ar 1 (p0.toList.map eU64))))]) ⟨rfl, rfl, trivial⟩ (Sub.refl _) ?_
  refine AW.seq ?_
  refine AW.reg ?_
  refine AO.calm rfl 7 rfl (by decide) (eI64 p1) (Calm.move rfl rfl) ?_
  refine AO.calm rfl 8 rfl (by decide) (eI64 (IntKind.i64.wrap (p1.tdiv (64 : Int)))) (Calm.quo rfl rfl rfl (by decide)) ?_
  obtain ⟨hg4, h⟩ := of_guard h
  refine AO.calm rfl 9 rfl (by decide) (.ptr n3 (0 + (IntKind.i64.wrap (p1.tdiv (64 : Int))).toNat * 1)) (Calm.idxP rfl rfl rfl hg4 Tryd.underlying27 sz25) ?_
  refine AO.calm rfl 10 rfl (by decide) (eU64 (vget p0 (IntKind.i64.wrap (p1.tdiv (64 : Int))))) (Calm.load 0 rfl rfl rfl (At.cast (At.vidx (IntKind.i64.wrap (p1.tdiv (64 : Int))) hg4.1 hg4.2 At.here) (by omega)) ag25 sz25) ?_
  refine AO.calm rfl 5 rfl (by decide) (eU64 (vget p0 (IntKind.i64.wrap (p1.tdiv (64 : Int))))) (Calm.assign rfl rfl) ?_
  refine AO.nil (ρ' := [(1, (eI64 p1)), (5, (eU64 (vget p0 (IntKind.i64.wrap (p1.tdiv (64 : Int))))))]) (H' := []) ⟨rfl, rfl, trivial⟩ (Sub.nil _) ?_
  refine AW.seq_mid (fun ρ H => ∃ (x5 : Int), ρ = [(5, (eU64 x5))] ∧ H = [] ∧ bosketref02_Has_c0 k x5 = some r) ?_ ?_
  · refine AW.seq ?_
    refine AW.reg ?_
    refine AO.calm rfl 6 rfl (by decide) (eI64 (0 : Int)) (Calm.assign rfl rfl) ?_
    refine AO.nil (ρ' := [(1, (eI64 p1)), (5, (eU64 (vget p0 (IntKind.i64.wrap (p1.tdiv (64 : Int)))))), (6, (eI64 (0 : Int)))]) (H' := []) ⟨rfl, rfl, rfl, trivial⟩ (Sub.refl _) ?_
    refine AW.block ?_
    refine AW.weak (ρ' := [(1, (eI64 p1)), (5, (eU64 (vget p0 (IntKind.i64.wrap (p1.tdiv (64 : Int)))))), (6, (eI64 (0 : Int)))]) (H' := []) ⟨rfl, rfl, rfl, trivial⟩ (Sub.refl _) ?_
    refine AW.loop (fun kq ρ H => ∃ (x6 : Int) (x7 : Int), ρ = [(1, (eI64 p1)), (5, (eU64 x6)), (6, (eI64 x7))] ∧ H = [] ∧ bosketref02_Has_l1 k p1 kq x6 x7 = some r) k ⟨(vget p0 (IntKind.i64.wrap (p1.tdiv (64 : Int)))), (0 : Int), rfl, rfl, h⟩ ?_
    rintro kq9 _ _ ⟨x6, x7, rfl, rfl, h⟩
    cases kq9 with
    | zero => rw [bosketref02_Has_l1.eq_1] at h; cases h
    | succ kq9 =>
    rw [bosketref02_Has_l1.eq_2] at h
    generalize hrec8 : bosketref02_Has_l1 k p1 kq9 = rec8 at h
    refine AW.seq ?_
    refine AW.seq ?_
    refine AW.reg ?_
    refine AO.calm rfl 11 rfl (by decide) (eI64 x7) (Calm.move rfl rfl) ?_
    refine AO.calm rfl 12 rfl (by decide) (eI64 p1) (Calm.move rfl rfl) ?_
    refine AO.calm rfl 13 rfl (by decide) (eI64 (p1.tmod (64 : Int))) (Calm.rem rfl rfl rfl (by decide)) ?_
    refine AO.calm rfl 14 rfl (by decide) (eBool (decide (x7 < (p1.tmod (64 : Int))))) (Calm.int rfl rfl rfl rfl) ?_
    refine AO.nil (ρ' := [(1, (eI64 p1)), (5, (eU64 x6)), (6, (eI64 x7)), (14, (eBool (decide (x7 < (p1.tmod (64 : Int))))))]) (H' := []) ⟨rfl, rfl, rfl, rfl, trivial⟩ (Sub.refl _) ?_
    by_cases hc10 : x7 < (p1.tmod (64 : Int))
    · have h := (if_pos hc10).symm.trans h
      refine AW.condP (x7 < (p1.tmod (64 : Int))) rfl hc10 ?_
      refine AW.skip (ρ' := [(1, (eI64 p1)), (5, (eU64 x6)), (6, (eI64 x7))]) (H' := []) ⟨rfl, rfl, rfl, trivial⟩ (Sub.refl _) ?_
      refine AW.seq ?_
      refine AW.block ?_
      refine AW.reg ?_
      refine AO.calm rfl 17 rfl (by decide) (eU64 x6) (Calm.move rfl rfl) ?_
      refine AO.calm rfl 18 rfl (by decide) (eU64 (IntKind.u64.wrap (x6.tdiv (2 : Int)))) (Calm.quo rfl rfl rfl (by decide)) ?_
      refine AO.calm rfl 5 rfl (by decide) (eU64 (IntKind.u64.wrap (x6.tdiv (2 : Int)))) (Calm.assign rfl rfl) ?_
      refine AO.nil (ρ' := [(1, (eI64 p1)), (5, (eU64 (IntKind.u64.wrap (x6.tdiv (2 : Int))))), (6, (eI64 x7))]) (H' := []) ⟨rfl, rfl, rfl, trivial⟩ (Sub.refl _) ?_
      refine AW.reg ?_
      refine AO.calm rfl 15 rfl (by decide) (eI64 x7) (Calm.move rfl rfl) ?_
      refine AO.calm rfl 16 rfl (by decide) (eI64 (w64 (x7 + (1 : Int)))) (Calm.int rfl rfl rfl rfl) ?_
      refine AO.calm rfl 6 rfl (by decide) (eI64 (w64 (x7 + (1 : Int)))) (Calm.assign rfl rfl) ?_
      refine AO.nil (ρ' := [(1, (eI64 p1)), (5, (eU64 (IntKind.u64.wrap (x6.tdiv (2 : Int))))), (6, (eI64 (w64 (x7 + (1 : Int)))))]) (H' := []) ⟨rfl, rfl, rfl, trivial⟩ (Sub.refl _) ?_
      exact ⟨kq9, Nat.lt_succ_self _, (IntKind.u64.wrap (x6.tdiv (2 : Int))), (w64 (x7 + (1 : Int))), rfl, rfl, by rw [hrec8]; exact h⟩
    · have h := (if_neg hc10).symm.trans h
      refine AW.condN (x7 < (p1.tmod (64 : Int))) rfl hc10 ?_
      refine AW.exit (ρ' := [(5, (eU64 x6))]) (H' := []) ⟨rfl, trivial⟩ (Sub.refl _) ?_
      exact ⟨x6, rfl, rfl, h⟩
  · rintro _ _ ⟨x5, rfl, rfl, h⟩
    rw [bosketref02_Has_c0.eq_1] at h
    refine AW.seq ?_
    refine AW.reg ?_
    refine AO.calm rfl 19 rfl (by decide) (eU64 x5) (Calm.move rfl rfl) ?_
    refine AO.calm rfl 20 rfl (by decide) (eU64 (x5.tmod (2 : Int))) (Calm.rem rfl rfl rfl (by decide)) ?_
    refine AO.calm rfl 21 rfl (by decide) (eBool (decide ((x5.tmod (2 : Int)) = (1 : Int)))) (Calm.int rfl rfl rfl rfl) ?_
    refine AO.calm rfl 4 rfl (by decide) (eBool (decide ((x5.tmod (2 : Int)) = (1 : Int)))) (Calm.assign rfl rfl) ?_
    refine AO.nil (ρ' := [(4, (eBool (decide ((x5.tmod (2 : Int)) = (1 : Int)))))]) (H' := []) ⟨rfl, trivial⟩ (Sub.refl _) ?_
    refine AW.ret (ρ' := [(4, (eBool (decide ((x5.tmod (2 : Int)) = (1 : Int)))))]) (H' := []) ⟨rfl, trivial⟩ (Sub.refl _) ?_
    have hr := Option.some.inj h
    subst hr
    exact ⟨[(eBool (decide ((x5.tmod (2 : Int)) = (1 : Int))))], ⟨rfl, rfl, trivial⟩, rfl⟩
end Go.Avl.TD
/- bosket/bosketref02.List; printed by avmain.py. -/
namespace Go.Avl.TD
open Go Go.RowKit Go.Proofs Go.Avl
set_option linter.unusedVariables false
set_option maxRecDepth 100000
set_option maxHeartbeats 4000000
attribute [local irreducible] AW AO AQ Spec SpecH Calm

def bosketref02_List_c0 (k : Nat) (x4 : (List Int)) : Option (List Int) :=
  some (x4)
def bosketref02_List_c1 (k : Nat) (rec8 : ((List Int) → Int → Option (List Int))) (x7 : Int) (x12 : (List Int)) : Option (List Int) :=
  rec8 x12 (w64 (x7 + (1 : Int)))
def bosketref02_List_l2 (k : Nat) (p0 : (Vector Int 4)) : Nat → (List Int) → Int → Option (List Int)
  | 0, _, _ => none
  | j + 1, x6, x7 =>
    if x7 < (256 : Int) then (bosketref02_Has k p0 x7).bind fun t13 =>
    if t13 = true then if (x6 ++ ([(w8 x7)] : List Int)).length * 1 ≤ 140737488355328 then bosketref02_List_c1 k (bosketref02_List_l2 k p0 j) x7 (x6 ++ ([(w8 x7)] : List Int))
    else none
    else bosketref02_List_c1 k (bosketref02_List_l2 k p0 j) x7 x6
    else bosketref02_List_c0 k x6
def bosketref02_List (k : Nat) (p0 : (Vector Int 4)) : Option (List Int) :=
  bosketref02_List_l2 k p0 k ([] : List Int) (0 : Int)
theorem bosketref02_List_spec {k : Nat} {p0 : (Vector Int 4)} {r : (List Int)} (h : bosketref02_List k p0 = some r) : Spec Tryd.prog 16 [(.ar 1 (p0.toList.map eU64))] (e22 r) := by
  rw [bosketref02_List.eq_1] at h
  refine Spec.intro (res := [.tmp 2]) Tryd.func16 rfl rfl rfl (Nat.le_of_ble_eq_true rfl) ?_
  refine AW.seq ?_
  refine AW.reg ?_
  refine AO.box rfl 1 rfl (by decide) rfl rfl rfl fun n2 => ?_
  refine AO.calm rfl 2 rfl (by decide) (.fl (.slice none 0 0)) (Calm.assign rfl rfl) ?_
  refine AO.nil (ρ' := [(1, (.ptr n2 0))]) (H' := [(n2, (.mem (.ar 1 (p0.toList.map eU64))))]) ⟨rfl, trivial⟩ (Sub.refl _) ?_
  refine AW.seq ?_
  refine AW.reg ?_
  refine AO.calm rfl 3 rfl (by decide) (.fl (.slice none 0 0)) (Calm.assign rfl rfl) ?_
  refine AO.nil (ρ' := [(1, (.ptr n2 0)), (3, (.fl (.slice none 0 0)))]) (H' := [(n2, (.mem (.ar 1 (p0.toList.map eU64))))]) ⟨rfl, rfl, trivial⟩ (Sub.refl _) ?_
  refine AW.seq_mid (fun ρ H => ∃ (n3 : Nat) (x4 : (List Int)), ρ = [(3, (.own n3 0 x4.length))] ∧ H = [(n3, (.mem (.ar 1 (x4.map eU8))))] ∧ bosketref02_List_c0 k x4 = some r) ?_ ?_
  · refine AW.seq ?_
    refine AW.reg ?_
    refine AO.calm rfl 4 rfl (by decide) (eI64 (0 : Int)) (Calm.assign rfl rfl) ?_
    refine AO.nil (ρ' := [(1, (.ptr n2 0)), (3, (.fl (.slice none 0 0))), (4, (eI64 (0 : Int)))]) (H' := [(n2, (.mem (.ar 1 (p0.toList.map eU64))))]) ⟨rfl, rfl, rfl, trivial⟩ (Sub.refl _) ?_
    refine AW.block ?_
    refine AW.nilOwn 3 1 rfl fun n18 => ?_
    refine AW.weak (ρ' := [(1, (.ptr n2 0)), (3, (.own n18 0 ([] : List Int).length)), (4, (eI64 (0 : Int)))]) (H' := [(n2, (.mem (.ar 1 (p0.toList.map eU64)))), (n18, (.mem (.ar 1 (([] : List Int).map eU8))))]) ⟨rfl, rfl, rfl, trivial⟩ (Sub.cons 1 rfl (Sub.cons 0 rfl (Sub.nil _))) ?_
    refine AW.loop (fun kq ρ H => ∃ (n5 : Nat) (x6 : (List Int)) (x7 : Int), ρ = [(1, (.ptr n2 0)), (3, (.own n5 0 x6.length)), (4, (eI64 x7))] ∧ H = [(n2, (.mem (.ar 1 (p0.toList.map eU64)))), (n5, (.mem (.ar 1 (x6.map eU8))))] ∧ bosketref02_List_l2 k p0 kq x6 x7 = some r) k ⟨n18, ([] : List Int), (0 : Int), rfl, rfl, h⟩ ?_
    rintro kq9 _ _ ⟨n5, x6, x7, rfl, rfl, h⟩
    cases kq9 with
    | zero => rw [bosketref02_List_l2.eq_1] at h; cases h
    | succ kq9 =>
    rw [bosketref02_List_l2.eq_2] at h
    generalize hrec8 : bosketref02_List_l2 k p0 kq9 = rec8 at h
    refine AW.seq ?_
    refine AW.seq ?_
    refine AW.reg ?_
    refine AO.calm rfl 5 rfl (by decide) (eI64 x7) (Calm.move rfl rfl) ?_
    refine AO.calm rfl 6 rfl (by decide) (eBool (decide (x7 < (256 : Int)))) (Calm.int rfl rfl rfl rfl) ?_
    refine AO.nil (ρ' := [(1, (.ptr n2 0)), (3, (.own n5 0 x6.length)), (4, (eI64 x7)), (6, (eBool (decide (x7 < (256 : Int)))))]) (H' := [(n2, (.mem (.ar 1 (p0.toList.map eU64)))), (n5, (.mem (.ar 1 (x6.map eU8))))]) ⟨rfl, rfl, rfl, rfl, trivial⟩ (Sub.refl _) ?_
    by_cases hc10 : x7 < (256 : Int)
    · have h := (if_pos hc10).symm.trans h
      refine AW.condP (x7 < (256 : Int)) rfl hc10 ?_
      refine AW.skip (ρ' := [(1, (.ptr n2 0)), (3, (.own n5 0 x6.length)), (4, (eI64 x7))]) (H' := [(n2, (.mem (.ar 1 (p0.toList.map eU64)))), (n5, (.mem (.ar 1 (x6.map eU8))))]) ⟨rfl, rfl, rfl, trivial⟩ (Sub.refl _) ?_
      refine AW.seq_mid (fun ρ H => ∃ (n11 : Nat) (x12 : (List Int)), ρ = [(1, (.ptr n2 0)), (3, (.own n11 0 x12.length)), (4, (eI64 x7))] ∧ H = [(n2, (.mem (.ar 1 (p0.toList.map eU64)))), (n11, (.mem (.ar 1 (x12.map eU8))))] ∧ bosketref02_List_c1 k rec8 x7 x12 = some r) ?_ ?_
      · refine AW.block ?_
        refine AW.seq ?_
        refine AW.reg ?_
        refine AO.calm rfl 9 rfl (by decide) (.ar 1 (p0.toList.map eU64)) (Calm.load 0 rfl rfl rfl (At.cast At.here rfl) ag27 (by rw [sz27]; simp [AV.size])) ?_
        refine AO.calm rfl 10 rfl (by decide) (eI64 x7) (Calm.move rfl rfl) ?_
        obtain ⟨t13, et13, h⟩ := of_bind h
        refine AO.callS [(.ar 1 (p0.toList.map eU64)), (eI64 x7)] (eBool t13) 11 rfl (by decide) ok22 rfl rfl rfl ⟨rfl, rfl, rfl, rfl, trivial⟩ (bosketref02_Has_spec et13) ?_
        refine AO.nil (ρ' := [(1, (.ptr n2 0)), (3, (.own n5 0 x6.length)), (4, (eI64 x7)), (11, (eBool t13))]) (H' := [(n2, (.mem (.ar 1 (p0.toList.map eU64)))), (n5, (.mem (.ar 1 (x6.map eU8))))]) ⟨rfl, rfl, rfl, rfl, trivial⟩ (Sub.refl _) ?_
        by_cases hc14 : t13 = true
        · have h := (if_pos hc14).symm.trans h
          refine AW.condT' t13 rfl hc14 ?_
          refine AW.reg ?_
          refine AO.calm rfl 12 rfl (by decide) (.own n5 0 x6.length) (Calm.move rfl rfl) ?_
          refine AO.calm rfl 13 rfl (by decide) (eI64 x7) (Calm.move rfl rfl) ?_
          refine AO.calm rfl 14 rfl (by decide) (eU8 (w8 x7)) (Calm.conv rfl rfl Tryd.underlying3 Tryd.underlying5) ?_
          refine AO.lit (Z := (eU8 (0 : Int))) (xs := (([(w8 x7)] : List Int).map eU8)) (qs := [(0, (eU8 (w8 x7)))]) rfl 15 rfl (by decide) rfl ⟨rfl, rfl, rfl, trivial⟩ Tryd.underlying22 sz5 zr5 lay5 rfl (by decide) (litOK (z := 1) [(eU8 (w8 x7))] rfl ⟨⟨rfl, rfl⟩, trivial⟩) rfl fun n15 => ?_
          obtain ⟨hg17, h⟩ := of_guard h
          refine AO.appendL (l := x6) (m := ([(w8 x7)] : List Int)) 2 16 rfl (by decide) rfl rfl rfl rfl rfl (Src.ownL (f := eU8) (l := ([(w8 x7)] : List Int)) 0 rfl) Tryd.underlying22 Tryd.underlying22 sz5 by5 zr5 rfl hg17 (by decide) fun n16 => ?_
          refine AO.calm rfl 3 rfl (by decide) (.own n16 0 (x6 ++ ([(w8 x7)] : List Int)).length) (Calm.assign rfl rfl) ?_
          refine AO.nil (ρ' := [(1, (.ptr n2 0)), (3, (.own n16 0 (x6 ++ ([(w8 x7)] : List Int)).length)), (4, (eI64 x7))]) (H' := [(n2, (.mem (.ar 1 (p0.toList.map eU64)))), (n16, (.mem (.ar 1 ((x6 ++ ([(w8 x7)] : List Int)).map eU8))))]) ⟨rfl, rfl, rfl, trivial⟩ (Sub.cons 1 rfl (Sub.cons 1 rfl (Sub.nil _))) ?_
          exact ⟨n16, (x6 ++ ([(w8 x7)] : List Int)), rfl, rfl, h⟩
        · have h := (if_neg hc14).symm.trans h
          refine AW.condF' t13 rfl hc14 ?_
          refine AW.skip (ρ' := [(1, (.ptr n2 0)), (3, (.own n5 0 x6.length)), (4, (eI64 x7))]) (H' := [(n2, (.mem (.ar 1 (p0.toList.map eU64)))), (n5, (.mem (.ar 1 (x6.map eU8))))]) ⟨rfl, rfl, rfl, trivial⟩ (Sub.refl _) ?_
          exact ⟨n5, x6, rfl, rfl, h⟩
      · rintro _ _ ⟨n11, x12, rfl, rfl, h⟩
        rw [bosketref02_List_c1.eq_1] at h
        refine AW.reg ?_
        refine AO.calm rfl 7 rfl (by decide) (eI64 x7) (Calm.move rfl rfl) ?_
        refine AO.calm rfl 8 rfl (by decide) (eI64 (w64 (x7 + (1 : Int)))) (Calm.int rfl rfl rfl rfl) ?_
        refine AO.calm rfl 4 rfl (by decide) (eI64 (w64 (x7 + (1 : Int)))) (Calm.assign rfl rfl) ?_
        refine AO.nil (ρ' := [(1, (.ptr n2 0)), (3, (.own n11 0 x12.length)), (4, (eI64 (w64 (x7 + (1 : Int)))))]) (H' := [(n2, (.mem (.ar 1 (p0.toList.map eU64)))), (n11, (.mem (.ar 1 (x12.map eU8))))]) ⟨rfl, rfl, rfl, trivial⟩ (Sub.refl _) ?_
        exact ⟨kq9, Nat.lt_succ_self _, n11, x12, (w64 (x7 + (1 : Int))), rfl, rfl, by rw [hrec8]; exact h⟩
    · have h := (if_neg hc10).symm.trans h
      refine AW.condN (x7 < (256 : Int)) rfl hc10 ?_
      refine AW.exit (ρ' := [(3, (.own n5 0 x6.length))]) (H' := [(n5, (.mem (.ar 1 (x6.map eU8))))]) ⟨rfl, trivial⟩ (Sub.cons 1 rfl (Sub.nil _)) ?_
      exact ⟨n5, x6, rfl, rfl, h⟩
  · rintro _ _ ⟨n3, x4, rfl, rfl, h⟩
    rw [bosketref02_List_c0.eq_1] at h
    refine AW.seq ?_
    refine AW.reg ?_
    refine AO.calm rfl 17 rfl (by decide) (.own n3 0 x4.length) (Calm.move rfl rfl) ?_
    refine AO.calm rfl 2 rfl (by decide) (.own n3 0 x4.length) (Calm.assign rfl rfl) ?_
    refine AO.nil (ρ' := [(2, (.own n3 0 x4.length))]) (H' := [(n3, (.mem (.ar 1 (x4.map eU8))))]) ⟨rfl, trivial⟩ (Sub.refl _) ?_
    refine AW.freezeS 0 [(2, (.fz 1 (x4.map eU8)))] rfl ⟨fz_all rfl, trivial⟩ ?_
    refine AW.ret (ρ' := [(2, (.fz 1 (x4.map eU8)))]) (H' := []) ⟨rfl, trivial⟩ (Sub.refl _) ?_
    have hr := Option.some.inj h
    subst hr
    exact ⟨[(.fz 1 (x4.map eU8))], ⟨rfl, rfl, trivial⟩, rfl⟩
end Go.Avl.TD
/- bosket/byteset.Has; printed by avmain.py. -/
namespace Go.Avl.TD
open Go Go.RowKit Go.Proofs Go.Avl
set_option linter.unusedVariables false
set_option maxRecDepth 100000
set_option maxHeartbeats 4000000
attribute [local irreducible] AW AO AQ Spec SpecH Calm

def byteset_Has (k : Nat) (p0 : (Vector Int 4)) (p1 : Int) : Option Bool :=
  if 0 ≤ (IntKind.u8.wrap (p1.tdiv (64 : Int))) ∧ (IntKind.u8.wrap (p1.tdiv (64 : Int))) < (4 : Int) then if 0 ≤ (p1.tmod (64 : Int)) then some (decide ((bits .and .u64 (Int.fdiv (vget p0 (IntKind.u8.wrap (p1.tdiv (64 : Int)))) (2 ^ (min (p1.tmod (64 : Int)).toNat IntKind.u64.bits))) (1 : Int)) = (1 : Int)))
  else none
  else none
theorem byteset_Has_spec {k : Nat} {p0 : (Vector Int 4)} {p1 : Int} {r : Bool} (h : byteset_Has k p0 p1 = some r) : Spec Tryd.prog 21 [(.ar 1 (p0.toList.map eU64)), (eU8 p1)] (eBool r) := by
  rw [byteset_Has.eq_1] at h
  refine Spec.intro (res := [.tmp 4]) Tryd.func21 rfl rfl rfl (Nat.le_of_ble_eq_true rfl) ?_
  refine AW.seq ?_
  refine AW.reg ?_
  refine AO.box rfl 2 rfl (by decide) rfl rfl rfl fun n3 => ?_
  refine AO.calm rfl 4 rfl (by decide) (eBool false) (Calm.assign rfl rfl) ?_
  refine AO.nil (ρ' := [(1, (eU8 p1)), (2, (.ptr n3 0))]) (H' := [(n3, (.mem (.ar 1 (p0.toList.map eU64))))]) ⟨rfl, rfl, trivial⟩ (Sub.refl _) ?_
  refine AW.seq ?_
  refine AW.reg ?_
  refine AO.calm rfl 5 rfl (by decide) (eU8 p1) (Calm.move rfl rfl) ?_
  refine AO.calm rfl 6 rfl (by decide) (eU8 (IntKind.u8.wrap (p1.tdiv (64 : Int)))) (Calm.quo rfl rfl rfl (by decide)) ?_
  obtain ⟨hg4, h⟩ := of_guard h
  refine AO.calm rfl 7 rfl (by decide) (.ptr n3 (0 + (IntKind.u8.wrap (p1.tdiv (64 : Int))).toNat * 1)) (Calm.idxP rfl rfl rfl hg4 Tryd.underlying27 sz25) ?_
  refine AO.calm rfl 8 rfl (by decide) (eU64 (vget p0 (IntKind.u8.wrap (p1.tdiv (64 : Int))))) (Calm.load 0 rfl rfl rfl (At.cast (At.vidx (IntKind.u8.wrap (p1.tdiv (64 : Int))) hg4.1 hg4.2 At.here) (by omega)) ag25 sz25) ?_
  refine AO.calm rfl 9 rfl (by decide) (eU8 p1) (Calm.move rfl rfl) ?_
  refine AO.calm rfl 10 rfl (by decide) (eU8 (p1.tmod (64 : Int))) (Calm.rem rfl rfl rfl (by decide)) ?_
  obtain ⟨hg5, h⟩ := of_guard h
  refine AO.calm rfl 11 rfl (by decide) (eU64 (Int.fdiv (vget p0 (IntKind.u8.wrap (p1.tdiv (64 : Int)))) (2 ^ (min (p1.tmod (64 : Int)).toNat IntKind.u64.bits)))) (Calm.shr rfl rfl rfl hg5) ?_
  refine AO.calm rfl 12 rfl (by decide) (eU64 (bits .and .u64 (Int.fdiv (vget p0 (IntKind.u8.wrap (p1.tdiv (64 : Int)))) (2 ^ (min (p1.tmod (64 : Int)).toNat IntKind.u64.bits))) (1 : Int))) (Calm.int rfl rfl rfl rfl) ?_
  refine AO.calm rfl 13 rfl (by decide) (eBool (decide ((bits .and .u64 (Int.fdiv (vget p0 (IntKind.u8.wrap (p1.tdiv (64 : Int)))) (2 ^ (min (p1.tmod (64 : Int)).toNat IntKind.u64.bits))) (1 : Int)) = (1 : Int)))) (Calm.int rfl rfl rfl rfl) ?_
  refine AO.calm rfl 4 rfl (by decide) (eBool (decide ((bits .and .u64 (Int.fdiv (vget p0 (IntKind.u8.wrap (p1.tdiv (64 : Int)))) (2 ^ (min (p1.tmod (64 : Int)).toNat IntKind.u64.bits))) (1 : Int)) = (1 : Int)))) (Calm.assign rfl rfl) ?_
  refine AO.nil (ρ' := [(4, (eBool (decide ((bits .and .u64 (Int.fdiv (vget p0 (IntKind.u8.wrap (p1.tdiv (64 : Int)))) (2 ^ (min (p1.tmod (64 : Int)).toNat IntKind.u64.bits))) (1 : Int)) = (1 : Int)))))]) (H' := []) ⟨rfl, trivial⟩ (Sub.nil _) ?_
  refine AW.ret (ρ' := [(4, (eBool (decide ((bits .and .u64 (Int.fdiv (vget p0 (IntKind.u8.wrap (p1.tdiv (64 : Int)))) (2 ^ (min (p1.tmod (64 : Int)).toNat IntKind.u64.bits))) (1 : Int)) = (1 : Int)))))]) (H' := []) ⟨rfl, trivial⟩ (Sub.refl _) ?_
  have hr := Option.some.inj h
  subst hr
  exact ⟨[(eBool (decide ((bits .and .u64 (Int.fdiv (vget p0 (IntKind.u8.wrap (p1.tdiv (64 : Int)))) (2 ^ (min (p1.tmod (64 : Int)).toNat IntKind.u64.bits))) (1 : Int)) = (1 : Int))))], ⟨rfl, rfl, trivial⟩, rfl⟩
end Go.Avl.TD
