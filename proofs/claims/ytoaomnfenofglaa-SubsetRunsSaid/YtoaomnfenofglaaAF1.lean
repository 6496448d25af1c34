/- Parts: T5B, T5f56, T5f82, T5f79, T5f48, T5f17, T5f90, T5f14, T5f47, T5f29, T5f51, T5f53, T5f52. -/
import Derived.Test.YtoaomnfenofglaaAv3
import Derived.Test.YtoaomnfenofglaaProg
/- Types and facts; printed by avmain.py. -/
namespace Go.Avl.T5
open Go Go.RowKit Go.Proofs Go.Avl
set_option linter.unusedVariables false
set_option maxRecDepth 100000
set_option maxHeartbeats 4000000
structure S43 where
  f0 : Int
  f1 : Int
  f2 : (Vector Int 4)
  f3 : Bool
deriving Inhabited, DecidableEq
abbrev e43 (x : S43) : AV := .st [(1, (eI64 x.f0)), (1, (eI64 x.f1)), (4, (.ar 1 (x.f2.toList.map eU64))), (1, (eBool x.f3))]
structure S24 where
  f0 : Int
  f1 : (List S43)
  f2 : Int
  f3 : Int
deriving Inhabited, DecidableEq
abbrev e24 (x : S24) : AV := .st [(1, (eI64 x.f0)), (1, (.fz 7 (x.f1.map e43))), (1, (eI64 x.f2)), (1, (eI64 x.f3))]
abbrev e41 (v : Vector Int 4) : AV := .ar 1 (v.toList.map eU64)
abbrev e38 (l : List (Vector Int 4)) : AV := .fz 4 (l.map e41)
abbrev e27 (v : Vector Int 256) : AV := .ar 1 (v.toList.map eU8)
abbrev e49 (l : List Bool) : AV := .fz 1 (l.map eBool)
abbrev e25 (l : List Int) : AV := .fz 1 (l.map eI64)
structure S30 where
  f0 : (Vector Int 256)
  f1 : (List (List Int))
  f2 : (List Int)
deriving Inhabited, DecidableEq
abbrev e30 (x : S30) : AV := .st [(256, (.ar 1 (x.f0.toList.map eU8))), (1, (.fz 1 (x.f1.map e25))), (1, (.fz 1 (x.f2.map eI64)))]
structure S80 where
  f0 : S24
  f1 : (List Int)
  f2 : (List Int)
  f3 : (List (ByteArray × Int))
  f4 : (List (List Bool))
  f5 : S30
deriving Inhabited, DecidableEq
theorem sz3 : tySize Try.prog 3 = some 1 := by rfl
theorem ag3 : tyAgg Try.prog 3 = some false := by rfl
theorem sz22 : tySize Try.prog 22 = some 1 := by rfl
theorem ag22 : tyAgg Try.prog 22 = some false := by rfl
theorem sz43 : tySize Try.prog 43 = some 7 := by rfl
theorem ag43 : tyAgg Try.prog 43 = some true := by rfl
theorem zr43 : tyZero Try.prog 43 = some (([.int .i64 0] ++ ([.int .i64 0] ++ ((List.replicate 4 (.int .u64 0)) ++ ([.bool false] ++ []))))) := by rfl
theorem lay43 : ∀ g, Sim g (.st [(1, (eI64 (0 : Int))), (1, (eI64 (0 : Int))), (4, (.ar 1 ((Vector.replicate 4 (0 : Int)).toList.map eU64))), (1, (eBool false))]) (([.int .i64 0] ++ ([.int .i64 0] ++ ((List.replicate 4 (.int .u64 0)) ++ ([.bool false] ++ []))))) := fun g => (Sim.stCons (lay_fl rfl) rfl (Sim.stCons (lay_fl rfl) rfl (Sim.stCons (lay_vec1 (lay_fl rfl)) rfl (Sim.stCons (lay_fl rfl) rfl Sim.stNil))))
theorem sz4 : tySize Try.prog 4 = some 1 := by rfl
theorem ag4 : tyAgg Try.prog 4 = some false := by rfl
theorem sz41 : tySize Try.prog 41 = some 4 := by rfl
theorem ag41 : tyAgg Try.prog 41 = some true := by rfl
theorem zr41 : tyZero Try.prog 41 = some ((List.replicate 4 (.int .u64 0))) := by rfl
theorem lay41 : ∀ g, Sim g (.ar 1 ((Vector.replicate 4 (0 : Int)).toList.map eU64)) ((List.replicate 4 (.int .u64 0))) := fun g => (lay_vec1 (lay_fl rfl))
theorem by41 : tyBytes Try.prog 41 = some 32 := by rfl
theorem sz39 : tySize Try.prog 39 = some 1 := by rfl
theorem ag39 : tyAgg Try.prog 39 = some false := by rfl
theorem sz5 : tySize Try.prog 5 = some 1 := by rfl
theorem by5 : tyBytes Try.prog 5 = some 1 := by rfl
theorem zr5 : tyZero Try.prog 5 = some ([.int .u8 0]) := by rfl
theorem lay5 : ∀ g, Sim g (eU8 (0 : Int)) ([.int .u8 0]) := fun g => (lay_fl rfl)
theorem ok82 : FnOK Try.prog 82 := FnOK.mk Try.func82 rfl rfl
theorem ag5 : tyAgg Try.prog 5 = some false := by rfl
theorem zr27 : tyZero Try.prog 27 = some ((List.replicate 256 (.int .u8 0))) := by rfl
theorem lay27 : ∀ g, Sim g (.ar 1 ((Vector.replicate 256 (0 : Int)).toList.map eU8)) ((List.replicate 256 (.int .u8 0))) := fun g => (lay_vec1 (lay_fl rfl))
theorem ok79 : FnOK Try.prog 79 := FnOK.mk Try.func79 rfl rfl
theorem zr3 : tyZero Try.prog 3 = some ([.int .i64 0]) := by rfl
theorem mz3 : ∀ g, ∃ zv, ((Try.prog.info? 3).bind (·.zero)) = some zv ∧ V1 g (eI64 (0 : Int)) zv := fun g => ⟨_, rfl, rfl⟩
theorem ag27 : tyAgg Try.prog 27 = some true := by rfl
theorem sz27 : tySize Try.prog 27 = some 256 := by rfl
theorem by4 : tyBytes Try.prog 4 = some 1 := by rfl
theorem zr4 : tyZero Try.prog 4 = some ([.bool false]) := by rfl
theorem lay4 : ∀ g, Sim g (eBool false) ([.bool false]) := fun g => (lay_fl rfl)
theorem sz25 : tySize Try.prog 25 = some 1 := by rfl
theorem ag25 : tyAgg Try.prog 25 = some false := by rfl
theorem ok100 : FnOK Try.prog 100 := FnOK.mk Try.func100 rfl rfl
theorem ok80 : FnOK Try.prog 80 := FnOK.mk Try.func80 rfl rfl
theorem sz76 : tySize Try.prog 76 = some 1 := by rfl
theorem ag76 : tyAgg Try.prog 76 = some false := by rfl
theorem sz78 : tySize Try.prog 78 = some 1 := by rfl
theorem ag78 : tyAgg Try.prog 78 = some false := by rfl
theorem sz49 : tySize Try.prog 49 = some 1 := by rfl
theorem zr49 : tyZero Try.prog 49 = some ([.slice none 0 0]) := by rfl
theorem lay49 : ∀ g, Sim g (.fl (.slice none 0 0)) ([.slice none 0 0]) := fun g => (lay_fl rfl)
theorem by49 : tyBytes Try.prog 49 = some 24 := by rfl
theorem sz30 : tySize Try.prog 30 = some 258 := by rfl
theorem ok81 : FnOK Try.prog 81 := FnOK.mk Try.func81 rfl rfl
theorem lay3 : ∀ g, Sim g (eI64 (0 : Int)) ([.int .i64 0]) := fun g => (lay_fl rfl)
theorem by3 : tyBytes Try.prog 3 = some 8 := by rfl
theorem zr30 : tyZero Try.prog 30 = some (((List.replicate 256 (.int .u8 0)) ++ ([.slice none 0 0] ++ ([.slice none 0 0] ++ [])))) := by rfl
theorem lay30 : ∀ g, Sim g (.st [(256, (.ar 1 ((Vector.replicate 256 (0 : Int)).toList.map eU8))), (1, (.fl (.slice none 0 0))), (1, (.fl (.slice none 0 0)))]) (((List.replicate 256 (.int .u8 0)) ++ ([.slice none 0 0] ++ ([.slice none 0 0] ++ [])))) := fun g => (Sim.stCons (lay_vec1 (lay_fl rfl)) rfl (Sim.stCons (lay_fl rfl) rfl (Sim.stCons (lay_fl rfl) rfl Sim.stNil)))
theorem ag24 : tyAgg Try.prog 24 = some true := by rfl
theorem sz24 : tySize Try.prog 24 = some 4 := by rfl
theorem ok47 : FnOK Try.prog 47 := FnOK.mk Try.func47 rfl rfl
theorem ag30 : tyAgg Try.prog 30 = some true := by rfl
theorem zr80 : tyZero Try.prog 80 = some ((([.int .i64 0] ++ ([.slice none 0 0] ++ ([.int .i64 0] ++ ([.int .i64 0] ++ [])))) ++ ([.slice none 0 0] ++ ([.slice none 0 0] ++ ([.map none] ++ ([.slice none 0 0] ++ (((List.replicate 256 (.int .u8 0)) ++ ([.slice none 0 0] ++ ([.slice none 0 0] ++ []))) ++ []))))))) := by rfl
theorem lay80 : ∀ g, Sim g (.st [(4, (.st [(1, (eI64 (0 : Int))), (1, (.fl (.slice none 0 0))), (1, (eI64 (0 : Int))), (1, (eI64 (0 : Int)))])), (1, (.fl (.slice none 0 0))), (1, (.fl (.slice none 0 0))), (1, (.fl (.map none))), (1, (.fl (.slice none 0 0))), (258, (.st [(256, (.ar 1 ((Vector.replicate 256 (0 : Int)).toList.map eU8))), (1, (.fl (.slice none 0 0))), (1, (.fl (.slice none 0 0)))]))]) ((([.int .i64 0] ++ ([.slice none 0 0] ++ ([.int .i64 0] ++ ([.int .i64 0] ++ [])))) ++ ([.slice none 0 0] ++ ([.slice none 0 0] ++ ([.map none] ++ ([.slice none 0 0] ++ (((List.replicate 256 (.int .u8 0)) ++ ([.slice none 0 0] ++ ([.slice none 0 0] ++ []))) ++ []))))))) := fun g => (Sim.stCons (Sim.stCons (lay_fl rfl) rfl (Sim.stCons (lay_fl rfl) rfl (Sim.stCons (lay_fl rfl) rfl (Sim.stCons (lay_fl rfl) rfl Sim.stNil)))) rfl (Sim.stCons (lay_fl rfl) rfl (Sim.stCons (lay_fl rfl) rfl (Sim.stCons (lay_fl rfl) rfl (Sim.stCons (lay_fl rfl) rfl (Sim.stCons (Sim.stCons (lay_vec1 (lay_fl rfl)) rfl (Sim.stCons (lay_fl rfl) rfl (Sim.stCons (lay_fl rfl) rfl Sim.stNil))) rfl Sim.stNil))))))
theorem ok49 : FnOK Try.prog 49 := FnOK.mk Try.func49 rfl rfl
theorem ok48 : FnOK Try.prog 48 := FnOK.mk Try.func48 rfl rfl
theorem sz77 : tySize Try.prog 77 = some 1 := by rfl
theorem ag77 : tyAgg Try.prog 77 = some false := by rfl
theorem ok51 : FnOK Try.prog 51 := FnOK.mk Try.func51 rfl rfl
theorem ok50 : FnOK Try.prog 50 := FnOK.mk Try.func50 rfl rfl
theorem ag49 : tyAgg Try.prog 49 = some false := by rfl
theorem ok52 : FnOK Try.prog 52 := FnOK.mk Try.func52 rfl rfl
theorem sz28 : tySize Try.prog 28 = some 1 := by rfl
theorem ag28 : tyAgg Try.prog 28 = some false := by rfl
theorem zr25 : tyZero Try.prog 25 = some ([.slice none 0 0]) := by rfl
theorem lay25 : ∀ g, Sim g (.fl (.slice none 0 0)) ([.slice none 0 0]) := fun g => (lay_fl rfl)
theorem by25 : tyBytes Try.prog 25 = some 24 := by rfl
theorem ok13 : FnOK Try.prog 13 := FnOK.mk Try.func13 rfl rfl
theorem zr24 : tyZero Try.prog 24 = some (([.int .i64 0] ++ ([.slice none 0 0] ++ ([.int .i64 0] ++ ([.int .i64 0] ++ []))))) := by rfl
theorem lay24 : ∀ g, Sim g (.st [(1, (eI64 (0 : Int))), (1, (.fl (.slice none 0 0))), (1, (eI64 (0 : Int))), (1, (eI64 (0 : Int)))]) (([.int .i64 0] ++ ([.slice none 0 0] ++ ([.int .i64 0] ++ ([.int .i64 0] ++ []))))) := fun g => (Sim.stCons (lay_fl rfl) rfl (Sim.stCons (lay_fl rfl) rfl (Sim.stCons (lay_fl rfl) rfl (Sim.stCons (lay_fl rfl) rfl Sim.stNil))))
theorem ok22 : FnOK Try.prog 22 := FnOK.mk Try.func22 rfl rfl
theorem ok56 : FnOK Try.prog 56 := FnOK.mk Try.func56 rfl rfl
theorem ok53 : FnOK Try.prog 53 := FnOK.mk Try.func53 rfl rfl
theorem ok20 : FnOK Try.prog 20 := FnOK.mk Try.func20 rfl rfl
theorem ok54 : FnOK Try.prog 54 := FnOK.mk Try.func54 rfl rfl
theorem ok12 : FnOK Try.prog 12 := FnOK.mk Try.func12 rfl rfl
theorem ok14 : FnOK Try.prog 14 := FnOK.mk Try.func14 rfl rfl
theorem ok21 : FnOK Try.prog 21 := FnOK.mk Try.func21 rfl rfl
theorem ag9 : tyAgg Try.prog 9 = some false := by rfl
end Go.Avl.T5
/- bosket/bosketref02.Has; printed by avmain.py. -/
namespace Go.Avl.T5
open Go Go.RowKit Go.Proofs Go.Avl
set_option linter.unusedVariables false
set_option maxRecDepth 100000
set_option maxHeartbeats 4000000
attribute [local irreducible] AW AO AQ Spec SpecH Calm

def bosketref02_Has_c0 (k : Nat) (x5 : Int) : Option Bool :=
  some (decide ((x5.tmod (2 : Int)) = (1 : Int)))
def bosketref02_Has_l1 (k : Nat) (p1 : Int) : Nat → Int → Int → Option Bool
  | 0, _, _ => none
  | j + 1, x6, x7 =>
    if x7 < (p1.tmod (64 : Int)) then (bosketref02_Has_l1 k p1 j) (IntKind.u64.wrap (x6.tdiv (2 : Int))) (w64 (x7 + (1 : Int)))
    else bosketref02_Has_c0 k x6
def bosketref02_Has (k : Nat) (p0 : (Vector Int 4)) (p1 : Int) : Option Bool :=
  if 0 ≤ (IntKind.i64.wrap (p1.tdiv (64 : Int))) ∧ (IntKind.i64.wrap (p1.tdiv (64 : Int))) < (4 : Int) then bosketref02_Has_l1 k p1 k (vget p0 (IntKind.i64.wrap (p1.tdiv (64 : Int)))) (0 : Int)
  else none
theorem bosketref02_Has_spec {k : Nat} {p0 : (Vector Int 4)} {p1 : Int} {r : Bool} (h : bosketref02_Has k p0 p1 = some r) : Spec Try.prog 56 [(.ar 1 (p0.toList.map eU64)), (eI64 p1)] (eBool r) := by
  rw [bosketref02_Has.eq_1] at h
  refine Spec.intro (res := [.tmp 4]) Try.func56 rfl rfl rfl (Nat.le_of_ble_eq_true rfl) ?_
  refine AW.sr ?_
  refine AO.box rfl 2 rfl (by decide) rfl rfl rfl fun n3 => ?_
  refine AO.c (Calm.assign rfl rfl) ?_
  refine AO.nK [1, 2] ?_
  refine AW.sr ?_
  refine AO.c (Calm.move rfl rfl) ?_
  refine AO.c (x := eI64 (IntKind.i64.wrap (p1.tdiv (64 : Int)))) (Calm.quo rfl rfl rfl (by decide)) ?_
  obtain ⟨hg4, h⟩ := of_guard h
  refine AO.c (Calm.idxP rfl rfl rfl hg4 Try.underlying41 sz39) ?_
  refine AO.c (Calm.load 0 rfl rfl rfl (At.cast (At.vidx (IntKind.i64.wrap (p1.tdiv (64 : Int))) hg4.1 hg4.2 At.here) (by omega)) ag39 sz39) ?_
  refine AO.c (Calm.assign rfl rfl) ?_
  refine AO.nH [1, 5] (H' := []) (Sub.nil _) ?_
  refine AW.seq_mid (fun ρ H => ∃ (x5 : Int), ρ = [(5, (eU64 x5))] ∧ H = [] ∧ bosketref02_Has_c0 k x5 = some r) ?_ ?_
  ·refine AW.sr ?_
   refine AO.c (Calm.assign rfl rfl) ?_
   refine AO.nK [1, 5, 6] ?_
   refine AW.block ?_
   refine AW.wK [1, 5, 6] ?_
   refine AW.loop (fun kq ρ H => ∃ (x6 : Int) (x7 : Int), ρ = [(1, (eI64 p1)), (5, (eU64 x6)), (6, (eI64 x7))] ∧ H = [] ∧ bosketref02_Has_l1 k p1 kq x6 x7 = some r) k ⟨(vget p0 (IntKind.i64.wrap (p1.tdiv (64 : Int)))), (0 : Int), rfl, rfl, h⟩ ?_
   rintro kq9 _ _ ⟨x6, x7, rfl, rfl, h⟩
   cases kq9 with
   | zero => rw [bosketref02_Has_l1.eq_1] at h; cases h
   | succ kq9 =>
   rw [bosketref02_Has_l1.eq_2] at h
   generalize hrec8 : bosketref02_Has_l1 k p1 kq9 = rec8 at h
   refine AW.seq ?_
   refine AW.sr ?_
   refine AO.c (Calm.move rfl rfl) ?_
   refine AO.c (Calm.move rfl rfl) ?_
   refine AO.c (x := eI64 (p1.tmod (64 : Int))) (Calm.rem rfl rfl rfl (by decide)) ?_
   refine AO.c (x := eBool (decide (x7 < (p1.tmod (64 : Int))))) (Calm.int rfl rfl rfl rfl) ?_
   refine AO.nK [1, 5, 6, 14] ?_
   rcases of_ite h with ⟨hc10, h⟩ | ⟨hc10, h⟩
   ·refine AW.condP _ rfl hc10 ?_
    refine AW.sK [1, 5, 6] ?_
    refine AW.seq ?_
    refine AW.block ?_
    refine AW.reg ?_
    refine AO.c (Calm.move rfl rfl) ?_
    refine AO.c (x := eU64 (IntKind.u64.wrap (x6.tdiv (2 : Int)))) (Calm.quo rfl rfl rfl (by decide)) ?_
    refine AO.c (Calm.assign rfl rfl) ?_
    refine AO.nK [1, 5, 6] ?_
    refine AW.reg ?_
    refine AO.c (Calm.move rfl rfl) ?_
    refine AO.c (x := eI64 (w64 (x7 + (1 : Int)))) (Calm.int rfl rfl rfl rfl) ?_
    refine AO.c (Calm.assign rfl rfl) ?_
    refine AO.nK [1, 5, 6] ?_
    exact ⟨kq9, Nat.lt_succ_self _, (IntKind.u64.wrap (x6.tdiv (2 : Int))), (w64 (x7 + (1 : Int))), rfl, rfl, by rw [hrec8]; exact h⟩
   ·refine AW.condN _ rfl hc10 ?_
    refine AW.eK [5] ?_
    exact ⟨x6, rfl, rfl, h⟩
  ·rintro _ _ ⟨x5, rfl, rfl, h⟩
   rw [bosketref02_Has_c0.eq_1] at h
   refine AW.sr ?_
   refine AO.c (Calm.move rfl rfl) ?_
   refine AO.c (x := eU64 (x5.tmod (2 : Int))) (Calm.rem rfl rfl rfl (by decide)) ?_
   refine AO.c (x := eBool (decide ((x5.tmod (2 : Int)) = (1 : Int)))) (Calm.int rfl rfl rfl rfl) ?_
   refine AO.c (Calm.assign rfl rfl) ?_
   refine AO.nK [4] ?_
   refine AW.rK [4] ?_
   have hr := Option.some.inj h
   subst hr
   exact ⟨[(eBool (decide ((x5.tmod (2 : Int)) = (1 : Int))))], ⟨rfl, rfl, trivial⟩, rfl⟩
end Go.Avl.T5
/- bosket/byteset.Has; printed by avmain.py. -/
namespace Go.Avl.T5
open Go Go.RowKit Go.Proofs Go.Avl
set_option linter.unusedVariables false
set_option maxRecDepth 100000
set_option maxHeartbeats 4000000
attribute [local irreducible] AW AO AQ Spec SpecH Calm

def byteset_Has (k : Nat) (p0 : (Vector Int 4)) (p1 : Int) : Option Bool :=
  if 0 ≤ (IntKind.u8.wrap (p1.tdiv (64 : Int))) ∧ (IntKind.u8.wrap (p1.tdiv (64 : Int))) < (4 : Int) then if 0 ≤ (p1.tmod (64 : Int)) then some (decide ((bits .and .u64 (Int.fdiv (vget p0 (IntKind.u8.wrap (p1.tdiv (64 : Int)))) (2 ^ (min (p1.tmod (64 : Int)).toNat IntKind.u64.bits))) (1 : Int)) = (1 : Int)))
  else none
  else none
theorem byteset_Has_spec {k : Nat} {p0 : (Vector Int 4)} {p1 : Int} {r : Bool} (h : byteset_Has k p0 p1 = some r) : Spec Try.prog 82 [(.ar 1 (p0.toList.map eU64)), (eU8 p1)] (eBool r) := by
  rw [byteset_Has.eq_1] at h
  refine Spec.intro (res := [.tmp 4]) Try.func82 rfl rfl rfl (Nat.le_of_ble_eq_true rfl) ?_
  refine AW.sr ?_
  refine AO.box rfl 2 rfl (by decide) rfl rfl rfl fun n3 => ?_
  refine AO.c (Calm.assign rfl rfl) ?_
  refine AO.nK [1, 2] ?_
  refine AW.sr ?_
  refine AO.c (Calm.move rfl rfl) ?_
  refine AO.c (x := eU8 (IntKind.u8.wrap (p1.tdiv (64 : Int)))) (Calm.quo rfl rfl rfl (by decide)) ?_
  obtain ⟨hg4, h⟩ := of_guard h
  refine AO.c (Calm.idxP rfl rfl rfl hg4 Try.underlying41 sz39) ?_
  refine AO.c (Calm.load 0 rfl rfl rfl (At.cast (At.vidx (IntKind.u8.wrap (p1.tdiv (64 : Int))) hg4.1 hg4.2 At.here) (by omega)) ag39 sz39) ?_
  refine AO.c (Calm.move rfl rfl) ?_
  refine AO.c (x := eU8 (p1.tmod (64 : Int))) (Calm.rem rfl rfl rfl (by decide)) ?_
  obtain ⟨hg5, h⟩ := of_guard h
  refine AO.c (x := eU64 (Int.fdiv (vget p0 (IntKind.u8.wrap (p1.tdiv (64 : Int)))) (2 ^ (min (p1.tmod (64 : Int)).toNat IntKind.u64.bits)))) (Calm.shr rfl rfl rfl hg5) ?_
  refine AO.c (x := eU64 (bits .and .u64 (Int.fdiv (vget p0 (IntKind.u8.wrap (p1.tdiv (64 : Int)))) (2 ^ (min (p1.tmod (64 : Int)).toNat IntKind.u64.bits))) (1 : Int))) (Calm.int rfl rfl rfl rfl) ?_
  refine AO.c (x := eBool (decide ((bits .and .u64 (Int.fdiv (vget p0 (IntKind.u8.wrap (p1.tdiv (64 : Int)))) (2 ^ (min (p1.tmod (64 : Int)).toNat IntKind.u64.bits))) (1 : Int)) = (1 : Int)))) (Calm.int rfl rfl rfl rfl) ?_
  refine AO.c (Calm.assign rfl rfl) ?_
  refine AO.nH [4] (H' := []) (Sub.nil _) ?_
  refine AW.rK [4] ?_
  have hr := Option.some.inj h
  subst hr
  exact ⟨[(eBool (decide ((bits .and .u64 (Int.fdiv (vget p0 (IntKind.u8.wrap (p1.tdiv (64 : Int)))) (2 ^ (min (p1.tmod (64 : Int)).toNat IntKind.u64.bits))) (1 : Int)) = (1 : Int))))], ⟨rfl, rfl, trivial⟩, rfl⟩
end Go.Avl.T5
/- bosket/byteset.key; printed by avmain.py. -/
namespace Go.Avl.T5
open Go Go.RowKit Go.Proofs Go.Avl
set_option linter.unusedVariables false
set_option maxRecDepth 100000
set_option maxHeartbeats 4000000
attribute [local irreducible] AW AO AQ Spec SpecH Calm

def byteset_key_c0 (k : Nat) (x5 : (List Int)) : Option ByteArray :=
  some ((strOfNums x5))
def byteset_key_c1 (k : Nat) (rec8 : ((List Int) → Int → Option ByteArray)) (x7 : Int) (x11 : (List Int)) : Option ByteArray :=
  rec8 x11 (w64 (x7 + (1 : Int)))
def byteset_key_l2 (k : Nat) (p0 : (List (Vector Int 4))) (p1 : Int) : Nat → (List Int) → Int → Option ByteArray
  | 0, _, _ => none
  | j + 1, x6, x7 =>
    if x7 < (p0.length : Int) then if 0 ≤ x7 ∧ x7 < (p0.length : Int) then (byteset_Has k (lget p0 x7) p1).bind fun t14 =>
    if t14 = true then if 0 ≤ (IntKind.i64.wrap (x7.tdiv (8 : Int))) ∧ (IntKind.i64.wrap (x7.tdiv (8 : Int))) < (x6.length : Int) then if 0 ≤ (u64 (x7.tmod (8 : Int))) then if 0 ≤ (IntKind.i64.wrap (x7.tdiv (8 : Int))) ∧ (IntKind.i64.wrap (x7.tdiv (8 : Int))) < (x6.length : Int) then byteset_key_c1 k (byteset_key_l2 k p0 p1 j) x7 (lset x6 (IntKind.i64.wrap (x7.tdiv (8 : Int))) (bits .or .u8 (lget x6 (IntKind.i64.wrap (x7.tdiv (8 : Int)))) (IntKind.u8.wrap ((1 : Int) * 2 ^ (min (u64 (x7.tmod (8 : Int))).toNat IntKind.u8.bits)))))
    else none
    else none
    else none
    else byteset_key_c1 k (byteset_key_l2 k p0 p1 j) x7 x6
    else none
    else byteset_key_c0 k x6
def byteset_key (k : Nat) (p0 : (List (Vector Int 4))) (p1 : Int) : Option ByteArray :=
  if 0 ≤ (IntKind.i64.wrap ((w64 ((p0.length : Int) + (7 : Int))).tdiv (8 : Int))) ∧ (IntKind.i64.wrap ((w64 ((p0.length : Int) + (7 : Int))).tdiv (8 : Int))) * (1 : Int) ≤ 140737488355328 ∧ (IntKind.i64.wrap ((w64 ((p0.length : Int) + (7 : Int))).tdiv (8 : Int))) ≤ 9223372036854775807 then byteset_key_l2 k p0 p1 k (List.replicate (IntKind.i64.wrap ((w64 ((p0.length : Int) + (7 : Int))).tdiv (8 : Int))).toNat (0 : Int)) (0 : Int)
  else none
theorem byteset_key_spec {k : Nat} {p0 : (List (Vector Int 4))} {p1 : Int} {r : ByteArray} (h : byteset_key k p0 p1 = some r) : Spec Try.prog 79 [(.fz 4 (p0.map e41)), (eU8 p1)] (eStr r) := by
  rw [byteset_key.eq_1] at h
  refine Spec.intro (res := [.tmp 4]) Try.func79 rfl rfl rfl (Nat.le_of_ble_eq_true rfl) ?_
  refine AW.sr ?_
  refine AO.c (Calm.assign rfl rfl) ?_
  refine AO.nK [0, 1] ?_
  refine AW.sr ?_
  refine AO.c (Calm.move rfl rfl) ?_
  refine AO.c (Calm.lenL rfl rfl Try.underlying38) ?_
  refine AO.c (x := eI64 (w64 ((p0.length : Int) + (7 : Int)))) (Calm.int rfl rfl rfl rfl) ?_
  refine AO.c (x := eI64 (IntKind.i64.wrap ((w64 ((p0.length : Int) + (7 : Int))).tdiv (8 : Int)))) (Calm.quo rfl rfl rfl (by decide)) ?_
  obtain ⟨hg4, h⟩ := of_guard h
  refine AO.makeL (f := eU8) (0 : Int) rfl 12 rfl (by decide) rfl rfl rfl Try.underlying77 sz5 by5 zr5 lay5 rfl hg4 fun n3 => ?_
  refine AO.c (Calm.assign rfl rfl) ?_
  refine AO.nK [0, 1, 5] ?_
  refine AW.seq_mid (fun ρ H => ∃ (x5 : (List Int)), ρ = [(5, (.own n3 0 x5.length))] ∧ H = [(n3, (.mem (.ar 1 (x5.map eU8))))] ∧ byteset_key_c0 k x5 = some r) ?_ ?_
  ·refine AW.sr ?_
   refine AO.c (Calm.move rfl rfl) ?_
   refine AO.c (Calm.lenL rfl rfl Try.underlying38) ?_
   refine AO.c (Calm.move rfl rfl) ?_
   refine AO.nK [1, 5, 13, 14, 15] ?_
   refine AW.block ?_
   refine AW.wK [1, 5, 13, 14, 15] ?_
   refine AW.loop (fun kq ρ H => ∃ (x6 : (List Int)) (x7 : Int), ρ = [(1, (eU8 p1)), (5, (.own n3 0 x6.length)), (13, (.fz 4 (p0.map e41))), (14, (eI64 (p0.length : Int))), (15, (eI64 x7))] ∧ H = [(n3, (.mem (.ar 1 (x6.map eU8))))] ∧ byteset_key_l2 k p0 p1 kq x6 x7 = some r) k ⟨(List.replicate (IntKind.i64.wrap ((w64 ((p0.length : Int) + (7 : Int))).tdiv (8 : Int))).toNat (0 : Int)), (0 : Int), rfl, rfl, h⟩ ?_
   rintro kq9 _ _ ⟨x6, x7, rfl, rfl, h⟩
   cases kq9 with
   | zero => rw [byteset_key_l2.eq_1] at h; cases h
   | succ kq9 =>
   rw [byteset_key_l2.eq_2] at h
   generalize hrec8 : byteset_key_l2 k p0 p1 kq9 = rec8 at h
   refine AW.sr ?_
   refine AO.c (x := eBool (decide (x7 < (p0.length : Int)))) (Calm.int rfl rfl rfl rfl) ?_
   refine AO.nK [1, 5, 13, 14, 15, 16] ?_
   refine AW.seq ?_
   rcases of_ite h with ⟨hc10, h⟩ | ⟨hc10, h⟩
   ·refine AW.condP _ rfl hc10 ?_
    refine AW.sK [1, 5, 13, 14, 15] ?_
    refine AW.seq_mid (fun ρ H => ∃ (x11 : (List Int)), ρ = [(1, (eU8 p1)), (5, (.own n3 0 x11.length)), (13, (.fz 4 (p0.map e41))), (14, (eI64 (p0.length : Int))), (15, (eI64 x7))] ∧ H = [(n3, (.mem (.ar 1 (x11.map eU8))))] ∧ byteset_key_c1 k rec8 x7 x11 = some r) ?_ ?_
    ·refine AW.block ?_
     refine AW.sr ?_
     refine AO.c (Calm.move rfl rfl) ?_
     obtain ⟨hg12, h⟩ := of_guard h
     refine AO.c (Calm.idxL (f := e41) rfl rfl rfl hg12 Try.underlying38 sz41) ?_
     refine AO.c (Calm.loadRp rfl rfl ag41 (by rw [sz41]; simp [AV.size])) ?_
     refine AO.alloc rfl 7 rfl (by decide) rfl zr41 lay41 fun n13 => ?_
     refine AO.c (Calm.assign rfl rfl) ?_
     refine AO.store (X' := (.ar 1 ((lget p0 x7).toList.map eU64))) 0 rfl rfl rfl rfl rfl rfl (Put.cast Put.here rfl) rfl (by simp [AV.size]) (by rw [sz41]; simp [AV.size]) rfl ?_
     refine AO.nH [1, 5, 6, 7, 13, 14, 15] (H' := [(n3, (.mem (.ar 1 (x6.map eU8)))), (n13, (.mem (.ar 1 ((lget p0 x7).toList.map eU64))))]) (Sub.cons 1 rfl (Sub.cons 0 rfl (Sub.nil _))) ?_
     refine AW.sr ?_
     refine AO.c (Calm.load 1 rfl rfl rfl (At.cast At.here rfl) ag41 (by rw [sz41]; simp [AV.size])) ?_
     refine AO.c (Calm.move rfl rfl) ?_
     obtain ⟨t14, et14, h⟩ := of_bind h
     refine AO.callS [(.ar 1 ((lget p0 x7).toList.map eU64)), (eU8 p1)] (eBool t14) 22 rfl (by decide) ok82 rfl rfl rfl ⟨rfl, rfl, rfl, rfl, trivial⟩ (byteset_Has_spec et14) ?_
     refine AO.nH [1, 5, 6, 13, 14, 15, 22] (H' := [(n3, (.mem (.ar 1 (x6.map eU8))))]) (Sub.cons 0 rfl (Sub.nil _)) ?_
     rcases of_ite h with ⟨hc15, h⟩ | ⟨hc15, h⟩
     ·refine AW.condT' _ rfl hc15 ?_
      refine AW.reg ?_
      refine AO.c (Calm.move rfl rfl) ?_
      refine AO.c (Calm.move rfl rfl) ?_
      refine AO.c (x := eI64 (IntKind.i64.wrap (x7.tdiv (8 : Int)))) (Calm.quo rfl rfl rfl (by decide)) ?_
      obtain ⟨hg16, h⟩ := of_guard h
      refine AO.c (Calm.idxO 0 rfl rfl rfl rfl hg16 Try.underlying77 sz5) ?_
      refine AO.c (Calm.load 0 rfl rfl rfl (At.cast (At.lidx (IntKind.i64.wrap (x7.tdiv (8 : Int))) hg16.1 hg16.2 At.here) (by omega)) ag5 sz5) ?_
      refine AO.c (Calm.move rfl rfl) ?_
      refine AO.c (x := eI64 (x7.tmod (8 : Int))) (Calm.rem rfl rfl rfl (by decide)) ?_
      refine AO.c (x := eU64 (u64 (x7.tmod (8 : Int)))) (Calm.conv rfl rfl Try.underlying3 Try.underlying132) ?_
      obtain ⟨hg17, h⟩ := of_guard h
      refine AO.c (x := eU8 (IntKind.u8.wrap ((1 : Int) * 2 ^ (min (u64 (x7.tmod (8 : Int))).toNat IntKind.u8.bits)))) (Calm.shl rfl rfl rfl hg17) ?_
      refine AO.c (x := eU8 (bits .or .u8 (lget x6 (IntKind.i64.wrap (x7.tdiv (8 : Int)))) (IntKind.u8.wrap ((1 : Int) * 2 ^ (min (u64 (x7.tmod (8 : Int))).toNat IntKind.u8.bits))))) (Calm.int rfl rfl rfl rfl) ?_
      obtain ⟨hg18, h⟩ := of_guard h
      refine AO.c (Calm.idxO 0 rfl rfl rfl rfl hg18 Try.underlying77 sz5) ?_
      refine AO.store (X' := (.ar 1 ((lset x6 (IntKind.i64.wrap (x7.tdiv (8 : Int))) (bits .or .u8 (lget x6 (IntKind.i64.wrap (x7.tdiv (8 : Int)))) (IntKind.u8.wrap ((1 : Int) * 2 ^ (min (u64 (x7.tmod (8 : Int))).toNat IntKind.u8.bits))))).map eU8))) 0 rfl rfl rfl rfl rfl rfl (Put.cast (Put.lidx (IntKind.i64.wrap (x7.tdiv (8 : Int))) (bits .or .u8 (lget x6 (IntKind.i64.wrap (x7.tdiv (8 : Int)))) (IntKind.u8.wrap ((1 : Int) * 2 ^ (min (u64 (x7.tmod (8 : Int))).toNat IntKind.u8.bits)))) hg18.1 hg18.2 Put.here) (by omega)) rfl rfl sz5 rfl ?_
      refine AO.coe 5 (y' := (.own n3 0 (lset x6 (IntKind.i64.wrap (x7.tdiv (8 : Int))) (bits .or .u8 (lget x6 (IntKind.i64.wrap (x7.tdiv (8 : Int)))) (IntKind.u8.wrap ((1 : Int) * 2 ^ (min (u64 (x7.tmod (8 : Int))).toNat IntKind.u8.bits))))).length)) rfl (fun _ _ h => lset_own h) ?_
      refine AO.coe 23 (y' := (.own n3 0 (lset x6 (IntKind.i64.wrap (x7.tdiv (8 : Int))) (bits .or .u8 (lget x6 (IntKind.i64.wrap (x7.tdiv (8 : Int)))) (IntKind.u8.wrap ((1 : Int) * 2 ^ (min (u64 (x7.tmod (8 : Int))).toNat IntKind.u8.bits))))).length)) rfl (fun _ _ h => lset_own h) ?_
      refine AO.nK [1, 5, 13, 14, 15] ?_
      exact ⟨(lset x6 (IntKind.i64.wrap (x7.tdiv (8 : Int))) (bits .or .u8 (lget x6 (IntKind.i64.wrap (x7.tdiv (8 : Int)))) (IntKind.u8.wrap ((1 : Int) * 2 ^ (min (u64 (x7.tmod (8 : Int))).toNat IntKind.u8.bits))))), rfl, rfl, h⟩
     ·refine AW.condF' _ rfl hc15 ?_
      refine AW.sK [1, 5, 13, 14, 15] ?_
      exact ⟨x6, rfl, rfl, h⟩
    ·rintro _ _ ⟨x11, rfl, rfl, h⟩
     rw [byteset_key_c1.eq_1] at h
     refine AW.reg ?_
     refine AO.c (x := eI64 (w64 (x7 + (1 : Int)))) (Calm.int rfl rfl rfl rfl) ?_
     refine AO.c (Calm.move rfl rfl) ?_
     refine AO.nK [1, 5, 13, 14, 15] ?_
     exact ⟨kq9, Nat.lt_succ_self _, x11, (w64 (x7 + (1 : Int))), rfl, rfl, by rw [hrec8]; exact h⟩
   ·refine AW.condN _ rfl hc10 ?_
    refine AW.eK [5] ?_
    exact ⟨x6, rfl, rfl, h⟩
  ·rintro _ _ ⟨x5, rfl, rfl, h⟩
   rw [byteset_key_c0.eq_1] at h
   refine AW.sr ?_
   refine AO.c (Calm.move rfl rfl) ?_
   refine AO.c (x := eStr (strOfNums x5)) (Calm.strO 0 rfl rfl rfl Try.underlying77 Try.underlying9 Try.underlying5) ?_
   refine AO.c (Calm.assign rfl rfl) ?_
   refine AO.nH [4] (H' := []) (Sub.nil _) ?_
   refine AW.rK [4] ?_
   have hr := Option.some.inj h
   subst hr
   exact ⟨[(eStr (strOfNums x5))], ⟨rfl, rfl, trivial⟩, rfl⟩
end Go.Avl.T5
/- bosket/byteset.Classes; printed by avmain.py. -/
namespace Go.Avl.T5
open Go Go.RowKit Go.Proofs Go.Avl
set_option linter.unusedVariables false
set_option maxRecDepth 100000
set_option maxHeartbeats 4000000
attribute [local irreducible] AW AO AQ Spec SpecH Calm

def byteset_Classes_c0 (k : Nat) (x5 : (Vector Int 256)) : Option (Vector Int 256) :=
  some (x5)
def byteset_Classes_c1 (k : Nat) (rec9 : ((Vector Int 256) → (List (ByteArray × Int)) → Int → Option (Vector Int 256))) (x6 : (Vector Int 256)) (x8 : Int) (x13 : (List (ByteArray × Int))) (x14 : Int) : Option (Vector Int 256) :=
  if 0 ≤ x8 ∧ x8 < (256 : Int) then rec9 (vset x6 x8 (w8 x14)) x13 (w64 (x8 + (1 : Int)))
  else none
def byteset_Classes_l2 (k : Nat) (p0 : (List (Vector Int 4))) : Nat → (Vector Int 256) → (List (ByteArray × Int)) → Int → Option (Vector Int 256)
  | 0, _, _, _ => none
  | j + 1, x6, x7, x8 =>
    if x8 < (256 : Int) then (byteset_key k p0 (w8 x8)).bind fun t12 =>
    if (!((mget x7 t12).isSome)) = true then byteset_Classes_c1 k (byteset_Classes_l2 k p0 j) x6 x8 (mput x7 t12 (x7.length : Int)) (x7.length : Int)
    else byteset_Classes_c1 k (byteset_Classes_l2 k p0 j) x6 x8 x7 ((mget x7 t12).getD (0 : Int))
    else byteset_Classes_c0 k x6
def byteset_Classes (k : Nat) (p0 : (List (Vector Int 4))) : Option (Vector Int 256) :=
  byteset_Classes_l2 k p0 k (Vector.replicate 256 (0 : Int)) ([] : List (ByteArray × Int)) (0 : Int)
theorem byteset_Classes_spec {k : Nat} {p0 : (List (Vector Int 4))} {r : (Vector Int 256)} (h : byteset_Classes k p0 = some r) : Spec Try.prog 48 [(.fz 4 (p0.map e41))] (e27 r) := by
  rw [byteset_Classes.eq_1] at h
  refine Spec.intro (res := [.cell 2 27]) Try.func48 rfl rfl rfl (Nat.le_of_ble_eq_true rfl) ?_
  refine AW.sr ?_
  refine AO.alloc rfl 2 rfl (by decide) rfl zr27 lay27 fun n2 => ?_
  refine AO.nK [0, 2] ?_
  refine AW.sr ?_
  refine AO.alloc rfl 3 rfl (by decide) rfl zr27 lay27 fun n3 => ?_
  refine AO.nH [0, 2, 3] (H' := [(n2, (.mem (.ar 1 ((Vector.replicate 256 (0 : Int)).toList.map eU8)))), (n3, (.mem (.ar 1 ((Vector.replicate 256 (0 : Int)).toList.map eU8))))]) (Sub.cons 1 rfl (Sub.cons 0 rfl (Sub.nil _))) ?_
  refine AW.sr ?_
  refine AO.makeMap rfl 9 rfl (by decide) rfl fun n4 => ?_
  refine AO.c (Calm.assign rfl rfl) ?_
  refine AO.nH [0, 2, 3, 4] (H' := [(n2, (.mem (.ar 1 ((Vector.replicate 256 (0 : Int)).toList.map eU8)))), (n3, (.mem (.ar 1 ((Vector.replicate 256 (0 : Int)).toList.map eU8)))), (n4, (.map (encM Value.string eI64 ([] : List (ByteArray × Int)))))]) (Sub.cons 1 rfl (Sub.cons 1 rfl (Sub.cons 0 rfl (Sub.nil _)))) ?_
  refine AW.seq_mid (fun ρ H => ∃ (x5 : (Vector Int 256)), ρ = [(2, (.ptr n2 0)), (3, (.ptr n3 0))] ∧ H = [(n2, (.mem (.ar 1 ((Vector.replicate 256 (0 : Int)).toList.map eU8)))), (n3, (.mem (.ar 1 (x5.toList.map eU8))))] ∧ byteset_Classes_c0 k x5 = some r) ?_ ?_
  ·refine AW.sr ?_
   refine AO.c (Calm.move rfl rfl) ?_
   refine AO.nK [0, 2, 3, 4, 10] ?_
   refine AW.block ?_
   refine AW.wK [0, 2, 3, 4, 10] ?_
   refine AW.loop (fun kq ρ H => ∃ (x6 : (Vector Int 256)) (x7 : (List (ByteArray × Int))) (x8 : Int), ρ = [(0, (.fz 4 (p0.map e41))), (2, (.ptr n2 0)), (3, (.ptr n3 0)), (4, (.mp n4)), (10, (eI64 x8))] ∧ H = [(n2, (.mem (.ar 1 ((Vector.replicate 256 (0 : Int)).toList.map eU8)))), (n3, (.mem (.ar 1 (x6.toList.map eU8)))), (n4, (.map (encM Value.string eI64 x7)))] ∧ byteset_Classes_l2 k p0 kq x6 x7 x8 = some r) k ⟨(Vector.replicate 256 (0 : Int)), ([] : List (ByteArray × Int)), (0 : Int), rfl, rfl, h⟩ ?_
   rintro kq10 _ _ ⟨x6, x7, x8, rfl, rfl, h⟩
   cases kq10 with
   | zero => rw [byteset_Classes_l2.eq_1] at h; cases h
   | succ kq10 =>
   rw [byteset_Classes_l2.eq_2] at h
   generalize hrec9 : byteset_Classes_l2 k p0 kq10 = rec9 at h
   refine AW.sr ?_
   refine AO.c (x := eBool (decide (x8 < (256 : Int)))) (Calm.int rfl rfl rfl rfl) ?_
   refine AO.nK [0, 2, 3, 4, 10, 11] ?_
   refine AW.seq ?_
   rcases of_ite h with ⟨hc11, h⟩ | ⟨hc11, h⟩
   ·refine AW.condP _ rfl hc11 ?_
    refine AW.sK [0, 2, 3, 4, 10] ?_
    refine AW.seq ?_
    refine AW.block ?_
    refine AW.sr ?_
    refine AO.c (Calm.move rfl rfl) ?_
    refine AO.c (Calm.assign rfl rfl) ?_
    refine AO.nK [0, 2, 3, 4, 5, 10] ?_
    refine AW.sr ?_
    refine AO.c (Calm.move rfl rfl) ?_
    refine AO.c (Calm.move rfl rfl) ?_
    refine AO.c (x := eU8 (w8 x8)) (Calm.conv rfl rfl Try.underlying3 Try.underlying5) ?_
    obtain ⟨t12, et12, h⟩ := of_bind h
    refine AO.callS [(.fz 4 (p0.map e41)), (eU8 (w8 x8))] (eStr t12) 16 rfl (by decide) ok79 rfl rfl rfl ⟨rfl, rfl, rfl, rfl, trivial⟩ (byteset_key_spec et12) ?_
    refine AO.c (Calm.assign rfl rfl) ?_
    refine AO.nK [0, 2, 3, 4, 5, 6, 10] ?_
    refine AW.sr ?_
    refine AO.c (Calm.move rfl rfl) ?_
    refine AO.c (Calm.move rfl rfl) ?_
    refine AO.c (x := .tup [(eI64 ((mget x7 t12).getD (0 : Int))), (eBool ((mget x7 t12).isSome))]) (Calm.look2 (f := eI64) string_inj string_key (0 : Int) 2 rfl rfl rfl rfl Try.underlying76 Try.underlying9 mz3) ?_
    refine AO.c (Calm.move rfl rfl) ?_
    refine AO.c (Calm.extract rfl rfl rfl) ?_
    refine AO.c (Calm.extract rfl rfl rfl) ?_
    refine AO.c (Calm.assign rfl rfl) ?_
    refine AO.c (Calm.assign rfl rfl) ?_
    refine AO.nK [0, 2, 3, 4, 5, 6, 7, 8, 10] ?_
    refine AW.seq_mid (fun ρ H => ∃ (x13 : (List (ByteArray × Int))) (x14 : Int), ρ = [(0, (.fz 4 (p0.map e41))), (2, (.ptr n2 0)), (3, (.ptr n3 0)), (4, (.mp n4)), (5, (eI64 x8)), (7, (eI64 x14)), (10, (eI64 x8))] ∧ H = [(n2, (.mem (.ar 1 ((Vector.replicate 256 (0 : Int)).toList.map eU8)))), (n3, (.mem (.ar 1 (x6.toList.map eU8)))), (n4, (.map (encM Value.string eI64 x13)))] ∧ byteset_Classes_c1 k rec9 x6 x8 x13 x14 = some r) ?_ ?_
    ·refine AW.sr ?_
     refine AO.c (Calm.move rfl rfl) ?_
     refine AO.c (Calm.not rfl rfl) ?_
     refine AO.nK [0, 2, 3, 4, 5, 6, 7, 10, 24] ?_
     rcases of_ite h with ⟨hc16, h⟩ | ⟨hc16, h⟩
     ·refine AW.condT' _ rfl hc16 ?_
      refine AW.sr ?_
      refine AO.c (Calm.move rfl rfl) ?_
      refine AO.c (x := eI64 (x7.length : Int)) (Calm.lenMap 2 rfl rfl rfl Try.underlying76) ?_
      refine AO.c (Calm.assign rfl rfl) ?_
      refine AO.nK [0, 2, 3, 4, 5, 6, 7, 10] ?_
      refine AW.reg ?_
      refine AO.c (Calm.move rfl rfl) ?_
      refine AO.c (Calm.move rfl rfl) ?_
      refine AO.c (Calm.move rfl rfl) ?_
      refine AO.mapPut (f := eI64) string_inj string_key 2 rfl rfl rfl rfl rfl rfl rfl rfl Try.underlying76 Try.underlying9 ?_
      refine AO.nK [0, 2, 3, 4, 5, 7, 10] ?_
      exact ⟨(mput x7 t12 (x7.length : Int)), (x7.length : Int), rfl, rfl, h⟩
     ·refine AW.condF' _ rfl hc16 ?_
      refine AW.sK [0, 2, 3, 4, 5, 7, 10] ?_
      exact ⟨x7, ((mget x7 t12).getD (0 : Int)), rfl, rfl, h⟩
    ·rintro _ _ ⟨x13, x14, rfl, rfl, h⟩
     rw [byteset_Classes_c1.eq_1] at h
     refine AW.reg ?_
     refine AO.c (Calm.move rfl rfl) ?_
     refine AO.c (Calm.move rfl rfl) ?_
     refine AO.c (x := eU8 (w8 x14)) (Calm.conv rfl rfl Try.underlying3 Try.underlying5) ?_
     obtain ⟨hg15, h⟩ := of_guard h
     refine AO.c (Calm.idxP rfl rfl rfl hg15 Try.underlying27 sz5) ?_
     refine AO.store (X' := (.ar 1 ((vset x6 x8 (w8 x14)).toList.map eU8))) 1 rfl rfl rfl rfl rfl rfl (Put.cast (Put.vidx x8 (w8 x14) hg15.1 hg15.2 Put.here) (by omega)) rfl rfl sz5 rfl ?_
     refine AO.nK [0, 2, 3, 4, 10] ?_
     refine AW.reg ?_
     refine AO.c (x := eI64 (w64 (x8 + (1 : Int)))) (Calm.int rfl rfl rfl rfl) ?_
     refine AO.c (Calm.move rfl rfl) ?_
     refine AO.nK [0, 2, 3, 4, 10] ?_
     exact ⟨kq10, Nat.lt_succ_self _, (vset x6 x8 (w8 x14)), x13, (w64 (x8 + (1 : Int))), rfl, rfl, by rw [hrec9]; exact h⟩
   ·refine AW.condN _ rfl hc11 ?_
    refine AW.eH [2, 3] (H' := [(n2, (.mem (.ar 1 ((Vector.replicate 256 (0 : Int)).toList.map eU8)))), (n3, (.mem (.ar 1 (x6.toList.map eU8))))]) (Sub.cons 0 rfl (Sub.cons 0 rfl (Sub.nil _))) ?_
    exact ⟨x6, rfl, rfl, h⟩
  ·rintro _ _ ⟨x5, rfl, rfl, h⟩
   rw [byteset_Classes_c0.eq_1] at h
   refine AW.sr ?_
   refine AO.c (Calm.load 1 rfl rfl rfl (At.cast At.here rfl) ag27 (by rw [sz27]; simp [AV.size])) ?_
   refine AO.store (X' := (.ar 1 (x5.toList.map eU8))) 0 rfl rfl rfl rfl rfl rfl (Put.cast Put.here rfl) rfl (by simp [AV.size]) (by rw [sz27]; simp [AV.size]) rfl ?_
   refine AO.nH [2] (H' := [(n2, (.mem (.ar 1 (x5.toList.map eU8))))]) (Sub.cons 0 rfl (Sub.nil _)) ?_
   refine AW.rK [2] ?_
   have hr := Option.some.inj h
   subst hr
   exact ⟨[(.ar 1 (x5.toList.map eU8))], ⟨⟨_, 0, rfl, rfl, ag27, (by rw [sz27]; simp [AV.size])⟩, trivial⟩, rfl⟩
end Go.Avl.T5
/- bosket/bosketref02.Class; printed by avmain.py. -/
namespace Go.Avl.T5
open Go Go.RowKit Go.Proofs Go.Avl
set_option linter.unusedVariables false
set_option maxRecDepth 100000
set_option maxHeartbeats 4000000
attribute [local irreducible] AW AO AQ Spec SpecH Calm

end Go.Avl.T5
/- bosket/byteset.Count; printed by avmain.py. -/
namespace Go.Avl.T5
open Go Go.RowKit Go.Proofs Go.Avl
set_option linter.unusedVariables false
set_option maxRecDepth 100000
set_option maxHeartbeats 4000000
attribute [local irreducible] AW AO AQ Spec SpecH Calm

end Go.Avl.T5
/- bosket/bosketref06.Right; printed by avmain.py. -/
namespace Go.Avl.T5
open Go Go.RowKit Go.Proofs Go.Avl
set_option linter.unusedVariables false
set_option maxRecDepth 100000
set_option maxHeartbeats 4000000
attribute [local irreducible] AW AO AQ Spec SpecH Calm

def bosketref06_Right_c0 (k : Nat) (b8 : Bool) : Option Bool :=
  some (b8)
def bosketref06_Right_l1 (k : Nat) (p0 : S24) : Nat → Bool → Int → Option Bool
  | 0, _, _ => none
  | j + 1, b9, x10 =>
    if x10 < (p0.f1.length : Int) then if 0 ≤ x10 ∧ x10 < (p0.f1.length : Int) then Option.bind (α := Bool) (if b9 = true then if (0 : Int) ≤ ((lget p0.f1 x10).f0) then if ((lget p0.f1 x10).f0) < p0.f0 then if (0 : Int) ≤ ((lget p0.f1 x10).f1) then some (decide (((lget p0.f1 x10).f1) < p0.f0))
    else some (false)
    else some (false)
    else some (false)
    else some (false)) fun b16 =>
    (bosketref06_Right_l1 k p0 j) b16 (w64 (x10 + (1 : Int)))
    else none
    else bosketref06_Right_c0 k b9
def bosketref06_Right (k : Nat) (p0 : S24) : Option Bool :=
  Option.bind (α := Bool) (if (0 : Int) ≤ p0.f2 then if p0.f2 < p0.f0 then if (0 : Int) ≤ p0.f3 then some (decide (p0.f3 < p0.f0))
  else some (false)
  else some (false)
  else some (false)) fun b3 =>
  bosketref06_Right_l1 k p0 k b3 (0 : Int)
theorem bosketref06_Right_spec {k : Nat} {p0 : S24} {r : Bool} (h : bosketref06_Right k p0 = some r) : Spec Try.prog 14 [(e24 p0)] (eBool r) := by
  rw [bosketref06_Right.eq_1] at h
  refine Spec.intro (res := [.tmp 2]) Try.func14 rfl rfl rfl (Nat.le_of_ble_eq_true rfl) ?_
  refine AW.sr ?_
  refine AO.box rfl 1 rfl (by decide) rfl rfl rfl fun n2 => ?_
  refine AO.c (Calm.assign rfl rfl) ?_
  refine AO.nK [1] ?_
  refine AW.seq ?_
  obtain ⟨b3, hq4, h⟩ := of_bind h
  refine AW.regM [(1, (.ptr n2 0)), (3, (eBool b3))] [(n2, (.mem (e24 p0)))] ?_ ?_
  ·refine AO.c (x := .ptr n2 2) (Calm.fldPtr rfl rfl Try.underlying24 rfl sz3 _ rfl) ?_
   refine AO.c (Calm.load 0 rfl rfl rfl (At.cast (At.fldS (At.fldS (At.fld0 At.here))) rfl) ag3 sz3) ?_
   refine AO.c (x := eBool (decide ((0 : Int) ≤ p0.f2))) (Calm.int rfl rfl rfl rfl) ?_
   refine AO.c (Calm.move rfl rfl) ?_
   rcases of_ite hq4 with ⟨hc5, hq4⟩ | ⟨hc5, hq4⟩
   ·refine AO.cG (x := .ptr n2 2) rfl rfl (bD (decide_eq_true hc5)) (Calm.fldPtr rfl rfl Try.underlying24 rfl sz3 _ rfl) ?_
    refine AO.cG rfl rfl (bD (decide_eq_true hc5)) (Calm.load 0 rfl rfl rfl (At.cast (At.fldS (At.fldS (At.fld0 At.here))) rfl) ag3 sz3) ?_
    refine AO.cG (x := .ptr n2 0) rfl rfl (bD (decide_eq_true hc5)) (Calm.fldPtr rfl rfl Try.underlying24 rfl sz3 _ rfl) ?_
    refine AO.cG rfl rfl (bD (decide_eq_true hc5)) (Calm.load 0 rfl rfl rfl (At.cast (At.fld0 At.here) rfl) ag3 sz3) ?_
    refine AO.cG (x := eBool (decide (p0.f2 < p0.f0))) rfl rfl (bD (decide_eq_true hc5)) (Calm.int rfl rfl rfl rfl) ?_
    refine AO.c (Calm.pickT rfl (bD (decide_eq_true hc5)) rfl) ?_
    refine AO.c (Calm.move rfl rfl) ?_
    rcases of_ite hq4 with ⟨hc6, hq4⟩ | ⟨hc6, hq4⟩
    ·refine AO.cG (x := .ptr n2 3) rfl rfl (bD (decide_eq_true hc6)) (Calm.fldPtr rfl rfl Try.underlying24 rfl sz3 _ rfl) ?_
     refine AO.cG rfl rfl (bD (decide_eq_true hc6)) (Calm.load 0 rfl rfl rfl (At.cast (At.fldS (At.fldS (At.fldS (At.fld0 At.here)))) rfl) ag3 sz3) ?_
     refine AO.cG (x := eBool (decide ((0 : Int) ≤ p0.f3))) rfl rfl (bD (decide_eq_true hc6)) (Calm.int rfl rfl rfl rfl) ?_
     refine AO.c (Calm.pickT rfl (bD (decide_eq_true hc6)) rfl) ?_
     refine AO.c (Calm.move rfl rfl) ?_
     rcases of_ite hq4 with ⟨hc7, hq4⟩ | ⟨hc7, hq4⟩
     ·refine AO.cG (x := .ptr n2 3) rfl rfl (bD (decide_eq_true hc7)) (Calm.fldPtr rfl rfl Try.underlying24 rfl sz3 _ rfl) ?_
      refine AO.cG rfl rfl (bD (decide_eq_true hc7)) (Calm.load 0 rfl rfl rfl (At.cast (At.fldS (At.fldS (At.fldS (At.fld0 At.here)))) rfl) ag3 sz3) ?_
      refine AO.cG (x := .ptr n2 0) rfl rfl (bD (decide_eq_true hc7)) (Calm.fldPtr rfl rfl Try.underlying24 rfl sz3 _ rfl) ?_
      refine AO.cG rfl rfl (bD (decide_eq_true hc7)) (Calm.load 0 rfl rfl rfl (At.cast (At.fld0 At.here) rfl) ag3 sz3) ?_
      refine AO.cG (x := eBool (decide (p0.f3 < p0.f0))) rfl rfl (bD (decide_eq_true hc7)) (Calm.int rfl rfl rfl rfl) ?_
      refine AO.c (Calm.pickT rfl (bD (decide_eq_true hc7)) rfl) ?_
      refine AO.c (Calm.assign rfl rfl) ?_
      cases hq4
      refine AO.nilE ⟨rfl, rfl⟩ ?_ ?_
      · exact ⟨rfl, rfl, trivial⟩
      · exact (Sub.refl _)
     ·refine AO.sT rfl rfl (bD (decide_eq_false hc7)) ?_
      refine AO.sT rfl rfl (bD (decide_eq_false hc7)) ?_
      refine AO.sT rfl rfl (bD (decide_eq_false hc7)) ?_
      refine AO.sT rfl rfl (bD (decide_eq_false hc7)) ?_
      refine AO.sT rfl rfl (bD (decide_eq_false hc7)) ?_
      refine AO.c (Calm.pickF rfl (bD (decide_eq_false hc7)) rfl) ?_
      refine AO.c (Calm.assign rfl rfl) ?_
      cases hq4
      refine AO.nilE ⟨rfl, rfl⟩ ?_ ?_
      · exact ⟨rfl, rfl, trivial⟩
      · exact (Sub.refl _)
    ·refine AO.sT rfl rfl (bD (decide_eq_false hc6)) ?_
     refine AO.sT rfl rfl (bD (decide_eq_false hc6)) ?_
     refine AO.sT rfl rfl (bD (decide_eq_false hc6)) ?_
     refine AO.c (Calm.pickF rfl (bD (decide_eq_false hc6)) rfl) ?_
     refine AO.c (Calm.move rfl rfl) ?_
     refine AO.sT rfl rfl rfl ?_
     refine AO.sT rfl rfl rfl ?_
     refine AO.sT rfl rfl rfl ?_
     refine AO.sT rfl rfl rfl ?_
     refine AO.sT rfl rfl rfl ?_
     refine AO.c (Calm.pickF rfl rfl rfl) ?_
     refine AO.c (Calm.assign rfl rfl) ?_
     cases hq4
     refine AO.nilE ⟨rfl, rfl⟩ ?_ ?_
     · exact ⟨rfl, rfl, trivial⟩
     · exact (Sub.refl _)
   ·refine AO.sT rfl rfl (bD (decide_eq_false hc5)) ?_
    refine AO.sT rfl rfl (bD (decide_eq_false hc5)) ?_
    refine AO.sT rfl rfl (bD (decide_eq_false hc5)) ?_
    refine AO.sT rfl rfl (bD (decide_eq_false hc5)) ?_
    refine AO.sT rfl rfl (bD (decide_eq_false hc5)) ?_
    refine AO.c (Calm.pickF rfl (bD (decide_eq_false hc5)) rfl) ?_
    refine AO.c (Calm.move rfl rfl) ?_
    refine AO.sT rfl rfl rfl ?_
    refine AO.sT rfl rfl rfl ?_
    refine AO.sT rfl rfl rfl ?_
    refine AO.c (Calm.pickF rfl rfl rfl) ?_
    refine AO.c (Calm.move rfl rfl) ?_
    refine AO.sT rfl rfl rfl ?_
    refine AO.sT rfl rfl rfl ?_
    refine AO.sT rfl rfl rfl ?_
    refine AO.sT rfl rfl rfl ?_
    refine AO.sT rfl rfl rfl ?_
    refine AO.c (Calm.pickF rfl rfl rfl) ?_
    refine AO.c (Calm.assign rfl rfl) ?_
    cases hq4
    refine AO.nilE ⟨rfl, rfl⟩ ?_ ?_
    · exact ⟨rfl, rfl, trivial⟩
    · exact (Sub.refl _)
  ·refine AW.seq_mid (fun ρ H => ∃ (b8 : Bool), ρ = [(3, (eBool b8))] ∧ H = [] ∧ bosketref06_Right_c0 k b8 = some r) ?_ ?_
   ·refine AW.sr ?_
    refine AO.c (Calm.assign rfl rfl) ?_
    refine AO.nK [1, 3, 4] ?_
    refine AW.block ?_
    refine AW.wK [1, 3, 4] ?_
    refine AW.loop (fun kq ρ H => ∃ (b9 : Bool) (x10 : Int), ρ = [(1, (.ptr n2 0)), (3, (eBool b9)), (4, (eI64 x10))] ∧ H = [(n2, (.mem (e24 p0)))] ∧ bosketref06_Right_l1 k p0 kq b9 x10 = some r) k ⟨b3, (0 : Int), rfl, rfl, h⟩ ?_
    rintro kq12 _ _ ⟨b9, x10, rfl, rfl, h⟩
    cases kq12 with
    | zero => rw [bosketref06_Right_l1.eq_1] at h; cases h
    | succ kq12 =>
    rw [bosketref06_Right_l1.eq_2] at h
    generalize hrec11 : bosketref06_Right_l1 k p0 kq12 = rec11 at h
    refine AW.seq ?_
    refine AW.sr ?_
    refine AO.c (Calm.move rfl rfl) ?_
    refine AO.c (x := .ptr n2 1) (Calm.fldPtr rfl rfl Try.underlying24 rfl sz22 _ rfl) ?_
    refine AO.c (Calm.load 0 rfl rfl rfl (At.cast (At.fldS (At.fld0 At.here)) rfl) ag22 sz22) ?_
    refine AO.c (Calm.lenL rfl rfl Try.underlying22) ?_
    refine AO.c (x := eBool (decide (x10 < (p0.f1.length : Int)))) (Calm.int rfl rfl rfl rfl) ?_
    refine AO.nK [1, 3, 4, 32] ?_
    rcases of_ite h with ⟨hc13, h⟩ | ⟨hc13, h⟩
    ·refine AW.condP _ rfl hc13 ?_
     refine AW.sK [1, 3, 4] ?_
     refine AW.seq ?_
     refine AW.block ?_
     refine AW.sr ?_
     refine AO.c (x := .ptr n2 1) (Calm.fldPtr rfl rfl Try.underlying24 rfl sz22 _ rfl) ?_
     refine AO.c (Calm.load 0 rfl rfl rfl (At.cast (At.fldS (At.fld0 At.here)) rfl) ag22 sz22) ?_
     refine AO.c (Calm.move rfl rfl) ?_
     obtain ⟨hg14, h⟩ := of_guard h
     refine AO.c (Calm.idxL (f := e43) rfl rfl rfl hg14 Try.underlying22 sz43) ?_
     refine AO.c (Calm.loadRp rfl rfl ag43 sz43) ?_
     refine AO.alloc rfl 5 rfl (by decide) rfl zr43 lay43 fun n15 => ?_
     refine AO.store (X' := (e43 (lget p0.f1 x10))) 0 rfl rfl rfl rfl rfl rfl (Put.cast Put.here rfl) rfl rfl sz43 rfl ?_
     refine AO.nH [1, 3, 4, 5] (H' := [(n2, (.mem (e24 p0))), (n15, (.mem (e43 (lget p0.f1 x10))))]) (Sub.cons 1 rfl (Sub.cons 0 rfl (Sub.nil _))) ?_
     obtain ⟨b16, hq17, h⟩ := of_bind h
     refine AW.regM [(1, (.ptr n2 0)), (3, (eBool b16)), (4, (eI64 x10))] [(n2, (.mem (e24 p0)))] ?_ ?_
     ·refine AO.c (Calm.move rfl rfl) ?_
      refine AO.c (Calm.move rfl rfl) ?_
      rcases of_ite hq17 with ⟨hc18, hq17⟩ | ⟨hc18, hq17⟩
      ·refine AO.cG (x := .ptr n15 0) rfl rfl (bD hc18) (Calm.fldPtr rfl rfl Try.underlying43 rfl sz3 _ rfl) ?_
       refine AO.cG rfl rfl (bD hc18) (Calm.load 1 rfl rfl rfl (At.cast (At.fld0 At.here) rfl) ag3 sz3) ?_
       refine AO.cG (x := eBool (decide ((0 : Int) ≤ ((lget p0.f1 x10).f0)))) rfl rfl (bD hc18) (Calm.int rfl rfl rfl rfl) ?_
       refine AO.c (Calm.pickT rfl (bD hc18) rfl) ?_
       refine AO.c (Calm.move rfl rfl) ?_
       rcases of_ite hq17 with ⟨hc19, hq17⟩ | ⟨hc19, hq17⟩
       ·refine AO.cG (x := .ptr n15 0) rfl rfl (bD (decide_eq_true hc19)) (Calm.fldPtr rfl rfl Try.underlying43 rfl sz3 _ rfl) ?_
        refine AO.cG rfl rfl (bD (decide_eq_true hc19)) (Calm.load 1 rfl rfl rfl (At.cast (At.fld0 At.here) rfl) ag3 sz3) ?_
        refine AO.cG (x := .ptr n2 0) rfl rfl (bD (decide_eq_true hc19)) (Calm.fldPtr rfl rfl Try.underlying24 rfl sz3 _ rfl) ?_
        refine AO.cG rfl rfl (bD (decide_eq_true hc19)) (Calm.load 0 rfl rfl rfl (At.cast (At.fld0 At.here) rfl) ag3 sz3) ?_
        refine AO.cG (x := eBool (decide (((lget p0.f1 x10).f0) < p0.f0))) rfl rfl (bD (decide_eq_true hc19)) (Calm.int rfl rfl rfl rfl) ?_
        refine AO.c (Calm.pickT rfl (bD (decide_eq_true hc19)) rfl) ?_
        refine AO.c (Calm.move rfl rfl) ?_
        rcases of_ite hq17 with ⟨hc20, hq17⟩ | ⟨hc20, hq17⟩
        ·refine AO.cG (x := .ptr n15 1) rfl rfl (bD (decide_eq_true hc20)) (Calm.fldPtr rfl rfl Try.underlying43 rfl sz3 _ rfl) ?_
         refine AO.cG rfl rfl (bD (decide_eq_true hc20)) (Calm.load 1 rfl rfl rfl (At.cast (At.fldS (At.fld0 At.here)) rfl) ag3 sz3) ?_
         refine AO.cG (x := eBool (decide ((0 : Int) ≤ ((lget p0.f1 x10).f1)))) rfl rfl (bD (decide_eq_true hc20)) (Calm.int rfl rfl rfl rfl) ?_
         refine AO.c (Calm.pickT rfl (bD (decide_eq_true hc20)) rfl) ?_
         refine AO.c (Calm.move rfl rfl) ?_
         rcases of_ite hq17 with ⟨hc21, hq17⟩ | ⟨hc21, hq17⟩
         ·refine AO.cG (x := .ptr n15 1) rfl rfl (bD (decide_eq_true hc21)) (Calm.fldPtr rfl rfl Try.underlying43 rfl sz3 _ rfl) ?_
          refine AO.cG rfl rfl (bD (decide_eq_true hc21)) (Calm.load 1 rfl rfl rfl (At.cast (At.fldS (At.fld0 At.here)) rfl) ag3 sz3) ?_
          refine AO.cG (x := .ptr n2 0) rfl rfl (bD (decide_eq_true hc21)) (Calm.fldPtr rfl rfl Try.underlying24 rfl sz3 _ rfl) ?_
          refine AO.cG rfl rfl (bD (decide_eq_true hc21)) (Calm.load 0 rfl rfl rfl (At.cast (At.fld0 At.here) rfl) ag3 sz3) ?_
          refine AO.cG (x := eBool (decide (((lget p0.f1 x10).f1) < p0.f0))) rfl rfl (bD (decide_eq_true hc21)) (Calm.int rfl rfl rfl rfl) ?_
          refine AO.c (Calm.pickT rfl (bD (decide_eq_true hc21)) rfl) ?_
          refine AO.c (Calm.assign rfl rfl) ?_
          cases hq17
          refine AO.nilE ⟨rfl, rfl⟩ ?_ ?_
          · exact ⟨rfl, rfl, rfl, trivial⟩
          · exact (Sub.cons 0 rfl (Sub.nil _))
         ·refine AO.sT rfl rfl (bD (decide_eq_false hc21)) ?_
          refine AO.sT rfl rfl (bD (decide_eq_false hc21)) ?_
          refine AO.sT rfl rfl (bD (decide_eq_false hc21)) ?_
          refine AO.sT rfl rfl (bD (decide_eq_false hc21)) ?_
          refine AO.sT rfl rfl (bD (decide_eq_false hc21)) ?_
          refine AO.c (Calm.pickF rfl (bD (decide_eq_false hc21)) rfl) ?_
          refine AO.c (Calm.assign rfl rfl) ?_
          cases hq17
          refine AO.nilE ⟨rfl, rfl⟩ ?_ ?_
          · exact ⟨rfl, rfl, rfl, trivial⟩
          · exact (Sub.cons 0 rfl (Sub.nil _))
        ·refine AO.sT rfl rfl (bD (decide_eq_false hc20)) ?_
         refine AO.sT rfl rfl (bD (decide_eq_false hc20)) ?_
         refine AO.sT rfl rfl (bD (decide_eq_false hc20)) ?_
         refine AO.c (Calm.pickF rfl (bD (decide_eq_false hc20)) rfl) ?_
         refine AO.c (Calm.move rfl rfl) ?_
         refine AO.sT rfl rfl rfl ?_
         refine AO.sT rfl rfl rfl ?_
         refine AO.sT rfl rfl rfl ?_
         refine AO.sT rfl rfl rfl ?_
         refine AO.sT rfl rfl rfl ?_
         refine AO.c (Calm.pickF rfl rfl rfl) ?_
         refine AO.c (Calm.assign rfl rfl) ?_
         cases hq17
         refine AO.nilE ⟨rfl, rfl⟩ ?_ ?_
         · exact ⟨rfl, rfl, rfl, trivial⟩
         · exact (Sub.cons 0 rfl (Sub.nil _))
       ·refine AO.sT rfl rfl (bD (decide_eq_false hc19)) ?_
        refine AO.sT rfl rfl (bD (decide_eq_false hc19)) ?_
        refine AO.sT rfl rfl (bD (decide_eq_false hc19)) ?_
        refine AO.sT rfl rfl (bD (decide_eq_false hc19)) ?_
        refine AO.sT rfl rfl (bD (decide_eq_false hc19)) ?_
        refine AO.c (Calm.pickF rfl (bD (decide_eq_false hc19)) rfl) ?_
        refine AO.c (Calm.move rfl rfl) ?_
        refine AO.sT rfl rfl rfl ?_
        refine AO.sT rfl rfl rfl ?_
        refine AO.sT rfl rfl rfl ?_
        refine AO.c (Calm.pickF rfl rfl rfl) ?_
        refine AO.c (Calm.move rfl rfl) ?_
        refine AO.sT rfl rfl rfl ?_
        refine AO.sT rfl rfl rfl ?_
        refine AO.sT rfl rfl rfl ?_
        refine AO.sT rfl rfl rfl ?_
        refine AO.sT rfl rfl rfl ?_
        refine AO.c (Calm.pickF rfl rfl rfl) ?_
        refine AO.c (Calm.assign rfl rfl) ?_
        cases hq17
        refine AO.nilE ⟨rfl, rfl⟩ ?_ ?_
        · exact ⟨rfl, rfl, rfl, trivial⟩
        · exact (Sub.cons 0 rfl (Sub.nil _))
      ·refine AO.sT rfl rfl (bD (eq_false_of_ne_true hc18)) ?_
       refine AO.sT rfl rfl (bD (eq_false_of_ne_true hc18)) ?_
       refine AO.sT rfl rfl (bD (eq_false_of_ne_true hc18)) ?_
       refine AO.c (Calm.pickF rfl (bD (eq_false_of_ne_true hc18)) rfl) ?_
       refine AO.c (Calm.move rfl rfl) ?_
       refine AO.sT rfl rfl rfl ?_
       refine AO.sT rfl rfl rfl ?_
       refine AO.sT rfl rfl rfl ?_
       refine AO.sT rfl rfl rfl ?_
       refine AO.sT rfl rfl rfl ?_
       refine AO.c (Calm.pickF rfl rfl rfl) ?_
       refine AO.c (Calm.move rfl rfl) ?_
       refine AO.sT rfl rfl rfl ?_
       refine AO.sT rfl rfl rfl ?_
       refine AO.sT rfl rfl rfl ?_
       refine AO.c (Calm.pickF rfl rfl rfl) ?_
       refine AO.c (Calm.move rfl rfl) ?_
       refine AO.sT rfl rfl rfl ?_
       refine AO.sT rfl rfl rfl ?_
       refine AO.sT rfl rfl rfl ?_
       refine AO.sT rfl rfl rfl ?_
       refine AO.sT rfl rfl rfl ?_
       refine AO.c (Calm.pickF rfl rfl rfl) ?_
       refine AO.c (Calm.assign rfl rfl) ?_
       cases hq17
       refine AO.nilE ⟨rfl, rfl⟩ ?_ ?_
       · exact ⟨rfl, rfl, rfl, trivial⟩
       · exact (Sub.cons 0 rfl (Sub.nil _))
     ·refine AW.reg ?_
      refine AO.c (Calm.move rfl rfl) ?_
      refine AO.c (x := eI64 (w64 (x10 + (1 : Int)))) (Calm.int rfl rfl rfl rfl) ?_
      refine AO.c (Calm.assign rfl rfl) ?_
      refine AO.nK [1, 3, 4] ?_
      exact ⟨kq12, Nat.lt_succ_self _, b16, (w64 (x10 + (1 : Int))), rfl, rfl, by rw [hrec11]; exact h⟩
    ·refine AW.condN _ rfl hc13 ?_
     refine AW.eH [3] (H' := []) (Sub.nil _) ?_
     exact ⟨b9, rfl, rfl, h⟩
   ·rintro _ _ ⟨b8, rfl, rfl, h⟩
    rw [bosketref06_Right_c0.eq_1] at h
    refine AW.sr ?_
    refine AO.c (Calm.move rfl rfl) ?_
    refine AO.c (Calm.assign rfl rfl) ?_
    refine AO.nK [2] ?_
    refine AW.rK [2] ?_
    have hr := Option.some.inj h
    subst hr
    exact ⟨[(eBool b8)], ⟨rfl, rfl, trivial⟩, rfl⟩
end Go.Avl.T5
/- bosket/nfa.Right; printed by avmain.py. -/
namespace Go.Avl.T5
open Go Go.RowKit Go.Proofs Go.Avl
set_option linter.unusedVariables false
set_option maxRecDepth 100000
set_option maxHeartbeats 4000000
attribute [local irreducible] AW AO AQ Spec SpecH Calm

def nfa_Right_c0 (k : Nat) : Option Bool :=
  some (true)
def nfa_Right_l1 (k : Nat) (p0 : S24) : Nat → Int → Option Bool
  | 0, _ => none
  | j + 1, x9 =>
    if x9 < (p0.f1.length : Int) then if 0 ≤ x9 ∧ x9 < (p0.f1.length : Int) then Option.bind (α := Bool) (if ((lget p0.f1 x9).f0) < (0 : Int) then some (true)
    else if p0.f0 ≤ ((lget p0.f1 x9).f0) then some (true)
    else if ((lget p0.f1 x9).f1) < (0 : Int) then some (true)
    else some (decide (p0.f0 ≤ ((lget p0.f1 x9).f1)))) fun b15 =>
    if b15 = true then some (false)
    else (nfa_Right_l1 k p0 j) (w64 (x9 + (1 : Int)))
    else none
    else nfa_Right_c0 k
def nfa_Right (k : Nat) (p0 : S24) : Option Bool :=
  Option.bind (α := Bool) (if p0.f2 < (0 : Int) then some (true)
  else if p0.f0 ≤ p0.f2 then some (true)
  else if p0.f3 < (0 : Int) then some (true)
  else some (decide (p0.f0 ≤ p0.f3))) fun b3 =>
  if b3 = true then some (false)
  else nfa_Right_l1 k p0 k (0 : Int)
theorem nfa_Right_spec {k : Nat} {p0 : S24} {r : Bool} (h : nfa_Right k p0 = some r) : Spec Try.prog 47 [(e24 p0)] (eBool r) := by
  rw [nfa_Right.eq_1] at h
  refine Spec.intro (res := [.tmp 2]) Try.func47 rfl rfl rfl (Nat.le_of_ble_eq_true rfl) ?_
  refine AW.sr ?_
  refine AO.box rfl 1 rfl (by decide) rfl rfl rfl fun n2 => ?_
  refine AO.c (Calm.assign rfl rfl) ?_
  refine AO.nK [1] ?_
  refine AW.seq ?_
  refine AW.seq ?_
  obtain ⟨b3, hq4, h⟩ := of_bind h
  refine AW.regM [(1, (.ptr n2 0)), (26, (eBool b3))] [(n2, (.mem (e24 p0)))] ?_ ?_
  ·refine AO.c (x := .ptr n2 2) (Calm.fldPtr rfl rfl Try.underlying24 rfl sz3 _ rfl) ?_
   refine AO.c (Calm.load 0 rfl rfl rfl (At.cast (At.fldS (At.fldS (At.fld0 At.here))) rfl) ag3 sz3) ?_
   refine AO.c (x := eBool (decide (p0.f2 < (0 : Int)))) (Calm.int rfl rfl rfl rfl) ?_
   refine AO.c (Calm.move rfl rfl) ?_
   rcases of_ite hq4 with ⟨hc5, hq4⟩ | ⟨hc5, hq4⟩
   ·refine AO.sF rfl rfl (bD (decide_eq_true hc5)) ?_
    refine AO.sF rfl rfl (bD (decide_eq_true hc5)) ?_
    refine AO.sF rfl rfl (bD (decide_eq_true hc5)) ?_
    refine AO.sF rfl rfl (bD (decide_eq_true hc5)) ?_
    refine AO.sF rfl rfl (bD (decide_eq_true hc5)) ?_
    refine AO.c (Calm.pickT rfl (bD (decide_eq_true hc5)) rfl) ?_
    refine AO.c (Calm.move rfl rfl) ?_
    refine AO.sF rfl rfl rfl ?_
    refine AO.sF rfl rfl rfl ?_
    refine AO.sF rfl rfl rfl ?_
    refine AO.c (Calm.pickT rfl rfl rfl) ?_
    refine AO.c (Calm.move rfl rfl) ?_
    refine AO.sF rfl rfl rfl ?_
    refine AO.sF rfl rfl rfl ?_
    refine AO.sF rfl rfl rfl ?_
    refine AO.sF rfl rfl rfl ?_
    refine AO.sF rfl rfl rfl ?_
    refine AO.c (Calm.pickT rfl rfl rfl) ?_
    cases hq4
    refine AO.nilE ⟨rfl, rfl⟩ ?_ ?_
    · exact ⟨rfl, rfl, trivial⟩
    · exact (Sub.refl _)
   ·refine AO.cG (x := .ptr n2 2) rfl rfl (bD (decide_eq_false hc5)) (Calm.fldPtr rfl rfl Try.underlying24 rfl sz3 _ rfl) ?_
    refine AO.cG rfl rfl (bD (decide_eq_false hc5)) (Calm.load 0 rfl rfl rfl (At.cast (At.fldS (At.fldS (At.fld0 At.here))) rfl) ag3 sz3) ?_
    refine AO.cG (x := .ptr n2 0) rfl rfl (bD (decide_eq_false hc5)) (Calm.fldPtr rfl rfl Try.underlying24 rfl sz3 _ rfl) ?_
    refine AO.cG rfl rfl (bD (decide_eq_false hc5)) (Calm.load 0 rfl rfl rfl (At.cast (At.fld0 At.here) rfl) ag3 sz3) ?_
    refine AO.cG (x := eBool (decide (p0.f0 ≤ p0.f2))) rfl rfl (bD (decide_eq_false hc5)) (Calm.int rfl rfl rfl rfl) ?_
    refine AO.c (Calm.pickF rfl (bD (decide_eq_false hc5)) rfl) ?_
    refine AO.c (Calm.move rfl rfl) ?_
    rcases of_ite hq4 with ⟨hc6, hq4⟩ | ⟨hc6, hq4⟩
    ·refine AO.sF rfl rfl (bD (decide_eq_true hc6)) ?_
     refine AO.sF rfl rfl (bD (decide_eq_true hc6)) ?_
     refine AO.sF rfl rfl (bD (decide_eq_true hc6)) ?_
     refine AO.c (Calm.pickT rfl (bD (decide_eq_true hc6)) rfl) ?_
     refine AO.c (Calm.move rfl rfl) ?_
     refine AO.sF rfl rfl rfl ?_
     refine AO.sF rfl rfl rfl ?_
     refine AO.sF rfl rfl rfl ?_
     refine AO.sF rfl rfl rfl ?_
     refine AO.sF rfl rfl rfl ?_
     refine AO.c (Calm.pickT rfl rfl rfl) ?_
     cases hq4
     refine AO.nilE ⟨rfl, rfl⟩ ?_ ?_
     · exact ⟨rfl, rfl, trivial⟩
     · exact (Sub.refl _)
    ·refine AO.cG (x := .ptr n2 3) rfl rfl (bD (decide_eq_false hc6)) (Calm.fldPtr rfl rfl Try.underlying24 rfl sz3 _ rfl) ?_
     refine AO.cG rfl rfl (bD (decide_eq_false hc6)) (Calm.load 0 rfl rfl rfl (At.cast (At.fldS (At.fldS (At.fldS (At.fld0 At.here)))) rfl) ag3 sz3) ?_
     refine AO.cG (x := eBool (decide (p0.f3 < (0 : Int)))) rfl rfl (bD (decide_eq_false hc6)) (Calm.int rfl rfl rfl rfl) ?_
     refine AO.c (Calm.pickF rfl (bD (decide_eq_false hc6)) rfl) ?_
     refine AO.c (Calm.move rfl rfl) ?_
     rcases of_ite hq4 with ⟨hc7, hq4⟩ | ⟨hc7, hq4⟩
     ·refine AO.sF rfl rfl (bD (decide_eq_true hc7)) ?_
      refine AO.sF rfl rfl (bD (decide_eq_true hc7)) ?_
      refine AO.sF rfl rfl (bD (decide_eq_true hc7)) ?_
      refine AO.sF rfl rfl (bD (decide_eq_true hc7)) ?_
      refine AO.sF rfl rfl (bD (decide_eq_true hc7)) ?_
      refine AO.c (Calm.pickT rfl (bD (decide_eq_true hc7)) rfl) ?_
      cases hq4
      refine AO.nilE ⟨rfl, rfl⟩ ?_ ?_
      · exact ⟨rfl, rfl, trivial⟩
      · exact (Sub.refl _)
     ·refine AO.cG (x := .ptr n2 3) rfl rfl (bD (decide_eq_false hc7)) (Calm.fldPtr rfl rfl Try.underlying24 rfl sz3 _ rfl) ?_
      refine AO.cG rfl rfl (bD (decide_eq_false hc7)) (Calm.load 0 rfl rfl rfl (At.cast (At.fldS (At.fldS (At.fldS (At.fld0 At.here)))) rfl) ag3 sz3) ?_
      refine AO.cG (x := .ptr n2 0) rfl rfl (bD (decide_eq_false hc7)) (Calm.fldPtr rfl rfl Try.underlying24 rfl sz3 _ rfl) ?_
      refine AO.cG rfl rfl (bD (decide_eq_false hc7)) (Calm.load 0 rfl rfl rfl (At.cast (At.fld0 At.here) rfl) ag3 sz3) ?_
      refine AO.cG (x := eBool (decide (p0.f0 ≤ p0.f3))) rfl rfl (bD (decide_eq_false hc7)) (Calm.int rfl rfl rfl rfl) ?_
      refine AO.c (Calm.pickF rfl (bD (decide_eq_false hc7)) rfl) ?_
      cases hq4
      refine AO.nilE ⟨rfl, rfl⟩ ?_ ?_
      · exact ⟨rfl, rfl, trivial⟩
      · exact (Sub.refl _)
  ·rcases of_ite h with ⟨hc8, h⟩ | ⟨hc8, h⟩
   ·refine AW.condT' _ rfl hc8 ?_
    refine AW.sr ?_
    refine AO.c (Calm.assign rfl rfl) ?_
    refine AO.nH [2] (H' := []) (Sub.nil _) ?_
    refine AW.rK [2] ?_
    have hr := Option.some.inj h
    subst hr
    exact ⟨[(eBool false)], ⟨rfl, rfl, trivial⟩, rfl⟩
   ·refine AW.condF' _ rfl hc8 ?_
    refine AW.sK [1] ?_
    refine AW.seq_mid (fun ρ H => ρ = [] ∧ H = [] ∧ nfa_Right_c0 k = some r) ?_ ?_
    ·refine AW.sr ?_
     refine AO.c (x := .ptr n2 1) (Calm.fldPtr rfl rfl Try.underlying24 rfl sz22 _ rfl) ?_
     refine AO.c (Calm.load 0 rfl rfl rfl (At.cast (At.fldS (At.fld0 At.here)) rfl) ag22 sz22) ?_
     refine AO.c (Calm.lenL rfl rfl Try.underlying22) ?_
     refine AO.c (Calm.move rfl rfl) ?_
     refine AO.nK [1, 28, 29, 30] ?_
     refine AW.block ?_
     refine AW.wK [1, 28, 29, 30] ?_
     refine AW.loop (fun kq ρ H => ∃ (x9 : Int), ρ = [(1, (.ptr n2 0)), (28, (.fz 7 (p0.f1.map e43))), (29, (eI64 (p0.f1.length : Int))), (30, (eI64 x9))] ∧ H = [(n2, (.mem (e24 p0)))] ∧ nfa_Right_l1 k p0 kq x9 = some r) k ⟨(0 : Int), rfl, rfl, h⟩ ?_
     rintro kq11 _ _ ⟨x9, rfl, rfl, h⟩
     cases kq11 with
     | zero => rw [nfa_Right_l1.eq_1] at h; cases h
     | succ kq11 =>
     rw [nfa_Right_l1.eq_2] at h
     generalize hrec10 : nfa_Right_l1 k p0 kq11 = rec10 at h
     refine AW.sr ?_
     refine AO.c (x := eBool (decide (x9 < (p0.f1.length : Int)))) (Calm.int rfl rfl rfl rfl) ?_
     refine AO.nK [1, 28, 29, 30, 31] ?_
     refine AW.seq ?_
     rcases of_ite h with ⟨hc12, h⟩ | ⟨hc12, h⟩
     ·refine AW.condP _ rfl hc12 ?_
      refine AW.sK [1, 28, 29, 30] ?_
      refine AW.seq ?_
      refine AW.block ?_
      refine AW.sr ?_
      obtain ⟨hg13, h⟩ := of_guard h
      refine AO.c (Calm.idxL (f := e43) rfl rfl rfl hg13 Try.underlying22 sz43) ?_
      refine AO.c (Calm.loadRp rfl rfl ag43 sz43) ?_
      refine AO.alloc rfl 4 rfl (by decide) rfl zr43 lay43 fun n14 => ?_
      refine AO.store (X' := (e43 (lget p0.f1 x9))) 0 rfl rfl rfl rfl rfl rfl (Put.cast Put.here rfl) rfl rfl sz43 rfl ?_
      refine AO.nH [1, 4, 28, 29, 30] (H' := [(n2, (.mem (e24 p0))), (n14, (.mem (e43 (lget p0.f1 x9))))]) (Sub.cons 1 rfl (Sub.cons 0 rfl (Sub.nil _))) ?_
      refine AW.seq ?_
      obtain ⟨b15, hq16, h⟩ := of_bind h
      refine AW.regM [(1, (.ptr n2 0)), (28, (.fz 7 (p0.f1.map e43))), (29, (eI64 (p0.f1.length : Int))), (30, (eI64 x9)), (55, (eBool b15))] [(n2, (.mem (e24 p0)))] ?_ ?_
      ·refine AO.c (x := .ptr n14 0) (Calm.fldPtr rfl rfl Try.underlying43 rfl sz3 _ rfl) ?_
       refine AO.c (Calm.load 1 rfl rfl rfl (At.cast (At.fld0 At.here) rfl) ag3 sz3) ?_
       refine AO.c (x := eBool (decide (((lget p0.f1 x9).f0) < (0 : Int)))) (Calm.int rfl rfl rfl rfl) ?_
       refine AO.c (Calm.move rfl rfl) ?_
       rcases of_ite hq16 with ⟨hc17, hq16⟩ | ⟨hc17, hq16⟩
       ·refine AO.sF rfl rfl (bD (decide_eq_true hc17)) ?_
        refine AO.sF rfl rfl (bD (decide_eq_true hc17)) ?_
        refine AO.sF rfl rfl (bD (decide_eq_true hc17)) ?_
        refine AO.sF rfl rfl (bD (decide_eq_true hc17)) ?_
        refine AO.sF rfl rfl (bD (decide_eq_true hc17)) ?_
        refine AO.c (Calm.pickT rfl (bD (decide_eq_true hc17)) rfl) ?_
        refine AO.c (Calm.move rfl rfl) ?_
        refine AO.sF rfl rfl rfl ?_
        refine AO.sF rfl rfl rfl ?_
        refine AO.sF rfl rfl rfl ?_
        refine AO.c (Calm.pickT rfl rfl rfl) ?_
        refine AO.c (Calm.move rfl rfl) ?_
        refine AO.sF rfl rfl rfl ?_
        refine AO.sF rfl rfl rfl ?_
        refine AO.sF rfl rfl rfl ?_
        refine AO.sF rfl rfl rfl ?_
        refine AO.sF rfl rfl rfl ?_
        refine AO.c (Calm.pickT rfl rfl rfl) ?_
        cases hq16
        refine AO.nilE ⟨rfl, rfl⟩ ?_ ?_
        · exact ⟨rfl, rfl, rfl, rfl, rfl, trivial⟩
        · exact (Sub.cons 0 rfl (Sub.nil _))
       ·refine AO.cG (x := .ptr n14 0) rfl rfl (bD (decide_eq_false hc17)) (Calm.fldPtr rfl rfl Try.underlying43 rfl sz3 _ rfl) ?_
        refine AO.cG rfl rfl (bD (decide_eq_false hc17)) (Calm.load 1 rfl rfl rfl (At.cast (At.fld0 At.here) rfl) ag3 sz3) ?_
        refine AO.cG (x := .ptr n2 0) rfl rfl (bD (decide_eq_false hc17)) (Calm.fldPtr rfl rfl Try.underlying24 rfl sz3 _ rfl) ?_
        refine AO.cG rfl rfl (bD (decide_eq_false hc17)) (Calm.load 0 rfl rfl rfl (At.cast (At.fld0 At.here) rfl) ag3 sz3) ?_
        refine AO.cG (x := eBool (decide (p0.f0 ≤ ((lget p0.f1 x9).f0)))) rfl rfl (bD (decide_eq_false hc17)) (Calm.int rfl rfl rfl rfl) ?_
        refine AO.c (Calm.pickF rfl (bD (decide_eq_false hc17)) rfl) ?_
        refine AO.c (Calm.move rfl rfl) ?_
        rcases of_ite hq16 with ⟨hc18, hq16⟩ | ⟨hc18, hq16⟩
        ·refine AO.sF rfl rfl (bD (decide_eq_true hc18)) ?_
         refine AO.sF rfl rfl (bD (decide_eq_true hc18)) ?_
         refine AO.sF rfl rfl (bD (decide_eq_true hc18)) ?_
         refine AO.c (Calm.pickT rfl (bD (decide_eq_true hc18)) rfl) ?_
         refine AO.c (Calm.move rfl rfl) ?_
         refine AO.sF rfl rfl rfl ?_
         refine AO.sF rfl rfl rfl ?_
         refine AO.sF rfl rfl rfl ?_
         refine AO.sF rfl rfl rfl ?_
         refine AO.sF rfl rfl rfl ?_
         refine AO.c (Calm.pickT rfl rfl rfl) ?_
         cases hq16
         refine AO.nilE ⟨rfl, rfl⟩ ?_ ?_
         · exact ⟨rfl, rfl, rfl, rfl, rfl, trivial⟩
         · exact (Sub.cons 0 rfl (Sub.nil _))
        ·refine AO.cG (x := .ptr n14 1) rfl rfl (bD (decide_eq_false hc18)) (Calm.fldPtr rfl rfl Try.underlying43 rfl sz3 _ rfl) ?_
         refine AO.cG rfl rfl (bD (decide_eq_false hc18)) (Calm.load 1 rfl rfl rfl (At.cast (At.fldS (At.fld0 At.here)) rfl) ag3 sz3) ?_
         refine AO.cG (x := eBool (decide (((lget p0.f1 x9).f1) < (0 : Int)))) rfl rfl (bD (decide_eq_false hc18)) (Calm.int rfl rfl rfl rfl) ?_
         refine AO.c (Calm.pickF rfl (bD (decide_eq_false hc18)) rfl) ?_
         refine AO.c (Calm.move rfl rfl) ?_
         rcases of_ite hq16 with ⟨hc19, hq16⟩ | ⟨hc19, hq16⟩
         ·refine AO.sF rfl rfl (bD (decide_eq_true hc19)) ?_
          refine AO.sF rfl rfl (bD (decide_eq_true hc19)) ?_
          refine AO.sF rfl rfl (bD (decide_eq_true hc19)) ?_
          refine AO.sF rfl rfl (bD (decide_eq_true hc19)) ?_
          refine AO.sF rfl rfl (bD (decide_eq_true hc19)) ?_
          refine AO.c (Calm.pickT rfl (bD (decide_eq_true hc19)) rfl) ?_
          cases hq16
          refine AO.nilE ⟨rfl, rfl⟩ ?_ ?_
          · exact ⟨rfl, rfl, rfl, rfl, rfl, trivial⟩
          · exact (Sub.cons 0 rfl (Sub.nil _))
         ·refine AO.cG (x := .ptr n14 1) rfl rfl (bD (decide_eq_false hc19)) (Calm.fldPtr rfl rfl Try.underlying43 rfl sz3 _ rfl) ?_
          refine AO.cG rfl rfl (bD (decide_eq_false hc19)) (Calm.load 1 rfl rfl rfl (At.cast (At.fldS (At.fld0 At.here)) rfl) ag3 sz3) ?_
          refine AO.cG (x := .ptr n2 0) rfl rfl (bD (decide_eq_false hc19)) (Calm.fldPtr rfl rfl Try.underlying24 rfl sz3 _ rfl) ?_
          refine AO.cG rfl rfl (bD (decide_eq_false hc19)) (Calm.load 0 rfl rfl rfl (At.cast (At.fld0 At.here) rfl) ag3 sz3) ?_
          refine AO.cG (x := eBool (decide (p0.f0 ≤ ((lget p0.f1 x9).f1)))) rfl rfl (bD (decide_eq_false hc19)) (Calm.int rfl rfl rfl rfl) ?_
          refine AO.c (Calm.pickF rfl (bD (decide_eq_false hc19)) rfl) ?_
          cases hq16
          refine AO.nilE ⟨rfl, rfl⟩ ?_ ?_
          · exact ⟨rfl, rfl, rfl, rfl, rfl, trivial⟩
          · exact (Sub.cons 0 rfl (Sub.nil _))
      ·rcases of_ite h with ⟨hc20, h⟩ | ⟨hc20, h⟩
       ·refine AW.condT' _ rfl hc20 ?_
        refine AW.sr ?_
        refine AO.c (Calm.assign rfl rfl) ?_
        refine AO.nH [2] (H' := []) (Sub.nil _) ?_
        refine AW.rK [2] ?_
        have hr := Option.some.inj h
        subst hr
        exact ⟨[(eBool false)], ⟨rfl, rfl, trivial⟩, rfl⟩
       ·refine AW.condF' _ rfl hc20 ?_
        refine AW.sK [1, 28, 29, 30] ?_
        refine AW.reg ?_
        refine AO.c (x := eI64 (w64 (x9 + (1 : Int)))) (Calm.int rfl rfl rfl rfl) ?_
        refine AO.c (Calm.move rfl rfl) ?_
        refine AO.nK [1, 28, 29, 30] ?_
        exact ⟨kq11, Nat.lt_succ_self _, (w64 (x9 + (1 : Int))), rfl, rfl, by rw [hrec10]; exact h⟩
     ·refine AW.condN _ rfl hc12 ?_
      refine AW.eH [] (H' := []) (Sub.nil _) ?_
      exact ⟨rfl, rfl, h⟩
    ·rintro _ _ ⟨rfl, rfl, h⟩
     rw [nfa_Right_c0.eq_1] at h
     refine AW.sr ?_
     refine AO.c (Calm.assign rfl rfl) ?_
     refine AO.nK [2] ?_
     refine AW.rK [2] ?_
     have hr := Option.some.inj h
     subst hr
     exact ⟨[(eBool true)], ⟨rfl, rfl, trivial⟩, rfl⟩
end Go.Avl.T5
/- bosket/bosketref06.Same; printed by avmain.py. -/
namespace Go.Avl.T5
open Go Go.RowKit Go.Proofs Go.Avl
set_option linter.unusedVariables false
set_option maxRecDepth 100000
set_option maxHeartbeats 4000000
attribute [local irreducible] AW AO AQ Spec SpecH Calm

end Go.Avl.T5
/- bosket/nfa.Close; printed by avmain.py. -/
namespace Go.Avl.T5
open Go Go.RowKit Go.Proofs Go.Avl
set_option linter.unusedVariables false
set_option maxRecDepth 100000
set_option maxHeartbeats 4000000
attribute [local irreducible] AW AO AQ Spec SpecH Calm

def nfa_Close_c0 (k : Nat) (x6 : (List Bool)) : Option (List Bool) :=
  some (x6)
def nfa_Close_c1 (k : Nat) (rec15 : ((List Bool) → Bool → Int → Option (List Bool))) (x14 : Int) (x18 : (List Bool)) (b19 : Bool) : Option (List Bool) :=
  rec15 x18 b19 (w64 (x14 + (1 : Int)))
def nfa_Close_l2 (k : Nat) (rec9 : ((List Bool) → Bool → Option (List Bool))) (p0 : S24) : Nat → (List Bool) → Bool → Int → Option (List Bool)
  | 0, _, _, _ => none
  | j + 1, x12, b13, x14 =>
    if x14 < (p0.f1.length : Int) then if 0 ≤ x14 ∧ x14 < (p0.f1.length : Int) then Option.bind (α := Bool) (if ((lget p0.f1 x14).f3) = true then if 0 ≤ ((lget p0.f1 x14).f0) ∧ ((lget p0.f1 x14).f0) < (x12.length : Int) then if (lget x12 ((lget p0.f1 x14).f0)) = true then if 0 ≤ ((lget p0.f1 x14).f1) ∧ ((lget p0.f1 x14).f1) < (x12.length : Int) then some (!(lget x12 ((lget p0.f1 x14).f1)))
    else none
    else some (false)
    else none
    else some (false)) fun b22 =>
    if b22 = true then if 0 ≤ ((lget p0.f1 x14).f1) ∧ ((lget p0.f1 x14).f1) < (x12.length : Int) then nfa_Close_c1 k (nfa_Close_l2 k rec9 p0 j) x14 (lset x12 ((lget p0.f1 x14).f1) true) true
    else none
    else nfa_Close_c1 k (nfa_Close_l2 k rec9 p0 j) x14 x12 b13
    else none
    else rec9 x12 b13
def nfa_Close_l3 (k : Nat) (p0 : S24) : Nat → (List Bool) → Bool → Option (List Bool)
  | 0, _, _ => none
  | j + 1, x7, b8 =>
    if b8 = true then nfa_Close_l2 k (nfa_Close_l3 k p0 j) p0 k x7 false (0 : Int)
    else nfa_Close_c0 k x7
def nfa_Close (k : Nat) (p0 : S24) (p1 : (List Bool)) : Option (List Bool) :=
  if 0 ≤ p0.f0 ∧ p0.f0 * (1 : Int) ≤ 140737488355328 ∧ p0.f0 ≤ 9223372036854775807 then nfa_Close_l3 k p0 k (lcopy (List.replicate p0.f0.toNat false) p1) true
  else none
theorem nfa_Close_spec {k : Nat} {p0 : S24} {p1 : (List Bool)} {r : (List Bool)} (h : nfa_Close k p0 p1 = some r) : Spec Try.prog 51 [(e24 p0), (.fz 1 (p1.map eBool))] (e49 r) := by
  rw [nfa_Close.eq_1] at h
  refine Spec.intro (res := [.tmp 4]) Try.func51 rfl rfl rfl (Nat.le_of_ble_eq_true rfl) ?_
  refine AW.sr ?_
  refine AO.box rfl 2 rfl (by decide) rfl rfl rfl fun n3 => ?_
  refine AO.c (Calm.assign rfl rfl) ?_
  refine AO.nK [1, 2] ?_
  refine AW.sr ?_
  refine AO.c (x := .ptr n3 0) (Calm.fldPtr rfl rfl Try.underlying24 rfl sz3 _ rfl) ?_
  refine AO.c (Calm.load 0 rfl rfl rfl (At.cast (At.fld0 At.here) rfl) ag3 sz3) ?_
  obtain ⟨hg5, h⟩ := of_guard h
  refine AO.makeL (f := eBool) false rfl 11 rfl (by decide) rfl rfl rfl Try.underlying49 sz4 by4 zr4 lay4 rfl hg5 fun n4 => ?_
  refine AO.c (Calm.assign rfl rfl) ?_
  refine AO.nH [1, 2, 5] (H' := [(n3, (.mem (e24 p0))), (n4, (.mem (.ar 1 ((List.replicate p0.f0.toNat false).map eBool))))]) (Sub.cons 1 rfl (Sub.cons 0 rfl (Sub.nil _))) ?_
  refine AW.sr ?_
  refine AO.c (Calm.move rfl rfl) ?_
  refine AO.c (Calm.move rfl rfl) ?_
  refine AO.copyL (l := (List.replicate p0.f0.toNat false)) (m := p1) (f := eBool) 1 14 rfl (by decide) rfl rfl rfl rfl rfl Try.underlying49 sz4 ?_
  refine AO.coe 5 (y' := (.own n4 0 (lcopy (List.replicate p0.f0.toNat false) p1).length)) rfl (fun _ _ h => lcopy_own h) ?_
  refine AO.coe 12 (y' := (.own n4 0 (lcopy (List.replicate p0.f0.toNat false) p1).length)) rfl (fun _ _ h => lcopy_own h) ?_
  refine AO.nK [2, 5] ?_
  refine AW.seq_mid (fun ρ H => ∃ (x6 : (List Bool)), ρ = [(5, (.own n4 0 x6.length))] ∧ H = [(n4, (.mem (.ar 1 (x6.map eBool))))] ∧ nfa_Close_c0 k x6 = some r) ?_ ?_
  ·refine AW.sr ?_
   refine AO.c (Calm.assign rfl rfl) ?_
   refine AO.nK [2, 5, 6] ?_
   refine AW.block ?_
   refine AW.wK [2, 5, 6] ?_
   refine AW.loop (fun kq ρ H => ∃ (x7 : (List Bool)) (b8 : Bool), ρ = [(2, (.ptr n3 0)), (5, (.own n4 0 x7.length)), (6, (eBool b8))] ∧ H = [(n3, (.mem (e24 p0))), (n4, (.mem (.ar 1 (x7.map eBool))))] ∧ nfa_Close_l3 k p0 kq x7 b8 = some r) k ⟨(lcopy (List.replicate p0.f0.toNat false) p1), true, rfl, rfl, h⟩ ?_
   rintro kq10 _ _ ⟨x7, b8, rfl, rfl, h⟩
   cases kq10 with
   | zero => rw [nfa_Close_l3.eq_1] at h; cases h
   | succ kq10 =>
   rw [nfa_Close_l3.eq_2] at h
   generalize hrec9 : nfa_Close_l3 k p0 kq10 = rec9 at h
   refine AW.seq ?_
   refine AW.sr ?_
   refine AO.c (Calm.move rfl rfl) ?_
   refine AO.nK [2, 5, 15] ?_
   rcases of_ite h with ⟨hc11, h⟩ | ⟨hc11, h⟩
   ·refine AW.condT' _ rfl hc11 ?_
    refine AW.sK [2, 5] ?_
    refine AW.block ?_
    refine AW.sr ?_
    refine AO.c (Calm.assign rfl rfl) ?_
    refine AO.nK [2, 5, 6] ?_
    refine AW.sr ?_
    refine AO.c (x := .ptr n3 1) (Calm.fldPtr rfl rfl Try.underlying24 rfl sz22 _ rfl) ?_
    refine AO.c (Calm.load 0 rfl rfl rfl (At.cast (At.fldS (At.fld0 At.here)) rfl) ag22 sz22) ?_
    refine AO.c (Calm.lenL rfl rfl Try.underlying22) ?_
    refine AO.c (Calm.move rfl rfl) ?_
    refine AO.nK [2, 5, 6, 17, 18, 19] ?_
    refine AW.block ?_
    refine AW.wK [2, 5, 6, 17, 18, 19] ?_
    refine AW.loop (fun kq ρ H => ∃ (x12 : (List Bool)) (b13 : Bool) (x14 : Int), ρ = [(2, (.ptr n3 0)), (5, (.own n4 0 x12.length)), (6, (eBool b13)), (17, (.fz 7 (p0.f1.map e43))), (18, (eI64 (p0.f1.length : Int))), (19, (eI64 x14))] ∧ H = [(n3, (.mem (e24 p0))), (n4, (.mem (.ar 1 (x12.map eBool))))] ∧ nfa_Close_l2 k rec9 p0 kq x12 b13 x14 = some r) k ⟨x7, false, (0 : Int), rfl, rfl, h⟩ ?_
    rintro kq16 _ _ ⟨x12, b13, x14, rfl, rfl, h⟩
    cases kq16 with
    | zero => rw [nfa_Close_l2.eq_1] at h; cases h
    | succ kq16 =>
    rw [nfa_Close_l2.eq_2] at h
    generalize hrec15 : nfa_Close_l2 k rec9 p0 kq16 = rec15 at h
    refine AW.sr ?_
    refine AO.c (x := eBool (decide (x14 < (p0.f1.length : Int)))) (Calm.int rfl rfl rfl rfl) ?_
    refine AO.nK [2, 5, 6, 17, 18, 19, 20] ?_
    refine AW.seq ?_
    rcases of_ite h with ⟨hc17, h⟩ | ⟨hc17, h⟩
    ·refine AW.condP _ rfl hc17 ?_
     refine AW.sK [2, 5, 6, 17, 18, 19] ?_
     refine AW.seq_mid (fun ρ H => ∃ (x18 : (List Bool)) (b19 : Bool), ρ = [(2, (.ptr n3 0)), (5, (.own n4 0 x18.length)), (6, (eBool b19)), (17, (.fz 7 (p0.f1.map e43))), (18, (eI64 (p0.f1.length : Int))), (19, (eI64 x14))] ∧ H = [(n3, (.mem (e24 p0))), (n4, (.mem (.ar 1 (x18.map eBool))))] ∧ nfa_Close_c1 k rec15 x14 x18 b19 = some r) ?_ ?_
     ·refine AW.block ?_
      refine AW.sr ?_
      obtain ⟨hg20, h⟩ := of_guard h
      refine AO.c (Calm.idxL (f := e43) rfl rfl rfl hg20 Try.underlying22 sz43) ?_
      refine AO.c (Calm.loadRp rfl rfl ag43 sz43) ?_
      refine AO.alloc rfl 8 rfl (by decide) rfl zr43 lay43 fun n21 => ?_
      refine AO.store (X' := (e43 (lget p0.f1 x14))) 0 rfl rfl rfl rfl rfl rfl (Put.cast Put.here rfl) rfl rfl sz43 rfl ?_
      refine AO.nH [2, 5, 6, 8, 17, 18, 19] (H' := [(n3, (.mem (e24 p0))), (n4, (.mem (.ar 1 (x12.map eBool)))), (n21, (.mem (e43 (lget p0.f1 x14))))]) (Sub.cons 1 rfl (Sub.cons 1 rfl (Sub.cons 0 rfl (Sub.nil _)))) ?_
      refine AW.seq ?_
      obtain ⟨b22, hq23, h⟩ := of_bind h
      refine AW.regM [(2, (.ptr n3 0)), (5, (.own n4 0 x12.length)), (6, (eBool b13)), (8, (.ptr n21 0)), (17, (.fz 7 (p0.f1.map e43))), (18, (eI64 (p0.f1.length : Int))), (19, (eI64 x14)), (39, (eBool b22))] [(n3, (.mem (e24 p0))), (n4, (.mem (.ar 1 (x12.map eBool)))), (n21, (.mem (e43 (lget p0.f1 x14))))] ?_ ?_
      ·refine AO.c (x := .ptr n21 6) (Calm.fldPtr rfl rfl Try.underlying43 rfl sz4 _ rfl) ?_
       refine AO.c (Calm.load 2 rfl rfl rfl (At.cast (At.fldS (At.fldS (At.fldS (At.fld0 At.here)))) rfl) ag4 sz4) ?_
       refine AO.c (Calm.move rfl rfl) ?_
       rcases of_ite hq23 with ⟨hc24, hq23⟩ | ⟨hc24, hq23⟩
       ·refine AO.cG rfl rfl (bD hc24) (Calm.move rfl rfl) ?_
        refine AO.cG (x := .ptr n21 0) rfl rfl (bD hc24) (Calm.fldPtr rfl rfl Try.underlying43 rfl sz3 _ rfl) ?_
        refine AO.cG rfl rfl (bD hc24) (Calm.load 2 rfl rfl rfl (At.cast (At.fld0 At.here) rfl) ag3 sz3) ?_
        obtain ⟨hg25, hq23⟩ := of_guard hq23
        refine AO.cG rfl rfl (bD hc24) (Calm.idxO 1 rfl rfl rfl rfl hg25 Try.underlying49 sz4) ?_
        refine AO.cG rfl rfl (bD hc24) (Calm.load 1 rfl rfl rfl (At.cast (At.lidx ((lget p0.f1 x14).f0) hg25.1 hg25.2 At.here) (by omega)) ag4 sz4) ?_
        refine AO.c (Calm.pickT rfl (bD hc24) rfl) ?_
        refine AO.c (Calm.move rfl rfl) ?_
        rcases of_ite hq23 with ⟨hc26, hq23⟩ | ⟨hc26, hq23⟩
        ·refine AO.cG rfl rfl (bD hc26) (Calm.move rfl rfl) ?_
         refine AO.cG (x := .ptr n21 1) rfl rfl (bD hc26) (Calm.fldPtr rfl rfl Try.underlying43 rfl sz3 _ rfl) ?_
         refine AO.cG rfl rfl (bD hc26) (Calm.load 2 rfl rfl rfl (At.cast (At.fldS (At.fld0 At.here)) rfl) ag3 sz3) ?_
         obtain ⟨hg27, hq23⟩ := of_guard hq23
         refine AO.cG rfl rfl (bD hc26) (Calm.idxO 1 rfl rfl rfl rfl hg27 Try.underlying49 sz4) ?_
         refine AO.cG rfl rfl (bD hc26) (Calm.load 1 rfl rfl rfl (At.cast (At.lidx ((lget p0.f1 x14).f1) hg27.1 hg27.2 At.here) (by omega)) ag4 sz4) ?_
         refine AO.cG rfl rfl (bD hc26) (Calm.not rfl rfl) ?_
         refine AO.c (Calm.pickT rfl (bD hc26) rfl) ?_
         cases hq23
         refine AO.nilE ⟨rfl, rfl⟩ ?_ ?_
         · exact ⟨rfl, rfl, rfl, rfl, rfl, rfl, rfl, rfl, trivial⟩
         · exact (Sub.refl _)
        ·refine AO.sT rfl rfl (bD (eq_false_of_ne_true hc26)) ?_
         refine AO.sT rfl rfl (bD (eq_false_of_ne_true hc26)) ?_
         refine AO.sT rfl rfl (bD (eq_false_of_ne_true hc26)) ?_
         refine AO.sT rfl rfl (bD (eq_false_of_ne_true hc26)) ?_
         refine AO.sT rfl rfl (bD (eq_false_of_ne_true hc26)) ?_
         refine AO.sT rfl rfl (bD (eq_false_of_ne_true hc26)) ?_
         refine AO.c (Calm.pickF rfl (bD (eq_false_of_ne_true hc26)) rfl) ?_
         cases hq23
         refine AO.nilE ⟨rfl, rfl⟩ ?_ ?_
         · exact ⟨rfl, rfl, rfl, rfl, rfl, rfl, rfl, rfl, trivial⟩
         · exact (Sub.refl _)
       ·refine AO.sT rfl rfl (bD (eq_false_of_ne_true hc24)) ?_
        refine AO.sT rfl rfl (bD (eq_false_of_ne_true hc24)) ?_
        refine AO.sT rfl rfl (bD (eq_false_of_ne_true hc24)) ?_
        refine AO.sT rfl rfl (bD (eq_false_of_ne_true hc24)) ?_
        refine AO.sT rfl rfl (bD (eq_false_of_ne_true hc24)) ?_
        refine AO.c (Calm.pickF rfl (bD (eq_false_of_ne_true hc24)) rfl) ?_
        refine AO.c (Calm.move rfl rfl) ?_
        refine AO.sT rfl rfl rfl ?_
        refine AO.sT rfl rfl rfl ?_
        refine AO.sT rfl rfl rfl ?_
        refine AO.sT rfl rfl rfl ?_
        refine AO.sT rfl rfl rfl ?_
        refine AO.sT rfl rfl rfl ?_
        refine AO.c (Calm.pickF rfl rfl rfl) ?_
        cases hq23
        refine AO.nilE ⟨rfl, rfl⟩ ?_ ?_
        · exact ⟨rfl, rfl, rfl, rfl, rfl, rfl, rfl, rfl, trivial⟩
        · exact (Sub.refl _)
      ·rcases of_ite h with ⟨hc28, h⟩ | ⟨hc28, h⟩
       ·refine AW.condT' _ rfl hc28 ?_
        refine AW.reg ?_
        refine AO.c (Calm.move rfl rfl) ?_
        refine AO.c (x := .ptr n21 1) (Calm.fldPtr rfl rfl Try.underlying43 rfl sz3 _ rfl) ?_
        refine AO.c (Calm.load 2 rfl rfl rfl (At.cast (At.fldS (At.fld0 At.here)) rfl) ag3 sz3) ?_
        obtain ⟨hg29, h⟩ := of_guard h
        refine AO.c (Calm.idxO 1 rfl rfl rfl rfl hg29 Try.underlying49 sz4) ?_
        refine AO.store (X' := (.ar 1 ((lset x12 ((lget p0.f1 x14).f1) true).map eBool))) 1 rfl rfl rfl rfl rfl rfl (Put.cast (Put.lidx ((lget p0.f1 x14).f1) true hg29.1 hg29.2 Put.here) (by omega)) rfl rfl sz4 rfl ?_
        refine AO.coe 5 (y' := (.own n4 0 (lset x12 ((lget p0.f1 x14).f1) true).length)) rfl (fun _ _ h => lset_own h) ?_
        refine AO.coe 40 (y' := (.own n4 0 (lset x12 ((lget p0.f1 x14).f1) true).length)) rfl (fun _ _ h => lset_own h) ?_
        refine AO.c (Calm.assign rfl rfl) ?_
        refine AO.nH [2, 5, 6, 17, 18, 19] (H' := [(n3, (.mem (e24 p0))), (n4, (.mem (.ar 1 ((lset x12 ((lget p0.f1 x14).f1) true).map eBool))))]) (Sub.cons 0 rfl (Sub.cons 0 rfl (Sub.nil _))) ?_
        exact ⟨(lset x12 ((lget p0.f1 x14).f1) true), true, rfl, rfl, h⟩
       ·refine AW.condF' _ rfl hc28 ?_
        refine AW.sH [2, 5, 6, 17, 18, 19] (H' := [(n3, (.mem (e24 p0))), (n4, (.mem (.ar 1 (x12.map eBool))))]) (Sub.cons 0 rfl (Sub.cons 0 rfl (Sub.nil _))) ?_
        exact ⟨x12, b13, rfl, rfl, h⟩
     ·rintro _ _ ⟨x18, b19, rfl, rfl, h⟩
      rw [nfa_Close_c1.eq_1] at h
      refine AW.reg ?_
      refine AO.c (x := eI64 (w64 (x14 + (1 : Int)))) (Calm.int rfl rfl rfl rfl) ?_
      refine AO.c (Calm.move rfl rfl) ?_
      refine AO.nK [2, 5, 6, 17, 18, 19] ?_
      exact ⟨kq16, Nat.lt_succ_self _, x18, b19, (w64 (x14 + (1 : Int))), rfl, rfl, by rw [hrec15]; exact h⟩
    ·refine AW.condN _ rfl hc17 ?_
     refine AW.eK [2, 5, 6] ?_
     exact ⟨kq10, Nat.lt_succ_self _, x12, b13, rfl, rfl, by rw [hrec9]; exact h⟩
   ·refine AW.condF' _ rfl hc11 ?_
    refine AW.eH [5] (H' := [(n4, (.mem (.ar 1 (x7.map eBool))))]) (Sub.cons 1 rfl (Sub.nil _)) ?_
    exact ⟨x7, rfl, rfl, h⟩
  ·rintro _ _ ⟨x6, rfl, rfl, h⟩
   rw [nfa_Close_c0.eq_1] at h
   refine AW.sr ?_
   refine AO.c (Calm.move rfl rfl) ?_
   refine AO.c (Calm.assign rfl rfl) ?_
   refine AO.nK [4] ?_
   refine AW.freezeS 0 [(4, (.fz 1 (x6.map eBool)))] rfl ⟨fz_all rfl, trivial⟩ ?_
   refine AW.rK [4] ?_
   have hr := Option.some.inj h
   subst hr
   exact ⟨[(.fz 1 (x6.map eBool))], ⟨rfl, rfl, trivial⟩, rfl⟩
end Go.Avl.T5
/- bosket/bosketref06.Close; printed by avmain.py. -/
namespace Go.Avl.T5
open Go Go.RowKit Go.Proofs Go.Avl
set_option linter.unusedVariables false
set_option maxRecDepth 100000
set_option maxHeartbeats 4000000
attribute [local irreducible] AW AO AQ Spec SpecH Calm

def bosketref06_Close_c0 (k : Nat) (x7 : (List Bool)) : Option (List Bool) :=
  some (x7)
def bosketref06_Close_c1 (k : Nat) (rec10 : ((List Bool) → Int → Option (List Bool))) (x9 : Int) (x13 : (List Bool)) : Option (List Bool) :=
  rec10 x13 (w64 (x9 + (1 : Int)))
def bosketref06_Close_c2 (k : Nat) (rec10 : ((List Bool) → Int → Option (List Bool))) (x9 : Int) (x14 : (List Bool)) (b15 : Bool) : Option (List Bool) :=
  if (!b15) = true then some (x14)
  else bosketref06_Close_c1 k rec10 x9 x14
def bosketref06_Close_c3 (k : Nat) (rec20 : ((List Bool) → Bool → Int → Option (List Bool))) (x19 : Int) (x23 : (List Bool)) (b24 : Bool) : Option (List Bool) :=
  rec20 x23 b24 (w64 (x19 + (1 : Int)))
def bosketref06_Close_l4 (k : Nat) (rec10 : ((List Bool) → Int → Option (List Bool))) (p0 : S24) (x9 : Int) : Nat → (List Bool) → Bool → Int → Option (List Bool)
  | 0, _, _, _ => none
  | j + 1, x17, b18, x19 =>
    if x19 < (p0.f1.length : Int) then if 0 ≤ x19 ∧ x19 < (p0.f1.length : Int) then Option.bind (α := Bool) (if ((lget p0.f1 x19).f3) = true then if 0 ≤ ((lget p0.f1 x19).f0) ∧ ((lget p0.f1 x19).f0) < (x17.length : Int) then if (lget x17 ((lget p0.f1 x19).f0)) = true then if 0 ≤ ((lget p0.f1 x19).f1) ∧ ((lget p0.f1 x19).f1) < (x17.length : Int) then some (!(lget x17 ((lget p0.f1 x19).f1)))
    else none
    else some (false)
    else none
    else some (false)) fun b27 =>
    if b27 = true then if 0 ≤ ((lget p0.f1 x19).f1) ∧ ((lget p0.f1 x19).f1) < (x17.length : Int) then bosketref06_Close_c3 k (bosketref06_Close_l4 k rec10 p0 x9 j) x19 (lset x17 ((lget p0.f1 x19).f1) true) true
    else none
    else bosketref06_Close_c3 k (bosketref06_Close_l4 k rec10 p0 x9 j) x19 x17 b18
    else none
    else bosketref06_Close_c2 k rec10 x9 x17 b18
def bosketref06_Close_l5 (k : Nat) (p0 : S24) : Nat → (List Bool) → Int → Option (List Bool)
  | 0, _, _ => none
  | j + 1, x8, x9 =>
    if x9 < p0.f0 then bosketref06_Close_l4 k (bosketref06_Close_l5 k p0 j) p0 x9 k x8 false (0 : Int)
    else bosketref06_Close_c0 k x8
def bosketref06_Close_c6 (k : Nat) (p0 : S24) (x6 : (List Bool)) : Option (List Bool) :=
  bosketref06_Close_l5 k p0 k x6 (0 : Int)
def bosketref06_Close_l7 (k : Nat) (p0 : S24) (p1 : (List Bool)) : Nat → (List Bool) → Int → Option (List Bool)
  | 0, _, _ => none
  | j + 1, x35, x36 =>
    Option.bind (α := Bool) (if x36 < p0.f0 then some (decide (x36 < (p1.length : Int)))
    else some (false)) fun b39 =>
    if b39 = true then if 0 ≤ x36 ∧ x36 < (p1.length : Int) then if 0 ≤ x36 ∧ x36 < (x35.length : Int) then (bosketref06_Close_l7 k p0 p1 j) (lset x35 x36 (lget p1 x36)) (w64 (x36 + (1 : Int)))
    else none
    else none
    else bosketref06_Close_c6 k p0 x35
def bosketref06_Close (k : Nat) (p0 : S24) (p1 : (List Bool)) : Option (List Bool) :=
  if 0 ≤ p0.f0 ∧ p0.f0 * (1 : Int) ≤ 140737488355328 ∧ p0.f0 ≤ 9223372036854775807 then bosketref06_Close_l7 k p0 p1 k (List.replicate p0.f0.toNat false) (0 : Int)
  else none
theorem bosketref06_Close_spec {k : Nat} {p0 : S24} {p1 : (List Bool)} {r : (List Bool)} (h : bosketref06_Close k p0 p1 = some r) : Spec Try.prog 53 [(e24 p0), (.fz 1 (p1.map eBool))] (e49 r) := by
  rw [bosketref06_Close.eq_1] at h
  refine Spec.intro (res := [.tmp 4]) Try.func53 rfl rfl rfl (Nat.le_of_ble_eq_true rfl) ?_
  refine AW.sr ?_
  refine AO.box rfl 2 rfl (by decide) rfl rfl rfl fun n3 => ?_
  refine AO.c (Calm.assign rfl rfl) ?_
  refine AO.nK [1, 2] ?_
  refine AW.sr ?_
  refine AO.c (x := .ptr n3 0) (Calm.fldPtr rfl rfl Try.underlying24 rfl sz3 _ rfl) ?_
  refine AO.c (Calm.load 0 rfl rfl rfl (At.cast (At.fld0 At.here) rfl) ag3 sz3) ?_
  obtain ⟨hg5, h⟩ := of_guard h
  refine AO.makeL (f := eBool) false rfl 13 rfl (by decide) rfl rfl rfl Try.underlying49 sz4 by4 zr4 lay4 rfl hg5 fun n4 => ?_
  refine AO.c (Calm.assign rfl rfl) ?_
  refine AO.nH [1, 2, 5] (H' := [(n3, (.mem (e24 p0))), (n4, (.mem (.ar 1 ((List.replicate p0.f0.toNat false).map eBool))))]) (Sub.cons 1 rfl (Sub.cons 0 rfl (Sub.nil _))) ?_
  refine AW.seq_mid (fun ρ H => ∃ (x6 : (List Bool)), ρ = [(2, (.ptr n3 0)), (5, (.own n4 0 x6.length))] ∧ H = [(n3, (.mem (e24 p0))), (n4, (.mem (.ar 1 (x6.map eBool))))] ∧ bosketref06_Close_c6 k p0 x6 = some r) ?_ ?_
  ·refine AW.sr ?_
   refine AO.c (Calm.assign rfl rfl) ?_
   refine AO.nK [1, 2, 5, 6] ?_
   refine AW.block ?_
   refine AW.wK [1, 2, 5, 6] ?_
   refine AW.loop (fun kq ρ H => ∃ (x35 : (List Bool)) (x36 : Int), ρ = [(1, (.fz 1 (p1.map eBool))), (2, (.ptr n3 0)), (5, (.own n4 0 x35.length)), (6, (eI64 x36))] ∧ H = [(n3, (.mem (e24 p0))), (n4, (.mem (.ar 1 (x35.map eBool))))] ∧ bosketref06_Close_l7 k p0 p1 kq x35 x36 = some r) k ⟨(List.replicate p0.f0.toNat false), (0 : Int), rfl, rfl, h⟩ ?_
   rintro kq38 _ _ ⟨x35, x36, rfl, rfl, h⟩
   cases kq38 with
   | zero => rw [bosketref06_Close_l7.eq_1] at h; cases h
   | succ kq38 =>
   rw [bosketref06_Close_l7.eq_2] at h
   generalize hrec37 : bosketref06_Close_l7 k p0 p1 kq38 = rec37 at h
   refine AW.seq ?_
   refine AW.seq ?_
   obtain ⟨b39, hq40, h⟩ := of_bind h
   refine AW.regM [(1, (.fz 1 (p1.map eBool))), (2, (.ptr n3 0)), (5, (.own n4 0 x35.length)), (6, (eI64 x36)), (23, (eBool b39))] [(n3, (.mem (e24 p0))), (n4, (.mem (.ar 1 (x35.map eBool))))] ?_ ?_
   ·refine AO.c (Calm.move rfl rfl) ?_
    refine AO.c (x := .ptr n3 0) (Calm.fldPtr rfl rfl Try.underlying24 rfl sz3 _ rfl) ?_
    refine AO.c (Calm.load 0 rfl rfl rfl (At.cast (At.fld0 At.here) rfl) ag3 sz3) ?_
    refine AO.c (x := eBool (decide (x36 < p0.f0))) (Calm.int rfl rfl rfl rfl) ?_
    refine AO.c (Calm.move rfl rfl) ?_
    rcases of_ite hq40 with ⟨hc41, hq40⟩ | ⟨hc41, hq40⟩
    ·refine AO.cG rfl rfl (bD (decide_eq_true hc41)) (Calm.move rfl rfl) ?_
     refine AO.cG rfl rfl (bD (decide_eq_true hc41)) (Calm.move rfl rfl) ?_
     refine AO.cG rfl rfl (bD (decide_eq_true hc41)) (Calm.lenL rfl rfl Try.underlying49) ?_
     refine AO.cG (x := eBool (decide (x36 < (p1.length : Int)))) rfl rfl (bD (decide_eq_true hc41)) (Calm.int rfl rfl rfl rfl) ?_
     refine AO.c (Calm.pickT rfl (bD (decide_eq_true hc41)) rfl) ?_
     cases hq40
     refine AO.nilE ⟨rfl, rfl⟩ ?_ ?_
     · exact ⟨rfl, rfl, rfl, rfl, rfl, trivial⟩
     · exact (Sub.refl _)
    ·refine AO.sT rfl rfl (bD (decide_eq_false hc41)) ?_
     refine AO.sT rfl rfl (bD (decide_eq_false hc41)) ?_
     refine AO.sT rfl rfl (bD (decide_eq_false hc41)) ?_
     refine AO.sT rfl rfl (bD (decide_eq_false hc41)) ?_
     refine AO.c (Calm.pickF rfl (bD (decide_eq_false hc41)) rfl) ?_
     cases hq40
     refine AO.nilE ⟨rfl, rfl⟩ ?_ ?_
     · exact ⟨rfl, rfl, rfl, rfl, rfl, trivial⟩
     · exact (Sub.refl _)
   ·rcases of_ite h with ⟨hc42, h⟩ | ⟨hc42, h⟩
    ·refine AW.condT' _ rfl hc42 ?_
     refine AW.sK [1, 2, 5, 6] ?_
     refine AW.seq ?_
     refine AW.block ?_
     refine AW.reg ?_
     refine AO.c (Calm.move rfl rfl) ?_
     refine AO.c (Calm.move rfl rfl) ?_
     refine AO.c (Calm.move rfl rfl) ?_
     refine AO.c (Calm.move rfl rfl) ?_
     obtain ⟨hg43, h⟩ := of_guard h
     refine AO.c (Calm.idxL (f := eBool) rfl rfl rfl hg43 Try.underlying49 sz4) ?_
     refine AO.c (Calm.loadRp rfl rfl ag4 sz4) ?_
     obtain ⟨hg44, h⟩ := of_guard h
     refine AO.c (Calm.idxO 1 rfl rfl rfl rfl hg44 Try.underlying49 sz4) ?_
     refine AO.store (X' := (.ar 1 ((lset x35 x36 (lget p1 x36)).map eBool))) 1 rfl rfl rfl rfl rfl rfl (Put.cast (Put.lidx x36 (lget p1 x36) hg44.1 hg44.2 Put.here) (by omega)) rfl rfl sz4 rfl ?_
     refine AO.coe 5 (y' := (.own n4 0 (lset x35 x36 (lget p1 x36)).length)) rfl (fun _ _ h => lset_own h) ?_
     refine AO.coe 26 (y' := (.own n4 0 (lset x35 x36 (lget p1 x36)).length)) rfl (fun _ _ h => lset_own h) ?_
     refine AO.nK [1, 2, 5, 6] ?_
     refine AW.reg ?_
     refine AO.c (Calm.move rfl rfl) ?_
     refine AO.c (x := eI64 (w64 (x36 + (1 : Int)))) (Calm.int rfl rfl rfl rfl) ?_
     refine AO.c (Calm.assign rfl rfl) ?_
     refine AO.nK [1, 2, 5, 6] ?_
     exact ⟨kq38, Nat.lt_succ_self _, (lset x35 x36 (lget p1 x36)), (w64 (x36 + (1 : Int))), rfl, rfl, by rw [hrec37]; exact h⟩
    ·refine AW.condF' _ rfl hc42 ?_
     refine AW.eK [2, 5] ?_
     exact ⟨x35, rfl, rfl, h⟩
  ·rintro _ _ ⟨x6, rfl, rfl, h⟩
   rw [bosketref06_Close_c6.eq_1] at h
   refine AW.seq_mid (fun ρ H => ∃ (x7 : (List Bool)), ρ = [(5, (.own n4 0 x7.length))] ∧ H = [(n4, (.mem (.ar 1 (x7.map eBool))))] ∧ bosketref06_Close_c0 k x7 = some r) ?_ ?_
   ·refine AW.sr ?_
    refine AO.c (Calm.assign rfl rfl) ?_
    refine AO.nK [2, 5, 7] ?_
    refine AW.block ?_
    refine AW.wK [2, 5, 7] ?_
    refine AW.loop (fun kq ρ H => ∃ (x8 : (List Bool)) (x9 : Int), ρ = [(2, (.ptr n3 0)), (5, (.own n4 0 x8.length)), (7, (eI64 x9))] ∧ H = [(n3, (.mem (e24 p0))), (n4, (.mem (.ar 1 (x8.map eBool))))] ∧ bosketref06_Close_l5 k p0 kq x8 x9 = some r) k ⟨x6, (0 : Int), rfl, rfl, h⟩ ?_
    rintro kq11 _ _ ⟨x8, x9, rfl, rfl, h⟩
    cases kq11 with
    | zero => rw [bosketref06_Close_l5.eq_1] at h; cases h
    | succ kq11 =>
    rw [bosketref06_Close_l5.eq_2] at h
    generalize hrec10 : bosketref06_Close_l5 k p0 kq11 = rec10 at h
    refine AW.seq ?_
    refine AW.sr ?_
    refine AO.c (Calm.move rfl rfl) ?_
    refine AO.c (x := .ptr n3 0) (Calm.fldPtr rfl rfl Try.underlying24 rfl sz3 _ rfl) ?_
    refine AO.c (Calm.load 0 rfl rfl rfl (At.cast (At.fld0 At.here) rfl) ag3 sz3) ?_
    refine AO.c (x := eBool (decide (x9 < p0.f0))) (Calm.int rfl rfl rfl rfl) ?_
    refine AO.nK [2, 5, 7, 36] ?_
    rcases of_ite h with ⟨hc12, h⟩ | ⟨hc12, h⟩
    ·refine AW.condP _ rfl hc12 ?_
     refine AW.sK [2, 5, 7] ?_
     refine AW.seq_mid (fun ρ H => ∃ (x13 : (List Bool)), ρ = [(2, (.ptr n3 0)), (5, (.own n4 0 x13.length)), (7, (eI64 x9))] ∧ H = [(n3, (.mem (e24 p0))), (n4, (.mem (.ar 1 (x13.map eBool))))] ∧ bosketref06_Close_c1 k rec10 x9 x13 = some r) ?_ ?_
     ·refine AW.block ?_
      refine AW.sr ?_
      refine AO.c (Calm.assign rfl rfl) ?_
      refine AO.nK [2, 5, 7, 8] ?_
      refine AW.seq_mid (fun ρ H => ∃ (x14 : (List Bool)) (b15 : Bool), ρ = [(2, (.ptr n3 0)), (5, (.own n4 0 x14.length)), (7, (eI64 x9)), (8, (eBool b15))] ∧ H = [(n3, (.mem (e24 p0))), (n4, (.mem (.ar 1 (x14.map eBool))))] ∧ bosketref06_Close_c2 k rec10 x9 x14 b15 = some r) ?_ ?_
      ·refine AW.sr ?_
       refine AO.c (Calm.assign rfl rfl) ?_
       refine AO.nK [2, 5, 7, 8, 9] ?_
       refine AW.block ?_
       refine AW.wK [2, 5, 7, 8, 9] ?_
       refine AW.loop (fun kq ρ H => ∃ (x17 : (List Bool)) (b18 : Bool) (x19 : Int), ρ = [(2, (.ptr n3 0)), (5, (.own n4 0 x17.length)), (7, (eI64 x9)), (8, (eBool b18)), (9, (eI64 x19))] ∧ H = [(n3, (.mem (e24 p0))), (n4, (.mem (.ar 1 (x17.map eBool))))] ∧ bosketref06_Close_l4 k rec10 p0 x9 kq x17 b18 x19 = some r) k ⟨x8, false, (0 : Int), rfl, rfl, h⟩ ?_
       rintro kq21 _ _ ⟨x17, b18, x19, rfl, rfl, h⟩
       cases kq21 with
       | zero => rw [bosketref06_Close_l4.eq_1] at h; cases h
       | succ kq21 =>
       rw [bosketref06_Close_l4.eq_2] at h
       generalize hrec20 : bosketref06_Close_l4 k rec10 p0 x9 kq21 = rec20 at h
       refine AW.seq ?_
       refine AW.sr ?_
       refine AO.c (Calm.move rfl rfl) ?_
       refine AO.c (x := .ptr n3 1) (Calm.fldPtr rfl rfl Try.underlying24 rfl sz22 _ rfl) ?_
       refine AO.c (Calm.load 0 rfl rfl rfl (At.cast (At.fldS (At.fld0 At.here)) rfl) ag22 sz22) ?_
       refine AO.c (Calm.lenL rfl rfl Try.underlying22) ?_
       refine AO.c (x := eBool (decide (x19 < (p0.f1.length : Int)))) (Calm.int rfl rfl rfl rfl) ?_
       refine AO.nK [2, 5, 7, 8, 9, 43] ?_
       rcases of_ite h with ⟨hc22, h⟩ | ⟨hc22, h⟩
       ·refine AW.condP _ rfl hc22 ?_
        refine AW.sK [2, 5, 7, 8, 9] ?_
        refine AW.seq_mid (fun ρ H => ∃ (x23 : (List Bool)) (b24 : Bool), ρ = [(2, (.ptr n3 0)), (5, (.own n4 0 x23.length)), (7, (eI64 x9)), (8, (eBool b24)), (9, (eI64 x19))] ∧ H = [(n3, (.mem (e24 p0))), (n4, (.mem (.ar 1 (x23.map eBool))))] ∧ bosketref06_Close_c3 k rec20 x19 x23 b24 = some r) ?_ ?_
        ·refine AW.block ?_
         refine AW.sr ?_
         refine AO.c (x := .ptr n3 1) (Calm.fldPtr rfl rfl Try.underlying24 rfl sz22 _ rfl) ?_
         refine AO.c (Calm.load 0 rfl rfl rfl (At.cast (At.fldS (At.fld0 At.here)) rfl) ag22 sz22) ?_
         refine AO.c (Calm.move rfl rfl) ?_
         obtain ⟨hg25, h⟩ := of_guard h
         refine AO.c (Calm.idxL (f := e43) rfl rfl rfl hg25 Try.underlying22 sz43) ?_
         refine AO.c (Calm.loadRp rfl rfl ag43 sz43) ?_
         refine AO.alloc rfl 10 rfl (by decide) rfl zr43 lay43 fun n26 => ?_
         refine AO.store (X' := (e43 (lget p0.f1 x19))) 0 rfl rfl rfl rfl rfl rfl (Put.cast Put.here rfl) rfl rfl sz43 rfl ?_
         refine AO.nH [2, 5, 7, 8, 9, 10] (H' := [(n3, (.mem (e24 p0))), (n4, (.mem (.ar 1 (x17.map eBool)))), (n26, (.mem (e43 (lget p0.f1 x19))))]) (Sub.cons 1 rfl (Sub.cons 1 rfl (Sub.cons 0 rfl (Sub.nil _)))) ?_
         refine AW.seq ?_
         obtain ⟨b27, hq28, h⟩ := of_bind h
         refine AW.regM [(2, (.ptr n3 0)), (5, (.own n4 0 x17.length)), (7, (eI64 x9)), (8, (eBool b18)), (9, (eI64 x19)), (10, (.ptr n26 0)), (67, (eBool b27))] [(n3, (.mem (e24 p0))), (n4, (.mem (.ar 1 (x17.map eBool)))), (n26, (.mem (e43 (lget p0.f1 x19))))] ?_ ?_
         ·refine AO.c (x := .ptr n26 6) (Calm.fldPtr rfl rfl Try.underlying43 rfl sz4 _ rfl) ?_
          refine AO.c (Calm.load 2 rfl rfl rfl (At.cast (At.fldS (At.fldS (At.fldS (At.fld0 At.here)))) rfl) ag4 sz4) ?_
          refine AO.c (Calm.move rfl rfl) ?_
          rcases of_ite hq28 with ⟨hc29, hq28⟩ | ⟨hc29, hq28⟩
          ·refine AO.cG rfl rfl (bD hc29) (Calm.move rfl rfl) ?_
           refine AO.cG (x := .ptr n26 0) rfl rfl (bD hc29) (Calm.fldPtr rfl rfl Try.underlying43 rfl sz3 _ rfl) ?_
           refine AO.cG rfl rfl (bD hc29) (Calm.load 2 rfl rfl rfl (At.cast (At.fld0 At.here) rfl) ag3 sz3) ?_
           obtain ⟨hg30, hq28⟩ := of_guard hq28
           refine AO.cG rfl rfl (bD hc29) (Calm.idxO 1 rfl rfl rfl rfl hg30 Try.underlying49 sz4) ?_
           refine AO.cG rfl rfl (bD hc29) (Calm.load 1 rfl rfl rfl (At.cast (At.lidx ((lget p0.f1 x19).f0) hg30.1 hg30.2 At.here) (by omega)) ag4 sz4) ?_
           refine AO.c (Calm.pickT rfl (bD hc29) rfl) ?_
           refine AO.c (Calm.move rfl rfl) ?_
           rcases of_ite hq28 with ⟨hc31, hq28⟩ | ⟨hc31, hq28⟩
           ·refine AO.cG rfl rfl (bD hc31) (Calm.move rfl rfl) ?_
            refine AO.cG (x := .ptr n26 1) rfl rfl (bD hc31) (Calm.fldPtr rfl rfl Try.underlying43 rfl sz3 _ rfl) ?_
            refine AO.cG rfl rfl (bD hc31) (Calm.load 2 rfl rfl rfl (At.cast (At.fldS (At.fld0 At.here)) rfl) ag3 sz3) ?_
            obtain ⟨hg32, hq28⟩ := of_guard hq28
            refine AO.cG rfl rfl (bD hc31) (Calm.idxO 1 rfl rfl rfl rfl hg32 Try.underlying49 sz4) ?_
            refine AO.cG rfl rfl (bD hc31) (Calm.load 1 rfl rfl rfl (At.cast (At.lidx ((lget p0.f1 x19).f1) hg32.1 hg32.2 At.here) (by omega)) ag4 sz4) ?_
            refine AO.cG rfl rfl (bD hc31) (Calm.not rfl rfl) ?_
            refine AO.c (Calm.pickT rfl (bD hc31) rfl) ?_
            cases hq28
            refine AO.nilE ⟨rfl, rfl⟩ ?_ ?_
            · exact ⟨rfl, rfl, rfl, rfl, rfl, rfl, rfl, trivial⟩
            · exact (Sub.refl _)
           ·refine AO.sT rfl rfl (bD (eq_false_of_ne_true hc31)) ?_
            refine AO.sT rfl rfl (bD (eq_false_of_ne_true hc31)) ?_
            refine AO.sT rfl rfl (bD (eq_false_of_ne_true hc31)) ?_
            refine AO.sT rfl rfl (bD (eq_false_of_ne_true hc31)) ?_
            refine AO.sT rfl rfl (bD (eq_false_of_ne_true hc31)) ?_
            refine AO.sT rfl rfl (bD (eq_false_of_ne_true hc31)) ?_
            refine AO.c (Calm.pickF rfl (bD (eq_false_of_ne_true hc31)) rfl) ?_
            cases hq28
            refine AO.nilE ⟨rfl, rfl⟩ ?_ ?_
            · exact ⟨rfl, rfl, rfl, rfl, rfl, rfl, rfl, trivial⟩
            · exact (Sub.refl _)
          ·refine AO.sT rfl rfl (bD (eq_false_of_ne_true hc29)) ?_
           refine AO.sT rfl rfl (bD (eq_false_of_ne_true hc29)) ?_
           refine AO.sT rfl rfl (bD (eq_false_of_ne_true hc29)) ?_
           refine AO.sT rfl rfl (bD (eq_false_of_ne_true hc29)) ?_
           refine AO.sT rfl rfl (bD (eq_false_of_ne_true hc29)) ?_
           refine AO.c (Calm.pickF rfl (bD (eq_false_of_ne_true hc29)) rfl) ?_
           refine AO.c (Calm.move rfl rfl) ?_
           refine AO.sT rfl rfl rfl ?_
           refine AO.sT rfl rfl rfl ?_
           refine AO.sT rfl rfl rfl ?_
           refine AO.sT rfl rfl rfl ?_
           refine AO.sT rfl rfl rfl ?_
           refine AO.sT rfl rfl rfl ?_
           refine AO.c (Calm.pickF rfl rfl rfl) ?_
           cases hq28
           refine AO.nilE ⟨rfl, rfl⟩ ?_ ?_
           · exact ⟨rfl, rfl, rfl, rfl, rfl, rfl, rfl, trivial⟩
           · exact (Sub.refl _)
         ·rcases of_ite h with ⟨hc33, h⟩ | ⟨hc33, h⟩
          ·refine AW.condT' _ rfl hc33 ?_
           refine AW.sr ?_
           refine AO.c (Calm.move rfl rfl) ?_
           refine AO.c (x := .ptr n26 1) (Calm.fldPtr rfl rfl Try.underlying43 rfl sz3 _ rfl) ?_
           refine AO.c (Calm.load 2 rfl rfl rfl (At.cast (At.fldS (At.fld0 At.here)) rfl) ag3 sz3) ?_
           obtain ⟨hg34, h⟩ := of_guard h
           refine AO.c (Calm.idxO 1 rfl rfl rfl rfl hg34 Try.underlying49 sz4) ?_
           refine AO.store (X' := (.ar 1 ((lset x17 ((lget p0.f1 x19).f1) true).map eBool))) 1 rfl rfl rfl rfl rfl rfl (Put.cast (Put.lidx ((lget p0.f1 x19).f1) true hg34.1 hg34.2 Put.here) (by omega)) rfl rfl sz4 rfl ?_
           refine AO.coe 5 (y' := (.own n4 0 (lset x17 ((lget p0.f1 x19).f1) true).length)) rfl (fun _ _ h => lset_own h) ?_
           refine AO.coe 68 (y' := (.own n4 0 (lset x17 ((lget p0.f1 x19).f1) true).length)) rfl (fun _ _ h => lset_own h) ?_
           refine AO.nH [2, 5, 7, 9] (H' := [(n3, (.mem (e24 p0))), (n4, (.mem (.ar 1 ((lset x17 ((lget p0.f1 x19).f1) true).map eBool))))]) (Sub.cons 0 rfl (Sub.cons 0 rfl (Sub.nil _))) ?_
           refine AW.reg ?_
           refine AO.c (Calm.assign rfl rfl) ?_
           refine AO.nK [2, 5, 7, 8, 9] ?_
           exact ⟨(lset x17 ((lget p0.f1 x19).f1) true), true, rfl, rfl, h⟩
          ·refine AW.condF' _ rfl hc33 ?_
           refine AW.sH [2, 5, 7, 8, 9] (H' := [(n3, (.mem (e24 p0))), (n4, (.mem (.ar 1 (x17.map eBool))))]) (Sub.cons 0 rfl (Sub.cons 0 rfl (Sub.nil _))) ?_
           exact ⟨x17, b18, rfl, rfl, h⟩
        ·rintro _ _ ⟨x23, b24, rfl, rfl, h⟩
         rw [bosketref06_Close_c3.eq_1] at h
         refine AW.reg ?_
         refine AO.c (Calm.move rfl rfl) ?_
         refine AO.c (x := eI64 (w64 (x19 + (1 : Int)))) (Calm.int rfl rfl rfl rfl) ?_
         refine AO.c (Calm.assign rfl rfl) ?_
         refine AO.nK [2, 5, 7, 8, 9] ?_
         exact ⟨kq21, Nat.lt_succ_self _, x23, b24, (w64 (x19 + (1 : Int))), rfl, rfl, by rw [hrec20]; exact h⟩
       ·refine AW.condN _ rfl hc22 ?_
        refine AW.eK [2, 5, 7, 8] ?_
        exact ⟨x17, b18, rfl, rfl, h⟩
      ·rintro _ _ ⟨x14, b15, rfl, rfl, h⟩
       rw [bosketref06_Close_c2.eq_1] at h
       refine AW.sr ?_
       refine AO.c (Calm.move rfl rfl) ?_
       refine AO.c (Calm.not rfl rfl) ?_
       refine AO.nK [2, 5, 7, 73] ?_
       rcases of_ite h with ⟨hc16, h⟩ | ⟨hc16, h⟩
       ·refine AW.condT' _ rfl hc16 ?_
        refine AW.sr ?_
        refine AO.c (Calm.move rfl rfl) ?_
        refine AO.c (Calm.assign rfl rfl) ?_
        refine AO.nH [4] (H' := [(n4, (.mem (.ar 1 (x14.map eBool))))]) (Sub.cons 1 rfl (Sub.nil _)) ?_
        refine AW.freezeS 0 [(4, (.fz 1 (x14.map eBool)))] rfl ⟨fz_all rfl, trivial⟩ ?_
        refine AW.rK [4] ?_
        have hr := Option.some.inj h
        subst hr
        exact ⟨[(.fz 1 (x14.map eBool))], ⟨rfl, rfl, trivial⟩, rfl⟩
       ·refine AW.condF' _ rfl hc16 ?_
        refine AW.sK [2, 5, 7] ?_
        exact ⟨x14, rfl, rfl, h⟩
     ·rintro _ _ ⟨x13, rfl, rfl, h⟩
      rw [bosketref06_Close_c1.eq_1] at h
      refine AW.reg ?_
      refine AO.c (Calm.move rfl rfl) ?_
      refine AO.c (x := eI64 (w64 (x9 + (1 : Int)))) (Calm.int rfl rfl rfl rfl) ?_
      refine AO.c (Calm.assign rfl rfl) ?_
      refine AO.nK [2, 5, 7] ?_
      exact ⟨kq11, Nat.lt_succ_self _, x13, (w64 (x9 + (1 : Int))), rfl, rfl, by rw [hrec10]; exact h⟩
    ·refine AW.condN _ rfl hc12 ?_
     refine AW.eH [5] (H' := [(n4, (.mem (.ar 1 (x8.map eBool))))]) (Sub.cons 1 rfl (Sub.nil _)) ?_
     exact ⟨x8, rfl, rfl, h⟩
   ·rintro _ _ ⟨x7, rfl, rfl, h⟩
    rw [bosketref06_Close_c0.eq_1] at h
    refine AW.sr ?_
    refine AO.c (Calm.move rfl rfl) ?_
    refine AO.c (Calm.assign rfl rfl) ?_
    refine AO.nK [4] ?_
    refine AW.freezeS 0 [(4, (.fz 1 (x7.map eBool)))] rfl ⟨fz_all rfl, trivial⟩ ?_
    refine AW.rK [4] ?_
    have hr := Option.some.inj h
    subst hr
    exact ⟨[(.fz 1 (x7.map eBool))], ⟨rfl, rfl, trivial⟩, rfl⟩
end Go.Avl.T5
/- bosket/nfa.Move; printed by avmain.py. -/
namespace Go.Avl.T5
open Go Go.RowKit Go.Proofs Go.Avl
set_option linter.unusedVariables false
set_option maxRecDepth 100000
set_option maxHeartbeats 4000000
attribute [local irreducible] AW AO AQ Spec SpecH Calm

def nfa_Move_c0 (k : Nat) (x7 : (List Bool)) : Option (List Bool) :=
  some (x7)
def nfa_Move_c1 (k : Nat) (rec10 : ((List Bool) → Int → Option (List Bool))) (x9 : Int) (x13 : (List Bool)) : Option (List Bool) :=
  rec10 x13 (w64 (x9 + (1 : Int)))
def nfa_Move_l2 (k : Nat) (p0 : S24) (p1 : (List Bool)) (p2 : Int) : Nat → (List Bool) → Int → Option (List Bool)
  | 0, _, _ => none
  | j + 1, x8, x9 =>
    if x9 < (p0.f1.length : Int) then if 0 ≤ x9 ∧ x9 < (p0.f1.length : Int) then Option.bind (α := Bool) (if (!((lget p0.f1 x9).f3)) = true then if ((lget p0.f1 x9).f0) < (p1.length : Int) then if 0 ≤ ((lget p0.f1 x9).f0) ∧ ((lget p0.f1 x9).f0) < (p1.length : Int) then if (lget p1 ((lget p0.f1 x9).f0)) = true then (byteset_Has k ((lget p0.f1 x9).f2) p2).bind fun t22 =>
    some (t22)
    else some (false)
    else none
    else some (false)
    else some (false)) fun b16 =>
    if b16 = true then if 0 ≤ ((lget p0.f1 x9).f1) ∧ ((lget p0.f1 x9).f1) < (x8.length : Int) then nfa_Move_c1 k (nfa_Move_l2 k p0 p1 p2 j) x9 (lset x8 ((lget p0.f1 x9).f1) true)
    else none
    else nfa_Move_c1 k (nfa_Move_l2 k p0 p1 p2 j) x9 x8
    else none
    else nfa_Move_c0 k x8
def nfa_Move (k : Nat) (p0 : S24) (p1 : (List Bool)) (p2 : Int) : Option (List Bool) :=
  if 0 ≤ p0.f0 ∧ p0.f0 * (1 : Int) ≤ 140737488355328 ∧ p0.f0 ≤ 9223372036854775807 then nfa_Move_l2 k p0 p1 p2 k (List.replicate p0.f0.toNat false) (0 : Int)
  else none
theorem nfa_Move_spec {k : Nat} {p0 : S24} {p1 : (List Bool)} {p2 : Int} {r : (List Bool)} (h : nfa_Move k p0 p1 p2 = some r) : Spec Try.prog 52 [(e24 p0), (.fz 1 (p1.map eBool)), (eU8 p2)] (e49 r) := by
  rw [nfa_Move.eq_1] at h
  refine Spec.intro (res := [.tmp 6]) Try.func52 rfl rfl rfl (Nat.le_of_ble_eq_true rfl) ?_
  refine AW.sr ?_
  refine AO.box rfl 3 rfl (by decide) rfl rfl rfl fun n4 => ?_
  refine AO.c (Calm.assign rfl rfl) ?_
  refine AO.nK [1, 2, 3] ?_
  refine AW.sr ?_
  refine AO.c (x := .ptr n4 0) (Calm.fldPtr rfl rfl Try.underlying24 rfl sz3 _ rfl) ?_
  refine AO.c (Calm.load 0 rfl rfl rfl (At.cast (At.fld0 At.here) rfl) ag3 sz3) ?_
  obtain ⟨hg6, h⟩ := of_guard h
  refine AO.makeL (f := eBool) false rfl 12 rfl (by decide) rfl rfl rfl Try.underlying49 sz4 by4 zr4 lay4 rfl hg6 fun n5 => ?_
  refine AO.c (Calm.assign rfl rfl) ?_
  refine AO.nH [1, 2, 3, 7] (H' := [(n4, (.mem (e24 p0))), (n5, (.mem (.ar 1 ((List.replicate p0.f0.toNat false).map eBool))))]) (Sub.cons 1 rfl (Sub.cons 0 rfl (Sub.nil _))) ?_
  refine AW.seq_mid (fun ρ H => ∃ (x7 : (List Bool)), ρ = [(7, (.own n5 0 x7.length))] ∧ H = [(n5, (.mem (.ar 1 (x7.map eBool))))] ∧ nfa_Move_c0 k x7 = some r) ?_ ?_
  ·refine AW.sr ?_
   refine AO.c (x := .ptr n4 1) (Calm.fldPtr rfl rfl Try.underlying24 rfl sz22 _ rfl) ?_
   refine AO.c (Calm.load 0 rfl rfl rfl (At.cast (At.fldS (At.fld0 At.here)) rfl) ag22 sz22) ?_
   refine AO.c (Calm.lenL rfl rfl Try.underlying22) ?_
   refine AO.c (Calm.move rfl rfl) ?_
   refine AO.nH [1, 2, 7, 14, 15, 16] (H' := [(n5, (.mem (.ar 1 ((List.replicate p0.f0.toNat false).map eBool))))]) (Sub.cons 1 rfl (Sub.nil _)) ?_
   refine AW.block ?_
   refine AW.wK [1, 2, 7, 14, 15, 16] ?_
   refine AW.loop (fun kq ρ H => ∃ (x8 : (List Bool)) (x9 : Int), ρ = [(1, (.fz 1 (p1.map eBool))), (2, (eU8 p2)), (7, (.own n5 0 x8.length)), (14, (.fz 7 (p0.f1.map e43))), (15, (eI64 (p0.f1.length : Int))), (16, (eI64 x9))] ∧ H = [(n5, (.mem (.ar 1 (x8.map eBool))))] ∧ nfa_Move_l2 k p0 p1 p2 kq x8 x9 = some r) k ⟨(List.replicate p0.f0.toNat false), (0 : Int), rfl, rfl, h⟩ ?_
   rintro kq11 _ _ ⟨x8, x9, rfl, rfl, h⟩
   cases kq11 with
   | zero => rw [nfa_Move_l2.eq_1] at h; cases h
   | succ kq11 =>
   rw [nfa_Move_l2.eq_2] at h
   generalize hrec10 : nfa_Move_l2 k p0 p1 p2 kq11 = rec10 at h
   refine AW.sr ?_
   refine AO.c (x := eBool (decide (x9 < (p0.f1.length : Int)))) (Calm.int rfl rfl rfl rfl) ?_
   refine AO.nK [1, 2, 7, 14, 15, 16, 17] ?_
   refine AW.seq ?_
   rcases of_ite h with ⟨hc12, h⟩ | ⟨hc12, h⟩
   ·refine AW.condP _ rfl hc12 ?_
    refine AW.sK [1, 2, 7, 14, 15, 16] ?_
    refine AW.seq_mid (fun ρ H => ∃ (x13 : (List Bool)), ρ = [(1, (.fz 1 (p1.map eBool))), (2, (eU8 p2)), (7, (.own n5 0 x13.length)), (14, (.fz 7 (p0.f1.map e43))), (15, (eI64 (p0.f1.length : Int))), (16, (eI64 x9))] ∧ H = [(n5, (.mem (.ar 1 (x13.map eBool))))] ∧ nfa_Move_c1 k rec10 x9 x13 = some r) ?_ ?_
    ·refine AW.block ?_
     refine AW.sr ?_
     obtain ⟨hg14, h⟩ := of_guard h
     refine AO.c (Calm.idxL (f := e43) rfl rfl rfl hg14 Try.underlying22 sz43) ?_
     refine AO.c (Calm.loadRp rfl rfl ag43 sz43) ?_
     refine AO.alloc rfl 9 rfl (by decide) rfl zr43 lay43 fun n15 => ?_
     refine AO.store (X' := (e43 (lget p0.f1 x9))) 0 rfl rfl rfl rfl rfl rfl (Put.cast Put.here rfl) rfl rfl sz43 rfl ?_
     refine AO.nH [1, 2, 7, 9, 14, 15, 16] (H' := [(n5, (.mem (.ar 1 (x8.map eBool)))), (n15, (.mem (e43 (lget p0.f1 x9))))]) (Sub.cons 1 rfl (Sub.cons 0 rfl (Sub.nil _))) ?_
     refine AW.seq ?_
     obtain ⟨b16, hq17, h⟩ := of_bind h
     refine AW.regM [(1, (.fz 1 (p1.map eBool))), (2, (eU8 p2)), (7, (.own n5 0 x8.length)), (9, (.ptr n15 0)), (14, (.fz 7 (p0.f1.map e43))), (15, (eI64 (p0.f1.length : Int))), (16, (eI64 x9)), (42, (eBool b16))] [(n5, (.mem (.ar 1 (x8.map eBool)))), (n15, (.mem (e43 (lget p0.f1 x9))))] ?_ ?_
     ·refine AO.c (x := .ptr n15 6) (Calm.fldPtr rfl rfl Try.underlying43 rfl sz4 _ rfl) ?_
      refine AO.c (Calm.load 1 rfl rfl rfl (At.cast (At.fldS (At.fldS (At.fldS (At.fld0 At.here)))) rfl) ag4 sz4) ?_
      refine AO.c (Calm.not rfl rfl) ?_
      refine AO.c (Calm.move rfl rfl) ?_
      rcases of_ite hq17 with ⟨hc18, hq17⟩ | ⟨hc18, hq17⟩
      ·refine AO.cG (x := .ptr n15 0) rfl rfl (bD hc18) (Calm.fldPtr rfl rfl Try.underlying43 rfl sz3 _ rfl) ?_
       refine AO.cG rfl rfl (bD hc18) (Calm.load 1 rfl rfl rfl (At.cast (At.fld0 At.here) rfl) ag3 sz3) ?_
       refine AO.cG rfl rfl (bD hc18) (Calm.move rfl rfl) ?_
       refine AO.cG rfl rfl (bD hc18) (Calm.lenL rfl rfl Try.underlying49) ?_
       refine AO.cG (x := eBool (decide (((lget p0.f1 x9).f0) < (p1.length : Int)))) rfl rfl (bD hc18) (Calm.int rfl rfl rfl rfl) ?_
       refine AO.c (Calm.pickT rfl (bD hc18) rfl) ?_
       refine AO.c (Calm.move rfl rfl) ?_
       rcases of_ite hq17 with ⟨hc19, hq17⟩ | ⟨hc19, hq17⟩
       ·refine AO.cG rfl rfl (bD (decide_eq_true hc19)) (Calm.move rfl rfl) ?_
        refine AO.cG (x := .ptr n15 0) rfl rfl (bD (decide_eq_true hc19)) (Calm.fldPtr rfl rfl Try.underlying43 rfl sz3 _ rfl) ?_
        refine AO.cG rfl rfl (bD (decide_eq_true hc19)) (Calm.load 1 rfl rfl rfl (At.cast (At.fld0 At.here) rfl) ag3 sz3) ?_
        obtain ⟨hg20, hq17⟩ := of_guard hq17
        refine AO.cG rfl rfl (bD (decide_eq_true hc19)) (Calm.idxL (f := eBool) rfl rfl rfl hg20 Try.underlying49 sz4) ?_
        refine AO.cG rfl rfl (bD (decide_eq_true hc19)) (Calm.loadRp rfl rfl ag4 sz4) ?_
        refine AO.c (Calm.pickT rfl (bD (decide_eq_true hc19)) rfl) ?_
        refine AO.c (Calm.move rfl rfl) ?_
        rcases of_ite hq17 with ⟨hc21, hq17⟩ | ⟨hc21, hq17⟩
        ·refine AO.cG (x := .ptr n15 2) rfl rfl (bD hc21) (Calm.fldPtr rfl rfl Try.underlying43 rfl sz41 _ rfl) ?_
         refine AO.cG rfl rfl (bD hc21) (Calm.load 1 rfl rfl rfl (At.cast (At.fldS (At.fldS (At.fld0 At.here))) rfl) ag41 (by rw [sz41]; simp [AV.size])) ?_
         refine AO.cG rfl rfl (bD hc21) (Calm.move rfl rfl) ?_
         obtain ⟨t22, et22, hq17⟩ := of_bind hq17
         refine AO.callG 17 true 37 [(.ar 1 (((lget p0.f1 x9).f2).toList.map eU64)), (eU8 p2)] (eBool t22) 41 rfl (by decide) ok82 rfl rfl (bD hc21) rfl rfl ⟨rfl, rfl, rfl, rfl, trivial⟩ (byteset_Has_spec et22) ?_
         refine AO.c (Calm.pickT rfl (bD hc21) rfl) ?_
         cases hq17
         refine AO.nilE ⟨rfl, rfl⟩ ?_ ?_
         · exact ⟨rfl, rfl, rfl, rfl, rfl, rfl, rfl, rfl, trivial⟩
         · exact (Sub.refl _)
        ·refine AO.sT rfl rfl (bD (eq_false_of_ne_true hc21)) ?_
         refine AO.sT rfl rfl (bD (eq_false_of_ne_true hc21)) ?_
         refine AO.sT rfl rfl (bD (eq_false_of_ne_true hc21)) ?_
         refine AO.sT rfl rfl (bD (eq_false_of_ne_true hc21)) ?_
         refine AO.c (Calm.pickF rfl (bD (eq_false_of_ne_true hc21)) rfl) ?_
         cases hq17
         refine AO.nilE ⟨rfl, rfl⟩ ?_ ?_
         · exact ⟨rfl, rfl, rfl, rfl, rfl, rfl, rfl, rfl, trivial⟩
         · exact (Sub.refl _)
       ·refine AO.sT rfl rfl (bD (decide_eq_false hc19)) ?_
        refine AO.sT rfl rfl (bD (decide_eq_false hc19)) ?_
        refine AO.sT rfl rfl (bD (decide_eq_false hc19)) ?_
        refine AO.sT rfl rfl (bD (decide_eq_false hc19)) ?_
        refine AO.sT rfl rfl (bD (decide_eq_false hc19)) ?_
        refine AO.c (Calm.pickF rfl (bD (decide_eq_false hc19)) rfl) ?_
        refine AO.c (Calm.move rfl rfl) ?_
        refine AO.sT rfl rfl rfl ?_
        refine AO.sT rfl rfl rfl ?_
        refine AO.sT rfl rfl rfl ?_
        refine AO.sT rfl rfl rfl ?_
        refine AO.c (Calm.pickF rfl rfl rfl) ?_
        cases hq17
        refine AO.nilE ⟨rfl, rfl⟩ ?_ ?_
        · exact ⟨rfl, rfl, rfl, rfl, rfl, rfl, rfl, rfl, trivial⟩
        · exact (Sub.refl _)
      ·refine AO.sT rfl rfl (bD (eq_false_of_ne_true hc18)) ?_
       refine AO.sT rfl rfl (bD (eq_false_of_ne_true hc18)) ?_
       refine AO.sT rfl rfl (bD (eq_false_of_ne_true hc18)) ?_
       refine AO.sT rfl rfl (bD (eq_false_of_ne_true hc18)) ?_
       refine AO.sT rfl rfl (bD (eq_false_of_ne_true hc18)) ?_
       refine AO.c (Calm.pickF rfl (bD (eq_false_of_ne_true hc18)) rfl) ?_
       refine AO.c (Calm.move rfl rfl) ?_
       refine AO.sT rfl rfl rfl ?_
       refine AO.sT rfl rfl rfl ?_
       refine AO.sT rfl rfl rfl ?_
       refine AO.sT rfl rfl rfl ?_
       refine AO.sT rfl rfl rfl ?_
       refine AO.c (Calm.pickF rfl rfl rfl) ?_
       refine AO.c (Calm.move rfl rfl) ?_
       refine AO.sT rfl rfl rfl ?_
       refine AO.sT rfl rfl rfl ?_
       refine AO.sT rfl rfl rfl ?_
       refine AO.sT rfl rfl rfl ?_
       refine AO.c (Calm.pickF rfl rfl rfl) ?_
       cases hq17
       refine AO.nilE ⟨rfl, rfl⟩ ?_ ?_
       · exact ⟨rfl, rfl, rfl, rfl, rfl, rfl, rfl, rfl, trivial⟩
       · exact (Sub.refl _)
     ·rcases of_ite h with ⟨hc23, h⟩ | ⟨hc23, h⟩
      ·refine AW.condT' _ rfl hc23 ?_
       refine AW.reg ?_
       refine AO.c (Calm.move rfl rfl) ?_
       refine AO.c (x := .ptr n15 1) (Calm.fldPtr rfl rfl Try.underlying43 rfl sz3 _ rfl) ?_
       refine AO.c (Calm.load 1 rfl rfl rfl (At.cast (At.fldS (At.fld0 At.here)) rfl) ag3 sz3) ?_
       obtain ⟨hg24, h⟩ := of_guard h
       refine AO.c (Calm.idxO 0 rfl rfl rfl rfl hg24 Try.underlying49 sz4) ?_
       refine AO.store (X' := (.ar 1 ((lset x8 ((lget p0.f1 x9).f1) true).map eBool))) 0 rfl rfl rfl rfl rfl rfl (Put.cast (Put.lidx ((lget p0.f1 x9).f1) true hg24.1 hg24.2 Put.here) (by omega)) rfl rfl sz4 rfl ?_
       refine AO.coe 7 (y' := (.own n5 0 (lset x8 ((lget p0.f1 x9).f1) true).length)) rfl (fun _ _ h => lset_own h) ?_
       refine AO.coe 43 (y' := (.own n5 0 (lset x8 ((lget p0.f1 x9).f1) true).length)) rfl (fun _ _ h => lset_own h) ?_
       refine AO.nH [1, 2, 7, 14, 15, 16] (H' := [(n5, (.mem (.ar 1 ((lset x8 ((lget p0.f1 x9).f1) true).map eBool))))]) (Sub.cons 0 rfl (Sub.nil _)) ?_
       exact ⟨(lset x8 ((lget p0.f1 x9).f1) true), rfl, rfl, h⟩
      ·refine AW.condF' _ rfl hc23 ?_
       refine AW.sH [1, 2, 7, 14, 15, 16] (H' := [(n5, (.mem (.ar 1 (x8.map eBool))))]) (Sub.cons 0 rfl (Sub.nil _)) ?_
       exact ⟨x8, rfl, rfl, h⟩
    ·rintro _ _ ⟨x13, rfl, rfl, h⟩
     rw [nfa_Move_c1.eq_1] at h
     refine AW.reg ?_
     refine AO.c (x := eI64 (w64 (x9 + (1 : Int)))) (Calm.int rfl rfl rfl rfl) ?_
     refine AO.c (Calm.move rfl rfl) ?_
     refine AO.nK [1, 2, 7, 14, 15, 16] ?_
     exact ⟨kq11, Nat.lt_succ_self _, x13, (w64 (x9 + (1 : Int))), rfl, rfl, by rw [hrec10]; exact h⟩
   ·refine AW.condN _ rfl hc12 ?_
    refine AW.eK [7] ?_
    exact ⟨x8, rfl, rfl, h⟩
  ·rintro _ _ ⟨x7, rfl, rfl, h⟩
   rw [nfa_Move_c0.eq_1] at h
   refine AW.sr ?_
   refine AO.c (Calm.move rfl rfl) ?_
   refine AO.c (Calm.assign rfl rfl) ?_
   refine AO.nK [6] ?_
   refine AW.freezeS 0 [(6, (.fz 1 (x7.map eBool)))] rfl ⟨fz_all rfl, trivial⟩ ?_
   refine AW.rK [6] ?_
   have hr := Option.some.inj h
   subst hr
   exact ⟨[(.fz 1 (x7.map eBool))], ⟨rfl, rfl, trivial⟩, rfl⟩
end Go.Avl.T5
