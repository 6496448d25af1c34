/- Parts: T3B, T3f44, T3f46, T3f59, T3f32, T3f34, T3f67, T3f68, T3f57, T3f75, T3f62, T3f56, T3f79, T3f69, T3f64, T3f76, T3f63, T3f40. -/
import Derived.Test.YtcdennkoccjacaaAv3
import Derived.Test.YtcdennkoccjacaaProg
/- Types and facts; printed by avmain.py. -/
namespace Go.Avl.T3
open Go Go.RowKit Go.Proofs Go.Avl
set_option linter.unusedVariables false
set_option maxRecDepth 100000
set_option maxHeartbeats 4000000
structure S82 where
  f0 : Int
  f1 : (Vector Int 4)
deriving Inhabited, DecidableEq
abbrev e82 (x : S82) : AV := .st [(1, (eI64 x.f0)), (4, (.ar 1 (x.f1.toList.map eU64)))]
abbrev e25 (l : List Bool) : AV := .fz 1 (l.map eBool)
abbrev e33 (v : Vector Int 4) : AV := .ar 1 (v.toList.map eU64)
abbrev e58 (l : List S82) : AV := .fz 5 (l.map e82)
abbrev e97 (l : List (List S82)) : AV := .fz 1 (l.map e58)
structure S62 where
  f0 : Bool
  f1 : (List S82)
deriving Inhabited, DecidableEq
abbrev e62 (x : S62) : AV := .st [(1, (eBool x.f0)), (1, (.fz 5 (x.f1.map e82)))]
theorem ag33 : tyAgg Try.prog 33 = some true := by rfl
theorem sz33 : tySize Try.prog 33 = some 4 := by rfl
theorem sz31 : tySize Try.prog 31 = some 1 := by rfl
theorem zr33 : tyZero Try.prog 33 = some ((List.replicate 4 (.int .u64 0))) := by rfl
theorem lay33 : ∀ g, Sim g (.ar 1 ((Vector.replicate 4 (0 : Int)).toList.map eU64)) ((List.replicate 4 (.int .u64 0))) := fun g => (lay_vec1 (lay_fl rfl))
theorem ag31 : tyAgg Try.prog 31 = some false := by rfl
theorem eqa33 (x y : (Vector Int 4)) : EqOK Try.prog 2 33 (.ar 1 (x.toList.map eU64)) (.ar 1 (y.toList.map eU64)) (decide (x = y)) := EqOK.vec (m := 1) Try.underlying33 (fun a b => EqOK.int Try.underlying31) (fun _ => ag31) (fun _ => sz31) (fun _ => rfl) (by rfl) ⟨_, rfl⟩ x y
theorem eg33 : Try.prog.eqGuardType Try.prog.depth 33 = false := by decide +kernel
theorem sz82 : tySize Try.prog 82 = some 5 := by rfl
theorem ag82 : tyAgg Try.prog 82 = some true := by rfl
theorem zr82 : tyZero Try.prog 82 = some (([.int .i64 0] ++ ((List.replicate 4 (.int .u64 0)) ++ []))) := by rfl
theorem lay82 : ∀ g, Sim g (.st [(1, (eI64 (0 : Int))), (4, (.ar 1 ((Vector.replicate 4 (0 : Int)).toList.map eU64)))]) (([.int .i64 0] ++ ((List.replicate 4 (.int .u64 0)) ++ []))) := fun g => (Sim.stCons (lay_fl rfl) rfl (Sim.stCons (lay_vec1 (lay_fl rfl)) rfl Sim.stNil))
theorem sz3 : tySize Try.prog 3 = some 1 := by rfl
theorem ag3 : tyAgg Try.prog 3 = some false := by rfl
theorem ok67 : FnOK Try.prog 67 := FnOK.mk Try.func67 rfl rfl
theorem ok68 : FnOK Try.prog 68 := FnOK.mk Try.func68 rfl rfl
theorem ok57 : FnOK Try.prog 57 := FnOK.mk Try.func57 rfl rfl
theorem sz4 : tySize Try.prog 4 = some 1 := by rfl
theorem by4 : tyBytes Try.prog 4 = some 1 := by rfl
theorem zr4 : tyZero Try.prog 4 = some ([.bool false]) := by rfl
theorem lay4 : ∀ g, Sim g (eBool false) ([.bool false]) := fun g => (lay_fl rfl)
theorem ag4 : tyAgg Try.prog 4 = some false := by rfl
theorem ok46 : FnOK Try.prog 46 := FnOK.mk Try.func46 rfl rfl
theorem ok44 : FnOK Try.prog 44 := FnOK.mk Try.func44 rfl rfl
theorem zr3 : tyZero Try.prog 3 = some ([.int .i64 0]) := by rfl
theorem lay3 : ∀ g, Sim g (eI64 (0 : Int)) ([.int .i64 0]) := fun g => (lay_fl rfl)
theorem by82 : tyBytes Try.prog 82 = some 40 := by rfl
theorem ok56 : FnOK Try.prog 56 := FnOK.mk Try.func56 rfl rfl
theorem sz58 : tySize Try.prog 58 = some 1 := by rfl
theorem zr58 : tyZero Try.prog 58 = some ([.slice none 0 0]) := by rfl
theorem lay58 : ∀ g, Sim g (.fl (.slice none 0 0)) ([.slice none 0 0]) := fun g => (lay_fl rfl)
theorem ok79 : FnOK Try.prog 79 := FnOK.mk Try.func79 rfl rfl
theorem ag58 : tyAgg Try.prog 58 = some false := by rfl
theorem zr62 : tyZero Try.prog 62 = some (([.bool false] ++ ([.slice none 0 0] ++ []))) := by rfl
theorem lay62 : ∀ g, Sim g (.st [(1, (eBool false)), (1, (.fl (.slice none 0 0)))]) (([.bool false] ++ ([.slice none 0 0] ++ []))) := fun g => (Sim.stCons (lay_fl rfl) rfl (Sim.stCons (lay_fl rfl) rfl Sim.stNil))
theorem sz62 : tySize Try.prog 62 = some 2 := by rfl
theorem ag62 : tyAgg Try.prog 62 = some true := by rfl
theorem ok72 : FnOK Try.prog 72 := FnOK.mk Try.func72 rfl rfl
theorem eqk82 (x y : S82) : EqOK Try.prog 3 82 (e82 x) (e82 y) (decide (x = y)) := (EqOK.struct (bs := [decide (x.f0 = y.f0), decide (x.f1 = y.f1)]) Try.underlying82 (by decide +kernel) ⟨⟨rfl, (eI64 x.f0), (eI64 y.f0), (At.cast (At.fld0 At.here) rfl), (At.cast (At.fld0 At.here) rfl), ag3, ag3, sz3, sz3, (EqOK.lift 1 (EqOK.int Try.underlying3))⟩, ⟨rfl, (.ar 1 (x.f1.toList.map eU64)), (.ar 1 (y.f1.toList.map eU64)), (At.cast (At.fldS (At.fld0 At.here)) rfl), (At.cast (At.fldS (At.fld0 At.here)) rfl), ag33, ag33, (by rw [sz33]; simp [AV.size]), (by rw [sz33]; simp [AV.size]), (eqa33 x.f1 y.f1)⟩, trivial⟩).of (by cases x; cases y; simp)
theorem eg82 : Try.prog.eqGuardType Try.prog.depth 82 = false := by decide +kernel
theorem ok82 : FnOK Try.prog 82 := FnOK.mk Try.func82 rfl rfl
theorem ok80 : FnOK Try.prog 80 := FnOK.mk Try.func80 rfl rfl
theorem ok69 : FnOK Try.prog 69 := FnOK.mk Try.func69 rfl rfl
theorem ok58 : FnOK Try.prog 58 := FnOK.mk Try.func58 rfl rfl
theorem ok70 : FnOK Try.prog 70 := FnOK.mk Try.func70 rfl rfl
theorem ok41 : FnOK Try.prog 41 := FnOK.mk Try.func41 rfl rfl
theorem ok71 : FnOK Try.prog 71 := FnOK.mk Try.func71 rfl rfl
theorem ok59 : FnOK Try.prog 59 := FnOK.mk Try.func59 rfl rfl
theorem ok75 : FnOK Try.prog 75 := FnOK.mk Try.func75 rfl rfl
theorem by58 : tyBytes Try.prog 58 = some 24 := by rfl
theorem ok62 : FnOK Try.prog 62 := FnOK.mk Try.func62 rfl rfl
theorem ok60 : FnOK Try.prog 60 := FnOK.mk Try.func60 rfl rfl
theorem ok73 : FnOK Try.prog 73 := FnOK.mk Try.func73 rfl rfl
theorem ok74 : FnOK Try.prog 74 := FnOK.mk Try.func74 rfl rfl
theorem ok43 : FnOK Try.prog 43 := FnOK.mk Try.func43 rfl rfl
theorem ok34 : FnOK Try.prog 34 := FnOK.mk Try.func34 rfl rfl
theorem ok33 : FnOK Try.prog 33 := FnOK.mk Try.func33 rfl rfl
theorem ok30 : FnOK Try.prog 30 := FnOK.mk Try.func30 rfl rfl
theorem sz9 : tySize Try.prog 9 = some 1 := by rfl
theorem ag9 : tyAgg Try.prog 9 = some false := by rfl
theorem ok31 : FnOK Try.prog 31 := FnOK.mk Try.func31 rfl rfl
theorem ok32 : FnOK Try.prog 32 := FnOK.mk Try.func32 rfl rfl
end Go.Avl.T3
/- bosket/bosketref02.Has; printed by avmain.py. -/
namespace Go.Avl.T3
open Go Go.RowKit Go.Proofs Go.Avl
set_option linter.unusedVariables false
set_option maxRecDepth 100000
set_option maxHeartbeats 4000000
attribute [local irreducible] AW AO AQ Spec SpecH Calm

def bosketref02_Has_c0 (k : Nat) (x5 : Int) : Option Bool :=
  some (decide ((x5.tmod (2 : Int)) = (1 : Int)))
def bosketref02_Has_l1 (k : Nat) (p1 : Int) : Nat → Int → Int → Option Bool
  | 0, _, _ => none
  | j + 1, x6, x7 =>
    if x7 < (p1.tmod (64 : Int)) then (bosketref02_Has_l1 k p1 j) (IntKind.u64.wrap (x6.tdiv (2 : Int))) (w64 (x7 + (1 : Int)))
    else bosketref02_Has_c0 k x6
def bosketref02_Has (k : Nat) (p0 : (Vector Int 4)) (p1 : Int) : Option Bool :=
  if 0 ≤ (IntKind.i64.wrap (p1.tdiv (64 : Int))) ∧ (IntKind.i64.wrap (p1.tdiv (64 : Int))) < (4 : Int) then bosketref02_Has_l1 k p1 k (vget p0 (IntKind.i64.wrap (p1.tdiv (64 : Int)))) (0 : Int)
  else none
theorem bosketref02_Has_spec {k : Nat} {p0 : (Vector Int 4)} {p1 : Int} {r : Bool} (h : bosketref02_Has k p0 p1 = some r) : Spec Try.prog 44 [(.ar 1 (p0.toList.map eU64)), (eI64 p1)] (eBool r) := by
  rw [bosketref02_Has.eq_1] at h
  refine Spec.intro (res := [.tmp 4]) Try.func44 rfl rfl rfl (Nat.le_of_ble_eq_true rfl) ?_
  refine AW.sr ?_
  refine AO.box rfl 2 rfl (by decide) rfl rfl rfl fun n3 => ?_
  refine AO.c (Calm.assign rfl rfl) ?_
  refine AO.nK [1, 2] ?_
  refine AW.sr ?_
  refine AO.c (Calm.move rfl rfl) ?_
  refine AO.c (x := eI64 (IntKind.i64.wrap (p1.tdiv (64 : Int)))) (Calm.quo rfl rfl rfl (by decide)) ?_
  obtain ⟨hg4, h⟩ := of_guard h
  refine AO.c (Calm.idxP rfl rfl rfl hg4 Try.underlying33 sz31) ?_
  refine AO.c (Calm.load 0 rfl rfl rfl (At.cast (At.vidx (IntKind.i64.wrap (p1.tdiv (64 : Int))) hg4.1 hg4.2 At.here) (by omega)) ag31 sz31) ?_
  refine AO.c (Calm.assign rfl rfl) ?_
  refine AO.nH [1, 5] (H' := []) (Sub.nil _) ?_
  refine AW.seq_mid (fun ρ H => ∃ (x5 : Int), ρ = [(5, (eU64 x5))] ∧ H = [] ∧ bosketref02_Has_c0 k x5 = some r) ?_ ?_
  ·refine AW.sr ?_
   refine AO.c (Calm.assign rfl rfl) ?_
   refine AO.nK [1, 5, 6] ?_
   refine AW.block ?_
   refine AW.wK [1, 5, 6] ?_
   refine AW.loop (fun kq ρ H => ∃ (x6 : Int) (x7 : Int), ρ = [(1, (eI64 p1)), (5, (eU64 x6)), (6, (eI64 x7))] ∧ H = [] ∧ bosketref02_Has_l1 k p1 kq x6 x7 = some r) k ⟨(vget p0 (IntKind.i64.wrap (p1.tdiv (64 : Int)))), (0 : Int), rfl, rfl, h⟩ ?_
   rintro kq9 _ _ ⟨x6, x7, rfl, rfl, h⟩
   cases kq9 with
   | zero => rw [bosketref02_Has_l1.eq_1] at h; cases h
   | succ kq9 =>
   rw [bosketref02_Has_l1.eq_2] at h
   generalize hrec8 : bosketref02_Has_l1 k p1 kq9 = rec8 at h
   refine AW.seq ?_
   refine AW.sr ?_
   refine AO.c (Calm.move rfl rfl) ?_
   refine AO.c (Calm.move rfl rfl) ?_
   refine AO.c (x := eI64 (p1.tmod (64 : Int))) (Calm.rem rfl rfl rfl (by decide)) ?_
   refine AO.c (x := eBool (decide (x7 < (p1.tmod (64 : Int))))) (Calm.int rfl rfl rfl rfl) ?_
   refine AO.nK [1, 5, 6, 14] ?_
   rcases of_ite h with ⟨hc10, h⟩ | ⟨hc10, h⟩
   ·refine AW.condP _ rfl hc10 ?_
    refine AW.sK [1, 5, 6] ?_
    refine AW.seq ?_
    refine AW.block ?_
    refine AW.reg ?_
    refine AO.c (Calm.move rfl rfl) ?_
    refine AO.c (x := eU64 (IntKind.u64.wrap (x6.tdiv (2 : Int)))) (Calm.quo rfl rfl rfl (by decide)) ?_
    refine AO.c (Calm.assign rfl rfl) ?_
    refine AO.nK [1, 5, 6] ?_
    refine AW.reg ?_
    refine AO.c (Calm.move rfl rfl) ?_
    refine AO.c (x := eI64 (w64 (x7 + (1 : Int)))) (Calm.int rfl rfl rfl rfl) ?_
    refine AO.c (Calm.assign rfl rfl) ?_
    refine AO.nK [1, 5, 6] ?_
    exact ⟨kq9, Nat.lt_succ_self _, (IntKind.u64.wrap (x6.tdiv (2 : Int))), (w64 (x7 + (1 : Int))), rfl, rfl, by rw [hrec8]; exact h⟩
   ·refine AW.condN _ rfl hc10 ?_
    refine AW.eK [5] ?_
    exact ⟨x6, rfl, rfl, h⟩
  ·rintro _ _ ⟨x5, rfl, rfl, h⟩
   rw [bosketref02_Has_c0.eq_1] at h
   refine AW.sr ?_
   refine AO.c (Calm.move rfl rfl) ?_
   refine AO.c (x := eU64 (x5.tmod (2 : Int))) (Calm.rem rfl rfl rfl (by decide)) ?_
   refine AO.c (x := eBool (decide ((x5.tmod (2 : Int)) = (1 : Int)))) (Calm.int rfl rfl rfl rfl) ?_
   refine AO.c (Calm.assign rfl rfl) ?_
   refine AO.nK [4] ?_
   refine AW.rK [4] ?_
   have hr := Option.some.inj h
   subst hr
   exact ⟨[(eBool (decide ((x5.tmod (2 : Int)) = (1 : Int))))], ⟨rfl, rfl, trivial⟩, rfl⟩
end Go.Avl.T3
/- bosket/byteset.Has; printed by avmain.py. -/
namespace Go.Avl.T3
open Go Go.RowKit Go.Proofs Go.Avl
set_option linter.unusedVariables false
set_option maxRecDepth 100000
set_option maxHeartbeats 4000000
attribute [local irreducible] AW AO AQ Spec SpecH Calm

def byteset_Has (k : Nat) (p0 : (Vector Int 4)) (p1 : Int) : Option Bool :=
  if 0 ≤ (IntKind.u8.wrap (p1.tdiv (64 : Int))) ∧ (IntKind.u8.wrap (p1.tdiv (64 : Int))) < (4 : Int) then if 0 ≤ (p1.tmod (64 : Int)) then some (decide ((bits .and .u64 (Int.fdiv (vget p0 (IntKind.u8.wrap (p1.tdiv (64 : Int)))) (2 ^ (min (p1.tmod (64 : Int)).toNat IntKind.u64.bits))) (1 : Int)) = (1 : Int)))
  else none
  else none
theorem byteset_Has_spec {k : Nat} {p0 : (Vector Int 4)} {p1 : Int} {r : Bool} (h : byteset_Has k p0 p1 = some r) : Spec Try.prog 46 [(.ar 1 (p0.toList.map eU64)), (eU8 p1)] (eBool r) := by
  rw [byteset_Has.eq_1] at h
  refine Spec.intro (res := [.tmp 4]) Try.func46 rfl rfl rfl (Nat.le_of_ble_eq_true rfl) ?_
  refine AW.sr ?_
  refine AO.box rfl 2 rfl (by decide) rfl rfl rfl fun n3 => ?_
  refine AO.c (Calm.assign rfl rfl) ?_
  refine AO.nK [1, 2] ?_
  refine AW.sr ?_
  refine AO.c (Calm.move rfl rfl) ?_
  refine AO.c (x := eU8 (IntKind.u8.wrap (p1.tdiv (64 : Int)))) (Calm.quo rfl rfl rfl (by decide)) ?_
  obtain ⟨hg4, h⟩ := of_guard h
  refine AO.c (Calm.idxP rfl rfl rfl hg4 Try.underlying33 sz31) ?_
  refine AO.c (Calm.load 0 rfl rfl rfl (At.cast (At.vidx (IntKind.u8.wrap (p1.tdiv (64 : Int))) hg4.1 hg4.2 At.here) (by omega)) ag31 sz31) ?_
  refine AO.c (Calm.move rfl rfl) ?_
  refine AO.c (x := eU8 (p1.tmod (64 : Int))) (Calm.rem rfl rfl rfl (by decide)) ?_
  obtain ⟨hg5, h⟩ := of_guard h
  refine AO.c (x := eU64 (Int.fdiv (vget p0 (IntKind.u8.wrap (p1.tdiv (64 : Int)))) (2 ^ (min (p1.tmod (64 : Int)).toNat IntKind.u64.bits)))) (Calm.shr rfl rfl rfl hg5) ?_
  refine AO.c (x := eU64 (bits .and .u64 (Int.fdiv (vget p0 (IntKind.u8.wrap (p1.tdiv (64 : Int)))) (2 ^ (min (p1.tmod (64 : Int)).toNat IntKind.u64.bits))) (1 : Int))) (Calm.int rfl rfl rfl rfl) ?_
  refine AO.c (x := eBool (decide ((bits .and .u64 (Int.fdiv (vget p0 (IntKind.u8.wrap (p1.tdiv (64 : Int)))) (2 ^ (min (p1.tmod (64 : Int)).toNat IntKind.u64.bits))) (1 : Int)) = (1 : Int)))) (Calm.int rfl rfl rfl rfl) ?_
  refine AO.c (Calm.assign rfl rfl) ?_
  refine AO.nH [4] (H' := []) (Sub.nil _) ?_
  refine AW.rK [4] ?_
  have hr := Option.some.inj h
  subst hr
  exact ⟨[(eBool (decide ((bits .and .u64 (Int.fdiv (vget p0 (IntKind.u8.wrap (p1.tdiv (64 : Int)))) (2 ^ (min (p1.tmod (64 : Int)).toNat IntKind.u64.bits))) (1 : Int)) = (1 : Int))))], ⟨rfl, rfl, trivial⟩, rfl⟩
end Go.Avl.T3
/- bosket/bosketref04.Takes; printed by avmain.py. -/
namespace Go.Avl.T3
open Go Go.RowKit Go.Proofs Go.Avl
set_option linter.unusedVariables false
set_option maxRecDepth 100000
set_option maxHeartbeats 4000000
attribute [local irreducible] AW AO AQ Spec SpecH Calm

def bosketref04_Takes (k : Nat) (p0 : Int) : Option Int :=
  Option.bind (α := Bool) (if p0 < (0 : Int) then some (true)
  else some (decide ((6 : Int) < p0))) fun b3 =>
  if b3 = true then some ((-1 : Int))
  else if 0 ≤ p0 ∧ p0 < (([(0 : Int), (0 : Int), (2 : Int), (2 : Int), (1 : Int), (1 : Int), (1 : Int)] : List Int).length : Int) then (some (lget ([(0 : Int), (0 : Int), (2 : Int), (2 : Int), (1 : Int), (1 : Int), (1 : Int)] : List Int) p0)).bind fun x8 =>
  some (x8)
  else none
theorem bosketref04_Takes_spec {k : Nat} {p0 : Int} {r : Int} (h : bosketref04_Takes k p0 = some r) : Spec Try.prog 59 [(eI64 p0)] (eI64 r) := by
  rw [bosketref04_Takes.eq_1] at h
  refine Spec.intro (res := [.tmp 2]) Try.func59 rfl rfl rfl (Nat.le_of_ble_eq_true rfl) ?_
  refine AW.sr ?_
  refine AO.c (Calm.assign rfl rfl) ?_
  refine AO.nK [0] ?_
  refine AW.sr ?_
  refine AO.lit (Z := (eI64 (0 : Int))) (xs := (([(0 : Int), (0 : Int), (2 : Int), (2 : Int), (1 : Int), (1 : Int), (1 : Int)] : List Int).map eI64)) (qs := [(0, (eI64 (0 : Int))), (1, (eI64 (0 : Int))), (2, (eI64 (2 : Int))), (3, (eI64 (2 : Int))), (4, (eI64 (1 : Int))), (5, (eI64 (1 : Int))), (6, (eI64 (1 : Int)))]) rfl 4 rfl (by decide) rfl ⟨rfl, rfl, rfl, rfl, rfl, rfl, rfl, rfl, rfl, rfl, rfl, rfl, rfl, rfl, rfl, rfl, rfl, rfl, rfl, rfl, rfl, trivial⟩ Try.underlying43 sz3 zr3 lay3 rfl (by decide) (litOK (z := 1) [(eI64 (0 : Int)), (eI64 (0 : Int)), (eI64 (2 : Int)), (eI64 (2 : Int)), (eI64 (1 : Int)), (eI64 (1 : Int)), (eI64 (1 : Int))] rfl ⟨⟨rfl, rfl⟩, ⟨rfl, rfl⟩, ⟨rfl, rfl⟩, ⟨rfl, rfl⟩, ⟨rfl, rfl⟩, ⟨rfl, rfl⟩, ⟨rfl, rfl⟩, trivial⟩) rfl fun n2 => ?_
  refine AO.c (Calm.assign rfl rfl) ?_
  refine AO.nK [0, 3] ?_
  refine AW.seq ?_
  refine AW.seq ?_
  obtain ⟨b3, hq4, h⟩ := of_bind h
  refine AW.regM [(0, (eI64 p0)), (3, (.own n2 0 ([(0 : Int), (0 : Int), (2 : Int), (2 : Int), (1 : Int), (1 : Int), (1 : Int)] : List Int).length)), (10, (eBool b3))] [(n2, (.mem (.ar 1 (([(0 : Int), (0 : Int), (2 : Int), (2 : Int), (1 : Int), (1 : Int), (1 : Int)] : List Int).map eI64))))] ?_ ?_
  ·refine AO.c (Calm.move rfl rfl) ?_
   refine AO.c (x := eBool (decide (p0 < (0 : Int)))) (Calm.int rfl rfl rfl rfl) ?_
   refine AO.c (Calm.move rfl rfl) ?_
   rcases of_ite hq4 with ⟨hc5, hq4⟩ | ⟨hc5, hq4⟩
   ·refine AO.sF rfl rfl (bD (decide_eq_true hc5)) ?_
    refine AO.sF rfl rfl (bD (decide_eq_true hc5)) ?_
    refine AO.c (Calm.pickT rfl (bD (decide_eq_true hc5)) rfl) ?_
    cases hq4
    refine AO.nilE ⟨rfl, rfl⟩ ?_ ?_
    · exact ⟨rfl, rfl, rfl, trivial⟩
    · exact (Sub.refl _)
   ·refine AO.cG rfl rfl (bD (decide_eq_false hc5)) (Calm.move rfl rfl) ?_
    refine AO.cG (x := eBool (decide ((6 : Int) < p0))) rfl rfl (bD (decide_eq_false hc5)) (Calm.int rfl rfl rfl rfl) ?_
    refine AO.c (Calm.pickF rfl (bD (decide_eq_false hc5)) rfl) ?_
    cases hq4
    refine AO.nilE ⟨rfl, rfl⟩ ?_ ?_
    · exact ⟨rfl, rfl, rfl, trivial⟩
    · exact (Sub.refl _)
  ·rcases of_ite h with ⟨hc6, h⟩ | ⟨hc6, h⟩
   ·refine AW.condT' _ rfl hc6 ?_
    refine AW.sr ?_
    refine AO.c (Calm.assign rfl rfl) ?_
    refine AO.nH [2] (H' := []) (Sub.nil _) ?_
    refine AW.rK [2] ?_
    have hr := Option.some.inj h
    subst hr
    exact ⟨[(eI64 (-1 : Int))], ⟨rfl, rfl, trivial⟩, rfl⟩
   ·refine AW.condF' _ rfl hc6 ?_
    refine AW.sK [0, 3] ?_
    refine AW.sr ?_
    refine AO.c (Calm.move rfl rfl) ?_
    refine AO.c (Calm.move rfl rfl) ?_
    obtain ⟨hg7, h⟩ := of_guard h
    refine AO.c (Calm.idxO 0 rfl rfl rfl rfl hg7 Try.underlying43 sz3) ?_
    refine AO.c (Calm.load 0 rfl rfl rfl (At.cast (At.lidx p0 hg7.1 hg7.2 At.here) (by omega)) ag3 sz3) ?_
    obtain ⟨x8, ex8, h⟩ := of_bind h
    refine AO.c (Calm.assign rfl (congrArg (fun x => some (eI64 x)) (Option.some.inj ex8))) ?_
    refine AO.nH [2] (H' := []) (Sub.nil _) ?_
    refine AW.rK [2] ?_
    have hr := Option.some.inj h
    subst hr
    exact ⟨[(eI64 x8)], ⟨rfl, rfl, trivial⟩, rfl⟩
end Go.Avl.T3
/- bosket/bosketref04.Check; printed by avmain.py. -/
namespace Go.Avl.T3
open Go Go.RowKit Go.Proofs Go.Avl
set_option linter.unusedVariables false
set_option maxRecDepth 100000
set_option maxHeartbeats 4000000
attribute [local irreducible] AW AO AQ Spec SpecH Calm

def bosketref04_Check_c0 (k : Nat) (x3 : Int) : Option Int :=
  if x3 ≠ (1 : Int) then some ((5 : Int))
  else some ((0 : Int))
def bosketref04_Check_l1 (k : Nat) (p0 : (List S82)) : Nat → Int → Int → Option Int
  | 0, _, _ => none
  | j + 1, x5, x6 =>
    if x6 < (p0.length : Int) then if 0 ≤ x6 ∧ x6 < (p0.length : Int) then (bosketref04_Takes k ((lget p0 x6).f0)).bind fun t11 =>
    Option.bind (α := Bool) (if t11 < (0 : Int) then some (true)
    else if x5 < t11 then some (true)
    else if 0 ≤ x6 ∧ x6 < (p0.length : Int) then if 0 ≤ x6 ∧ x6 < (p0.length : Int) then some (((decide (((lget p0 x6).f0) = (1 : Int))) == (decide (((lget p0 x6).f1) = (Vector.replicate 4 (0 : Int))))))
    else none
    else none) fun b12 =>
    if b12 = true then some ((5 : Int))
    else (bosketref04_Check_l1 k p0 j) (w64 ((w64 (x5 - t11)) + (1 : Int))) (w64 (x6 + (1 : Int)))
    else none
    else bosketref04_Check_c0 k x5
def bosketref04_Check (k : Nat) (p0 : (List S82)) : Option Int :=
  if (400 : Int) < (p0.length : Int) then some ((6 : Int))
  else bosketref04_Check_l1 k p0 k (0 : Int) (0 : Int)
theorem bosketref04_Check_spec {k : Nat} {p0 : (List S82)} {r : Int} (h : bosketref04_Check k p0 = some r) : Spec Try.prog 32 [(.fz 5 (p0.map e82))] (eI64 r) := by
  rw [bosketref04_Check.eq_1] at h
  refine Spec.intro (res := [.tmp 2]) Try.func32 rfl rfl rfl (Nat.le_of_ble_eq_true rfl) ?_
  refine AW.sr ?_
  refine AO.c (Calm.assign rfl rfl) ?_
  refine AO.nK [0] ?_
  refine AW.seq ?_
  refine AW.sr ?_
  refine AO.c (Calm.move rfl rfl) ?_
  refine AO.c (Calm.lenL rfl rfl Try.underlying58) ?_
  refine AO.c (x := eBool (decide ((400 : Int) < (p0.length : Int)))) (Calm.int rfl rfl rfl rfl) ?_
  refine AO.nK [0, 8] ?_
  rcases of_ite h with ⟨hc2, h⟩ | ⟨hc2, h⟩
  ·refine AW.condP _ rfl hc2 ?_
   refine AW.sr ?_
   refine AO.c (Calm.assign rfl rfl) ?_
   refine AO.nK [2] ?_
   refine AW.rK [2] ?_
   have hr := Option.some.inj h
   subst hr
   exact ⟨[(eI64 (6 : Int))], ⟨rfl, rfl, trivial⟩, rfl⟩
  ·refine AW.condN _ rfl hc2 ?_
   refine AW.sK [0] ?_
   refine AW.sr ?_
   refine AO.c (Calm.assign rfl rfl) ?_
   refine AO.nK [0, 3] ?_
   refine AW.seq_mid (fun ρ H => ∃ (x3 : Int), ρ = [(3, (eI64 x3))] ∧ H = [] ∧ bosketref04_Check_c0 k x3 = some r) ?_ ?_
   ·refine AW.sr ?_
    refine AO.c (Calm.assign rfl rfl) ?_
    refine AO.nK [0, 3, 4] ?_
    refine AW.block ?_
    refine AW.wK [0, 3, 4] ?_
    refine AW.loop (fun kq ρ H => ∃ (x5 : Int) (x6 : Int), ρ = [(0, (.fz 5 (p0.map e82))), (3, (eI64 x5)), (4, (eI64 x6))] ∧ H = [] ∧ bosketref04_Check_l1 k p0 kq x5 x6 = some r) k ⟨(0 : Int), (0 : Int), rfl, rfl, h⟩ ?_
    rintro kq8 _ _ ⟨x5, x6, rfl, rfl, h⟩
    cases kq8 with
    | zero => rw [bosketref04_Check_l1.eq_1] at h; cases h
    | succ kq8 =>
    rw [bosketref04_Check_l1.eq_2] at h
    generalize hrec7 : bosketref04_Check_l1 k p0 kq8 = rec7 at h
    refine AW.seq ?_
    refine AW.sr ?_
    refine AO.c (Calm.move rfl rfl) ?_
    refine AO.c (Calm.move rfl rfl) ?_
    refine AO.c (Calm.lenL rfl rfl Try.underlying58) ?_
    refine AO.c (x := eBool (decide (x6 < (p0.length : Int)))) (Calm.int rfl rfl rfl rfl) ?_
    refine AO.nK [0, 3, 4, 12] ?_
    rcases of_ite h with ⟨hc9, h⟩ | ⟨hc9, h⟩
    ·refine AW.condP _ rfl hc9 ?_
     refine AW.sK [0, 3, 4] ?_
     refine AW.seq ?_
     refine AW.block ?_
     refine AW.sr ?_
     refine AO.c (Calm.move rfl rfl) ?_
     refine AO.c (Calm.move rfl rfl) ?_
     obtain ⟨hg10, h⟩ := of_guard h
     refine AO.c (Calm.idxL (f := e82) rfl rfl rfl hg10 Try.underlying58 sz82) ?_
     refine AO.c (Calm.fldRp rfl rfl Try.underlying82 rfl sz3 (At.cast (At.fld0 At.here) rfl)) ?_
     refine AO.c (Calm.loadRp rfl rfl ag3 sz3) ?_
     obtain ⟨t11, et11, h⟩ := of_bind h
     refine AO.callS [(eI64 ((lget p0 x6).f0))] (eI64 t11) 20 rfl (by decide) ok59 rfl rfl rfl ⟨rfl, rfl, trivial⟩ (bosketref04_Takes_spec et11) ?_
     refine AO.c (Calm.assign rfl rfl) ?_
     refine AO.nK [0, 3, 4, 5] ?_
     refine AW.seq ?_
     refine AW.seq ?_
     obtain ⟨b12, hq13, h⟩ := of_bind h
     refine AW.regQM (by rfl) (by decide +kernel) [(0, (.fz 5 (p0.map e82))), (3, (eI64 x5)), (4, (eI64 x6)), (5, (eI64 t11)), (43, (eBool b12))] ?_ ?_
     ·refine AQ.c (Calm.move rfl rfl) ?_
      refine AQ.c (x := eBool (decide (t11 < (0 : Int)))) (Calm.int rfl rfl rfl rfl) ?_
      refine AQ.c (Calm.move rfl rfl) ?_
      rcases of_ite hq13 with ⟨hc14, hq13⟩ | ⟨hc14, hq13⟩
      ·refine AQ.sF rfl rfl (bD (decide_eq_true hc14)) ?_
       refine AQ.sF rfl rfl (bD (decide_eq_true hc14)) ?_
       refine AQ.sF rfl rfl (bD (decide_eq_true hc14)) ?_
       refine AQ.c (Calm.pickT rfl (bD (decide_eq_true hc14)) rfl) ?_
       refine AQ.c (Calm.move rfl rfl) ?_
       refine AQ.sF rfl rfl rfl ?_
       refine AQ.sF rfl rfl rfl ?_
       refine AQ.sF rfl rfl rfl ?_
       refine AQ.sF rfl rfl rfl ?_
       refine AQ.sF rfl rfl rfl ?_
       refine AQ.sF rfl rfl rfl ?_
       refine AQ.sF rfl rfl rfl ?_
       refine AQ.sF rfl rfl rfl ?_
       refine AQ.sF rfl rfl rfl ?_
       refine AQ.sF rfl rfl rfl ?_
       refine AQ.sF rfl rfl rfl ?_
       refine AQ.sF rfl rfl rfl ?_
       refine AQ.sF rfl rfl rfl ?_
       refine AQ.sF rfl rfl rfl ?_
       refine AQ.c (Calm.pickT rfl rfl rfl) ?_
       cases hq13
       refine AQ.nilE rfl ?_
       exact ⟨rfl, rfl, rfl, rfl, rfl, trivial⟩
      ·refine AQ.cG rfl rfl (bD (decide_eq_false hc14)) (Calm.move rfl rfl) ?_
       refine AQ.cG rfl rfl (bD (decide_eq_false hc14)) (Calm.move rfl rfl) ?_
       refine AQ.cG (x := eBool (decide (x5 < t11))) rfl rfl (bD (decide_eq_false hc14)) (Calm.int rfl rfl rfl rfl) ?_
       refine AQ.c (Calm.pickF rfl (bD (decide_eq_false hc14)) rfl) ?_
       refine AQ.c (Calm.move rfl rfl) ?_
       rcases of_ite hq13 with ⟨hc15, hq13⟩ | ⟨hc15, hq13⟩
       ·refine AQ.sF rfl rfl (bD (decide_eq_true hc15)) ?_
        refine AQ.sF rfl rfl (bD (decide_eq_true hc15)) ?_
        refine AQ.sF rfl rfl (bD (decide_eq_true hc15)) ?_
        refine AQ.sF rfl rfl (bD (decide_eq_true hc15)) ?_
        refine AQ.sF rfl rfl (bD (decide_eq_true hc15)) ?_
        refine AQ.sF rfl rfl (bD (decide_eq_true hc15)) ?_
        refine AQ.sF rfl rfl (bD (decide_eq_true hc15)) ?_
        refine AQ.sF rfl rfl (bD (decide_eq_true hc15)) ?_
        refine AQ.sF rfl rfl (bD (decide_eq_true hc15)) ?_
        refine AQ.sF rfl rfl (bD (decide_eq_true hc15)) ?_
        refine AQ.sF rfl rfl (bD (decide_eq_true hc15)) ?_
        refine AQ.sF rfl rfl (bD (decide_eq_true hc15)) ?_
        refine AQ.sF rfl rfl (bD (decide_eq_true hc15)) ?_
        refine AQ.sF rfl rfl (bD (decide_eq_true hc15)) ?_
        refine AQ.c (Calm.pickT rfl (bD (decide_eq_true hc15)) rfl) ?_
        cases hq13
        refine AQ.nilE rfl ?_
        exact ⟨rfl, rfl, rfl, rfl, rfl, trivial⟩
       ·refine AQ.cG rfl rfl (bD (decide_eq_false hc15)) (Calm.move rfl rfl) ?_
        refine AQ.cG rfl rfl (bD (decide_eq_false hc15)) (Calm.move rfl rfl) ?_
        obtain ⟨hg16, hq13⟩ := of_guard hq13
        refine AQ.cG rfl rfl (bD (decide_eq_false hc15)) (Calm.idxL (f := e82) rfl rfl rfl hg16 Try.underlying58 sz82) ?_
        refine AQ.cG rfl rfl (bD (decide_eq_false hc15)) (Calm.fldRp rfl rfl Try.underlying82 rfl sz3 (At.cast (At.fld0 At.here) rfl)) ?_
        refine AQ.cG rfl rfl (bD (decide_eq_false hc15)) (Calm.loadRp rfl rfl ag3 sz3) ?_
        refine AQ.cG (x := eBool (decide (((lget p0 x6).f0) = (1 : Int)))) rfl rfl (bD (decide_eq_false hc15)) (Calm.int rfl rfl rfl rfl) ?_
        refine AQ.cG rfl rfl (bD (decide_eq_false hc15)) (Calm.move rfl rfl) ?_
        refine AQ.cG rfl rfl (bD (decide_eq_false hc15)) (Calm.move rfl rfl) ?_
        obtain ⟨hg17, hq13⟩ := of_guard hq13
        refine AQ.cG rfl rfl (bD (decide_eq_false hc15)) (Calm.idxL (f := e82) rfl rfl rfl hg17 Try.underlying58 sz82) ?_
        refine AQ.cG rfl rfl (bD (decide_eq_false hc15)) (Calm.fldRp rfl rfl Try.underlying82 rfl sz33 (At.cast (At.fldS (At.fld0 At.here)) rfl)) ?_
        refine AQ.cG rfl rfl (bD (decide_eq_false hc15)) (Calm.loadRp rfl rfl ag33 (by rw [sz33]; simp [AV.size])) ?_
        refine AQ.cG (x := .ar 1 ((Vector.replicate 4 (0 : Int)).toList.map eU64)) rfl rfl (bD (decide_eq_false hc15)) (Calm.buildAr (qs := []) rfl trivial Try.underlying33 sz31 zr33 lay33 .nil rfl) ?_
        refine AQ.cG (x := eBool (decide (((lget p0 x6).f1) = (Vector.replicate 4 (0 : Int))))) rfl rfl (bD (decide_eq_false hc15)) (Calm.eqA rfl rfl rfl eg33 (eqa33 ((lget p0 x6).f1) (Vector.replicate 4 (0 : Int))) (by decide)) ?_
        refine AQ.cG (x := eBool ((decide (((lget p0 x6).f0) = (1 : Int))) == (decide (((lget p0 x6).f1) = (Vector.replicate 4 (0 : Int)))))) rfl rfl (bD (decide_eq_false hc15)) (Calm.boolEq rfl rfl rfl Try.underlying4) ?_
        refine AQ.c (Calm.pickF rfl (bD (decide_eq_false hc15)) rfl) ?_
        cases hq13
        refine AQ.nilE rfl ?_
        exact ⟨rfl, rfl, rfl, rfl, rfl, trivial⟩
     ·rcases of_ite h with ⟨hc18, h⟩ | ⟨hc18, h⟩
      ·refine AW.condT' _ rfl hc18 ?_
       refine AW.sr ?_
       refine AO.c (Calm.assign rfl rfl) ?_
       refine AO.nK [2] ?_
       refine AW.rK [2] ?_
       have hr := Option.some.inj h
       subst hr
       exact ⟨[(eI64 (5 : Int))], ⟨rfl, rfl, trivial⟩, rfl⟩
      ·refine AW.condF' _ rfl hc18 ?_
       refine AW.sK [0, 3, 4, 5] ?_
       refine AW.reg ?_
       refine AO.c (Calm.move rfl rfl) ?_
       refine AO.c (Calm.move rfl rfl) ?_
       refine AO.c (x := eI64 (w64 (x5 - t11))) (Calm.int rfl rfl rfl rfl) ?_
       refine AO.c (x := eI64 (w64 ((w64 (x5 - t11)) + (1 : Int)))) (Calm.int rfl rfl rfl rfl) ?_
       refine AO.c (Calm.assign rfl rfl) ?_
       refine AO.nK [0, 3, 4] ?_
       refine AW.reg ?_
       refine AO.c (Calm.move rfl rfl) ?_
       refine AO.c (x := eI64 (w64 (x6 + (1 : Int)))) (Calm.int rfl rfl rfl rfl) ?_
       refine AO.c (Calm.assign rfl rfl) ?_
       refine AO.nK [0, 3, 4] ?_
       exact ⟨kq8, Nat.lt_succ_self _, (w64 ((w64 (x5 - t11)) + (1 : Int))), (w64 (x6 + (1 : Int))), rfl, rfl, by rw [hrec7]; exact h⟩
    ·refine AW.condN _ rfl hc9 ?_
     refine AW.eK [3] ?_
     exact ⟨x5, rfl, rfl, h⟩
   ·rintro _ _ ⟨x3, rfl, rfl, h⟩
    rw [bosketref04_Check_c0.eq_1] at h
    refine AW.seq ?_
    refine AW.sr ?_
    refine AO.c (Calm.move rfl rfl) ?_
    refine AO.c (x := eBool (decide (x3 ≠ (1 : Int)))) (Calm.int rfl rfl rfl rfl) ?_
    refine AO.nK [49] ?_
    rcases of_ite h with ⟨hc4, h⟩ | ⟨hc4, h⟩
    ·refine AW.condP _ rfl hc4 ?_
     refine AW.sr ?_
     refine AO.c (Calm.assign rfl rfl) ?_
     refine AO.nK [2] ?_
     refine AW.rK [2] ?_
     have hr := Option.some.inj h
     subst hr
     exact ⟨[(eI64 (5 : Int))], ⟨rfl, rfl, trivial⟩, rfl⟩
    ·refine AW.condN _ rfl hc4 ?_
     refine AW.sK [] ?_
     refine AW.sr ?_
     refine AO.c (Calm.assign rfl rfl) ?_
     refine AO.nK [2] ?_
     refine AW.rK [2] ?_
     have hr := Option.some.inj h
     subst hr
     exact ⟨[(eI64 (0 : Int))], ⟨rfl, rfl, trivial⟩, rfl⟩
end Go.Avl.T3
/- bosket/bosketref05.Fits; printed by avmain.py. -/
namespace Go.Avl.T3
open Go Go.RowKit Go.Proofs Go.Avl
set_option linter.unusedVariables false
set_option maxRecDepth 100000
set_option maxHeartbeats 4000000
attribute [local irreducible] AW AO AQ Spec SpecH Calm

def bosketref05_Fits_c0 (k : Nat) (x2 : Int) : Option Bool :=
  some (decide (x2 = (1 : Int)))
def bosketref05_Fits_l1 (k : Nat) (p0 : (List S82)) : Nat → Int → Int → Option Bool
  | 0, _, _ => none
  | j + 1, x3, x4 =>
    if x4 < (p0.length : Int) then if 0 ≤ x4 ∧ x4 < (p0.length : Int) then (bosketref04_Takes k ((lget p0 x4).f0)).bind fun t9 =>
    Option.bind (α := Bool) (if t9 < (0 : Int) then some (true)
    else some (decide (x3 < t9))) fun b10 =>
    if b10 = true then some (false)
    else (bosketref05_Fits_l1 k p0 j) (w64 ((w64 (x3 - t9)) + (1 : Int))) (w64 (x4 + (1 : Int)))
    else none
    else bosketref05_Fits_c0 k x3
def bosketref05_Fits (k : Nat) (p0 : (List S82)) : Option Bool :=
  bosketref05_Fits_l1 k p0 k (0 : Int) (0 : Int)
theorem bosketref05_Fits_spec {k : Nat} {p0 : (List S82)} {r : Bool} (h : bosketref05_Fits k p0 = some r) : Spec Try.prog 34 [(.fz 5 (p0.map e82))] (eBool r) := by
  rw [bosketref05_Fits.eq_1] at h
  refine Spec.intro (res := [.tmp 2]) Try.func34 rfl rfl rfl (Nat.le_of_ble_eq_true rfl) ?_
  refine AW.sr ?_
  refine AO.c (Calm.assign rfl rfl) ?_
  refine AO.nK [0] ?_
  refine AW.sr ?_
  refine AO.c (Calm.assign rfl rfl) ?_
  refine AO.nK [0, 3] ?_
  refine AW.seq_mid (fun ρ H => ∃ (x2 : Int), ρ = [(3, (eI64 x2))] ∧ H = [] ∧ bosketref05_Fits_c0 k x2 = some r) ?_ ?_
  ·refine AW.sr ?_
   refine AO.c (Calm.assign rfl rfl) ?_
   refine AO.nK [0, 3, 4] ?_
   refine AW.block ?_
   refine AW.wK [0, 3, 4] ?_
   refine AW.loop (fun kq ρ H => ∃ (x3 : Int) (x4 : Int), ρ = [(0, (.fz 5 (p0.map e82))), (3, (eI64 x3)), (4, (eI64 x4))] ∧ H = [] ∧ bosketref05_Fits_l1 k p0 kq x3 x4 = some r) k ⟨(0 : Int), (0 : Int), rfl, rfl, h⟩ ?_
   rintro kq6 _ _ ⟨x3, x4, rfl, rfl, h⟩
   cases kq6 with
   | zero => rw [bosketref05_Fits_l1.eq_1] at h; cases h
   | succ kq6 =>
   rw [bosketref05_Fits_l1.eq_2] at h
   generalize hrec5 : bosketref05_Fits_l1 k p0 kq6 = rec5 at h
   refine AW.seq ?_
   refine AW.sr ?_
   refine AO.c (Calm.move rfl rfl) ?_
   refine AO.c (Calm.move rfl rfl) ?_
   refine AO.c (Calm.lenL rfl rfl Try.underlying58) ?_
   refine AO.c (x := eBool (decide (x4 < (p0.length : Int)))) (Calm.int rfl rfl rfl rfl) ?_
   refine AO.nK [0, 3, 4, 9] ?_
   rcases of_ite h with ⟨hc7, h⟩ | ⟨hc7, h⟩
   ·refine AW.condP _ rfl hc7 ?_
    refine AW.sK [0, 3, 4] ?_
    refine AW.seq ?_
    refine AW.block ?_
    refine AW.sr ?_
    refine AO.c (Calm.move rfl rfl) ?_
    refine AO.c (Calm.move rfl rfl) ?_
    obtain ⟨hg8, h⟩ := of_guard h
    refine AO.c (Calm.idxL (f := e82) rfl rfl rfl hg8 Try.underlying58 sz82) ?_
    refine AO.c (Calm.fldRp rfl rfl Try.underlying82 rfl sz3 (At.cast (At.fld0 At.here) rfl)) ?_
    refine AO.c (Calm.loadRp rfl rfl ag3 sz3) ?_
    obtain ⟨t9, et9, h⟩ := of_bind h
    refine AO.callS [(eI64 ((lget p0 x4).f0))] (eI64 t9) 17 rfl (by decide) ok59 rfl rfl rfl ⟨rfl, rfl, trivial⟩ (bosketref04_Takes_spec et9) ?_
    refine AO.c (Calm.assign rfl rfl) ?_
    refine AO.nK [0, 3, 4, 5] ?_
    refine AW.seq ?_
    refine AW.seq ?_
    obtain ⟨b10, hq11, h⟩ := of_bind h
    refine AW.regM [(0, (.fz 5 (p0.map e82))), (3, (eI64 x3)), (4, (eI64 x4)), (5, (eI64 t9)), (24, (eBool b10))] [] ?_ ?_
    ·refine AO.c (Calm.move rfl rfl) ?_
     refine AO.c (x := eBool (decide (t9 < (0 : Int)))) (Calm.int rfl rfl rfl rfl) ?_
     refine AO.c (Calm.move rfl rfl) ?_
     rcases of_ite hq11 with ⟨hc12, hq11⟩ | ⟨hc12, hq11⟩
     ·refine AO.sF rfl rfl (bD (decide_eq_true hc12)) ?_
      refine AO.sF rfl rfl (bD (decide_eq_true hc12)) ?_
      refine AO.sF rfl rfl (bD (decide_eq_true hc12)) ?_
      refine AO.c (Calm.pickT rfl (bD (decide_eq_true hc12)) rfl) ?_
      cases hq11
      refine AO.nilE ⟨rfl, rfl⟩ ?_ ?_
      · exact ⟨rfl, rfl, rfl, rfl, rfl, trivial⟩
      · exact (Sub.refl _)
     ·refine AO.cG rfl rfl (bD (decide_eq_false hc12)) (Calm.move rfl rfl) ?_
      refine AO.cG rfl rfl (bD (decide_eq_false hc12)) (Calm.move rfl rfl) ?_
      refine AO.cG (x := eBool (decide (x3 < t9))) rfl rfl (bD (decide_eq_false hc12)) (Calm.int rfl rfl rfl rfl) ?_
      refine AO.c (Calm.pickF rfl (bD (decide_eq_false hc12)) rfl) ?_
      cases hq11
      refine AO.nilE ⟨rfl, rfl⟩ ?_ ?_
      · exact ⟨rfl, rfl, rfl, rfl, rfl, trivial⟩
      · exact (Sub.refl _)
    ·rcases of_ite h with ⟨hc13, h⟩ | ⟨hc13, h⟩
     ·refine AW.condT' _ rfl hc13 ?_
      refine AW.sr ?_
      refine AO.c (Calm.assign rfl rfl) ?_
      refine AO.nK [2] ?_
      refine AW.rK [2] ?_
      have hr := Option.some.inj h
      subst hr
      exact ⟨[(eBool false)], ⟨rfl, rfl, trivial⟩, rfl⟩
     ·refine AW.condF' _ rfl hc13 ?_
      refine AW.sK [0, 3, 4, 5] ?_
      refine AW.reg ?_
      refine AO.c (Calm.move rfl rfl) ?_
      refine AO.c (Calm.move rfl rfl) ?_
      refine AO.c (x := eI64 (w64 (x3 - t9))) (Calm.int rfl rfl rfl rfl) ?_
      refine AO.c (x := eI64 (w64 ((w64 (x3 - t9)) + (1 : Int)))) (Calm.int rfl rfl rfl rfl) ?_
      refine AO.c (Calm.assign rfl rfl) ?_
      refine AO.nK [0, 3, 4] ?_
      refine AW.reg ?_
      refine AO.c (Calm.move rfl rfl) ?_
      refine AO.c (x := eI64 (w64 (x4 + (1 : Int)))) (Calm.int rfl rfl rfl rfl) ?_
      refine AO.c (Calm.assign rfl rfl) ?_
      refine AO.nK [0, 3, 4] ?_
      exact ⟨kq6, Nat.lt_succ_self _, (w64 ((w64 (x3 - t9)) + (1 : Int))), (w64 (x4 + (1 : Int))), rfl, rfl, by rw [hrec5]; exact h⟩
   ·refine AW.condN _ rfl hc7 ?_
    refine AW.eK [3] ?_
    exact ⟨x3, rfl, rfl, h⟩
  ·rintro _ _ ⟨x2, rfl, rfl, h⟩
   rw [bosketref05_Fits_c0.eq_1] at h
   refine AW.sr ?_
   refine AO.c (Calm.move rfl rfl) ?_
   refine AO.c (x := eBool (decide (x2 = (1 : Int)))) (Calm.int rfl rfl rfl rfl) ?_
   refine AO.c (Calm.assign rfl rfl) ?_
   refine AO.nK [2] ?_
   refine AW.rK [2] ?_
   have hr := Option.some.inj h
   subst hr
   exact ⟨[(eBool (decide (x2 = (1 : Int))))], ⟨rfl, rfl, trivial⟩, rfl⟩
end Go.Avl.T3
/- bosket/rex.Takes; printed by avmain.py. -/
namespace Go.Avl.T3
open Go Go.RowKit Go.Proofs Go.Avl
set_option linter.unusedVariables false
set_option maxRecDepth 100000
set_option maxHeartbeats 4000000
attribute [local irreducible] AW AO AQ Spec SpecH Calm

def rex_Takes_c0 (k : Nat) (b6 : Bool) : Option Int :=
  if b6 = true then some ((2 : Int))
  else some ((-1 : Int))
def rex_Takes_c1 (k : Nat) (p0 : Int) (b4 : Bool) : Option Int :=
  if b4 = true then some ((1 : Int))
  else if p0 = (2 : Int) then rex_Takes_c0 k (decide (p0 = (2 : Int)))
  else rex_Takes_c0 k (decide (p0 = (3 : Int)))
def rex_Takes_c2 (k : Nat) (p0 : Int) (b2 : Bool) : Option Int :=
  if b2 = true then some ((0 : Int))
  else if p0 = (4 : Int) then rex_Takes_c1 k p0 (decide (p0 = (4 : Int)))
  else if p0 = (5 : Int) then rex_Takes_c1 k p0 (decide (p0 = (5 : Int)))
  else rex_Takes_c1 k p0 (decide (p0 = (6 : Int)))
def rex_Takes (k : Nat) (p0 : Int) : Option Int :=
  if p0 = (0 : Int) then rex_Takes_c2 k p0 (decide (p0 = (0 : Int)))
  else rex_Takes_c2 k p0 (decide (p0 = (1 : Int)))
theorem rex_Takes_spec {k : Nat} {p0 : Int} {r : Int} (h : rex_Takes k p0 = some r) : Spec Try.prog 67 [(eI64 p0)] (eI64 r) := by
  rw [rex_Takes.eq_1] at h
  refine Spec.intro (res := [.tmp 2]) Try.func67 rfl rfl rfl (Nat.le_of_ble_eq_true rfl) ?_
  refine AW.sr ?_
  refine AO.c (Calm.assign rfl rfl) ?_
  refine AO.nK [0] ?_
  refine AW.seq ?_
  refine AW.sr ?_
  refine AO.c (Calm.move rfl rfl) ?_
  refine AO.nK [3] ?_
  refine AW.block ?_
  refine AW.seq_mid (fun ρ H => ∃ (b2 : Bool), ρ = [(3, (eI64 p0)), (4, (eBool b2))] ∧ H = [] ∧ rex_Takes_c2 k p0 b2 = some r) ?_ ?_
  ·refine AW.sr ?_
   refine AO.c (x := eBool (decide (p0 = (0 : Int)))) (Calm.int rfl rfl rfl rfl) ?_
   refine AO.c (Calm.assign rfl rfl) ?_
   refine AO.nK [3, 4] ?_
   rcases of_ite h with ⟨hc11, h⟩ | ⟨hc11, h⟩
   ·refine AW.condP _ rfl hc11 ?_
    refine AW.sK [3, 4] ?_
    exact ⟨decide (p0 = (0 : Int)), rfl, rfl, h⟩
   ·refine AW.condN _ rfl hc11 ?_
    refine AW.reg ?_
    refine AO.c (x := eBool (decide (p0 = (1 : Int)))) (Calm.int rfl rfl rfl rfl) ?_
    refine AO.c (Calm.assign rfl rfl) ?_
    refine AO.nK [3, 4] ?_
    exact ⟨decide (p0 = (1 : Int)), rfl, rfl, h⟩
  ·rintro _ _ ⟨b2, rfl, rfl, h⟩
   rw [rex_Takes_c2.eq_1] at h
   rcases of_ite h with ⟨hc3, h⟩ | ⟨hc3, h⟩
   ·refine AW.condT' _ rfl hc3 ?_
    refine AW.sr ?_
    refine AO.c (Calm.assign rfl rfl) ?_
    refine AO.nK [2] ?_
    refine AW.rK [2] ?_
    have hr := Option.some.inj h
    subst hr
    exact ⟨[(eI64 (0 : Int))], ⟨rfl, rfl, trivial⟩, rfl⟩
   ·refine AW.condF' _ rfl hc3 ?_
    refine AW.seq_mid (fun ρ H => ∃ (b4 : Bool), ρ = [(3, (eI64 p0)), (7, (eBool b4))] ∧ H = [] ∧ rex_Takes_c1 k p0 b4 = some r) ?_ ?_
    ·refine AW.sr ?_
     refine AO.c (x := eBool (decide (p0 = (4 : Int)))) (Calm.int rfl rfl rfl rfl) ?_
     refine AO.c (Calm.assign rfl rfl) ?_
     refine AO.nK [3, 7] ?_
     rcases of_ite h with ⟨hc9, h⟩ | ⟨hc9, h⟩
     ·refine AW.condP _ rfl hc9 ?_
      refine AW.sK [3, 7] ?_
      exact ⟨decide (p0 = (4 : Int)), rfl, rfl, h⟩
     ·refine AW.condN _ rfl hc9 ?_
      refine AW.sr ?_
      refine AO.c (x := eBool (decide (p0 = (5 : Int)))) (Calm.int rfl rfl rfl rfl) ?_
      refine AO.c (Calm.assign rfl rfl) ?_
      refine AO.nK [3, 7] ?_
      rcases of_ite h with ⟨hc10, h⟩ | ⟨hc10, h⟩
      ·refine AW.condP _ rfl hc10 ?_
       refine AW.sK [3, 7] ?_
       exact ⟨decide (p0 = (5 : Int)), rfl, rfl, h⟩
      ·refine AW.condN _ rfl hc10 ?_
       refine AW.reg ?_
       refine AO.c (x := eBool (decide (p0 = (6 : Int)))) (Calm.int rfl rfl rfl rfl) ?_
       refine AO.c (Calm.assign rfl rfl) ?_
       refine AO.nK [3, 7] ?_
       exact ⟨decide (p0 = (6 : Int)), rfl, rfl, h⟩
    ·rintro _ _ ⟨b4, rfl, rfl, h⟩
     rw [rex_Takes_c1.eq_1] at h
     rcases of_ite h with ⟨hc5, h⟩ | ⟨hc5, h⟩
     ·refine AW.condT' _ rfl hc5 ?_
      refine AW.sr ?_
      refine AO.c (Calm.assign rfl rfl) ?_
      refine AO.nK [2] ?_
      refine AW.rK [2] ?_
      have hr := Option.some.inj h
      subst hr
      exact ⟨[(eI64 (1 : Int))], ⟨rfl, rfl, trivial⟩, rfl⟩
     ·refine AW.condF' _ rfl hc5 ?_
      refine AW.seq_mid (fun ρ H => ∃ (b6 : Bool), ρ = [(11, (eBool b6))] ∧ H = [] ∧ rex_Takes_c0 k b6 = some r) ?_ ?_
      ·refine AW.sr ?_
       refine AO.c (x := eBool (decide (p0 = (2 : Int)))) (Calm.int rfl rfl rfl rfl) ?_
       refine AO.c (Calm.assign rfl rfl) ?_
       refine AO.nK [3, 11] ?_
       rcases of_ite h with ⟨hc8, h⟩ | ⟨hc8, h⟩
       ·refine AW.condP _ rfl hc8 ?_
        refine AW.sK [11] ?_
        exact ⟨decide (p0 = (2 : Int)), rfl, rfl, h⟩
       ·refine AW.condN _ rfl hc8 ?_
        refine AW.reg ?_
        refine AO.c (x := eBool (decide (p0 = (3 : Int)))) (Calm.int rfl rfl rfl rfl) ?_
        refine AO.c (Calm.assign rfl rfl) ?_
        refine AO.nK [11] ?_
        exact ⟨decide (p0 = (3 : Int)), rfl, rfl, h⟩
      ·rintro _ _ ⟨b6, rfl, rfl, h⟩
       rw [rex_Takes_c0.eq_1] at h
       rcases of_ite h with ⟨hc7, h⟩ | ⟨hc7, h⟩
       ·refine AW.condT' _ rfl hc7 ?_
        refine AW.sr ?_
        refine AO.c (Calm.assign rfl rfl) ?_
        refine AO.nK [2] ?_
        refine AW.rK [2] ?_
        have hr := Option.some.inj h
        subst hr
        exact ⟨[(eI64 (2 : Int))], ⟨rfl, rfl, trivial⟩, rfl⟩
       ·refine AW.condF' _ rfl hc7 ?_
        refine AW.sK [] ?_
        refine AW.sr ?_
        refine AO.c (Calm.assign rfl rfl) ?_
        refine AO.nK [2] ?_
        refine AW.rK [2] ?_
        have hr := Option.some.inj h
        subst hr
        exact ⟨[(eI64 (-1 : Int))], ⟨rfl, rfl, trivial⟩, rfl⟩
end Go.Avl.T3
/- bosket/byteset.Empty; printed by avmain.py. -/
namespace Go.Avl.T3
open Go Go.RowKit Go.Proofs Go.Avl
set_option linter.unusedVariables false
set_option maxRecDepth 100000
set_option maxHeartbeats 4000000
attribute [local irreducible] AW AO AQ Spec SpecH Calm

def byteset_Empty (k : Nat) (p0 : (Vector Int 4)) : Option Bool :=
  some (decide (p0 = (Vector.replicate 4 (0 : Int))))
theorem byteset_Empty_spec {k : Nat} {p0 : (Vector Int 4)} {r : Bool} (h : byteset_Empty k p0 = some r) : Spec Try.prog 68 [(.ar 1 (p0.toList.map eU64))] (eBool r) := by
  rw [byteset_Empty.eq_1] at h
  refine Spec.intro (res := [.tmp 2]) Try.func68 rfl rfl rfl (Nat.le_of_ble_eq_true rfl) ?_
  refine AW.sr ?_
  refine AO.box rfl 1 rfl (by decide) rfl rfl rfl fun n2 => ?_
  refine AO.c (Calm.assign rfl rfl) ?_
  refine AO.nK [1] ?_
  refine AW.sr ?_
  refine AO.c (Calm.load 0 rfl rfl rfl (At.cast At.here rfl) ag33 (by rw [sz33]; simp [AV.size])) ?_
  refine AO.c (x := .ar 1 ((Vector.replicate 4 (0 : Int)).toList.map eU64)) (Calm.buildAr (qs := []) rfl trivial Try.underlying33 sz31 zr33 lay33 .nil rfl) ?_
  refine AO.c (x := eBool (decide (p0 = (Vector.replicate 4 (0 : Int))))) (Calm.eqA rfl rfl rfl eg33 (eqa33 p0 (Vector.replicate 4 (0 : Int))) (by decide)) ?_
  refine AO.c (Calm.assign rfl rfl) ?_
  refine AO.nH [2] (H' := []) (Sub.nil _) ?_
  refine AW.rK [2] ?_
  have hr := Option.some.inj h
  subst hr
  exact ⟨[(eBool (decide (p0 = (Vector.replicate 4 (0 : Int)))))], ⟨rfl, rfl, trivial⟩, rfl⟩
end Go.Avl.T3
/- bosket/rex.Check; printed by avmain.py. -/
namespace Go.Avl.T3
open Go Go.RowKit Go.Proofs Go.Avl
set_option linter.unusedVariables false
set_option maxRecDepth 100000
set_option maxHeartbeats 4000000
attribute [local irreducible] AW AO AQ Spec SpecH Calm

def rex_Check_c0 (k : Nat) (x3 : Int) : Option Int :=
  if x3 ≠ (1 : Int) then some ((5 : Int))
  else some ((0 : Int))
def rex_Check_l1 (k : Nat) (p0 : (List S82)) : Nat → Int → Int → Option Int
  | 0, _, _ => none
  | j + 1, x5, x6 =>
    if x6 < (p0.length : Int) then if 0 ≤ x6 ∧ x6 < (p0.length : Int) then (rex_Takes k ((lget p0 x6).f0)).bind fun t12 =>
    Option.bind (α := Bool) (if t12 < (0 : Int) then some (true)
    else if x5 < t12 then some (true)
    else (byteset_Empty k ((lget p0 x6).f1)).bind fun t17 =>
    some (((decide (((lget p0 x6).f0) = (1 : Int))) == t17))) fun b13 =>
    if b13 = true then some ((5 : Int))
    else (rex_Check_l1 k p0 j) (w64 (x5 + (w64 ((1 : Int) - t12)))) (w64 (x6 + (1 : Int)))
    else none
    else rex_Check_c0 k x5
def rex_Check (k : Nat) (p0 : (List S82)) : Option Int :=
  if (400 : Int) < (p0.length : Int) then some ((6 : Int))
  else rex_Check_l1 k p0 k (0 : Int) (0 : Int)
theorem rex_Check_spec {k : Nat} {p0 : (List S82)} {r : Int} (h : rex_Check k p0 = some r) : Spec Try.prog 57 [(.fz 5 (p0.map e82))] (eI64 r) := by
  rw [rex_Check.eq_1] at h
  refine Spec.intro (res := [.tmp 2]) Try.func57 rfl rfl rfl (Nat.le_of_ble_eq_true rfl) ?_
  refine AW.sr ?_
  refine AO.c (Calm.assign rfl rfl) ?_
  refine AO.nK [0] ?_
  refine AW.seq ?_
  refine AW.sr ?_
  refine AO.c (Calm.move rfl rfl) ?_
  refine AO.c (Calm.lenL rfl rfl Try.underlying58) ?_
  refine AO.c (x := eBool (decide ((400 : Int) < (p0.length : Int)))) (Calm.int rfl rfl rfl rfl) ?_
  refine AO.nK [0, 9] ?_
  rcases of_ite h with ⟨hc2, h⟩ | ⟨hc2, h⟩
  ·refine AW.condP _ rfl hc2 ?_
   refine AW.sr ?_
   refine AO.c (Calm.assign rfl rfl) ?_
   refine AO.nK [2] ?_
   refine AW.rK [2] ?_
   have hr := Option.some.inj h
   subst hr
   exact ⟨[(eI64 (6 : Int))], ⟨rfl, rfl, trivial⟩, rfl⟩
  ·refine AW.condN _ rfl hc2 ?_
   refine AW.sK [0] ?_
   refine AW.sr ?_
   refine AO.c (Calm.assign rfl rfl) ?_
   refine AO.nK [0, 3] ?_
   refine AW.seq_mid (fun ρ H => ∃ (x3 : Int), ρ = [(3, (eI64 x3))] ∧ H = [] ∧ rex_Check_c0 k x3 = some r) ?_ ?_
   ·refine AW.sr ?_
    refine AO.c (Calm.move rfl rfl) ?_
    refine AO.c (Calm.lenL rfl rfl Try.underlying58) ?_
    refine AO.c (Calm.move rfl rfl) ?_
    refine AO.nK [3, 10, 11, 12] ?_
    refine AW.block ?_
    refine AW.wK [3, 10, 11, 12] ?_
    refine AW.loop (fun kq ρ H => ∃ (x5 : Int) (x6 : Int), ρ = [(3, (eI64 x5)), (10, (.fz 5 (p0.map e82))), (11, (eI64 (p0.length : Int))), (12, (eI64 x6))] ∧ H = [] ∧ rex_Check_l1 k p0 kq x5 x6 = some r) k ⟨(0 : Int), (0 : Int), rfl, rfl, h⟩ ?_
    rintro kq8 _ _ ⟨x5, x6, rfl, rfl, h⟩
    cases kq8 with
    | zero => rw [rex_Check_l1.eq_1] at h; cases h
    | succ kq8 =>
    rw [rex_Check_l1.eq_2] at h
    generalize hrec7 : rex_Check_l1 k p0 kq8 = rec7 at h
    refine AW.sr ?_
    refine AO.c (x := eBool (decide (x6 < (p0.length : Int)))) (Calm.int rfl rfl rfl rfl) ?_
    refine AO.nK [3, 10, 11, 12, 13] ?_
    refine AW.seq ?_
    rcases of_ite h with ⟨hc9, h⟩ | ⟨hc9, h⟩
    ·refine AW.condP _ rfl hc9 ?_
     refine AW.sK [3, 10, 11, 12] ?_
     refine AW.seq ?_
     refine AW.block ?_
     refine AW.sr ?_
     obtain ⟨hg10, h⟩ := of_guard h
     refine AO.c (Calm.idxL (f := e82) rfl rfl rfl hg10 Try.underlying58 sz82) ?_
     refine AO.c (Calm.loadRp rfl rfl ag82 sz82) ?_
     refine AO.alloc rfl 5 rfl (by decide) rfl zr82 lay82 fun n11 => ?_
     refine AO.store (X' := (e82 (lget p0 x6))) 0 rfl rfl rfl rfl rfl rfl (Put.cast Put.here rfl) rfl rfl sz82 rfl ?_
     refine AO.nK [3, 5, 10, 11, 12] ?_
     refine AW.sr ?_
     refine AO.c (x := .ptr n11 0) (Calm.fldPtr rfl rfl Try.underlying82 rfl sz3 _ rfl) ?_
     refine AO.c (Calm.load 0 rfl rfl rfl (At.cast (At.fld0 At.here) rfl) ag3 sz3) ?_
     obtain ⟨t12, et12, h⟩ := of_bind h
     refine AO.callS [(eI64 ((lget p0 x6).f0))] (eI64 t12) 18 rfl (by decide) ok67 rfl rfl rfl ⟨rfl, rfl, trivial⟩ (rex_Takes_spec et12) ?_
     refine AO.c (Calm.assign rfl rfl) ?_
     refine AO.nK [3, 5, 6, 10, 11, 12] ?_
     refine AW.seq ?_
     refine AW.seq ?_
     obtain ⟨b13, hq14, h⟩ := of_bind h
     refine AW.regQM (by rfl) (by decide +kernel) [(3, (eI64 x5)), (6, (eI64 t12)), (10, (.fz 5 (p0.map e82))), (11, (eI64 (p0.length : Int))), (12, (eI64 x6)), (34, (eBool b13))] ?_ ?_
     ·refine AQ.c (Calm.move rfl rfl) ?_
      refine AQ.c (x := eBool (decide (t12 < (0 : Int)))) (Calm.int rfl rfl rfl rfl) ?_
      refine AQ.c (Calm.move rfl rfl) ?_
      rcases of_ite hq14 with ⟨hc15, hq14⟩ | ⟨hc15, hq14⟩
      ·refine AQ.sF rfl rfl (bD (decide_eq_true hc15)) ?_
       refine AQ.sF rfl rfl (bD (decide_eq_true hc15)) ?_
       refine AQ.sF rfl rfl (bD (decide_eq_true hc15)) ?_
       refine AQ.c (Calm.pickT rfl (bD (decide_eq_true hc15)) rfl) ?_
       refine AQ.c (Calm.move rfl rfl) ?_
       refine AQ.sF rfl rfl rfl ?_
       refine AQ.sF rfl rfl rfl ?_
       refine AQ.sF rfl rfl rfl ?_
       refine AQ.sF rfl rfl rfl ?_
       refine AQ.sF rfl rfl rfl ?_
       refine AQ.sF rfl rfl rfl ?_
       refine AQ.sF rfl rfl rfl ?_
       refine AQ.c (Calm.pickT rfl rfl rfl) ?_
       cases hq14
       refine AQ.nilE rfl ?_
       exact ⟨rfl, rfl, rfl, rfl, rfl, rfl, trivial⟩
      ·refine AQ.cG rfl rfl (bD (decide_eq_false hc15)) (Calm.move rfl rfl) ?_
       refine AQ.cG rfl rfl (bD (decide_eq_false hc15)) (Calm.move rfl rfl) ?_
       refine AQ.cG (x := eBool (decide (x5 < t12))) rfl rfl (bD (decide_eq_false hc15)) (Calm.int rfl rfl rfl rfl) ?_
       refine AQ.c (Calm.pickF rfl (bD (decide_eq_false hc15)) rfl) ?_
       refine AQ.c (Calm.move rfl rfl) ?_
       rcases of_ite hq14 with ⟨hc16, hq14⟩ | ⟨hc16, hq14⟩
       ·refine AQ.sF rfl rfl (bD (decide_eq_true hc16)) ?_
        refine AQ.sF rfl rfl (bD (decide_eq_true hc16)) ?_
        refine AQ.sF rfl rfl (bD (decide_eq_true hc16)) ?_
        refine AQ.sF rfl rfl (bD (decide_eq_true hc16)) ?_
        refine AQ.sF rfl rfl (bD (decide_eq_true hc16)) ?_
        refine AQ.sF rfl rfl (bD (decide_eq_true hc16)) ?_
        refine AQ.sF rfl rfl (bD (decide_eq_true hc16)) ?_
        refine AQ.c (Calm.pickT rfl (bD (decide_eq_true hc16)) rfl) ?_
        cases hq14
        refine AQ.nilE rfl ?_
        exact ⟨rfl, rfl, rfl, rfl, rfl, rfl, trivial⟩
       ·refine AQ.cG (x := .ptr n11 0) rfl rfl (bD (decide_eq_false hc16)) (Calm.fldPtr rfl rfl Try.underlying82 rfl sz3 _ rfl) ?_
        refine AQ.cG rfl rfl (bD (decide_eq_false hc16)) (Calm.load 0 rfl rfl rfl (At.cast (At.fld0 At.here) rfl) ag3 sz3) ?_
        refine AQ.cG (x := eBool (decide (((lget p0 x6).f0) = (1 : Int)))) rfl rfl (bD (decide_eq_false hc16)) (Calm.int rfl rfl rfl rfl) ?_
        refine AQ.cG (x := .ptr n11 1) rfl rfl (bD (decide_eq_false hc16)) (Calm.fldPtr rfl rfl Try.underlying82 rfl sz33 _ rfl) ?_
        refine AQ.cG rfl rfl (bD (decide_eq_false hc16)) (Calm.load 0 rfl rfl rfl (At.cast (At.fldS (At.fld0 At.here)) rfl) ag33 (by rw [sz33]; simp [AV.size])) ?_
        obtain ⟨t17, et17, hq14⟩ := of_bind hq14
        refine AQ.cG rfl rfl (bD (decide_eq_false hc16)) (Calm.call (args := [(.ar 1 (((lget p0 x6).f1).toList.map eU64))]) rfl rfl ok68 ⟨rfl, rfl, trivial⟩ rfl (byteset_Empty_spec et17)) ?_
        refine AQ.cG (x := eBool ((decide (((lget p0 x6).f0) = (1 : Int))) == t17)) rfl rfl (bD (decide_eq_false hc16)) (Calm.boolEq rfl rfl rfl Try.underlying4) ?_
        refine AQ.c (Calm.pickF rfl (bD (decide_eq_false hc16)) rfl) ?_
        cases hq14
        refine AQ.nilE rfl ?_
        exact ⟨rfl, rfl, rfl, rfl, rfl, rfl, trivial⟩
     ·rcases of_ite h with ⟨hc18, h⟩ | ⟨hc18, h⟩
      ·refine AW.condT' _ rfl hc18 ?_
       refine AW.sr ?_
       refine AO.c (Calm.assign rfl rfl) ?_
       refine AO.nH [2] (H' := []) (Sub.nil _) ?_
       refine AW.rK [2] ?_
       have hr := Option.some.inj h
       subst hr
       exact ⟨[(eI64 (5 : Int))], ⟨rfl, rfl, trivial⟩, rfl⟩
      ·refine AW.condF' _ rfl hc18 ?_
       refine AW.sH [3, 6, 10, 11, 12] (H' := []) (Sub.nil _) ?_
       refine AW.reg ?_
       refine AO.c (Calm.move rfl rfl) ?_
       refine AO.c (Calm.move rfl rfl) ?_
       refine AO.c (x := eI64 (w64 ((1 : Int) - t12))) (Calm.int rfl rfl rfl rfl) ?_
       refine AO.c (x := eI64 (w64 (x5 + (w64 ((1 : Int) - t12))))) (Calm.int rfl rfl rfl rfl) ?_
       refine AO.c (Calm.assign rfl rfl) ?_
       refine AO.nK [3, 10, 11, 12] ?_
       refine AW.reg ?_
       refine AO.c (x := eI64 (w64 (x6 + (1 : Int)))) (Calm.int rfl rfl rfl rfl) ?_
       refine AO.c (Calm.move rfl rfl) ?_
       refine AO.nK [3, 10, 11, 12] ?_
       exact ⟨kq8, Nat.lt_succ_self _, (w64 (x5 + (w64 ((1 : Int) - t12)))), (w64 (x6 + (1 : Int))), rfl, rfl, by rw [hrec7]; exact h⟩
    ·refine AW.condN _ rfl hc9 ?_
     refine AW.eK [3] ?_
     exact ⟨x5, rfl, rfl, h⟩
   ·rintro _ _ ⟨x3, rfl, rfl, h⟩
    rw [rex_Check_c0.eq_1] at h
    refine AW.seq ?_
    refine AW.sr ?_
    refine AO.c (Calm.move rfl rfl) ?_
    refine AO.c (x := eBool (decide (x3 ≠ (1 : Int)))) (Calm.int rfl rfl rfl rfl) ?_
    refine AO.nK [41] ?_
    rcases of_ite h with ⟨hc4, h⟩ | ⟨hc4, h⟩
    ·refine AW.condP _ rfl hc4 ?_
     refine AW.sr ?_
     refine AO.c (Calm.assign rfl rfl) ?_
     refine AO.nK [2] ?_
     refine AW.rK [2] ?_
     have hr := Option.some.inj h
     subst hr
     exact ⟨[(eI64 (5 : Int))], ⟨rfl, rfl, trivial⟩, rfl⟩
    ·refine AW.condN _ rfl hc4 ?_
     refine AW.sK [] ?_
     refine AW.sr ?_
     refine AO.c (Calm.assign rfl rfl) ?_
     refine AO.nK [2] ?_
     refine AW.rK [2] ?_
     have hr := Option.some.inj h
     subst hr
     exact ⟨[(eI64 (0 : Int))], ⟨rfl, rfl, trivial⟩, rfl⟩
end Go.Avl.T3
/- bosket/bosketref04.Start; printed by avmain.py. -/
namespace Go.Avl.T3
open Go Go.RowKit Go.Proofs Go.Avl
set_option linter.unusedVariables false
set_option maxRecDepth 100000
set_option maxHeartbeats 4000000
attribute [local irreducible] AW AO AQ Spec SpecH Calm

def bosketref04_Start_c0 (k : Nat) : Option Int :=
  some ((0 : Int))
def bosketref04_Start_l1 (k : Nat) (p0 : (List S82)) : Nat → Int → Int → Option Int
  | 0, _, _ => none
  | j + 1, x3, x4 =>
    if (0 : Int) ≤ x4 then if 0 ≤ x4 ∧ x4 < (p0.length : Int) then (bosketref04_Takes k ((lget p0 x4).f0)).bind fun t9 =>
    if (w64 ((w64 (x3 - (1 : Int))) + t9)) = (0 : Int) then some (x4)
    else (bosketref04_Start_l1 k p0 j) (w64 ((w64 (x3 - (1 : Int))) + t9)) (w64 (x4 - (1 : Int)))
    else none
    else bosketref04_Start_c0 k
def bosketref04_Start (k : Nat) (p0 : (List S82)) (p1 : Int) : Option Int :=
  bosketref04_Start_l1 k p0 k (1 : Int) p1
theorem bosketref04_Start_spec {k : Nat} {p0 : (List S82)} {p1 : Int} {r : Int} (h : bosketref04_Start k p0 p1 = some r) : Spec Try.prog 75 [(.fz 5 (p0.map e82)), (eI64 p1)] (eI64 r) := by
  rw [bosketref04_Start.eq_1] at h
  refine Spec.intro (res := [.tmp 4]) Try.func75 rfl rfl rfl (Nat.le_of_ble_eq_true rfl) ?_
  refine AW.sr ?_
  refine AO.c (Calm.assign rfl rfl) ?_
  refine AO.nK [0, 1] ?_
  refine AW.sr ?_
  refine AO.c (Calm.assign rfl rfl) ?_
  refine AO.nK [0, 1, 5] ?_
  refine AW.seq_mid (fun ρ H => ρ = [] ∧ H = [] ∧ bosketref04_Start_c0 k = some r) ?_ ?_
  ·refine AW.sr ?_
   refine AO.c (Calm.move rfl rfl) ?_
   refine AO.c (Calm.assign rfl rfl) ?_
   refine AO.nK [0, 5, 6] ?_
   refine AW.block ?_
   refine AW.wK [0, 5, 6] ?_
   refine AW.loop (fun kq ρ H => ∃ (x3 : Int) (x4 : Int), ρ = [(0, (.fz 5 (p0.map e82))), (5, (eI64 x3)), (6, (eI64 x4))] ∧ H = [] ∧ bosketref04_Start_l1 k p0 kq x3 x4 = some r) k ⟨(1 : Int), p1, rfl, rfl, h⟩ ?_
   rintro kq6 _ _ ⟨x3, x4, rfl, rfl, h⟩
   cases kq6 with
   | zero => rw [bosketref04_Start_l1.eq_1] at h; cases h
   | succ kq6 =>
   rw [bosketref04_Start_l1.eq_2] at h
   generalize hrec5 : bosketref04_Start_l1 k p0 kq6 = rec5 at h
   refine AW.seq ?_
   refine AW.sr ?_
   refine AO.c (Calm.move rfl rfl) ?_
   refine AO.c (x := eBool (decide ((0 : Int) ≤ x4))) (Calm.int rfl rfl rfl rfl) ?_
   refine AO.nK [0, 5, 6, 9] ?_
   rcases of_ite h with ⟨hc7, h⟩ | ⟨hc7, h⟩
   ·refine AW.condP _ rfl hc7 ?_
    refine AW.sK [0, 5, 6] ?_
    refine AW.seq ?_
    refine AW.block ?_
    refine AW.sr ?_
    refine AO.c (Calm.move rfl rfl) ?_
    refine AO.c (x := eI64 (w64 (x3 - (1 : Int)))) (Calm.int rfl rfl rfl rfl) ?_
    refine AO.c (Calm.move rfl rfl) ?_
    refine AO.c (Calm.move rfl rfl) ?_
    obtain ⟨hg8, h⟩ := of_guard h
    refine AO.c (Calm.idxL (f := e82) rfl rfl rfl hg8 Try.underlying58 sz82) ?_
    refine AO.c (Calm.fldRp rfl rfl Try.underlying82 rfl sz3 (At.cast (At.fld0 At.here) rfl)) ?_
    refine AO.c (Calm.loadRp rfl rfl ag3 sz3) ?_
    obtain ⟨t9, et9, h⟩ := of_bind h
    refine AO.callS [(eI64 ((lget p0 x4).f0))] (eI64 t9) 19 rfl (by decide) ok59 rfl rfl rfl ⟨rfl, rfl, trivial⟩ (bosketref04_Takes_spec et9) ?_
    refine AO.c (x := eI64 (w64 ((w64 (x3 - (1 : Int))) + t9))) (Calm.int rfl rfl rfl rfl) ?_
    refine AO.c (Calm.assign rfl rfl) ?_
    refine AO.nK [0, 5, 6] ?_
    refine AW.sr ?_
    refine AO.c (Calm.move rfl rfl) ?_
    refine AO.c (x := eBool (decide ((w64 ((w64 (x3 - (1 : Int))) + t9)) = (0 : Int)))) (Calm.int rfl rfl rfl rfl) ?_
    refine AO.nK [0, 5, 6, 22] ?_
    rcases of_ite h with ⟨hc10, h⟩ | ⟨hc10, h⟩
    ·refine AW.condP _ rfl hc10 ?_
     refine AW.sr ?_
     refine AO.c (Calm.move rfl rfl) ?_
     refine AO.c (Calm.assign rfl rfl) ?_
     refine AO.nK [4] ?_
     refine AW.rK [4] ?_
     have hr := Option.some.inj h
     subst hr
     exact ⟨[(eI64 x4)], ⟨rfl, rfl, trivial⟩, rfl⟩
    ·refine AW.condN _ rfl hc10 ?_
     refine AW.sK [0, 5, 6] ?_
     refine AW.reg ?_
     refine AO.c (Calm.move rfl rfl) ?_
     refine AO.c (x := eI64 (w64 (x4 - (1 : Int)))) (Calm.int rfl rfl rfl rfl) ?_
     refine AO.c (Calm.assign rfl rfl) ?_
     refine AO.nK [0, 5, 6] ?_
     exact ⟨kq6, Nat.lt_succ_self _, (w64 ((w64 (x3 - (1 : Int))) + t9)), (w64 (x4 - (1 : Int))), rfl, rfl, by rw [hrec5]; exact h⟩
   ·refine AW.condN _ rfl hc7 ?_
    refine AW.eK [] ?_
    exact ⟨rfl, rfl, h⟩
  ·rintro _ _ ⟨rfl, rfl, h⟩
   rw [bosketref04_Start_c0.eq_1] at h
   refine AW.sr ?_
   refine AO.c (Calm.assign rfl rfl) ?_
   refine AO.nK [4] ?_
   refine AW.rK [4] ?_
   have hr := Option.some.inj h
   subst hr
   exact ⟨[(eI64 (0 : Int))], ⟨rfl, rfl, trivial⟩, rfl⟩
end Go.Avl.T3
/- bosket/bosketref04.Parts; printed by avmain.py. -/
namespace Go.Avl.T3
open Go Go.RowKit Go.Proofs Go.Avl
set_option linter.unusedVariables false
set_option maxRecDepth 100000
set_option maxHeartbeats 4000000
attribute [local irreducible] AW AO AQ Spec SpecH Calm

def bosketref04_Parts_c0 (k : Nat) (x3 : (List (List S82))) : Option (List (List S82)) :=
  some (x3)
def bosketref04_Parts_l1 (k : Nat) (p0 : (List S82)) : Nat → (List (List S82)) → Int → Int → Option (List (List S82))
  | 0, _, _, _ => none
  | j + 1, x7, x8, x9 =>
    if (0 : Int) < x9 then (bosketref04_Start k p0 (w64 (x8 - (1 : Int)))).bind fun t13 =>
    if 0 ≤ t13 ∧ t13 ≤ x8 ∧ x8 ≤ (p0.length : Int) then if (([(lcut p0 t13 x8)] : List (List S82)) ++ x7).length * 24 ≤ 140737488355328 then (bosketref04_Parts_l1 k p0 j) (([(lcut p0 t13 x8)] : List (List S82)) ++ x7) t13 (w64 (x9 - (1 : Int)))
    else none
    else none
    else bosketref04_Parts_c0 k x7
def bosketref04_Parts (k : Nat) (p0 : (List S82)) : Option (List (List S82)) :=
  if 0 ≤ (w64 ((p0.length : Int) - (1 : Int))) ∧ (w64 ((p0.length : Int) - (1 : Int))) < (p0.length : Int) then (bosketref04_Takes k ((lget p0 (w64 ((p0.length : Int) - (1 : Int)))).f0)).bind fun t5 =>
  bosketref04_Parts_l1 k p0 k ([] : List (List S82)) (w64 ((p0.length : Int) - (1 : Int))) t5
  else none
theorem bosketref04_Parts_spec {k : Nat} {p0 : (List S82)} {r : (List (List S82))} (h : bosketref04_Parts k p0 = some r) : Spec Try.prog 62 [(.fz 5 (p0.map e82))] (e97 r) := by
  rw [bosketref04_Parts.eq_1] at h
  refine Spec.intro (res := [.tmp 2]) Try.func62 rfl rfl rfl (Nat.le_of_ble_eq_true rfl) ?_
  refine AW.sr ?_
  refine AO.c (Calm.assign rfl rfl) ?_
  refine AO.nK [0] ?_
  refine AW.sr ?_
  refine AO.c (Calm.move rfl rfl) ?_
  refine AO.c (Calm.lenL rfl rfl Try.underlying58) ?_
  refine AO.c (x := eI64 (w64 ((p0.length : Int) - (1 : Int)))) (Calm.int rfl rfl rfl rfl) ?_
  refine AO.c (Calm.assign rfl rfl) ?_
  refine AO.nK [0, 3] ?_
  refine AW.sr ?_
  refine AO.c (Calm.assign rfl rfl) ?_
  refine AO.nK [0, 3, 4] ?_
  refine AW.sr ?_
  refine AO.c (Calm.move rfl rfl) ?_
  refine AO.c (Calm.assign rfl rfl) ?_
  refine AO.nK [0, 3, 4, 5] ?_
  refine AW.seq_mid (fun ρ H => ∃ (n2 : Nat) (x3 : (List (List S82))), ρ = [(4, (.own n2 0 x3.length))] ∧ H = [(n2, (.mem (.ar 1 (x3.map e58))))] ∧ bosketref04_Parts_c0 k x3 = some r) ?_ ?_
  ·refine AW.sr ?_
   refine AO.c (Calm.move rfl rfl) ?_
   refine AO.c (Calm.move rfl rfl) ?_
   obtain ⟨hg4, h⟩ := of_guard h
   refine AO.c (Calm.idxL (f := e82) rfl rfl rfl hg4 Try.underlying58 sz82) ?_
   refine AO.c (Calm.fldRp rfl rfl Try.underlying82 rfl sz3 (At.cast (At.fld0 At.here) rfl)) ?_
   refine AO.c (Calm.loadRp rfl rfl ag3 sz3) ?_
   obtain ⟨t5, et5, h⟩ := of_bind h
   refine AO.callS [(eI64 ((lget p0 (w64 ((p0.length : Int) - (1 : Int)))).f0))] (eI64 t5) 17 rfl (by decide) ok59 rfl rfl rfl ⟨rfl, rfl, trivial⟩ (bosketref04_Takes_spec et5) ?_
   refine AO.c (Calm.assign rfl rfl) ?_
   refine AO.nK [0, 4, 5, 6] ?_
   refine AW.block ?_
   refine AW.nilOwn 4 1 rfl fun n18 => ?_
   refine AW.wK [0, 4, 5, 6] ?_
   refine AW.loop (fun kq ρ H => ∃ (n6 : Nat) (x7 : (List (List S82))) (x8 : Int) (x9 : Int), ρ = [(0, (.fz 5 (p0.map e82))), (4, (.own n6 0 x7.length)), (5, (eI64 x8)), (6, (eI64 x9))] ∧ H = [(n6, (.mem (.ar 1 (x7.map e58))))] ∧ bosketref04_Parts_l1 k p0 kq x7 x8 x9 = some r) k ⟨n18, ([] : List (List S82)), (w64 ((p0.length : Int) - (1 : Int))), t5, rfl, rfl, h⟩ ?_
   rintro kq11 _ _ ⟨n6, x7, x8, x9, rfl, rfl, h⟩
   cases kq11 with
   | zero => rw [bosketref04_Parts_l1.eq_1] at h; cases h
   | succ kq11 =>
   rw [bosketref04_Parts_l1.eq_2] at h
   generalize hrec10 : bosketref04_Parts_l1 k p0 kq11 = rec10 at h
   refine AW.seq ?_
   refine AW.sr ?_
   refine AO.c (Calm.move rfl rfl) ?_
   refine AO.c (x := eBool (decide ((0 : Int) < x9))) (Calm.int rfl rfl rfl rfl) ?_
   refine AO.nK [0, 4, 5, 6, 19] ?_
   rcases of_ite h with ⟨hc12, h⟩ | ⟨hc12, h⟩
   ·refine AW.condP _ rfl hc12 ?_
    refine AW.sK [0, 4, 5, 6] ?_
    refine AW.seq ?_
    refine AW.block ?_
    refine AW.sr ?_
    refine AO.c (Calm.move rfl rfl) ?_
    refine AO.c (Calm.move rfl rfl) ?_
    refine AO.c (x := eI64 (w64 (x8 - (1 : Int)))) (Calm.int rfl rfl rfl rfl) ?_
    obtain ⟨t13, et13, h⟩ := of_bind h
    refine AO.callS [(.fz 5 (p0.map e82)), (eI64 (w64 (x8 - (1 : Int))))] (eI64 t13) 25 rfl (by decide) ok75 rfl rfl rfl ⟨rfl, rfl, rfl, rfl, trivial⟩ (bosketref04_Start_spec et13) ?_
    refine AO.c (Calm.assign rfl rfl) ?_
    refine AO.nK [0, 4, 5, 6, 7] ?_
    refine AW.sr ?_
    refine AO.c (Calm.move rfl rfl) ?_
    refine AO.c (Calm.move rfl rfl) ?_
    refine AO.c (Calm.move rfl rfl) ?_
    obtain ⟨hg14, h⟩ := of_guard h
    refine AO.c (x := .fz 5 ((lcut p0 t13 x8).map e82)) (Calm.sliceL rfl rfl rfl rfl hg14 Try.underlying58 sz82) ?_
    refine AO.lit (Z := (.fl (.slice none 0 0))) (xs := (([(lcut p0 t13 x8)] : List (List S82)).map e58)) (qs := [(0, (.fz 5 ((lcut p0 t13 x8).map e82)))]) rfl 30 rfl (by decide) rfl ⟨rfl, rfl, rfl, trivial⟩ Try.underlying97 sz58 zr58 lay58 rfl (by decide) (litOK (z := 1) [(.fz 5 ((lcut p0 t13 x8).map e82))] rfl ⟨⟨rfl, rfl⟩, trivial⟩) rfl fun n15 => ?_
    refine AO.c (Calm.move rfl rfl) ?_
    obtain ⟨hg17, h⟩ := of_guard h
    refine AO.appendL (l := ([(lcut p0 t13 x8)] : List (List S82))) (m := x7) 0 32 rfl (by decide) rfl rfl rfl rfl rfl (Src.ownL (f := e58) (l := x7) 1 rfl) Try.underlying97 Try.underlying97 sz58 by58 zr58 rfl hg17 (by decide) fun n16 => ?_
    refine AO.c (Calm.assign rfl rfl) ?_
    refine AO.nH [0, 4, 6, 7] (H' := [(n16, (.mem (.ar 1 ((([(lcut p0 t13 x8)] : List (List S82)) ++ x7).map e58))))]) (Sub.cons 0 rfl (Sub.nil _)) ?_
    refine AW.reg ?_
    refine AO.c (Calm.move rfl rfl) ?_
    refine AO.c (Calm.assign rfl rfl) ?_
    refine AO.nK [0, 4, 5, 6] ?_
    refine AW.reg ?_
    refine AO.c (Calm.move rfl rfl) ?_
    refine AO.c (x := eI64 (w64 (x9 - (1 : Int)))) (Calm.int rfl rfl rfl rfl) ?_
    refine AO.c (Calm.assign rfl rfl) ?_
    refine AO.nK [0, 4, 5, 6] ?_
    exact ⟨kq11, Nat.lt_succ_self _, n16, (([(lcut p0 t13 x8)] : List (List S82)) ++ x7), t13, (w64 (x9 - (1 : Int))), rfl, rfl, by rw [hrec10]; exact h⟩
   ·refine AW.condN _ rfl hc12 ?_
    refine AW.eK [4] ?_
    exact ⟨n6, x7, rfl, rfl, h⟩
  ·rintro _ _ ⟨n2, x3, rfl, rfl, h⟩
   rw [bosketref04_Parts_c0.eq_1] at h
   refine AW.sr ?_
   refine AO.c (Calm.move rfl rfl) ?_
   refine AO.c (Calm.assign rfl rfl) ?_
   refine AO.nK [2] ?_
   refine AW.freezeS 0 [(2, (.fz 1 (x3.map e58)))] rfl ⟨fz_all rfl, trivial⟩ ?_
   refine AW.rK [2] ?_
   have hr := Option.some.inj h
   subst hr
   exact ⟨[(.fz 1 (x3.map e58))], ⟨rfl, rfl, trivial⟩, rfl⟩
end Go.Avl.T3
/- slices.Clone[bosket/api.Regex,bosket/api.Piece]; printed by avmain.py. -/
namespace Go.Avl.T3
open Go Go.RowKit Go.Proofs Go.Avl
set_option linter.unusedVariables false
set_option maxRecDepth 100000
set_option maxHeartbeats 4000000
attribute [local irreducible] AW AO AQ Spec SpecH Calm

def slices_Clone_api_Regex_api_Piece_ (k : Nat) (p0 : (List S82)) : Option (List S82) :=
  if (([] : List S82) ++ p0).length * 40 ≤ 140737488355328 then some ((([] : List S82) ++ p0))
  else none
def slices_Clone_api_Regex_api_Piece__own (k : Nat) (p0 : (List S82)) : Option (List S82) :=
  if (([] : List S82) ++ p0).length * 40 ≤ 140737488355328 then some ((([] : List S82) ++ p0))
  else none
theorem slices_Clone_api_Regex_api_Piece__spec {k : Nat} {p0 : (List S82)} {r : (List S82)} (h : slices_Clone_api_Regex_api_Piece_ k p0 = some r) : Spec Try.prog 56 [(.fz 5 (p0.map e82))] (e58 r) := by
  rw [slices_Clone_api_Regex_api_Piece_.eq_1] at h
  refine Spec.intro (res := [.tmp 2]) Try.func56 rfl rfl rfl (Nat.le_of_ble_eq_true rfl) ?_
  refine AW.sr ?_
  refine AO.c (Calm.assign rfl rfl) ?_
  refine AO.nK [0] ?_
  refine AW.seq ?_
  refine AW.sr ?_
  refine AO.c (Calm.move rfl rfl) ?_
  refine AO.nilFz rfl 4 rfl (by decide) rfl rfl Try.underlying58 fun gb2 hgb2 => ?_
  refine AO.nK [0, 4] ?_
  cases gb2
  ·refine AW.condF rfl ?_
   refine AW.sK [0] ?_
   refine AW.sr ?_
   refine AO.lit (Z := (.st [(1, (eI64 (0 : Int))), (4, (.ar 1 ((Vector.replicate 4 (0 : Int)).toList.map eU64)))])) (xs := (([] : List S82).map e82)) (qs := []) rfl 5 rfl (by decide) rfl trivial Try.underlying58 sz82 zr82 lay82 rfl (by decide) (litOK (z := 5) [] rfl trivial) rfl fun n3 => ?_
   refine AO.c (Calm.move rfl rfl) ?_
   obtain ⟨hg5, h⟩ := of_guard h
   refine AO.appendL (l := ([] : List S82)) (m := p0) 0 7 rfl (by decide) rfl rfl rfl rfl rfl Src.fz Try.underlying58 Try.underlying58 sz82 by82 zr82 rfl hg5 (by decide) fun n4 => ?_
   refine AO.c (Calm.assign rfl rfl) ?_
   refine AO.nK [2] ?_
   refine AW.freezeS 0 [(2, (.fz 5 ((([] : List S82) ++ p0).map e82)))] rfl ⟨fz_all rfl, trivial⟩ ?_
   refine AW.rK [2] ?_
   have hr := Option.some.inj h
   subst hr
   exact ⟨[(.fz 5 ((([] : List S82) ++ p0).map e82))], ⟨rfl, rfl, trivial⟩, rfl⟩
  ·have hn6 : p0 = [] := List.map_eq_nil_iff.1 (hgb2 rfl)
   have h : (some ([])) = some r := by simpa [hn6] using h
   refine AW.condT rfl ?_
   refine AW.sr ?_
   refine AO.c (Calm.assign rfl rfl) ?_
   refine AO.nK [2] ?_
   refine AW.coeC 2 (y' := (.fz 5 (([] : List S82).map e82))) rfl Coe.nil ?_
   refine AW.rK [2] ?_
   have hr := Option.some.inj h
   subst hr
   exact ⟨[(.fz 5 (([] : List S82).map e82))], ⟨rfl, rfl, trivial⟩, rfl⟩
theorem slices_Clone_api_Regex_api_Piece__own_spec {k : Nat} {p0 : (List S82)} {r : (List S82)} (h : slices_Clone_api_Regex_api_Piece__own k p0 = some r) {T0 : Heap} : SpecH Try.prog 56 [(.fz 5 (p0.map e82))] (T0) (fun x H' => ∃ m, x = .own m 0 r.length ∧ Sub ((m, .mem (.ar 5 (r.map e82))) :: T0) H') := by
  rw [slices_Clone_api_Regex_api_Piece__own.eq_1] at h
  refine SpecH.intro (res := [.tmp 2]) Try.func56 rfl rfl rfl (Nat.le_of_ble_eq_true rfl) ?_
  refine AW.sr ?_
  refine AO.c (Calm.assign rfl rfl) ?_
  refine AO.nK [0] ?_
  refine AW.seq ?_
  refine AW.sr ?_
  refine AO.c (Calm.move rfl rfl) ?_
  refine AO.nilFz rfl 4 rfl (by decide) rfl rfl Try.underlying58 fun gb2 hgb2 => ?_
  refine AO.nK [0, 4] ?_
  cases gb2
  ·refine AW.condF rfl ?_
   refine AW.sK [0] ?_
   refine AW.sr ?_
   refine AO.lit (Z := (.st [(1, (eI64 (0 : Int))), (4, (.ar 1 ((Vector.replicate 4 (0 : Int)).toList.map eU64)))])) (xs := (([] : List S82).map e82)) (qs := []) rfl 5 rfl (by decide) rfl trivial Try.underlying58 sz82 zr82 lay82 rfl (by decide) (litOK (z := 5) [] rfl trivial) rfl fun n4 => ?_
   refine AO.c (Calm.move rfl rfl) ?_
   obtain ⟨hg6, h⟩ := of_guard h
   refine AO.appendL (l := ([] : List S82)) (m := p0) 0 7 rfl (by decide) rfl rfl rfl rfl rfl Src.fz Try.underlying58 Try.underlying58 sz82 by82 zr82 rfl hg6 (by decide) fun n5 => ?_
   refine AO.c (Calm.assign rfl rfl) ?_
   refine AO.nK [2] ?_
   refine AW.rK [2] ?_
   have hr := Option.some.inj h
   subst hr
   exact ⟨[(.own n5 0 (([] : List S82) ++ p0).length)], ⟨rfl, rfl, trivial⟩, n5, rfl, (Sub.cons 0 rfl (Sub.refl _))⟩
  ·have hn7 : p0 = [] := List.map_eq_nil_iff.1 (hgb2 rfl)
   have h : (some ([])) = some r := by simpa [hn7] using h
   refine AW.condT rfl ?_
   refine AW.sr ?_
   refine AO.c (Calm.assign rfl rfl) ?_
   refine AO.nK [2] ?_
   refine AW.nilOwn 2 5 rfl fun n3 => ?_
   refine AW.rK [2] ?_
   have hr := Option.some.inj h
   subst hr
   exact ⟨[(.own n3 0 ([] : List S82).length)], ⟨rfl, rfl, trivial⟩, n3, rfl, (Sub.cons 0 rfl (Sub.refl _))⟩
end Go.Avl.T3
/- bosket/rex.Start; printed by avmain.py. -/
namespace Go.Avl.T3
open Go Go.RowKit Go.Proofs Go.Avl
set_option linter.unusedVariables false
set_option maxRecDepth 100000
set_option maxHeartbeats 4000000
attribute [local irreducible] AW AO AQ Spec SpecH Calm

def rex_Start_c0 (k : Nat) : Option Int :=
  some ((0 : Int))
def rex_Start_l1 (k : Nat) (p0 : (List S82)) : Nat → Int → Int → Option Int
  | 0, _, _ => none
  | j + 1, x3, x4 =>
    if (0 : Int) ≤ x4 then if 0 ≤ x4 ∧ x4 < (p0.length : Int) then (rex_Takes k ((lget p0 x4).f0)).bind fun t9 =>
    if (w64 (x3 + (w64 (t9 - (1 : Int))))) = (0 : Int) then some (x4)
    else (rex_Start_l1 k p0 j) (w64 (x3 + (w64 (t9 - (1 : Int))))) (w64 (x4 - (1 : Int)))
    else none
    else rex_Start_c0 k
def rex_Start (k : Nat) (p0 : (List S82)) (p1 : Int) : Option Int :=
  rex_Start_l1 k p0 k (1 : Int) p1
theorem rex_Start_spec {k : Nat} {p0 : (List S82)} {p1 : Int} {r : Int} (h : rex_Start k p0 p1 = some r) : Spec Try.prog 79 [(.fz 5 (p0.map e82)), (eI64 p1)] (eI64 r) := by
  rw [rex_Start.eq_1] at h
  refine Spec.intro (res := [.tmp 4]) Try.func79 rfl rfl rfl (Nat.le_of_ble_eq_true rfl) ?_
  refine AW.sr ?_
  refine AO.c (Calm.assign rfl rfl) ?_
  refine AO.nK [0, 1] ?_
  refine AW.sr ?_
  refine AO.c (Calm.assign rfl rfl) ?_
  refine AO.nK [0, 1, 5] ?_
  refine AW.seq_mid (fun ρ H => ρ = [] ∧ H = [] ∧ rex_Start_c0 k = some r) ?_ ?_
  ·refine AW.sr ?_
   refine AO.c (Calm.move rfl rfl) ?_
   refine AO.c (Calm.assign rfl rfl) ?_
   refine AO.nK [0, 5, 6] ?_
   refine AW.block ?_
   refine AW.wK [0, 5, 6] ?_
   refine AW.loop (fun kq ρ H => ∃ (x3 : Int) (x4 : Int), ρ = [(0, (.fz 5 (p0.map e82))), (5, (eI64 x3)), (6, (eI64 x4))] ∧ H = [] ∧ rex_Start_l1 k p0 kq x3 x4 = some r) k ⟨(1 : Int), p1, rfl, rfl, h⟩ ?_
   rintro kq6 _ _ ⟨x3, x4, rfl, rfl, h⟩
   cases kq6 with
   | zero => rw [rex_Start_l1.eq_1] at h; cases h
   | succ kq6 =>
   rw [rex_Start_l1.eq_2] at h
   generalize hrec5 : rex_Start_l1 k p0 kq6 = rec5 at h
   refine AW.seq ?_
   refine AW.sr ?_
   refine AO.c (Calm.move rfl rfl) ?_
   refine AO.c (x := eBool (decide ((0 : Int) ≤ x4))) (Calm.int rfl rfl rfl rfl) ?_
   refine AO.nK [0, 5, 6, 9] ?_
   rcases of_ite h with ⟨hc7, h⟩ | ⟨hc7, h⟩
   ·refine AW.condP _ rfl hc7 ?_
    refine AW.sK [0, 5, 6] ?_
    refine AW.seq ?_
    refine AW.block ?_
    refine AW.sr ?_
    refine AO.c (Calm.move rfl rfl) ?_
    refine AO.c (Calm.move rfl rfl) ?_
    refine AO.c (Calm.move rfl rfl) ?_
    obtain ⟨hg8, h⟩ := of_guard h
    refine AO.c (Calm.idxL (f := e82) rfl rfl rfl hg8 Try.underlying58 sz82) ?_
    refine AO.c (Calm.fldRp rfl rfl Try.underlying82 rfl sz3 (At.cast (At.fld0 At.here) rfl)) ?_
    refine AO.c (Calm.loadRp rfl rfl ag3 sz3) ?_
    obtain ⟨t9, et9, h⟩ := of_bind h
    refine AO.callS [(eI64 ((lget p0 x4).f0))] (eI64 t9) 18 rfl (by decide) ok67 rfl rfl rfl ⟨rfl, rfl, trivial⟩ (rex_Takes_spec et9) ?_
    refine AO.c (x := eI64 (w64 (t9 - (1 : Int)))) (Calm.int rfl rfl rfl rfl) ?_
    refine AO.c (x := eI64 (w64 (x3 + (w64 (t9 - (1 : Int)))))) (Calm.int rfl rfl rfl rfl) ?_
    refine AO.c (Calm.assign rfl rfl) ?_
    refine AO.nK [0, 5, 6] ?_
    refine AW.sr ?_
    refine AO.c (Calm.move rfl rfl) ?_
    refine AO.c (x := eBool (decide ((w64 (x3 + (w64 (t9 - (1 : Int))))) = (0 : Int)))) (Calm.int rfl rfl rfl rfl) ?_
    refine AO.nK [0, 5, 6, 22] ?_
    rcases of_ite h with ⟨hc10, h⟩ | ⟨hc10, h⟩
    ·refine AW.condP _ rfl hc10 ?_
     refine AW.sr ?_
     refine AO.c (Calm.move rfl rfl) ?_
     refine AO.c (Calm.assign rfl rfl) ?_
     refine AO.nK [4] ?_
     refine AW.rK [4] ?_
     have hr := Option.some.inj h
     subst hr
     exact ⟨[(eI64 x4)], ⟨rfl, rfl, trivial⟩, rfl⟩
    ·refine AW.condN _ rfl hc10 ?_
     refine AW.sK [0, 5, 6] ?_
     refine AW.reg ?_
     refine AO.c (Calm.move rfl rfl) ?_
     refine AO.c (x := eI64 (w64 (x4 - (1 : Int)))) (Calm.int rfl rfl rfl rfl) ?_
     refine AO.c (Calm.assign rfl rfl) ?_
     refine AO.nK [0, 5, 6] ?_
     exact ⟨kq6, Nat.lt_succ_self _, (w64 (x3 + (w64 (t9 - (1 : Int))))), (w64 (x4 - (1 : Int))), rfl, rfl, by rw [hrec5]; exact h⟩
   ·refine AW.condN _ rfl hc7 ?_
    refine AW.eK [] ?_
    exact ⟨rfl, rfl, h⟩
  ·rintro _ _ ⟨rfl, rfl, h⟩
   rw [rex_Start_c0.eq_1] at h
   refine AW.sr ?_
   refine AO.c (Calm.assign rfl rfl) ?_
   refine AO.nK [4] ?_
   refine AW.rK [4] ?_
   have hr := Option.some.inj h
   subst hr
   exact ⟨[(eI64 (0 : Int))], ⟨rfl, rfl, trivial⟩, rfl⟩
end Go.Avl.T3
/- bosket/rex.Parts; printed by avmain.py. -/
namespace Go.Avl.T3
open Go Go.RowKit Go.Proofs Go.Avl
set_option linter.unusedVariables false
set_option maxRecDepth 100000
set_option maxHeartbeats 4000000
attribute [local irreducible] AW AO AQ Spec SpecH Calm

def rex_Parts (k : Nat) (p0 : (List S82)) : Option (List (List S82)) :=
  if (p0.length : Int) = (0 : Int) then some ([])
  else if 0 ≤ (w64 ((p0.length : Int) - (1 : Int))) ∧ (w64 ((p0.length : Int) - (1 : Int))) < (p0.length : Int) then (rex_Takes k ((lget p0 (w64 ((p0.length : Int) - (1 : Int)))).f0)).bind fun t4 =>
  if t4 = (1 : Int) then if 0 ≤ (0 : Int) ∧ (0 : Int) ≤ (w64 ((p0.length : Int) - (1 : Int))) ∧ (w64 ((p0.length : Int) - (1 : Int))) ≤ (p0.length : Int) then (slices_Clone_api_Regex_api_Piece__own k (lcut p0 (0 : Int) (w64 ((p0.length : Int) - (1 : Int))))).bind fun t7 =>
  some ([t7])
  else none
  else if t4 = (2 : Int) then (rex_Start k p0 (w64 ((p0.length : Int) - (2 : Int)))).bind fun t12 =>
  if 0 ≤ (0 : Int) ∧ (0 : Int) ≤ t12 ∧ t12 ≤ (p0.length : Int) then (slices_Clone_api_Regex_api_Piece_ k (lcut p0 (0 : Int) t12)).bind fun t14 =>
  if 0 ≤ t12 ∧ t12 ≤ (w64 ((p0.length : Int) - (1 : Int))) ∧ (w64 ((p0.length : Int) - (1 : Int))) ≤ (p0.length : Int) then (slices_Clone_api_Regex_api_Piece_ k (lcut p0 t12 (w64 ((p0.length : Int) - (1 : Int))))).bind fun t16 =>
  some ([t14, t16])
  else none
  else none
  else some ([])
  else none
theorem rex_Parts_spec {k : Nat} {p0 : (List S82)} {r : (List (List S82))} (h : rex_Parts k p0 = some r) : Spec Try.prog 69 [(.fz 5 (p0.map e82))] (e97 r) := by
  rw [rex_Parts.eq_1] at h
  refine Spec.intro (res := [.tmp 2]) Try.func69 rfl rfl rfl (Nat.le_of_ble_eq_true rfl) ?_
  refine AW.sr ?_
  refine AO.c (Calm.assign rfl rfl) ?_
  refine AO.nK [0] ?_
  refine AW.seq ?_
  refine AW.sr ?_
  refine AO.c (Calm.move rfl rfl) ?_
  refine AO.c (Calm.lenL rfl rfl Try.underlying58) ?_
  refine AO.c (x := eBool (decide ((p0.length : Int) = (0 : Int)))) (Calm.int rfl rfl rfl rfl) ?_
  refine AO.nK [0, 6] ?_
  rcases of_ite h with ⟨hc2, h⟩ | ⟨hc2, h⟩
  ·refine AW.condP _ rfl hc2 ?_
   refine AW.sr ?_
   refine AO.c (Calm.assign rfl rfl) ?_
   refine AO.nK [2] ?_
   refine AW.coeC 2 (y' := (.fz 1 (([] : List (List S82)).map e58))) rfl Coe.nil ?_
   refine AW.rK [2] ?_
   have hr := Option.some.inj h
   subst hr
   exact ⟨[(.fz 1 (([] : List (List S82)).map e58))], ⟨rfl, rfl, trivial⟩, rfl⟩
  ·refine AW.condN _ rfl hc2 ?_
   refine AW.sK [0] ?_
   refine AW.seq ?_
   refine AW.sr ?_
   refine AO.c (Calm.move rfl rfl) ?_
   refine AO.c (Calm.move rfl rfl) ?_
   refine AO.c (Calm.lenL rfl rfl Try.underlying58) ?_
   refine AO.c (x := eI64 (w64 ((p0.length : Int) - (1 : Int)))) (Calm.int rfl rfl rfl rfl) ?_
   obtain ⟨hg3, h⟩ := of_guard h
   refine AO.c (Calm.idxL (f := e82) rfl rfl rfl hg3 Try.underlying58 sz82) ?_
   refine AO.c (Calm.fldRp rfl rfl Try.underlying82 rfl sz3 (At.cast (At.fld0 At.here) rfl)) ?_
   refine AO.c (Calm.loadRp rfl rfl ag3 sz3) ?_
   obtain ⟨t4, et4, h⟩ := of_bind h
   refine AO.callS [(eI64 ((lget p0 (w64 ((p0.length : Int) - (1 : Int)))).f0))] (eI64 t4) 14 rfl (by decide) ok67 rfl rfl rfl ⟨rfl, rfl, trivial⟩ (rex_Takes_spec et4) ?_
   refine AO.nK [0, 14] ?_
   refine AW.block ?_
   refine AW.sr ?_
   refine AO.c (x := eBool (decide (t4 = (1 : Int)))) (Calm.int rfl rfl rfl rfl) ?_
   refine AO.c (Calm.assign rfl rfl) ?_
   refine AO.nK [0, 14, 15] ?_
   rcases of_ite h with ⟨hc5, h⟩ | ⟨hc5, h⟩
   ·refine AW.condP _ rfl hc5 ?_
    refine AW.sr ?_
    refine AO.c (Calm.move rfl rfl) ?_
    refine AO.c (Calm.move rfl rfl) ?_
    refine AO.c (Calm.lenL rfl rfl Try.underlying58) ?_
    refine AO.c (x := eI64 (w64 ((p0.length : Int) - (1 : Int)))) (Calm.int rfl rfl rfl rfl) ?_
    obtain ⟨hg6, h⟩ := of_guard h
    refine AO.c (x := .fz 5 ((lcut p0 (0 : Int) (w64 ((p0.length : Int) - (1 : Int)))).map e82)) (Calm.sliceL rfl rfl rfl rfl hg6 Try.underlying58 sz82) ?_
    obtain ⟨t7, et7, h⟩ := of_bind h
    refine AO.callH [(.fz 5 ((lcut p0 (0 : Int) (w64 ((p0.length : Int) - (1 : Int)))).map e82))] [] _ rfl rfl rfl 22 rfl (by decide) ok56 ⟨rfl, rfl, trivial⟩ (Sub.refl _) (slices_Clone_api_Regex_api_Piece__own_spec et7) ?_
    rintro _ _ ⟨n9, rfl, hs8⟩
    refine AO.wH [0, 14, 15, 17, 18, 19, 20, 21, 22] hs8 ?_
    refine AO.freezeS 0 [(22, (.fz 5 (t7.map e82)))] rfl ⟨fz_all rfl, trivial⟩ ?_
    refine AO.lit (Z := (.fl (.slice none 0 0))) (xs := (([t7] : List (List S82)).map e58)) (qs := [(0, (.fz 5 (t7.map e82)))]) rfl 23 rfl (by decide) rfl ⟨rfl, rfl, rfl, trivial⟩ Try.underlying97 sz58 zr58 lay58 rfl (by decide) (litOK (z := 1) [(.fz 5 (t7.map e82))] rfl ⟨⟨rfl, rfl⟩, trivial⟩) rfl fun n10 => ?_
    refine AO.c (Calm.assign rfl rfl) ?_
    refine AO.nK [2] ?_
    refine AW.freezeS 0 [(2, (.fz 1 (([t7] : List (List S82)).map e58)))] rfl ⟨fz_all rfl, trivial⟩ ?_
    refine AW.rK [2] ?_
    have hr := Option.some.inj h
    subst hr
    exact ⟨[(.fz 1 (([t7] : List (List S82)).map e58))], ⟨rfl, rfl, trivial⟩, rfl⟩
   ·refine AW.condN _ rfl hc5 ?_
    refine AW.sr ?_
    refine AO.c (x := eBool (decide (t4 = (2 : Int)))) (Calm.int rfl rfl rfl rfl) ?_
    refine AO.c (Calm.assign rfl rfl) ?_
    refine AO.nK [0, 24] ?_
    rcases of_ite h with ⟨hc11, h⟩ | ⟨hc11, h⟩
    ·refine AW.condP _ rfl hc11 ?_
     refine AW.sr ?_
     refine AO.c (Calm.move rfl rfl) ?_
     refine AO.c (Calm.move rfl rfl) ?_
     refine AO.c (Calm.lenL rfl rfl Try.underlying58) ?_
     refine AO.c (x := eI64 (w64 ((p0.length : Int) - (2 : Int)))) (Calm.int rfl rfl rfl rfl) ?_
     obtain ⟨t12, et12, h⟩ := of_bind h
     refine AO.callS [(.fz 5 (p0.map e82)), (eI64 (w64 ((p0.length : Int) - (2 : Int))))] (eI64 t12) 30 rfl (by decide) ok79 rfl rfl rfl ⟨rfl, rfl, rfl, rfl, trivial⟩ (rex_Start_spec et12) ?_
     refine AO.c (Calm.assign rfl rfl) ?_
     refine AO.nK [0, 3] ?_
     refine AW.seq ?_
     obtain ⟨hg13, h⟩ := of_guard h
     obtain ⟨t14, et14, h⟩ := of_bind h
     obtain ⟨hg15, h⟩ := of_guard h
     obtain ⟨t16, et16, h⟩ := of_bind h
     refine AW.regAny (by rfl) (by decide +kernel) [(.fz 5 (p0.map e82)), (eI64 t12), (.fz 5 ((lcut p0 (0 : Int) t12).map e82)), (.fz 5 (t14.map e82)), (.fz 5 (p0.map e82)), (eI64 t12), (.fz 5 (p0.map e82)), (eI64 (p0.length : Int)), (eI64 (w64 ((p0.length : Int) - (1 : Int)))), (.fz 5 ((lcut p0 t12 (w64 ((p0.length : Int) - (1 : Int)))).map e82)), (.fz 5 (t16.map e82)), (.fz 1 (([t14, t16] : List (List S82)).map e58)), (.fz 1 (([t14, t16] : List (List S82)).map e58))] [(0, (.fz 5 (p0.map e82))), (3, (eI64 t12))] ⟨rfl, rfl, trivial⟩ rfl ?_ [(2, (.fz 1 (([t14, t16] : List (List S82)).map e58)))] [] ⟨rfl, trivial⟩ (Sub.refl _) ?_
     ·refine ⟨?_, ?_, ?_, ?_, ?_, ?_, ?_, ?_, ?_, ?_, ?_, ?_, ?_, trivial⟩
      ·refine AO.wK [0] ?_
       refine AO.c (Calm.move rfl rfl) ?_
       exact AO.nE (d := 31) rfl ⟨⟨_, rfl, rfl⟩, Sub.refl _⟩
      ·refine AO.wK [3] ?_
       refine AO.c (Calm.move rfl rfl) ?_
       exact AO.nE (d := 32) rfl ⟨⟨_, rfl, rfl⟩, Sub.refl _⟩
      ·refine AO.wK [31, 32] ?_
       refine AO.c (x := .fz 5 ((lcut p0 (0 : Int) t12).map e82)) (Calm.sliceL rfl rfl rfl rfl hg13 Try.underlying58 sz82) ?_
       exact AO.nE (d := 33) rfl ⟨⟨_, rfl, rfl⟩, Sub.refl _⟩
      ·refine AO.wK [33] ?_
       refine AO.callS [(.fz 5 ((lcut p0 (0 : Int) t12).map e82))] (.fz 5 (t14.map e82)) 34 rfl (by decide) ok56 rfl rfl rfl ⟨rfl, rfl, trivial⟩ (slices_Clone_api_Regex_api_Piece__spec et14) ?_
       exact AO.nE (d := 34) rfl ⟨⟨_, rfl, rfl⟩, Sub.refl _⟩
      ·refine AO.wK [0] ?_
       refine AO.c (Calm.move rfl rfl) ?_
       exact AO.nE (d := 35) rfl ⟨⟨_, rfl, rfl⟩, Sub.refl _⟩
      ·refine AO.wK [3] ?_
       refine AO.c (Calm.move rfl rfl) ?_
       exact AO.nE (d := 36) rfl ⟨⟨_, rfl, rfl⟩, Sub.refl _⟩
      ·refine AO.wK [0] ?_
       refine AO.c (Calm.move rfl rfl) ?_
       exact AO.nE (d := 37) rfl ⟨⟨_, rfl, rfl⟩, Sub.refl _⟩
      ·refine AO.wK [37] ?_
       refine AO.c (Calm.lenL rfl rfl Try.underlying58) ?_
       exact AO.nE (d := 38) rfl ⟨⟨_, rfl, rfl⟩, Sub.refl _⟩
      ·refine AO.wK [38] ?_
       refine AO.c (x := eI64 (w64 ((p0.length : Int) - (1 : Int)))) (Calm.int rfl rfl rfl rfl) ?_
       exact AO.nE (d := 39) rfl ⟨⟨_, rfl, rfl⟩, Sub.refl _⟩
      ·refine AO.wK [35, 36, 39] ?_
       refine AO.c (x := .fz 5 ((lcut p0 t12 (w64 ((p0.length : Int) - (1 : Int)))).map e82)) (Calm.sliceL rfl rfl rfl rfl hg15 Try.underlying58 sz82) ?_
       exact AO.nE (d := 40) rfl ⟨⟨_, rfl, rfl⟩, Sub.refl _⟩
      ·refine AO.wK [40] ?_
       refine AO.callS [(.fz 5 ((lcut p0 t12 (w64 ((p0.length : Int) - (1 : Int)))).map e82))] (.fz 5 (t16.map e82)) 41 rfl (by decide) ok56 rfl rfl rfl ⟨rfl, rfl, trivial⟩ (slices_Clone_api_Regex_api_Piece__spec et16) ?_
       exact AO.nE (d := 41) rfl ⟨⟨_, rfl, rfl⟩, Sub.refl _⟩
      ·refine AO.wK [34, 41] ?_
       refine AO.lit (Z := (.fl (.slice none 0 0))) (xs := (([t14, t16] : List (List S82)).map e58)) (qs := [(0, (.fz 5 (t14.map e82))), (1, (.fz 5 (t16.map e82)))]) rfl 42 rfl (by decide) rfl ⟨rfl, rfl, rfl, rfl, rfl, rfl, trivial⟩ Try.underlying97 sz58 zr58 lay58 rfl (by decide) (litOK (z := 1) [(.fz 5 (t14.map e82)), (.fz 5 (t16.map e82))] rfl ⟨⟨rfl, rfl⟩, ⟨rfl, rfl⟩, trivial⟩) rfl fun n17 => ?_
       refine AO.freezeS 0 [(42, (.fz 1 (([t14, t16] : List (List S82)).map e58)))] rfl ⟨fz_all rfl, trivial⟩ ?_
       exact AO.nE (d := 42) rfl ⟨⟨_, rfl, rfl⟩, Sub.refl _⟩
      ·refine AO.wK [42] ?_
       refine AO.c (Calm.assign rfl rfl) ?_
       exact AO.nE (d := 2) rfl ⟨⟨_, rfl, rfl⟩, Sub.refl _⟩
     ·refine AW.rK [2] ?_
      have hr := Option.some.inj h
      subst hr
      exact ⟨[(.fz 1 (([t14, t16] : List (List S82)).map e58))], ⟨rfl, rfl, trivial⟩, rfl⟩
    ·refine AW.condN _ rfl hc11 ?_
     refine AW.sK [] ?_
     refine AW.sr ?_
     refine AO.c (Calm.assign rfl rfl) ?_
     refine AO.nK [2] ?_
     refine AW.coeC 2 (y' := (.fz 1 (([] : List (List S82)).map e58))) rfl Coe.nil ?_
     refine AW.rK [2] ?_
     have hr := Option.some.inj h
     subst hr
     exact ⟨[(.fz 1 (([] : List (List S82)).map e58))], ⟨rfl, rfl, trivial⟩, rfl⟩
end Go.Avl.T3
/- bosket/byteset.Or; printed by avmain.py. -/
namespace Go.Avl.T3
open Go Go.RowKit Go.Proofs Go.Avl
set_option linter.unusedVariables false
set_option maxRecDepth 100000
set_option maxHeartbeats 4000000
attribute [local irreducible] AW AO AQ Spec SpecH Calm

end Go.Avl.T3
/- bosket/bosketref02.Of; printed by avmain.py. -/
namespace Go.Avl.T3
open Go Go.RowKit Go.Proofs Go.Avl
set_option linter.unusedVariables false
set_option maxRecDepth 100000
set_option maxHeartbeats 4000000
attribute [local irreducible] AW AO AQ Spec SpecH Calm

end Go.Avl.T3
/- bosket/bosketref02.Put; printed by avmain.py. -/
namespace Go.Avl.T3
open Go Go.RowKit Go.Proofs Go.Avl
set_option linter.unusedVariables false
set_option maxRecDepth 100000
set_option maxHeartbeats 4000000
attribute [local irreducible] AW AO AQ Spec SpecH Calm

end Go.Avl.T3
/- bosket/bosketref05.First; printed by avmain.py. -/
namespace Go.Avl.T3
open Go Go.RowKit Go.Proofs Go.Avl
set_option linter.unusedVariables false
set_option maxRecDepth 100000
set_option maxHeartbeats 4000000
set_option linter.unusedSimpArgs false
attribute [local irreducible] AW AO AQ Spec SpecH Calm

end Go.Avl.T3
