/- Parts: T5B, T5f90, T5f91, T5f64, T5f85, T5f97, T5f75, T5f76. -/
import Derived.Test.YtoaomnfenofglaaAv3
import Derived.ChangeKeysEq
import Derived.Test.YtoaomnfenofglaaProg
/- Types and facts; printed by avmain.py. -/
namespace Go.Avl.T5
open Go Go.RowKit Go.Proofs Go.Avl
set_option linter.unusedVariables false
set_option maxRecDepth 100000
set_option maxHeartbeats 4000000
structure S43 where
  f0 : Int
  f1 : Int
  f2 : (Vector Int 4)
  f3 : Bool
deriving Inhabited, DecidableEq
structure S24 where
  f0 : Int
  f1 : (List S43)
  f2 : Int
  f3 : Int
deriving Inhabited, DecidableEq
abbrev e41 (v : Vector Int 4) : AV := .ar 1 (v.toList.map eU64)
abbrev e27 (v : Vector Int 256) : AV := .ar 1 (v.toList.map eU8)
abbrev e49 (l : List Bool) : AV := .fz 1 (l.map eBool)
abbrev e25 (l : List Int) : AV := .fz 1 (l.map eI64)
structure S30 where
  f0 : (Vector Int 256)
  f1 : (List (List Int))
  f2 : (List Int)
deriving Inhabited, DecidableEq
abbrev e30 (x : S30) : AV := .st [(256, (.ar 1 (x.f0.toList.map eU8))), (1, (.fz 1 (x.f1.map e25))), (1, (.fz 1 (x.f2.map eI64)))]
structure S123 where
  f0 : Int
  f1 : ByteArray
deriving Inhabited, DecidableEq
abbrev e123 (x : S123) : AV := .st [(1, (eI64 x.f0)), (1, (eStr x.f1))]
structure S128 where
  f0 : Int
  f1 : Int
deriving Inhabited, DecidableEq
abbrev e128 (x : S128) : AV := .st [(1, (eI64 x.f0)), (1, (eI64 x.f1))]
theorem sz3 : tySize Try.prog 3 = some 1 := by rfl
theorem ag3 : tyAgg Try.prog 3 = some false := by rfl
theorem sz4 : tySize Try.prog 4 = some 1 := by rfl
theorem ag4 : tyAgg Try.prog 4 = some false := by rfl
theorem sz41 : tySize Try.prog 41 = some 4 := by rfl
theorem ag41 : tyAgg Try.prog 41 = some true := by rfl
theorem zr41 : tyZero Try.prog 41 = some ((List.replicate 4 (.int .u64 0))) := by rfl
theorem lay41 : ∀ g, Sim g (.ar 1 ((Vector.replicate 4 (0 : Int)).toList.map eU64)) ((List.replicate 4 (.int .u64 0))) := fun g => (lay_vec1 (lay_fl rfl))
theorem by41 : tyBytes Try.prog 41 = some 32 := by rfl
theorem sz39 : tySize Try.prog 39 = some 1 := by rfl
theorem ag39 : tyAgg Try.prog 39 = some false := by rfl
theorem sz5 : tySize Try.prog 5 = some 1 := by rfl
theorem by5 : tyBytes Try.prog 5 = some 1 := by rfl
theorem zr5 : tyZero Try.prog 5 = some ([.int .u8 0]) := by rfl
theorem lay5 : ∀ g, Sim g (eU8 (0 : Int)) ([.int .u8 0]) := fun g => (lay_fl rfl)
theorem ok82 : FnOK Try.prog 82 := FnOK.mk Try.func82 rfl rfl
theorem ag5 : tyAgg Try.prog 5 = some false := by rfl
theorem zr27 : tyZero Try.prog 27 = some ((List.replicate 256 (.int .u8 0))) := by rfl
theorem lay27 : ∀ g, Sim g (.ar 1 ((Vector.replicate 256 (0 : Int)).toList.map eU8)) ((List.replicate 256 (.int .u8 0))) := fun g => (lay_vec1 (lay_fl rfl))
theorem ok79 : FnOK Try.prog 79 := FnOK.mk Try.func79 rfl rfl
theorem zr3 : tyZero Try.prog 3 = some ([.int .i64 0]) := by rfl
theorem mz3 : ∀ g, ∃ zv, ((Try.prog.info? 3).bind (·.zero)) = some zv ∧ V1 g (eI64 (0 : Int)) zv := fun g => ⟨_, rfl, rfl⟩
theorem ag27 : tyAgg Try.prog 27 = some true := by rfl
theorem sz27 : tySize Try.prog 27 = some 256 := by rfl
theorem by4 : tyBytes Try.prog 4 = some 1 := by rfl
theorem zr4 : tyZero Try.prog 4 = some ([.bool false]) := by rfl
theorem lay4 : ∀ g, Sim g (eBool false) ([.bool false]) := fun g => (lay_fl rfl)
theorem sz25 : tySize Try.prog 25 = some 1 := by rfl
theorem ag25 : tyAgg Try.prog 25 = some false := by rfl
theorem sz30 : tySize Try.prog 30 = some 258 := by rfl
theorem lay3 : ∀ g, Sim g (eI64 (0 : Int)) ([.int .i64 0]) := fun g => (lay_fl rfl)
theorem by3 : tyBytes Try.prog 3 = some 8 := by rfl
theorem zr30 : tyZero Try.prog 30 = some (((List.replicate 256 (.int .u8 0)) ++ ([.slice none 0 0] ++ ([.slice none 0 0] ++ [])))) := by rfl
theorem lay30 : ∀ g, Sim g (.st [(256, (.ar 1 ((Vector.replicate 256 (0 : Int)).toList.map eU8))), (1, (.fl (.slice none 0 0))), (1, (.fl (.slice none 0 0)))]) (((List.replicate 256 (.int .u8 0)) ++ ([.slice none 0 0] ++ ([.slice none 0 0] ++ [])))) := fun g => (Sim.stCons (lay_vec1 (lay_fl rfl)) rfl (Sim.stCons (lay_fl rfl) rfl (Sim.stCons (lay_fl rfl) rfl Sim.stNil)))
theorem ag30 : tyAgg Try.prog 30 = some true := by rfl
theorem ok48 : FnOK Try.prog 48 := FnOK.mk Try.func48 rfl rfl
theorem sz28 : tySize Try.prog 28 = some 1 := by rfl
theorem ag28 : tyAgg Try.prog 28 = some false := by rfl
theorem zr25 : tyZero Try.prog 25 = some ([.slice none 0 0]) := by rfl
theorem lay25 : ∀ g, Sim g (.fl (.slice none 0 0)) ([.slice none 0 0]) := fun g => (lay_fl rfl)
theorem by25 : tyBytes Try.prog 25 = some 24 := by rfl
theorem sz9 : tySize Try.prog 9 = some 1 := by rfl
theorem ag9 : tyAgg Try.prog 9 = some false := by rfl
theorem ok97 : FnOK Try.prog 97 := FnOK.mk Try.func97 rfl rfl
theorem ok85 : FnOK Try.prog 85 := FnOK.mk Try.func85 rfl rfl
theorem ok92 : FnOK Try.prog 92 := FnOK.mk Try.func92 rfl rfl
theorem ok93 : FnOK Try.prog 93 := FnOK.mk Try.func93 rfl rfl
theorem ok84 : FnOK Try.prog 84 := FnOK.mk Try.func84 rfl rfl
theorem ok66 : FnOK Try.prog 66 := FnOK.mk Try.func66 rfl rfl
theorem ok60 : FnOK Try.prog 60 := FnOK.mk Try.func60 rfl rfl
theorem ok59 : FnOK Try.prog 59 := FnOK.mk Try.func59 rfl rfl
theorem ok74 : FnOK Try.prog 74 := FnOK.mk Try.func74 rfl rfl
theorem ok42 : FnOK Try.prog 42 := FnOK.mk Try.func42 rfl rfl
theorem ok41 : FnOK Try.prog 41 := FnOK.mk Try.func41 rfl rfl
theorem ok24 : FnOK Try.prog 24 := FnOK.mk Try.func24 rfl rfl
theorem ok25 : FnOK Try.prog 25 := FnOK.mk Try.func25 rfl rfl
theorem ok90 : FnOK Try.prog 90 := FnOK.mk Try.func90 rfl rfl
theorem ok91 : FnOK Try.prog 91 := FnOK.mk Try.func91 rfl rfl
theorem ok64 : FnOK Try.prog 64 := FnOK.mk Try.func64 rfl rfl
theorem zr123 : tyZero Try.prog 123 = some (([.int .i64 0] ++ ([.string ByteArray.empty] ++ []))) := by rfl
theorem lay123 : ∀ g, Sim g (.st [(1, (eI64 (0 : Int))), (1, (eStr ByteArray.empty))]) (([.int .i64 0] ++ ([.string ByteArray.empty] ++ []))) := fun g => (Sim.stCons (lay_fl rfl) rfl (Sim.stCons (lay_fl rfl) rfl Sim.stNil))
theorem sz123 : tySize Try.prog 123 = some 2 := by rfl
theorem ag123 : tyAgg Try.prog 123 = some true := by rfl
theorem by123 : tyBytes Try.prog 123 = some 24 := by rfl
theorem ok75 : FnOK Try.prog 75 := FnOK.mk Try.func75 rfl rfl
theorem ok76 : FnOK Try.prog 76 := FnOK.mk Try.func76 rfl rfl
theorem ok77 : FnOK Try.prog 77 := FnOK.mk Try.func77 rfl rfl
theorem ok105 : FnOK Try.prog 105 := FnOK.mk Try.func105 rfl rfl
theorem ok104 : FnOK Try.prog 104 := FnOK.mk Try.func104 rfl rfl
theorem ok98 : FnOK Try.prog 98 := FnOK.mk Try.func98 rfl rfl
theorem zr128 : tyZero Try.prog 128 = some (([.int .i64 0] ++ ([.int .i64 0] ++ []))) := by rfl
theorem lay128 : ∀ g, Sim g (.st [(1, (eI64 (0 : Int))), (1, (eI64 (0 : Int)))]) (([.int .i64 0] ++ ([.int .i64 0] ++ []))) := fun g => (Sim.stCons (lay_fl rfl) rfl (Sim.stCons (lay_fl rfl) rfl Sim.stNil))
theorem sz128 : tySize Try.prog 128 = some 2 := by rfl
theorem ag128 : tyAgg Try.prog 128 = some true := by rfl
theorem eqk128 (x y : S128) : EqOK Try.prog 2 128 (e128 x) (e128 y) (decide (x = y)) := (EqOK.struct (bs := [decide (x.f0 = y.f0), decide (x.f1 = y.f1)]) Try.underlying128 (by decide +kernel) ⟨⟨rfl, (eI64 x.f0), (eI64 y.f0), (At.cast (At.fld0 At.here) rfl), (At.cast (At.fld0 At.here) rfl), ag3, ag3, sz3, sz3, (EqOK.int Try.underlying3)⟩, ⟨rfl, (eI64 x.f1), (eI64 y.f1), (At.cast (At.fldS (At.fld0 At.here)) rfl), (At.cast (At.fldS (At.fld0 At.here)) rfl), ag3, ag3, sz3, sz3, (EqOK.int Try.underlying3)⟩, trivial⟩).of (by cases x; cases y; simp)
theorem chk128 (em : Bool) (a b : Int) (w : World) : (Instr.checkKey em 10000 128 (kpair a b)).run Try.prog w = .ok () w := by
  have h3 : Try.prog.plainKey 3 = true := by decide +kernel
  have p1 : (part 3 #[Value.int IntKind.i64 a, Value.int IntKind.i64 b] 0).run Try.prog w = .ok (.int .i64 a) w := _root_.Go.run_part_plain w h3 rfl
  have p2 : (part 3 #[Value.int IntKind.i64 a, Value.int IntKind.i64 b] 1).run Try.prog w = .ok (.int .i64 b) w := _root_.Go.run_part_plain w h3 rfl
  have k1 : ∀ n : Int, (Instr.checkKey em (9998 + 1) 3 (.int .i64 n)).run Try.prog w = .ok () w := fun n => MapKept.run_checkKey Try.underlying3 (show MapKept.IsKey (.int .i64) (.int .i64 n) from rfl) em 9998
  rw [show (10000 : Nat) = 9998 + 1 + 1 from rfl]
  unfold Instr.checkKey
  simp [run_underlying Try.underlying128, Result.andThen, kpair, p1, p2, k1]
theorem ks128 : KeyS Try.prog 128 (fun x : S128 => kpair x.f0 x.f1) := KeyS.pair 2 (fun x => x.f0) (fun x => x.f1) e128 (fun _ => rfl) Try.underlying128 (by decide) eqk128 (fun em x w => chk128 em x.f0 x.f1 w)
theorem ok99 : FnOK Try.prog 99 := FnOK.mk Try.func99 rfl rfl
theorem by128 : tyBytes Try.prog 128 = some 16 := by rfl
theorem ok78 : FnOK Try.prog 78 := FnOK.mk Try.func78 rfl rfl
theorem ok43 : FnOK Try.prog 43 := FnOK.mk Try.func43 rfl rfl
theorem ok44 : FnOK Try.prog 44 := FnOK.mk Try.func44 rfl rfl
theorem ok45 : FnOK Try.prog 45 := FnOK.mk Try.func45 rfl rfl
theorem ok46 : FnOK Try.prog 46 := FnOK.mk Try.func46 rfl rfl
end Go.Avl.T5
/- bosket/byteset.Count; printed by avmain.py. -/
namespace Go.Avl.T5
open Go Go.RowKit Go.Proofs Go.Avl
set_option linter.unusedVariables false
set_option maxRecDepth 100000
set_option maxHeartbeats 4000000
attribute [local irreducible] AW AO AQ Spec SpecH Calm

def byteset_Count_c0 (k : Nat) (x3 : Int) : Option Int :=
  some (x3)
def byteset_Count_l1 (k : Nat) (p0 : (Vector Int 256)) : Nat → Int → Int → Option Int
  | 0, _, _ => none
  | j + 1, x4, x5 =>
    if x5 < (256 : Int) then if 0 ≤ x5 ∧ x5 < (256 : Int) then (byteset_Count_l1 k p0 j) (max x4 (w64 ((w64 (vget p0 x5)) + (1 : Int)))) (w64 (x5 + (1 : Int)))
    else none
    else byteset_Count_c0 k x4
def byteset_Count (k : Nat) (p0 : (Vector Int 256)) : Option Int :=
  byteset_Count_l1 k p0 k (0 : Int) (0 : Int)
theorem byteset_Count_spec {k : Nat} {p0 : (Vector Int 256)} {r : Int} (h : byteset_Count k p0 = some r) : Spec Try.prog 90 [(.ar 1 (p0.toList.map eU8))] (eI64 r) := by
  rw [byteset_Count.eq_1] at h
  refine Spec.intro (res := [.tmp 2]) Try.func90 rfl rfl rfl (Nat.le_of_ble_eq_true rfl) ?_
  refine AW.sr ?_
  refine AO.box rfl 1 rfl (by decide) rfl rfl rfl fun n2 => ?_
  refine AO.c (Calm.assign rfl rfl) ?_
  refine AO.nK [1] ?_
  refine AW.sr ?_
  refine AO.c (Calm.assign rfl rfl) ?_
  refine AO.nK [1, 3] ?_
  refine AW.seq_mid (fun ρ H => ∃ (x3 : Int), ρ = [(3, (eI64 x3))] ∧ H = [] ∧ byteset_Count_c0 k x3 = some r) ?_ ?_
  ·refine AW.sr ?_
   refine AO.c (Calm.load 0 rfl rfl rfl (At.cast At.here rfl) ag27 (by rw [sz27]; simp [AV.size])) ?_
   refine AO.c (Calm.move rfl rfl) ?_
   refine AO.nH [3, 6, 7] (H' := []) (Sub.nil _) ?_
   refine AW.block ?_
   refine AW.wK [3, 6, 7] ?_
   refine AW.loop (fun kq ρ H => ∃ (x4 : Int) (x5 : Int), ρ = [(3, (eI64 x4)), (6, (.ar 1 (p0.toList.map eU8))), (7, (eI64 x5))] ∧ H = [] ∧ byteset_Count_l1 k p0 kq x4 x5 = some r) k ⟨(0 : Int), (0 : Int), rfl, rfl, h⟩ ?_
   rintro kq7 _ _ ⟨x4, x5, rfl, rfl, h⟩
   cases kq7 with
   | zero => rw [byteset_Count_l1.eq_1] at h; cases h
   | succ kq7 =>
   rw [byteset_Count_l1.eq_2] at h
   generalize hrec6 : byteset_Count_l1 k p0 kq7 = rec6 at h
   refine AW.sr ?_
   refine AO.c (x := eBool (decide (x5 < (256 : Int)))) (Calm.int rfl rfl rfl rfl) ?_
   refine AO.nK [3, 6, 7, 8] ?_
   refine AW.seq ?_
   rcases of_ite h with ⟨hc8, h⟩ | ⟨hc8, h⟩
   ·refine AW.condP _ rfl hc8 ?_
    refine AW.sK [3, 6, 7] ?_
    refine AW.seq ?_
    refine AW.block ?_
    refine AW.sr ?_
    obtain ⟨hg9, h⟩ := of_guard h
    refine AO.c (x := eU8 (vget p0 x5)) (Calm.idxVv (f := eU8) rfl rfl rfl hg9 Try.underlying27 sz5 ag5 rfl) ?_
    refine AO.c (Calm.assign rfl rfl) ?_
    refine AO.nK [3, 5, 6, 7] ?_
    refine AW.reg ?_
    refine AO.c (Calm.move rfl rfl) ?_
    refine AO.c (Calm.move rfl rfl) ?_
    refine AO.c (x := eI64 (w64 (vget p0 x5))) (Calm.conv rfl rfl Try.underlying5 Try.underlying3) ?_
    refine AO.c (x := eI64 (w64 ((w64 (vget p0 x5)) + (1 : Int)))) (Calm.int rfl rfl rfl rfl) ?_
    refine AO.c (x := eI64 (max x4 (w64 ((w64 (vget p0 x5)) + (1 : Int))))) (Calm.max2 rfl rfl rfl) ?_
    refine AO.c (Calm.assign rfl rfl) ?_
    refine AO.nK [3, 6, 7] ?_
    refine AW.reg ?_
    refine AO.c (x := eI64 (w64 (x5 + (1 : Int)))) (Calm.int rfl rfl rfl rfl) ?_
    refine AO.c (Calm.move rfl rfl) ?_
    refine AO.nK [3, 6, 7] ?_
    exact ⟨kq7, Nat.lt_succ_self _, (max x4 (w64 ((w64 (vget p0 x5)) + (1 : Int)))), (w64 (x5 + (1 : Int))), rfl, rfl, by rw [hrec6]; exact h⟩
   ·refine AW.condN _ rfl hc8 ?_
    refine AW.eK [3] ?_
    exact ⟨x4, rfl, rfl, h⟩
  ·rintro _ _ ⟨x3, rfl, rfl, h⟩
   rw [byteset_Count_c0.eq_1] at h
   refine AW.sr ?_
   refine AO.c (Calm.move rfl rfl) ?_
   refine AO.c (Calm.assign rfl rfl) ?_
   refine AO.nK [2] ?_
   refine AW.rK [2] ?_
   have hr := Option.some.inj h
   subst hr
   exact ⟨[(eI64 x3)], ⟨rfl, rfl, trivial⟩, rfl⟩
end Go.Avl.T5
/- bosket/dfa.gapless; printed by avmain.py. -/
namespace Go.Avl.T5
open Go Go.RowKit Go.Proofs Go.Avl
set_option linter.unusedVariables false
set_option maxRecDepth 100000
set_option maxHeartbeats 4000000
attribute [local irreducible] AW AO AQ Spec SpecH Calm

def dfa_gapless_c0 (k : Nat) : Option Bool :=
  some (true)
def dfa_gapless_l1 (k : Nat) (x6 : (List Bool)) : Nat → Int → Option Bool
  | 0, _ => none
  | j + 1, x7 =>
    if x7 < (x6.length : Int) then if 0 ≤ x7 ∧ x7 < (x6.length : Int) then if (!(lget x6 x7)) = true then some (false)
    else (dfa_gapless_l1 k x6 j) (w64 (x7 + (1 : Int)))
    else none
    else dfa_gapless_c0 k
def dfa_gapless_c2 (k : Nat) (x6 : (List Bool)) : Option Bool :=
  dfa_gapless_l1 k x6 k (0 : Int)
def dfa_gapless_l3 (k : Nat) (p0 : (Vector Int 256)) : Nat → (List Bool) → Int → Option Bool
  | 0, _, _ => none
  | j + 1, x13, x14 =>
    if x14 < (256 : Int) then if 0 ≤ x14 ∧ x14 < (256 : Int) then if 0 ≤ (vget p0 x14) ∧ (vget p0 x14) < (x13.length : Int) then (dfa_gapless_l3 k p0 j) (lset x13 (vget p0 x14) true) (w64 (x14 + (1 : Int)))
    else none
    else none
    else dfa_gapless_c2 k x13
def dfa_gapless (k : Nat) (p0 : (Vector Int 256)) (p1 : Int) : Option Bool :=
  if 0 ≤ p1 ∧ p1 * (1 : Int) ≤ 140737488355328 ∧ p1 ≤ 9223372036854775807 then dfa_gapless_l3 k p0 k (List.replicate p1.toNat false) (0 : Int)
  else none
theorem dfa_gapless_spec {k : Nat} {p0 : (Vector Int 256)} {p1 : Int} {r : Bool} (h : dfa_gapless k p0 p1 = some r) : Spec Try.prog 91 [(.ar 1 (p0.toList.map eU8)), (eI64 p1)] (eBool r) := by
  rw [dfa_gapless.eq_1] at h
  refine Spec.intro (res := [.tmp 4]) Try.func91 rfl rfl rfl (Nat.le_of_ble_eq_true rfl) ?_
  refine AW.sr ?_
  refine AO.box rfl 2 rfl (by decide) rfl rfl rfl fun n3 => ?_
  refine AO.c (Calm.assign rfl rfl) ?_
  refine AO.nK [1, 2] ?_
  refine AW.sr ?_
  refine AO.c (Calm.move rfl rfl) ?_
  obtain ⟨hg5, h⟩ := of_guard h
  refine AO.makeL (f := eBool) false rfl 11 rfl (by decide) rfl rfl rfl Try.underlying49 sz4 by4 zr4 lay4 rfl hg5 fun n4 => ?_
  refine AO.c (Calm.assign rfl rfl) ?_
  refine AO.nH [2, 5] (H' := [(n3, (.mem (.ar 1 (p0.toList.map eU8)))), (n4, (.mem (.ar 1 ((List.replicate p1.toNat false).map eBool))))]) (Sub.cons 1 rfl (Sub.cons 0 rfl (Sub.nil _))) ?_
  refine AW.seq_mid (fun ρ H => ∃ (x6 : (List Bool)), ρ = [(5, (.own n4 0 x6.length))] ∧ H = [(n4, (.mem (.ar 1 (x6.map eBool))))] ∧ dfa_gapless_c2 k x6 = some r) ?_ ?_
  ·refine AW.sr ?_
   refine AO.c (Calm.load 0 rfl rfl rfl (At.cast At.here rfl) ag27 (by rw [sz27]; simp [AV.size])) ?_
   refine AO.c (Calm.move rfl rfl) ?_
   refine AO.nH [5, 12, 13] (H' := [(n4, (.mem (.ar 1 ((List.replicate p1.toNat false).map eBool))))]) (Sub.cons 1 rfl (Sub.nil _)) ?_
   refine AW.block ?_
   refine AW.wK [5, 12, 13] ?_
   refine AW.loop (fun kq ρ H => ∃ (x13 : (List Bool)) (x14 : Int), ρ = [(5, (.own n4 0 x13.length)), (12, (.ar 1 (p0.toList.map eU8))), (13, (eI64 x14))] ∧ H = [(n4, (.mem (.ar 1 (x13.map eBool))))] ∧ dfa_gapless_l3 k p0 kq x13 x14 = some r) k ⟨(List.replicate p1.toNat false), (0 : Int), rfl, rfl, h⟩ ?_
   rintro kq16 _ _ ⟨x13, x14, rfl, rfl, h⟩
   cases kq16 with
   | zero => rw [dfa_gapless_l3.eq_1] at h; cases h
   | succ kq16 =>
   rw [dfa_gapless_l3.eq_2] at h
   generalize hrec15 : dfa_gapless_l3 k p0 kq16 = rec15 at h
   refine AW.sr ?_
   refine AO.c (x := eBool (decide (x14 < (256 : Int)))) (Calm.int rfl rfl rfl rfl) ?_
   refine AO.nK [5, 12, 13, 14] ?_
   refine AW.seq ?_
   rcases of_ite h with ⟨hc17, h⟩ | ⟨hc17, h⟩
   ·refine AW.condP _ rfl hc17 ?_
    refine AW.sK [5, 12, 13] ?_
    refine AW.seq ?_
    refine AW.block ?_
    refine AW.sr ?_
    obtain ⟨hg18, h⟩ := of_guard h
    refine AO.c (x := eU8 (vget p0 x14)) (Calm.idxVv (f := eU8) rfl rfl rfl hg18 Try.underlying27 sz5 ag5 rfl) ?_
    refine AO.c (Calm.assign rfl rfl) ?_
    refine AO.nK [5, 7, 12, 13] ?_
    refine AW.reg ?_
    refine AO.c (Calm.move rfl rfl) ?_
    refine AO.c (Calm.move rfl rfl) ?_
    obtain ⟨hg19, h⟩ := of_guard h
    refine AO.c (Calm.idxO 0 rfl rfl rfl rfl hg19 Try.underlying49 sz4) ?_
    refine AO.store (X' := (.ar 1 ((lset x13 (vget p0 x14) true).map eBool))) 0 rfl rfl rfl rfl rfl rfl (Put.cast (Put.lidx (vget p0 x14) true hg19.1 hg19.2 Put.here) (by omega)) rfl rfl sz4 rfl ?_
    refine AO.coe 5 (y' := (.own n4 0 (lset x13 (vget p0 x14) true).length)) rfl (fun _ _ h => lset_own h) ?_
    refine AO.coe 16 (y' := (.own n4 0 (lset x13 (vget p0 x14) true).length)) rfl (fun _ _ h => lset_own h) ?_
    refine AO.nK [5, 12, 13] ?_
    refine AW.reg ?_
    refine AO.c (x := eI64 (w64 (x14 + (1 : Int)))) (Calm.int rfl rfl rfl rfl) ?_
    refine AO.c (Calm.move rfl rfl) ?_
    refine AO.nK [5, 12, 13] ?_
    exact ⟨kq16, Nat.lt_succ_self _, (lset x13 (vget p0 x14) true), (w64 (x14 + (1 : Int))), rfl, rfl, by rw [hrec15]; exact h⟩
   ·refine AW.condN _ rfl hc17 ?_
    refine AW.eK [5] ?_
    exact ⟨x13, rfl, rfl, h⟩
  ·rintro _ _ ⟨x6, rfl, rfl, h⟩
   rw [dfa_gapless_c2.eq_1] at h
   refine AW.seq_mid (fun ρ H => ρ = [] ∧ H = [] ∧ dfa_gapless_c0 k = some r) ?_ ?_
   ·refine AW.sr ?_
    refine AO.c (Calm.move rfl rfl) ?_
    refine AO.c (Calm.lenOwn rfl rfl Try.underlying49) ?_
    refine AO.c (Calm.move rfl rfl) ?_
    refine AO.nK [20, 21, 22] ?_
    refine AW.block ?_
    refine AW.wK [20, 21, 22] ?_
    refine AW.loop (fun kq ρ H => ∃ (x7 : Int), ρ = [(20, (.own n4 0 x6.length)), (21, (eI64 (x6.length : Int))), (22, (eI64 x7))] ∧ H = [(n4, (.mem (.ar 1 (x6.map eBool))))] ∧ dfa_gapless_l1 k x6 kq x7 = some r) k ⟨(0 : Int), rfl, rfl, h⟩ ?_
    rintro kq9 _ _ ⟨x7, rfl, rfl, h⟩
    cases kq9 with
    | zero => rw [dfa_gapless_l1.eq_1] at h; cases h
    | succ kq9 =>
    rw [dfa_gapless_l1.eq_2] at h
    generalize hrec8 : dfa_gapless_l1 k x6 kq9 = rec8 at h
    refine AW.sr ?_
    refine AO.c (x := eBool (decide (x7 < (x6.length : Int)))) (Calm.int rfl rfl rfl rfl) ?_
    refine AO.nK [20, 21, 22, 23] ?_
    refine AW.seq ?_
    rcases of_ite h with ⟨hc10, h⟩ | ⟨hc10, h⟩
    ·refine AW.condP _ rfl hc10 ?_
     refine AW.sK [20, 21, 22] ?_
     refine AW.seq ?_
     refine AW.block ?_
     refine AW.sr ?_
     obtain ⟨hg11, h⟩ := of_guard h
     refine AO.c (Calm.idxO 0 rfl rfl rfl rfl hg11 Try.underlying49 sz4) ?_
     refine AO.c (Calm.load 0 rfl rfl rfl (At.cast (At.lidx x7 hg11.1 hg11.2 At.here) (by omega)) ag4 sz4) ?_
     refine AO.c (Calm.assign rfl rfl) ?_
     refine AO.nK [9, 20, 21, 22] ?_
     refine AW.sr ?_
     refine AO.c (Calm.move rfl rfl) ?_
     refine AO.c (Calm.not rfl rfl) ?_
     refine AO.nK [20, 21, 22, 27] ?_
     rcases of_ite h with ⟨hc12, h⟩ | ⟨hc12, h⟩
     ·refine AW.condT' _ rfl hc12 ?_
      refine AW.sr ?_
      refine AO.c (Calm.assign rfl rfl) ?_
      refine AO.nH [4] (H' := []) (Sub.nil _) ?_
      refine AW.rK [4] ?_
      have hr := Option.some.inj h
      subst hr
      exact ⟨[(eBool false)], ⟨rfl, rfl, trivial⟩, rfl⟩
     ·refine AW.condF' _ rfl hc12 ?_
      refine AW.sK [20, 21, 22] ?_
      refine AW.reg ?_
      refine AO.c (x := eI64 (w64 (x7 + (1 : Int)))) (Calm.int rfl rfl rfl rfl) ?_
      refine AO.c (Calm.move rfl rfl) ?_
      refine AO.nK [20, 21, 22] ?_
      exact ⟨kq9, Nat.lt_succ_self _, (w64 (x7 + (1 : Int))), rfl, rfl, by rw [hrec8]; exact h⟩
    ·refine AW.condN _ rfl hc10 ?_
     refine AW.eH [] (H' := []) (Sub.nil _) ?_
     exact ⟨rfl, rfl, h⟩
   ·rintro _ _ ⟨rfl, rfl, h⟩
    rw [dfa_gapless_c0.eq_1] at h
    refine AW.sr ?_
    refine AO.c (Calm.assign rfl rfl) ?_
    refine AO.nK [4] ?_
    refine AW.rK [4] ?_
    have hr := Option.some.inj h
    subst hr
    exact ⟨[(eBool true)], ⟨rfl, rfl, trivial⟩, rfl⟩
end Go.Avl.T5
/- bosket/dfa.Right; printed by avmain.py. -/
namespace Go.Avl.T5
open Go Go.RowKit Go.Proofs Go.Avl
set_option linter.unusedVariables false
set_option maxRecDepth 100000
set_option maxHeartbeats 4000000
attribute [local irreducible] AW AO AQ Spec SpecH Calm

def dfa_Right_c0 (k : Nat) : Option Bool :=
  some (true)
def dfa_Right_c1 (k : Nat) (rec12 : (Int → Option Bool)) (x11 : Int) : Option Bool :=
  rec12 (w64 (x11 + (1 : Int)))
def dfa_Right_l2 (k : Nat) (rec12 : (Int → Option Bool)) (p0 : S30) (x11 : Int) : Nat → Int → Option Bool
  | 0, _ => none
  | j + 1, x23 =>
    if x23 < ((lget p0.f1 x11).length : Int) then if 0 ≤ x23 ∧ x23 < ((lget p0.f1 x11).length : Int) then Option.bind (α := Bool) (if (lget (lget p0.f1 x11) x23) < (-1 : Int) then some (true)
    else some (decide ((p0.f1.length : Int) ≤ (lget (lget p0.f1 x11) x23)))) fun b28 =>
    if b28 = true then some (false)
    else (dfa_Right_l2 k rec12 p0 x11 j) (w64 (x23 + (1 : Int)))
    else none
    else dfa_Right_c1 k rec12 x11
def dfa_Right_l3 (k : Nat) (p0 : S30) (t8 : Int) : Nat → Int → Option Bool
  | 0, _ => none
  | j + 1, x11 =>
    if x11 < (p0.f1.length : Int) then if 0 ≤ x11 ∧ x11 < (p0.f1.length : Int) then Option.bind (α := Bool) (if ((lget p0.f1 x11).length : Int) ≠ t8 then some (true)
    else if 0 ≤ x11 ∧ x11 < (p0.f2.length : Int) then if (lget p0.f2 x11) < (-1 : Int) then some (true)
    else if 0 ≤ x11 ∧ x11 < (p0.f2.length : Int) then some (decide ((32768 : Int) ≤ (lget p0.f2 x11)))
    else none
    else none) fun b16 =>
    if b16 = true then some (false)
    else dfa_Right_l2 k (dfa_Right_l3 k p0 t8 j) p0 x11 k (0 : Int)
    else none
    else dfa_Right_c0 k
def dfa_Right (k : Nat) (p0 : S30) : Option Bool :=
  Option.bind (α := Bool) (if (p0.f1.length : Int) = (0 : Int) then some (true)
  else if (32768 : Int) < (p0.f1.length : Int) then some (true)
  else some (decide ((p0.f2.length : Int) ≠ (p0.f1.length : Int)))) fun b3 =>
  if b3 = true then some (false)
  else (byteset_Count k p0.f0).bind fun t8 =>
  (dfa_gapless k p0.f0 t8).bind fun t9 =>
  if (!t9) = true then some (false)
  else dfa_Right_l3 k p0 t8 k (0 : Int)
theorem dfa_Right_spec {k : Nat} {p0 : S30} {r : Bool} (h : dfa_Right k p0 = some r) : Spec Try.prog 64 [(e30 p0)] (eBool r) := by
  rw [dfa_Right.eq_1] at h
  refine Spec.intro (res := [.tmp 2]) Try.func64 rfl rfl rfl (Nat.le_of_ble_eq_true rfl) ?_
  refine AW.sr ?_
  refine AO.box rfl 1 rfl (by decide) rfl rfl rfl fun n2 => ?_
  refine AO.c (Calm.assign rfl rfl) ?_
  refine AO.nK [1] ?_
  refine AW.sr ?_
  refine AO.c (x := .ptr n2 256) (Calm.fldPtr rfl rfl Try.underlying30 rfl sz28 _ rfl) ?_
  refine AO.c (Calm.load 0 rfl rfl rfl (At.cast (At.fldS (At.fld0 At.here)) rfl) ag28 sz28) ?_
  refine AO.c (Calm.lenL rfl rfl Try.underlying28) ?_
  refine AO.c (Calm.assign rfl rfl) ?_
  refine AO.nK [1, 3] ?_
  refine AW.seq ?_
  refine AW.seq ?_
  obtain ⟨b3, hq4, h⟩ := of_bind h
  refine AW.regM [(1, (.ptr n2 0)), (3, (eI64 (p0.f1.length : Int))), (24, (eBool b3))] [(n2, (.mem (e30 p0)))] ?_ ?_
  ·refine AO.c (Calm.move rfl rfl) ?_
   refine AO.c (x := eBool (decide ((p0.f1.length : Int) = (0 : Int)))) (Calm.int rfl rfl rfl rfl) ?_
   refine AO.c (Calm.move rfl rfl) ?_
   rcases of_ite hq4 with ⟨hc5, hq4⟩ | ⟨hc5, hq4⟩
   ·refine AO.sF rfl rfl (bD (decide_eq_true hc5)) ?_
    refine AO.sF rfl rfl (bD (decide_eq_true hc5)) ?_
    refine AO.c (Calm.pickT rfl (bD (decide_eq_true hc5)) rfl) ?_
    refine AO.c (Calm.move rfl rfl) ?_
    refine AO.sF rfl rfl rfl ?_
    refine AO.sF rfl rfl rfl ?_
    refine AO.sF rfl rfl rfl ?_
    refine AO.sF rfl rfl rfl ?_
    refine AO.sF rfl rfl rfl ?_
    refine AO.c (Calm.pickT rfl rfl rfl) ?_
    cases hq4
    refine AO.nilE ⟨rfl, rfl⟩ ?_ ?_
    · exact ⟨rfl, rfl, rfl, trivial⟩
    · exact (Sub.refl _)
   ·refine AO.cG rfl rfl (bD (decide_eq_false hc5)) (Calm.move rfl rfl) ?_
    refine AO.cG (x := eBool (decide ((32768 : Int) < (p0.f1.length : Int)))) rfl rfl (bD (decide_eq_false hc5)) (Calm.int rfl rfl rfl rfl) ?_
    refine AO.c (Calm.pickF rfl (bD (decide_eq_false hc5)) rfl) ?_
    refine AO.c (Calm.move rfl rfl) ?_
    rcases of_ite hq4 with ⟨hc6, hq4⟩ | ⟨hc6, hq4⟩
    ·refine AO.sF rfl rfl (bD (decide_eq_true hc6)) ?_
     refine AO.sF rfl rfl (bD (decide_eq_true hc6)) ?_
     refine AO.sF rfl rfl (bD (decide_eq_true hc6)) ?_
     refine AO.sF rfl rfl (bD (decide_eq_true hc6)) ?_
     refine AO.sF rfl rfl (bD (decide_eq_true hc6)) ?_
     refine AO.c (Calm.pickT rfl (bD (decide_eq_true hc6)) rfl) ?_
     cases hq4
     refine AO.nilE ⟨rfl, rfl⟩ ?_ ?_
     · exact ⟨rfl, rfl, rfl, trivial⟩
     · exact (Sub.refl _)
    ·refine AO.cG (x := .ptr n2 257) rfl rfl (bD (decide_eq_false hc6)) (Calm.fldPtr rfl rfl Try.underlying30 rfl sz25 _ rfl) ?_
     refine AO.cG rfl rfl (bD (decide_eq_false hc6)) (Calm.load 0 rfl rfl rfl (At.cast (At.fldS (At.fldS (At.fld0 At.here))) rfl) ag25 sz25) ?_
     refine AO.cG rfl rfl (bD (decide_eq_false hc6)) (Calm.lenL rfl rfl Try.underlying25) ?_
     refine AO.cG rfl rfl (bD (decide_eq_false hc6)) (Calm.move rfl rfl) ?_
     refine AO.cG (x := eBool (decide ((p0.f2.length : Int) ≠ (p0.f1.length : Int)))) rfl rfl (bD (decide_eq_false hc6)) (Calm.int rfl rfl rfl rfl) ?_
     refine AO.c (Calm.pickF rfl (bD (decide_eq_false hc6)) rfl) ?_
     cases hq4
     refine AO.nilE ⟨rfl, rfl⟩ ?_ ?_
     · exact ⟨rfl, rfl, rfl, trivial⟩
     · exact (Sub.refl _)
  ·rcases of_ite h with ⟨hc7, h⟩ | ⟨hc7, h⟩
   ·refine AW.condT' _ rfl hc7 ?_
    refine AW.sr ?_
    refine AO.c (Calm.assign rfl rfl) ?_
    refine AO.nH [2] (H' := []) (Sub.nil _) ?_
    refine AW.rK [2] ?_
    have hr := Option.some.inj h
    subst hr
    exact ⟨[(eBool false)], ⟨rfl, rfl, trivial⟩, rfl⟩
   ·refine AW.condF' _ rfl hc7 ?_
    refine AW.sK [1, 3] ?_
    refine AW.sr ?_
    refine AO.c (x := .ptr n2 0) (Calm.fldPtr rfl rfl Try.underlying30 rfl sz27 _ rfl) ?_
    refine AO.c (Calm.load 0 rfl rfl rfl (At.cast (At.fld0 At.here) rfl) ag27 (by rw [sz27]; simp [AV.size])) ?_
    obtain ⟨t8, et8, h⟩ := of_bind h
    refine AO.callS [(.ar 1 (p0.f0.toList.map eU8))] (eI64 t8) 27 rfl (by decide) ok90 rfl rfl rfl ⟨rfl, rfl, trivial⟩ (byteset_Count_spec et8) ?_
    refine AO.c (Calm.assign rfl rfl) ?_
    refine AO.nK [1, 3, 4] ?_
    refine AW.seq ?_
    refine AW.sr ?_
    refine AO.c (x := .ptr n2 0) (Calm.fldPtr rfl rfl Try.underlying30 rfl sz27 _ rfl) ?_
    refine AO.c (Calm.load 0 rfl rfl rfl (At.cast (At.fld0 At.here) rfl) ag27 (by rw [sz27]; simp [AV.size])) ?_
    refine AO.c (Calm.move rfl rfl) ?_
    obtain ⟨t9, et9, h⟩ := of_bind h
    refine AO.callS [(.ar 1 (p0.f0.toList.map eU8)), (eI64 t8)] (eBool t9) 31 rfl (by decide) ok91 rfl rfl rfl ⟨rfl, rfl, rfl, rfl, trivial⟩ (dfa_gapless_spec et9) ?_
    refine AO.c (Calm.not rfl rfl) ?_
    refine AO.nK [1, 3, 4, 32] ?_
    rcases of_ite h with ⟨hc10, h⟩ | ⟨hc10, h⟩
    ·refine AW.condT' _ rfl hc10 ?_
     refine AW.sr ?_
     refine AO.c (Calm.assign rfl rfl) ?_
     refine AO.nH [2] (H' := []) (Sub.nil _) ?_
     refine AW.rK [2] ?_
     have hr := Option.some.inj h
     subst hr
     exact ⟨[(eBool false)], ⟨rfl, rfl, trivial⟩, rfl⟩
    ·refine AW.condF' _ rfl hc10 ?_
     refine AW.sK [1, 3, 4] ?_
     refine AW.seq_mid (fun ρ H => ρ = [] ∧ H = [] ∧ dfa_Right_c0 k = some r) ?_ ?_
     ·refine AW.sr ?_
      refine AO.c (x := .ptr n2 256) (Calm.fldPtr rfl rfl Try.underlying30 rfl sz28 _ rfl) ?_
      refine AO.c (Calm.load 0 rfl rfl rfl (At.cast (At.fldS (At.fld0 At.here)) rfl) ag28 sz28) ?_
      refine AO.c (Calm.lenL rfl rfl Try.underlying28) ?_
      refine AO.c (Calm.move rfl rfl) ?_
      refine AO.nK [1, 3, 4, 34, 35, 36] ?_
      refine AW.block ?_
      refine AW.wK [1, 3, 4, 34, 35, 36] ?_
      refine AW.loop (fun kq ρ H => ∃ (x11 : Int), ρ = [(1, (.ptr n2 0)), (3, (eI64 (p0.f1.length : Int))), (4, (eI64 t8)), (34, (.fz 1 (p0.f1.map e25))), (35, (eI64 (p0.f1.length : Int))), (36, (eI64 x11))] ∧ H = [(n2, (.mem (e30 p0)))] ∧ dfa_Right_l3 k p0 t8 kq x11 = some r) k ⟨(0 : Int), rfl, rfl, h⟩ ?_
      rintro kq13 _ _ ⟨x11, rfl, rfl, h⟩
      cases kq13 with
      | zero => rw [dfa_Right_l3.eq_1] at h; cases h
      | succ kq13 =>
      rw [dfa_Right_l3.eq_2] at h
      generalize hrec12 : dfa_Right_l3 k p0 t8 kq13 = rec12 at h
      refine AW.sr ?_
      refine AO.c (x := eBool (decide (x11 < (p0.f1.length : Int)))) (Calm.int rfl rfl rfl rfl) ?_
      refine AO.nK [1, 3, 4, 34, 35, 36, 37] ?_
      refine AW.seq ?_
      rcases of_ite h with ⟨hc14, h⟩ | ⟨hc14, h⟩
      ·refine AW.condP _ rfl hc14 ?_
       refine AW.sK [1, 3, 4, 34, 35, 36] ?_
       refine AW.seq_mid (fun ρ H => ρ = [(1, (.ptr n2 0)), (3, (eI64 (p0.f1.length : Int))), (4, (eI64 t8)), (34, (.fz 1 (p0.f1.map e25))), (35, (eI64 (p0.f1.length : Int))), (36, (eI64 x11))] ∧ H = [(n2, (.mem (e30 p0)))] ∧ dfa_Right_c1 k rec12 x11 = some r) ?_ ?_
       ·refine AW.block ?_
        refine AW.sr ?_
        refine AO.c (Calm.move rfl rfl) ?_
        obtain ⟨hg15, h⟩ := of_guard h
        refine AO.c (Calm.idxL (f := e25) rfl rfl rfl hg15 Try.underlying28 sz25) ?_
        refine AO.c (Calm.loadRp rfl rfl ag25 sz25) ?_
        refine AO.c (Calm.assign rfl rfl) ?_
        refine AO.c (Calm.assign rfl rfl) ?_
        refine AO.nK [1, 3, 4, 5, 6, 34, 35, 36] ?_
        refine AW.seq ?_
        refine AW.seq ?_
        obtain ⟨b16, hq17, h⟩ := of_bind h
        refine AW.regM [(1, (.ptr n2 0)), (3, (eI64 (p0.f1.length : Int))), (4, (eI64 t8)), (6, (.fz 1 ((lget p0.f1 x11).map eI64))), (34, (.fz 1 (p0.f1.map e25))), (35, (eI64 (p0.f1.length : Int))), (36, (eI64 x11)), (60, (eBool b16))] [(n2, (.mem (e30 p0)))] ?_ ?_
        ·refine AO.c (Calm.move rfl rfl) ?_
         refine AO.c (Calm.lenL rfl rfl Try.underlying25) ?_
         refine AO.c (Calm.move rfl rfl) ?_
         refine AO.c (x := eBool (decide (((lget p0.f1 x11).length : Int) ≠ t8))) (Calm.int rfl rfl rfl rfl) ?_
         refine AO.c (Calm.move rfl rfl) ?_
         rcases of_ite hq17 with ⟨hc18, hq17⟩ | ⟨hc18, hq17⟩
         ·refine AO.sF rfl rfl (bD (decide_eq_true hc18)) ?_
          refine AO.sF rfl rfl (bD (decide_eq_true hc18)) ?_
          refine AO.sF rfl rfl (bD (decide_eq_true hc18)) ?_
          refine AO.sF rfl rfl (bD (decide_eq_true hc18)) ?_
          refine AO.sF rfl rfl (bD (decide_eq_true hc18)) ?_
          refine AO.sF rfl rfl (bD (decide_eq_true hc18)) ?_
          refine AO.c (Calm.pickT rfl (bD (decide_eq_true hc18)) rfl) ?_
          refine AO.c (Calm.move rfl rfl) ?_
          refine AO.sF rfl rfl rfl ?_
          refine AO.sF rfl rfl rfl ?_
          refine AO.sF rfl rfl rfl ?_
          refine AO.sF rfl rfl rfl ?_
          refine AO.sF rfl rfl rfl ?_
          refine AO.sF rfl rfl rfl ?_
          refine AO.c (Calm.pickT rfl rfl rfl) ?_
          cases hq17
          refine AO.nilE ⟨rfl, rfl⟩ ?_ ?_
          · exact ⟨rfl, rfl, rfl, rfl, rfl, rfl, rfl, rfl, trivial⟩
          · exact (Sub.refl _)
         ·refine AO.cG (x := .ptr n2 257) rfl rfl (bD (decide_eq_false hc18)) (Calm.fldPtr rfl rfl Try.underlying30 rfl sz25 _ rfl) ?_
          refine AO.cG rfl rfl (bD (decide_eq_false hc18)) (Calm.load 0 rfl rfl rfl (At.cast (At.fldS (At.fldS (At.fld0 At.here))) rfl) ag25 sz25) ?_
          refine AO.cG rfl rfl (bD (decide_eq_false hc18)) (Calm.move rfl rfl) ?_
          obtain ⟨hg19, hq17⟩ := of_guard hq17
          refine AO.cG rfl rfl (bD (decide_eq_false hc18)) (Calm.idxL (f := eI64) rfl rfl rfl hg19 Try.underlying25 sz3) ?_
          refine AO.cG rfl rfl (bD (decide_eq_false hc18)) (Calm.loadRp rfl rfl ag3 sz3) ?_
          refine AO.cG (x := eBool (decide ((lget p0.f2 x11) < (-1 : Int)))) rfl rfl (bD (decide_eq_false hc18)) (Calm.int rfl rfl rfl rfl) ?_
          refine AO.c (Calm.pickF rfl (bD (decide_eq_false hc18)) rfl) ?_
          refine AO.c (Calm.move rfl rfl) ?_
          rcases of_ite hq17 with ⟨hc20, hq17⟩ | ⟨hc20, hq17⟩
          ·refine AO.sF rfl rfl (bD (decide_eq_true hc20)) ?_
           refine AO.sF rfl rfl (bD (decide_eq_true hc20)) ?_
           refine AO.sF rfl rfl (bD (decide_eq_true hc20)) ?_
           refine AO.sF rfl rfl (bD (decide_eq_true hc20)) ?_
           refine AO.sF rfl rfl (bD (decide_eq_true hc20)) ?_
           refine AO.sF rfl rfl (bD (decide_eq_true hc20)) ?_
           refine AO.c (Calm.pickT rfl (bD (decide_eq_true hc20)) rfl) ?_
           cases hq17
           refine AO.nilE ⟨rfl, rfl⟩ ?_ ?_
           · exact ⟨rfl, rfl, rfl, rfl, rfl, rfl, rfl, rfl, trivial⟩
           · exact (Sub.refl _)
          ·refine AO.cG (x := .ptr n2 257) rfl rfl (bD (decide_eq_false hc20)) (Calm.fldPtr rfl rfl Try.underlying30 rfl sz25 _ rfl) ?_
           refine AO.cG rfl rfl (bD (decide_eq_false hc20)) (Calm.load 0 rfl rfl rfl (At.cast (At.fldS (At.fldS (At.fld0 At.here))) rfl) ag25 sz25) ?_
           refine AO.cG rfl rfl (bD (decide_eq_false hc20)) (Calm.move rfl rfl) ?_
           obtain ⟨hg21, hq17⟩ := of_guard hq17
           refine AO.cG rfl rfl (bD (decide_eq_false hc20)) (Calm.idxL (f := eI64) rfl rfl rfl hg21 Try.underlying25 sz3) ?_
           refine AO.cG rfl rfl (bD (decide_eq_false hc20)) (Calm.loadRp rfl rfl ag3 sz3) ?_
           refine AO.cG (x := eBool (decide ((32768 : Int) ≤ (lget p0.f2 x11)))) rfl rfl (bD (decide_eq_false hc20)) (Calm.int rfl rfl rfl rfl) ?_
           refine AO.c (Calm.pickF rfl (bD (decide_eq_false hc20)) rfl) ?_
           cases hq17
           refine AO.nilE ⟨rfl, rfl⟩ ?_ ?_
           · exact ⟨rfl, rfl, rfl, rfl, rfl, rfl, rfl, rfl, trivial⟩
           · exact (Sub.refl _)
        ·rcases of_ite h with ⟨hc22, h⟩ | ⟨hc22, h⟩
         ·refine AW.condT' _ rfl hc22 ?_
          refine AW.sr ?_
          refine AO.c (Calm.assign rfl rfl) ?_
          refine AO.nH [2] (H' := []) (Sub.nil _) ?_
          refine AW.rK [2] ?_
          have hr := Option.some.inj h
          subst hr
          exact ⟨[(eBool false)], ⟨rfl, rfl, trivial⟩, rfl⟩
         ·refine AW.condF' _ rfl hc22 ?_
          refine AW.sK [1, 3, 4, 6, 34, 35, 36] ?_
          refine AW.sr ?_
          refine AO.c (Calm.move rfl rfl) ?_
          refine AO.c (Calm.lenL rfl rfl Try.underlying25) ?_
          refine AO.c (Calm.move rfl rfl) ?_
          refine AO.nK [1, 3, 4, 34, 35, 36, 61, 62, 63] ?_
          refine AW.block ?_
          refine AW.wK [1, 3, 4, 34, 35, 36, 61, 62, 63] ?_
          refine AW.loop (fun kq ρ H => ∃ (x23 : Int), ρ = [(1, (.ptr n2 0)), (3, (eI64 (p0.f1.length : Int))), (4, (eI64 t8)), (34, (.fz 1 (p0.f1.map e25))), (35, (eI64 (p0.f1.length : Int))), (36, (eI64 x11)), (61, (.fz 1 ((lget p0.f1 x11).map eI64))), (62, (eI64 ((lget p0.f1 x11).length : Int))), (63, (eI64 x23))] ∧ H = [(n2, (.mem (e30 p0)))] ∧ dfa_Right_l2 k rec12 p0 x11 kq x23 = some r) k ⟨(0 : Int), rfl, rfl, h⟩ ?_
          rintro kq25 _ _ ⟨x23, rfl, rfl, h⟩
          cases kq25 with
          | zero => rw [dfa_Right_l2.eq_1] at h; cases h
          | succ kq25 =>
          rw [dfa_Right_l2.eq_2] at h
          generalize hrec24 : dfa_Right_l2 k rec12 p0 x11 kq25 = rec24 at h
          refine AW.sr ?_
          refine AO.c (x := eBool (decide (x23 < ((lget p0.f1 x11).length : Int)))) (Calm.int rfl rfl rfl rfl) ?_
          refine AO.nK [1, 3, 4, 34, 35, 36, 61, 62, 63, 64] ?_
          refine AW.seq ?_
          rcases of_ite h with ⟨hc26, h⟩ | ⟨hc26, h⟩
          ·refine AW.condP _ rfl hc26 ?_
           refine AW.sK [1, 3, 4, 34, 35, 36, 61, 62, 63] ?_
           refine AW.seq ?_
           refine AW.block ?_
           refine AW.sr ?_
           obtain ⟨hg27, h⟩ := of_guard h
           refine AO.c (Calm.idxL (f := eI64) rfl rfl rfl hg27 Try.underlying25 sz3) ?_
           refine AO.c (Calm.loadRp rfl rfl ag3 sz3) ?_
           refine AO.c (Calm.assign rfl rfl) ?_
           refine AO.nK [1, 3, 4, 8, 34, 35, 36, 61, 62, 63] ?_
           refine AW.seq ?_
           obtain ⟨b28, hq29, h⟩ := of_bind h
           refine AW.regM [(1, (.ptr n2 0)), (3, (eI64 (p0.f1.length : Int))), (4, (eI64 t8)), (34, (.fz 1 (p0.f1.map e25))), (35, (eI64 (p0.f1.length : Int))), (36, (eI64 x11)), (61, (.fz 1 ((lget p0.f1 x11).map eI64))), (62, (eI64 ((lget p0.f1 x11).length : Int))), (63, (eI64 x23)), (73, (eBool b28))] [(n2, (.mem (e30 p0)))] ?_ ?_
           ·refine AO.c (Calm.move rfl rfl) ?_
            refine AO.c (x := eBool (decide ((lget (lget p0.f1 x11) x23) < (-1 : Int)))) (Calm.int rfl rfl rfl rfl) ?_
            refine AO.c (Calm.move rfl rfl) ?_
            rcases of_ite hq29 with ⟨hc30, hq29⟩ | ⟨hc30, hq29⟩
            ·refine AO.sF rfl rfl (bD (decide_eq_true hc30)) ?_
             refine AO.sF rfl rfl (bD (decide_eq_true hc30)) ?_
             refine AO.sF rfl rfl (bD (decide_eq_true hc30)) ?_
             refine AO.c (Calm.pickT rfl (bD (decide_eq_true hc30)) rfl) ?_
             cases hq29
             refine AO.nilE ⟨rfl, rfl⟩ ?_ ?_
             · exact ⟨rfl, rfl, rfl, rfl, rfl, rfl, rfl, rfl, rfl, rfl, trivial⟩
             · exact (Sub.refl _)
            ·refine AO.cG rfl rfl (bD (decide_eq_false hc30)) (Calm.move rfl rfl) ?_
             refine AO.cG rfl rfl (bD (decide_eq_false hc30)) (Calm.move rfl rfl) ?_
             refine AO.cG (x := eBool (decide ((p0.f1.length : Int) ≤ (lget (lget p0.f1 x11) x23)))) rfl rfl (bD (decide_eq_false hc30)) (Calm.int rfl rfl rfl rfl) ?_
             refine AO.c (Calm.pickF rfl (bD (decide_eq_false hc30)) rfl) ?_
             cases hq29
             refine AO.nilE ⟨rfl, rfl⟩ ?_ ?_
             · exact ⟨rfl, rfl, rfl, rfl, rfl, rfl, rfl, rfl, rfl, rfl, trivial⟩
             · exact (Sub.refl _)
           ·rcases of_ite h with ⟨hc31, h⟩ | ⟨hc31, h⟩
            ·refine AW.condT' _ rfl hc31 ?_
             refine AW.sr ?_
             refine AO.c (Calm.assign rfl rfl) ?_
             refine AO.nH [2] (H' := []) (Sub.nil _) ?_
             refine AW.rK [2] ?_
             have hr := Option.some.inj h
             subst hr
             exact ⟨[(eBool false)], ⟨rfl, rfl, trivial⟩, rfl⟩
            ·refine AW.condF' _ rfl hc31 ?_
             refine AW.sK [1, 3, 4, 34, 35, 36, 61, 62, 63] ?_
             refine AW.reg ?_
             refine AO.c (x := eI64 (w64 (x23 + (1 : Int)))) (Calm.int rfl rfl rfl rfl) ?_
             refine AO.c (Calm.move rfl rfl) ?_
             refine AO.nK [1, 3, 4, 34, 35, 36, 61, 62, 63] ?_
             exact ⟨kq25, Nat.lt_succ_self _, (w64 (x23 + (1 : Int))), rfl, rfl, by rw [hrec24]; exact h⟩
          ·refine AW.condN _ rfl hc26 ?_
           refine AW.eK [1, 3, 4, 34, 35, 36] ?_
           exact ⟨rfl, rfl, h⟩
       ·rintro _ _ ⟨rfl, rfl, h⟩
        rw [dfa_Right_c1.eq_1] at h
        refine AW.reg ?_
        refine AO.c (x := eI64 (w64 (x11 + (1 : Int)))) (Calm.int rfl rfl rfl rfl) ?_
        refine AO.c (Calm.move rfl rfl) ?_
        refine AO.nK [1, 3, 4, 34, 35, 36] ?_
        exact ⟨kq13, Nat.lt_succ_self _, (w64 (x11 + (1 : Int))), rfl, rfl, by rw [hrec12]; exact h⟩
      ·refine AW.condN _ rfl hc14 ?_
       refine AW.eH [] (H' := []) (Sub.nil _) ?_
       exact ⟨rfl, rfl, h⟩
     ·rintro _ _ ⟨rfl, rfl, h⟩
      rw [dfa_Right_c0.eq_1] at h
      refine AW.sr ?_
      refine AO.c (Calm.assign rfl rfl) ?_
      refine AO.nK [2] ?_
      refine AW.rK [2] ?_
      have hr := Option.some.inj h
      subst hr
      exact ⟨[(eBool true)], ⟨rfl, rfl, trivial⟩, rfl⟩
end Go.Avl.T5
/- bosket/dfa.Mark; printed by avmain.py. -/
namespace Go.Avl.T5
open Go Go.RowKit Go.Proofs Go.Avl
set_option linter.unusedVariables false
set_option maxRecDepth 100000
set_option maxHeartbeats 4000000
attribute [local irreducible] AW AO AQ Spec SpecH Calm

def dfa_Mark (k : Nat) (p0 : S30) (p1 : Int) : Option Int :=
  Option.bind (α := Bool) (if p1 < (0 : Int) then some (true)
  else some (decide ((p0.f2.length : Int) ≤ p1))) fun b4 =>
  if b4 = true then some ((-1 : Int))
  else if 0 ≤ p1 ∧ p1 < (p0.f2.length : Int) then some ((lget p0.f2 p1))
  else none
theorem dfa_Mark_spec {k : Nat} {p0 : S30} {p1 : Int} {r : Int} (h : dfa_Mark k p0 p1 = some r) : Spec Try.prog 85 [(e30 p0), (eI64 p1)] (eI64 r) := by
  rw [dfa_Mark.eq_1] at h
  refine Spec.intro (res := [.tmp 4]) Try.func85 rfl rfl rfl (Nat.le_of_ble_eq_true rfl) ?_
  refine AW.sr ?_
  refine AO.box rfl 2 rfl (by decide) rfl rfl rfl fun n3 => ?_
  refine AO.c (Calm.assign rfl rfl) ?_
  refine AO.nK [1, 2] ?_
  refine AW.seq ?_
  refine AW.seq ?_
  obtain ⟨b4, hq5, h⟩ := of_bind h
  refine AW.regM [(1, (eI64 p1)), (2, (.ptr n3 0)), (13, (eBool b4))] [(n3, (.mem (e30 p0)))] ?_ ?_
  ·refine AO.c (Calm.move rfl rfl) ?_
   refine AO.c (x := eBool (decide (p1 < (0 : Int)))) (Calm.int rfl rfl rfl rfl) ?_
   refine AO.c (Calm.move rfl rfl) ?_
   rcases of_ite hq5 with ⟨hc6, hq5⟩ | ⟨hc6, hq5⟩
   ·refine AO.sF rfl rfl (bD (decide_eq_true hc6)) ?_
    refine AO.sF rfl rfl (bD (decide_eq_true hc6)) ?_
    refine AO.sF rfl rfl (bD (decide_eq_true hc6)) ?_
    refine AO.sF rfl rfl (bD (decide_eq_true hc6)) ?_
    refine AO.sF rfl rfl (bD (decide_eq_true hc6)) ?_
    refine AO.c (Calm.pickT rfl (bD (decide_eq_true hc6)) rfl) ?_
    cases hq5
    refine AO.nilE ⟨rfl, rfl⟩ ?_ ?_
    · exact ⟨rfl, rfl, rfl, trivial⟩
    · exact (Sub.refl _)
   ·refine AO.cG rfl rfl (bD (decide_eq_false hc6)) (Calm.move rfl rfl) ?_
    refine AO.cG (x := .ptr n3 257) rfl rfl (bD (decide_eq_false hc6)) (Calm.fldPtr rfl rfl Try.underlying30 rfl sz25 _ rfl) ?_
    refine AO.cG rfl rfl (bD (decide_eq_false hc6)) (Calm.load 0 rfl rfl rfl (At.cast (At.fldS (At.fldS (At.fld0 At.here))) rfl) ag25 sz25) ?_
    refine AO.cG rfl rfl (bD (decide_eq_false hc6)) (Calm.lenL rfl rfl Try.underlying25) ?_
    refine AO.cG (x := eBool (decide ((p0.f2.length : Int) ≤ p1))) rfl rfl (bD (decide_eq_false hc6)) (Calm.int rfl rfl rfl rfl) ?_
    refine AO.c (Calm.pickF rfl (bD (decide_eq_false hc6)) rfl) ?_
    cases hq5
    refine AO.nilE ⟨rfl, rfl⟩ ?_ ?_
    · exact ⟨rfl, rfl, rfl, trivial⟩
    · exact (Sub.refl _)
  ·rcases of_ite h with ⟨hc7, h⟩ | ⟨hc7, h⟩
   ·refine AW.condT' _ rfl hc7 ?_
    refine AW.sr ?_
    refine AO.c (Calm.assign rfl rfl) ?_
    refine AO.nH [4] (H' := []) (Sub.nil _) ?_
    refine AW.rK [4] ?_
    have hr := Option.some.inj h
    subst hr
    exact ⟨[(eI64 (-1 : Int))], ⟨rfl, rfl, trivial⟩, rfl⟩
   ·refine AW.condF' _ rfl hc7 ?_
    refine AW.sK [1, 2] ?_
    refine AW.sr ?_
    refine AO.c (x := .ptr n3 257) (Calm.fldPtr rfl rfl Try.underlying30 rfl sz25 _ rfl) ?_
    refine AO.c (Calm.load 0 rfl rfl rfl (At.cast (At.fldS (At.fldS (At.fld0 At.here))) rfl) ag25 sz25) ?_
    refine AO.c (Calm.move rfl rfl) ?_
    obtain ⟨hg8, h⟩ := of_guard h
    refine AO.c (Calm.idxL (f := eI64) rfl rfl rfl hg8 Try.underlying25 sz3) ?_
    refine AO.c (Calm.loadRp rfl rfl ag3 sz3) ?_
    refine AO.c (Calm.assign rfl rfl) ?_
    refine AO.nH [4] (H' := []) (Sub.nil _) ?_
    refine AW.rK [4] ?_
    have hr := Option.some.inj h
    subst hr
    exact ⟨[(eI64 (lget p0.f2 p1))], ⟨rfl, rfl, trivial⟩, rfl⟩
end Go.Avl.T5
/- bosket/dfa.Step; printed by avmain.py. -/
namespace Go.Avl.T5
open Go Go.RowKit Go.Proofs Go.Avl
set_option linter.unusedVariables false
set_option maxRecDepth 100000
set_option maxHeartbeats 4000000
attribute [local irreducible] AW AO AQ Spec SpecH Calm

def dfa_Step (k : Nat) (p0 : S30) (p1 : Int) (p2 : Int) : Option Int :=
  Option.bind (α := Bool) (if p1 < (0 : Int) then some (true)
  else if (p0.f1.length : Int) ≤ p1 then some (true)
  else if 0 ≤ p2 ∧ p2 < (256 : Int) then if 0 ≤ p1 ∧ p1 < (p0.f1.length : Int) then some (decide (((lget p0.f1 p1).length : Int) ≤ (w64 (vget p0.f0 p2))))
  else none
  else none) fun b5 =>
  if b5 = true then some ((-1 : Int))
  else if 0 ≤ p1 ∧ p1 < (p0.f1.length : Int) then if 0 ≤ p2 ∧ p2 < (256 : Int) then if 0 ≤ (vget p0.f0 p2) ∧ (vget p0.f0 p2) < ((lget p0.f1 p1).length : Int) then some ((lget (lget p0.f1 p1) (vget p0.f0 p2)))
  else none
  else none
  else none
theorem dfa_Step_spec {k : Nat} {p0 : S30} {p1 : Int} {p2 : Int} {r : Int} (h : dfa_Step k p0 p1 p2 = some r) : Spec Try.prog 97 [(e30 p0), (eI64 p1), (eU8 p2)] (eI64 r) := by
  rw [dfa_Step.eq_1] at h
  refine Spec.intro (res := [.tmp 6]) Try.func97 rfl rfl rfl (Nat.le_of_ble_eq_true rfl) ?_
  refine AW.sr ?_
  refine AO.box rfl 3 rfl (by decide) rfl rfl rfl fun n4 => ?_
  refine AO.c (Calm.assign rfl rfl) ?_
  refine AO.nK [1, 2, 3] ?_
  refine AW.seq ?_
  refine AW.seq ?_
  obtain ⟨b5, hq6, h⟩ := of_bind h
  refine AW.regQM (by rfl) (by decide +kernel) [(1, (eI64 p1)), (2, (eU8 p2)), (3, (.ptr n4 0)), (29, (eBool b5))] ?_ ?_
  ·refine AQ.c (Calm.move rfl rfl) ?_
   refine AQ.c (x := eBool (decide (p1 < (0 : Int)))) (Calm.int rfl rfl rfl rfl) ?_
   refine AQ.c (Calm.move rfl rfl) ?_
   rcases of_ite hq6 with ⟨hc7, hq6⟩ | ⟨hc7, hq6⟩
   ·refine AQ.sF rfl rfl (bD (decide_eq_true hc7)) ?_
    refine AQ.sF rfl rfl (bD (decide_eq_true hc7)) ?_
    refine AQ.sF rfl rfl (bD (decide_eq_true hc7)) ?_
    refine AQ.sF rfl rfl (bD (decide_eq_true hc7)) ?_
    refine AQ.sF rfl rfl (bD (decide_eq_true hc7)) ?_
    refine AQ.c (Calm.pickT rfl (bD (decide_eq_true hc7)) rfl) ?_
    refine AQ.c (Calm.move rfl rfl) ?_
    refine AQ.sF rfl rfl rfl ?_
    refine AQ.sF rfl rfl rfl ?_
    refine AQ.sF rfl rfl rfl ?_
    refine AQ.sF rfl rfl rfl ?_
    refine AQ.sF rfl rfl rfl ?_
    refine AQ.sF rfl rfl rfl ?_
    refine AQ.sF rfl rfl rfl ?_
    refine AQ.sF rfl rfl rfl ?_
    refine AQ.sF rfl rfl rfl ?_
    refine AQ.sF rfl rfl rfl ?_
    refine AQ.sF rfl rfl rfl ?_
    refine AQ.sF rfl rfl rfl ?_
    refine AQ.c (Calm.pickT rfl rfl rfl) ?_
    cases hq6
    refine AQ.nilE rfl ?_
    exact ⟨rfl, rfl, rfl, rfl, trivial⟩
   ·refine AQ.cG rfl rfl (bD (decide_eq_false hc7)) (Calm.move rfl rfl) ?_
    refine AQ.cG (x := .ptr n4 256) rfl rfl (bD (decide_eq_false hc7)) (Calm.fldPtr rfl rfl Try.underlying30 rfl sz28 _ rfl) ?_
    refine AQ.cG rfl rfl (bD (decide_eq_false hc7)) (Calm.load 0 rfl rfl rfl (At.cast (At.fldS (At.fld0 At.here)) rfl) ag28 sz28) ?_
    refine AQ.cG rfl rfl (bD (decide_eq_false hc7)) (Calm.lenL rfl rfl Try.underlying28) ?_
    refine AQ.cG (x := eBool (decide ((p0.f1.length : Int) ≤ p1))) rfl rfl (bD (decide_eq_false hc7)) (Calm.int rfl rfl rfl rfl) ?_
    refine AQ.c (Calm.pickF rfl (bD (decide_eq_false hc7)) rfl) ?_
    refine AQ.c (Calm.move rfl rfl) ?_
    rcases of_ite hq6 with ⟨hc8, hq6⟩ | ⟨hc8, hq6⟩
    ·refine AQ.sF rfl rfl (bD (decide_eq_true hc8)) ?_
     refine AQ.sF rfl rfl (bD (decide_eq_true hc8)) ?_
     refine AQ.sF rfl rfl (bD (decide_eq_true hc8)) ?_
     refine AQ.sF rfl rfl (bD (decide_eq_true hc8)) ?_
     refine AQ.sF rfl rfl (bD (decide_eq_true hc8)) ?_
     refine AQ.sF rfl rfl (bD (decide_eq_true hc8)) ?_
     refine AQ.sF rfl rfl (bD (decide_eq_true hc8)) ?_
     refine AQ.sF rfl rfl (bD (decide_eq_true hc8)) ?_
     refine AQ.sF rfl rfl (bD (decide_eq_true hc8)) ?_
     refine AQ.sF rfl rfl (bD (decide_eq_true hc8)) ?_
     refine AQ.sF rfl rfl (bD (decide_eq_true hc8)) ?_
     refine AQ.sF rfl rfl (bD (decide_eq_true hc8)) ?_
     refine AQ.c (Calm.pickT rfl (bD (decide_eq_true hc8)) rfl) ?_
     cases hq6
     refine AQ.nilE rfl ?_
     exact ⟨rfl, rfl, rfl, rfl, trivial⟩
    ·refine AQ.cG rfl rfl (bD (decide_eq_false hc8)) (Calm.move rfl rfl) ?_
     refine AQ.cG (x := .ptr n4 0) rfl rfl (bD (decide_eq_false hc8)) (Calm.fldPtr rfl rfl Try.underlying30 rfl sz27 _ rfl) ?_
     obtain ⟨hg9, hq6⟩ := of_guard hq6
     refine AQ.cG rfl rfl (bD (decide_eq_false hc8)) (Calm.idxP rfl rfl rfl hg9 Try.underlying27 sz5) ?_
     refine AQ.cG rfl rfl (bD (decide_eq_false hc8)) (Calm.load 0 rfl rfl rfl (At.cast (At.fld0 (At.vidx p2 hg9.1 hg9.2 At.here)) (by omega)) ag5 sz5) ?_
     refine AQ.cG (x := eI64 (w64 (vget p0.f0 p2))) rfl rfl (bD (decide_eq_false hc8)) (Calm.conv rfl rfl Try.underlying5 Try.underlying3) ?_
     refine AQ.cG (x := .ptr n4 256) rfl rfl (bD (decide_eq_false hc8)) (Calm.fldPtr rfl rfl Try.underlying30 rfl sz28 _ rfl) ?_
     refine AQ.cG rfl rfl (bD (decide_eq_false hc8)) (Calm.load 0 rfl rfl rfl (At.cast (At.fldS (At.fld0 At.here)) rfl) ag28 sz28) ?_
     refine AQ.cG rfl rfl (bD (decide_eq_false hc8)) (Calm.move rfl rfl) ?_
     obtain ⟨hg10, hq6⟩ := of_guard hq6
     refine AQ.cG rfl rfl (bD (decide_eq_false hc8)) (Calm.idxL (f := e25) rfl rfl rfl hg10 Try.underlying28 sz25) ?_
     refine AQ.cG rfl rfl (bD (decide_eq_false hc8)) (Calm.loadRp rfl rfl ag25 sz25) ?_
     refine AQ.cG rfl rfl (bD (decide_eq_false hc8)) (Calm.lenL rfl rfl Try.underlying25) ?_
     refine AQ.cG (x := eBool (decide (((lget p0.f1 p1).length : Int) ≤ (w64 (vget p0.f0 p2))))) rfl rfl (bD (decide_eq_false hc8)) (Calm.int rfl rfl rfl rfl) ?_
     refine AQ.c (Calm.pickF rfl (bD (decide_eq_false hc8)) rfl) ?_
     cases hq6
     refine AQ.nilE rfl ?_
     exact ⟨rfl, rfl, rfl, rfl, trivial⟩
  ·rcases of_ite h with ⟨hc11, h⟩ | ⟨hc11, h⟩
   ·refine AW.condT' _ rfl hc11 ?_
    refine AW.sr ?_
    refine AO.c (Calm.assign rfl rfl) ?_
    refine AO.nH [6] (H' := []) (Sub.nil _) ?_
    refine AW.rK [6] ?_
    have hr := Option.some.inj h
    subst hr
    exact ⟨[(eI64 (-1 : Int))], ⟨rfl, rfl, trivial⟩, rfl⟩
   ·refine AW.condF' _ rfl hc11 ?_
    refine AW.sK [1, 2, 3] ?_
    refine AW.seq ?_
    refine AW.regQ (by rfl) (by decide +kernel) ?_
    refine AQ.c (x := .ptr n4 256) (Calm.fldPtr rfl rfl Try.underlying30 rfl sz28 _ rfl) ?_
    refine AQ.c (Calm.load 0 rfl rfl rfl (At.cast (At.fldS (At.fld0 At.here)) rfl) ag28 sz28) ?_
    refine AQ.c (Calm.move rfl rfl) ?_
    obtain ⟨hg12, h⟩ := of_guard h
    refine AQ.c (Calm.idxL (f := e25) rfl rfl rfl hg12 Try.underlying28 sz25) ?_
    refine AQ.c (Calm.loadRp rfl rfl ag25 sz25) ?_
    refine AQ.c (Calm.move rfl rfl) ?_
    refine AQ.c (x := .ptr n4 0) (Calm.fldPtr rfl rfl Try.underlying30 rfl sz27 _ rfl) ?_
    obtain ⟨hg13, h⟩ := of_guard h
    refine AQ.c (Calm.idxP rfl rfl rfl hg13 Try.underlying27 sz5) ?_
    refine AQ.c (Calm.load 0 rfl rfl rfl (At.cast (At.fld0 (At.vidx p2 hg13.1 hg13.2 At.here)) (by omega)) ag5 sz5) ?_
    obtain ⟨hg14, h⟩ := of_guard h
    refine AQ.c (Calm.idxL (f := eI64) rfl rfl rfl hg14 Try.underlying25 sz3) ?_
    refine AQ.c (Calm.loadRp rfl rfl ag3 sz3) ?_
    refine AQ.c (Calm.assign rfl rfl) ?_
    refine AQ.nK [6] ?_
    refine AW.rH [6] (H' := []) (Sub.nil _) ?_
    have hr := Option.some.inj h
    subst hr
    exact ⟨[(eI64 (lget (lget p0.f1 p1) (vget p0.f0 p2)))], ⟨rfl, rfl, trivial⟩, rfl⟩
end Go.Avl.T5
/- bosket/lang.Shortest; printed by avmain.py. -/
namespace Go.Avl.T5
open Go Go.RowKit Go.Proofs Go.Avl
set_option linter.unusedVariables false
set_option maxRecDepth 100000
set_option maxHeartbeats 4000000
attribute [local irreducible] AW AO AQ Spec SpecH Calm

def lang_Shortest_c0 (k : Nat) : Option (ByteArray × Bool) :=
  some ((ByteArray.mk #[]), false)
def lang_Shortest_c1 (k : Nat) (rec13 : ((List S123) → (List Bool) → Int → Option (ByteArray × Bool))) (x12 : Int) (x17 : (List S123)) (x18 : (List Bool)) : Option (ByteArray × Bool) :=
  rec13 x17 x18 (w64 (x12 + (1 : Int)))
def lang_Shortest_c2 (k : Nat) (rec27 : ((List S123) → (List Bool) → Int → Option (ByteArray × Bool))) (x26 : Int) (x31 : (List S123)) (x32 : (List Bool)) : Option (ByteArray × Bool) :=
  rec27 x31 x32 (w64 (x26 + (1 : Int)))
def lang_Shortest_l3 (k : Nat) (rec13 : ((List S123) → (List Bool) → Int → Option (ByteArray × Bool))) (p0 : S30) (x10 : (List S123)) (x12 : Int) : Nat → (List S123) → (List Bool) → Int → Option (ByteArray × Bool)
  | 0, _, _, _ => none
  | j + 1, x24, x25, x26 =>
    if x26 < (256 : Int) then (dfa_Step k p0 ((lget x10 x12).f0) (w8 x26)).bind fun t33 =>
    Option.bind (α := Bool) (if (0 : Int) ≤ t33 then if 0 ≤ t33 ∧ t33 < (x25.length : Int) then some (!(lget x25 t33))
    else none
    else some (false)) fun b34 =>
    if b34 = true then if 0 ≤ t33 ∧ t33 < (x25.length : Int) then if ((lget x10 x12).f1).size + (strOfNums ([(w8 x26)] : List Int)).size ≤ 9223372036854775807 then if (x24 ++ ([(S123.mk t33 (((lget x10 x12).f1) ++ (strOfNums ([(w8 x26)] : List Int))))] : List S123)).length * 24 ≤ 140737488355328 then lang_Shortest_c2 k (lang_Shortest_l3 k rec13 p0 x10 x12 j) x26 (x24 ++ ([(S123.mk t33 (((lget x10 x12).f1) ++ (strOfNums ([(w8 x26)] : List Int))))] : List S123)) (lset x25 t33 true)
    else none
    else none
    else none
    else lang_Shortest_c2 k (lang_Shortest_l3 k rec13 p0 x10 x12 j) x26 x24 x25
    else lang_Shortest_c1 k rec13 x12 x24 x25
def lang_Shortest_l4 (k : Nat) (p0 : S30) : Nat → (List S123) → (List Bool) → Int → Option (ByteArray × Bool)
  | 0, _, _, _ => none
  | j + 1, x10, x11, x12 =>
    if x12 < (x10.length : Int) then if 0 ≤ x12 ∧ x12 < (x10.length : Int) then (dfa_Mark k p0 ((lget x10 x12).f0)).bind fun t21 =>
    if (0 : Int) ≤ t21 then some ((lget x10 x12).f1, true)
    else lang_Shortest_l3 k (lang_Shortest_l4 k p0 j) p0 x10 x12 k x10 x11 (0 : Int)
    else none
    else lang_Shortest_c0 k
def lang_Shortest (k : Nat) (p0 : S30) : Option (ByteArray × Bool) :=
  (dfa_Right k p0).bind fun t3 =>
  if (!t3) = true then some ((ByteArray.mk #[]), false)
  else if 0 ≤ (p0.f1.length : Int) ∧ (p0.f1.length : Int) * (1 : Int) ≤ 140737488355328 ∧ (p0.f1.length : Int) ≤ 9223372036854775807 then if 0 ≤ (0 : Int) ∧ (0 : Int) < ((List.replicate (p0.f1.length : Int).toNat false).length : Int) then lang_Shortest_l4 k p0 k ([(S123.mk (0 : Int) (ByteArray.mk #[]))] : List S123) (lset (List.replicate (p0.f1.length : Int).toNat false) (0 : Int) true) (0 : Int)
  else none
  else none
theorem lang_Shortest_spec {k : Nat} {p0 : S30} {r : (ByteArray × Bool)} (h : lang_Shortest k p0 = some r) : Spec Try.prog 75 [(e30 p0)] (.tup [(eStr r.1), (eBool r.2)]) := by
  rw [lang_Shortest.eq_1] at h
  refine Spec.intro (res := [.tmp 2, .tmp 3]) Try.func75 rfl rfl rfl (Nat.le_of_ble_eq_true rfl) ?_
  refine AW.sr ?_
  refine AO.box rfl 1 rfl (by decide) rfl rfl rfl fun n2 => ?_
  refine AO.c (Calm.assign rfl rfl) ?_
  refine AO.c (Calm.assign rfl rfl) ?_
  refine AO.nK [1] ?_
  refine AW.seq ?_
  refine AW.sr ?_
  refine AO.c (Calm.load 0 rfl rfl rfl (At.cast At.here rfl) ag30 sz30) ?_
  obtain ⟨t3, et3, h⟩ := of_bind h
  refine AO.callS [(e30 p0)] (eBool t3) 11 rfl (by decide) ok64 rfl rfl rfl ⟨rfl, rfl, trivial⟩ (dfa_Right_spec et3) ?_
  refine AO.c (Calm.not rfl rfl) ?_
  refine AO.nK [1, 12] ?_
  rcases of_ite h with ⟨hc4, h⟩ | ⟨hc4, h⟩
  ·refine AW.condT' _ rfl hc4 ?_
   refine AW.sr ?_
   refine AO.c (Calm.assign rfl rfl) ?_
   refine AO.c (Calm.assign rfl rfl) ?_
   refine AO.nH [2, 3] (H' := []) (Sub.nil _) ?_
   refine AW.rK [2, 3] ?_
   have hr := Option.some.inj h
   subst hr
   exact ⟨[(eStr (ByteArray.mk #[])), (eBool false)], ⟨rfl, rfl, rfl, rfl, trivial⟩, rfl⟩
  ·refine AW.condF' _ rfl hc4 ?_
   refine AW.sK [1] ?_
   refine AW.sr ?_
   refine AO.c (x := .st [(1, (eI64 (0 : Int))), (1, (eStr (ByteArray.mk #[])))]) (Calm.build (qs := [(0, (eI64 (0 : Int))), (1, (eStr (ByteArray.mk #[])))]) rfl ⟨rfl, rfl, rfl, rfl, rfl, rfl, trivial⟩ Try.underlying123 rfl zr123 lay123 (.cons rfl rfl rfl rfl (Put.cast (Put.fld0 Put.here) rfl) (.cons rfl rfl rfl rfl (Put.cast (Put.fldS (Put.fld0 Put.here)) rfl) .nil)) rfl) ?_
   refine AO.lit (Z := (.st [(1, (eI64 (0 : Int))), (1, (eStr ByteArray.empty))])) (xs := (([(S123.mk (0 : Int) (ByteArray.mk #[]))] : List S123).map e123)) (qs := [(0, (e123 (S123.mk (0 : Int) (ByteArray.mk #[]))))]) rfl 14 rfl (by decide) rfl ⟨rfl, rfl, rfl, trivial⟩ Try.underlying124 sz123 zr123 lay123 rfl (by decide) (litOK (z := 2) [(e123 (S123.mk (0 : Int) (ByteArray.mk #[])))] rfl ⟨⟨rfl, rfl⟩, trivial⟩) rfl fun n5 => ?_
   refine AO.c (Calm.assign rfl rfl) ?_
   refine AO.nH [1, 4] (H' := [(n2, (.mem (e30 p0))), (n5, (.mem (.ar 2 (([(S123.mk (0 : Int) (ByteArray.mk #[]))] : List S123).map e123))))]) (Sub.cons 1 rfl (Sub.cons 0 rfl (Sub.nil _))) ?_
   refine AW.sr ?_
   refine AO.c (x := .ptr n2 256) (Calm.fldPtr rfl rfl Try.underlying30 rfl sz28 _ rfl) ?_
   refine AO.c (Calm.load 0 rfl rfl rfl (At.cast (At.fldS (At.fld0 At.here)) rfl) ag28 sz28) ?_
   refine AO.c (Calm.lenL rfl rfl Try.underlying28) ?_
   obtain ⟨hg7, h⟩ := of_guard h
   refine AO.makeL (f := eBool) false rfl 18 rfl (by decide) rfl rfl rfl Try.underlying49 sz4 by4 zr4 lay4 rfl hg7 fun n6 => ?_
   refine AO.c (Calm.assign rfl rfl) ?_
   refine AO.nH [1, 4, 5] (H' := [(n2, (.mem (e30 p0))), (n5, (.mem (.ar 2 (([(S123.mk (0 : Int) (ByteArray.mk #[]))] : List S123).map e123)))), (n6, (.mem (.ar 1 ((List.replicate (p0.f1.length : Int).toNat false).map eBool))))]) (Sub.cons 1 rfl (Sub.cons 1 rfl (Sub.cons 0 rfl (Sub.nil _)))) ?_
   refine AW.sr ?_
   refine AO.c (Calm.move rfl rfl) ?_
   obtain ⟨hg8, h⟩ := of_guard h
   refine AO.c (Calm.idxO 2 rfl rfl rfl rfl hg8 Try.underlying49 sz4) ?_
   refine AO.store (X' := (.ar 1 ((lset (List.replicate (p0.f1.length : Int).toNat false) (0 : Int) true).map eBool))) 2 rfl rfl rfl rfl rfl rfl (Put.cast (Put.lidx (0 : Int) true hg8.1 hg8.2 Put.here) (by omega)) rfl rfl sz4 rfl ?_
   refine AO.coe 5 (y' := (.own n6 0 (lset (List.replicate (p0.f1.length : Int).toNat false) (0 : Int) true).length)) rfl (fun _ _ h => lset_own h) ?_
   refine AO.coe 19 (y' := (.own n6 0 (lset (List.replicate (p0.f1.length : Int).toNat false) (0 : Int) true).length)) rfl (fun _ _ h => lset_own h) ?_
   refine AO.nK [1, 4, 5] ?_
   refine AW.seq_mid (fun ρ H => ρ = [] ∧ H = [] ∧ lang_Shortest_c0 k = some r) ?_ ?_
   ·refine AW.sr ?_
    refine AO.c (Calm.assign rfl rfl) ?_
    refine AO.nK [1, 4, 5, 6] ?_
    refine AW.block ?_
    refine AW.wK [1, 4, 5, 6] ?_
    refine AW.loop (fun kq ρ H => ∃ (n9 : Nat) (x10 : (List S123)) (x11 : (List Bool)) (x12 : Int), ρ = [(1, (.ptr n2 0)), (4, (.own n9 0 x10.length)), (5, (.own n6 0 x11.length)), (6, (eI64 x12))] ∧ H = [(n2, (.mem (e30 p0))), (n9, (.mem (.ar 2 (x10.map e123)))), (n6, (.mem (.ar 1 (x11.map eBool))))] ∧ lang_Shortest_l4 k p0 kq x10 x11 x12 = some r) k ⟨n5, ([(S123.mk (0 : Int) (ByteArray.mk #[]))] : List S123), (lset (List.replicate (p0.f1.length : Int).toNat false) (0 : Int) true), (0 : Int), rfl, rfl, h⟩ ?_
    rintro kq14 _ _ ⟨n9, x10, x11, x12, rfl, rfl, h⟩
    cases kq14 with
    | zero => rw [lang_Shortest_l4.eq_1] at h; cases h
    | succ kq14 =>
    rw [lang_Shortest_l4.eq_2] at h
    generalize hrec13 : lang_Shortest_l4 k p0 kq14 = rec13 at h
    refine AW.seq ?_
    refine AW.sr ?_
    refine AO.c (Calm.move rfl rfl) ?_
    refine AO.c (Calm.move rfl rfl) ?_
    refine AO.c (Calm.lenOwn rfl rfl Try.underlying124) ?_
    refine AO.c (x := eBool (decide (x12 < (x10.length : Int)))) (Calm.int rfl rfl rfl rfl) ?_
    refine AO.nK [1, 4, 5, 6, 24] ?_
    rcases of_ite h with ⟨hc15, h⟩ | ⟨hc15, h⟩
    ·refine AW.condP _ rfl hc15 ?_
     refine AW.sK [1, 4, 5, 6] ?_
     refine AW.seq_mid (fun ρ H => ∃ (n16 : Nat) (x17 : (List S123)) (x18 : (List Bool)), ρ = [(1, (.ptr n2 0)), (4, (.own n16 0 x17.length)), (5, (.own n6 0 x18.length)), (6, (eI64 x12))] ∧ H = [(n2, (.mem (e30 p0))), (n16, (.mem (.ar 2 (x17.map e123)))), (n6, (.mem (.ar 1 (x18.map eBool))))] ∧ lang_Shortest_c1 k rec13 x12 x17 x18 = some r) ?_ ?_
     ·refine AW.block ?_
      refine AW.sr ?_
      refine AO.c (Calm.move rfl rfl) ?_
      refine AO.c (Calm.move rfl rfl) ?_
      obtain ⟨hg19, h⟩ := of_guard h
      refine AO.c (Calm.idxO 1 rfl rfl rfl rfl hg19 Try.underlying124 sz123) ?_
      refine AO.c (Calm.load 1 rfl rfl rfl (At.cast (At.lidx x12 hg19.1 hg19.2 At.here) (by omega)) ag123 sz123) ?_
      refine AO.alloc rfl 7 rfl (by decide) rfl zr123 lay123 fun n20 => ?_
      refine AO.store (X' := (e123 (lget x10 x12))) 0 rfl rfl rfl rfl rfl rfl (Put.cast Put.here rfl) rfl rfl sz123 rfl ?_
      refine AO.nH [1, 4, 5, 6, 7] (H' := [(n2, (.mem (e30 p0))), (n9, (.mem (.ar 2 (x10.map e123)))), (n6, (.mem (.ar 1 (x11.map eBool)))), (n20, (.mem (e123 (lget x10 x12))))]) (Sub.cons 1 rfl (Sub.cons 1 rfl (Sub.cons 1 rfl (Sub.cons 0 rfl (Sub.nil _))))) ?_
      refine AW.seq ?_
      refine AW.sr ?_
      refine AO.c (Calm.load 0 rfl rfl rfl (At.cast At.here rfl) ag30 sz30) ?_
      refine AO.c (x := .ptr n20 0) (Calm.fldPtr rfl rfl Try.underlying123 rfl sz3 _ rfl) ?_
      refine AO.c (Calm.load 3 rfl rfl rfl (At.cast (At.fld0 At.here) rfl) ag3 sz3) ?_
      obtain ⟨t21, et21, h⟩ := of_bind h
      refine AO.callS [(e30 p0), (eI64 ((lget x10 x12).f0))] (eI64 t21) 34 rfl (by decide) ok85 rfl rfl rfl ⟨rfl, rfl, rfl, rfl, trivial⟩ (dfa_Mark_spec et21) ?_
      refine AO.c (x := eBool (decide ((0 : Int) ≤ t21))) (Calm.int rfl rfl rfl rfl) ?_
      refine AO.nK [1, 4, 5, 6, 7, 35] ?_
      rcases of_ite h with ⟨hc22, h⟩ | ⟨hc22, h⟩
      ·refine AW.condP _ rfl hc22 ?_
       refine AW.sr ?_
       refine AO.c (x := .ptr n20 1) (Calm.fldPtr rfl rfl Try.underlying123 rfl sz9 _ rfl) ?_
       refine AO.c (Calm.load 3 rfl rfl rfl (At.cast (At.fldS (At.fld0 At.here)) rfl) ag9 sz9) ?_
       refine AO.c (Calm.assign rfl rfl) ?_
       refine AO.c (Calm.assign rfl rfl) ?_
       refine AO.nH [2, 3] (H' := []) (Sub.nil _) ?_
       refine AW.rK [2, 3] ?_
       have hr := Option.some.inj h
       subst hr
       exact ⟨[(eStr ((lget x10 x12).f1)), (eBool true)], ⟨rfl, rfl, rfl, rfl, trivial⟩, rfl⟩
      ·refine AW.condN _ rfl hc22 ?_
       refine AW.sK [1, 4, 5, 6, 7] ?_
       refine AW.sr ?_
       refine AO.c (Calm.move rfl rfl) ?_
       refine AO.nK [1, 4, 5, 6, 7, 38] ?_
       refine AW.block ?_
       refine AW.wK [1, 4, 5, 6, 7, 38] ?_
       refine AW.loop (fun kq ρ H => ∃ (n23 : Nat) (x24 : (List S123)) (x25 : (List Bool)) (x26 : Int), ρ = [(1, (.ptr n2 0)), (4, (.own n23 0 x24.length)), (5, (.own n6 0 x25.length)), (6, (eI64 x12)), (7, (.ptr n20 0)), (38, (eI64 x26))] ∧ H = [(n2, (.mem (e30 p0))), (n23, (.mem (.ar 2 (x24.map e123)))), (n6, (.mem (.ar 1 (x25.map eBool)))), (n20, (.mem (e123 (lget x10 x12))))] ∧ lang_Shortest_l3 k rec13 p0 x10 x12 kq x24 x25 x26 = some r) k ⟨n9, x10, x11, (0 : Int), rfl, rfl, h⟩ ?_
       rintro kq28 _ _ ⟨n23, x24, x25, x26, rfl, rfl, h⟩
       cases kq28 with
       | zero => rw [lang_Shortest_l3.eq_1] at h; cases h
       | succ kq28 =>
       rw [lang_Shortest_l3.eq_2] at h
       generalize hrec27 : lang_Shortest_l3 k rec13 p0 x10 x12 kq28 = rec27 at h
       refine AW.sr ?_
       refine AO.c (x := eBool (decide (x26 < (256 : Int)))) (Calm.int rfl rfl rfl rfl) ?_
       refine AO.nK [1, 4, 5, 6, 7, 38, 39] ?_
       refine AW.seq ?_
       rcases of_ite h with ⟨hc29, h⟩ | ⟨hc29, h⟩
       ·refine AW.condP _ rfl hc29 ?_
        refine AW.sK [1, 4, 5, 6, 7, 38] ?_
        refine AW.seq_mid (fun ρ H => ∃ (n30 : Nat) (x31 : (List S123)) (x32 : (List Bool)), ρ = [(1, (.ptr n2 0)), (4, (.own n30 0 x31.length)), (5, (.own n6 0 x32.length)), (6, (eI64 x12)), (7, (.ptr n20 0)), (38, (eI64 x26))] ∧ H = [(n2, (.mem (e30 p0))), (n30, (.mem (.ar 2 (x31.map e123)))), (n6, (.mem (.ar 1 (x32.map eBool)))), (n20, (.mem (e123 (lget x10 x12))))] ∧ lang_Shortest_c2 k rec27 x26 x31 x32 = some r) ?_ ?_
        ·refine AW.block ?_
         refine AW.sr ?_
         refine AO.c (Calm.move rfl rfl) ?_
         refine AO.c (Calm.assign rfl rfl) ?_
         refine AO.nK [1, 4, 5, 6, 7, 8, 38] ?_
         refine AW.sr ?_
         refine AO.c (Calm.load 0 rfl rfl rfl (At.cast At.here rfl) ag30 sz30) ?_
         refine AO.c (x := .ptr n20 0) (Calm.fldPtr rfl rfl Try.underlying123 rfl sz3 _ rfl) ?_
         refine AO.c (Calm.load 3 rfl rfl rfl (At.cast (At.fld0 At.here) rfl) ag3 sz3) ?_
         refine AO.c (Calm.move rfl rfl) ?_
         refine AO.c (x := eU8 (w8 x26)) (Calm.conv rfl rfl Try.underlying3 Try.underlying5) ?_
         obtain ⟨t33, et33, h⟩ := of_bind h
         refine AO.callS [(e30 p0), (eI64 ((lget x10 x12).f0)), (eU8 (w8 x26))] (eI64 t33) 46 rfl (by decide) ok97 rfl rfl rfl ⟨rfl, rfl, rfl, rfl, rfl, rfl, trivial⟩ (dfa_Step_spec et33) ?_
         refine AO.c (Calm.assign rfl rfl) ?_
         refine AO.nK [1, 4, 5, 6, 7, 8, 9, 38] ?_
         refine AW.seq ?_
         obtain ⟨b34, hq35, h⟩ := of_bind h
         refine AW.regM [(1, (.ptr n2 0)), (4, (.own n23 0 x24.length)), (5, (.own n6 0 x25.length)), (6, (eI64 x12)), (7, (.ptr n20 0)), (8, (eI64 x26)), (9, (eI64 t33)), (38, (eI64 x26)), (55, (eBool b34))] [(n2, (.mem (e30 p0))), (n23, (.mem (.ar 2 (x24.map e123)))), (n6, (.mem (.ar 1 (x25.map eBool)))), (n20, (.mem (e123 (lget x10 x12))))] ?_ ?_
         ·refine AO.c (Calm.move rfl rfl) ?_
          refine AO.c (x := eBool (decide ((0 : Int) ≤ t33))) (Calm.int rfl rfl rfl rfl) ?_
          refine AO.c (Calm.move rfl rfl) ?_
          rcases of_ite hq35 with ⟨hc36, hq35⟩ | ⟨hc36, hq35⟩
          ·refine AO.cG rfl rfl (bD (decide_eq_true hc36)) (Calm.move rfl rfl) ?_
           refine AO.cG rfl rfl (bD (decide_eq_true hc36)) (Calm.move rfl rfl) ?_
           obtain ⟨hg37, hq35⟩ := of_guard hq35
           refine AO.cG rfl rfl (bD (decide_eq_true hc36)) (Calm.idxO 2 rfl rfl rfl rfl hg37 Try.underlying49 sz4) ?_
           refine AO.cG rfl rfl (bD (decide_eq_true hc36)) (Calm.load 2 rfl rfl rfl (At.cast (At.lidx t33 hg37.1 hg37.2 At.here) (by omega)) ag4 sz4) ?_
           refine AO.cG rfl rfl (bD (decide_eq_true hc36)) (Calm.not rfl rfl) ?_
           refine AO.c (Calm.pickT rfl (bD (decide_eq_true hc36)) rfl) ?_
           cases hq35
           refine AO.nilE ⟨rfl, rfl⟩ ?_ ?_
           · exact ⟨rfl, rfl, rfl, rfl, rfl, rfl, rfl, rfl, rfl, trivial⟩
           · exact (Sub.refl _)
          ·refine AO.sT rfl rfl (bD (decide_eq_false hc36)) ?_
           refine AO.sT rfl rfl (bD (decide_eq_false hc36)) ?_
           refine AO.sT rfl rfl (bD (decide_eq_false hc36)) ?_
           refine AO.sT rfl rfl (bD (decide_eq_false hc36)) ?_
           refine AO.sT rfl rfl (bD (decide_eq_false hc36)) ?_
           refine AO.c (Calm.pickF rfl (bD (decide_eq_false hc36)) rfl) ?_
           cases hq35
           refine AO.nilE ⟨rfl, rfl⟩ ?_ ?_
           · exact ⟨rfl, rfl, rfl, rfl, rfl, rfl, rfl, rfl, rfl, trivial⟩
           · exact (Sub.refl _)
         ·rcases of_ite h with ⟨hc38, h⟩ | ⟨hc38, h⟩
          ·refine AW.condT' _ rfl hc38 ?_
           refine AW.sr ?_
           refine AO.c (Calm.move rfl rfl) ?_
           refine AO.c (Calm.move rfl rfl) ?_
           obtain ⟨hg39, h⟩ := of_guard h
           refine AO.c (Calm.idxO 2 rfl rfl rfl rfl hg39 Try.underlying49 sz4) ?_
           refine AO.store (X' := (.ar 1 ((lset x25 t33 true).map eBool))) 2 rfl rfl rfl rfl rfl rfl (Put.cast (Put.lidx t33 true hg39.1 hg39.2 Put.here) (by omega)) rfl rfl sz4 rfl ?_
           refine AO.coe 5 (y' := (.own n6 0 (lset x25 t33 true).length)) rfl (fun _ _ h => lset_own h) ?_
           refine AO.coe 56 (y' := (.own n6 0 (lset x25 t33 true).length)) rfl (fun _ _ h => lset_own h) ?_
           refine AO.nK [1, 4, 5, 6, 7, 8, 9, 38] ?_
           refine AW.reg ?_
           refine AO.c (Calm.move rfl rfl) ?_
           refine AO.c (Calm.move rfl rfl) ?_
           refine AO.c (x := .ptr n20 1) (Calm.fldPtr rfl rfl Try.underlying123 rfl sz9 _ rfl) ?_
           refine AO.c (Calm.load 3 rfl rfl rfl (At.cast (At.fldS (At.fld0 At.here)) rfl) ag9 sz9) ?_
           refine AO.c (Calm.move rfl rfl) ?_
           refine AO.c (x := eU8 (w8 x26)) (Calm.conv rfl rfl Try.underlying3 Try.underlying5) ?_
           refine AO.lit (Z := (eU8 (0 : Int))) (xs := (([(w8 x26)] : List Int).map eU8)) (qs := [(0, (eU8 (w8 x26)))]) rfl 65 rfl (by decide) rfl ⟨rfl, rfl, rfl, trivial⟩ Try.underlying77 sz5 zr5 lay5 rfl (by decide) (litOK (z := 1) [(eU8 (w8 x26))] rfl ⟨⟨rfl, rfl⟩, trivial⟩) rfl fun n40 => ?_
           refine AO.c (x := eStr (strOfNums ([(w8 x26)] : List Int))) (Calm.strO 0 rfl rfl rfl Try.underlying77 Try.underlying9 Try.underlying5) ?_
           obtain ⟨hg41, h⟩ := of_guard h
           refine AO.c (x := eStr (((lget x10 x12).f1) ++ (strOfNums ([(w8 x26)] : List Int)))) (Calm.cat rfl rfl rfl hg41) ?_
           refine AO.c (x := .st [(1, (eI64 t33)), (1, (eStr (((lget x10 x12).f1) ++ (strOfNums ([(w8 x26)] : List Int)))))]) (Calm.build (qs := [(0, (eI64 t33)), (1, (eStr (((lget x10 x12).f1) ++ (strOfNums ([(w8 x26)] : List Int)))))]) rfl ⟨rfl, rfl, rfl, rfl, rfl, rfl, trivial⟩ Try.underlying123 rfl zr123 lay123 (.cons rfl rfl rfl rfl (Put.cast (Put.fld0 Put.here) rfl) (.cons rfl rfl rfl rfl (Put.cast (Put.fldS (Put.fld0 Put.here)) rfl) .nil)) rfl) ?_
           refine AO.lit (Z := (.st [(1, (eI64 (0 : Int))), (1, (eStr ByteArray.empty))])) (xs := (([(S123.mk t33 (((lget x10 x12).f1) ++ (strOfNums ([(w8 x26)] : List Int))))] : List S123).map e123)) (qs := [(0, (e123 (S123.mk t33 (((lget x10 x12).f1) ++ (strOfNums ([(w8 x26)] : List Int))))))]) rfl 69 rfl (by decide) rfl ⟨rfl, rfl, rfl, trivial⟩ Try.underlying124 sz123 zr123 lay123 rfl (by decide) (litOK (z := 2) [(e123 (S123.mk t33 (((lget x10 x12).f1) ++ (strOfNums ([(w8 x26)] : List Int)))))] rfl ⟨⟨rfl, rfl⟩, trivial⟩) rfl fun n42 => ?_
           obtain ⟨hg44, h⟩ := of_guard h
           refine AO.appendL (l := x24) (m := ([(S123.mk t33 (((lget x10 x12).f1) ++ (strOfNums ([(w8 x26)] : List Int))))] : List S123)) 3 70 rfl (by decide) rfl rfl rfl rfl rfl (Src.ownL (f := e123) (l := ([(S123.mk t33 (((lget x10 x12).f1) ++ (strOfNums ([(w8 x26)] : List Int))))] : List S123)) 0 rfl) Try.underlying124 Try.underlying124 sz123 by123 zr123 rfl hg44 (by decide) fun n43 => ?_
           refine AO.c (Calm.assign rfl rfl) ?_
           refine AO.nH [1, 4, 5, 6, 7, 38] (H' := [(n2, (.mem (e30 p0))), (n43, (.mem (.ar 2 ((x24 ++ ([(S123.mk t33 (((lget x10 x12).f1) ++ (strOfNums ([(w8 x26)] : List Int))))] : List S123)).map e123)))), (n6, (.mem (.ar 1 ((lset x25 t33 true).map eBool)))), (n20, (.mem (e123 (lget x10 x12))))]) (Sub.cons 2 rfl (Sub.cons 2 rfl (Sub.cons 2 rfl (Sub.cons 2 rfl (Sub.nil _))))) ?_
           exact ⟨n43, (x24 ++ ([(S123.mk t33 (((lget x10 x12).f1) ++ (strOfNums ([(w8 x26)] : List Int))))] : List S123)), (lset x25 t33 true), rfl, rfl, h⟩
          ·refine AW.condF' _ rfl hc38 ?_
           refine AW.sK [1, 4, 5, 6, 7, 38] ?_
           exact ⟨n23, x24, x25, rfl, rfl, h⟩
        ·rintro _ _ ⟨n30, x31, x32, rfl, rfl, h⟩
         rw [lang_Shortest_c2.eq_1] at h
         refine AW.reg ?_
         refine AO.c (x := eI64 (w64 (x26 + (1 : Int)))) (Calm.int rfl rfl rfl rfl) ?_
         refine AO.c (Calm.move rfl rfl) ?_
         refine AO.nK [1, 4, 5, 6, 7, 38] ?_
         exact ⟨kq28, Nat.lt_succ_self _, n30, x31, x32, (w64 (x26 + (1 : Int))), rfl, rfl, by rw [hrec27]; exact h⟩
       ·refine AW.condN _ rfl hc29 ?_
        refine AW.eH [1, 4, 5, 6] (H' := [(n2, (.mem (e30 p0))), (n23, (.mem (.ar 2 (x24.map e123)))), (n6, (.mem (.ar 1 (x25.map eBool))))]) (Sub.cons 0 rfl (Sub.cons 0 rfl (Sub.cons 0 rfl (Sub.nil _)))) ?_
        exact ⟨n23, x24, x25, rfl, rfl, h⟩
     ·rintro _ _ ⟨n16, x17, x18, rfl, rfl, h⟩
      rw [lang_Shortest_c1.eq_1] at h
      refine AW.reg ?_
      refine AO.c (Calm.move rfl rfl) ?_
      refine AO.c (x := eI64 (w64 (x12 + (1 : Int)))) (Calm.int rfl rfl rfl rfl) ?_
      refine AO.c (Calm.assign rfl rfl) ?_
      refine AO.nK [1, 4, 5, 6] ?_
      exact ⟨kq14, Nat.lt_succ_self _, n16, x17, x18, (w64 (x12 + (1 : Int))), rfl, rfl, by rw [hrec13]; exact h⟩
    ·refine AW.condN _ rfl hc15 ?_
     refine AW.eH [] (H' := []) (Sub.nil _) ?_
     exact ⟨rfl, rfl, h⟩
   ·rintro _ _ ⟨rfl, rfl, h⟩
    rw [lang_Shortest_c0.eq_1] at h
    refine AW.sr ?_
    refine AO.c (Calm.assign rfl rfl) ?_
    refine AO.c (Calm.assign rfl rfl) ?_
    refine AO.nK [2, 3] ?_
    refine AW.rK [2, 3] ?_
    have hr := Option.some.inj h
    subst hr
    exact ⟨[(eStr (ByteArray.mk #[])), (eBool false)], ⟨rfl, rfl, rfl, rfl, trivial⟩, rfl⟩
end Go.Avl.T5
/- bosket/lang.Count; printed by avmain.py. -/
namespace Go.Avl.T5
open Go Go.RowKit Go.Proofs Go.Avl
set_option linter.unusedVariables false
set_option maxRecDepth 100000
set_option maxHeartbeats 4000000
set_option linter.unusedSimpArgs false
attribute [local irreducible] AW AO AQ Spec SpecH Calm

def lang_Count_c0 (k : Nat) (x17 : (List Int)) : Option Int :=
  if 0 ≤ (0 : Int) ∧ (0 : Int) < (x17.length : Int) then some ((lget x17 (0 : Int)))
  else none
def lang_Count_c1 (k : Nat) (rec22 : ((List Int) → Int → Option Int)) (x21 : Int) (x26 : (List Int)) : Option Int :=
  rec22 x26 (w64 (x21 + (1 : Int)))
def lang_Count_c2 (k : Nat) (rec22 : ((List Int) → Int → Option Int)) (x21 : Int) (x29 : (List Int)) : Option Int :=
  lang_Count_c1 k rec22 x21 x29
def lang_Count_c3 (k : Nat) (rec32 : ((List Int) → Int → Option Int)) (x31 : Int) (x35 : (List Int)) : Option Int :=
  rec32 x35 (w64 (x31 + (1 : Int)))
def lang_Count_c4 (k : Nat) (rec38 : ((List Int) → Int → Option Int)) (x37 : Int) (x41 : (List Int)) : Option Int :=
  rec38 x41 (w64 (x37 + (1 : Int)))
def lang_Count_l5 (k : Nat) (rec32 : ((List Int) → Int → Option Int)) (p0 : S30) (p2 : Int) (x20 : (List Int)) (x31 : Int) : Nat → (List Int) → Int → Option Int
  | 0, _, _ => none
  | j + 1, x36, x37 =>
    if x37 < (256 : Int) then (dfa_Step k p0 x31 (w8 x37)).bind fun t42 =>
    if (0 : Int) ≤ t42 then if 0 ≤ x31 ∧ x31 < (x36.length : Int) then if 0 ≤ t42 ∧ t42 < (x20.length : Int) then if 0 ≤ x31 ∧ x31 < (x36.length : Int) then lang_Count_c4 k (lang_Count_l5 k rec32 p0 p2 x20 x31 j) x37 (lset x36 x31 (min (w64 ((lget x36 x31) + (lget x20 t42))) p2))
    else none
    else none
    else none
    else lang_Count_c4 k (lang_Count_l5 k rec32 p0 p2 x20 x31 j) x37 x36
    else lang_Count_c3 k rec32 x31 x36
def lang_Count_l6 (k : Nat) (rec22 : ((List Int) → Int → Option Int)) (p0 : S30) (p2 : Int) (x20 : (List Int)) (x21 : Int) : Nat → (List Int) → Int → Option Int
  | 0, _, _ => none
  | j + 1, x30, x31 =>
    if x31 < ((List.replicate (x20.length : Int).toNat (0 : Int)).length : Int) then lang_Count_l5 k (lang_Count_l6 k rec22 p0 p2 x20 x21 j) p0 p2 x20 x31 k x30 (0 : Int)
    else lang_Count_c2 k rec22 x21 x30
def lang_Count_l7 (k : Nat) (p0 : S30) (p1 : Int) (p2 : Int) : Nat → (List Int) → Int → Option Int
  | 0, _, _ => none
  | j + 1, x20, x21 =>
    if x21 < p1 then if 0 ≤ (x20.length : Int) ∧ (x20.length : Int) * (8 : Int) ≤ 140737488355328 ∧ (x20.length : Int) ≤ 9223372036854775807 then lang_Count_l6 k (lang_Count_l7 k p0 p1 p2 j) p0 p2 x20 x21 k (List.replicate (x20.length : Int).toNat (0 : Int)) (0 : Int)
    else none
    else lang_Count_c0 k x20
def lang_Count_c8 (k : Nat) (p0 : S30) (p1 : Int) (p2 : Int) (x15 : (List Int)) : Option Int :=
  lang_Count_l7 k p0 p1 p2 k x15 (0 : Int)
def lang_Count_c9 (k : Nat) (rec49 : ((List Int) → Int → Option Int)) (x48 : Int) (x52 : (List Int)) : Option Int :=
  rec49 x52 (w64 (x48 + (1 : Int)))
def lang_Count_l10 (k : Nat) (p0 : S30) (p1 : Int) (p2 : Int) : Nat → (List Int) → Int → Option Int
  | 0, _, _ => none
  | j + 1, x47, x48 =>
    if x48 < ((List.replicate (p0.f1.length : Int).toNat (0 : Int)).length : Int) then (dfa_Mark k p0 x48).bind fun t53 =>
    if (0 : Int) ≤ t53 then if 0 ≤ x48 ∧ x48 < (x47.length : Int) then lang_Count_c9 k (lang_Count_l10 k p0 p1 p2 j) x48 (lset x47 x48 (min (1 : Int) p2))
    else none
    else lang_Count_c9 k (lang_Count_l10 k p0 p1 p2 j) x48 x47
    else lang_Count_c8 k p0 p1 p2 x47
def lang_Count (k : Nat) (p0 : S30) (p1 : Int) (p2 : Int) : Option Int :=
  Option.bind (α := Bool) ((dfa_Right k p0).bind fun t7 =>
  if (!t7) = true then some (true)
  else if p1 < (0 : Int) then some (true)
  else if (1000 : Int) < p1 then some (true)
  else if p2 < (0 : Int) then some (true)
  else some (decide ((1073741824 : Int) < p2))) fun b5 =>
  if b5 = true then some ((0 : Int))
  else if 0 ≤ (p0.f1.length : Int) ∧ (p0.f1.length : Int) * (8 : Int) ≤ 140737488355328 ∧ (p0.f1.length : Int) ≤ 9223372036854775807 then lang_Count_l10 k p0 p1 p2 k (List.replicate (p0.f1.length : Int).toNat (0 : Int)) (0 : Int)
  else none
theorem lang_Count_spec {k : Nat} {p0 : S30} {p1 : Int} {p2 : Int} {r : Int} (h : lang_Count k p0 p1 p2 = some r) : Spec Try.prog 76 [(e30 p0), (eI64 p1), (eI64 p2)] (eI64 r) := by
  rw [lang_Count.eq_1] at h
  refine Spec.intro (res := [.tmp 6]) Try.func76 rfl rfl rfl (Nat.le_of_ble_eq_true rfl) ?_
  refine AW.sr ?_
  refine AO.box rfl 3 rfl (by decide) rfl rfl rfl fun n4 => ?_
  refine AO.c (Calm.assign rfl rfl) ?_
  refine AO.nK [1, 2, 3] ?_
  refine AW.seq ?_
  refine AW.seq ?_
  obtain ⟨b5, hq6, h⟩ := of_bind h
  refine AW.regM [(1, (eI64 p1)), (2, (eI64 p2)), (3, (.ptr n4 0)), (31, (eBool b5))] [(n4, (.mem (e30 p0)))] ?_ ?_
  ·refine AO.c (Calm.load 0 rfl rfl rfl (At.cast At.here rfl) ag30 sz30) ?_
   obtain ⟨t7, et7, hq6⟩ := of_bind hq6
   refine AO.callS [(e30 p0)] (eBool t7) 14 rfl (by decide) ok64 rfl rfl rfl ⟨rfl, rfl, trivial⟩ (dfa_Right_spec et7) ?_
   refine AO.c (Calm.not rfl rfl) ?_
   refine AO.c (Calm.move rfl rfl) ?_
   rcases of_ite hq6 with ⟨hc8, hq6⟩ | ⟨hc8, hq6⟩
   ·refine AO.sF rfl rfl (bD hc8) ?_
    refine AO.sF rfl rfl (bD hc8) ?_
    refine AO.c (Calm.pickT rfl (bD hc8) rfl) ?_
    refine AO.c (Calm.move rfl rfl) ?_
    refine AO.sF rfl rfl rfl ?_
    refine AO.sF rfl rfl rfl ?_
    refine AO.c (Calm.pickT rfl rfl rfl) ?_
    refine AO.c (Calm.move rfl rfl) ?_
    refine AO.sF rfl rfl rfl ?_
    refine AO.sF rfl rfl rfl ?_
    refine AO.c (Calm.pickT rfl rfl rfl) ?_
    refine AO.c (Calm.move rfl rfl) ?_
    refine AO.sF rfl rfl rfl ?_
    refine AO.sF rfl rfl rfl ?_
    refine AO.c (Calm.pickT rfl rfl rfl) ?_
    cases hq6
    refine AO.nilE ⟨rfl, rfl⟩ ?_ ?_
    · exact ⟨rfl, rfl, rfl, rfl, trivial⟩
    · exact (Sub.refl _)
   ·refine AO.cG rfl rfl (bD (eq_false_of_ne_true hc8)) (Calm.move rfl rfl) ?_
    refine AO.cG (x := eBool (decide (p1 < (0 : Int)))) rfl rfl (bD (eq_false_of_ne_true hc8)) (Calm.int rfl rfl rfl rfl) ?_
    refine AO.c (Calm.pickF rfl (bD (eq_false_of_ne_true hc8)) rfl) ?_
    refine AO.c (Calm.move rfl rfl) ?_
    rcases of_ite hq6 with ⟨hc9, hq6⟩ | ⟨hc9, hq6⟩
    ·refine AO.sF rfl rfl (bD (decide_eq_true hc9)) ?_
     refine AO.sF rfl rfl (bD (decide_eq_true hc9)) ?_
     refine AO.c (Calm.pickT rfl (bD (decide_eq_true hc9)) rfl) ?_
     refine AO.c (Calm.move rfl rfl) ?_
     refine AO.sF rfl rfl rfl ?_
     refine AO.sF rfl rfl rfl ?_
     refine AO.c (Calm.pickT rfl rfl rfl) ?_
     refine AO.c (Calm.move rfl rfl) ?_
     refine AO.sF rfl rfl rfl ?_
     refine AO.sF rfl rfl rfl ?_
     refine AO.c (Calm.pickT rfl rfl rfl) ?_
     cases hq6
     refine AO.nilE ⟨rfl, rfl⟩ ?_ ?_
     · exact ⟨rfl, rfl, rfl, rfl, trivial⟩
     · exact (Sub.refl _)
    ·refine AO.cG rfl rfl (bD (decide_eq_false hc9)) (Calm.move rfl rfl) ?_
     refine AO.cG (x := eBool (decide ((1000 : Int) < p1))) rfl rfl (bD (decide_eq_false hc9)) (Calm.int rfl rfl rfl rfl) ?_
     refine AO.c (Calm.pickF rfl (bD (decide_eq_false hc9)) rfl) ?_
     refine AO.c (Calm.move rfl rfl) ?_
     rcases of_ite hq6 with ⟨hc10, hq6⟩ | ⟨hc10, hq6⟩
     ·refine AO.sF rfl rfl (bD (decide_eq_true hc10)) ?_
      refine AO.sF rfl rfl (bD (decide_eq_true hc10)) ?_
      refine AO.c (Calm.pickT rfl (bD (decide_eq_true hc10)) rfl) ?_
      refine AO.c (Calm.move rfl rfl) ?_
      refine AO.sF rfl rfl rfl ?_
      refine AO.sF rfl rfl rfl ?_
      refine AO.c (Calm.pickT rfl rfl rfl) ?_
      cases hq6
      refine AO.nilE ⟨rfl, rfl⟩ ?_ ?_
      · exact ⟨rfl, rfl, rfl, rfl, trivial⟩
      · exact (Sub.refl _)
     ·refine AO.cG rfl rfl (bD (decide_eq_false hc10)) (Calm.move rfl rfl) ?_
      refine AO.cG (x := eBool (decide (p2 < (0 : Int)))) rfl rfl (bD (decide_eq_false hc10)) (Calm.int rfl rfl rfl rfl) ?_
      refine AO.c (Calm.pickF rfl (bD (decide_eq_false hc10)) rfl) ?_
      refine AO.c (Calm.move rfl rfl) ?_
      rcases of_ite hq6 with ⟨hc11, hq6⟩ | ⟨hc11, hq6⟩
      ·refine AO.sF rfl rfl (bD (decide_eq_true hc11)) ?_
       refine AO.sF rfl rfl (bD (decide_eq_true hc11)) ?_
       refine AO.c (Calm.pickT rfl (bD (decide_eq_true hc11)) rfl) ?_
       cases hq6
       refine AO.nilE ⟨rfl, rfl⟩ ?_ ?_
       · exact ⟨rfl, rfl, rfl, rfl, trivial⟩
       · exact (Sub.refl _)
      ·refine AO.cG rfl rfl (bD (decide_eq_false hc11)) (Calm.move rfl rfl) ?_
       refine AO.cG (x := eBool (decide ((1073741824 : Int) < p2))) rfl rfl (bD (decide_eq_false hc11)) (Calm.int rfl rfl rfl rfl) ?_
       refine AO.c (Calm.pickF rfl (bD (decide_eq_false hc11)) rfl) ?_
       cases hq6
       refine AO.nilE ⟨rfl, rfl⟩ ?_ ?_
       · exact ⟨rfl, rfl, rfl, rfl, trivial⟩
       · exact (Sub.refl _)
  ·rcases of_ite h with ⟨hc12, h⟩ | ⟨hc12, h⟩
   ·refine AW.condT' _ rfl hc12 ?_
    refine AW.sr ?_
    refine AO.c (Calm.assign rfl rfl) ?_
    refine AO.nH [6] (H' := []) (Sub.nil _) ?_
    refine AW.rK [6] ?_
    have hr := Option.some.inj h
    subst hr
    exact ⟨[(eI64 (0 : Int))], ⟨rfl, rfl, trivial⟩, rfl⟩
   ·refine AW.condF' _ rfl hc12 ?_
    refine AW.sK [1, 2, 3] ?_
    refine AW.sr ?_
    refine AO.c (x := .ptr n4 256) (Calm.fldPtr rfl rfl Try.underlying30 rfl sz28 _ rfl) ?_
    refine AO.c (Calm.load 0 rfl rfl rfl (At.cast (At.fldS (At.fld0 At.here)) rfl) ag28 sz28) ?_
    refine AO.c (Calm.lenL rfl rfl Try.underlying28) ?_
    obtain ⟨hg14, h⟩ := of_guard h
    refine AO.makeL (f := eI64) (0 : Int) rfl 35 rfl (by decide) rfl rfl rfl Try.underlying25 sz3 by3 zr3 lay3 rfl hg14 fun n13 => ?_
    refine AO.c (Calm.assign rfl rfl) ?_
    refine AO.nH [1, 2, 3, 7] (H' := [(n4, (.mem (e30 p0))), (n13, (.mem (.ar 1 ((List.replicate (p0.f1.length : Int).toNat (0 : Int)).map eI64))))]) (Sub.cons 1 rfl (Sub.cons 0 rfl (Sub.nil _))) ?_
    refine AW.seq_mid (fun ρ H => ∃ (x15 : (List Int)), ρ = [(1, (eI64 p1)), (2, (eI64 p2)), (3, (.ptr n4 0)), (7, (.own n13 0 x15.length))] ∧ H = [(n4, (.mem (e30 p0))), (n13, (.mem (.ar 1 (x15.map eI64))))] ∧ lang_Count_c8 k p0 p1 p2 x15 = some r) ?_ ?_
    ·refine AW.sr ?_
     refine AO.c (Calm.move rfl rfl) ?_
     refine AO.c (Calm.lenOwn rfl rfl Try.underlying25) ?_
     refine AO.c (Calm.move rfl rfl) ?_
     refine AO.nK [1, 2, 3, 7, 37, 38] ?_
     refine AW.block ?_
     refine AW.wK [1, 2, 3, 7, 37, 38] ?_
     refine AW.loop (fun kq ρ H => ∃ (x47 : (List Int)) (x48 : Int), ρ = [(1, (eI64 p1)), (2, (eI64 p2)), (3, (.ptr n4 0)), (7, (.own n13 0 x47.length)), (37, (eI64 ((List.replicate (p0.f1.length : Int).toNat (0 : Int)).length : Int))), (38, (eI64 x48))] ∧ H = [(n4, (.mem (e30 p0))), (n13, (.mem (.ar 1 (x47.map eI64))))] ∧ lang_Count_l10 k p0 p1 p2 kq x47 x48 = some r) k ⟨(List.replicate (p0.f1.length : Int).toNat (0 : Int)), (0 : Int), rfl, rfl, h⟩ ?_
     rintro kq50 _ _ ⟨x47, x48, rfl, rfl, h⟩
     cases kq50 with
     | zero => rw [lang_Count_l10.eq_1] at h; cases h
     | succ kq50 =>
     rw [lang_Count_l10.eq_2] at h
     generalize hrec49 : lang_Count_l10 k p0 p1 p2 kq50 = rec49 at h
     refine AW.sr ?_
     refine AO.c (x := eBool (decide (x48 < ((List.replicate (p0.f1.length : Int).toNat (0 : Int)).length : Int)))) (Calm.int rfl rfl rfl rfl) ?_
     refine AO.nK [1, 2, 3, 7, 37, 38, 39] ?_
     refine AW.seq ?_
     rcases of_ite h with ⟨hc51, h⟩ | ⟨hc51, h⟩
     ·refine AW.condP _ rfl hc51 ?_
      refine AW.sK [1, 2, 3, 7, 37, 38] ?_
      refine AW.seq_mid (fun ρ H => ∃ (x52 : (List Int)), ρ = [(1, (eI64 p1)), (2, (eI64 p2)), (3, (.ptr n4 0)), (7, (.own n13 0 x52.length)), (37, (eI64 ((List.replicate (p0.f1.length : Int).toNat (0 : Int)).length : Int))), (38, (eI64 x48))] ∧ H = [(n4, (.mem (e30 p0))), (n13, (.mem (.ar 1 (x52.map eI64))))] ∧ lang_Count_c9 k rec49 x48 x52 = some r) ?_ ?_
      ·refine AW.block ?_
       refine AW.sr ?_
       refine AO.c (Calm.move rfl rfl) ?_
       refine AO.c (Calm.assign rfl rfl) ?_
       refine AO.nK [1, 2, 3, 7, 8, 37, 38] ?_
       refine AW.sr ?_
       refine AO.c (Calm.load 0 rfl rfl rfl (At.cast At.here rfl) ag30 sz30) ?_
       refine AO.c (Calm.move rfl rfl) ?_
       obtain ⟨t53, et53, h⟩ := of_bind h
       refine AO.callS [(e30 p0), (eI64 x48)] (eI64 t53) 43 rfl (by decide) ok85 rfl rfl rfl ⟨rfl, rfl, rfl, rfl, trivial⟩ (dfa_Mark_spec et53) ?_
       refine AO.c (x := eBool (decide ((0 : Int) ≤ t53))) (Calm.int rfl rfl rfl rfl) ?_
       refine AO.nK [1, 2, 3, 7, 8, 37, 38, 44] ?_
       rcases of_ite h with ⟨hc54, h⟩ | ⟨hc54, h⟩
       ·refine AW.condP _ rfl hc54 ?_
        refine AW.reg ?_
        refine AO.c (Calm.move rfl rfl) ?_
        refine AO.c (Calm.move rfl rfl) ?_
        refine AO.c (Calm.move rfl rfl) ?_
        refine AO.c (x := eI64 (min (1 : Int) p2)) (Calm.min2 rfl rfl rfl) ?_
        obtain ⟨hg55, h⟩ := of_guard h
        refine AO.c (Calm.idxO 1 rfl rfl rfl rfl hg55 Try.underlying25 sz3) ?_
        refine AO.store (X' := (.ar 1 ((lset x47 x48 (min (1 : Int) p2)).map eI64))) 1 rfl rfl rfl rfl rfl rfl (Put.cast (Put.lidx x48 (min (1 : Int) p2) hg55.1 hg55.2 Put.here) (by omega)) rfl rfl sz3 rfl ?_
        refine AO.coe 7 (y' := (.own n13 0 (lset x47 x48 (min (1 : Int) p2)).length)) rfl (fun _ _ h => lset_own h) ?_
        refine AO.coe 45 (y' := (.own n13 0 (lset x47 x48 (min (1 : Int) p2)).length)) rfl (fun _ _ h => lset_own h) ?_
        refine AO.nK [1, 2, 3, 7, 37, 38] ?_
        exact ⟨(lset x47 x48 (min (1 : Int) p2)), rfl, rfl, h⟩
       ·refine AW.condN _ rfl hc54 ?_
        refine AW.sK [1, 2, 3, 7, 37, 38] ?_
        exact ⟨x47, rfl, rfl, h⟩
      ·rintro _ _ ⟨x52, rfl, rfl, h⟩
       rw [lang_Count_c9.eq_1] at h
       refine AW.reg ?_
       refine AO.c (x := eI64 (w64 (x48 + (1 : Int)))) (Calm.int rfl rfl rfl rfl) ?_
       refine AO.c (Calm.move rfl rfl) ?_
       refine AO.nK [1, 2, 3, 7, 37, 38] ?_
       exact ⟨kq50, Nat.lt_succ_self _, x52, (w64 (x48 + (1 : Int))), rfl, rfl, by rw [hrec49]; exact h⟩
     ·refine AW.condN _ rfl hc51 ?_
      refine AW.eK [1, 2, 3, 7] ?_
      exact ⟨x47, rfl, rfl, h⟩
    ·rintro _ _ ⟨x15, rfl, rfl, h⟩
     rw [lang_Count_c8.eq_1] at h
     refine AW.seq_mid (fun ρ H => ∃ (n16 : Nat) (x17 : (List Int)), ρ = [(7, (.own n16 0 x17.length))] ∧ H = [(n16, (.mem (.ar 1 (x17.map eI64))))] ∧ lang_Count_c0 k x17 = some r) ?_ ?_
     ·refine AW.sr ?_
      refine AO.c (Calm.move rfl rfl) ?_
      refine AO.c (Calm.move rfl rfl) ?_
      refine AO.nK [2, 3, 7, 51, 52] ?_
      refine AW.block ?_
      refine AW.wK [2, 3, 7, 51, 52] ?_
      refine AW.loop (fun kq ρ H => ∃ (n19 : Nat) (x20 : (List Int)) (x21 : Int), ρ = [(2, (eI64 p2)), (3, (.ptr n4 0)), (7, (.own n19 0 x20.length)), (51, (eI64 p1)), (52, (eI64 x21))] ∧ H = [(n4, (.mem (e30 p0))), (n19, (.mem (.ar 1 (x20.map eI64))))] ∧ lang_Count_l7 k p0 p1 p2 kq x20 x21 = some r) k ⟨n13, x15, (0 : Int), rfl, rfl, h⟩ ?_
      rintro kq23 _ _ ⟨n19, x20, x21, rfl, rfl, h⟩
      cases kq23 with
      | zero => rw [lang_Count_l7.eq_1] at h; cases h
      | succ kq23 =>
      rw [lang_Count_l7.eq_2] at h
      generalize hrec22 : lang_Count_l7 k p0 p1 p2 kq23 = rec22 at h
      refine AW.sr ?_
      refine AO.c (x := eBool (decide (x21 < p1))) (Calm.int rfl rfl rfl rfl) ?_
      refine AO.nK [2, 3, 7, 51, 52, 53] ?_
      refine AW.seq ?_
      rcases of_ite h with ⟨hc24, h⟩ | ⟨hc24, h⟩
      ·refine AW.condP _ rfl hc24 ?_
       refine AW.sK [2, 3, 7, 51, 52] ?_
       refine AW.seq_mid (fun ρ H => ∃ (n25 : Nat) (x26 : (List Int)), ρ = [(2, (eI64 p2)), (3, (.ptr n4 0)), (7, (.own n25 0 x26.length)), (51, (eI64 p1)), (52, (eI64 x21))] ∧ H = [(n4, (.mem (e30 p0))), (n25, (.mem (.ar 1 (x26.map eI64))))] ∧ lang_Count_c1 k rec22 x21 x26 = some r) ?_ ?_
       ·refine AW.block ?_
        refine AW.sr ?_
        refine AO.c (Calm.move rfl rfl) ?_
        refine AO.c (Calm.lenOwn rfl rfl Try.underlying25) ?_
        obtain ⟨hg28, h⟩ := of_guard h
        refine AO.makeL (f := eI64) (0 : Int) rfl 56 rfl (by decide) rfl rfl rfl Try.underlying25 sz3 by3 zr3 lay3 rfl hg28 fun n27 => ?_
        refine AO.c (Calm.assign rfl rfl) ?_
        refine AO.nH [2, 3, 7, 9, 51, 52] (H' := [(n4, (.mem (e30 p0))), (n19, (.mem (.ar 1 (x20.map eI64)))), (n27, (.mem (.ar 1 ((List.replicate (x20.length : Int).toNat (0 : Int)).map eI64))))]) (Sub.cons 1 rfl (Sub.cons 1 rfl (Sub.cons 0 rfl (Sub.nil _)))) ?_
        refine AW.seq_mid (fun ρ H => ∃ (x29 : (List Int)), ρ = [(2, (eI64 p2)), (3, (.ptr n4 0)), (9, (.own n27 0 x29.length)), (51, (eI64 p1)), (52, (eI64 x21))] ∧ H = [(n4, (.mem (e30 p0))), (n27, (.mem (.ar 1 (x29.map eI64))))] ∧ lang_Count_c2 k rec22 x21 x29 = some r) ?_ ?_
        ·refine AW.sr ?_
         refine AO.c (Calm.move rfl rfl) ?_
         refine AO.c (Calm.lenOwn rfl rfl Try.underlying25) ?_
         refine AO.c (Calm.move rfl rfl) ?_
         refine AO.nK [2, 3, 7, 9, 51, 52, 58, 59] ?_
         refine AW.block ?_
         refine AW.wK [2, 3, 7, 9, 51, 52, 58, 59] ?_
         refine AW.loop (fun kq ρ H => ∃ (x30 : (List Int)) (x31 : Int), ρ = [(2, (eI64 p2)), (3, (.ptr n4 0)), (7, (.own n19 0 x20.length)), (9, (.own n27 0 x30.length)), (51, (eI64 p1)), (52, (eI64 x21)), (58, (eI64 ((List.replicate (x20.length : Int).toNat (0 : Int)).length : Int))), (59, (eI64 x31))] ∧ H = [(n4, (.mem (e30 p0))), (n19, (.mem (.ar 1 (x20.map eI64)))), (n27, (.mem (.ar 1 (x30.map eI64))))] ∧ lang_Count_l6 k rec22 p0 p2 x20 x21 kq x30 x31 = some r) k ⟨(List.replicate (x20.length : Int).toNat (0 : Int)), (0 : Int), rfl, rfl, h⟩ ?_
         rintro kq33 _ _ ⟨x30, x31, rfl, rfl, h⟩
         cases kq33 with
         | zero => rw [lang_Count_l6.eq_1] at h; cases h
         | succ kq33 =>
         rw [lang_Count_l6.eq_2] at h
         generalize hrec32 : lang_Count_l6 k rec22 p0 p2 x20 x21 kq33 = rec32 at h
         refine AW.sr ?_
         refine AO.c (x := eBool (decide (x31 < ((List.replicate (x20.length : Int).toNat (0 : Int)).length : Int)))) (Calm.int rfl rfl rfl rfl) ?_
         refine AO.nK [2, 3, 7, 9, 51, 52, 58, 59, 60] ?_
         refine AW.seq ?_
         rcases of_ite h with ⟨hc34, h⟩ | ⟨hc34, h⟩
         ·refine AW.condP _ rfl hc34 ?_
          refine AW.sK [2, 3, 7, 9, 51, 52, 58, 59] ?_
          refine AW.seq_mid (fun ρ H => ∃ (x35 : (List Int)), ρ = [(2, (eI64 p2)), (3, (.ptr n4 0)), (7, (.own n19 0 x20.length)), (9, (.own n27 0 x35.length)), (51, (eI64 p1)), (52, (eI64 x21)), (58, (eI64 ((List.replicate (x20.length : Int).toNat (0 : Int)).length : Int))), (59, (eI64 x31))] ∧ H = [(n4, (.mem (e30 p0))), (n19, (.mem (.ar 1 (x20.map eI64)))), (n27, (.mem (.ar 1 (x35.map eI64))))] ∧ lang_Count_c3 k rec32 x31 x35 = some r) ?_ ?_
          ·refine AW.block ?_
           refine AW.sr ?_
           refine AO.c (Calm.move rfl rfl) ?_
           refine AO.c (Calm.assign rfl rfl) ?_
           refine AO.nK [2, 3, 7, 9, 10, 51, 52, 58, 59] ?_
           refine AW.sr ?_
           refine AO.c (Calm.move rfl rfl) ?_
           refine AO.nK [2, 3, 7, 9, 10, 51, 52, 58, 59, 62] ?_
           refine AW.block ?_
           refine AW.wK [2, 3, 7, 9, 10, 51, 52, 58, 59, 62] ?_
           refine AW.loop (fun kq ρ H => ∃ (x36 : (List Int)) (x37 : Int), ρ = [(2, (eI64 p2)), (3, (.ptr n4 0)), (7, (.own n19 0 x20.length)), (9, (.own n27 0 x36.length)), (10, (eI64 x31)), (51, (eI64 p1)), (52, (eI64 x21)), (58, (eI64 ((List.replicate (x20.length : Int).toNat (0 : Int)).length : Int))), (59, (eI64 x31)), (62, (eI64 x37))] ∧ H = [(n4, (.mem (e30 p0))), (n19, (.mem (.ar 1 (x20.map eI64)))), (n27, (.mem (.ar 1 (x36.map eI64))))] ∧ lang_Count_l5 k rec32 p0 p2 x20 x31 kq x36 x37 = some r) k ⟨x30, (0 : Int), rfl, rfl, h⟩ ?_
           rintro kq39 _ _ ⟨x36, x37, rfl, rfl, h⟩
           cases kq39 with
           | zero => rw [lang_Count_l5.eq_1] at h; cases h
           | succ kq39 =>
           rw [lang_Count_l5.eq_2] at h
           generalize hrec38 : lang_Count_l5 k rec32 p0 p2 x20 x31 kq39 = rec38 at h
           refine AW.sr ?_
           refine AO.c (x := eBool (decide (x37 < (256 : Int)))) (Calm.int rfl rfl rfl rfl) ?_
           refine AO.nK [2, 3, 7, 9, 10, 51, 52, 58, 59, 62, 63] ?_
           refine AW.seq ?_
           rcases of_ite h with ⟨hc40, h⟩ | ⟨hc40, h⟩
           ·refine AW.condP _ rfl hc40 ?_
            refine AW.sK [2, 3, 7, 9, 10, 51, 52, 58, 59, 62] ?_
            refine AW.seq_mid (fun ρ H => ∃ (x41 : (List Int)), ρ = [(2, (eI64 p2)), (3, (.ptr n4 0)), (7, (.own n19 0 x20.length)), (9, (.own n27 0 x41.length)), (10, (eI64 x31)), (51, (eI64 p1)), (52, (eI64 x21)), (58, (eI64 ((List.replicate (x20.length : Int).toNat (0 : Int)).length : Int))), (59, (eI64 x31)), (62, (eI64 x37))] ∧ H = [(n4, (.mem (e30 p0))), (n19, (.mem (.ar 1 (x20.map eI64)))), (n27, (.mem (.ar 1 (x41.map eI64))))] ∧ lang_Count_c4 k rec38 x37 x41 = some r) ?_ ?_
            ·refine AW.block ?_
             refine AW.sr ?_
             refine AO.c (Calm.move rfl rfl) ?_
             refine AO.c (Calm.assign rfl rfl) ?_
             refine AO.nK [2, 3, 7, 9, 10, 11, 51, 52, 58, 59, 62] ?_
             refine AW.sr ?_
             refine AO.c (Calm.load 0 rfl rfl rfl (At.cast At.here rfl) ag30 sz30) ?_
             refine AO.c (Calm.move rfl rfl) ?_
             refine AO.c (Calm.move rfl rfl) ?_
             refine AO.c (x := eU8 (w8 x37)) (Calm.conv rfl rfl Try.underlying3 Try.underlying5) ?_
             obtain ⟨t42, et42, h⟩ := of_bind h
             refine AO.callS [(e30 p0), (eI64 x31), (eU8 (w8 x37))] (eI64 t42) 69 rfl (by decide) ok97 rfl rfl rfl ⟨rfl, rfl, rfl, rfl, rfl, rfl, trivial⟩ (dfa_Step_spec et42) ?_
             refine AO.c (Calm.assign rfl rfl) ?_
             refine AO.nK [2, 3, 7, 9, 10, 12, 51, 52, 58, 59, 62] ?_
             refine AW.sr ?_
             refine AO.c (Calm.move rfl rfl) ?_
             refine AO.c (x := eBool (decide ((0 : Int) ≤ t42))) (Calm.int rfl rfl rfl rfl) ?_
             refine AO.nK [2, 3, 7, 9, 10, 12, 51, 52, 58, 59, 62, 71] ?_
             rcases of_ite h with ⟨hc43, h⟩ | ⟨hc43, h⟩
             ·refine AW.condP _ rfl hc43 ?_
              obtain ⟨hg44, h⟩ := of_guard h
              obtain ⟨hg45, h⟩ := of_guard h
              obtain ⟨hg46, h⟩ := of_guard h
              refine AW.regEff (by rfl) (by decide +kernel) (fun (σ : Nat → Nat) => ([(.own n27 0 x36.length), (eI64 x31), (.own n27 0 x36.length), (eI64 x31), (.ptr n27 (x31.toNat * 1 + 0)), (eI64 (lget x36 x31)), (.own n19 0 x20.length), (eI64 t42), (.ptr n19 (t42.toNat * 1 + 0)), (eI64 (lget x20 t42)), (eI64 (w64 ((lget x36 x31) + (lget x20 t42)))), (eI64 p2), (eI64 (min (w64 ((lget x36 x31) + (lget x20 t42))) p2)), (.ptr n27 (x31.toNat * 1 + 0)), (.fl undef)] : List AV)) (fun (L : Nat → Bool) (σ : Nat → Nat) => ((n4, (.mem (e30 p0))) :: (n19, (.mem (.ar 1 (x20.map eI64)))) :: (bif L 14 then ((n27, (.mem (.ar 1 ((lset x36 x31 (min (w64 ((lget x36 x31) + (lget x20 t42))) p2)).map eI64)))) :: []) else ((n27, (.mem (.ar 1 (x36.map eI64)))) :: [])) : Heap)) [(2, (eI64 p2)), (3, (.ptr n4 0)), (7, (.own n19 0 x20.length)), (9, (.own n27 0 x36.length)), (10, (eI64 x31)), (12, (eI64 t42)), (51, (eI64 p1)), (52, (eI64 x21)), (58, (eI64 ((List.replicate (x20.length : Int).toNat (0 : Int)).length : Int))), (59, (eI64 x31)), (62, (eI64 x37))] ⟨rfl, rfl, rfl, rfl, rfl, rfl, rfl, rfl, rfl, rfl, rfl, trivial⟩ (fun _ => rfl) (fun σ => (Sub.refl _)) ⟨?_, ?_, ?_, ?_, ?_, ?_, ?_, ?_, ?_, ?_, ?_, ?_, ?_, ?_, ?_, trivial⟩ (fun σ => [(2, (eI64 p2)), (3, (.ptr n4 0)), (7, (.own n19 0 x20.length)), (9, (.own n27 0 x36.length)), (10, (eI64 x31)), (51, (eI64 p1)), (52, (eI64 x21)), (58, (eI64 ((List.replicate (x20.length : Int).toNat (0 : Int)).length : Int))), (59, (eI64 x31)), (62, (eI64 x37))]) (fun σ => ((n4, (.mem (e30 p0))) :: (n19, (.mem (.ar 1 (x20.map eI64)))) :: (n27, (.mem (.ar 1 ((lset x36 x31 (min (w64 ((lget x36 x31) + (lget x20 t42))) p2)).map eI64)))) :: [])) (fun σ => ⟨rfl, rfl, rfl, rfl, rfl, rfl, rfl, rfl, rfl, rfl, trivial⟩) (fun σ => Sub.refl _) (fun σ => ?_)
              ·refine StepE.calm (fun _ _ => rfl) fun L σ hc hi hd => ?_
               have m14 : L 14 = false := hc.neg (i := 0) (j := 14) rfl (by rfl) hi
               refine AO.heq (H' := ((n4, (.mem (e30 p0))) :: (n19, (.mem (.ar 1 (x20.map eI64)))) :: (n27, (.mem (.ar 1 (x36.map eI64)))) :: [])) (by first | rfl | simp only [m14, cond_true, cond_false]) ?_
               refine AO.wK [9] ?_
               refine AO.c (Calm.move rfl rfl) ?_
               exact AO.nE (d := 72) rfl ⟨⟨72, _, rfl, rfl, rfl⟩, Sub.of_eq (by first | rfl | simp only [m14, cond_true, cond_false]) (Sub.refl _)⟩
              ·refine StepE.calm (fun _ _ => rfl) fun L σ hc hi hd => ?_
               refine AO.wK [10] ?_
               refine AO.c (Calm.move rfl rfl) ?_
               exact AO.nE (d := 73) rfl ⟨⟨73, _, rfl, rfl, rfl⟩, Sub.refl _⟩
              ·refine StepE.calm (fun _ _ => rfl) fun L σ hc hi hd => ?_
               have m14 : L 14 = false := hc.neg (i := 2) (j := 14) rfl (by rfl) hi
               refine AO.heq (H' := ((n4, (.mem (e30 p0))) :: (n19, (.mem (.ar 1 (x20.map eI64)))) :: (n27, (.mem (.ar 1 (x36.map eI64)))) :: [])) (by first | rfl | simp only [m14, cond_true, cond_false]) ?_
               refine AO.wK [9] ?_
               refine AO.c (Calm.move rfl rfl) ?_
               exact AO.nE (d := 74) rfl ⟨⟨74, _, rfl, rfl, rfl⟩, Sub.of_eq (by first | rfl | simp only [m14, cond_true, cond_false]) (Sub.refl _)⟩
              ·refine StepE.calm (fun _ _ => rfl) fun L σ hc hi hd => ?_
               refine AO.wK [10] ?_
               refine AO.c (Calm.move rfl rfl) ?_
               exact AO.nE (d := 75) rfl ⟨⟨75, _, rfl, rfl, rfl⟩, Sub.refl _⟩
              ·refine StepE.calm (fun _ _ => rfl) fun L σ hc hi hd => ?_
               have m14 : L 14 = false := hc.neg (i := 4) (j := 14) rfl (by rfl) hi
               refine AO.heq (H' := ((n4, (.mem (e30 p0))) :: (n19, (.mem (.ar 1 (x20.map eI64)))) :: (n27, (.mem (.ar 1 (x36.map eI64)))) :: [])) (by first | rfl | simp only [m14, cond_true, cond_false]) ?_
               refine AO.wK [74, 75] ?_
               refine AO.c (Calm.idxO 2 rfl rfl rfl rfl hg44 Try.underlying25 sz3) ?_
               exact AO.nE (d := 76) rfl ⟨⟨76, _, rfl, rfl, rfl⟩, Sub.of_eq (by first | rfl | simp only [m14, cond_true, cond_false]) (Sub.refl _)⟩
              ·refine StepE.calm (fun _ _ => rfl) fun L σ hc hi hd => ?_
               have m14 : L 14 = false := hc.neg (i := 5) (j := 14) rfl (by rfl) hi
               refine AO.heq (H' := ((n4, (.mem (e30 p0))) :: (n19, (.mem (.ar 1 (x20.map eI64)))) :: (n27, (.mem (.ar 1 (x36.map eI64)))) :: [])) (by first | rfl | simp only [m14, cond_true, cond_false]) ?_
               refine AO.wK [76] ?_
               refine AO.c (Calm.load 2 rfl rfl rfl (At.cast (At.lidx x31 hg44.1 hg44.2 At.here) (by omega)) ag3 sz3) ?_
               exact AO.nE (d := 77) rfl ⟨⟨77, _, rfl, rfl, rfl⟩, Sub.of_eq (by first | rfl | simp only [m14, cond_true, cond_false]) (Sub.refl _)⟩
              ·refine StepE.calm (fun _ _ => rfl) fun L σ hc hi hd => ?_
               refine AO.wK [7] ?_
               refine AO.c (Calm.move rfl rfl) ?_
               exact AO.nE (d := 78) rfl ⟨⟨78, _, rfl, rfl, rfl⟩, Sub.refl _⟩
              ·refine StepE.calm (fun _ _ => rfl) fun L σ hc hi hd => ?_
               refine AO.wK [12] ?_
               refine AO.c (Calm.move rfl rfl) ?_
               exact AO.nE (d := 79) rfl ⟨⟨79, _, rfl, rfl, rfl⟩, Sub.refl _⟩
              ·refine StepE.calm (fun _ _ => rfl) fun L σ hc hi hd => ?_
               refine AO.wK [78, 79] ?_
               refine AO.c (Calm.idxO 1 rfl rfl rfl rfl hg45 Try.underlying25 sz3) ?_
               exact AO.nE (d := 80) rfl ⟨⟨80, _, rfl, rfl, rfl⟩, Sub.refl _⟩
              ·refine StepE.calm (fun _ _ => rfl) fun L σ hc hi hd => ?_
               refine AO.wK [80] ?_
               refine AO.c (Calm.load 1 rfl rfl rfl (At.cast (At.lidx t42 hg45.1 hg45.2 At.here) (by omega)) ag3 sz3) ?_
               exact AO.nE (d := 81) rfl ⟨⟨81, _, rfl, rfl, rfl⟩, Sub.refl _⟩
              ·refine StepE.calm (fun _ _ => rfl) fun L σ hc hi hd => ?_
               refine AO.wK [77, 81] ?_
               refine AO.c (x := eI64 (w64 ((lget x36 x31) + (lget x20 t42)))) (Calm.int rfl rfl rfl rfl) ?_
               exact AO.nE (d := 82) rfl ⟨⟨82, _, rfl, rfl, rfl⟩, Sub.refl _⟩
              ·refine StepE.calm (fun _ _ => rfl) fun L σ hc hi hd => ?_
               refine AO.wK [2] ?_
               refine AO.c (Calm.move rfl rfl) ?_
               exact AO.nE (d := 83) rfl ⟨⟨83, _, rfl, rfl, rfl⟩, Sub.refl _⟩
              ·refine StepE.calm (fun _ _ => rfl) fun L σ hc hi hd => ?_
               refine AO.wK [82, 83] ?_
               refine AO.c (x := eI64 (min (w64 ((lget x36 x31) + (lget x20 t42))) p2)) (Calm.min2 rfl rfl rfl) ?_
               exact AO.nE (d := 84) rfl ⟨⟨84, _, rfl, rfl, rfl⟩, Sub.refl _⟩
              ·refine StepE.calm (fun _ _ => rfl) fun L σ hc hi hd => ?_
               have m14 : L 14 = false := hc.neg (i := 13) (j := 14) rfl (by rfl) hi
               refine AO.heq (H' := ((n4, (.mem (e30 p0))) :: (n19, (.mem (.ar 1 (x20.map eI64)))) :: (n27, (.mem (.ar 1 (x36.map eI64)))) :: [])) (by first | rfl | simp only [m14, cond_true, cond_false]) ?_
               refine AO.wK [72, 73] ?_
               refine AO.c (Calm.idxO 2 rfl rfl rfl rfl hg46 Try.underlying25 sz3) ?_
               exact AO.nE (d := 85) rfl ⟨⟨85, _, rfl, rfl, rfl⟩, Sub.of_eq (by first | rfl | simp only [m14, cond_true, cond_false]) (Sub.refl _)⟩
              ·intro L σ hc hi hd
               refine AO.heq (H' := ((n4, (.mem (e30 p0))) :: (n19, (.mem (.ar 1 (x20.map eI64)))) :: (n27, (.mem (.ar 1 (x36.map eI64)))) :: [])) (by first | rfl | simp only [hi, cond_true, cond_false]) ?_
               refine AO.wK [84, 85] ?_
               refine AO.store (X' := (.ar 1 ((lset x36 x31 (min (w64 ((lget x36 x31) + (lget x20 t42))) p2)).map eI64))) 2 rfl rfl rfl rfl rfl rfl (Put.cast (Put.lidx x31 (min (w64 ((lget x36 x31) + (lget x20 t42))) p2) hg46.1 hg46.2 Put.here) (by omega)) rfl rfl sz3 rfl ?_
               have a14 : addL L 14 14 = true := rfl
               exact AO.n0 ⟨σ, (fun _ _ => rfl), (fun d' hd' => by cases hd'), Sub.of_eq (B := ((n4, (.mem (e30 p0))) :: (n19, (.mem (.ar 1 (x20.map eI64)))) :: (n27, (.mem (.ar 1 ((lset x36 x31 (min (w64 ((lget x36 x31) + (lget x20 t42))) p2)).map eI64)))) :: [])) (by simp only [a14, cond_true, cond_false]) (Sub.refl _)⟩
              ·refine AO.coe 9 (y' := (.own n27 0 (lset x36 x31 (min (w64 ((lget x36 x31) + (lget x20 t42))) p2)).length)) rfl (fun _ _ h => own_len (by simp [lset, lcopy_len]) h) ?_
               refine AO.nK [2, 3, 7, 9, 10, 51, 52, 58, 59, 62] ?_
               exact ⟨(lset x36 x31 (min (w64 ((lget x36 x31) + (lget x20 t42))) p2)), rfl, rfl, h⟩
             ·refine AW.condN _ rfl hc43 ?_
              refine AW.sK [2, 3, 7, 9, 10, 51, 52, 58, 59, 62] ?_
              exact ⟨x36, rfl, rfl, h⟩
            ·rintro _ _ ⟨x41, rfl, rfl, h⟩
             rw [lang_Count_c4.eq_1] at h
             refine AW.reg ?_
             refine AO.c (x := eI64 (w64 (x37 + (1 : Int)))) (Calm.int rfl rfl rfl rfl) ?_
             refine AO.c (Calm.move rfl rfl) ?_
             refine AO.nK [2, 3, 7, 9, 10, 51, 52, 58, 59, 62] ?_
             exact ⟨kq39, Nat.lt_succ_self _, x41, (w64 (x37 + (1 : Int))), rfl, rfl, by rw [hrec38]; exact h⟩
           ·refine AW.condN _ rfl hc40 ?_
            refine AW.eK [2, 3, 7, 9, 51, 52, 58, 59] ?_
            exact ⟨x36, rfl, rfl, h⟩
          ·rintro _ _ ⟨x35, rfl, rfl, h⟩
           rw [lang_Count_c3.eq_1] at h
           refine AW.reg ?_
           refine AO.c (x := eI64 (w64 (x31 + (1 : Int)))) (Calm.int rfl rfl rfl rfl) ?_
           refine AO.c (Calm.move rfl rfl) ?_
           refine AO.nK [2, 3, 7, 9, 51, 52, 58, 59] ?_
           exact ⟨kq33, Nat.lt_succ_self _, x35, (w64 (x31 + (1 : Int))), rfl, rfl, by rw [hrec32]; exact h⟩
         ·refine AW.condN _ rfl hc34 ?_
          refine AW.eH [2, 3, 9, 51, 52] (H' := [(n4, (.mem (e30 p0))), (n27, (.mem (.ar 1 (x30.map eI64))))]) (Sub.cons 0 rfl (Sub.cons 1 rfl (Sub.nil _))) ?_
          exact ⟨x30, rfl, rfl, h⟩
        ·rintro _ _ ⟨x29, rfl, rfl, h⟩
         rw [lang_Count_c2.eq_1] at h
         refine AW.reg ?_
         refine AO.c (Calm.move rfl rfl) ?_
         refine AO.c (Calm.assign rfl rfl) ?_
         refine AO.nK [2, 3, 7, 51, 52] ?_
         exact ⟨n27, x29, rfl, rfl, h⟩
       ·rintro _ _ ⟨n25, x26, rfl, rfl, h⟩
        rw [lang_Count_c1.eq_1] at h
        refine AW.reg ?_
        refine AO.c (x := eI64 (w64 (x21 + (1 : Int)))) (Calm.int rfl rfl rfl rfl) ?_
        refine AO.c (Calm.move rfl rfl) ?_
        refine AO.nK [2, 3, 7, 51, 52] ?_
        exact ⟨kq23, Nat.lt_succ_self _, n25, x26, (w64 (x21 + (1 : Int))), rfl, rfl, by rw [hrec22]; exact h⟩
      ·refine AW.condN _ rfl hc24 ?_
       refine AW.eH [7] (H' := [(n19, (.mem (.ar 1 (x20.map eI64))))]) (Sub.cons 1 rfl (Sub.nil _)) ?_
       exact ⟨n19, x20, rfl, rfl, h⟩
     ·rintro _ _ ⟨n16, x17, rfl, rfl, h⟩
      rw [lang_Count_c0.eq_1] at h
      refine AW.sr ?_
      refine AO.c (Calm.move rfl rfl) ?_
      obtain ⟨hg18, h⟩ := of_guard h
      refine AO.c (Calm.idxO 0 rfl rfl rfl rfl hg18 Try.underlying25 sz3) ?_
      refine AO.c (Calm.load 0 rfl rfl rfl (At.cast (At.lidx (0 : Int) hg18.1 hg18.2 At.here) (by omega)) ag3 sz3) ?_
      refine AO.c (Calm.assign rfl rfl) ?_
      refine AO.nH [6] (H' := []) (Sub.nil _) ?_
      refine AW.rK [6] ?_
      have hr := Option.some.inj h
      subst hr
      exact ⟨[(eI64 (lget x17 (0 : Int)))], ⟨rfl, rfl, trivial⟩, rfl⟩
end Go.Avl.T5
