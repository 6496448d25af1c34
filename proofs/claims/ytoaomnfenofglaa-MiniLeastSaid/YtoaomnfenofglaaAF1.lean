/- Parts: T5B, T5f90, T5f91, T5f64, T5f85, T5f92, T5f93, T5f66. -/
import Derived.Test.YtoaomnfenofglaaAv3
import Derived.Test.YtoaomnfenofglaaProg
/- Types and facts; printed by avmain.py. -/
namespace Go.Avl.T5
open Go Go.RowKit Go.Proofs Go.Avl
set_option linter.unusedVariables false
set_option maxRecDepth 100000
set_option maxHeartbeats 4000000
structure S43 where
  f0 : Int
  f1 : Int
  f2 : (Vector Int 4)
  f3 : Bool
deriving Inhabited, DecidableEq
structure S24 where
  f0 : Int
  f1 : (List S43)
  f2 : Int
  f3 : Int
deriving Inhabited, DecidableEq
abbrev e27 (v : Vector Int 256) : AV := .ar 1 (v.toList.map eU8)
abbrev e49 (l : List Bool) : AV := .fz 1 (l.map eBool)
abbrev e25 (l : List Int) : AV := .fz 1 (l.map eI64)
structure S30 where
  f0 : (Vector Int 256)
  f1 : (List (List Int))
  f2 : (List Int)
deriving Inhabited, DecidableEq
abbrev e30 (x : S30) : AV := .st [(256, (.ar 1 (x.f0.toList.map eU8))), (1, (.fz 1 (x.f1.map e25))), (1, (.fz 1 (x.f2.map eI64)))]
abbrev e78 (l : List (List Bool)) : AV := .fz 1 (l.map e49)
theorem sz3 : tySize Try.prog 3 = some 1 := by rfl
theorem ag3 : tyAgg Try.prog 3 = some false := by rfl
theorem sz4 : tySize Try.prog 4 = some 1 := by rfl
theorem ag4 : tyAgg Try.prog 4 = some false := by rfl
theorem sz5 : tySize Try.prog 5 = some 1 := by rfl
theorem zr5 : tyZero Try.prog 5 = some ([.int .u8 0]) := by rfl
theorem lay5 : ∀ g, Sim g (eU8 (0 : Int)) ([.int .u8 0]) := fun g => (lay_fl rfl)
theorem ag5 : tyAgg Try.prog 5 = some false := by rfl
theorem zr3 : tyZero Try.prog 3 = some ([.int .i64 0]) := by rfl
theorem mz3 : ∀ g, ∃ zv, ((Try.prog.info? 3).bind (·.zero)) = some zv ∧ V1 g (eI64 (0 : Int)) zv := fun g => ⟨_, rfl, rfl⟩
theorem ag27 : tyAgg Try.prog 27 = some true := by rfl
theorem sz27 : tySize Try.prog 27 = some 256 := by rfl
theorem by4 : tyBytes Try.prog 4 = some 1 := by rfl
theorem zr4 : tyZero Try.prog 4 = some ([.bool false]) := by rfl
theorem lay4 : ∀ g, Sim g (eBool false) ([.bool false]) := fun g => (lay_fl rfl)
theorem sz25 : tySize Try.prog 25 = some 1 := by rfl
theorem ag25 : tyAgg Try.prog 25 = some false := by rfl
theorem sz49 : tySize Try.prog 49 = some 1 := by rfl
theorem zr49 : tyZero Try.prog 49 = some ([.slice none 0 0]) := by rfl
theorem lay49 : ∀ g, Sim g (.fl (.slice none 0 0)) ([.slice none 0 0]) := fun g => (lay_fl rfl)
theorem by49 : tyBytes Try.prog 49 = some 24 := by rfl
theorem sz30 : tySize Try.prog 30 = some 258 := by rfl
theorem lay3 : ∀ g, Sim g (eI64 (0 : Int)) ([.int .i64 0]) := fun g => (lay_fl rfl)
theorem by3 : tyBytes Try.prog 3 = some 8 := by rfl
theorem zr30 : tyZero Try.prog 30 = some (((List.replicate 256 (.int .u8 0)) ++ ([.slice none 0 0] ++ ([.slice none 0 0] ++ [])))) := by rfl
theorem lay30 : ∀ g, Sim g (.st [(256, (.ar 1 ((Vector.replicate 256 (0 : Int)).toList.map eU8))), (1, (.fl (.slice none 0 0))), (1, (.fl (.slice none 0 0)))]) (((List.replicate 256 (.int .u8 0)) ++ ([.slice none 0 0] ++ ([.slice none 0 0] ++ [])))) := fun g => (Sim.stCons (lay_vec1 (lay_fl rfl)) rfl (Sim.stCons (lay_fl rfl) rfl (Sim.stCons (lay_fl rfl) rfl Sim.stNil)))
theorem ag30 : tyAgg Try.prog 30 = some true := by rfl
theorem ag49 : tyAgg Try.prog 49 = some false := by rfl
theorem sz28 : tySize Try.prog 28 = some 1 := by rfl
theorem ag28 : tyAgg Try.prog 28 = some false := by rfl
theorem zr25 : tyZero Try.prog 25 = some ([.slice none 0 0]) := by rfl
theorem lay25 : ∀ g, Sim g (.fl (.slice none 0 0)) ([.slice none 0 0]) := fun g => (lay_fl rfl)
theorem by25 : tyBytes Try.prog 25 = some 24 := by rfl
theorem eqa27 (x y : (Vector Int 256)) : EqOK Try.prog 2 27 (.ar 1 (x.toList.map eU8)) (.ar 1 (y.toList.map eU8)) (decide (x = y)) := EqOK.vec (m := 1) Try.underlying27 (fun a b => EqOK.int Try.underlying5) (fun _ => ag5) (fun _ => sz5) (fun _ => rfl) (by rfl) ⟨_, rfl⟩ x y
theorem eg27 : Try.prog.eqGuardType Try.prog.depth 27 = false := by decide +kernel
theorem ag9 : tyAgg Try.prog 9 = some false := by rfl
theorem ok85 : FnOK Try.prog 85 := FnOK.mk Try.func85 rfl rfl
theorem ok92 : FnOK Try.prog 92 := FnOK.mk Try.func92 rfl rfl
theorem ok93 : FnOK Try.prog 93 := FnOK.mk Try.func93 rfl rfl
theorem ok66 : FnOK Try.prog 66 := FnOK.mk Try.func66 rfl rfl
theorem ok60 : FnOK Try.prog 60 := FnOK.mk Try.func60 rfl rfl
theorem ok59 : FnOK Try.prog 59 := FnOK.mk Try.func59 rfl rfl
theorem ok74 : FnOK Try.prog 74 := FnOK.mk Try.func74 rfl rfl
theorem ok42 : FnOK Try.prog 42 := FnOK.mk Try.func42 rfl rfl
theorem ok41 : FnOK Try.prog 41 := FnOK.mk Try.func41 rfl rfl
theorem ok24 : FnOK Try.prog 24 := FnOK.mk Try.func24 rfl rfl
theorem ok25 : FnOK Try.prog 25 := FnOK.mk Try.func25 rfl rfl
theorem ok90 : FnOK Try.prog 90 := FnOK.mk Try.func90 rfl rfl
theorem ok91 : FnOK Try.prog 91 := FnOK.mk Try.func91 rfl rfl
theorem ok103 : FnOK Try.prog 103 := FnOK.mk Try.func103 rfl rfl
theorem ok95 : FnOK Try.prog 95 := FnOK.mk Try.func95 rfl rfl
theorem ok64 : FnOK Try.prog 64 := FnOK.mk Try.func64 rfl rfl
theorem ok69 : FnOK Try.prog 69 := FnOK.mk Try.func69 rfl rfl
theorem ok68 : FnOK Try.prog 68 := FnOK.mk Try.func68 rfl rfl
theorem ok94 : FnOK Try.prog 94 := FnOK.mk Try.func94 rfl rfl
theorem ok65 : FnOK Try.prog 65 := FnOK.mk Try.func65 rfl rfl
theorem ok34 : FnOK Try.prog 34 := FnOK.mk Try.func34 rfl rfl
theorem ok67 : FnOK Try.prog 67 := FnOK.mk Try.func67 rfl rfl
theorem ok33 : FnOK Try.prog 33 := FnOK.mk Try.func33 rfl rfl
theorem ok32 : FnOK Try.prog 32 := FnOK.mk Try.func32 rfl rfl
theorem ok36 : FnOK Try.prog 36 := FnOK.mk Try.func36 rfl rfl
theorem ok71 : FnOK Try.prog 71 := FnOK.mk Try.func71 rfl rfl
theorem ok96 : FnOK Try.prog 96 := FnOK.mk Try.func96 rfl rfl
theorem ok72 : FnOK Try.prog 72 := FnOK.mk Try.func72 rfl rfl
theorem ok73 : FnOK Try.prog 73 := FnOK.mk Try.func73 rfl rfl
theorem ok70 : FnOK Try.prog 70 := FnOK.mk Try.func70 rfl rfl
theorem ok37 : FnOK Try.prog 37 := FnOK.mk Try.func37 rfl rfl
theorem ok38 : FnOK Try.prog 38 := FnOK.mk Try.func38 rfl rfl
theorem ok39 : FnOK Try.prog 39 := FnOK.mk Try.func39 rfl rfl
theorem ok40 : FnOK Try.prog 40 := FnOK.mk Try.func40 rfl rfl
end Go.Avl.T5
/- bosket/byteset.Count; printed by avmain.py. -/
namespace Go.Avl.T5
open Go Go.RowKit Go.Proofs Go.Avl
set_option linter.unusedVariables false
set_option maxRecDepth 100000
set_option maxHeartbeats 4000000
attribute [local irreducible] AW AO AQ Spec SpecH Calm

def byteset_Count_c0 (k : Nat) (x3 : Int) : Option Int :=
  some (x3)
def byteset_Count_l1 (k : Nat) (p0 : (Vector Int 256)) : Nat → Int → Int → Option Int
  | 0, _, _ => none
  | j + 1, x4, x5 =>
    if x5 < (256 : Int) then if 0 ≤ x5 ∧ x5 < (256 : Int) then (byteset_Count_l1 k p0 j) (max x4 (w64 ((w64 (vget p0 x5)) + (1 : Int)))) (w64 (x5 + (1 : Int)))
    else none
    else byteset_Count_c0 k x4
def byteset_Count (k : Nat) (p0 : (Vector Int 256)) : Option Int :=
  byteset_Count_l1 k p0 k (0 : Int) (0 : Int)
theorem byteset_Count_spec {k : Nat} {p0 : (Vector Int 256)} {r : Int} (h : byteset_Count k p0 = some r) : Spec Try.prog 90 [(.ar 1 (p0.toList.map eU8))] (eI64 r) := by
  rw [byteset_Count.eq_1] at h
  refine Spec.intro (res := [.tmp 2]) Try.func90 rfl rfl rfl (Nat.le_of_ble_eq_true rfl) ?_
  refine AW.sr ?_
  refine AO.box rfl 1 rfl (by decide) rfl rfl rfl fun n2 => ?_
  refine AO.c (Calm.assign rfl rfl) ?_
  refine AO.nK [1] ?_
  refine AW.sr ?_
  refine AO.c (Calm.assign rfl rfl) ?_
  refine AO.nK [1, 3] ?_
  refine AW.seq_mid (fun ρ H => ∃ (x3 : Int), ρ = [(3, (eI64 x3))] ∧ H = [] ∧ byteset_Count_c0 k x3 = some r) ?_ ?_
  ·refine AW.sr ?_
   refine AO.c (Calm.load 0 rfl rfl rfl (At.cast At.here rfl) ag27 (by rw [sz27]; simp [AV.size])) ?_
   refine AO.c (Calm.move rfl rfl) ?_
   refine AO.nH [3, 6, 7] (H' := []) (Sub.nil _) ?_
   refine AW.block ?_
   refine AW.wK [3, 6, 7] ?_
   refine AW.loop (fun kq ρ H => ∃ (x4 : Int) (x5 : Int), ρ = [(3, (eI64 x4)), (6, (.ar 1 (p0.toList.map eU8))), (7, (eI64 x5))] ∧ H = [] ∧ byteset_Count_l1 k p0 kq x4 x5 = some r) k ⟨(0 : Int), (0 : Int), rfl, rfl, h⟩ ?_
   rintro kq7 _ _ ⟨x4, x5, rfl, rfl, h⟩
   cases kq7 with
   | zero => rw [byteset_Count_l1.eq_1] at h; cases h
   | succ kq7 =>
   rw [byteset_Count_l1.eq_2] at h
   generalize hrec6 : byteset_Count_l1 k p0 kq7 = rec6 at h
   refine AW.sr ?_
   refine AO.c (x := eBool (decide (x5 < (256 : Int)))) (Calm.int rfl rfl rfl rfl) ?_
   refine AO.nK [3, 6, 7, 8] ?_
   refine AW.seq ?_
   rcases of_ite h with ⟨hc8, h⟩ | ⟨hc8, h⟩
   ·refine AW.condP _ rfl hc8 ?_
    refine AW.sK [3, 6, 7] ?_
    refine AW.seq ?_
    refine AW.block ?_
    refine AW.sr ?_
    obtain ⟨hg9, h⟩ := of_guard h
    refine AO.c (x := eU8 (vget p0 x5)) (Calm.idxVv (f := eU8) rfl rfl rfl hg9 Try.underlying27 sz5 ag5 rfl) ?_
    refine AO.c (Calm.assign rfl rfl) ?_
    refine AO.nK [3, 5, 6, 7] ?_
    refine AW.reg ?_
    refine AO.c (Calm.move rfl rfl) ?_
    refine AO.c (Calm.move rfl rfl) ?_
    refine AO.c (x := eI64 (w64 (vget p0 x5))) (Calm.conv rfl rfl Try.underlying5 Try.underlying3) ?_
    refine AO.c (x := eI64 (w64 ((w64 (vget p0 x5)) + (1 : Int)))) (Calm.int rfl rfl rfl rfl) ?_
    refine AO.c (x := eI64 (max x4 (w64 ((w64 (vget p0 x5)) + (1 : Int))))) (Calm.max2 rfl rfl rfl) ?_
    refine AO.c (Calm.assign rfl rfl) ?_
    refine AO.nK [3, 6, 7] ?_
    refine AW.reg ?_
    refine AO.c (x := eI64 (w64 (x5 + (1 : Int)))) (Calm.int rfl rfl rfl rfl) ?_
    refine AO.c (Calm.move rfl rfl) ?_
    refine AO.nK [3, 6, 7] ?_
    exact ⟨kq7, Nat.lt_succ_self _, (max x4 (w64 ((w64 (vget p0 x5)) + (1 : Int)))), (w64 (x5 + (1 : Int))), rfl, rfl, by rw [hrec6]; exact h⟩
   ·refine AW.condN _ rfl hc8 ?_
    refine AW.eK [3] ?_
    exact ⟨x4, rfl, rfl, h⟩
  ·rintro _ _ ⟨x3, rfl, rfl, h⟩
   rw [byteset_Count_c0.eq_1] at h
   refine AW.sr ?_
   refine AO.c (Calm.move rfl rfl) ?_
   refine AO.c (Calm.assign rfl rfl) ?_
   refine AO.nK [2] ?_
   refine AW.rK [2] ?_
   have hr := Option.some.inj h
   subst hr
   exact ⟨[(eI64 x3)], ⟨rfl, rfl, trivial⟩, rfl⟩
end Go.Avl.T5
/- bosket/dfa.gapless; printed by avmain.py. -/
namespace Go.Avl.T5
open Go Go.RowKit Go.Proofs Go.Avl
set_option linter.unusedVariables false
set_option maxRecDepth 100000
set_option maxHeartbeats 4000000
attribute [local irreducible] AW AO AQ Spec SpecH Calm

def dfa_gapless_c0 (k : Nat) : Option Bool :=
  some (true)
def dfa_gapless_l1 (k : Nat) (x6 : (List Bool)) : Nat → Int → Option Bool
  | 0, _ => none
  | j + 1, x7 =>
    if x7 < (x6.length : Int) then if 0 ≤ x7 ∧ x7 < (x6.length : Int) then if (!(lget x6 x7)) = true then some (false)
    else (dfa_gapless_l1 k x6 j) (w64 (x7 + (1 : Int)))
    else none
    else dfa_gapless_c0 k
def dfa_gapless_c2 (k : Nat) (x6 : (List Bool)) : Option Bool :=
  dfa_gapless_l1 k x6 k (0 : Int)
def dfa_gapless_l3 (k : Nat) (p0 : (Vector Int 256)) : Nat → (List Bool) → Int → Option Bool
  | 0, _, _ => none
  | j + 1, x13, x14 =>
    if x14 < (256 : Int) then if 0 ≤ x14 ∧ x14 < (256 : Int) then if 0 ≤ (vget p0 x14) ∧ (vget p0 x14) < (x13.length : Int) then (dfa_gapless_l3 k p0 j) (lset x13 (vget p0 x14) true) (w64 (x14 + (1 : Int)))
    else none
    else none
    else dfa_gapless_c2 k x13
def dfa_gapless (k : Nat) (p0 : (Vector Int 256)) (p1 : Int) : Option Bool :=
  if 0 ≤ p1 ∧ p1 * (1 : Int) ≤ 140737488355328 ∧ p1 ≤ 9223372036854775807 then dfa_gapless_l3 k p0 k (List.replicate p1.toNat false) (0 : Int)
  else none
theorem dfa_gapless_spec {k : Nat} {p0 : (Vector Int 256)} {p1 : Int} {r : Bool} (h : dfa_gapless k p0 p1 = some r) : Spec Try.prog 91 [(.ar 1 (p0.toList.map eU8)), (eI64 p1)] (eBool r) := by
  rw [dfa_gapless.eq_1] at h
  refine Spec.intro (res := [.tmp 4]) Try.func91 rfl rfl rfl (Nat.le_of_ble_eq_true rfl) ?_
  refine AW.sr ?_
  refine AO.box rfl 2 rfl (by decide) rfl rfl rfl fun n3 => ?_
  refine AO.c (Calm.assign rfl rfl) ?_
  refine AO.nK [1, 2] ?_
  refine AW.sr ?_
  refine AO.c (Calm.move rfl rfl) ?_
  obtain ⟨hg5, h⟩ := of_guard h
  refine AO.makeL (f := eBool) false rfl 11 rfl (by decide) rfl rfl rfl Try.underlying49 sz4 by4 zr4 lay4 rfl hg5 fun n4 => ?_
  refine AO.c (Calm.assign rfl rfl) ?_
  refine AO.nH [2, 5] (H' := [(n3, (.mem (.ar 1 (p0.toList.map eU8)))), (n4, (.mem (.ar 1 ((List.replicate p1.toNat false).map eBool))))]) (Sub.cons 1 rfl (Sub.cons 0 rfl (Sub.nil _))) ?_
  refine AW.seq_mid (fun ρ H => ∃ (x6 : (List Bool)), ρ = [(5, (.own n4 0 x6.length))] ∧ H = [(n4, (.mem (.ar 1 (x6.map eBool))))] ∧ dfa_gapless_c2 k x6 = some r) ?_ ?_
  ·refine AW.sr ?_
   refine AO.c (Calm.load 0 rfl rfl rfl (At.cast At.here rfl) ag27 (by rw [sz27]; simp [AV.size])) ?_
   refine AO.c (Calm.move rfl rfl) ?_
   refine AO.nH [5, 12, 13] (H' := [(n4, (.mem (.ar 1 ((List.replicate p1.toNat false).map eBool))))]) (Sub.cons 1 rfl (Sub.nil _)) ?_
   refine AW.block ?_
   refine AW.wK [5, 12, 13] ?_
   refine AW.loop (fun kq ρ H => ∃ (x13 : (List Bool)) (x14 : Int), ρ = [(5, (.own n4 0 x13.length)), (12, (.ar 1 (p0.toList.map eU8))), (13, (eI64 x14))] ∧ H = [(n4, (.mem (.ar 1 (x13.map eBool))))] ∧ dfa_gapless_l3 k p0 kq x13 x14 = some r) k ⟨(List.replicate p1.toNat false), (0 : Int), rfl, rfl, h⟩ ?_
   rintro kq16 _ _ ⟨x13, x14, rfl, rfl, h⟩
   cases kq16 with
   | zero => rw [dfa_gapless_l3.eq_1] at h; cases h
   | succ kq16 =>
   rw [dfa_gapless_l3.eq_2] at h
   generalize hrec15 : dfa_gapless_l3 k p0 kq16 = rec15 at h
   refine AW.sr ?_
   refine AO.c (x := eBool (decide (x14 < (256 : Int)))) (Calm.int rfl rfl rfl rfl) ?_
   refine AO.nK [5, 12, 13, 14] ?_
   refine AW.seq ?_
   rcases of_ite h with ⟨hc17, h⟩ | ⟨hc17, h⟩
   ·refine AW.condP _ rfl hc17 ?_
    refine AW.sK [5, 12, 13] ?_
    refine AW.seq ?_
    refine AW.block ?_
    refine AW.sr ?_
    obtain ⟨hg18, h⟩ := of_guard h
    refine AO.c (x := eU8 (vget p0 x14)) (Calm.idxVv (f := eU8) rfl rfl rfl hg18 Try.underlying27 sz5 ag5 rfl) ?_
    refine AO.c (Calm.assign rfl rfl) ?_
    refine AO.nK [5, 7, 12, 13] ?_
    refine AW.reg ?_
    refine AO.c (Calm.move rfl rfl) ?_
    refine AO.c (Calm.move rfl rfl) ?_
    obtain ⟨hg19, h⟩ := of_guard h
    refine AO.c (Calm.idxO 0 rfl rfl rfl rfl hg19 Try.underlying49 sz4) ?_
    refine AO.store (X' := (.ar 1 ((lset x13 (vget p0 x14) true).map eBool))) 0 rfl rfl rfl rfl rfl rfl (Put.cast (Put.lidx (vget p0 x14) true hg19.1 hg19.2 Put.here) (by omega)) rfl rfl sz4 rfl ?_
    refine AO.coe 5 (y' := (.own n4 0 (lset x13 (vget p0 x14) true).length)) rfl (fun _ _ h => lset_own h) ?_
    refine AO.coe 16 (y' := (.own n4 0 (lset x13 (vget p0 x14) true).length)) rfl (fun _ _ h => lset_own h) ?_
    refine AO.nK [5, 12, 13] ?_
    refine AW.reg ?_
    refine AO.c (x := eI64 (w64 (x14 + (1 : Int)))) (Calm.int rfl rfl rfl rfl) ?_
    refine AO.c (Calm.move rfl rfl) ?_
    refine AO.nK [5, 12, 13] ?_
    exact ⟨kq16, Nat.lt_succ_self _, (lset x13 (vget p0 x14) true), (w64 (x14 + (1 : Int))), rfl, rfl, by rw [hrec15]; exact h⟩
   ·refine AW.condN _ rfl hc17 ?_
    refine AW.eK [5] ?_
    exact ⟨x13, rfl, rfl, h⟩
  ·rintro _ _ ⟨x6, rfl, rfl, h⟩
   rw [dfa_gapless_c2.eq_1] at h
   refine AW.seq_mid (fun ρ H => ρ = [] ∧ H = [] ∧ dfa_gapless_c0 k = some r) ?_ ?_
   ·refine AW.sr ?_
    refine AO.c (Calm.move rfl rfl) ?_
    refine AO.c (Calm.lenOwn rfl rfl Try.underlying49) ?_
    refine AO.c (Calm.move rfl rfl) ?_
    refine AO.nK [20, 21, 22] ?_
    refine AW.block ?_
    refine AW.wK [20, 21, 22] ?_
    refine AW.loop (fun kq ρ H => ∃ (x7 : Int), ρ = [(20, (.own n4 0 x6.length)), (21, (eI64 (x6.length : Int))), (22, (eI64 x7))] ∧ H = [(n4, (.mem (.ar 1 (x6.map eBool))))] ∧ dfa_gapless_l1 k x6 kq x7 = some r) k ⟨(0 : Int), rfl, rfl, h⟩ ?_
    rintro kq9 _ _ ⟨x7, rfl, rfl, h⟩
    cases kq9 with
    | zero => rw [dfa_gapless_l1.eq_1] at h; cases h
    | succ kq9 =>
    rw [dfa_gapless_l1.eq_2] at h
    generalize hrec8 : dfa_gapless_l1 k x6 kq9 = rec8 at h
    refine AW.sr ?_
    refine AO.c (x := eBool (decide (x7 < (x6.length : Int)))) (Calm.int rfl rfl rfl rfl) ?_
    refine AO.nK [20, 21, 22, 23] ?_
    refine AW.seq ?_
    rcases of_ite h with ⟨hc10, h⟩ | ⟨hc10, h⟩
    ·refine AW.condP _ rfl hc10 ?_
     refine AW.sK [20, 21, 22] ?_
     refine AW.seq ?_
     refine AW.block ?_
     refine AW.sr ?_
     obtain ⟨hg11, h⟩ := of_guard h
     refine AO.c (Calm.idxO 0 rfl rfl rfl rfl hg11 Try.underlying49 sz4) ?_
     refine AO.c (Calm.load 0 rfl rfl rfl (At.cast (At.lidx x7 hg11.1 hg11.2 At.here) (by omega)) ag4 sz4) ?_
     refine AO.c (Calm.assign rfl rfl) ?_
     refine AO.nK [9, 20, 21, 22] ?_
     refine AW.sr ?_
     refine AO.c (Calm.move rfl rfl) ?_
     refine AO.c (Calm.not rfl rfl) ?_
     refine AO.nK [20, 21, 22, 27] ?_
     rcases of_ite h with ⟨hc12, h⟩ | ⟨hc12, h⟩
     ·refine AW.condT' _ rfl hc12 ?_
      refine AW.sr ?_
      refine AO.c (Calm.assign rfl rfl) ?_
      refine AO.nH [4] (H' := []) (Sub.nil _) ?_
      refine AW.rK [4] ?_
      have hr := Option.some.inj h
      subst hr
      exact ⟨[(eBool false)], ⟨rfl, rfl, trivial⟩, rfl⟩
     ·refine AW.condF' _ rfl hc12 ?_
      refine AW.sK [20, 21, 22] ?_
      refine AW.reg ?_
      refine AO.c (x := eI64 (w64 (x7 + (1 : Int)))) (Calm.int rfl rfl rfl rfl) ?_
      refine AO.c (Calm.move rfl rfl) ?_
      refine AO.nK [20, 21, 22] ?_
      exact ⟨kq9, Nat.lt_succ_self _, (w64 (x7 + (1 : Int))), rfl, rfl, by rw [hrec8]; exact h⟩
    ·refine AW.condN _ rfl hc10 ?_
     refine AW.eH [] (H' := []) (Sub.nil _) ?_
     exact ⟨rfl, rfl, h⟩
   ·rintro _ _ ⟨rfl, rfl, h⟩
    rw [dfa_gapless_c0.eq_1] at h
    refine AW.sr ?_
    refine AO.c (Calm.assign rfl rfl) ?_
    refine AO.nK [4] ?_
    refine AW.rK [4] ?_
    have hr := Option.some.inj h
    subst hr
    exact ⟨[(eBool true)], ⟨rfl, rfl, trivial⟩, rfl⟩
end Go.Avl.T5
/- bosket/dfa.Right; printed by avmain.py. -/
namespace Go.Avl.T5
open Go Go.RowKit Go.Proofs Go.Avl
set_option linter.unusedVariables false
set_option maxRecDepth 100000
set_option maxHeartbeats 4000000
attribute [local irreducible] AW AO AQ Spec SpecH Calm

def dfa_Right_c0 (k : Nat) : Option Bool :=
  some (true)
def dfa_Right_c1 (k : Nat) (rec12 : (Int → Option Bool)) (x11 : Int) : Option Bool :=
  rec12 (w64 (x11 + (1 : Int)))
def dfa_Right_l2 (k : Nat) (rec12 : (Int → Option Bool)) (p0 : S30) (x11 : Int) : Nat → Int → Option Bool
  | 0, _ => none
  | j + 1, x23 =>
    if x23 < ((lget p0.f1 x11).length : Int) then if 0 ≤ x23 ∧ x23 < ((lget p0.f1 x11).length : Int) then Option.bind (α := Bool) (if (lget (lget p0.f1 x11) x23) < (-1 : Int) then some (true)
    else some (decide ((p0.f1.length : Int) ≤ (lget (lget p0.f1 x11) x23)))) fun b28 =>
    if b28 = true then some (false)
    else (dfa_Right_l2 k rec12 p0 x11 j) (w64 (x23 + (1 : Int)))
    else none
    else dfa_Right_c1 k rec12 x11
def dfa_Right_l3 (k : Nat) (p0 : S30) (t8 : Int) : Nat → Int → Option Bool
  | 0, _ => none
  | j + 1, x11 =>
    if x11 < (p0.f1.length : Int) then if 0 ≤ x11 ∧ x11 < (p0.f1.length : Int) then Option.bind (α := Bool) (if ((lget p0.f1 x11).length : Int) ≠ t8 then some (true)
    else if 0 ≤ x11 ∧ x11 < (p0.f2.length : Int) then if (lget p0.f2 x11) < (-1 : Int) then some (true)
    else if 0 ≤ x11 ∧ x11 < (p0.f2.length : Int) then some (decide ((32768 : Int) ≤ (lget p0.f2 x11)))
    else none
    else none) fun b16 =>
    if b16 = true then some (false)
    else dfa_Right_l2 k (dfa_Right_l3 k p0 t8 j) p0 x11 k (0 : Int)
    else none
    else dfa_Right_c0 k
def dfa_Right (k : Nat) (p0 : S30) : Option Bool :=
  Option.bind (α := Bool) (if (p0.f1.length : Int) = (0 : Int) then some (true)
  else if (32768 : Int) < (p0.f1.length : Int) then some (true)
  else some (decide ((p0.f2.length : Int) ≠ (p0.f1.length : Int)))) fun b3 =>
  if b3 = true then some (false)
  else (byteset_Count k p0.f0).bind fun t8 =>
  (dfa_gapless k p0.f0 t8).bind fun t9 =>
  if (!t9) = true then some (false)
  else dfa_Right_l3 k p0 t8 k (0 : Int)
theorem dfa_Right_spec {k : Nat} {p0 : S30} {r : Bool} (h : dfa_Right k p0 = some r) : Spec Try.prog 64 [(e30 p0)] (eBool r) := by
  rw [dfa_Right.eq_1] at h
  refine Spec.intro (res := [.tmp 2]) Try.func64 rfl rfl rfl (Nat.le_of_ble_eq_true rfl) ?_
  refine AW.sr ?_
  refine AO.box rfl 1 rfl (by decide) rfl rfl rfl fun n2 => ?_
  refine AO.c (Calm.assign rfl rfl) ?_
  refine AO.nK [1] ?_
  refine AW.sr ?_
  refine AO.c (x := .ptr n2 256) (Calm.fldPtr rfl rfl Try.underlying30 rfl sz28 _ rfl) ?_
  refine AO.c (Calm.load 0 rfl rfl rfl (At.cast (At.fldS (At.fld0 At.here)) rfl) ag28 sz28) ?_
  refine AO.c (Calm.lenL rfl rfl Try.underlying28) ?_
  refine AO.c (Calm.assign rfl rfl) ?_
  refine AO.nK [1, 3] ?_
  refine AW.seq ?_
  refine AW.seq ?_
  obtain ⟨b3, hq4, h⟩ := of_bind h
  refine AW.regM [(1, (.ptr n2 0)), (3, (eI64 (p0.f1.length : Int))), (24, (eBool b3))] [(n2, (.mem (e30 p0)))] ?_ ?_
  ·refine AO.c (Calm.move rfl rfl) ?_
   refine AO.c (x := eBool (decide ((p0.f1.length : Int) = (0 : Int)))) (Calm.int rfl rfl rfl rfl) ?_
   refine AO.c (Calm.move rfl rfl) ?_
   rcases of_ite hq4 with ⟨hc5, hq4⟩ | ⟨hc5, hq4⟩
   ·refine AO.sF rfl rfl (bD (decide_eq_true hc5)) ?_
    refine AO.sF rfl rfl (bD (decide_eq_true hc5)) ?_
    refine AO.c (Calm.pickT rfl (bD (decide_eq_true hc5)) rfl) ?_
    refine AO.c (Calm.move rfl rfl) ?_
    refine AO.sF rfl rfl rfl ?_
    refine AO.sF rfl rfl rfl ?_
    refine AO.sF rfl rfl rfl ?_
    refine AO.sF rfl rfl rfl ?_
    refine AO.sF rfl rfl rfl ?_
    refine AO.c (Calm.pickT rfl rfl rfl) ?_
    cases hq4
    refine AO.nilE ⟨rfl, rfl⟩ ?_ ?_
    · exact ⟨rfl, rfl, rfl, trivial⟩
    · exact (Sub.refl _)
   ·refine AO.cG rfl rfl (bD (decide_eq_false hc5)) (Calm.move rfl rfl) ?_
    refine AO.cG (x := eBool (decide ((32768 : Int) < (p0.f1.length : Int)))) rfl rfl (bD (decide_eq_false hc5)) (Calm.int rfl rfl rfl rfl) ?_
    refine AO.c (Calm.pickF rfl (bD (decide_eq_false hc5)) rfl) ?_
    refine AO.c (Calm.move rfl rfl) ?_
    rcases of_ite hq4 with ⟨hc6, hq4⟩ | ⟨hc6, hq4⟩
    ·refine AO.sF rfl rfl (bD (decide_eq_true hc6)) ?_
     refine AO.sF rfl rfl (bD (decide_eq_true hc6)) ?_
     refine AO.sF rfl rfl (bD (decide_eq_true hc6)) ?_
     refine AO.sF rfl rfl (bD (decide_eq_true hc6)) ?_
     refine AO.sF rfl rfl (bD (decide_eq_true hc6)) ?_
     refine AO.c (Calm.pickT rfl (bD (decide_eq_true hc6)) rfl) ?_
     cases hq4
     refine AO.nilE ⟨rfl, rfl⟩ ?_ ?_
     · exact ⟨rfl, rfl, rfl, trivial⟩
     · exact (Sub.refl _)
    ·refine AO.cG (x := .ptr n2 257) rfl rfl (bD (decide_eq_false hc6)) (Calm.fldPtr rfl rfl Try.underlying30 rfl sz25 _ rfl) ?_
     refine AO.cG rfl rfl (bD (decide_eq_false hc6)) (Calm.load 0 rfl rfl rfl (At.cast (At.fldS (At.fldS (At.fld0 At.here))) rfl) ag25 sz25) ?_
     refine AO.cG rfl rfl (bD (decide_eq_false hc6)) (Calm.lenL rfl rfl Try.underlying25) ?_
     refine AO.cG rfl rfl (bD (decide_eq_false hc6)) (Calm.move rfl rfl) ?_
     refine AO.cG (x := eBool (decide ((p0.f2.length : Int) ≠ (p0.f1.length : Int)))) rfl rfl (bD (decide_eq_false hc6)) (Calm.int rfl rfl rfl rfl) ?_
     refine AO.c (Calm.pickF rfl (bD (decide_eq_false hc6)) rfl) ?_
     cases hq4
     refine AO.nilE ⟨rfl, rfl⟩ ?_ ?_
     · exact ⟨rfl, rfl, rfl, trivial⟩
     · exact (Sub.refl _)
  ·rcases of_ite h with ⟨hc7, h⟩ | ⟨hc7, h⟩
   ·refine AW.condT' _ rfl hc7 ?_
    refine AW.sr ?_
    refine AO.c (Calm.assign rfl rfl) ?_
    refine AO.nH [2] (H' := []) (Sub.nil _) ?_
    refine AW.rK [2] ?_
    have hr := Option.some.inj h
    subst hr
    exact ⟨[(eBool false)], ⟨rfl, rfl, trivial⟩, rfl⟩
   ·refine AW.condF' _ rfl hc7 ?_
    refine AW.sK [1, 3] ?_
    refine AW.sr ?_
    refine AO.c (x := .ptr n2 0) (Calm.fldPtr rfl rfl Try.underlying30 rfl sz27 _ rfl) ?_
    refine AO.c (Calm.load 0 rfl rfl rfl (At.cast (At.fld0 At.here) rfl) ag27 (by rw [sz27]; simp [AV.size])) ?_
    obtain ⟨t8, et8, h⟩ := of_bind h
    refine AO.callS [(.ar 1 (p0.f0.toList.map eU8))] (eI64 t8) 27 rfl (by decide) ok90 rfl rfl rfl ⟨rfl, rfl, trivial⟩ (byteset_Count_spec et8) ?_
    refine AO.c (Calm.assign rfl rfl) ?_
    refine AO.nK [1, 3, 4] ?_
    refine AW.seq ?_
    refine AW.sr ?_
    refine AO.c (x := .ptr n2 0) (Calm.fldPtr rfl rfl Try.underlying30 rfl sz27 _ rfl) ?_
    refine AO.c (Calm.load 0 rfl rfl rfl (At.cast (At.fld0 At.here) rfl) ag27 (by rw [sz27]; simp [AV.size])) ?_
    refine AO.c (Calm.move rfl rfl) ?_
    obtain ⟨t9, et9, h⟩ := of_bind h
    refine AO.callS [(.ar 1 (p0.f0.toList.map eU8)), (eI64 t8)] (eBool t9) 31 rfl (by decide) ok91 rfl rfl rfl ⟨rfl, rfl, rfl, rfl, trivial⟩ (dfa_gapless_spec et9) ?_
    refine AO.c (Calm.not rfl rfl) ?_
    refine AO.nK [1, 3, 4, 32] ?_
    rcases of_ite h with ⟨hc10, h⟩ | ⟨hc10, h⟩
    ·refine AW.condT' _ rfl hc10 ?_
     refine AW.sr ?_
     refine AO.c (Calm.assign rfl rfl) ?_
     refine AO.nH [2] (H' := []) (Sub.nil _) ?_
     refine AW.rK [2] ?_
     have hr := Option.some.inj h
     subst hr
     exact ⟨[(eBool false)], ⟨rfl, rfl, trivial⟩, rfl⟩
    ·refine AW.condF' _ rfl hc10 ?_
     refine AW.sK [1, 3, 4] ?_
     refine AW.seq_mid (fun ρ H => ρ = [] ∧ H = [] ∧ dfa_Right_c0 k = some r) ?_ ?_
     ·refine AW.sr ?_
      refine AO.c (x := .ptr n2 256) (Calm.fldPtr rfl rfl Try.underlying30 rfl sz28 _ rfl) ?_
      refine AO.c (Calm.load 0 rfl rfl rfl (At.cast (At.fldS (At.fld0 At.here)) rfl) ag28 sz28) ?_
      refine AO.c (Calm.lenL rfl rfl Try.underlying28) ?_
      refine AO.c (Calm.move rfl rfl) ?_
      refine AO.nK [1, 3, 4, 34, 35, 36] ?_
      refine AW.block ?_
      refine AW.wK [1, 3, 4, 34, 35, 36] ?_
      refine AW.loop (fun kq ρ H => ∃ (x11 : Int), ρ = [(1, (.ptr n2 0)), (3, (eI64 (p0.f1.length : Int))), (4, (eI64 t8)), (34, (.fz 1 (p0.f1.map e25))), (35, (eI64 (p0.f1.length : Int))), (36, (eI64 x11))] ∧ H = [(n2, (.mem (e30 p0)))] ∧ dfa_Right_l3 k p0 t8 kq x11 = some r) k ⟨(0 : Int), rfl, rfl, h⟩ ?_
      rintro kq13 _ _ ⟨x11, rfl, rfl, h⟩
      cases kq13 with
      | zero => rw [dfa_Right_l3.eq_1] at h; cases h
      | succ kq13 =>
      rw [dfa_Right_l3.eq_2] at h
      generalize hrec12 : dfa_Right_l3 k p0 t8 kq13 = rec12 at h
      refine AW.sr ?_
      refine AO.c (x := eBool (decide (x11 < (p0.f1.length : Int)))) (Calm.int rfl rfl rfl rfl) ?_
      refine AO.nK [1, 3, 4, 34, 35, 36, 37] ?_
      refine AW.seq ?_
      rcases of_ite h with ⟨hc14, h⟩ | ⟨hc14, h⟩
      ·refine AW.condP _ rfl hc14 ?_
       refine AW.sK [1, 3, 4, 34, 35, 36] ?_
       refine AW.seq_mid (fun ρ H => ρ = [(1, (.ptr n2 0)), (3, (eI64 (p0.f1.length : Int))), (4, (eI64 t8)), (34, (.fz 1 (p0.f1.map e25))), (35, (eI64 (p0.f1.length : Int))), (36, (eI64 x11))] ∧ H = [(n2, (.mem (e30 p0)))] ∧ dfa_Right_c1 k rec12 x11 = some r) ?_ ?_
       ·refine AW.block ?_
        refine AW.sr ?_
        refine AO.c (Calm.move rfl rfl) ?_
        obtain ⟨hg15, h⟩ := of_guard h
        refine AO.c (Calm.idxL (f := e25) rfl rfl rfl hg15 Try.underlying28 sz25) ?_
        refine AO.c (Calm.loadRp rfl rfl ag25 sz25) ?_
        refine AO.c (Calm.assign rfl rfl) ?_
        refine AO.c (Calm.assign rfl rfl) ?_
        refine AO.nK [1, 3, 4, 5, 6, 34, 35, 36] ?_
        refine AW.seq ?_
        refine AW.seq ?_
        obtain ⟨b16, hq17, h⟩ := of_bind h
        refine AW.regM [(1, (.ptr n2 0)), (3, (eI64 (p0.f1.length : Int))), (4, (eI64 t8)), (6, (.fz 1 ((lget p0.f1 x11).map eI64))), (34, (.fz 1 (p0.f1.map e25))), (35, (eI64 (p0.f1.length : Int))), (36, (eI64 x11)), (60, (eBool b16))] [(n2, (.mem (e30 p0)))] ?_ ?_
        ·refine AO.c (Calm.move rfl rfl) ?_
         refine AO.c (Calm.lenL rfl rfl Try.underlying25) ?_
         refine AO.c (Calm.move rfl rfl) ?_
         refine AO.c (x := eBool (decide (((lget p0.f1 x11).length : Int) ≠ t8))) (Calm.int rfl rfl rfl rfl) ?_
         refine AO.c (Calm.move rfl rfl) ?_
         rcases of_ite hq17 with ⟨hc18, hq17⟩ | ⟨hc18, hq17⟩
         ·refine AO.sF rfl rfl (bD (decide_eq_true hc18)) ?_
          refine AO.sF rfl rfl (bD (decide_eq_true hc18)) ?_
          refine AO.sF rfl rfl (bD (decide_eq_true hc18)) ?_
          refine AO.sF rfl rfl (bD (decide_eq_true hc18)) ?_
          refine AO.sF rfl rfl (bD (decide_eq_true hc18)) ?_
          refine AO.sF rfl rfl (bD (decide_eq_true hc18)) ?_
          refine AO.c (Calm.pickT rfl (bD (decide_eq_true hc18)) rfl) ?_
          refine AO.c (Calm.move rfl rfl) ?_
          refine AO.sF rfl rfl rfl ?_
          refine AO.sF rfl rfl rfl ?_
          refine AO.sF rfl rfl rfl ?_
          refine AO.sF rfl rfl rfl ?_
          refine AO.sF rfl rfl rfl ?_
          refine AO.sF rfl rfl rfl ?_
          refine AO.c (Calm.pickT rfl rfl rfl) ?_
          cases hq17
          refine AO.nilE ⟨rfl, rfl⟩ ?_ ?_
          · exact ⟨rfl, rfl, rfl, rfl, rfl, rfl, rfl, rfl, trivial⟩
          · exact (Sub.refl _)
         ·refine AO.cG (x := .ptr n2 257) rfl rfl (bD (decide_eq_false hc18)) (Calm.fldPtr rfl rfl Try.underlying30 rfl sz25 _ rfl) ?_
          refine AO.cG rfl rfl (bD (decide_eq_false hc18)) (Calm.load 0 rfl rfl rfl (At.cast (At.fldS (At.fldS (At.fld0 At.here))) rfl) ag25 sz25) ?_
          refine AO.cG rfl rfl (bD (decide_eq_false hc18)) (Calm.move rfl rfl) ?_
          obtain ⟨hg19, hq17⟩ := of_guard hq17
          refine AO.cG rfl rfl (bD (decide_eq_false hc18)) (Calm.idxL (f := eI64) rfl rfl rfl hg19 Try.underlying25 sz3) ?_
          refine AO.cG rfl rfl (bD (decide_eq_false hc18)) (Calm.loadRp rfl rfl ag3 sz3) ?_
          refine AO.cG (x := eBool (decide ((lget p0.f2 x11) < (-1 : Int)))) rfl rfl (bD (decide_eq_false hc18)) (Calm.int rfl rfl rfl rfl) ?_
          refine AO.c (Calm.pickF rfl (bD (decide_eq_false hc18)) rfl) ?_
          refine AO.c (Calm.move rfl rfl) ?_
          rcases of_ite hq17 with ⟨hc20, hq17⟩ | ⟨hc20, hq17⟩
          ·refine AO.sF rfl rfl (bD (decide_eq_true hc20)) ?_
           refine AO.sF rfl rfl (bD (decide_eq_true hc20)) ?_
           refine AO.sF rfl rfl (bD (decide_eq_true hc20)) ?_
           refine AO.sF rfl rfl (bD (decide_eq_true hc20)) ?_
           refine AO.sF rfl rfl (bD (decide_eq_true hc20)) ?_
           refine AO.sF rfl rfl (bD (decide_eq_true hc20)) ?_
           refine AO.c (Calm.pickT rfl (bD (decide_eq_true hc20)) rfl) ?_
           cases hq17
           refine AO.nilE ⟨rfl, rfl⟩ ?_ ?_
           · exact ⟨rfl, rfl, rfl, rfl, rfl, rfl, rfl, rfl, trivial⟩
           · exact (Sub.refl _)
          ·refine AO.cG (x := .ptr n2 257) rfl rfl (bD (decide_eq_false hc20)) (Calm.fldPtr rfl rfl Try.underlying30 rfl sz25 _ rfl) ?_
           refine AO.cG rfl rfl (bD (decide_eq_false hc20)) (Calm.load 0 rfl rfl rfl (At.cast (At.fldS (At.fldS (At.fld0 At.here))) rfl) ag25 sz25) ?_
           refine AO.cG rfl rfl (bD (decide_eq_false hc20)) (Calm.move rfl rfl) ?_
           obtain ⟨hg21, hq17⟩ := of_guard hq17
           refine AO.cG rfl rfl (bD (decide_eq_false hc20)) (Calm.idxL (f := eI64) rfl rfl rfl hg21 Try.underlying25 sz3) ?_
           refine AO.cG rfl rfl (bD (decide_eq_false hc20)) (Calm.loadRp rfl rfl ag3 sz3) ?_
           refine AO.cG (x := eBool (decide ((32768 : Int) ≤ (lget p0.f2 x11)))) rfl rfl (bD (decide_eq_false hc20)) (Calm.int rfl rfl rfl rfl) ?_
           refine AO.c (Calm.pickF rfl (bD (decide_eq_false hc20)) rfl) ?_
           cases hq17
           refine AO.nilE ⟨rfl, rfl⟩ ?_ ?_
           · exact ⟨rfl, rfl, rfl, rfl, rfl, rfl, rfl, rfl, trivial⟩
           · exact (Sub.refl _)
        ·rcases of_ite h with ⟨hc22, h⟩ | ⟨hc22, h⟩
         ·refine AW.condT' _ rfl hc22 ?_
          refine AW.sr ?_
          refine AO.c (Calm.assign rfl rfl) ?_
          refine AO.nH [2] (H' := []) (Sub.nil _) ?_
          refine AW.rK [2] ?_
          have hr := Option.some.inj h
          subst hr
          exact ⟨[(eBool false)], ⟨rfl, rfl, trivial⟩, rfl⟩
         ·refine AW.condF' _ rfl hc22 ?_
          refine AW.sK [1, 3, 4, 6, 34, 35, 36] ?_
          refine AW.sr ?_
          refine AO.c (Calm.move rfl rfl) ?_
          refine AO.c (Calm.lenL rfl rfl Try.underlying25) ?_
          refine AO.c (Calm.move rfl rfl) ?_
          refine AO.nK [1, 3, 4, 34, 35, 36, 61, 62, 63] ?_
          refine AW.block ?_
          refine AW.wK [1, 3, 4, 34, 35, 36, 61, 62, 63] ?_
          refine AW.loop (fun kq ρ H => ∃ (x23 : Int), ρ = [(1, (.ptr n2 0)), (3, (eI64 (p0.f1.length : Int))), (4, (eI64 t8)), (34, (.fz 1 (p0.f1.map e25))), (35, (eI64 (p0.f1.length : Int))), (36, (eI64 x11)), (61, (.fz 1 ((lget p0.f1 x11).map eI64))), (62, (eI64 ((lget p0.f1 x11).length : Int))), (63, (eI64 x23))] ∧ H = [(n2, (.mem (e30 p0)))] ∧ dfa_Right_l2 k rec12 p0 x11 kq x23 = some r) k ⟨(0 : Int), rfl, rfl, h⟩ ?_
          rintro kq25 _ _ ⟨x23, rfl, rfl, h⟩
          cases kq25 with
          | zero => rw [dfa_Right_l2.eq_1] at h; cases h
          | succ kq25 =>
          rw [dfa_Right_l2.eq_2] at h
          generalize hrec24 : dfa_Right_l2 k rec12 p0 x11 kq25 = rec24 at h
          refine AW.sr ?_
          refine AO.c (x := eBool (decide (x23 < ((lget p0.f1 x11).length : Int)))) (Calm.int rfl rfl rfl rfl) ?_
          refine AO.nK [1, 3, 4, 34, 35, 36, 61, 62, 63, 64] ?_
          refine AW.seq ?_
          rcases of_ite h with ⟨hc26, h⟩ | ⟨hc26, h⟩
          ·refine AW.condP _ rfl hc26 ?_
           refine AW.sK [1, 3, 4, 34, 35, 36, 61, 62, 63] ?_
           refine AW.seq ?_
           refine AW.block ?_
           refine AW.sr ?_
           obtain ⟨hg27, h⟩ := of_guard h
           refine AO.c (Calm.idxL (f := eI64) rfl rfl rfl hg27 Try.underlying25 sz3) ?_
           refine AO.c (Calm.loadRp rfl rfl ag3 sz3) ?_
           refine AO.c (Calm.assign rfl rfl) ?_
           refine AO.nK [1, 3, 4, 8, 34, 35, 36, 61, 62, 63] ?_
           refine AW.seq ?_
           obtain ⟨b28, hq29, h⟩ := of_bind h
           refine AW.regM [(1, (.ptr n2 0)), (3, (eI64 (p0.f1.length : Int))), (4, (eI64 t8)), (34, (.fz 1 (p0.f1.map e25))), (35, (eI64 (p0.f1.length : Int))), (36, (eI64 x11)), (61, (.fz 1 ((lget p0.f1 x11).map eI64))), (62, (eI64 ((lget p0.f1 x11).length : Int))), (63, (eI64 x23)), (73, (eBool b28))] [(n2, (.mem (e30 p0)))] ?_ ?_
           ·refine AO.c (Calm.move rfl rfl) ?_
            refine AO.c (x := eBool (decide ((lget (lget p0.f1 x11) x23) < (-1 : Int)))) (Calm.int rfl rfl rfl rfl) ?_
            refine AO.c (Calm.move rfl rfl) ?_
            rcases of_ite hq29 with ⟨hc30, hq29⟩ | ⟨hc30, hq29⟩
            ·refine AO.sF rfl rfl (bD (decide_eq_true hc30)) ?_
             refine AO.sF rfl rfl (bD (decide_eq_true hc30)) ?_
             refine AO.sF rfl rfl (bD (decide_eq_true hc30)) ?_
             refine AO.c (Calm.pickT rfl (bD (decide_eq_true hc30)) rfl) ?_
             cases hq29
             refine AO.nilE ⟨rfl, rfl⟩ ?_ ?_
             · exact ⟨rfl, rfl, rfl, rfl, rfl, rfl, rfl, rfl, rfl, rfl, trivial⟩
             · exact (Sub.refl _)
            ·refine AO.cG rfl rfl (bD (decide_eq_false hc30)) (Calm.move rfl rfl) ?_
             refine AO.cG rfl rfl (bD (decide_eq_false hc30)) (Calm.move rfl rfl) ?_
             refine AO.cG (x := eBool (decide ((p0.f1.length : Int) ≤ (lget (lget p0.f1 x11) x23)))) rfl rfl (bD (decide_eq_false hc30)) (Calm.int rfl rfl rfl rfl) ?_
             refine AO.c (Calm.pickF rfl (bD (decide_eq_false hc30)) rfl) ?_
             cases hq29
             refine AO.nilE ⟨rfl, rfl⟩ ?_ ?_
             · exact ⟨rfl, rfl, rfl, rfl, rfl, rfl, rfl, rfl, rfl, rfl, trivial⟩
             · exact (Sub.refl _)
           ·rcases of_ite h with ⟨hc31, h⟩ | ⟨hc31, h⟩
            ·refine AW.condT' _ rfl hc31 ?_
             refine AW.sr ?_
             refine AO.c (Calm.assign rfl rfl) ?_
             refine AO.nH [2] (H' := []) (Sub.nil _) ?_
             refine AW.rK [2] ?_
             have hr := Option.some.inj h
             subst hr
             exact ⟨[(eBool false)], ⟨rfl, rfl, trivial⟩, rfl⟩
            ·refine AW.condF' _ rfl hc31 ?_
             refine AW.sK [1, 3, 4, 34, 35, 36, 61, 62, 63] ?_
             refine AW.reg ?_
             refine AO.c (x := eI64 (w64 (x23 + (1 : Int)))) (Calm.int rfl rfl rfl rfl) ?_
             refine AO.c (Calm.move rfl rfl) ?_
             refine AO.nK [1, 3, 4, 34, 35, 36, 61, 62, 63] ?_
             exact ⟨kq25, Nat.lt_succ_self _, (w64 (x23 + (1 : Int))), rfl, rfl, by rw [hrec24]; exact h⟩
          ·refine AW.condN _ rfl hc26 ?_
           refine AW.eK [1, 3, 4, 34, 35, 36] ?_
           exact ⟨rfl, rfl, h⟩
       ·rintro _ _ ⟨rfl, rfl, h⟩
        rw [dfa_Right_c1.eq_1] at h
        refine AW.reg ?_
        refine AO.c (x := eI64 (w64 (x11 + (1 : Int)))) (Calm.int rfl rfl rfl rfl) ?_
        refine AO.c (Calm.move rfl rfl) ?_
        refine AO.nK [1, 3, 4, 34, 35, 36] ?_
        exact ⟨kq13, Nat.lt_succ_self _, (w64 (x11 + (1 : Int))), rfl, rfl, by rw [hrec12]; exact h⟩
      ·refine AW.condN _ rfl hc14 ?_
       refine AW.eH [] (H' := []) (Sub.nil _) ?_
       exact ⟨rfl, rfl, h⟩
     ·rintro _ _ ⟨rfl, rfl, h⟩
      rw [dfa_Right_c0.eq_1] at h
      refine AW.sr ?_
      refine AO.c (Calm.assign rfl rfl) ?_
      refine AO.nK [2] ?_
      refine AW.rK [2] ?_
      have hr := Option.some.inj h
      subst hr
      exact ⟨[(eBool true)], ⟨rfl, rfl, trivial⟩, rfl⟩
end Go.Avl.T5
/- bosket/dfa.Mark; printed by avmain.py. -/
namespace Go.Avl.T5
open Go Go.RowKit Go.Proofs Go.Avl
set_option linter.unusedVariables false
set_option maxRecDepth 100000
set_option maxHeartbeats 4000000
attribute [local irreducible] AW AO AQ Spec SpecH Calm

def dfa_Mark (k : Nat) (p0 : S30) (p1 : Int) : Option Int :=
  Option.bind (α := Bool) (if p1 < (0 : Int) then some (true)
  else some (decide ((p0.f2.length : Int) ≤ p1))) fun b4 =>
  if b4 = true then some ((-1 : Int))
  else if 0 ≤ p1 ∧ p1 < (p0.f2.length : Int) then some ((lget p0.f2 p1))
  else none
theorem dfa_Mark_spec {k : Nat} {p0 : S30} {p1 : Int} {r : Int} (h : dfa_Mark k p0 p1 = some r) : Spec Try.prog 85 [(e30 p0), (eI64 p1)] (eI64 r) := by
  rw [dfa_Mark.eq_1] at h
  refine Spec.intro (res := [.tmp 4]) Try.func85 rfl rfl rfl (Nat.le_of_ble_eq_true rfl) ?_
  refine AW.sr ?_
  refine AO.box rfl 2 rfl (by decide) rfl rfl rfl fun n3 => ?_
  refine AO.c (Calm.assign rfl rfl) ?_
  refine AO.nK [1, 2] ?_
  refine AW.seq ?_
  refine AW.seq ?_
  obtain ⟨b4, hq5, h⟩ := of_bind h
  refine AW.regM [(1, (eI64 p1)), (2, (.ptr n3 0)), (13, (eBool b4))] [(n3, (.mem (e30 p0)))] ?_ ?_
  ·refine AO.c (Calm.move rfl rfl) ?_
   refine AO.c (x := eBool (decide (p1 < (0 : Int)))) (Calm.int rfl rfl rfl rfl) ?_
   refine AO.c (Calm.move rfl rfl) ?_
   rcases of_ite hq5 with ⟨hc6, hq5⟩ | ⟨hc6, hq5⟩
   ·refine AO.sF rfl rfl (bD (decide_eq_true hc6)) ?_
    refine AO.sF rfl rfl (bD (decide_eq_true hc6)) ?_
    refine AO.sF rfl rfl (bD (decide_eq_true hc6)) ?_
    refine AO.sF rfl rfl (bD (decide_eq_true hc6)) ?_
    refine AO.sF rfl rfl (bD (decide_eq_true hc6)) ?_
    refine AO.c (Calm.pickT rfl (bD (decide_eq_true hc6)) rfl) ?_
    cases hq5
    refine AO.nilE ⟨rfl, rfl⟩ ?_ ?_
    · exact ⟨rfl, rfl, rfl, trivial⟩
    · exact (Sub.refl _)
   ·refine AO.cG rfl rfl (bD (decide_eq_false hc6)) (Calm.move rfl rfl) ?_
    refine AO.cG (x := .ptr n3 257) rfl rfl (bD (decide_eq_false hc6)) (Calm.fldPtr rfl rfl Try.underlying30 rfl sz25 _ rfl) ?_
    refine AO.cG rfl rfl (bD (decide_eq_false hc6)) (Calm.load 0 rfl rfl rfl (At.cast (At.fldS (At.fldS (At.fld0 At.here))) rfl) ag25 sz25) ?_
    refine AO.cG rfl rfl (bD (decide_eq_false hc6)) (Calm.lenL rfl rfl Try.underlying25) ?_
    refine AO.cG (x := eBool (decide ((p0.f2.length : Int) ≤ p1))) rfl rfl (bD (decide_eq_false hc6)) (Calm.int rfl rfl rfl rfl) ?_
    refine AO.c (Calm.pickF rfl (bD (decide_eq_false hc6)) rfl) ?_
    cases hq5
    refine AO.nilE ⟨rfl, rfl⟩ ?_ ?_
    · exact ⟨rfl, rfl, rfl, trivial⟩
    · exact (Sub.refl _)
  ·rcases of_ite h with ⟨hc7, h⟩ | ⟨hc7, h⟩
   ·refine AW.condT' _ rfl hc7 ?_
    refine AW.sr ?_
    refine AO.c (Calm.assign rfl rfl) ?_
    refine AO.nH [4] (H' := []) (Sub.nil _) ?_
    refine AW.rK [4] ?_
    have hr := Option.some.inj h
    subst hr
    exact ⟨[(eI64 (-1 : Int))], ⟨rfl, rfl, trivial⟩, rfl⟩
   ·refine AW.condF' _ rfl hc7 ?_
    refine AW.sK [1, 2] ?_
    refine AW.sr ?_
    refine AO.c (x := .ptr n3 257) (Calm.fldPtr rfl rfl Try.underlying30 rfl sz25 _ rfl) ?_
    refine AO.c (Calm.load 0 rfl rfl rfl (At.cast (At.fldS (At.fldS (At.fld0 At.here))) rfl) ag25 sz25) ?_
    refine AO.c (Calm.move rfl rfl) ?_
    obtain ⟨hg8, h⟩ := of_guard h
    refine AO.c (Calm.idxL (f := eI64) rfl rfl rfl hg8 Try.underlying25 sz3) ?_
    refine AO.c (Calm.loadRp rfl rfl ag3 sz3) ?_
    refine AO.c (Calm.assign rfl rfl) ?_
    refine AO.nH [4] (H' := []) (Sub.nil _) ?_
    refine AW.rK [4] ?_
    have hr := Option.some.inj h
    subst hr
    exact ⟨[(eI64 (lget p0.f2 p1))], ⟨rfl, rfl, trivial⟩, rfl⟩
end Go.Avl.T5
/- bosket/dfa.Alive; printed by avmain.py. -/
namespace Go.Avl.T5
open Go Go.RowKit Go.Proofs Go.Avl
set_option linter.unusedVariables false
set_option maxRecDepth 100000
set_option maxHeartbeats 4000000
attribute [local irreducible] AW AO AQ Spec SpecH Calm

def dfa_Alive_c0 (k : Nat) (x6 : (List Bool)) : Option (List Bool) :=
  some (x6)
def dfa_Alive_c1 (k : Nat) (rec15 : ((List Bool) → Bool → Int → Option (List Bool))) (x14 : Int) (x18 : (List Bool)) (b19 : Bool) : Option (List Bool) :=
  rec15 x18 b19 (w64 (x14 + (1 : Int)))
def dfa_Alive_l2 (k : Nat) (rec15 : ((List Bool) → Bool → Int → Option (List Bool))) (p0 : S30) (x12 : (List Bool)) (b13 : Bool) (x14 : Int) : Nat → Int → Option (List Bool)
  | 0, _ => none
  | j + 1, x23 =>
    if x23 < ((lget p0.f1 x14).length : Int) then if 0 ≤ x23 ∧ x23 < ((lget p0.f1 x14).length : Int) then Option.bind (α := Bool) (if (0 : Int) ≤ (lget (lget p0.f1 x14) x23) then if (lget (lget p0.f1 x14) x23) < (x12.length : Int) then if 0 ≤ (lget (lget p0.f1 x14) x23) ∧ (lget (lget p0.f1 x14) x23) < (x12.length : Int) then some ((lget x12 (lget (lget p0.f1 x14) x23)))
    else none
    else some (false)
    else some (false)) fun b28 =>
    if b28 = true then if 0 ≤ x14 ∧ x14 < (x12.length : Int) then dfa_Alive_c1 k rec15 x14 (lset x12 x14 true) true
    else none
    else (dfa_Alive_l2 k rec15 p0 x12 b13 x14 j) (w64 (x23 + (1 : Int)))
    else none
    else dfa_Alive_c1 k rec15 x14 x12 b13
def dfa_Alive_l3 (k : Nat) (rec9 : ((List Bool) → Bool → Option (List Bool))) (p0 : S30) : Nat → (List Bool) → Bool → Int → Option (List Bool)
  | 0, _, _, _ => none
  | j + 1, x12, b13, x14 =>
    if x14 < (p0.f1.length : Int) then if 0 ≤ x14 ∧ x14 < (p0.f1.length : Int) then if 0 ≤ x14 ∧ x14 < (x12.length : Int) then if (lget x12 x14) = true then dfa_Alive_c1 k (dfa_Alive_l3 k rec9 p0 j) x14 x12 b13
    else dfa_Alive_l2 k (dfa_Alive_l3 k rec9 p0 j) p0 x12 b13 x14 k (0 : Int)
    else none
    else none
    else rec9 x12 b13
def dfa_Alive_l4 (k : Nat) (p0 : S30) : Nat → (List Bool) → Bool → Option (List Bool)
  | 0, _, _ => none
  | j + 1, x7, b8 =>
    if b8 = true then dfa_Alive_l3 k (dfa_Alive_l4 k p0 j) p0 k x7 false (0 : Int)
    else dfa_Alive_c0 k x7
def dfa_Alive_c5 (k : Nat) (p0 : S30) (x5 : (List Bool)) : Option (List Bool) :=
  dfa_Alive_l4 k p0 k x5 true
def dfa_Alive_l6 (k : Nat) (p0 : S30) : Nat → (List Bool) → Int → Option (List Bool)
  | 0, _, _ => none
  | j + 1, x35, x36 =>
    if x36 < ((List.replicate (p0.f1.length : Int).toNat false).length : Int) then (dfa_Mark k p0 x36).bind fun t40 =>
    if 0 ≤ x36 ∧ x36 < (x35.length : Int) then (dfa_Alive_l6 k p0 j) (lset x35 x36 (decide ((0 : Int) ≤ t40))) (w64 (x36 + (1 : Int)))
    else none
    else dfa_Alive_c5 k p0 x35
def dfa_Alive (k : Nat) (p0 : S30) : Option (List Bool) :=
  if 0 ≤ (p0.f1.length : Int) ∧ (p0.f1.length : Int) * (1 : Int) ≤ 140737488355328 ∧ (p0.f1.length : Int) ≤ 9223372036854775807 then dfa_Alive_l6 k p0 k (List.replicate (p0.f1.length : Int).toNat false) (0 : Int)
  else none
theorem dfa_Alive_spec {k : Nat} {p0 : S30} {r : (List Bool)} (h : dfa_Alive k p0 = some r) : Spec Try.prog 92 [(e30 p0)] (e49 r) := by
  rw [dfa_Alive.eq_1] at h
  refine Spec.intro (res := [.tmp 2]) Try.func92 rfl rfl rfl (Nat.le_of_ble_eq_true rfl) ?_
  refine AW.sr ?_
  refine AO.box rfl 1 rfl (by decide) rfl rfl rfl fun n2 => ?_
  refine AO.c (Calm.assign rfl rfl) ?_
  refine AO.nK [1] ?_
  refine AW.sr ?_
  refine AO.c (x := .ptr n2 256) (Calm.fldPtr rfl rfl Try.underlying30 rfl sz28 _ rfl) ?_
  refine AO.c (Calm.load 0 rfl rfl rfl (At.cast (At.fldS (At.fld0 At.here)) rfl) ag28 sz28) ?_
  refine AO.c (Calm.lenL rfl rfl Try.underlying28) ?_
  obtain ⟨hg4, h⟩ := of_guard h
  refine AO.makeL (f := eBool) false rfl 13 rfl (by decide) rfl rfl rfl Try.underlying49 sz4 by4 zr4 lay4 rfl hg4 fun n3 => ?_
  refine AO.c (Calm.assign rfl rfl) ?_
  refine AO.nH [1, 3] (H' := [(n2, (.mem (e30 p0))), (n3, (.mem (.ar 1 ((List.replicate (p0.f1.length : Int).toNat false).map eBool))))]) (Sub.cons 1 rfl (Sub.cons 0 rfl (Sub.nil _))) ?_
  refine AW.seq_mid (fun ρ H => ∃ (x5 : (List Bool)), ρ = [(1, (.ptr n2 0)), (3, (.own n3 0 x5.length))] ∧ H = [(n2, (.mem (e30 p0))), (n3, (.mem (.ar 1 (x5.map eBool))))] ∧ dfa_Alive_c5 k p0 x5 = some r) ?_ ?_
  ·refine AW.sr ?_
   refine AO.c (Calm.move rfl rfl) ?_
   refine AO.c (Calm.lenOwn rfl rfl Try.underlying49) ?_
   refine AO.c (Calm.move rfl rfl) ?_
   refine AO.nK [1, 3, 15, 16] ?_
   refine AW.block ?_
   refine AW.wK [1, 3, 15, 16] ?_
   refine AW.loop (fun kq ρ H => ∃ (x35 : (List Bool)) (x36 : Int), ρ = [(1, (.ptr n2 0)), (3, (.own n3 0 x35.length)), (15, (eI64 ((List.replicate (p0.f1.length : Int).toNat false).length : Int))), (16, (eI64 x36))] ∧ H = [(n2, (.mem (e30 p0))), (n3, (.mem (.ar 1 (x35.map eBool))))] ∧ dfa_Alive_l6 k p0 kq x35 x36 = some r) k ⟨(List.replicate (p0.f1.length : Int).toNat false), (0 : Int), rfl, rfl, h⟩ ?_
   rintro kq38 _ _ ⟨x35, x36, rfl, rfl, h⟩
   cases kq38 with
   | zero => rw [dfa_Alive_l6.eq_1] at h; cases h
   | succ kq38 =>
   rw [dfa_Alive_l6.eq_2] at h
   generalize hrec37 : dfa_Alive_l6 k p0 kq38 = rec37 at h
   refine AW.sr ?_
   refine AO.c (x := eBool (decide (x36 < ((List.replicate (p0.f1.length : Int).toNat false).length : Int)))) (Calm.int rfl rfl rfl rfl) ?_
   refine AO.nK [1, 3, 15, 16, 17] ?_
   refine AW.seq ?_
   rcases of_ite h with ⟨hc39, h⟩ | ⟨hc39, h⟩
   ·refine AW.condP _ rfl hc39 ?_
    refine AW.sK [1, 3, 15, 16] ?_
    refine AW.seq ?_
    refine AW.block ?_
    refine AW.sr ?_
    refine AO.c (Calm.move rfl rfl) ?_
    refine AO.c (Calm.assign rfl rfl) ?_
    refine AO.nK [1, 3, 4, 15, 16] ?_
    refine AW.reg ?_
    refine AO.c (Calm.move rfl rfl) ?_
    refine AO.c (Calm.move rfl rfl) ?_
    refine AO.c (Calm.load 0 rfl rfl rfl (At.cast At.here rfl) ag30 sz30) ?_
    refine AO.c (Calm.move rfl rfl) ?_
    obtain ⟨t40, et40, h⟩ := of_bind h
    refine AO.callS [(e30 p0), (eI64 x36)] (eI64 t40) 23 rfl (by decide) ok85 rfl rfl rfl ⟨rfl, rfl, rfl, rfl, trivial⟩ (dfa_Mark_spec et40) ?_
    refine AO.c (x := eBool (decide ((0 : Int) ≤ t40))) (Calm.int rfl rfl rfl rfl) ?_
    obtain ⟨hg41, h⟩ := of_guard h
    refine AO.c (Calm.idxO 1 rfl rfl rfl rfl hg41 Try.underlying49 sz4) ?_
    refine AO.store (X' := (.ar 1 ((lset x35 x36 (decide ((0 : Int) ≤ t40))).map eBool))) 1 rfl rfl rfl rfl rfl rfl (Put.cast (Put.lidx x36 (decide ((0 : Int) ≤ t40)) hg41.1 hg41.2 Put.here) (by omega)) rfl rfl sz4 rfl ?_
    refine AO.coe 3 (y' := (.own n3 0 (lset x35 x36 (decide ((0 : Int) ≤ t40))).length)) rfl (fun _ _ h => lset_own h) ?_
    refine AO.coe 19 (y' := (.own n3 0 (lset x35 x36 (decide ((0 : Int) ≤ t40))).length)) rfl (fun _ _ h => lset_own h) ?_
    refine AO.nK [1, 3, 15, 16] ?_
    refine AW.reg ?_
    refine AO.c (x := eI64 (w64 (x36 + (1 : Int)))) (Calm.int rfl rfl rfl rfl) ?_
    refine AO.c (Calm.move rfl rfl) ?_
    refine AO.nK [1, 3, 15, 16] ?_
    exact ⟨kq38, Nat.lt_succ_self _, (lset x35 x36 (decide ((0 : Int) ≤ t40))), (w64 (x36 + (1 : Int))), rfl, rfl, by rw [hrec37]; exact h⟩
   ·refine AW.condN _ rfl hc39 ?_
    refine AW.eK [1, 3] ?_
    exact ⟨x35, rfl, rfl, h⟩
  ·rintro _ _ ⟨x5, rfl, rfl, h⟩
   rw [dfa_Alive_c5.eq_1] at h
   refine AW.seq_mid (fun ρ H => ∃ (x6 : (List Bool)), ρ = [(3, (.own n3 0 x6.length))] ∧ H = [(n3, (.mem (.ar 1 (x6.map eBool))))] ∧ dfa_Alive_c0 k x6 = some r) ?_ ?_
   ·refine AW.sr ?_
    refine AO.c (Calm.assign rfl rfl) ?_
    refine AO.nK [1, 3, 5] ?_
    refine AW.block ?_
    refine AW.wK [1, 3, 5] ?_
    refine AW.loop (fun kq ρ H => ∃ (x7 : (List Bool)) (b8 : Bool), ρ = [(1, (.ptr n2 0)), (3, (.own n3 0 x7.length)), (5, (eBool b8))] ∧ H = [(n2, (.mem (e30 p0))), (n3, (.mem (.ar 1 (x7.map eBool))))] ∧ dfa_Alive_l4 k p0 kq x7 b8 = some r) k ⟨x5, true, rfl, rfl, h⟩ ?_
    rintro kq10 _ _ ⟨x7, b8, rfl, rfl, h⟩
    cases kq10 with
    | zero => rw [dfa_Alive_l4.eq_1] at h; cases h
    | succ kq10 =>
    rw [dfa_Alive_l4.eq_2] at h
    generalize hrec9 : dfa_Alive_l4 k p0 kq10 = rec9 at h
    refine AW.seq ?_
    refine AW.sr ?_
    refine AO.c (Calm.move rfl rfl) ?_
    refine AO.nK [1, 3, 27] ?_
    rcases of_ite h with ⟨hc11, h⟩ | ⟨hc11, h⟩
    ·refine AW.condT' _ rfl hc11 ?_
     refine AW.sK [1, 3] ?_
     refine AW.block ?_
     refine AW.scope ?_
     refine AW.sr ?_
     refine AO.c (Calm.assign rfl rfl) ?_
     refine AO.nK [1, 3, 5] ?_
     refine AW.seq ?_
     refine AW.lK [1, 3, 5] ?_
     refine AW.sr ?_
     refine AO.c (x := .ptr n2 256) (Calm.fldPtr rfl rfl Try.underlying30 rfl sz28 _ rfl) ?_
     refine AO.c (Calm.load 0 rfl rfl rfl (At.cast (At.fldS (At.fld0 At.here)) rfl) ag28 sz28) ?_
     refine AO.c (Calm.lenL rfl rfl Try.underlying28) ?_
     refine AO.c (Calm.move rfl rfl) ?_
     refine AO.nK [1, 3, 5, 29, 30, 31] ?_
     refine AW.block ?_
     refine AW.wK [1, 3, 5, 29, 30, 31] ?_
     refine AW.loop (fun kq ρ H => ∃ (x12 : (List Bool)) (b13 : Bool) (x14 : Int), ρ = [(1, (.ptr n2 0)), (3, (.own n3 0 x12.length)), (5, (eBool b13)), (29, (.fz 1 (p0.f1.map e25))), (30, (eI64 (p0.f1.length : Int))), (31, (eI64 x14))] ∧ H = [(n2, (.mem (e30 p0))), (n3, (.mem (.ar 1 (x12.map eBool))))] ∧ dfa_Alive_l3 k rec9 p0 kq x12 b13 x14 = some r) k ⟨x7, false, (0 : Int), rfl, rfl, h⟩ ?_
     rintro kq16 _ _ ⟨x12, b13, x14, rfl, rfl, h⟩
     cases kq16 with
     | zero => rw [dfa_Alive_l3.eq_1] at h; cases h
     | succ kq16 =>
     rw [dfa_Alive_l3.eq_2] at h
     generalize hrec15 : dfa_Alive_l3 k rec9 p0 kq16 = rec15 at h
     refine AW.sr ?_
     refine AO.c (x := eBool (decide (x14 < (p0.f1.length : Int)))) (Calm.int rfl rfl rfl rfl) ?_
     refine AO.nK [1, 3, 5, 29, 30, 31, 32] ?_
     refine AW.seq ?_
     rcases of_ite h with ⟨hc17, h⟩ | ⟨hc17, h⟩
     ·refine AW.condP _ rfl hc17 ?_
      refine AW.sK [1, 3, 5, 29, 30, 31] ?_
      refine AW.seq_mid (fun ρ H => ∃ (x18 : (List Bool)) (b19 : Bool), ρ = [(1, (.ptr n2 0)), (3, (.own n3 0 x18.length)), (5, (eBool b19)), (29, (.fz 1 (p0.f1.map e25))), (30, (eI64 (p0.f1.length : Int))), (31, (eI64 x14))] ∧ H = [(n2, (.mem (e30 p0))), (n3, (.mem (.ar 1 (x18.map eBool))))] ∧ dfa_Alive_c1 k rec15 x14 x18 b19 = some r) ?_ ?_
      ·refine AW.block ?_
       refine AW.sr ?_
       refine AO.c (Calm.move rfl rfl) ?_
       obtain ⟨hg20, h⟩ := of_guard h
       refine AO.c (Calm.idxL (f := e25) rfl rfl rfl hg20 Try.underlying28 sz25) ?_
       refine AO.c (Calm.loadRp rfl rfl ag25 sz25) ?_
       refine AO.c (Calm.assign rfl rfl) ?_
       refine AO.c (Calm.assign rfl rfl) ?_
       refine AO.nK [1, 3, 5, 6, 7, 29, 30, 31] ?_
       refine AW.seq ?_
       refine AW.sr ?_
       refine AO.c (Calm.move rfl rfl) ?_
       refine AO.c (Calm.move rfl rfl) ?_
       obtain ⟨hg21, h⟩ := of_guard h
       refine AO.c (Calm.idxO 1 rfl rfl rfl rfl hg21 Try.underlying49 sz4) ?_
       refine AO.c (Calm.load 1 rfl rfl rfl (At.cast (At.lidx x14 hg21.1 hg21.2 At.here) (by omega)) ag4 sz4) ?_
       refine AO.nK [1, 3, 5, 6, 7, 29, 30, 31, 39] ?_
       rcases of_ite h with ⟨hc22, h⟩ | ⟨hc22, h⟩
       ·refine AW.condT' _ rfl hc22 ?_
        refine AW.eK [1, 3, 5, 29, 30, 31] ?_
        exact ⟨x12, b13, rfl, rfl, h⟩
       ·refine AW.condF' _ rfl hc22 ?_
        refine AW.sK [1, 3, 5, 6, 7, 29, 30, 31] ?_
        refine AW.sr ?_
        refine AO.c (Calm.move rfl rfl) ?_
        refine AO.c (Calm.lenL rfl rfl Try.underlying25) ?_
        refine AO.c (Calm.move rfl rfl) ?_
        refine AO.nK [1, 3, 5, 6, 29, 30, 31, 40, 41, 42] ?_
        refine AW.block ?_
        refine AW.wK [1, 3, 5, 6, 29, 30, 31, 40, 41, 42] ?_
        refine AW.loop (fun kq ρ H => ∃ (x23 : Int), ρ = [(1, (.ptr n2 0)), (3, (.own n3 0 x12.length)), (5, (eBool b13)), (6, (eI64 x14)), (29, (.fz 1 (p0.f1.map e25))), (30, (eI64 (p0.f1.length : Int))), (31, (eI64 x14)), (40, (.fz 1 ((lget p0.f1 x14).map eI64))), (41, (eI64 ((lget p0.f1 x14).length : Int))), (42, (eI64 x23))] ∧ H = [(n2, (.mem (e30 p0))), (n3, (.mem (.ar 1 (x12.map eBool))))] ∧ dfa_Alive_l2 k rec15 p0 x12 b13 x14 kq x23 = some r) k ⟨(0 : Int), rfl, rfl, h⟩ ?_
        rintro kq25 _ _ ⟨x23, rfl, rfl, h⟩
        cases kq25 with
        | zero => rw [dfa_Alive_l2.eq_1] at h; cases h
        | succ kq25 =>
        rw [dfa_Alive_l2.eq_2] at h
        generalize hrec24 : dfa_Alive_l2 k rec15 p0 x12 b13 x14 kq25 = rec24 at h
        refine AW.sr ?_
        refine AO.c (x := eBool (decide (x23 < ((lget p0.f1 x14).length : Int)))) (Calm.int rfl rfl rfl rfl) ?_
        refine AO.nK [1, 3, 5, 6, 29, 30, 31, 40, 41, 42, 43] ?_
        refine AW.seq ?_
        rcases of_ite h with ⟨hc26, h⟩ | ⟨hc26, h⟩
        ·refine AW.condP _ rfl hc26 ?_
         refine AW.sK [1, 3, 5, 6, 29, 30, 31, 40, 41, 42] ?_
         refine AW.seq ?_
         refine AW.block ?_
         refine AW.sr ?_
         obtain ⟨hg27, h⟩ := of_guard h
         refine AO.c (Calm.idxL (f := eI64) rfl rfl rfl hg27 Try.underlying25 sz3) ?_
         refine AO.c (Calm.loadRp rfl rfl ag3 sz3) ?_
         refine AO.c (Calm.assign rfl rfl) ?_
         refine AO.nK [1, 3, 5, 6, 9, 29, 30, 31, 40, 41, 42] ?_
         refine AW.seq ?_
         obtain ⟨b28, hq29, h⟩ := of_bind h
         refine AW.regM [(1, (.ptr n2 0)), (3, (.own n3 0 x12.length)), (5, (eBool b13)), (6, (eI64 x14)), (29, (.fz 1 (p0.f1.map e25))), (30, (eI64 (p0.f1.length : Int))), (31, (eI64 x14)), (40, (.fz 1 ((lget p0.f1 x14).map eI64))), (41, (eI64 ((lget p0.f1 x14).length : Int))), (42, (eI64 x23)), (59, (eBool b28))] [(n2, (.mem (e30 p0))), (n3, (.mem (.ar 1 (x12.map eBool))))] ?_ ?_
         ·refine AO.c (Calm.move rfl rfl) ?_
          refine AO.c (x := eBool (decide ((0 : Int) ≤ (lget (lget p0.f1 x14) x23)))) (Calm.int rfl rfl rfl rfl) ?_
          refine AO.c (Calm.move rfl rfl) ?_
          rcases of_ite hq29 with ⟨hc30, hq29⟩ | ⟨hc30, hq29⟩
          ·refine AO.cG rfl rfl (bD (decide_eq_true hc30)) (Calm.move rfl rfl) ?_
           refine AO.cG rfl rfl (bD (decide_eq_true hc30)) (Calm.move rfl rfl) ?_
           refine AO.cG rfl rfl (bD (decide_eq_true hc30)) (Calm.lenOwn rfl rfl Try.underlying49) ?_
           refine AO.cG (x := eBool (decide ((lget (lget p0.f1 x14) x23) < (x12.length : Int)))) rfl rfl (bD (decide_eq_true hc30)) (Calm.int rfl rfl rfl rfl) ?_
           refine AO.c (Calm.pickT rfl (bD (decide_eq_true hc30)) rfl) ?_
           refine AO.c (Calm.move rfl rfl) ?_
           rcases of_ite hq29 with ⟨hc31, hq29⟩ | ⟨hc31, hq29⟩
           ·refine AO.cG rfl rfl (bD (decide_eq_true hc31)) (Calm.move rfl rfl) ?_
            refine AO.cG rfl rfl (bD (decide_eq_true hc31)) (Calm.move rfl rfl) ?_
            obtain ⟨hg32, hq29⟩ := of_guard hq29
            refine AO.cG rfl rfl (bD (decide_eq_true hc31)) (Calm.idxO 1 rfl rfl rfl rfl hg32 Try.underlying49 sz4) ?_
            refine AO.cG rfl rfl (bD (decide_eq_true hc31)) (Calm.load 1 rfl rfl rfl (At.cast (At.lidx (lget (lget p0.f1 x14) x23) hg32.1 hg32.2 At.here) (by omega)) ag4 sz4) ?_
            refine AO.c (Calm.pickT rfl (bD (decide_eq_true hc31)) rfl) ?_
            cases hq29
            refine AO.nilE ⟨rfl, rfl⟩ ?_ ?_
            · exact ⟨rfl, rfl, rfl, rfl, rfl, rfl, rfl, rfl, rfl, rfl, rfl, trivial⟩
            · exact (Sub.refl _)
           ·refine AO.sT rfl rfl (bD (decide_eq_false hc31)) ?_
            refine AO.sT rfl rfl (bD (decide_eq_false hc31)) ?_
            refine AO.sT rfl rfl (bD (decide_eq_false hc31)) ?_
            refine AO.sT rfl rfl (bD (decide_eq_false hc31)) ?_
            refine AO.c (Calm.pickF rfl (bD (decide_eq_false hc31)) rfl) ?_
            cases hq29
            refine AO.nilE ⟨rfl, rfl⟩ ?_ ?_
            · exact ⟨rfl, rfl, rfl, rfl, rfl, rfl, rfl, rfl, rfl, rfl, rfl, trivial⟩
            · exact (Sub.refl _)
          ·refine AO.sT rfl rfl (bD (decide_eq_false hc30)) ?_
           refine AO.sT rfl rfl (bD (decide_eq_false hc30)) ?_
           refine AO.sT rfl rfl (bD (decide_eq_false hc30)) ?_
           refine AO.sT rfl rfl (bD (decide_eq_false hc30)) ?_
           refine AO.c (Calm.pickF rfl (bD (decide_eq_false hc30)) rfl) ?_
           refine AO.c (Calm.move rfl rfl) ?_
           refine AO.sT rfl rfl rfl ?_
           refine AO.sT rfl rfl rfl ?_
           refine AO.sT rfl rfl rfl ?_
           refine AO.sT rfl rfl rfl ?_
           refine AO.c (Calm.pickF rfl rfl rfl) ?_
           cases hq29
           refine AO.nilE ⟨rfl, rfl⟩ ?_ ?_
           · exact ⟨rfl, rfl, rfl, rfl, rfl, rfl, rfl, rfl, rfl, rfl, rfl, trivial⟩
           · exact (Sub.refl _)
         ·rcases of_ite h with ⟨hc33, h⟩ | ⟨hc33, h⟩
          ·refine AW.condT' _ rfl hc33 ?_
           refine AW.sr ?_
           refine AO.c (Calm.move rfl rfl) ?_
           refine AO.c (Calm.move rfl rfl) ?_
           obtain ⟨hg34, h⟩ := of_guard h
           refine AO.c (Calm.idxO 1 rfl rfl rfl rfl hg34 Try.underlying49 sz4) ?_
           refine AO.store (X' := (.ar 1 ((lset x12 x14 true).map eBool))) 1 rfl rfl rfl rfl rfl rfl (Put.cast (Put.lidx x14 true hg34.1 hg34.2 Put.here) (by omega)) rfl rfl sz4 rfl ?_
           refine AO.coe 3 (y' := (.own n3 0 (lset x12 x14 true).length)) rfl (fun _ _ h => lset_own h) ?_
           refine AO.coe 60 (y' := (.own n3 0 (lset x12 x14 true).length)) rfl (fun _ _ h => lset_own h) ?_
           refine AO.c (Calm.assign rfl rfl) ?_
           refine AO.nK [1, 3, 5, 29, 30, 31] ?_
           refine AW.eK [1, 3, 5, 29, 30, 31] ?_
           exact ⟨(lset x12 x14 true), true, rfl, rfl, h⟩
          ·refine AW.condF' _ rfl hc33 ?_
           refine AW.sK [1, 3, 5, 6, 29, 30, 31, 40, 41, 42] ?_
           refine AW.reg ?_
           refine AO.c (x := eI64 (w64 (x23 + (1 : Int)))) (Calm.int rfl rfl rfl rfl) ?_
           refine AO.c (Calm.move rfl rfl) ?_
           refine AO.nK [1, 3, 5, 6, 29, 30, 31, 40, 41, 42] ?_
           exact ⟨kq25, Nat.lt_succ_self _, (w64 (x23 + (1 : Int))), rfl, rfl, by rw [hrec24]; exact h⟩
        ·refine AW.condN _ rfl hc26 ?_
         refine AW.eK [1, 3, 5, 29, 30, 31] ?_
         exact ⟨x12, b13, rfl, rfl, h⟩
      ·rintro _ _ ⟨x18, b19, rfl, rfl, h⟩
       rw [dfa_Alive_c1.eq_1] at h
       refine AW.reg ?_
       refine AO.c (x := eI64 (w64 (x14 + (1 : Int)))) (Calm.int rfl rfl rfl rfl) ?_
       refine AO.c (Calm.move rfl rfl) ?_
       refine AO.nK [1, 3, 5, 29, 30, 31] ?_
       exact ⟨kq16, Nat.lt_succ_self _, x18, b19, (w64 (x14 + (1 : Int))), rfl, rfl, by rw [hrec15]; exact h⟩
     ·refine AW.condN _ rfl hc17 ?_
      refine AW.eK [1, 3, 5] ?_
      exact ⟨kq10, Nat.lt_succ_self _, x12, b13, rfl, rfl, by rw [hrec9]; exact h⟩
    ·refine AW.condF' _ rfl hc11 ?_
     refine AW.eH [3] (H' := [(n3, (.mem (.ar 1 (x7.map eBool))))]) (Sub.cons 1 rfl (Sub.nil _)) ?_
     exact ⟨x7, rfl, rfl, h⟩
   ·rintro _ _ ⟨x6, rfl, rfl, h⟩
    rw [dfa_Alive_c0.eq_1] at h
    refine AW.sr ?_
    refine AO.c (Calm.move rfl rfl) ?_
    refine AO.c (Calm.assign rfl rfl) ?_
    refine AO.nK [2] ?_
    refine AW.freezeS 0 [(2, (.fz 1 (x6.map eBool)))] rfl ⟨fz_all rfl, trivial⟩ ?_
    refine AW.rK [2] ?_
    have hr := Option.some.inj h
    subst hr
    exact ⟨[(.fz 1 (x6.map eBool))], ⟨rfl, rfl, trivial⟩, rfl⟩
end Go.Avl.T5
/- slices.Clone[[]int,int]; printed by avmain.py. -/
namespace Go.Avl.T5
open Go Go.RowKit Go.Proofs Go.Avl
set_option linter.unusedVariables false
set_option maxRecDepth 100000
set_option maxHeartbeats 4000000
attribute [local irreducible] AW AO AQ Spec SpecH Calm

def slices_Clone_int_int_ (k : Nat) (p0 : (List Int)) : Option (List Int) :=
  if (([] : List Int) ++ p0).length * 8 ≤ 140737488355328 then some ((([] : List Int) ++ p0))
  else none
def slices_Clone_int_int__own (k : Nat) (p0 : (List Int)) : Option (List Int) :=
  if (([] : List Int) ++ p0).length * 8 ≤ 140737488355328 then some ((([] : List Int) ++ p0))
  else none
theorem slices_Clone_int_int__spec {k : Nat} {p0 : (List Int)} {r : (List Int)} (h : slices_Clone_int_int_ k p0 = some r) : Spec Try.prog 93 [(.fz 1 (p0.map eI64))] (e25 r) := by
  rw [slices_Clone_int_int_.eq_1] at h
  refine Spec.intro (res := [.tmp 2]) Try.func93 rfl rfl rfl (Nat.le_of_ble_eq_true rfl) ?_
  refine AW.sr ?_
  refine AO.c (Calm.assign rfl rfl) ?_
  refine AO.nK [0] ?_
  refine AW.seq ?_
  refine AW.sr ?_
  refine AO.c (Calm.move rfl rfl) ?_
  refine AO.nilFz rfl 4 rfl (by decide) rfl rfl Try.underlying25 fun gb2 hgb2 => ?_
  refine AO.nK [0, 4] ?_
  cases gb2
  ·refine AW.condF rfl ?_
   refine AW.sK [0] ?_
   refine AW.sr ?_
   refine AO.lit (Z := (eI64 (0 : Int))) (xs := (([] : List Int).map eI64)) (qs := []) rfl 5 rfl (by decide) rfl trivial Try.underlying25 sz3 zr3 lay3 rfl (by decide) (litOK (z := 1) [] rfl trivial) rfl fun n3 => ?_
   refine AO.c (Calm.move rfl rfl) ?_
   obtain ⟨hg5, h⟩ := of_guard h
   refine AO.appendL (l := ([] : List Int)) (m := p0) 0 7 rfl (by decide) rfl rfl rfl rfl rfl Src.fz Try.underlying25 Try.underlying25 sz3 by3 zr3 rfl hg5 (by decide) fun n4 => ?_
   refine AO.c (Calm.assign rfl rfl) ?_
   refine AO.nK [2] ?_
   refine AW.freezeS 0 [(2, (.fz 1 ((([] : List Int) ++ p0).map eI64)))] rfl ⟨fz_all rfl, trivial⟩ ?_
   refine AW.rK [2] ?_
   have hr := Option.some.inj h
   subst hr
   exact ⟨[(.fz 1 ((([] : List Int) ++ p0).map eI64))], ⟨rfl, rfl, trivial⟩, rfl⟩
  ·have hn6 : p0 = [] := List.map_eq_nil_iff.1 (hgb2 rfl)
   have h : (some ([])) = some r := by simpa [hn6] using h
   refine AW.condT rfl ?_
   refine AW.sr ?_
   refine AO.c (Calm.assign rfl rfl) ?_
   refine AO.nK [2] ?_
   refine AW.coeC 2 (y' := (.fz 1 (([] : List Int).map eI64))) rfl Coe.nil ?_
   refine AW.rK [2] ?_
   have hr := Option.some.inj h
   subst hr
   exact ⟨[(.fz 1 (([] : List Int).map eI64))], ⟨rfl, rfl, trivial⟩, rfl⟩
theorem slices_Clone_int_int__own_spec {k : Nat} {p0 : (List Int)} {r : (List Int)} (h : slices_Clone_int_int__own k p0 = some r) {T0 : Heap} : SpecH Try.prog 93 [(.fz 1 (p0.map eI64))] (T0) (fun x H' => ∃ m, x = .own m 0 r.length ∧ Sub ((m, .mem (.ar 1 (r.map eI64))) :: T0) H') := by
  rw [slices_Clone_int_int__own.eq_1] at h
  refine SpecH.intro (res := [.tmp 2]) Try.func93 rfl rfl rfl (Nat.le_of_ble_eq_true rfl) ?_
  refine AW.sr ?_
  refine AO.c (Calm.assign rfl rfl) ?_
  refine AO.nK [0] ?_
  refine AW.seq ?_
  refine AW.sr ?_
  refine AO.c (Calm.move rfl rfl) ?_
  refine AO.nilFz rfl 4 rfl (by decide) rfl rfl Try.underlying25 fun gb2 hgb2 => ?_
  refine AO.nK [0, 4] ?_
  cases gb2
  ·refine AW.condF rfl ?_
   refine AW.sK [0] ?_
   refine AW.sr ?_
   refine AO.lit (Z := (eI64 (0 : Int))) (xs := (([] : List Int).map eI64)) (qs := []) rfl 5 rfl (by decide) rfl trivial Try.underlying25 sz3 zr3 lay3 rfl (by decide) (litOK (z := 1) [] rfl trivial) rfl fun n4 => ?_
   refine AO.c (Calm.move rfl rfl) ?_
   obtain ⟨hg6, h⟩ := of_guard h
   refine AO.appendL (l := ([] : List Int)) (m := p0) 0 7 rfl (by decide) rfl rfl rfl rfl rfl Src.fz Try.underlying25 Try.underlying25 sz3 by3 zr3 rfl hg6 (by decide) fun n5 => ?_
   refine AO.c (Calm.assign rfl rfl) ?_
   refine AO.nK [2] ?_
   refine AW.rK [2] ?_
   have hr := Option.some.inj h
   subst hr
   exact ⟨[(.own n5 0 (([] : List Int) ++ p0).length)], ⟨rfl, rfl, trivial⟩, n5, rfl, (Sub.cons 0 rfl (Sub.refl _))⟩
  ·have hn7 : p0 = [] := List.map_eq_nil_iff.1 (hgb2 rfl)
   have h : (some ([])) = some r := by simpa [hn7] using h
   refine AW.condT rfl ?_
   refine AW.sr ?_
   refine AO.c (Calm.assign rfl rfl) ?_
   refine AO.nK [2] ?_
   refine AW.nilOwn 2 1 rfl fun n3 => ?_
   refine AW.rK [2] ?_
   have hr := Option.some.inj h
   subst hr
   exact ⟨[(.own n3 0 ([] : List Int).length)], ⟨rfl, rfl, trivial⟩, n3, rfl, (Sub.cons 0 rfl (Sub.refl _))⟩
end Go.Avl.T5
/- bosket/dfa.Trim; printed by avmain.py. -/
namespace Go.Avl.T5
open Go Go.RowKit Go.Proofs Go.Avl
set_option linter.unusedVariables false
set_option maxRecDepth 100000
set_option maxHeartbeats 4000000
set_option linter.unusedSimpArgs false
attribute [local irreducible] AW AO AQ Spec SpecH Calm

def dfa_Trim_c0 (k : Nat) (p0 : S30) (t5 : (List Int)) (x8 : (List (List Int))) : Option S30 :=
  some ((S30.mk p0.f0 x8 t5))
def dfa_Trim_c1 (k : Nat) (rec12 : ((List (List Int)) → Int → Option S30)) (x11 : Int) (x16 : (List (List Int))) : Option S30 :=
  rec12 x16 (w64 (x11 + (1 : Int)))
def dfa_Trim_c2 (k : Nat) (rec12 : ((List (List Int)) → Int → Option S30)) (x10 : (List (List Int))) (x11 : Int) (x21 : (List Int)) : Option S30 :=
  if (x10 ++ ([x21] : List (List Int))).length * 24 ≤ 140737488355328 then dfa_Trim_c1 k rec12 x11 (x10 ++ ([x21] : List (List Int)))
  else none
def dfa_Trim_c3 (k : Nat) (rec27 : ((List Int) → Int → Option S30)) (x26 : Int) (x30 : (List Int)) : Option S30 :=
  rec27 x30 (w64 (x26 + (1 : Int)))
def dfa_Trim_l4 (k : Nat) (rec12 : ((List (List Int)) → Int → Option S30)) (t4 : (List Bool)) (x10 : (List (List Int))) (x11 : Int) (t18 : (List Int)) : Nat → (List Int) → Int → Option S30
  | 0, _, _ => none
  | j + 1, x25, x26 =>
    if x26 < (t18.length : Int) then if 0 ≤ x26 ∧ x26 < (x25.length : Int) then Option.bind (α := Bool) (if (0 : Int) ≤ (lget x25 x26) then if (lget x25 x26) < (t4.length : Int) then if 0 ≤ (lget x25 x26) ∧ (lget x25 x26) < (t4.length : Int) then some (!(lget t4 (lget x25 x26)))
    else none
    else some (false)
    else some (false)) fun b32 =>
    if b32 = true then if 0 ≤ x26 ∧ x26 < (x25.length : Int) then dfa_Trim_c3 k (dfa_Trim_l4 k rec12 t4 x10 x11 t18 j) x26 (lset x25 x26 (-1 : Int))
    else none
    else dfa_Trim_c3 k (dfa_Trim_l4 k rec12 t4 x10 x11 t18 j) x26 x25
    else none
    else dfa_Trim_c2 k rec12 x10 x11 x25
def dfa_Trim_l5 (k : Nat) (p0 : S30) (t4 : (List Bool)) (t5 : (List Int)) : Nat → (List (List Int)) → Int → Option S30
  | 0, _, _ => none
  | j + 1, x10, x11 =>
    if x11 < (p0.f1.length : Int) then if 0 ≤ x11 ∧ x11 < (p0.f1.length : Int) then (slices_Clone_int_int__own k (lget p0.f1 x11)).bind fun t18 =>
    dfa_Trim_l4 k (dfa_Trim_l5 k p0 t4 t5 j) t4 x10 x11 t18 k t18 (0 : Int)
    else none
    else dfa_Trim_c0 k p0 t5 x10
def dfa_Trim (k : Nat) (p0 : S30) : Option S30 :=
  (dfa_Alive k p0).bind fun t4 =>
  (slices_Clone_int_int_ k p0.f2).bind fun t5 =>
  dfa_Trim_l5 k p0 t4 t5 k ([] : List (List Int)) (0 : Int)
theorem dfa_Trim_spec {k : Nat} {p0 : S30} {r : S30} (h : dfa_Trim k p0 = some r) : Spec Try.prog 66 [(e30 p0)] (e30 r) := by
  rw [dfa_Trim.eq_1] at h
  refine Spec.intro (res := [.cell 2 30]) Try.func66 rfl rfl rfl (Nat.le_of_ble_eq_true rfl) ?_
  refine AW.sr ?_
  refine AO.box rfl 1 rfl (by decide) rfl rfl rfl fun n2 => ?_
  refine AO.alloc rfl 2 rfl (by decide) rfl zr30 lay30 fun n3 => ?_
  refine AO.nH [1, 2] (H' := [(n2, (.mem (e30 p0))), (n3, (.mem (.st [(256, (.ar 1 ((Vector.replicate 256 (0 : Int)).toList.map eU8))), (1, (.fl (.slice none 0 0))), (1, (.fl (.slice none 0 0)))])))]) (Sub.cons 1 rfl (Sub.cons 0 rfl (Sub.nil _))) ?_
  refine AW.sr ?_
  refine AO.c (Calm.load 0 rfl rfl rfl (At.cast At.here rfl) ag30 sz30) ?_
  obtain ⟨t4, et4, h⟩ := of_bind h
  refine AO.callS [(e30 p0)] (.fz 1 (t4.map eBool)) 11 rfl (by decide) ok92 rfl rfl rfl ⟨rfl, rfl, trivial⟩ (dfa_Alive_spec et4) ?_
  refine AO.c (Calm.assign rfl rfl) ?_
  refine AO.nK [1, 2, 3] ?_
  refine AW.seq ?_
  obtain ⟨t5, et5, h⟩ := of_bind h
  refine AW.regEff (by rfl) (by decide +kernel) (fun (σ : Nat → Nat) => ([(.ptr n2 0), (.ar 1 (p0.f0.toList.map eU8)), (.ptr n2 257), (.fz 1 (p0.f2.map eI64)), (.fz 1 (t5.map eI64)), (.st [(256, (.ar 1 (p0.f0.toList.map eU8))), (1, (.fl (.slice none 0 0))), (1, (.fz 1 (t5.map eI64)))]), (.ptr (σ 6) 0), (.fl undef)] : List AV)) (fun (L : Nat → Bool) (σ : Nat → Nat) => ((n2, (.mem (e30 p0))) :: (n3, (.mem (.st [(256, (.ar 1 ((Vector.replicate 256 (0 : Int)).toList.map eU8))), (1, (.fl (.slice none 0 0))), (1, (.fl (.slice none 0 0)))]))) :: (bif L 6 then (bif L 7 then (((σ 6), (.mem (.st [(256, (.ar 1 (p0.f0.toList.map eU8))), (1, (.fl (.slice none 0 0))), (1, (.fz 1 (t5.map eI64)))]))) :: []) else (((σ 6), (.mem (.st [(256, (.ar 1 ((Vector.replicate 256 (0 : Int)).toList.map eU8))), (1, (.fl (.slice none 0 0))), (1, (.fl (.slice none 0 0)))]))) :: [])) else ([])) : Heap)) [(1, (.ptr n2 0)), (2, (.ptr n3 0)), (3, (.fz 1 (t4.map eBool)))] ⟨rfl, rfl, rfl, trivial⟩ (fun _ => rfl) (fun σ => (Sub.refl _)) ⟨?_, ?_, ?_, ?_, ?_, ?_, ?_, ?_, trivial⟩ (fun σ => [(1, (.ptr n2 0)), (2, (.ptr n3 0)), (3, (.fz 1 (t4.map eBool))), (4, (.ptr (σ 6) 0))]) (fun σ => ((n2, (.mem (e30 p0))) :: (n3, (.mem (.st [(256, (.ar 1 ((Vector.replicate 256 (0 : Int)).toList.map eU8))), (1, (.fl (.slice none 0 0))), (1, (.fl (.slice none 0 0)))]))) :: ((σ 6), (.mem (.st [(256, (.ar 1 (p0.f0.toList.map eU8))), (1, (.fl (.slice none 0 0))), (1, (.fz 1 (t5.map eI64)))]))) :: [])) (fun σ => ⟨rfl, rfl, rfl, rfl, trivial⟩) (fun σ => Sub.refl _) (fun σ => ?_)
  ·refine StepE.calm (fun _ _ => rfl) fun L σ hc hi hd => ?_
   refine AO.wK [1] ?_
   refine AO.c (x := .ptr n2 0) (Calm.fldPtr rfl rfl Try.underlying30 rfl sz27 _ rfl) ?_
   exact AO.nE (d := 12) rfl ⟨⟨12, _, rfl, rfl, rfl⟩, Sub.refl _⟩
  ·refine StepE.calm (fun _ _ => rfl) fun L σ hc hi hd => ?_
   refine AO.wK [12] ?_
   refine AO.c (Calm.load 0 rfl rfl rfl (At.cast (At.fld0 At.here) rfl) ag27 (by rw [sz27]; simp [AV.size])) ?_
   exact AO.nE (d := 13) rfl ⟨⟨13, _, rfl, rfl, rfl⟩, Sub.refl _⟩
  ·refine StepE.calm (fun _ _ => rfl) fun L σ hc hi hd => ?_
   refine AO.wK [1] ?_
   refine AO.c (x := .ptr n2 257) (Calm.fldPtr rfl rfl Try.underlying30 rfl sz25 _ rfl) ?_
   exact AO.nE (d := 14) rfl ⟨⟨14, _, rfl, rfl, rfl⟩, Sub.refl _⟩
  ·refine StepE.calm (fun _ _ => rfl) fun L σ hc hi hd => ?_
   refine AO.wK [14] ?_
   refine AO.c (Calm.load 0 rfl rfl rfl (At.cast (At.fldS (At.fldS (At.fld0 At.here))) rfl) ag25 sz25) ?_
   exact AO.nE (d := 15) rfl ⟨⟨15, _, rfl, rfl, rfl⟩, Sub.refl _⟩
  ·refine StepE.calm (fun _ _ => rfl) fun L σ hc hi hd => ?_
   refine AO.wK [15] ?_
   refine AO.callS [(.fz 1 (p0.f2.map eI64))] (.fz 1 (t5.map eI64)) 16 rfl (by decide) ok93 rfl rfl rfl ⟨rfl, rfl, trivial⟩ (slices_Clone_int_int__spec et5) ?_
   exact AO.nE (d := 16) rfl ⟨⟨16, _, rfl, rfl, rfl⟩, Sub.refl _⟩
  ·refine StepE.calm (fun _ _ => rfl) fun L σ hc hi hd => ?_
   refine AO.wK [13, 16] ?_
   refine AO.c (x := .st [(256, (.ar 1 (p0.f0.toList.map eU8))), (1, (.fl (.slice none 0 0))), (1, (.fz 1 (t5.map eI64)))]) (Calm.build (qs := [(0, (.ar 1 (p0.f0.toList.map eU8))), (2, (.fz 1 (t5.map eI64)))]) rfl ⟨rfl, rfl, rfl, rfl, rfl, rfl, trivial⟩ Try.underlying30 rfl zr30 lay30 (.cons rfl rfl (vec_size _ _) (vec_size _ _) (Put.cast (Put.fld0 Put.here) rfl) (.cons rfl rfl rfl rfl (Put.cast (Put.fldS (Put.fldS (Put.fld0 Put.here))) rfl) .nil)) rfl) ?_
   exact AO.nE (d := 17) rfl ⟨⟨17, _, rfl, rfl, rfl⟩, Sub.refl _⟩
  ·intro L σ hc hi hd
   have m7 : L 7 = false := hc.neg (i := 6) (j := 7) rfl (by rfl) hi
   refine AO.heq (H' := ((n2, (.mem (e30 p0))) :: (n3, (.mem (.st [(256, (.ar 1 ((Vector.replicate 256 (0 : Int)).toList.map eU8))), (1, (.fl (.slice none 0 0))), (1, (.fl (.slice none 0 0)))]))) :: [])) (by first | rfl | simp only [hi, m7, cond_true, cond_false]) ?_
   refine AO.wK [] ?_
   refine AO.alloc rfl 4 rfl (by decide) rfl zr30 lay30 fun n6 => ?_
   have a6 : addL L 6 6 = true := rfl
   have a7 : addL L 6 7 = false := m7
   have u6 : upd σ 6 n6 6 = n6 := rfl
   exact AO.nE (d := 4) rfl ⟨(upd σ 6 n6), (fun j hj => match j, hj with | 0, _ => rfl | 1, _ => rfl | 2, _ => rfl | 3, _ => rfl | 4, _ => rfl | 5, _ => rfl | 6, hj => Bool.noConfusion (hj.symm.trans hi) | 7, _ => rfl | _ + 8, _ => rfl), (fun d' hd' => ⟨_, rfl, by cases hd'; rfl⟩), Sub.of_eq (B := ((n2, (.mem (e30 p0))) :: (n3, (.mem (.st [(256, (.ar 1 ((Vector.replicate 256 (0 : Int)).toList.map eU8))), (1, (.fl (.slice none 0 0))), (1, (.fl (.slice none 0 0)))]))) :: (n6, (.mem (.st [(256, (.ar 1 ((Vector.replicate 256 (0 : Int)).toList.map eU8))), (1, (.fl (.slice none 0 0))), (1, (.fl (.slice none 0 0)))]))) :: [])) (by simp only [a6, a7, u6, cond_true, cond_false]) (Sub.cons 1 rfl (Sub.cons 1 rfl (Sub.cons 0 rfl (Sub.refl _))))⟩
  ·intro L σ hc hi hd
   have y6 : L 6 = true := on_get hd (i := 6) (by rfl)
   refine AO.heq (H' := ((n2, (.mem (e30 p0))) :: (n3, (.mem (.st [(256, (.ar 1 ((Vector.replicate 256 (0 : Int)).toList.map eU8))), (1, (.fl (.slice none 0 0))), (1, (.fl (.slice none 0 0)))]))) :: ((σ 6), (.mem (.st [(256, (.ar 1 ((Vector.replicate 256 (0 : Int)).toList.map eU8))), (1, (.fl (.slice none 0 0))), (1, (.fl (.slice none 0 0)))]))) :: [])) (by first | rfl | simp only [hi, y6, cond_true, cond_false]) ?_
   refine AO.wK [4, 17] ?_
   refine AO.store (X' := (.st [(256, (.ar 1 (p0.f0.toList.map eU8))), (1, (.fl (.slice none 0 0))), (1, (.fz 1 (t5.map eI64)))])) 2 rfl rfl rfl rfl rfl rfl (Put.cast Put.here rfl) rfl rfl sz30 rfl ?_
   have a6 : addL L 7 6 = true := y6
   have a7 : addL L 7 7 = true := rfl
   exact AO.n0 ⟨σ, (fun _ _ => rfl), (fun d' hd' => by cases hd'), Sub.of_eq (B := ((n2, (.mem (e30 p0))) :: (n3, (.mem (.st [(256, (.ar 1 ((Vector.replicate 256 (0 : Int)).toList.map eU8))), (1, (.fl (.slice none 0 0))), (1, (.fl (.slice none 0 0)))]))) :: ((σ 6), (.mem (.st [(256, (.ar 1 (p0.f0.toList.map eU8))), (1, (.fl (.slice none 0 0))), (1, (.fz 1 (t5.map eI64)))]))) :: [])) (by simp only [a6, a7, cond_true, cond_false]) (Sub.refl _)⟩
  ·generalize σ 6 = n6
   refine AO.nK [1, 2, 3, 4] ?_
   refine AW.seq_mid (fun ρ H => ∃ (n7 : Nat) (x8 : (List (List Int))), ρ = [(2, (.ptr n3 0)), (4, (.ptr n6 0))] ∧ H = [(n3, (.mem (.st [(256, (.ar 1 ((Vector.replicate 256 (0 : Int)).toList.map eU8))), (1, (.fl (.slice none 0 0))), (1, (.fl (.slice none 0 0)))]))), (n6, (.mem (.st [(256, (.ar 1 (p0.f0.toList.map eU8))), (1, (.own n7 0 x8.length)), (1, (.fz 1 (t5.map eI64)))]))), (n7, (.mem (.ar 1 (x8.map e25))))] ∧ dfa_Trim_c0 k p0 t5 x8 = some r) ?_ ?_
   ·refine AW.sr ?_
    refine AO.c (x := .ptr n2 256) (Calm.fldPtr rfl rfl Try.underlying30 rfl sz28 _ rfl) ?_
    refine AO.c (Calm.load 0 rfl rfl rfl (At.cast (At.fldS (At.fld0 At.here)) rfl) ag28 sz28) ?_
    refine AO.c (Calm.lenL rfl rfl Try.underlying28) ?_
    refine AO.c (Calm.move rfl rfl) ?_
    refine AO.nH [2, 3, 4, 19, 20, 21] (H' := [(n3, (.mem (.st [(256, (.ar 1 ((Vector.replicate 256 (0 : Int)).toList.map eU8))), (1, (.fl (.slice none 0 0))), (1, (.fl (.slice none 0 0)))]))), (n6, (.mem (.st [(256, (.ar 1 (p0.f0.toList.map eU8))), (1, (.fl (.slice none 0 0))), (1, (.fz 1 (t5.map eI64)))])))]) (Sub.cons 1 rfl (Sub.cons 1 rfl (Sub.nil _))) ?_
    refine AW.block ?_
    refine AW.nilOwnFld 1 1 (fun n39 => (.st [(256, (.ar 1 (p0.f0.toList.map eU8))), (1, (.own n39 0 0)), (1, (.fz 1 (t5.map eI64)))])) rfl (fun _ => (Put.cast (Put.fldS (Put.fld0 Put.here)) rfl)) (fun _ => rfl) (fun _ => rfl) fun n39 => ?_
    refine AW.wH [2, 3, 4, 19, 20, 21] (H' := [(n3, (.mem (.st [(256, (.ar 1 ((Vector.replicate 256 (0 : Int)).toList.map eU8))), (1, (.fl (.slice none 0 0))), (1, (.fl (.slice none 0 0)))]))), (n6, (.mem (.st [(256, (.ar 1 (p0.f0.toList.map eU8))), (1, (.own n39 0 ([] : List (List Int)).length)), (1, (.fz 1 (t5.map eI64)))]))), (n39, (.mem (.ar 1 (([] : List (List Int)).map e25))))]) (Sub.cons 1 rfl (Sub.cons 1 rfl (Sub.cons 0 rfl (Sub.nil _)))) ?_
    refine AW.loop (fun kq ρ H => ∃ (n9 : Nat) (x10 : (List (List Int))) (x11 : Int), ρ = [(2, (.ptr n3 0)), (3, (.fz 1 (t4.map eBool))), (4, (.ptr n6 0)), (19, (.fz 1 (p0.f1.map e25))), (20, (eI64 (p0.f1.length : Int))), (21, (eI64 x11))] ∧ H = [(n3, (.mem (.st [(256, (.ar 1 ((Vector.replicate 256 (0 : Int)).toList.map eU8))), (1, (.fl (.slice none 0 0))), (1, (.fl (.slice none 0 0)))]))), (n6, (.mem (.st [(256, (.ar 1 (p0.f0.toList.map eU8))), (1, (.own n9 0 x10.length)), (1, (.fz 1 (t5.map eI64)))]))), (n9, (.mem (.ar 1 (x10.map e25))))] ∧ dfa_Trim_l5 k p0 t4 t5 kq x10 x11 = some r) k ⟨n39, ([] : List (List Int)), (0 : Int), rfl, rfl, h⟩ ?_
    rintro kq13 _ _ ⟨n9, x10, x11, rfl, rfl, h⟩
    cases kq13 with
    | zero => rw [dfa_Trim_l5.eq_1] at h; cases h
    | succ kq13 =>
    rw [dfa_Trim_l5.eq_2] at h
    generalize hrec12 : dfa_Trim_l5 k p0 t4 t5 kq13 = rec12 at h
    refine AW.sr ?_
    refine AO.c (x := eBool (decide (x11 < (p0.f1.length : Int)))) (Calm.int rfl rfl rfl rfl) ?_
    refine AO.nK [2, 3, 4, 19, 20, 21, 22] ?_
    refine AW.seq ?_
    rcases of_ite h with ⟨hc14, h⟩ | ⟨hc14, h⟩
    ·refine AW.condP _ rfl hc14 ?_
     refine AW.sK [2, 3, 4, 19, 20, 21] ?_
     refine AW.seq_mid (fun ρ H => ∃ (n15 : Nat) (x16 : (List (List Int))), ρ = [(2, (.ptr n3 0)), (3, (.fz 1 (t4.map eBool))), (4, (.ptr n6 0)), (19, (.fz 1 (p0.f1.map e25))), (20, (eI64 (p0.f1.length : Int))), (21, (eI64 x11))] ∧ H = [(n3, (.mem (.st [(256, (.ar 1 ((Vector.replicate 256 (0 : Int)).toList.map eU8))), (1, (.fl (.slice none 0 0))), (1, (.fl (.slice none 0 0)))]))), (n6, (.mem (.st [(256, (.ar 1 (p0.f0.toList.map eU8))), (1, (.own n15 0 x16.length)), (1, (.fz 1 (t5.map eI64)))]))), (n15, (.mem (.ar 1 (x16.map e25))))] ∧ dfa_Trim_c1 k rec12 x11 x16 = some r) ?_ ?_
     ·refine AW.block ?_
      refine AW.sr ?_
      obtain ⟨hg17, h⟩ := of_guard h
      refine AO.c (Calm.idxL (f := e25) rfl rfl rfl hg17 Try.underlying28 sz25) ?_
      refine AO.c (Calm.loadRp rfl rfl ag25 sz25) ?_
      refine AO.c (Calm.assign rfl rfl) ?_
      refine AO.nK [2, 3, 4, 6, 19, 20, 21] ?_
      refine AW.sr ?_
      refine AO.c (Calm.move rfl rfl) ?_
      obtain ⟨t18, et18, h⟩ := of_bind h
      refine AO.callH [(.fz 1 ((lget p0.f1 x11).map eI64))] [(n3, (.mem (.st [(256, (.ar 1 ((Vector.replicate 256 (0 : Int)).toList.map eU8))), (1, (.fl (.slice none 0 0))), (1, (.fl (.slice none 0 0)))]))), (n6, (.mem (.st [(256, (.ar 1 (p0.f0.toList.map eU8))), (1, (.own n9 0 x10.length)), (1, (.fz 1 (t5.map eI64)))]))), (n9, (.mem (.ar 1 (x10.map e25))))] _ rfl rfl rfl 26 rfl (by decide) ok93 ⟨rfl, rfl, trivial⟩ (Sub.refl _) (slices_Clone_int_int__own_spec et18) ?_
      rintro _ _ ⟨n20, rfl, hs19⟩
      refine AO.wH [2, 3, 4, 6, 19, 20, 21, 25, 26] hs19 ?_
      refine AO.c (Calm.assign rfl rfl) ?_
      refine AO.nH [2, 3, 4, 7, 19, 20, 21] (H' := [(n3, (.mem (.st [(256, (.ar 1 ((Vector.replicate 256 (0 : Int)).toList.map eU8))), (1, (.fl (.slice none 0 0))), (1, (.fl (.slice none 0 0)))]))), (n6, (.mem (.st [(256, (.ar 1 (p0.f0.toList.map eU8))), (1, (.own n9 0 x10.length)), (1, (.fz 1 (t5.map eI64)))]))), (n9, (.mem (.ar 1 (x10.map e25)))), (n20, (.mem (.ar 1 (t18.map eI64))))]) (Sub.cons 1 rfl (Sub.cons 1 rfl (Sub.cons 1 rfl (Sub.cons 0 rfl (Sub.nil _))))) ?_
      refine AW.seq_mid (fun ρ H => ∃ (x21 : (List Int)), ρ = [(2, (.ptr n3 0)), (3, (.fz 1 (t4.map eBool))), (4, (.ptr n6 0)), (7, (.own n20 0 x21.length)), (19, (.fz 1 (p0.f1.map e25))), (20, (eI64 (p0.f1.length : Int))), (21, (eI64 x11))] ∧ H = [(n3, (.mem (.st [(256, (.ar 1 ((Vector.replicate 256 (0 : Int)).toList.map eU8))), (1, (.fl (.slice none 0 0))), (1, (.fl (.slice none 0 0)))]))), (n6, (.mem (.st [(256, (.ar 1 (p0.f0.toList.map eU8))), (1, (.own n9 0 x10.length)), (1, (.fz 1 (t5.map eI64)))]))), (n9, (.mem (.ar 1 (x10.map e25)))), (n20, (.mem (.ar 1 (x21.map eI64))))] ∧ dfa_Trim_c2 k rec12 x10 x11 x21 = some r) ?_ ?_
      ·refine AW.sr ?_
       refine AO.c (Calm.move rfl rfl) ?_
       refine AO.c (Calm.lenOwn rfl rfl Try.underlying25) ?_
       refine AO.c (Calm.move rfl rfl) ?_
       refine AO.nK [2, 3, 4, 7, 19, 20, 21, 27, 28, 29] ?_
       refine AW.block ?_
       refine AW.wK [2, 3, 4, 7, 19, 20, 21, 27, 28, 29] ?_
       refine AW.loop (fun kq ρ H => ∃ (x25 : (List Int)) (x26 : Int), ρ = [(2, (.ptr n3 0)), (3, (.fz 1 (t4.map eBool))), (4, (.ptr n6 0)), (7, (.own n20 0 x25.length)), (19, (.fz 1 (p0.f1.map e25))), (20, (eI64 (p0.f1.length : Int))), (21, (eI64 x11)), (27, (.own n20 0 x25.length)), (28, (eI64 (t18.length : Int))), (29, (eI64 x26))] ∧ H = [(n3, (.mem (.st [(256, (.ar 1 ((Vector.replicate 256 (0 : Int)).toList.map eU8))), (1, (.fl (.slice none 0 0))), (1, (.fl (.slice none 0 0)))]))), (n6, (.mem (.st [(256, (.ar 1 (p0.f0.toList.map eU8))), (1, (.own n9 0 x10.length)), (1, (.fz 1 (t5.map eI64)))]))), (n9, (.mem (.ar 1 (x10.map e25)))), (n20, (.mem (.ar 1 (x25.map eI64))))] ∧ dfa_Trim_l4 k rec12 t4 x10 x11 t18 kq x25 x26 = some r) k ⟨t18, (0 : Int), rfl, rfl, h⟩ ?_
       rintro kq28 _ _ ⟨x25, x26, rfl, rfl, h⟩
       cases kq28 with
       | zero => rw [dfa_Trim_l4.eq_1] at h; cases h
       | succ kq28 =>
       rw [dfa_Trim_l4.eq_2] at h
       generalize hrec27 : dfa_Trim_l4 k rec12 t4 x10 x11 t18 kq28 = rec27 at h
       refine AW.sr ?_
       refine AO.c (x := eBool (decide (x26 < (t18.length : Int)))) (Calm.int rfl rfl rfl rfl) ?_
       refine AO.nK [2, 3, 4, 7, 19, 20, 21, 27, 28, 29, 30] ?_
       refine AW.seq ?_
       rcases of_ite h with ⟨hc29, h⟩ | ⟨hc29, h⟩
       ·refine AW.condP _ rfl hc29 ?_
        refine AW.sK [2, 3, 4, 7, 19, 20, 21, 27, 28, 29] ?_
        refine AW.seq_mid (fun ρ H => ∃ (x30 : (List Int)), ρ = [(2, (.ptr n3 0)), (3, (.fz 1 (t4.map eBool))), (4, (.ptr n6 0)), (7, (.own n20 0 x30.length)), (19, (.fz 1 (p0.f1.map e25))), (20, (eI64 (p0.f1.length : Int))), (21, (eI64 x11)), (27, (.own n20 0 x30.length)), (28, (eI64 (t18.length : Int))), (29, (eI64 x26))] ∧ H = [(n3, (.mem (.st [(256, (.ar 1 ((Vector.replicate 256 (0 : Int)).toList.map eU8))), (1, (.fl (.slice none 0 0))), (1, (.fl (.slice none 0 0)))]))), (n6, (.mem (.st [(256, (.ar 1 (p0.f0.toList.map eU8))), (1, (.own n9 0 x10.length)), (1, (.fz 1 (t5.map eI64)))]))), (n9, (.mem (.ar 1 (x10.map e25)))), (n20, (.mem (.ar 1 (x30.map eI64))))] ∧ dfa_Trim_c3 k rec27 x26 x30 = some r) ?_ ?_
        ·refine AW.block ?_
         refine AW.sr ?_
         refine AO.c (Calm.move rfl rfl) ?_
         obtain ⟨hg31, h⟩ := of_guard h
         refine AO.c (Calm.idxO 3 rfl rfl rfl rfl hg31 Try.underlying25 sz3) ?_
         refine AO.c (Calm.load 3 rfl rfl rfl (At.cast (At.lidx x26 hg31.1 hg31.2 At.here) (by omega)) ag3 sz3) ?_
         refine AO.c (Calm.assign rfl rfl) ?_
         refine AO.c (Calm.assign rfl rfl) ?_
         refine AO.nK [2, 3, 4, 7, 8, 9, 19, 20, 21, 27, 28, 29] ?_
         refine AW.seq ?_
         obtain ⟨b32, hq33, h⟩ := of_bind h
         refine AW.regM [(2, (.ptr n3 0)), (3, (.fz 1 (t4.map eBool))), (4, (.ptr n6 0)), (7, (.own n20 0 x25.length)), (8, (eI64 x26)), (19, (.fz 1 (p0.f1.map e25))), (20, (eI64 (p0.f1.length : Int))), (21, (eI64 x11)), (27, (.own n20 0 x25.length)), (28, (eI64 (t18.length : Int))), (29, (eI64 x26)), (48, (eBool b32))] [(n3, (.mem (.st [(256, (.ar 1 ((Vector.replicate 256 (0 : Int)).toList.map eU8))), (1, (.fl (.slice none 0 0))), (1, (.fl (.slice none 0 0)))]))), (n6, (.mem (.st [(256, (.ar 1 (p0.f0.toList.map eU8))), (1, (.own n9 0 x10.length)), (1, (.fz 1 (t5.map eI64)))]))), (n9, (.mem (.ar 1 (x10.map e25)))), (n20, (.mem (.ar 1 (x25.map eI64))))] ?_ ?_
         ·refine AO.c (Calm.move rfl rfl) ?_
          refine AO.c (x := eBool (decide ((0 : Int) ≤ (lget x25 x26)))) (Calm.int rfl rfl rfl rfl) ?_
          refine AO.c (Calm.move rfl rfl) ?_
          rcases of_ite hq33 with ⟨hc34, hq33⟩ | ⟨hc34, hq33⟩
          ·refine AO.cG rfl rfl (bD (decide_eq_true hc34)) (Calm.move rfl rfl) ?_
           refine AO.cG rfl rfl (bD (decide_eq_true hc34)) (Calm.move rfl rfl) ?_
           refine AO.cG rfl rfl (bD (decide_eq_true hc34)) (Calm.lenL rfl rfl Try.underlying49) ?_
           refine AO.cG (x := eBool (decide ((lget x25 x26) < (t4.length : Int)))) rfl rfl (bD (decide_eq_true hc34)) (Calm.int rfl rfl rfl rfl) ?_
           refine AO.c (Calm.pickT rfl (bD (decide_eq_true hc34)) rfl) ?_
           refine AO.c (Calm.move rfl rfl) ?_
           rcases of_ite hq33 with ⟨hc35, hq33⟩ | ⟨hc35, hq33⟩
           ·refine AO.cG rfl rfl (bD (decide_eq_true hc35)) (Calm.move rfl rfl) ?_
            refine AO.cG rfl rfl (bD (decide_eq_true hc35)) (Calm.move rfl rfl) ?_
            obtain ⟨hg36, hq33⟩ := of_guard hq33
            refine AO.cG rfl rfl (bD (decide_eq_true hc35)) (Calm.idxL (f := eBool) rfl rfl rfl hg36 Try.underlying49 sz4) ?_
            refine AO.cG rfl rfl (bD (decide_eq_true hc35)) (Calm.loadRp rfl rfl ag4 sz4) ?_
            refine AO.cG rfl rfl (bD (decide_eq_true hc35)) (Calm.not rfl rfl) ?_
            refine AO.c (Calm.pickT rfl (bD (decide_eq_true hc35)) rfl) ?_
            cases hq33
            refine AO.nilE ⟨rfl, rfl⟩ ?_ ?_
            · exact ⟨rfl, rfl, rfl, rfl, rfl, rfl, rfl, rfl, rfl, rfl, rfl, rfl, trivial⟩
            · exact (Sub.refl _)
           ·refine AO.sT rfl rfl (bD (decide_eq_false hc35)) ?_
            refine AO.sT rfl rfl (bD (decide_eq_false hc35)) ?_
            refine AO.sT rfl rfl (bD (decide_eq_false hc35)) ?_
            refine AO.sT rfl rfl (bD (decide_eq_false hc35)) ?_
            refine AO.sT rfl rfl (bD (decide_eq_false hc35)) ?_
            refine AO.c (Calm.pickF rfl (bD (decide_eq_false hc35)) rfl) ?_
            cases hq33
            refine AO.nilE ⟨rfl, rfl⟩ ?_ ?_
            · exact ⟨rfl, rfl, rfl, rfl, rfl, rfl, rfl, rfl, rfl, rfl, rfl, rfl, trivial⟩
            · exact (Sub.refl _)
          ·refine AO.sT rfl rfl (bD (decide_eq_false hc34)) ?_
           refine AO.sT rfl rfl (bD (decide_eq_false hc34)) ?_
           refine AO.sT rfl rfl (bD (decide_eq_false hc34)) ?_
           refine AO.sT rfl rfl (bD (decide_eq_false hc34)) ?_
           refine AO.c (Calm.pickF rfl (bD (decide_eq_false hc34)) rfl) ?_
           refine AO.c (Calm.move rfl rfl) ?_
           refine AO.sT rfl rfl rfl ?_
           refine AO.sT rfl rfl rfl ?_
           refine AO.sT rfl rfl rfl ?_
           refine AO.sT rfl rfl rfl ?_
           refine AO.sT rfl rfl rfl ?_
           refine AO.c (Calm.pickF rfl rfl rfl) ?_
           cases hq33
           refine AO.nilE ⟨rfl, rfl⟩ ?_ ?_
           · exact ⟨rfl, rfl, rfl, rfl, rfl, rfl, rfl, rfl, rfl, rfl, rfl, rfl, trivial⟩
           · exact (Sub.refl _)
         ·rcases of_ite h with ⟨hc37, h⟩ | ⟨hc37, h⟩
          ·refine AW.condT' _ rfl hc37 ?_
           refine AW.reg ?_
           refine AO.c (Calm.move rfl rfl) ?_
           refine AO.c (Calm.move rfl rfl) ?_
           obtain ⟨hg38, h⟩ := of_guard h
           refine AO.c (Calm.idxO 3 rfl rfl rfl rfl hg38 Try.underlying25 sz3) ?_
           refine AO.store (X' := (.ar 1 ((lset x25 x26 (-1 : Int)).map eI64))) 3 rfl rfl rfl rfl rfl rfl (Put.cast (Put.lidx x26 (-1 : Int) hg38.1 hg38.2 Put.here) (by omega)) rfl rfl sz3 rfl ?_
           refine AO.coe 7 (y' := (.own n20 0 (lset x25 x26 (-1 : Int)).length)) rfl (fun _ _ h => lset_own h) ?_
           refine AO.coe 27 (y' := (.own n20 0 (lset x25 x26 (-1 : Int)).length)) rfl (fun _ _ h => lset_own h) ?_
           refine AO.coe 49 (y' := (.own n20 0 (lset x25 x26 (-1 : Int)).length)) rfl (fun _ _ h => lset_own h) ?_
           refine AO.nK [2, 3, 4, 7, 19, 20, 21, 27, 28, 29] ?_
           exact ⟨(lset x25 x26 (-1 : Int)), rfl, rfl, h⟩
          ·refine AW.condF' _ rfl hc37 ?_
           refine AW.sK [2, 3, 4, 7, 19, 20, 21, 27, 28, 29] ?_
           exact ⟨x25, rfl, rfl, h⟩
        ·rintro _ _ ⟨x30, rfl, rfl, h⟩
         rw [dfa_Trim_c3.eq_1] at h
         refine AW.reg ?_
         refine AO.c (x := eI64 (w64 (x26 + (1 : Int)))) (Calm.int rfl rfl rfl rfl) ?_
         refine AO.c (Calm.move rfl rfl) ?_
         refine AO.nK [2, 3, 4, 7, 19, 20, 21, 27, 28, 29] ?_
         exact ⟨kq28, Nat.lt_succ_self _, x30, (w64 (x26 + (1 : Int))), rfl, rfl, by rw [hrec27]; exact h⟩
       ·refine AW.condN _ rfl hc29 ?_
        refine AW.eK [2, 3, 4, 7, 19, 20, 21] ?_
        exact ⟨x25, rfl, rfl, h⟩
      ·rintro _ _ ⟨x21, rfl, rfl, h⟩
       rw [dfa_Trim_c2.eq_1] at h
       refine AW.reg ?_
       refine AO.c (x := .ptr n6 256) (Calm.fldPtr rfl rfl Try.underlying30 rfl sz28 _ rfl) ?_
       refine AO.c (Calm.load 1 rfl rfl rfl (At.cast (At.fldS (At.fld0 At.here)) rfl) ag28 sz28) ?_
       refine AO.c (Calm.move rfl rfl) ?_
       refine AO.freezeS 3 [(7, (.fz 1 (x21.map eI64))), (55, (.fz 1 (x21.map eI64)))] rfl ⟨fz_all rfl, fz_all rfl, trivial⟩ ?_
       refine AO.lit (Z := (.fl (.slice none 0 0))) (xs := (([x21] : List (List Int)).map e25)) (qs := [(0, (.fz 1 (x21.map eI64)))]) rfl 56 rfl (by decide) rfl ⟨rfl, rfl, rfl, trivial⟩ Try.underlying28 sz25 zr25 lay25 rfl (by decide) (litOK (z := 1) [(.fz 1 (x21.map eI64))] rfl ⟨⟨rfl, rfl⟩, trivial⟩) rfl fun n22 => ?_
       obtain ⟨hg24, h⟩ := of_guard h
       refine AO.appendL (l := x10) (m := ([x21] : List (List Int))) 3 57 rfl (by decide) rfl rfl rfl rfl rfl (Src.ownL (f := e25) (l := ([x21] : List (List Int))) 0 rfl) Try.underlying28 Try.underlying28 sz25 by25 zr25 rfl hg24 (by decide) fun n23 => ?_
       refine AO.c (x := .ptr n6 256) (Calm.fldPtr rfl rfl Try.underlying30 rfl sz28 _ rfl) ?_
       refine AO.store (X' := (.st [(256, (.ar 1 (p0.f0.toList.map eU8))), (1, (.own n23 0 (x10 ++ ([x21] : List (List Int))).length)), (1, (.fz 1 (t5.map eI64)))])) 2 rfl rfl rfl rfl rfl rfl (Put.cast (Put.fldS (Put.fld0 Put.here)) rfl) rfl rfl sz28 rfl ?_
       refine AO.nH [2, 3, 4, 19, 20, 21] (H' := [(n3, (.mem (.st [(256, (.ar 1 ((Vector.replicate 256 (0 : Int)).toList.map eU8))), (1, (.fl (.slice none 0 0))), (1, (.fl (.slice none 0 0)))]))), (n6, (.mem (.st [(256, (.ar 1 (p0.f0.toList.map eU8))), (1, (.own n23 0 (x10 ++ ([x21] : List (List Int))).length)), (1, (.fz 1 (t5.map eI64)))]))), (n23, (.mem (.ar 1 ((x10 ++ ([x21] : List (List Int))).map e25))))]) (Sub.cons 1 rfl (Sub.cons 1 rfl (Sub.cons 1 rfl (Sub.nil _)))) ?_
       exact ⟨n23, (x10 ++ ([x21] : List (List Int))), rfl, rfl, h⟩
     ·rintro _ _ ⟨n15, x16, rfl, rfl, h⟩
      rw [dfa_Trim_c1.eq_1] at h
      refine AW.reg ?_
      refine AO.c (x := eI64 (w64 (x11 + (1 : Int)))) (Calm.int rfl rfl rfl rfl) ?_
      refine AO.c (Calm.move rfl rfl) ?_
      refine AO.nK [2, 3, 4, 19, 20, 21] ?_
      exact ⟨kq13, Nat.lt_succ_self _, n15, x16, (w64 (x11 + (1 : Int))), rfl, rfl, by rw [hrec12]; exact h⟩
    ·refine AW.condN _ rfl hc14 ?_
     refine AW.eK [2, 4] ?_
     exact ⟨n9, x10, rfl, rfl, h⟩
   ·rintro _ _ ⟨n7, x8, rfl, rfl, h⟩
    rw [dfa_Trim_c0.eq_1] at h
    refine AW.sr ?_
    refine AO.freezeFld (X' := (.st [(256, (.ar 1 (p0.f0.toList.map eU8))), (1, (.fz 1 (x8.map e25))), (1, (.fz 1 (t5.map eI64)))])) (els' := (x8.map e25)) 2 1 rfl rfl (Put.cast (Put.fldS (Put.fld0 Put.here)) rfl) (by simp) (by rw [own_all]) rfl rfl (by decide) ?_
    refine AO.c (x := e30 (S30.mk p0.f0 x8 t5)) (Calm.load 1 rfl rfl rfl (At.cast At.here rfl) ag30 sz30) ?_
    refine AO.store (X' := (e30 (S30.mk p0.f0 x8 t5))) 0 rfl rfl rfl rfl rfl rfl (Put.cast Put.here rfl) rfl rfl sz30 rfl ?_
    refine AO.nH [2] (H' := [(n3, (.mem (e30 (S30.mk p0.f0 x8 t5))))]) (Sub.cons 0 rfl (Sub.nil _)) ?_
    refine AW.rK [2] ?_
    have hr := Option.some.inj h
    subst hr
    exact ⟨[(e30 (S30.mk p0.f0 x8 t5))], ⟨⟨_, 0, rfl, rfl, ag30, sz30⟩, trivial⟩, rfl⟩
end Go.Avl.T5
