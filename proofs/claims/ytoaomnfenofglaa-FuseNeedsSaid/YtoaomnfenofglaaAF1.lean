/- Parts: T5B, T5f24, T5f60, T5f59, T5f25, T5f74, T5f41, T5f42, T5f97, T5f85, T5f89, T5f102, T5f63, T5f88, T5f30, T5f31, T5f61, T5f62. -/
import Derived.Test.YtoaomnfenofglaaAv3
import Derived.Test.YtoaomnfenofglaaProg
/- Types and facts; printed by avmain.py. -/
namespace Go.Avl.T5
open Go Go.RowKit Go.Proofs Go.Avl
set_option linter.unusedVariables false
set_option maxRecDepth 100000
set_option maxHeartbeats 4000000
abbrev e27 (v : Vector Int 256) : AV := .ar 1 (v.toList.map eU8)
abbrev e49 (l : List Bool) : AV := .fz 1 (l.map eBool)
abbrev e25 (l : List Int) : AV := .fz 1 (l.map eI64)
structure S30 where
  f0 : (Vector Int 256)
  f1 : (List (List Int))
  f2 : (List Int)
deriving Inhabited, DecidableEq
abbrev e30 (x : S30) : AV := .st [(256, (.ar 1 (x.f0.toList.map eU8))), (1, (.fz 1 (x.f1.map e25))), (1, (.fz 1 (x.f2.map eI64)))]
structure S96 where
  f0 : Int
  f1 : ByteArray
  f2 : Int
deriving Inhabited, DecidableEq
abbrev e96 (x : S96) : AV := .st [(1, (eI64 x.f0)), (1, (eStr x.f1)), (1, (eI64 x.f2))]
theorem sz3 : tySize Try.prog 3 = some 1 := by rfl
theorem ag3 : tyAgg Try.prog 3 = some false := by rfl
theorem sz4 : tySize Try.prog 4 = some 1 := by rfl
theorem ag4 : tyAgg Try.prog 4 = some false := by rfl
theorem sz5 : tySize Try.prog 5 = some 1 := by rfl
theorem by5 : tyBytes Try.prog 5 = some 1 := by rfl
theorem zr5 : tyZero Try.prog 5 = some ([.int .u8 0]) := by rfl
theorem lay5 : ∀ g, Sim g (eU8 (0 : Int)) ([.int .u8 0]) := fun g => (lay_fl rfl)
theorem ag5 : tyAgg Try.prog 5 = some false := by rfl
theorem zr3 : tyZero Try.prog 3 = some ([.int .i64 0]) := by rfl
theorem ag27 : tyAgg Try.prog 27 = some true := by rfl
theorem sz27 : tySize Try.prog 27 = some 256 := by rfl
theorem by4 : tyBytes Try.prog 4 = some 1 := by rfl
theorem zr4 : tyZero Try.prog 4 = some ([.bool false]) := by rfl
theorem lay4 : ∀ g, Sim g (eBool false) ([.bool false]) := fun g => (lay_fl rfl)
theorem sz25 : tySize Try.prog 25 = some 1 := by rfl
theorem ag25 : tyAgg Try.prog 25 = some false := by rfl
theorem sz30 : tySize Try.prog 30 = some 258 := by rfl
theorem lay3 : ∀ g, Sim g (eI64 (0 : Int)) ([.int .i64 0]) := fun g => (lay_fl rfl)
theorem by3 : tyBytes Try.prog 3 = some 8 := by rfl
theorem zr30 : tyZero Try.prog 30 = some (((List.replicate 256 (.int .u8 0)) ++ ([.slice none 0 0] ++ ([.slice none 0 0] ++ [])))) := by rfl
theorem lay30 : ∀ g, Sim g (.st [(256, (.ar 1 ((Vector.replicate 256 (0 : Int)).toList.map eU8))), (1, (.fl (.slice none 0 0))), (1, (.fl (.slice none 0 0)))]) (((List.replicate 256 (.int .u8 0)) ++ ([.slice none 0 0] ++ ([.slice none 0 0] ++ [])))) := fun g => (Sim.stCons (lay_vec1 (lay_fl rfl)) rfl (Sim.stCons (lay_fl rfl) rfl (Sim.stCons (lay_fl rfl) rfl Sim.stNil)))
theorem ag30 : tyAgg Try.prog 30 = some true := by rfl
theorem sz28 : tySize Try.prog 28 = some 1 := by rfl
theorem ag28 : tyAgg Try.prog 28 = some false := by rfl
theorem zr25 : tyZero Try.prog 25 = some ([.slice none 0 0]) := by rfl
theorem lay25 : ∀ g, Sim g (.fl (.slice none 0 0)) ([.slice none 0 0]) := fun g => (lay_fl rfl)
theorem by25 : tyBytes Try.prog 25 = some 24 := by rfl
theorem sz9 : tySize Try.prog 9 = some 1 := by rfl
theorem ag9 : tyAgg Try.prog 9 = some false := by rfl
theorem ok97 : FnOK Try.prog 97 := FnOK.mk Try.func97 rfl rfl
theorem ok85 : FnOK Try.prog 85 := FnOK.mk Try.func85 rfl rfl
theorem ok89 : FnOK Try.prog 89 := FnOK.mk Try.func89 rfl rfl
theorem zr96 : tyZero Try.prog 96 = some (([.int .i64 0] ++ ([.string ByteArray.empty] ++ ([.int .i64 0] ++ [])))) := by rfl
theorem lay96 : ∀ g, Sim g (.st [(1, (eI64 (0 : Int))), (1, (eStr ByteArray.empty)), (1, (eI64 (0 : Int)))]) (([.int .i64 0] ++ ([.string ByteArray.empty] ++ ([.int .i64 0] ++ [])))) := fun g => (Sim.stCons (lay_fl rfl) rfl (Sim.stCons (lay_fl rfl) rfl (Sim.stCons (lay_fl rfl) rfl Sim.stNil)))
theorem sz96 : tySize Try.prog 96 = some 3 := by rfl
theorem by96 : tyBytes Try.prog 96 = some 32 := by rfl
theorem ok63 : FnOK Try.prog 63 := FnOK.mk Try.func63 rfl rfl
theorem ag96 : tyAgg Try.prog 96 = some true := by rfl
theorem ok31 : FnOK Try.prog 31 := FnOK.mk Try.func31 rfl rfl
theorem ok30 : FnOK Try.prog 30 := FnOK.mk Try.func30 rfl rfl
theorem ok101 : FnOK Try.prog 101 := FnOK.mk Try.func101 rfl rfl
theorem ok92 : FnOK Try.prog 92 := FnOK.mk Try.func92 rfl rfl
theorem ok93 : FnOK Try.prog 93 := FnOK.mk Try.func93 rfl rfl
theorem ok84 : FnOK Try.prog 84 := FnOK.mk Try.func84 rfl rfl
theorem ok83 : FnOK Try.prog 83 := FnOK.mk Try.func83 rfl rfl
theorem ok66 : FnOK Try.prog 66 := FnOK.mk Try.func66 rfl rfl
theorem ok86 : FnOK Try.prog 86 := FnOK.mk Try.func86 rfl rfl
theorem ok87 : FnOK Try.prog 87 := FnOK.mk Try.func87 rfl rfl
theorem ok57 : FnOK Try.prog 57 := FnOK.mk Try.func57 rfl rfl
theorem zr9 : tyZero Try.prog 9 = some ([.string ByteArray.empty]) := by rfl
theorem lay9 : ∀ g, Sim g (eStr ByteArray.empty) ([.string ByteArray.empty]) := fun g => (lay_fl rfl)
theorem ok27 : FnOK Try.prog 27 := FnOK.mk Try.func27 rfl rfl
theorem ok58 : FnOK Try.prog 58 := FnOK.mk Try.func58 rfl rfl
theorem ok60 : FnOK Try.prog 60 := FnOK.mk Try.func60 rfl rfl
theorem ok59 : FnOK Try.prog 59 := FnOK.mk Try.func59 rfl rfl
theorem ok23 : FnOK Try.prog 23 := FnOK.mk Try.func23 rfl rfl
theorem ok24 : FnOK Try.prog 24 := FnOK.mk Try.func24 rfl rfl
theorem ok25 : FnOK Try.prog 25 := FnOK.mk Try.func25 rfl rfl
theorem ok26 : FnOK Try.prog 26 := FnOK.mk Try.func26 rfl rfl
end Go.Avl.T5
/- bosket/bosketlaw08.Small; printed by avmain.py. -/
namespace Go.Avl.T5
open Go Go.RowKit Go.Proofs Go.Avl
set_option linter.unusedVariables false
set_option maxRecDepth 100000
set_option maxHeartbeats 4000000
attribute [local irreducible] AW AO AQ Spec SpecH Calm

def bosketlaw08_Small_c0 (k : Nat) : Option Bool :=
  some (true)
def bosketlaw08_Small_l1 (k : Nat) (p0 : S30) : Nat → Int → Option Bool
  | 0, _ => none
  | j + 1, x7 =>
    if x7 < (p0.f1.length : Int) then if 0 ≤ x7 ∧ x7 < (p0.f1.length : Int) then if (256 : Int) < ((lget p0.f1 x7).length : Int) then some (false)
    else (bosketlaw08_Small_l1 k p0 j) (w64 (x7 + (1 : Int)))
    else none
    else bosketlaw08_Small_c0 k
def bosketlaw08_Small (k : Nat) (p0 : S30) : Option Bool :=
  Option.bind (α := Bool) (if (20 : Int) < (p0.f1.length : Int) then some (true)
  else some (decide ((30 : Int) < (p0.f2.length : Int)))) fun b3 =>
  if b3 = true then some (false)
  else bosketlaw08_Small_l1 k p0 k (0 : Int)
theorem bosketlaw08_Small_spec {k : Nat} {p0 : S30} {r : Bool} (h : bosketlaw08_Small k p0 = some r) : Spec Try.prog 24 [(e30 p0)] (eBool r) := by
  rw [bosketlaw08_Small.eq_1] at h
  refine Spec.intro (res := [.tmp 2]) Try.func24 rfl rfl rfl (Nat.le_of_ble_eq_true rfl) ?_
  refine AW.sr ?_
  refine AO.box rfl 1 rfl (by decide) rfl rfl rfl fun n2 => ?_
  refine AO.c (Calm.assign rfl rfl) ?_
  refine AO.nK [1] ?_
  refine AW.seq ?_
  refine AW.seq ?_
  obtain ⟨b3, hq4, h⟩ := of_bind h
  refine AW.regM [(1, (.ptr n2 0)), (13, (eBool b3))] [(n2, (.mem (e30 p0)))] ?_ ?_
  ·refine AO.c (x := .ptr n2 256) (Calm.fldPtr rfl rfl Try.underlying30 rfl sz28 _ rfl) ?_
   refine AO.c (Calm.load 0 rfl rfl rfl (At.cast (At.fldS (At.fld0 At.here)) rfl) ag28 sz28) ?_
   refine AO.c (Calm.lenL rfl rfl Try.underlying28) ?_
   refine AO.c (x := eBool (decide ((20 : Int) < (p0.f1.length : Int)))) (Calm.int rfl rfl rfl rfl) ?_
   refine AO.c (Calm.move rfl rfl) ?_
   rcases of_ite hq4 with ⟨hc5, hq4⟩ | ⟨hc5, hq4⟩
   ·refine AO.sF rfl rfl (bD (decide_eq_true hc5)) ?_
    refine AO.sF rfl rfl (bD (decide_eq_true hc5)) ?_
    refine AO.sF rfl rfl (bD (decide_eq_true hc5)) ?_
    refine AO.sF rfl rfl (bD (decide_eq_true hc5)) ?_
    refine AO.c (Calm.pickT rfl (bD (decide_eq_true hc5)) rfl) ?_
    cases hq4
    refine AO.nilE ⟨rfl, rfl⟩ ?_ ?_
    · exact ⟨rfl, rfl, trivial⟩
    · exact (Sub.refl _)
   ·refine AO.cG (x := .ptr n2 257) rfl rfl (bD (decide_eq_false hc5)) (Calm.fldPtr rfl rfl Try.underlying30 rfl sz25 _ rfl) ?_
    refine AO.cG rfl rfl (bD (decide_eq_false hc5)) (Calm.load 0 rfl rfl rfl (At.cast (At.fldS (At.fldS (At.fld0 At.here))) rfl) ag25 sz25) ?_
    refine AO.cG rfl rfl (bD (decide_eq_false hc5)) (Calm.lenL rfl rfl Try.underlying25) ?_
    refine AO.cG (x := eBool (decide ((30 : Int) < (p0.f2.length : Int)))) rfl rfl (bD (decide_eq_false hc5)) (Calm.int rfl rfl rfl rfl) ?_
    refine AO.c (Calm.pickF rfl (bD (decide_eq_false hc5)) rfl) ?_
    cases hq4
    refine AO.nilE ⟨rfl, rfl⟩ ?_ ?_
    · exact ⟨rfl, rfl, trivial⟩
    · exact (Sub.refl _)
  ·rcases of_ite h with ⟨hc6, h⟩ | ⟨hc6, h⟩
   ·refine AW.condT' _ rfl hc6 ?_
    refine AW.sr ?_
    refine AO.c (Calm.assign rfl rfl) ?_
    refine AO.nH [2] (H' := []) (Sub.nil _) ?_
    refine AW.rK [2] ?_
    have hr := Option.some.inj h
    subst hr
    exact ⟨[(eBool false)], ⟨rfl, rfl, trivial⟩, rfl⟩
   ·refine AW.condF' _ rfl hc6 ?_
    refine AW.sK [1] ?_
    refine AW.seq_mid (fun ρ H => ρ = [] ∧ H = [] ∧ bosketlaw08_Small_c0 k = some r) ?_ ?_
    ·refine AW.sr ?_
     refine AO.c (Calm.assign rfl rfl) ?_
     refine AO.nK [1, 3] ?_
     refine AW.block ?_
     refine AW.wK [1, 3] ?_
     refine AW.loop (fun kq ρ H => ∃ (x7 : Int), ρ = [(1, (.ptr n2 0)), (3, (eI64 x7))] ∧ H = [(n2, (.mem (e30 p0)))] ∧ bosketlaw08_Small_l1 k p0 kq x7 = some r) k ⟨(0 : Int), rfl, rfl, h⟩ ?_
     rintro kq9 _ _ ⟨x7, rfl, rfl, h⟩
     cases kq9 with
     | zero => rw [bosketlaw08_Small_l1.eq_1] at h; cases h
     | succ kq9 =>
     rw [bosketlaw08_Small_l1.eq_2] at h
     generalize hrec8 : bosketlaw08_Small_l1 k p0 kq9 = rec8 at h
     refine AW.seq ?_
     refine AW.sr ?_
     refine AO.c (Calm.move rfl rfl) ?_
     refine AO.c (x := .ptr n2 256) (Calm.fldPtr rfl rfl Try.underlying30 rfl sz28 _ rfl) ?_
     refine AO.c (Calm.load 0 rfl rfl rfl (At.cast (At.fldS (At.fld0 At.here)) rfl) ag28 sz28) ?_
     refine AO.c (Calm.lenL rfl rfl Try.underlying28) ?_
     refine AO.c (x := eBool (decide (x7 < (p0.f1.length : Int)))) (Calm.int rfl rfl rfl rfl) ?_
     refine AO.nK [1, 3, 18] ?_
     rcases of_ite h with ⟨hc10, h⟩ | ⟨hc10, h⟩
     ·refine AW.condP _ rfl hc10 ?_
      refine AW.sK [1, 3] ?_
      refine AW.seq ?_
      refine AW.block ?_
      refine AW.sr ?_
      refine AO.c (x := .ptr n2 256) (Calm.fldPtr rfl rfl Try.underlying30 rfl sz28 _ rfl) ?_
      refine AO.c (Calm.load 0 rfl rfl rfl (At.cast (At.fldS (At.fld0 At.here)) rfl) ag28 sz28) ?_
      refine AO.c (Calm.move rfl rfl) ?_
      obtain ⟨hg11, h⟩ := of_guard h
      refine AO.c (Calm.idxL (f := e25) rfl rfl rfl hg11 Try.underlying28 sz25) ?_
      refine AO.c (Calm.loadRp rfl rfl ag25 sz25) ?_
      refine AO.c (Calm.lenL rfl rfl Try.underlying25) ?_
      refine AO.c (x := eBool (decide ((256 : Int) < ((lget p0.f1 x7).length : Int)))) (Calm.int rfl rfl rfl rfl) ?_
      refine AO.nK [1, 3, 27] ?_
      rcases of_ite h with ⟨hc12, h⟩ | ⟨hc12, h⟩
      ·refine AW.condP _ rfl hc12 ?_
       refine AW.sr ?_
       refine AO.c (Calm.assign rfl rfl) ?_
       refine AO.nH [2] (H' := []) (Sub.nil _) ?_
       refine AW.rK [2] ?_
       have hr := Option.some.inj h
       subst hr
       exact ⟨[(eBool false)], ⟨rfl, rfl, trivial⟩, rfl⟩
      ·refine AW.condN _ rfl hc12 ?_
       refine AW.sK [1, 3] ?_
       refine AW.reg ?_
       refine AO.c (Calm.move rfl rfl) ?_
       refine AO.c (x := eI64 (w64 (x7 + (1 : Int)))) (Calm.int rfl rfl rfl rfl) ?_
       refine AO.c (Calm.assign rfl rfl) ?_
       refine AO.nK [1, 3] ?_
       exact ⟨kq9, Nat.lt_succ_self _, (w64 (x7 + (1 : Int))), rfl, rfl, by rw [hrec8]; exact h⟩
     ·refine AW.condN _ rfl hc10 ?_
      refine AW.eH [] (H' := []) (Sub.nil _) ?_
      exact ⟨rfl, rfl, h⟩
    ·rintro _ _ ⟨rfl, rfl, h⟩
     rw [bosketlaw08_Small_c0.eq_1] at h
     refine AW.sr ?_
     refine AO.c (Calm.assign rfl rfl) ?_
     refine AO.nK [2] ?_
     refine AW.rK [2] ?_
     have hr := Option.some.inj h
     subst hr
     exact ⟨[(eBool true)], ⟨rfl, rfl, trivial⟩, rfl⟩
end Go.Avl.T5
/- bosket/bosketref08.classes; printed by avmain.py. -/
namespace Go.Avl.T5
open Go Go.RowKit Go.Proofs Go.Avl
set_option linter.unusedVariables false
set_option maxRecDepth 100000
set_option maxHeartbeats 4000000
attribute [local irreducible] AW AO AQ Spec SpecH Calm

def bosketref08_classes_c0 (k : Nat) (x3 : Int) : Option Int :=
  some (x3)
def bosketref08_classes_l1 (k : Nat) (p0 : S30) : Nat → Int → Int → Option Int
  | 0, _, _ => none
  | j + 1, x4, x5 =>
    if x5 < (256 : Int) then if 0 ≤ x5 ∧ x5 < (256 : Int) then (bosketref08_classes_l1 k p0 j) (max x4 (w64 ((w64 (vget p0.f0 x5)) + (1 : Int)))) (w64 (x5 + (1 : Int)))
    else none
    else bosketref08_classes_c0 k x4
def bosketref08_classes (k : Nat) (p0 : S30) : Option Int :=
  bosketref08_classes_l1 k p0 k (0 : Int) (0 : Int)
theorem bosketref08_classes_spec {k : Nat} {p0 : S30} {r : Int} (h : bosketref08_classes k p0 = some r) : Spec Try.prog 60 [(e30 p0)] (eI64 r) := by
  rw [bosketref08_classes.eq_1] at h
  refine Spec.intro (res := [.tmp 2]) Try.func60 rfl rfl rfl (Nat.le_of_ble_eq_true rfl) ?_
  refine AW.sr ?_
  refine AO.box rfl 1 rfl (by decide) rfl rfl rfl fun n2 => ?_
  refine AO.c (Calm.assign rfl rfl) ?_
  refine AO.nK [1] ?_
  refine AW.sr ?_
  refine AO.c (Calm.assign rfl rfl) ?_
  refine AO.nK [1, 3] ?_
  refine AW.seq_mid (fun ρ H => ∃ (x3 : Int), ρ = [(3, (eI64 x3))] ∧ H = [] ∧ bosketref08_classes_c0 k x3 = some r) ?_ ?_
  ·refine AW.sr ?_
   refine AO.c (Calm.assign rfl rfl) ?_
   refine AO.nK [1, 3, 4] ?_
   refine AW.block ?_
   refine AW.wK [1, 3, 4] ?_
   refine AW.loop (fun kq ρ H => ∃ (x4 : Int) (x5 : Int), ρ = [(1, (.ptr n2 0)), (3, (eI64 x4)), (4, (eI64 x5))] ∧ H = [(n2, (.mem (e30 p0)))] ∧ bosketref08_classes_l1 k p0 kq x4 x5 = some r) k ⟨(0 : Int), (0 : Int), rfl, rfl, h⟩ ?_
   rintro kq7 _ _ ⟨x4, x5, rfl, rfl, h⟩
   cases kq7 with
   | zero => rw [bosketref08_classes_l1.eq_1] at h; cases h
   | succ kq7 =>
   rw [bosketref08_classes_l1.eq_2] at h
   generalize hrec6 : bosketref08_classes_l1 k p0 kq7 = rec6 at h
   refine AW.seq ?_
   refine AW.sr ?_
   refine AO.c (Calm.move rfl rfl) ?_
   refine AO.c (x := eBool (decide (x5 < (256 : Int)))) (Calm.int rfl rfl rfl rfl) ?_
   refine AO.nK [1, 3, 4, 6] ?_
   rcases of_ite h with ⟨hc8, h⟩ | ⟨hc8, h⟩
   ·refine AW.condP _ rfl hc8 ?_
    refine AW.sK [1, 3, 4] ?_
    refine AW.seq ?_
    refine AW.block ?_
    refine AW.reg ?_
    refine AO.c (Calm.move rfl rfl) ?_
    refine AO.c (Calm.move rfl rfl) ?_
    refine AO.c (x := .ptr n2 0) (Calm.fldPtr rfl rfl Try.underlying30 rfl sz27 _ rfl) ?_
    obtain ⟨hg9, h⟩ := of_guard h
    refine AO.c (Calm.idxP rfl rfl rfl hg9 Try.underlying27 sz5) ?_
    refine AO.c (Calm.load 0 rfl rfl rfl (At.cast (At.fld0 (At.vidx x5 hg9.1 hg9.2 At.here)) (by omega)) ag5 sz5) ?_
    refine AO.c (x := eI64 (w64 (vget p0.f0 x5))) (Calm.conv rfl rfl Try.underlying5 Try.underlying3) ?_
    refine AO.c (x := eI64 (w64 ((w64 (vget p0.f0 x5)) + (1 : Int)))) (Calm.int rfl rfl rfl rfl) ?_
    refine AO.c (x := eI64 (max x4 (w64 ((w64 (vget p0.f0 x5)) + (1 : Int))))) (Calm.max2 rfl rfl rfl) ?_
    refine AO.c (Calm.assign rfl rfl) ?_
    refine AO.nK [1, 3, 4] ?_
    refine AW.reg ?_
    refine AO.c (Calm.move rfl rfl) ?_
    refine AO.c (x := eI64 (w64 (x5 + (1 : Int)))) (Calm.int rfl rfl rfl rfl) ?_
    refine AO.c (Calm.assign rfl rfl) ?_
    refine AO.nK [1, 3, 4] ?_
    exact ⟨kq7, Nat.lt_succ_self _, (max x4 (w64 ((w64 (vget p0.f0 x5)) + (1 : Int)))), (w64 (x5 + (1 : Int))), rfl, rfl, by rw [hrec6]; exact h⟩
   ·refine AW.condN _ rfl hc8 ?_
    refine AW.eH [3] (H' := []) (Sub.nil _) ?_
    exact ⟨x4, rfl, rfl, h⟩
  ·rintro _ _ ⟨x3, rfl, rfl, h⟩
   rw [bosketref08_classes_c0.eq_1] at h
   refine AW.sr ?_
   refine AO.c (Calm.move rfl rfl) ?_
   refine AO.c (Calm.assign rfl rfl) ?_
   refine AO.nK [2] ?_
   refine AW.rK [2] ?_
   have hr := Option.some.inj h
   subst hr
   exact ⟨[(eI64 x3)], ⟨rfl, rfl, trivial⟩, rfl⟩
end Go.Avl.T5
/- bosket/bosketref08.gapless; printed by avmain.py. -/
namespace Go.Avl.T5
open Go Go.RowKit Go.Proofs Go.Avl
set_option linter.unusedVariables false
set_option maxRecDepth 100000
set_option maxHeartbeats 4000000
attribute [local irreducible] AW AO AQ Spec SpecH Calm

def bosketref08_gapless_c0 (k : Nat) : Option Bool :=
  some (true)
def bosketref08_gapless_c1 (k : Nat) (rec4 : (Int → Option Bool)) (x3 : Int) : Option Bool :=
  rec4 (w64 (x3 + (1 : Int)))
def bosketref08_gapless_c2 (k : Nat) (rec4 : (Int → Option Bool)) (x3 : Int) (b8 : Bool) : Option Bool :=
  if (!b8) = true then some (false)
  else bosketref08_gapless_c1 k rec4 x3
def bosketref08_gapless_l3 (k : Nat) (rec4 : (Int → Option Bool)) (p0 : S30) (x3 : Int) : Nat → Bool → Int → Option Bool
  | 0, _, _ => none
  | j + 1, b10, x11 =>
    if x11 < (256 : Int) then Option.bind (α := Bool) (if b10 = true then some (true)
    else if 0 ≤ x11 ∧ x11 < (256 : Int) then some (decide ((w64 (vget p0.f0 x11)) = x3))
    else none) fun b15 =>
    (bosketref08_gapless_l3 k rec4 p0 x3 j) b15 (w64 (x11 + (1 : Int)))
    else bosketref08_gapless_c2 k rec4 x3 b10
def bosketref08_gapless_l4 (k : Nat) (p0 : S30) : Nat → Int → Option Bool
  | 0, _ => none
  | j + 1, x3 =>
    (bosketref08_classes k p0).bind fun t6 =>
    if x3 < t6 then bosketref08_gapless_l3 k (bosketref08_gapless_l4 k p0 j) p0 x3 k false (0 : Int)
    else bosketref08_gapless_c0 k
def bosketref08_gapless (k : Nat) (p0 : S30) : Option Bool :=
  bosketref08_gapless_l4 k p0 k (0 : Int)
theorem bosketref08_gapless_spec {k : Nat} {p0 : S30} {r : Bool} (h : bosketref08_gapless k p0 = some r) : Spec Try.prog 59 [(e30 p0)] (eBool r) := by
  rw [bosketref08_gapless.eq_1] at h
  refine Spec.intro (res := [.tmp 2]) Try.func59 rfl rfl rfl (Nat.le_of_ble_eq_true rfl) ?_
  refine AW.sr ?_
  refine AO.box rfl 1 rfl (by decide) rfl rfl rfl fun n2 => ?_
  refine AO.c (Calm.assign rfl rfl) ?_
  refine AO.nK [1] ?_
  refine AW.seq_mid (fun ρ H => ρ = [] ∧ H = [] ∧ bosketref08_gapless_c0 k = some r) ?_ ?_
  ·refine AW.sr ?_
   refine AO.c (Calm.assign rfl rfl) ?_
   refine AO.nK [1, 3] ?_
   refine AW.block ?_
   refine AW.wK [1, 3] ?_
   refine AW.loop (fun kq ρ H => ∃ (x3 : Int), ρ = [(1, (.ptr n2 0)), (3, (eI64 x3))] ∧ H = [(n2, (.mem (e30 p0)))] ∧ bosketref08_gapless_l4 k p0 kq x3 = some r) k ⟨(0 : Int), rfl, rfl, h⟩ ?_
   rintro kq5 _ _ ⟨x3, rfl, rfl, h⟩
   cases kq5 with
   | zero => rw [bosketref08_gapless_l4.eq_1] at h; cases h
   | succ kq5 =>
   rw [bosketref08_gapless_l4.eq_2] at h
   generalize hrec4 : bosketref08_gapless_l4 k p0 kq5 = rec4 at h
   refine AW.seq ?_
   refine AW.sr ?_
   refine AO.c (Calm.move rfl rfl) ?_
   refine AO.c (Calm.load 0 rfl rfl rfl (At.cast At.here rfl) ag30 sz30) ?_
   obtain ⟨t6, et6, h⟩ := of_bind h
   refine AO.callS [(e30 p0)] (eI64 t6) 8 rfl (by decide) ok60 rfl rfl rfl ⟨rfl, rfl, trivial⟩ (bosketref08_classes_spec et6) ?_
   refine AO.c (x := eBool (decide (x3 < t6))) (Calm.int rfl rfl rfl rfl) ?_
   refine AO.nK [1, 3, 9] ?_
   rcases of_ite h with ⟨hc7, h⟩ | ⟨hc7, h⟩
   ·refine AW.condP _ rfl hc7 ?_
    refine AW.sK [1, 3] ?_
    refine AW.seq_mid (fun ρ H => ρ = [(1, (.ptr n2 0)), (3, (eI64 x3))] ∧ H = [(n2, (.mem (e30 p0)))] ∧ bosketref08_gapless_c1 k rec4 x3 = some r) ?_ ?_
    ·refine AW.block ?_
     refine AW.sr ?_
     refine AO.c (Calm.assign rfl rfl) ?_
     refine AO.nK [1, 3, 4] ?_
     refine AW.seq_mid (fun ρ H => ∃ (b8 : Bool), ρ = [(1, (.ptr n2 0)), (3, (eI64 x3)), (4, (eBool b8))] ∧ H = [(n2, (.mem (e30 p0)))] ∧ bosketref08_gapless_c2 k rec4 x3 b8 = some r) ?_ ?_
     ·refine AW.sr ?_
      refine AO.c (Calm.assign rfl rfl) ?_
      refine AO.nK [1, 3, 4, 5] ?_
      refine AW.block ?_
      refine AW.wK [1, 3, 4, 5] ?_
      refine AW.loop (fun kq ρ H => ∃ (b10 : Bool) (x11 : Int), ρ = [(1, (.ptr n2 0)), (3, (eI64 x3)), (4, (eBool b10)), (5, (eI64 x11))] ∧ H = [(n2, (.mem (e30 p0)))] ∧ bosketref08_gapless_l3 k rec4 p0 x3 kq b10 x11 = some r) k ⟨false, (0 : Int), rfl, rfl, h⟩ ?_
      rintro kq13 _ _ ⟨b10, x11, rfl, rfl, h⟩
      cases kq13 with
      | zero => rw [bosketref08_gapless_l3.eq_1] at h; cases h
      | succ kq13 =>
      rw [bosketref08_gapless_l3.eq_2] at h
      generalize hrec12 : bosketref08_gapless_l3 k rec4 p0 x3 kq13 = rec12 at h
      refine AW.seq ?_
      refine AW.sr ?_
      refine AO.c (Calm.move rfl rfl) ?_
      refine AO.c (x := eBool (decide (x11 < (256 : Int)))) (Calm.int rfl rfl rfl rfl) ?_
      refine AO.nK [1, 3, 4, 5, 13] ?_
      rcases of_ite h with ⟨hc14, h⟩ | ⟨hc14, h⟩
      ·refine AW.condP _ rfl hc14 ?_
       refine AW.sK [1, 3, 4, 5] ?_
       refine AW.seq ?_
       refine AW.block ?_
       obtain ⟨b15, hq16, h⟩ := of_bind h
       refine AW.regM [(1, (.ptr n2 0)), (3, (eI64 x3)), (4, (eBool b15)), (5, (eI64 x11))] [(n2, (.mem (e30 p0)))] ?_ ?_
       ·refine AO.c (Calm.move rfl rfl) ?_
        refine AO.c (Calm.move rfl rfl) ?_
        rcases of_ite hq16 with ⟨hc17, hq16⟩ | ⟨hc17, hq16⟩
        ·refine AO.sF rfl rfl (bD hc17) ?_
         refine AO.sF rfl rfl (bD hc17) ?_
         refine AO.sF rfl rfl (bD hc17) ?_
         refine AO.sF rfl rfl (bD hc17) ?_
         refine AO.sF rfl rfl (bD hc17) ?_
         refine AO.sF rfl rfl (bD hc17) ?_
         refine AO.sF rfl rfl (bD hc17) ?_
         refine AO.c (Calm.pickT rfl (bD hc17) rfl) ?_
         refine AO.c (Calm.assign rfl rfl) ?_
         cases hq16
         refine AO.nilE ⟨rfl, rfl⟩ ?_ ?_
         · exact ⟨rfl, rfl, rfl, rfl, trivial⟩
         · exact (Sub.refl _)
        ·refine AO.cG rfl rfl (bD (eq_false_of_ne_true hc17)) (Calm.move rfl rfl) ?_
         refine AO.cG (x := .ptr n2 0) rfl rfl (bD (eq_false_of_ne_true hc17)) (Calm.fldPtr rfl rfl Try.underlying30 rfl sz27 _ rfl) ?_
         obtain ⟨hg18, hq16⟩ := of_guard hq16
         refine AO.cG rfl rfl (bD (eq_false_of_ne_true hc17)) (Calm.idxP rfl rfl rfl hg18 Try.underlying27 sz5) ?_
         refine AO.cG rfl rfl (bD (eq_false_of_ne_true hc17)) (Calm.load 0 rfl rfl rfl (At.cast (At.fld0 (At.vidx x11 hg18.1 hg18.2 At.here)) (by omega)) ag5 sz5) ?_
         refine AO.cG (x := eI64 (w64 (vget p0.f0 x11))) rfl rfl (bD (eq_false_of_ne_true hc17)) (Calm.conv rfl rfl Try.underlying5 Try.underlying3) ?_
         refine AO.cG rfl rfl (bD (eq_false_of_ne_true hc17)) (Calm.move rfl rfl) ?_
         refine AO.cG (x := eBool (decide ((w64 (vget p0.f0 x11)) = x3))) rfl rfl (bD (eq_false_of_ne_true hc17)) (Calm.int rfl rfl rfl rfl) ?_
         refine AO.c (Calm.pickF rfl (bD (eq_false_of_ne_true hc17)) rfl) ?_
         refine AO.c (Calm.assign rfl rfl) ?_
         cases hq16
         refine AO.nilE ⟨rfl, rfl⟩ ?_ ?_
         · exact ⟨rfl, rfl, rfl, rfl, trivial⟩
         · exact (Sub.refl _)
       ·refine AW.reg ?_
        refine AO.c (Calm.move rfl rfl) ?_
        refine AO.c (x := eI64 (w64 (x11 + (1 : Int)))) (Calm.int rfl rfl rfl rfl) ?_
        refine AO.c (Calm.assign rfl rfl) ?_
        refine AO.nK [1, 3, 4, 5] ?_
        exact ⟨kq13, Nat.lt_succ_self _, b15, (w64 (x11 + (1 : Int))), rfl, rfl, by rw [hrec12]; exact h⟩
      ·refine AW.condN _ rfl hc14 ?_
       refine AW.eK [1, 3, 4] ?_
       exact ⟨b10, rfl, rfl, h⟩
     ·rintro _ _ ⟨b8, rfl, rfl, h⟩
      rw [bosketref08_gapless_c2.eq_1] at h
      refine AW.sr ?_
      refine AO.c (Calm.move rfl rfl) ?_
      refine AO.c (Calm.not rfl rfl) ?_
      refine AO.nK [1, 3, 27] ?_
      rcases of_ite h with ⟨hc9, h⟩ | ⟨hc9, h⟩
      ·refine AW.condT' _ rfl hc9 ?_
       refine AW.sr ?_
       refine AO.c (Calm.assign rfl rfl) ?_
       refine AO.nH [2] (H' := []) (Sub.nil _) ?_
       refine AW.rK [2] ?_
       have hr := Option.some.inj h
       subst hr
       exact ⟨[(eBool false)], ⟨rfl, rfl, trivial⟩, rfl⟩
      ·refine AW.condF' _ rfl hc9 ?_
       refine AW.sK [1, 3] ?_
       exact ⟨rfl, rfl, h⟩
    ·rintro _ _ ⟨rfl, rfl, h⟩
     rw [bosketref08_gapless_c1.eq_1] at h
     refine AW.reg ?_
     refine AO.c (Calm.move rfl rfl) ?_
     refine AO.c (x := eI64 (w64 (x3 + (1 : Int)))) (Calm.int rfl rfl rfl rfl) ?_
     refine AO.c (Calm.assign rfl rfl) ?_
     refine AO.nK [1, 3] ?_
     exact ⟨kq5, Nat.lt_succ_self _, (w64 (x3 + (1 : Int))), rfl, rfl, by rw [hrec4]; exact h⟩
   ·refine AW.condN _ rfl hc7 ?_
    refine AW.eH [] (H' := []) (Sub.nil _) ?_
    exact ⟨rfl, rfl, h⟩
  ·rintro _ _ ⟨rfl, rfl, h⟩
   rw [bosketref08_gapless_c0.eq_1] at h
   refine AW.sr ?_
   refine AO.c (Calm.assign rfl rfl) ?_
   refine AO.nK [2] ?_
   refine AW.rK [2] ?_
   have hr := Option.some.inj h
   subst hr
   exact ⟨[(eBool true)], ⟨rfl, rfl, trivial⟩, rfl⟩
end Go.Avl.T5
/- bosket/bosketref08.Right; printed by avmain.py. -/
namespace Go.Avl.T5
open Go Go.RowKit Go.Proofs Go.Avl
set_option linter.unusedVariables false
set_option maxRecDepth 100000
set_option maxHeartbeats 4000000
attribute [local irreducible] AW AO AQ Spec SpecH Calm

def bosketref08_Right_c0 (k : Nat) : Option Bool :=
  some (true)
def bosketref08_Right_c1 (k : Nat) (rec11 : (Int → Option Bool)) (x10 : Int) : Option Bool :=
  rec11 (w64 (x10 + (1 : Int)))
def bosketref08_Right_l2 (k : Nat) (rec11 : (Int → Option Bool)) (p0 : S30) (x10 : Int) : Nat → Int → Option Bool
  | 0, _ => none
  | j + 1, x23 =>
    if 0 ≤ x10 ∧ x10 < (p0.f1.length : Int) then if x23 < ((lget p0.f1 x10).length : Int) then Option.bind (α := Bool) (if 0 ≤ x10 ∧ x10 < (p0.f1.length : Int) then if 0 ≤ x23 ∧ x23 < ((lget p0.f1 x10).length : Int) then if (lget (lget p0.f1 x10) x23) < (-1 : Int) then some (true)
    else if 0 ≤ x10 ∧ x10 < (p0.f1.length : Int) then if 0 ≤ x23 ∧ x23 < ((lget p0.f1 x10).length : Int) then some (decide ((p0.f1.length : Int) ≤ (lget (lget p0.f1 x10) x23)))
    else none
    else none
    else none
    else none) fun b28 =>
    if b28 = true then some (false)
    else (bosketref08_Right_l2 k rec11 p0 x10 j) (w64 (x23 + (1 : Int)))
    else bosketref08_Right_c1 k rec11 x10
    else none
def bosketref08_Right_l3 (k : Nat) (p0 : S30) : Nat → Int → Option Bool
  | 0, _ => none
  | j + 1, x10 =>
    if x10 < (p0.f1.length : Int) then Option.bind (α := Bool) (if 0 ≤ x10 ∧ x10 < (p0.f1.length : Int) then (bosketref08_classes k p0).bind fun t17 =>
    if ((lget p0.f1 x10).length : Int) ≠ t17 then some (true)
    else if 0 ≤ x10 ∧ x10 < (p0.f2.length : Int) then if (lget p0.f2 x10) < (-1 : Int) then some (true)
    else if 0 ≤ x10 ∧ x10 < (p0.f2.length : Int) then some (decide ((32768 : Int) ≤ (lget p0.f2 x10)))
    else none
    else none
    else none) fun b14 =>
    if b14 = true then some (false)
    else bosketref08_Right_l2 k (bosketref08_Right_l3 k p0 j) p0 x10 k (0 : Int)
    else bosketref08_Right_c0 k
def bosketref08_Right (k : Nat) (p0 : S30) : Option Bool :=
  Option.bind (α := Bool) (if (p0.f1.length : Int) < (1 : Int) then some (true)
  else if (32768 : Int) < (p0.f1.length : Int) then some (true)
  else if (p0.f2.length : Int) ≠ (p0.f1.length : Int) then some (true)
  else (bosketref08_gapless k p0).bind fun t8 =>
  some (!t8)) fun b3 =>
  if b3 = true then some (false)
  else bosketref08_Right_l3 k p0 k (0 : Int)
theorem bosketref08_Right_spec {k : Nat} {p0 : S30} {r : Bool} (h : bosketref08_Right k p0 = some r) : Spec Try.prog 25 [(e30 p0)] (eBool r) := by
  rw [bosketref08_Right.eq_1] at h
  refine Spec.intro (res := [.tmp 2]) Try.func25 rfl rfl rfl (Nat.le_of_ble_eq_true rfl) ?_
  refine AW.sr ?_
  refine AO.box rfl 1 rfl (by decide) rfl rfl rfl fun n2 => ?_
  refine AO.c (Calm.assign rfl rfl) ?_
  refine AO.nK [1] ?_
  refine AW.sr ?_
  refine AO.c (x := .ptr n2 256) (Calm.fldPtr rfl rfl Try.underlying30 rfl sz28 _ rfl) ?_
  refine AO.c (Calm.load 0 rfl rfl rfl (At.cast (At.fldS (At.fld0 At.here)) rfl) ag28 sz28) ?_
  refine AO.c (Calm.lenL rfl rfl Try.underlying28) ?_
  refine AO.c (Calm.assign rfl rfl) ?_
  refine AO.nK [1, 3] ?_
  refine AW.seq ?_
  refine AW.seq ?_
  obtain ⟨b3, hq4, h⟩ := of_bind h
  refine AW.regM [(1, (.ptr n2 0)), (3, (eI64 (p0.f1.length : Int))), (26, (eBool b3))] [(n2, (.mem (e30 p0)))] ?_ ?_
  ·refine AO.c (Calm.move rfl rfl) ?_
   refine AO.c (x := eBool (decide ((p0.f1.length : Int) < (1 : Int)))) (Calm.int rfl rfl rfl rfl) ?_
   refine AO.c (Calm.move rfl rfl) ?_
   rcases of_ite hq4 with ⟨hc5, hq4⟩ | ⟨hc5, hq4⟩
   ·refine AO.sF rfl rfl (bD (decide_eq_true hc5)) ?_
    refine AO.sF rfl rfl (bD (decide_eq_true hc5)) ?_
    refine AO.c (Calm.pickT rfl (bD (decide_eq_true hc5)) rfl) ?_
    refine AO.c (Calm.move rfl rfl) ?_
    refine AO.sF rfl rfl rfl ?_
    refine AO.sF rfl rfl rfl ?_
    refine AO.sF rfl rfl rfl ?_
    refine AO.sF rfl rfl rfl ?_
    refine AO.sF rfl rfl rfl ?_
    refine AO.c (Calm.pickT rfl rfl rfl) ?_
    refine AO.c (Calm.move rfl rfl) ?_
    refine AO.sF rfl rfl rfl ?_
    refine AO.sF rfl rfl rfl ?_
    refine AO.sF rfl rfl rfl ?_
    refine AO.c (Calm.pickT rfl rfl rfl) ?_
    cases hq4
    refine AO.nilE ⟨rfl, rfl⟩ ?_ ?_
    · exact ⟨rfl, rfl, rfl, trivial⟩
    · exact (Sub.refl _)
   ·refine AO.cG rfl rfl (bD (decide_eq_false hc5)) (Calm.move rfl rfl) ?_
    refine AO.cG (x := eBool (decide ((32768 : Int) < (p0.f1.length : Int)))) rfl rfl (bD (decide_eq_false hc5)) (Calm.int rfl rfl rfl rfl) ?_
    refine AO.c (Calm.pickF rfl (bD (decide_eq_false hc5)) rfl) ?_
    refine AO.c (Calm.move rfl rfl) ?_
    rcases of_ite hq4 with ⟨hc6, hq4⟩ | ⟨hc6, hq4⟩
    ·refine AO.sF rfl rfl (bD (decide_eq_true hc6)) ?_
     refine AO.sF rfl rfl (bD (decide_eq_true hc6)) ?_
     refine AO.sF rfl rfl (bD (decide_eq_true hc6)) ?_
     refine AO.sF rfl rfl (bD (decide_eq_true hc6)) ?_
     refine AO.sF rfl rfl (bD (decide_eq_true hc6)) ?_
     refine AO.c (Calm.pickT rfl (bD (decide_eq_true hc6)) rfl) ?_
     refine AO.c (Calm.move rfl rfl) ?_
     refine AO.sF rfl rfl rfl ?_
     refine AO.sF rfl rfl rfl ?_
     refine AO.sF rfl rfl rfl ?_
     refine AO.c (Calm.pickT rfl rfl rfl) ?_
     cases hq4
     refine AO.nilE ⟨rfl, rfl⟩ ?_ ?_
     · exact ⟨rfl, rfl, rfl, trivial⟩
     · exact (Sub.refl _)
    ·refine AO.cG (x := .ptr n2 257) rfl rfl (bD (decide_eq_false hc6)) (Calm.fldPtr rfl rfl Try.underlying30 rfl sz25 _ rfl) ?_
     refine AO.cG rfl rfl (bD (decide_eq_false hc6)) (Calm.load 0 rfl rfl rfl (At.cast (At.fldS (At.fldS (At.fld0 At.here))) rfl) ag25 sz25) ?_
     refine AO.cG rfl rfl (bD (decide_eq_false hc6)) (Calm.lenL rfl rfl Try.underlying25) ?_
     refine AO.cG rfl rfl (bD (decide_eq_false hc6)) (Calm.move rfl rfl) ?_
     refine AO.cG (x := eBool (decide ((p0.f2.length : Int) ≠ (p0.f1.length : Int)))) rfl rfl (bD (decide_eq_false hc6)) (Calm.int rfl rfl rfl rfl) ?_
     refine AO.c (Calm.pickF rfl (bD (decide_eq_false hc6)) rfl) ?_
     refine AO.c (Calm.move rfl rfl) ?_
     rcases of_ite hq4 with ⟨hc7, hq4⟩ | ⟨hc7, hq4⟩
     ·refine AO.sF rfl rfl (bD (decide_eq_true hc7)) ?_
      refine AO.sF rfl rfl (bD (decide_eq_true hc7)) ?_
      refine AO.sF rfl rfl (bD (decide_eq_true hc7)) ?_
      refine AO.c (Calm.pickT rfl (bD (decide_eq_true hc7)) rfl) ?_
      cases hq4
      refine AO.nilE ⟨rfl, rfl⟩ ?_ ?_
      · exact ⟨rfl, rfl, rfl, trivial⟩
      · exact (Sub.refl _)
     ·refine AO.cG rfl rfl (bD (decide_eq_false hc7)) (Calm.load 0 rfl rfl rfl (At.cast At.here rfl) ag30 sz30) ?_
      obtain ⟨t8, et8, hq4⟩ := of_bind hq4
      refine AO.callG 13 false 22 [(e30 p0)] (eBool t8) 24 rfl (by decide) ok59 rfl rfl (bD (decide_eq_false hc7)) rfl rfl ⟨rfl, rfl, trivial⟩ (bosketref08_gapless_spec et8) ?_
      refine AO.cG rfl rfl (bD (decide_eq_false hc7)) (Calm.not rfl rfl) ?_
      refine AO.c (Calm.pickF rfl (bD (decide_eq_false hc7)) rfl) ?_
      cases hq4
      refine AO.nilE ⟨rfl, rfl⟩ ?_ ?_
      · exact ⟨rfl, rfl, rfl, trivial⟩
      · exact (Sub.refl _)
  ·rcases of_ite h with ⟨hc9, h⟩ | ⟨hc9, h⟩
   ·refine AW.condT' _ rfl hc9 ?_
    refine AW.sr ?_
    refine AO.c (Calm.assign rfl rfl) ?_
    refine AO.nH [2] (H' := []) (Sub.nil _) ?_
    refine AW.rK [2] ?_
    have hr := Option.some.inj h
    subst hr
    exact ⟨[(eBool false)], ⟨rfl, rfl, trivial⟩, rfl⟩
   ·refine AW.condF' _ rfl hc9 ?_
    refine AW.sK [1, 3] ?_
    refine AW.seq_mid (fun ρ H => ρ = [] ∧ H = [] ∧ bosketref08_Right_c0 k = some r) ?_ ?_
    ·refine AW.sr ?_
     refine AO.c (Calm.assign rfl rfl) ?_
     refine AO.nK [1, 3, 4] ?_
     refine AW.block ?_
     refine AW.wK [1, 3, 4] ?_
     refine AW.loop (fun kq ρ H => ∃ (x10 : Int), ρ = [(1, (.ptr n2 0)), (3, (eI64 (p0.f1.length : Int))), (4, (eI64 x10))] ∧ H = [(n2, (.mem (e30 p0)))] ∧ bosketref08_Right_l3 k p0 kq x10 = some r) k ⟨(0 : Int), rfl, rfl, h⟩ ?_
     rintro kq12 _ _ ⟨x10, rfl, rfl, h⟩
     cases kq12 with
     | zero => rw [bosketref08_Right_l3.eq_1] at h; cases h
     | succ kq12 =>
     rw [bosketref08_Right_l3.eq_2] at h
     generalize hrec11 : bosketref08_Right_l3 k p0 kq12 = rec11 at h
     refine AW.seq ?_
     refine AW.sr ?_
     refine AO.c (Calm.move rfl rfl) ?_
     refine AO.c (Calm.move rfl rfl) ?_
     refine AO.c (x := eBool (decide (x10 < (p0.f1.length : Int)))) (Calm.int rfl rfl rfl rfl) ?_
     refine AO.nK [1, 3, 4, 29] ?_
     rcases of_ite h with ⟨hc13, h⟩ | ⟨hc13, h⟩
     ·refine AW.condP _ rfl hc13 ?_
      refine AW.sK [1, 3, 4] ?_
      refine AW.seq_mid (fun ρ H => ρ = [(1, (.ptr n2 0)), (3, (eI64 (p0.f1.length : Int))), (4, (eI64 x10))] ∧ H = [(n2, (.mem (e30 p0)))] ∧ bosketref08_Right_c1 k rec11 x10 = some r) ?_ ?_
      ·refine AW.block ?_
       refine AW.seq ?_
       refine AW.seq ?_
       obtain ⟨b14, hq15, h⟩ := of_bind h
       refine AW.regQM (by rfl) (by decide +kernel) [(1, (.ptr n2 0)), (3, (eI64 (p0.f1.length : Int))), (4, (eI64 x10)), (56, (eBool b14))] ?_ ?_
       ·refine AQ.c (x := .ptr n2 256) (Calm.fldPtr rfl rfl Try.underlying30 rfl sz28 _ rfl) ?_
        refine AQ.c (Calm.load 0 rfl rfl rfl (At.cast (At.fldS (At.fld0 At.here)) rfl) ag28 sz28) ?_
        refine AQ.c (Calm.move rfl rfl) ?_
        obtain ⟨hg16, hq15⟩ := of_guard hq15
        refine AQ.c (Calm.idxL (f := e25) rfl rfl rfl hg16 Try.underlying28 sz25) ?_
        refine AQ.c (Calm.loadRp rfl rfl ag25 sz25) ?_
        refine AQ.c (Calm.lenL rfl rfl Try.underlying25) ?_
        refine AQ.c (Calm.load 0 rfl rfl rfl (At.cast At.here rfl) ag30 sz30) ?_
        obtain ⟨t17, et17, hq15⟩ := of_bind hq15
        refine AQ.c (Calm.call (args := [(e30 p0)]) rfl rfl ok60 ⟨rfl, rfl, trivial⟩ rfl (bosketref08_classes_spec et17)) ?_
        refine AQ.c (x := eBool (decide (((lget p0.f1 x10).length : Int) ≠ t17))) (Calm.int rfl rfl rfl rfl) ?_
        refine AQ.c (Calm.move rfl rfl) ?_
        rcases of_ite hq15 with ⟨hc18, hq15⟩ | ⟨hc18, hq15⟩
        ·refine AQ.sF rfl rfl (bD (decide_eq_true hc18)) ?_
         refine AQ.sF rfl rfl (bD (decide_eq_true hc18)) ?_
         refine AQ.sF rfl rfl (bD (decide_eq_true hc18)) ?_
         refine AQ.sF rfl rfl (bD (decide_eq_true hc18)) ?_
         refine AQ.sF rfl rfl (bD (decide_eq_true hc18)) ?_
         refine AQ.sF rfl rfl (bD (decide_eq_true hc18)) ?_
         refine AQ.c (Calm.pickT rfl (bD (decide_eq_true hc18)) rfl) ?_
         refine AQ.c (Calm.move rfl rfl) ?_
         refine AQ.sF rfl rfl rfl ?_
         refine AQ.sF rfl rfl rfl ?_
         refine AQ.sF rfl rfl rfl ?_
         refine AQ.sF rfl rfl rfl ?_
         refine AQ.sF rfl rfl rfl ?_
         refine AQ.sF rfl rfl rfl ?_
         refine AQ.c (Calm.pickT rfl rfl rfl) ?_
         cases hq15
         refine AQ.nilE rfl ?_
         exact ⟨rfl, rfl, rfl, rfl, trivial⟩
        ·refine AQ.cG (x := .ptr n2 257) rfl rfl (bD (decide_eq_false hc18)) (Calm.fldPtr rfl rfl Try.underlying30 rfl sz25 _ rfl) ?_
         refine AQ.cG rfl rfl (bD (decide_eq_false hc18)) (Calm.load 0 rfl rfl rfl (At.cast (At.fldS (At.fldS (At.fld0 At.here))) rfl) ag25 sz25) ?_
         refine AQ.cG rfl rfl (bD (decide_eq_false hc18)) (Calm.move rfl rfl) ?_
         obtain ⟨hg19, hq15⟩ := of_guard hq15
         refine AQ.cG rfl rfl (bD (decide_eq_false hc18)) (Calm.idxL (f := eI64) rfl rfl rfl hg19 Try.underlying25 sz3) ?_
         refine AQ.cG rfl rfl (bD (decide_eq_false hc18)) (Calm.loadRp rfl rfl ag3 sz3) ?_
         refine AQ.cG (x := eBool (decide ((lget p0.f2 x10) < (-1 : Int)))) rfl rfl (bD (decide_eq_false hc18)) (Calm.int rfl rfl rfl rfl) ?_
         refine AQ.c (Calm.pickF rfl (bD (decide_eq_false hc18)) rfl) ?_
         refine AQ.c (Calm.move rfl rfl) ?_
         rcases of_ite hq15 with ⟨hc20, hq15⟩ | ⟨hc20, hq15⟩
         ·refine AQ.sF rfl rfl (bD (decide_eq_true hc20)) ?_
          refine AQ.sF rfl rfl (bD (decide_eq_true hc20)) ?_
          refine AQ.sF rfl rfl (bD (decide_eq_true hc20)) ?_
          refine AQ.sF rfl rfl (bD (decide_eq_true hc20)) ?_
          refine AQ.sF rfl rfl (bD (decide_eq_true hc20)) ?_
          refine AQ.sF rfl rfl (bD (decide_eq_true hc20)) ?_
          refine AQ.c (Calm.pickT rfl (bD (decide_eq_true hc20)) rfl) ?_
          cases hq15
          refine AQ.nilE rfl ?_
          exact ⟨rfl, rfl, rfl, rfl, trivial⟩
         ·refine AQ.cG (x := .ptr n2 257) rfl rfl (bD (decide_eq_false hc20)) (Calm.fldPtr rfl rfl Try.underlying30 rfl sz25 _ rfl) ?_
          refine AQ.cG rfl rfl (bD (decide_eq_false hc20)) (Calm.load 0 rfl rfl rfl (At.cast (At.fldS (At.fldS (At.fld0 At.here))) rfl) ag25 sz25) ?_
          refine AQ.cG rfl rfl (bD (decide_eq_false hc20)) (Calm.move rfl rfl) ?_
          obtain ⟨hg21, hq15⟩ := of_guard hq15
          refine AQ.cG rfl rfl (bD (decide_eq_false hc20)) (Calm.idxL (f := eI64) rfl rfl rfl hg21 Try.underlying25 sz3) ?_
          refine AQ.cG rfl rfl (bD (decide_eq_false hc20)) (Calm.loadRp rfl rfl ag3 sz3) ?_
          refine AQ.cG (x := eBool (decide ((32768 : Int) ≤ (lget p0.f2 x10)))) rfl rfl (bD (decide_eq_false hc20)) (Calm.int rfl rfl rfl rfl) ?_
          refine AQ.c (Calm.pickF rfl (bD (decide_eq_false hc20)) rfl) ?_
          cases hq15
          refine AQ.nilE rfl ?_
          exact ⟨rfl, rfl, rfl, rfl, trivial⟩
       ·rcases of_ite h with ⟨hc22, h⟩ | ⟨hc22, h⟩
        ·refine AW.condT' _ rfl hc22 ?_
         refine AW.sr ?_
         refine AO.c (Calm.assign rfl rfl) ?_
         refine AO.nH [2] (H' := []) (Sub.nil _) ?_
         refine AW.rK [2] ?_
         have hr := Option.some.inj h
         subst hr
         exact ⟨[(eBool false)], ⟨rfl, rfl, trivial⟩, rfl⟩
        ·refine AW.condF' _ rfl hc22 ?_
         refine AW.sK [1, 3, 4] ?_
         refine AW.sr ?_
         refine AO.c (Calm.assign rfl rfl) ?_
         refine AO.nK [1, 3, 4, 5] ?_
         refine AW.block ?_
         refine AW.wK [1, 3, 4, 5] ?_
         refine AW.loop (fun kq ρ H => ∃ (x23 : Int), ρ = [(1, (.ptr n2 0)), (3, (eI64 (p0.f1.length : Int))), (4, (eI64 x10)), (5, (eI64 x23))] ∧ H = [(n2, (.mem (e30 p0)))] ∧ bosketref08_Right_l2 k rec11 p0 x10 kq x23 = some r) k ⟨(0 : Int), rfl, rfl, h⟩ ?_
         rintro kq25 _ _ ⟨x23, rfl, rfl, h⟩
         cases kq25 with
         | zero => rw [bosketref08_Right_l2.eq_1] at h; cases h
         | succ kq25 =>
         rw [bosketref08_Right_l2.eq_2] at h
         generalize hrec24 : bosketref08_Right_l2 k rec11 p0 x10 kq25 = rec24 at h
         refine AW.seq ?_
         refine AW.sr ?_
         refine AO.c (Calm.move rfl rfl) ?_
         refine AO.c (x := .ptr n2 256) (Calm.fldPtr rfl rfl Try.underlying30 rfl sz28 _ rfl) ?_
         refine AO.c (Calm.load 0 rfl rfl rfl (At.cast (At.fldS (At.fld0 At.here)) rfl) ag28 sz28) ?_
         refine AO.c (Calm.move rfl rfl) ?_
         obtain ⟨hg26, h⟩ := of_guard h
         refine AO.c (Calm.idxL (f := e25) rfl rfl rfl hg26 Try.underlying28 sz25) ?_
         refine AO.c (Calm.loadRp rfl rfl ag25 sz25) ?_
         refine AO.c (Calm.lenL rfl rfl Try.underlying25) ?_
         refine AO.c (x := eBool (decide (x23 < ((lget p0.f1 x10).length : Int)))) (Calm.int rfl rfl rfl rfl) ?_
         refine AO.nK [1, 3, 4, 5, 64] ?_
         rcases of_ite h with ⟨hc27, h⟩ | ⟨hc27, h⟩
         ·refine AW.condP _ rfl hc27 ?_
          refine AW.sK [1, 3, 4, 5] ?_
          refine AW.seq ?_
          refine AW.block ?_
          refine AW.seq ?_
          obtain ⟨b28, hq29, h⟩ := of_bind h
          refine AW.regM [(1, (.ptr n2 0)), (3, (eI64 (p0.f1.length : Int))), (4, (eI64 x10)), (5, (eI64 x23)), (87, (eBool b28))] [(n2, (.mem (e30 p0)))] ?_ ?_
          ·refine AO.c (x := .ptr n2 256) (Calm.fldPtr rfl rfl Try.underlying30 rfl sz28 _ rfl) ?_
           refine AO.c (Calm.load 0 rfl rfl rfl (At.cast (At.fldS (At.fld0 At.here)) rfl) ag28 sz28) ?_
           refine AO.c (Calm.move rfl rfl) ?_
           obtain ⟨hg30, hq29⟩ := of_guard hq29
           refine AO.c (Calm.idxL (f := e25) rfl rfl rfl hg30 Try.underlying28 sz25) ?_
           refine AO.c (Calm.loadRp rfl rfl ag25 sz25) ?_
           refine AO.c (Calm.move rfl rfl) ?_
           obtain ⟨hg31, hq29⟩ := of_guard hq29
           refine AO.c (Calm.idxL (f := eI64) rfl rfl rfl hg31 Try.underlying25 sz3) ?_
           refine AO.c (Calm.loadRp rfl rfl ag3 sz3) ?_
           refine AO.c (x := eBool (decide ((lget (lget p0.f1 x10) x23) < (-1 : Int)))) (Calm.int rfl rfl rfl rfl) ?_
           refine AO.c (Calm.move rfl rfl) ?_
           rcases of_ite hq29 with ⟨hc32, hq29⟩ | ⟨hc32, hq29⟩
           ·refine AO.sF rfl rfl (bD (decide_eq_true hc32)) ?_
            refine AO.sF rfl rfl (bD (decide_eq_true hc32)) ?_
            refine AO.sF rfl rfl (bD (decide_eq_true hc32)) ?_
            refine AO.sF rfl rfl (bD (decide_eq_true hc32)) ?_
            refine AO.sF rfl rfl (bD (decide_eq_true hc32)) ?_
            refine AO.sF rfl rfl (bD (decide_eq_true hc32)) ?_
            refine AO.sF rfl rfl (bD (decide_eq_true hc32)) ?_
            refine AO.sF rfl rfl (bD (decide_eq_true hc32)) ?_
            refine AO.sF rfl rfl (bD (decide_eq_true hc32)) ?_
            refine AO.sF rfl rfl (bD (decide_eq_true hc32)) ?_
            refine AO.c (Calm.pickT rfl (bD (decide_eq_true hc32)) rfl) ?_
            cases hq29
            refine AO.nilE ⟨rfl, rfl⟩ ?_ ?_
            · exact ⟨rfl, rfl, rfl, rfl, rfl, trivial⟩
            · exact (Sub.refl _)
           ·refine AO.cG (x := .ptr n2 256) rfl rfl (bD (decide_eq_false hc32)) (Calm.fldPtr rfl rfl Try.underlying30 rfl sz28 _ rfl) ?_
            refine AO.cG rfl rfl (bD (decide_eq_false hc32)) (Calm.load 0 rfl rfl rfl (At.cast (At.fldS (At.fld0 At.here)) rfl) ag28 sz28) ?_
            refine AO.cG rfl rfl (bD (decide_eq_false hc32)) (Calm.move rfl rfl) ?_
            obtain ⟨hg33, hq29⟩ := of_guard hq29
            refine AO.cG rfl rfl (bD (decide_eq_false hc32)) (Calm.idxL (f := e25) rfl rfl rfl hg33 Try.underlying28 sz25) ?_
            refine AO.cG rfl rfl (bD (decide_eq_false hc32)) (Calm.loadRp rfl rfl ag25 sz25) ?_
            refine AO.cG rfl rfl (bD (decide_eq_false hc32)) (Calm.move rfl rfl) ?_
            obtain ⟨hg34, hq29⟩ := of_guard hq29
            refine AO.cG rfl rfl (bD (decide_eq_false hc32)) (Calm.idxL (f := eI64) rfl rfl rfl hg34 Try.underlying25 sz3) ?_
            refine AO.cG rfl rfl (bD (decide_eq_false hc32)) (Calm.loadRp rfl rfl ag3 sz3) ?_
            refine AO.cG rfl rfl (bD (decide_eq_false hc32)) (Calm.move rfl rfl) ?_
            refine AO.cG (x := eBool (decide ((p0.f1.length : Int) ≤ (lget (lget p0.f1 x10) x23)))) rfl rfl (bD (decide_eq_false hc32)) (Calm.int rfl rfl rfl rfl) ?_
            refine AO.c (Calm.pickF rfl (bD (decide_eq_false hc32)) rfl) ?_
            cases hq29
            refine AO.nilE ⟨rfl, rfl⟩ ?_ ?_
            · exact ⟨rfl, rfl, rfl, rfl, rfl, trivial⟩
            · exact (Sub.refl _)
          ·rcases of_ite h with ⟨hc35, h⟩ | ⟨hc35, h⟩
           ·refine AW.condT' _ rfl hc35 ?_
            refine AW.sr ?_
            refine AO.c (Calm.assign rfl rfl) ?_
            refine AO.nH [2] (H' := []) (Sub.nil _) ?_
            refine AW.rK [2] ?_
            have hr := Option.some.inj h
            subst hr
            exact ⟨[(eBool false)], ⟨rfl, rfl, trivial⟩, rfl⟩
           ·refine AW.condF' _ rfl hc35 ?_
            refine AW.sK [1, 3, 4, 5] ?_
            refine AW.reg ?_
            refine AO.c (Calm.move rfl rfl) ?_
            refine AO.c (x := eI64 (w64 (x23 + (1 : Int)))) (Calm.int rfl rfl rfl rfl) ?_
            refine AO.c (Calm.assign rfl rfl) ?_
            refine AO.nK [1, 3, 4, 5] ?_
            exact ⟨kq25, Nat.lt_succ_self _, (w64 (x23 + (1 : Int))), rfl, rfl, by rw [hrec24]; exact h⟩
         ·refine AW.condN _ rfl hc27 ?_
          refine AW.eK [1, 3, 4] ?_
          exact ⟨rfl, rfl, h⟩
      ·rintro _ _ ⟨rfl, rfl, h⟩
       rw [bosketref08_Right_c1.eq_1] at h
       refine AW.reg ?_
       refine AO.c (Calm.move rfl rfl) ?_
       refine AO.c (x := eI64 (w64 (x10 + (1 : Int)))) (Calm.int rfl rfl rfl rfl) ?_
       refine AO.c (Calm.assign rfl rfl) ?_
       refine AO.nK [1, 3, 4] ?_
       exact ⟨kq12, Nat.lt_succ_self _, (w64 (x10 + (1 : Int))), rfl, rfl, by rw [hrec11]; exact h⟩
     ·refine AW.condN _ rfl hc13 ?_
      refine AW.eH [] (H' := []) (Sub.nil _) ?_
      exact ⟨rfl, rfl, h⟩
    ·rintro _ _ ⟨rfl, rfl, h⟩
     rw [bosketref08_Right_c0.eq_1] at h
     refine AW.sr ?_
     refine AO.c (Calm.assign rfl rfl) ?_
     refine AO.nK [2] ?_
     refine AW.rK [2] ?_
     have hr := Option.some.inj h
     subst hr
     exact ⟨[(eBool true)], ⟨rfl, rfl, trivial⟩, rfl⟩
end Go.Avl.T5
/- bosket/bosketref08.Step; printed by avmain.py. -/
namespace Go.Avl.T5
open Go Go.RowKit Go.Proofs Go.Avl
set_option linter.unusedVariables false
set_option maxRecDepth 100000
set_option maxHeartbeats 4000000
attribute [local irreducible] AW AO AQ Spec SpecH Calm

def bosketref08_Step (k : Nat) (p0 : S30) (p1 : Int) (p2 : Int) : Option Int :=
  Option.bind (α := Bool) (if p1 < (0 : Int) then some (true)
  else if (p0.f1.length : Int) ≤ p1 then some (true)
  else if 0 ≤ p2 ∧ p2 < (256 : Int) then if 0 ≤ p1 ∧ p1 < (p0.f1.length : Int) then some (decide (((lget p0.f1 p1).length : Int) ≤ (w64 (vget p0.f0 p2))))
  else none
  else none) fun b5 =>
  if b5 = true then some ((-1 : Int))
  else if 0 ≤ p1 ∧ p1 < (p0.f1.length : Int) then if 0 ≤ p2 ∧ p2 < (256 : Int) then if 0 ≤ (vget p0.f0 p2) ∧ (vget p0.f0 p2) < ((lget p0.f1 p1).length : Int) then some ((lget (lget p0.f1 p1) (vget p0.f0 p2)))
  else none
  else none
  else none
end Go.Avl.T5
/- bosket/bosketref08.Mark; printed by avmain.py. -/
namespace Go.Avl.T5
open Go Go.RowKit Go.Proofs Go.Avl
set_option linter.unusedVariables false
set_option maxRecDepth 100000
set_option maxHeartbeats 4000000
attribute [local irreducible] AW AO AQ Spec SpecH Calm

def bosketref08_Mark (k : Nat) (p0 : S30) (p1 : Int) : Option Int :=
  Option.bind (α := Bool) (if p1 < (0 : Int) then some (true)
  else some (decide ((p0.f2.length : Int) ≤ p1))) fun b4 =>
  if b4 = true then some ((-1 : Int))
  else if 0 ≤ p1 ∧ p1 < (p0.f2.length : Int) then some ((lget p0.f2 p1))
  else none
end Go.Avl.T5
/- bosket/bosketref08.Run; printed by avmain.py. -/
namespace Go.Avl.T5
open Go Go.RowKit Go.Proofs Go.Avl
set_option linter.unusedVariables false
set_option maxRecDepth 100000
set_option maxHeartbeats 4000000
attribute [local irreducible] AW AO AQ Spec SpecH Calm

def bosketref08_Run_c0 (k : Nat) (x5 : Int) : Option Int :=
  some (x5)
def bosketref08_Run_l1 (k : Nat) (p0 : S30) (p2 : ByteArray) : Nat → Int → Int → Option Int
  | 0, _, _ => none
  | j + 1, x6, x7 =>
    if x7 < (p2.size : Int) then if 0 ≤ x7 ∧ x7 < (p2.size : Int) then (bosketref08_Step k p0 x6 (w64 (byteAt p2 x7))).bind fun t12 =>
    (bosketref08_Run_l1 k p0 p2 j) t12 (w64 (x7 + (1 : Int)))
    else none
    else bosketref08_Run_c0 k x6
def bosketref08_Run (k : Nat) (p0 : S30) (p1 : Int) (p2 : ByteArray) : Option Int :=
  bosketref08_Run_l1 k p0 p2 k p1 (0 : Int)
end Go.Avl.T5
/- bosket/dfa.Step; printed by avmain.py. -/
namespace Go.Avl.T5
open Go Go.RowKit Go.Proofs Go.Avl
set_option linter.unusedVariables false
set_option maxRecDepth 100000
set_option maxHeartbeats 4000000
attribute [local irreducible] AW AO AQ Spec SpecH Calm

def dfa_Step (k : Nat) (p0 : S30) (p1 : Int) (p2 : Int) : Option Int :=
  Option.bind (α := Bool) (if p1 < (0 : Int) then some (true)
  else if (p0.f1.length : Int) ≤ p1 then some (true)
  else if 0 ≤ p2 ∧ p2 < (256 : Int) then if 0 ≤ p1 ∧ p1 < (p0.f1.length : Int) then some (decide (((lget p0.f1 p1).length : Int) ≤ (w64 (vget p0.f0 p2))))
  else none
  else none) fun b5 =>
  if b5 = true then some ((-1 : Int))
  else if 0 ≤ p1 ∧ p1 < (p0.f1.length : Int) then if 0 ≤ p2 ∧ p2 < (256 : Int) then if 0 ≤ (vget p0.f0 p2) ∧ (vget p0.f0 p2) < ((lget p0.f1 p1).length : Int) then some ((lget (lget p0.f1 p1) (vget p0.f0 p2)))
  else none
  else none
  else none
theorem dfa_Step_spec {k : Nat} {p0 : S30} {p1 : Int} {p2 : Int} {r : Int} (h : dfa_Step k p0 p1 p2 = some r) : Spec Try.prog 97 [(e30 p0), (eI64 p1), (eU8 p2)] (eI64 r) := by
  rw [dfa_Step.eq_1] at h
  refine Spec.intro (res := [.tmp 6]) Try.func97 rfl rfl rfl (Nat.le_of_ble_eq_true rfl) ?_
  refine AW.sr ?_
  refine AO.box rfl 3 rfl (by decide) rfl rfl rfl fun n4 => ?_
  refine AO.c (Calm.assign rfl rfl) ?_
  refine AO.nK [1, 2, 3] ?_
  refine AW.seq ?_
  refine AW.seq ?_
  obtain ⟨b5, hq6, h⟩ := of_bind h
  refine AW.regQM (by rfl) (by decide +kernel) [(1, (eI64 p1)), (2, (eU8 p2)), (3, (.ptr n4 0)), (29, (eBool b5))] ?_ ?_
  ·refine AQ.c (Calm.move rfl rfl) ?_
   refine AQ.c (x := eBool (decide (p1 < (0 : Int)))) (Calm.int rfl rfl rfl rfl) ?_
   refine AQ.c (Calm.move rfl rfl) ?_
   rcases of_ite hq6 with ⟨hc7, hq6⟩ | ⟨hc7, hq6⟩
   ·refine AQ.sF rfl rfl (bD (decide_eq_true hc7)) ?_
    refine AQ.sF rfl rfl (bD (decide_eq_true hc7)) ?_
    refine AQ.sF rfl rfl (bD (decide_eq_true hc7)) ?_
    refine AQ.sF rfl rfl (bD (decide_eq_true hc7)) ?_
    refine AQ.sF rfl rfl (bD (decide_eq_true hc7)) ?_
    refine AQ.c (Calm.pickT rfl (bD (decide_eq_true hc7)) rfl) ?_
    refine AQ.c (Calm.move rfl rfl) ?_
    refine AQ.sF rfl rfl rfl ?_
    refine AQ.sF rfl rfl rfl ?_
    refine AQ.sF rfl rfl rfl ?_
    refine AQ.sF rfl rfl rfl ?_
    refine AQ.sF rfl rfl rfl ?_
    refine AQ.sF rfl rfl rfl ?_
    refine AQ.sF rfl rfl rfl ?_
    refine AQ.sF rfl rfl rfl ?_
    refine AQ.sF rfl rfl rfl ?_
    refine AQ.sF rfl rfl rfl ?_
    refine AQ.sF rfl rfl rfl ?_
    refine AQ.sF rfl rfl rfl ?_
    refine AQ.c (Calm.pickT rfl rfl rfl) ?_
    cases hq6
    refine AQ.nilE rfl ?_
    exact ⟨rfl, rfl, rfl, rfl, trivial⟩
   ·refine AQ.cG rfl rfl (bD (decide_eq_false hc7)) (Calm.move rfl rfl) ?_
    refine AQ.cG (x := .ptr n4 256) rfl rfl (bD (decide_eq_false hc7)) (Calm.fldPtr rfl rfl Try.underlying30 rfl sz28 _ rfl) ?_
    refine AQ.cG rfl rfl (bD (decide_eq_false hc7)) (Calm.load 0 rfl rfl rfl (At.cast (At.fldS (At.fld0 At.here)) rfl) ag28 sz28) ?_
    refine AQ.cG rfl rfl (bD (decide_eq_false hc7)) (Calm.lenL rfl rfl Try.underlying28) ?_
    refine AQ.cG (x := eBool (decide ((p0.f1.length : Int) ≤ p1))) rfl rfl (bD (decide_eq_false hc7)) (Calm.int rfl rfl rfl rfl) ?_
    refine AQ.c (Calm.pickF rfl (bD (decide_eq_false hc7)) rfl) ?_
    refine AQ.c (Calm.move rfl rfl) ?_
    rcases of_ite hq6 with ⟨hc8, hq6⟩ | ⟨hc8, hq6⟩
    ·refine AQ.sF rfl rfl (bD (decide_eq_true hc8)) ?_
     refine AQ.sF rfl rfl (bD (decide_eq_true hc8)) ?_
     refine AQ.sF rfl rfl (bD (decide_eq_true hc8)) ?_
     refine AQ.sF rfl rfl (bD (decide_eq_true hc8)) ?_
     refine AQ.sF rfl rfl (bD (decide_eq_true hc8)) ?_
     refine AQ.sF rfl rfl (bD (decide_eq_true hc8)) ?_
     refine AQ.sF rfl rfl (bD (decide_eq_true hc8)) ?_
     refine AQ.sF rfl rfl (bD (decide_eq_true hc8)) ?_
     refine AQ.sF rfl rfl (bD (decide_eq_true hc8)) ?_
     refine AQ.sF rfl rfl (bD (decide_eq_true hc8)) ?_
     refine AQ.sF rfl rfl (bD (decide_eq_true hc8)) ?_
     refine AQ.sF rfl rfl (bD (decide_eq_true hc8)) ?_
     refine AQ.c (Calm.pickT rfl (bD (decide_eq_true hc8)) rfl) ?_
     cases hq6
     refine AQ.nilE rfl ?_
     exact ⟨rfl, rfl, rfl, rfl, trivial⟩
    ·refine AQ.cG rfl rfl (bD (decide_eq_false hc8)) (Calm.move rfl rfl) ?_
     refine AQ.cG (x := .ptr n4 0) rfl rfl (bD (decide_eq_false hc8)) (Calm.fldPtr rfl rfl Try.underlying30 rfl sz27 _ rfl) ?_
     obtain ⟨hg9, hq6⟩ := of_guard hq6
     refine AQ.cG rfl rfl (bD (decide_eq_false hc8)) (Calm.idxP rfl rfl rfl hg9 Try.underlying27 sz5) ?_
     refine AQ.cG rfl rfl (bD (decide_eq_false hc8)) (Calm.load 0 rfl rfl rfl (At.cast (At.fld0 (At.vidx p2 hg9.1 hg9.2 At.here)) (by omega)) ag5 sz5) ?_
     refine AQ.cG (x := eI64 (w64 (vget p0.f0 p2))) rfl rfl (bD (decide_eq_false hc8)) (Calm.conv rfl rfl Try.underlying5 Try.underlying3) ?_
     refine AQ.cG (x := .ptr n4 256) rfl rfl (bD (decide_eq_false hc8)) (Calm.fldPtr rfl rfl Try.underlying30 rfl sz28 _ rfl) ?_
     refine AQ.cG rfl rfl (bD (decide_eq_false hc8)) (Calm.load 0 rfl rfl rfl (At.cast (At.fldS (At.fld0 At.here)) rfl) ag28 sz28) ?_
     refine AQ.cG rfl rfl (bD (decide_eq_false hc8)) (Calm.move rfl rfl) ?_
     obtain ⟨hg10, hq6⟩ := of_guard hq6
     refine AQ.cG rfl rfl (bD (decide_eq_false hc8)) (Calm.idxL (f := e25) rfl rfl rfl hg10 Try.underlying28 sz25) ?_
     refine AQ.cG rfl rfl (bD (decide_eq_false hc8)) (Calm.loadRp rfl rfl ag25 sz25) ?_
     refine AQ.cG rfl rfl (bD (decide_eq_false hc8)) (Calm.lenL rfl rfl Try.underlying25) ?_
     refine AQ.cG (x := eBool (decide (((lget p0.f1 p1).length : Int) ≤ (w64 (vget p0.f0 p2))))) rfl rfl (bD (decide_eq_false hc8)) (Calm.int rfl rfl rfl rfl) ?_
     refine AQ.c (Calm.pickF rfl (bD (decide_eq_false hc8)) rfl) ?_
     cases hq6
     refine AQ.nilE rfl ?_
     exact ⟨rfl, rfl, rfl, rfl, trivial⟩
  ·rcases of_ite h with ⟨hc11, h⟩ | ⟨hc11, h⟩
   ·refine AW.condT' _ rfl hc11 ?_
    refine AW.sr ?_
    refine AO.c (Calm.assign rfl rfl) ?_
    refine AO.nH [6] (H' := []) (Sub.nil _) ?_
    refine AW.rK [6] ?_
    have hr := Option.some.inj h
    subst hr
    exact ⟨[(eI64 (-1 : Int))], ⟨rfl, rfl, trivial⟩, rfl⟩
   ·refine AW.condF' _ rfl hc11 ?_
    refine AW.sK [1, 2, 3] ?_
    refine AW.seq ?_
    refine AW.regQ (by rfl) (by decide +kernel) ?_
    refine AQ.c (x := .ptr n4 256) (Calm.fldPtr rfl rfl Try.underlying30 rfl sz28 _ rfl) ?_
    refine AQ.c (Calm.load 0 rfl rfl rfl (At.cast (At.fldS (At.fld0 At.here)) rfl) ag28 sz28) ?_
    refine AQ.c (Calm.move rfl rfl) ?_
    obtain ⟨hg12, h⟩ := of_guard h
    refine AQ.c (Calm.idxL (f := e25) rfl rfl rfl hg12 Try.underlying28 sz25) ?_
    refine AQ.c (Calm.loadRp rfl rfl ag25 sz25) ?_
    refine AQ.c (Calm.move rfl rfl) ?_
    refine AQ.c (x := .ptr n4 0) (Calm.fldPtr rfl rfl Try.underlying30 rfl sz27 _ rfl) ?_
    obtain ⟨hg13, h⟩ := of_guard h
    refine AQ.c (Calm.idxP rfl rfl rfl hg13 Try.underlying27 sz5) ?_
    refine AQ.c (Calm.load 0 rfl rfl rfl (At.cast (At.fld0 (At.vidx p2 hg13.1 hg13.2 At.here)) (by omega)) ag5 sz5) ?_
    obtain ⟨hg14, h⟩ := of_guard h
    refine AQ.c (Calm.idxL (f := eI64) rfl rfl rfl hg14 Try.underlying25 sz3) ?_
    refine AQ.c (Calm.loadRp rfl rfl ag3 sz3) ?_
    refine AQ.c (Calm.assign rfl rfl) ?_
    refine AQ.nK [6] ?_
    refine AW.rH [6] (H' := []) (Sub.nil _) ?_
    have hr := Option.some.inj h
    subst hr
    exact ⟨[(eI64 (lget (lget p0.f1 p1) (vget p0.f0 p2)))], ⟨rfl, rfl, trivial⟩, rfl⟩
end Go.Avl.T5
/- bosket/dfa.Mark; printed by avmain.py. -/
namespace Go.Avl.T5
open Go Go.RowKit Go.Proofs Go.Avl
set_option linter.unusedVariables false
set_option maxRecDepth 100000
set_option maxHeartbeats 4000000
attribute [local irreducible] AW AO AQ Spec SpecH Calm

def dfa_Mark (k : Nat) (p0 : S30) (p1 : Int) : Option Int :=
  Option.bind (α := Bool) (if p1 < (0 : Int) then some (true)
  else some (decide ((p0.f2.length : Int) ≤ p1))) fun b4 =>
  if b4 = true then some ((-1 : Int))
  else if 0 ≤ p1 ∧ p1 < (p0.f2.length : Int) then some ((lget p0.f2 p1))
  else none
theorem dfa_Mark_spec {k : Nat} {p0 : S30} {p1 : Int} {r : Int} (h : dfa_Mark k p0 p1 = some r) : Spec Try.prog 85 [(e30 p0), (eI64 p1)] (eI64 r) := by
  rw [dfa_Mark.eq_1] at h
  refine Spec.intro (res := [.tmp 4]) Try.func85 rfl rfl rfl (Nat.le_of_ble_eq_true rfl) ?_
  refine AW.sr ?_
  refine AO.box rfl 2 rfl (by decide) rfl rfl rfl fun n3 => ?_
  refine AO.c (Calm.assign rfl rfl) ?_
  refine AO.nK [1, 2] ?_
  refine AW.seq ?_
  refine AW.seq ?_
  obtain ⟨b4, hq5, h⟩ := of_bind h
  refine AW.regM [(1, (eI64 p1)), (2, (.ptr n3 0)), (13, (eBool b4))] [(n3, (.mem (e30 p0)))] ?_ ?_
  ·refine AO.c (Calm.move rfl rfl) ?_
   refine AO.c (x := eBool (decide (p1 < (0 : Int)))) (Calm.int rfl rfl rfl rfl) ?_
   refine AO.c (Calm.move rfl rfl) ?_
   rcases of_ite hq5 with ⟨hc6, hq5⟩ | ⟨hc6, hq5⟩
   ·refine AO.sF rfl rfl (bD (decide_eq_true hc6)) ?_
    refine AO.sF rfl rfl (bD (decide_eq_true hc6)) ?_
    refine AO.sF rfl rfl (bD (decide_eq_true hc6)) ?_
    refine AO.sF rfl rfl (bD (decide_eq_true hc6)) ?_
    refine AO.sF rfl rfl (bD (decide_eq_true hc6)) ?_
    refine AO.c (Calm.pickT rfl (bD (decide_eq_true hc6)) rfl) ?_
    cases hq5
    refine AO.nilE ⟨rfl, rfl⟩ ?_ ?_
    · exact ⟨rfl, rfl, rfl, trivial⟩
    · exact (Sub.refl _)
   ·refine AO.cG rfl rfl (bD (decide_eq_false hc6)) (Calm.move rfl rfl) ?_
    refine AO.cG (x := .ptr n3 257) rfl rfl (bD (decide_eq_false hc6)) (Calm.fldPtr rfl rfl Try.underlying30 rfl sz25 _ rfl) ?_
    refine AO.cG rfl rfl (bD (decide_eq_false hc6)) (Calm.load 0 rfl rfl rfl (At.cast (At.fldS (At.fldS (At.fld0 At.here))) rfl) ag25 sz25) ?_
    refine AO.cG rfl rfl (bD (decide_eq_false hc6)) (Calm.lenL rfl rfl Try.underlying25) ?_
    refine AO.cG (x := eBool (decide ((p0.f2.length : Int) ≤ p1))) rfl rfl (bD (decide_eq_false hc6)) (Calm.int rfl rfl rfl rfl) ?_
    refine AO.c (Calm.pickF rfl (bD (decide_eq_false hc6)) rfl) ?_
    cases hq5
    refine AO.nilE ⟨rfl, rfl⟩ ?_ ?_
    · exact ⟨rfl, rfl, rfl, trivial⟩
    · exact (Sub.refl _)
  ·rcases of_ite h with ⟨hc7, h⟩ | ⟨hc7, h⟩
   ·refine AW.condT' _ rfl hc7 ?_
    refine AW.sr ?_
    refine AO.c (Calm.assign rfl rfl) ?_
    refine AO.nH [4] (H' := []) (Sub.nil _) ?_
    refine AW.rK [4] ?_
    have hr := Option.some.inj h
    subst hr
    exact ⟨[(eI64 (-1 : Int))], ⟨rfl, rfl, trivial⟩, rfl⟩
   ·refine AW.condF' _ rfl hc7 ?_
    refine AW.sK [1, 2] ?_
    refine AW.sr ?_
    refine AO.c (x := .ptr n3 257) (Calm.fldPtr rfl rfl Try.underlying30 rfl sz25 _ rfl) ?_
    refine AO.c (Calm.load 0 rfl rfl rfl (At.cast (At.fldS (At.fldS (At.fld0 At.here))) rfl) ag25 sz25) ?_
    refine AO.c (Calm.move rfl rfl) ?_
    obtain ⟨hg8, h⟩ := of_guard h
    refine AO.c (Calm.idxL (f := eI64) rfl rfl rfl hg8 Try.underlying25 sz3) ?_
    refine AO.c (Calm.loadRp rfl rfl ag3 sz3) ?_
    refine AO.c (Calm.assign rfl rfl) ?_
    refine AO.nH [4] (H' := []) (Sub.nil _) ?_
    refine AW.rK [4] ?_
    have hr := Option.some.inj h
    subst hr
    exact ⟨[(eI64 (lget p0.f2 p1))], ⟨rfl, rfl, trivial⟩, rfl⟩
end Go.Avl.T5
/- bosket/munch.Longest; printed by avmain.py. -/
namespace Go.Avl.T5
open Go Go.RowKit Go.Proofs Go.Avl
set_option linter.unusedVariables false
set_option maxRecDepth 100000
set_option maxHeartbeats 4000000
attribute [local irreducible] AW AO AQ Spec SpecH Calm

def munch_Longest_c0 (k : Nat) (x5 : Int) (x6 : Int) : Option (Int × Int) :=
  some (x5, x6)
def munch_Longest_c1 (k : Nat) (rec11 : (Int → Int → Int → Int → Option (Int × Int))) (x10 : Int) (x17 : Int) (x18 : Int) (x19 : Int) : Option (Int × Int) :=
  rec11 x17 x18 x19 (w64 (x10 + (1 : Int)))
def munch_Longest_l2 (k : Nat) (p0 : S30) (p1 : ByteArray) (p2 : Int) : Nat → Int → Int → Int → Int → Option (Int × Int)
  | 0, _, _, _, _ => none
  | j + 1, x7, x8, x9, x10 =>
    Option.bind (α := Bool) (if (0 : Int) ≤ x10 then some (decide (x10 < (p1.size : Int)))
    else some (false)) fun b13 =>
    if b13 = true then if 0 ≤ x10 ∧ x10 < (p1.size : Int) then (dfa_Step k p0 x9 (byteAt p1 x10)).bind fun t21 =>
    if t21 = (-1 : Int) then munch_Longest_c0 k x7 x8
    else (dfa_Mark k p0 t21).bind fun t23 =>
    if (0 : Int) ≤ t23 then munch_Longest_c1 k (munch_Longest_l2 k p0 p1 p2 j) x10 t23 (w64 ((w64 (x10 + (1 : Int))) - p2)) t21
    else munch_Longest_c1 k (munch_Longest_l2 k p0 p1 p2 j) x10 x7 x8 t21
    else none
    else munch_Longest_c0 k x7 x8
def munch_Longest (k : Nat) (p0 : S30) (p1 : ByteArray) (p2 : Int) : Option (Int × Int) :=
  munch_Longest_l2 k p0 p1 p2 k (-1 : Int) (0 : Int) (0 : Int) p2
theorem munch_Longest_spec {k : Nat} {p0 : S30} {p1 : ByteArray} {p2 : Int} {r : (Int × Int)} (h : munch_Longest k p0 p1 p2 = some r) : Spec Try.prog 89 [(e30 p0), (eStr p1), (eI64 p2)] (.tup [(eI64 r.1), (eI64 r.2)]) := by
  rw [munch_Longest.eq_1] at h
  refine Spec.intro (res := [.tmp 6, .tmp 7]) Try.func89 rfl rfl rfl (Nat.le_of_ble_eq_true rfl) ?_
  refine AW.sr ?_
  refine AO.box rfl 3 rfl (by decide) rfl rfl rfl fun n4 => ?_
  refine AO.c (Calm.assign rfl rfl) ?_
  refine AO.c (Calm.assign rfl rfl) ?_
  refine AO.nK [1, 2, 3] ?_
  refine AW.sr ?_
  refine AO.c (Calm.assign rfl rfl) ?_
  refine AO.c (Calm.assign rfl rfl) ?_
  refine AO.nK [1, 2, 3, 8, 9] ?_
  refine AW.sr ?_
  refine AO.c (Calm.assign rfl rfl) ?_
  refine AO.nK [1, 2, 3, 8, 9, 10] ?_
  refine AW.seq_mid (fun ρ H => ∃ (x5 : Int) (x6 : Int), ρ = [(8, (eI64 x5)), (9, (eI64 x6))] ∧ H = [] ∧ munch_Longest_c0 k x5 x6 = some r) ?_ ?_
  ·refine AW.sr ?_
   refine AO.c (Calm.move rfl rfl) ?_
   refine AO.c (Calm.assign rfl rfl) ?_
   refine AO.nK [1, 2, 3, 8, 9, 10, 11] ?_
   refine AW.block ?_
   refine AW.wK [1, 2, 3, 8, 9, 10, 11] ?_
   refine AW.loop (fun kq ρ H => ∃ (x7 : Int) (x8 : Int) (x9 : Int) (x10 : Int), ρ = [(1, (eStr p1)), (2, (eI64 p2)), (3, (.ptr n4 0)), (8, (eI64 x7)), (9, (eI64 x8)), (10, (eI64 x9)), (11, (eI64 x10))] ∧ H = [(n4, (.mem (e30 p0)))] ∧ munch_Longest_l2 k p0 p1 p2 kq x7 x8 x9 x10 = some r) k ⟨(-1 : Int), (0 : Int), (0 : Int), p2, rfl, rfl, h⟩ ?_
   rintro kq12 _ _ ⟨x7, x8, x9, x10, rfl, rfl, h⟩
   cases kq12 with
   | zero => rw [munch_Longest_l2.eq_1] at h; cases h
   | succ kq12 =>
   rw [munch_Longest_l2.eq_2] at h
   generalize hrec11 : munch_Longest_l2 k p0 p1 p2 kq12 = rec11 at h
   refine AW.seq ?_
   refine AW.seq ?_
   obtain ⟨b13, hq14, h⟩ := of_bind h
   refine AW.regM [(1, (eStr p1)), (2, (eI64 p2)), (3, (.ptr n4 0)), (8, (eI64 x7)), (9, (eI64 x8)), (10, (eI64 x9)), (11, (eI64 x10)), (21, (eBool b13))] [(n4, (.mem (e30 p0)))] ?_ ?_
   ·refine AO.c (Calm.move rfl rfl) ?_
    refine AO.c (x := eBool (decide ((0 : Int) ≤ x10))) (Calm.int rfl rfl rfl rfl) ?_
    refine AO.c (Calm.move rfl rfl) ?_
    rcases of_ite hq14 with ⟨hc15, hq14⟩ | ⟨hc15, hq14⟩
    ·refine AO.cG rfl rfl (bD (decide_eq_true hc15)) (Calm.move rfl rfl) ?_
     refine AO.cG rfl rfl (bD (decide_eq_true hc15)) (Calm.move rfl rfl) ?_
     refine AO.cG rfl rfl (bD (decide_eq_true hc15)) (Calm.lenStr rfl rfl Try.underlying9) ?_
     refine AO.cG (x := eBool (decide (x10 < (p1.size : Int)))) rfl rfl (bD (decide_eq_true hc15)) (Calm.int rfl rfl rfl rfl) ?_
     refine AO.c (Calm.pickT rfl (bD (decide_eq_true hc15)) rfl) ?_
     cases hq14
     refine AO.nilE ⟨rfl, rfl⟩ ?_ ?_
     · exact ⟨rfl, rfl, rfl, rfl, rfl, rfl, rfl, rfl, trivial⟩
     · exact (Sub.refl _)
    ·refine AO.sT rfl rfl (bD (decide_eq_false hc15)) ?_
     refine AO.sT rfl rfl (bD (decide_eq_false hc15)) ?_
     refine AO.sT rfl rfl (bD (decide_eq_false hc15)) ?_
     refine AO.sT rfl rfl (bD (decide_eq_false hc15)) ?_
     refine AO.c (Calm.pickF rfl (bD (decide_eq_false hc15)) rfl) ?_
     cases hq14
     refine AO.nilE ⟨rfl, rfl⟩ ?_ ?_
     · exact ⟨rfl, rfl, rfl, rfl, rfl, rfl, rfl, rfl, trivial⟩
     · exact (Sub.refl _)
   ·rcases of_ite h with ⟨hc16, h⟩ | ⟨hc16, h⟩
    ·refine AW.condT' _ rfl hc16 ?_
     refine AW.sK [1, 2, 3, 8, 9, 10, 11] ?_
     refine AW.seq_mid (fun ρ H => ∃ (x17 : Int) (x18 : Int) (x19 : Int), ρ = [(1, (eStr p1)), (2, (eI64 p2)), (3, (.ptr n4 0)), (8, (eI64 x17)), (9, (eI64 x18)), (10, (eI64 x19)), (11, (eI64 x10))] ∧ H = [(n4, (.mem (e30 p0)))] ∧ munch_Longest_c1 k rec11 x10 x17 x18 x19 = some r) ?_ ?_
     ·refine AW.block ?_
      refine AW.seq ?_
      refine AW.seq ?_
      refine AW.regQ (by rfl) (by decide +kernel) ?_
      refine AQ.c (Calm.load 0 rfl rfl rfl (At.cast At.here rfl) ag30 sz30) ?_
      refine AQ.c (Calm.move rfl rfl) ?_
      refine AQ.c (Calm.move rfl rfl) ?_
      refine AQ.c (Calm.move rfl rfl) ?_
      obtain ⟨hg20, h⟩ := of_guard h
      refine AQ.c (x := eU8 (byteAt p1 x10)) (Calm.idxS rfl rfl rfl hg20 Try.underlying9) ?_
      obtain ⟨t21, et21, h⟩ := of_bind h
      refine AQ.c (Calm.call (args := [(e30 p0), (eI64 x9), (eU8 (byteAt p1 x10))]) rfl rfl ok97 ⟨rfl, rfl, rfl, rfl, rfl, rfl, trivial⟩ rfl (dfa_Step_spec et21)) ?_
      refine AQ.c (Calm.assign rfl rfl) ?_
      refine AQ.nK [1, 2, 3, 8, 9, 10, 11] ?_
      refine AW.sr ?_
      refine AO.c (Calm.move rfl rfl) ?_
      refine AO.c (x := eBool (decide (t21 = (-1 : Int)))) (Calm.int rfl rfl rfl rfl) ?_
      refine AO.nK [1, 2, 3, 8, 9, 10, 11, 31] ?_
      rcases of_ite h with ⟨hc22, h⟩ | ⟨hc22, h⟩
      ·refine AW.condP _ rfl hc22 ?_
       refine AW.eH [8, 9] (H' := []) (Sub.nil _) ?_
       exact ⟨x7, x8, rfl, rfl, h⟩
      ·refine AW.condN _ rfl hc22 ?_
       refine AW.sK [1, 2, 3, 8, 9, 10, 11] ?_
       refine AW.sr ?_
       refine AO.c (Calm.load 0 rfl rfl rfl (At.cast At.here rfl) ag30 sz30) ?_
       refine AO.c (Calm.move rfl rfl) ?_
       obtain ⟨t23, et23, h⟩ := of_bind h
       refine AO.callS [(e30 p0), (eI64 t21)] (eI64 t23) 34 rfl (by decide) ok85 rfl rfl rfl ⟨rfl, rfl, rfl, rfl, trivial⟩ (dfa_Mark_spec et23) ?_
       refine AO.c (Calm.assign rfl rfl) ?_
       refine AO.nK [1, 2, 3, 8, 9, 10, 11, 12] ?_
       refine AW.sr ?_
       refine AO.c (Calm.move rfl rfl) ?_
       refine AO.c (x := eBool (decide ((0 : Int) ≤ t23))) (Calm.int rfl rfl rfl rfl) ?_
       refine AO.nK [1, 2, 3, 8, 9, 10, 11, 12, 36] ?_
       rcases of_ite h with ⟨hc24, h⟩ | ⟨hc24, h⟩
       ·refine AW.condP _ rfl hc24 ?_
        refine AW.reg ?_
        refine AO.c (Calm.move rfl rfl) ?_
        refine AO.c (Calm.move rfl rfl) ?_
        refine AO.c (x := eI64 (w64 (x10 + (1 : Int)))) (Calm.int rfl rfl rfl rfl) ?_
        refine AO.c (Calm.move rfl rfl) ?_
        refine AO.c (x := eI64 (w64 ((w64 (x10 + (1 : Int))) - p2))) (Calm.int rfl rfl rfl rfl) ?_
        refine AO.c (Calm.assign rfl rfl) ?_
        refine AO.c (Calm.assign rfl rfl) ?_
        refine AO.nK [1, 2, 3, 8, 9, 10, 11] ?_
        exact ⟨t23, (w64 ((w64 (x10 + (1 : Int))) - p2)), t21, rfl, rfl, h⟩
       ·refine AW.condN _ rfl hc24 ?_
        refine AW.sK [1, 2, 3, 8, 9, 10, 11] ?_
        exact ⟨x7, x8, t21, rfl, rfl, h⟩
     ·rintro _ _ ⟨x17, x18, x19, rfl, rfl, h⟩
      rw [munch_Longest_c1.eq_1] at h
      refine AW.reg ?_
      refine AO.c (Calm.move rfl rfl) ?_
      refine AO.c (x := eI64 (w64 (x10 + (1 : Int)))) (Calm.int rfl rfl rfl rfl) ?_
      refine AO.c (Calm.assign rfl rfl) ?_
      refine AO.nK [1, 2, 3, 8, 9, 10, 11] ?_
      exact ⟨kq12, Nat.lt_succ_self _, x17, x18, x19, (w64 (x10 + (1 : Int))), rfl, rfl, by rw [hrec11]; exact h⟩
    ·refine AW.condF' _ rfl hc16 ?_
     refine AW.eH [8, 9] (H' := []) (Sub.nil _) ?_
     exact ⟨x7, x8, rfl, rfl, h⟩
  ·rintro _ _ ⟨x5, x6, rfl, rfl, h⟩
   rw [munch_Longest_c0.eq_1] at h
   refine AW.sr ?_
   refine AO.c (Calm.move rfl rfl) ?_
   refine AO.c (Calm.move rfl rfl) ?_
   refine AO.c (Calm.assign rfl rfl) ?_
   refine AO.c (Calm.assign rfl rfl) ?_
   refine AO.nK [6, 7] ?_
   refine AW.rK [6, 7] ?_
   have hr := Option.some.inj h
   subst hr
   exact ⟨[(eI64 x5), (eI64 x6)], ⟨rfl, rfl, rfl, rfl, trivial⟩, rfl⟩
end Go.Avl.T5
/- bosket/bosketref12.Longest; printed by avmain.py. -/
namespace Go.Avl.T5
open Go Go.RowKit Go.Proofs Go.Avl
set_option linter.unusedVariables false
set_option maxRecDepth 100000
set_option maxHeartbeats 4000000
attribute [local irreducible] AW AO AQ Spec SpecH Calm

def bosketref12_Longest_c0 (k : Nat) : Option (Int × Int) :=
  some ((-1 : Int), (0 : Int))
def bosketref12_Longest_l1 (k : Nat) (p0 : S30) (p1 : ByteArray) (p2 : Int) : Nat → Int → Option (Int × Int)
  | 0, _ => none
  | j + 1, x6 =>
    if p2 < x6 then if 0 ≤ p2 ∧ p2 ≤ x6 ∧ x6 ≤ (p1.size : Int) then (bosketref08_Run k p0 (0 : Int) (p1.extract p2.toNat x6.toNat)).bind fun t11 =>
    (bosketref08_Mark k p0 t11).bind fun t12 =>
    if (0 : Int) ≤ t12 then some (t12, (w64 (x6 - p2)))
    else (bosketref12_Longest_l1 k p0 p1 p2 j) (w64 (x6 - (1 : Int)))
    else none
    else bosketref12_Longest_c0 k
def bosketref12_Longest (k : Nat) (p0 : S30) (p1 : ByteArray) (p2 : Int) : Option (Int × Int) :=
  if p2 < (0 : Int) then some ((-1 : Int), (0 : Int))
  else bosketref12_Longest_l1 k p0 p1 p2 k (p1.size : Int)
end Go.Avl.T5
/- bosket/munch.All; printed by avmain.py. -/
namespace Go.Avl.T5
open Go Go.RowKit Go.Proofs Go.Avl
set_option linter.unusedVariables false
set_option maxRecDepth 100000
set_option maxHeartbeats 4000000
attribute [local irreducible] AW AO AQ Spec SpecH Calm

def munch_All_c0 (k : Nat) (p1 : ByteArray) (x6 : (List S96)) : Option ((List S96) × Int × Int) :=
  some (x6, (p1.size : Int), (0 : Int))
def munch_All_l1 (k : Nat) (p0 : S30) (p1 : ByteArray) : Nat → (List S96) → Int → Option ((List S96) × Int × Int)
  | 0, _, _ => none
  | j + 1, x8, x9 =>
    if x9 < (p1.size : Int) then (munch_Longest k p0 p1 x9).bind fun t13 =>
    if t13.2 = (0 : Int) then some (x8, x9, (7 : Int))
    else if 0 ≤ x9 ∧ x9 ≤ (w64 (x9 + t13.2)) ∧ (w64 (x9 + t13.2)) ≤ (p1.size : Int) then if (x8 ++ ([(S96.mk t13.1 (p1.extract x9.toNat (w64 (x9 + t13.2)).toNat) x9)] : List S96)).length * 32 ≤ 140737488355328 then (munch_All_l1 k p0 p1 j) (x8 ++ ([(S96.mk t13.1 (p1.extract x9.toNat (w64 (x9 + t13.2)).toNat) x9)] : List S96)) (w64 (x9 + t13.2))
    else none
    else none
    else munch_All_c0 k p1 x8
def munch_All (k : Nat) (p0 : S30) (p1 : ByteArray) : Option ((List S96) × Int × Int) :=
  if (65536 : Int) < (p1.size : Int) then some ([], (0 : Int), (6 : Int))
  else munch_All_l1 k p0 p1 k ([] : List S96) (0 : Int)
theorem munch_All_spec {k : Nat} {p0 : S30} {p1 : ByteArray} {r : ((List S96) × Int × Int)} (h : munch_All k p0 p1 = some r) : Spec Try.prog 63 [(e30 p0), (eStr p1)] (.tup [(.fz 3 (r.1.map e96)), (eI64 r.2.1), (eI64 r.2.2)]) := by
  rw [munch_All.eq_1] at h
  refine Spec.intro (res := [.tmp 4, .tmp 5, .tmp 6]) Try.func63 rfl rfl rfl (Nat.le_of_ble_eq_true rfl) ?_
  refine AW.sr ?_
  refine AO.box rfl 2 rfl (by decide) rfl rfl rfl fun n3 => ?_
  refine AO.c (Calm.assign rfl rfl) ?_
  refine AO.c (Calm.assign rfl rfl) ?_
  refine AO.c (Calm.assign rfl rfl) ?_
  refine AO.nK [1, 2] ?_
  refine AW.seq ?_
  refine AW.sr ?_
  refine AO.c (Calm.move rfl rfl) ?_
  refine AO.c (Calm.lenStr rfl rfl Try.underlying9) ?_
  refine AO.c (x := eBool (decide ((65536 : Int) < (p1.size : Int)))) (Calm.int rfl rfl rfl rfl) ?_
  refine AO.nK [1, 2, 13] ?_
  rcases of_ite h with ⟨hc4, h⟩ | ⟨hc4, h⟩
  ·refine AW.condP _ rfl hc4 ?_
   refine AW.sr ?_
   refine AO.c (Calm.assign rfl rfl) ?_
   refine AO.c (Calm.assign rfl rfl) ?_
   refine AO.c (Calm.assign rfl rfl) ?_
   refine AO.nH [4, 5, 6] (H' := []) (Sub.nil _) ?_
   refine AW.coeC 4 (y' := (.fz 3 (([] : List S96).map e96))) rfl Coe.nil ?_
   refine AW.rK [4, 5, 6] ?_
   have hr := Option.some.inj h
   subst hr
   exact ⟨[(.fz 3 (([] : List S96).map e96)), (eI64 (0 : Int)), (eI64 (6 : Int))], ⟨rfl, rfl, rfl, rfl, rfl, rfl, trivial⟩, rfl⟩
  ·refine AW.condN _ rfl hc4 ?_
   refine AW.sK [1, 2] ?_
   refine AW.sr ?_
   refine AO.c (Calm.assign rfl rfl) ?_
   refine AO.nK [1, 2, 7] ?_
   refine AW.seq_mid (fun ρ H => ∃ (n5 : Nat) (x6 : (List S96)), ρ = [(1, (eStr p1)), (7, (.own n5 0 x6.length))] ∧ H = [(n5, (.mem (.ar 3 (x6.map e96))))] ∧ munch_All_c0 k p1 x6 = some r) ?_ ?_
   ·refine AW.sr ?_
    refine AO.c (Calm.assign rfl rfl) ?_
    refine AO.nK [1, 2, 7, 8] ?_
    refine AW.block ?_
    refine AW.nilOwn 7 3 rfl fun n19 => ?_
    refine AW.wH [1, 2, 7, 8] (H' := [(n3, (.mem (e30 p0))), (n19, (.mem (.ar 3 (([] : List S96).map e96))))]) (Sub.cons 1 rfl (Sub.cons 0 rfl (Sub.nil _))) ?_
    refine AW.loop (fun kq ρ H => ∃ (n7 : Nat) (x8 : (List S96)) (x9 : Int), ρ = [(1, (eStr p1)), (2, (.ptr n3 0)), (7, (.own n7 0 x8.length)), (8, (eI64 x9))] ∧ H = [(n3, (.mem (e30 p0))), (n7, (.mem (.ar 3 (x8.map e96))))] ∧ munch_All_l1 k p0 p1 kq x8 x9 = some r) k ⟨n19, ([] : List S96), (0 : Int), rfl, rfl, h⟩ ?_
    rintro kq11 _ _ ⟨n7, x8, x9, rfl, rfl, h⟩
    cases kq11 with
    | zero => rw [munch_All_l1.eq_1] at h; cases h
    | succ kq11 =>
    rw [munch_All_l1.eq_2] at h
    generalize hrec10 : munch_All_l1 k p0 p1 kq11 = rec10 at h
    refine AW.seq ?_
    refine AW.sr ?_
    refine AO.c (Calm.move rfl rfl) ?_
    refine AO.c (Calm.move rfl rfl) ?_
    refine AO.c (Calm.lenStr rfl rfl Try.underlying9) ?_
    refine AO.c (x := eBool (decide (x9 < (p1.size : Int)))) (Calm.int rfl rfl rfl rfl) ?_
    refine AO.nK [1, 2, 7, 8, 17] ?_
    rcases of_ite h with ⟨hc12, h⟩ | ⟨hc12, h⟩
    ·refine AW.condP _ rfl hc12 ?_
     refine AW.sK [1, 2, 7, 8] ?_
     refine AW.block ?_
     refine AW.sr ?_
     refine AO.c (Calm.load 0 rfl rfl rfl (At.cast At.here rfl) ag30 sz30) ?_
     refine AO.c (Calm.move rfl rfl) ?_
     refine AO.c (Calm.move rfl rfl) ?_
     obtain ⟨t13, et13, h⟩ := of_bind h
     refine AO.callS [(e30 p0), (eStr p1), (eI64 x9)] (.tup [(eI64 t13.1), (eI64 t13.2)]) 22 rfl (by decide) ok89 rfl rfl rfl ⟨rfl, rfl, rfl, rfl, rfl, rfl, trivial⟩ (munch_Longest_spec et13) ?_
     refine AO.c (Calm.move rfl rfl) ?_
     refine AO.c (Calm.extract rfl rfl rfl) ?_
     refine AO.c (Calm.extract rfl rfl rfl) ?_
     refine AO.c (Calm.assign rfl rfl) ?_
     refine AO.c (Calm.assign rfl rfl) ?_
     refine AO.nK [1, 2, 7, 8, 9, 10] ?_
     refine AW.seq ?_
     refine AW.sr ?_
     refine AO.c (Calm.move rfl rfl) ?_
     refine AO.c (x := eBool (decide (t13.2 = (0 : Int)))) (Calm.int rfl rfl rfl rfl) ?_
     refine AO.nK [1, 2, 7, 8, 9, 10, 26] ?_
     rcases of_ite h with ⟨hc14, h⟩ | ⟨hc14, h⟩
     ·refine AW.condP _ rfl hc14 ?_
      refine AW.sr ?_
      refine AO.c (Calm.move rfl rfl) ?_
      refine AO.c (Calm.move rfl rfl) ?_
      refine AO.c (Calm.assign rfl rfl) ?_
      refine AO.c (Calm.assign rfl rfl) ?_
      refine AO.c (Calm.assign rfl rfl) ?_
      refine AO.nH [4, 5, 6] (H' := [(n7, (.mem (.ar 3 (x8.map e96))))]) (Sub.cons 1 rfl (Sub.nil _)) ?_
      refine AW.freezeS 0 [(4, (.fz 3 (x8.map e96)))] rfl ⟨fz_all rfl, trivial⟩ ?_
      refine AW.rK [4, 5, 6] ?_
      have hr := Option.some.inj h
      subst hr
      exact ⟨[(.fz 3 (x8.map e96)), (eI64 x9), (eI64 (7 : Int))], ⟨rfl, rfl, rfl, rfl, rfl, rfl, trivial⟩, rfl⟩
     ·refine AW.condN _ rfl hc14 ?_
      refine AW.sK [1, 2, 7, 8, 9, 10] ?_
      refine AW.sr ?_
      refine AO.c (Calm.move rfl rfl) ?_
      refine AO.c (Calm.move rfl rfl) ?_
      refine AO.c (Calm.move rfl rfl) ?_
      refine AO.c (Calm.move rfl rfl) ?_
      refine AO.c (Calm.move rfl rfl) ?_
      refine AO.c (Calm.move rfl rfl) ?_
      refine AO.c (x := eI64 (w64 (x9 + t13.2))) (Calm.int rfl rfl rfl rfl) ?_
      obtain ⟨hg15, h⟩ := of_guard h
      refine AO.c (x := eStr (p1.extract x9.toNat (w64 (x9 + t13.2)).toNat)) (Calm.sliceS rfl rfl rfl rfl hg15 Try.underlying9) ?_
      refine AO.c (Calm.move rfl rfl) ?_
      refine AO.c (x := .st [(1, (eI64 t13.1)), (1, (eStr (p1.extract x9.toNat (w64 (x9 + t13.2)).toNat))), (1, (eI64 x9))]) (Calm.build (qs := [(0, (eI64 t13.1)), (1, (eStr (p1.extract x9.toNat (w64 (x9 + t13.2)).toNat))), (2, (eI64 x9))]) rfl ⟨rfl, rfl, rfl, rfl, rfl, rfl, rfl, rfl, rfl, trivial⟩ Try.underlying96 rfl zr96 lay96 (.cons rfl rfl rfl rfl (Put.cast (Put.fld0 Put.here) rfl) (.cons rfl rfl rfl rfl (Put.cast (Put.fldS (Put.fld0 Put.here)) rfl) (.cons rfl rfl rfl rfl (Put.cast (Put.fldS (Put.fldS (Put.fld0 Put.here))) rfl) .nil))) rfl) ?_
      refine AO.lit (Z := (.st [(1, (eI64 (0 : Int))), (1, (eStr ByteArray.empty)), (1, (eI64 (0 : Int)))])) (xs := (([(S96.mk t13.1 (p1.extract x9.toNat (w64 (x9 + t13.2)).toNat) x9)] : List S96).map e96)) (qs := [(0, (e96 (S96.mk t13.1 (p1.extract x9.toNat (w64 (x9 + t13.2)).toNat) x9)))]) rfl 39 rfl (by decide) rfl ⟨rfl, rfl, rfl, trivial⟩ Try.underlying92 sz96 zr96 lay96 rfl (by decide) (litOK (z := 3) [(e96 (S96.mk t13.1 (p1.extract x9.toNat (w64 (x9 + t13.2)).toNat) x9))] rfl ⟨⟨rfl, rfl⟩, trivial⟩) rfl fun n16 => ?_
      obtain ⟨hg18, h⟩ := of_guard h
      refine AO.appendL (l := x8) (m := ([(S96.mk t13.1 (p1.extract x9.toNat (w64 (x9 + t13.2)).toNat) x9)] : List S96)) 2 40 rfl (by decide) rfl rfl rfl rfl rfl (Src.ownL (f := e96) (l := ([(S96.mk t13.1 (p1.extract x9.toNat (w64 (x9 + t13.2)).toNat) x9)] : List S96)) 0 rfl) Try.underlying92 Try.underlying92 sz96 by96 zr96 rfl hg18 (by decide) fun n17 => ?_
      refine AO.c (Calm.assign rfl rfl) ?_
      refine AO.nH [1, 2, 7, 8, 10] (H' := [(n3, (.mem (e30 p0))), (n17, (.mem (.ar 3 ((x8 ++ ([(S96.mk t13.1 (p1.extract x9.toNat (w64 (x9 + t13.2)).toNat) x9)] : List S96)).map e96))))]) (Sub.cons 1 rfl (Sub.cons 1 rfl (Sub.nil _))) ?_
      refine AW.reg ?_
      refine AO.c (Calm.move rfl rfl) ?_
      refine AO.c (Calm.move rfl rfl) ?_
      refine AO.c (x := eI64 (w64 (x9 + t13.2))) (Calm.int rfl rfl rfl rfl) ?_
      refine AO.c (Calm.assign rfl rfl) ?_
      refine AO.nK [1, 2, 7, 8] ?_
      exact ⟨kq11, Nat.lt_succ_self _, n17, (x8 ++ ([(S96.mk t13.1 (p1.extract x9.toNat (w64 (x9 + t13.2)).toNat) x9)] : List S96)), (w64 (x9 + t13.2)), rfl, rfl, by rw [hrec10]; exact h⟩
    ·refine AW.condN _ rfl hc12 ?_
     refine AW.eH [1, 7] (H' := [(n7, (.mem (.ar 3 (x8.map e96))))]) (Sub.cons 1 rfl (Sub.nil _)) ?_
     exact ⟨n7, x8, rfl, rfl, h⟩
   ·rintro _ _ ⟨n5, x6, rfl, rfl, h⟩
    rw [munch_All_c0.eq_1] at h
    refine AW.sr ?_
    refine AO.c (Calm.move rfl rfl) ?_
    refine AO.c (Calm.move rfl rfl) ?_
    refine AO.c (Calm.lenStr rfl rfl Try.underlying9) ?_
    refine AO.c (Calm.assign rfl rfl) ?_
    refine AO.c (Calm.assign rfl rfl) ?_
    refine AO.c (Calm.assign rfl rfl) ?_
    refine AO.nK [4, 5, 6] ?_
    refine AW.freezeS 0 [(4, (.fz 3 (x6.map e96)))] rfl ⟨fz_all rfl, trivial⟩ ?_
    refine AW.rK [4, 5, 6] ?_
    have hr := Option.some.inj h
    subst hr
    exact ⟨[(.fz 3 (x6.map e96)), (eI64 (p1.size : Int)), (eI64 (0 : Int))], ⟨rfl, rfl, rfl, rfl, rfl, rfl, trivial⟩, rfl⟩
end Go.Avl.T5
/- bosket/bosketref12.All; printed by avmain.py. -/
namespace Go.Avl.T5
open Go Go.RowKit Go.Proofs Go.Avl
set_option linter.unusedVariables false
set_option maxRecDepth 100000
set_option maxHeartbeats 4000000
attribute [local irreducible] AW AO AQ Spec SpecH Calm

def bosketref12_All_c0 (k : Nat) (x5 : (List S96)) (x6 : Int) : Option ((List S96) × Int × Bool) :=
  some (x5, x6, true)
def bosketref12_All_l1 (k : Nat) (p0 : S30) (p1 : ByteArray) : Nat → (List S96) → Int → Option ((List S96) × Int × Bool)
  | 0, _, _ => none
  | j + 1, x8, x9 =>
    if x9 < (p1.size : Int) then (bosketref12_Longest k p0 p1 x9).bind fun t13 =>
    if t13.2 = (0 : Int) then some (x8, x9, false)
    else if 0 ≤ x9 ∧ x9 ≤ (w64 (x9 + t13.2)) ∧ (w64 (x9 + t13.2)) ≤ (p1.size : Int) then if (x8 ++ ([(S96.mk t13.1 (p1.extract x9.toNat (w64 (x9 + t13.2)).toNat) x9)] : List S96)).length * 32 ≤ 140737488355328 then (bosketref12_All_l1 k p0 p1 j) (x8 ++ ([(S96.mk t13.1 (p1.extract x9.toNat (w64 (x9 + t13.2)).toNat) x9)] : List S96)) (w64 (x9 + t13.2))
    else none
    else none
    else bosketref12_All_c0 k x8 x9
def bosketref12_All (k : Nat) (p0 : S30) (p1 : ByteArray) : Option ((List S96) × Int × Bool) :=
  bosketref12_All_l1 k p0 p1 k ([] : List S96) (0 : Int)
end Go.Avl.T5
/- bosket/fuse.Splits; printed by avmain.py. -/
namespace Go.Avl.T5
open Go Go.RowKit Go.Proofs Go.Avl
set_option linter.unusedVariables false
set_option maxRecDepth 100000
set_option maxHeartbeats 4000000
attribute [local irreducible] AW AO AQ Spec SpecH Calm

def fuse_Splits_c0 (k : Nat) (p3 : (List ByteArray)) (x8 : Int) : Option Bool :=
  some (decide (x8 = (p3.length : Int)))
def fuse_Splits_c1 (k : Nat) (rec11 : (Int → Int → Option Bool)) (x10 : Int) (x14 : Int) : Option Bool :=
  rec11 x14 (w64 (x10 + (1 : Int)))
def fuse_Splits_l2 (k : Nat) (p1 : Int) (p3 : (List ByteArray)) (t6 : ((List S96) × Int × Int)) : Nat → Int → Int → Option Bool
  | 0, _, _ => none
  | j + 1, x9, x10 =>
    if x10 < (t6.1.length : Int) then if 0 ≤ x10 ∧ x10 < (t6.1.length : Int) then if ((lget t6.1 x10).f0) = p1 then fuse_Splits_c1 k (fuse_Splits_l2 k p1 p3 t6 j) x10 x9
    else Option.bind (α := Bool) (if (p3.length : Int) ≤ x9 then some (true)
    else if 0 ≤ x9 ∧ x9 < (p3.length : Int) then some (decide (((lget t6.1 x10).f1) ≠ (lget p3 x9)))
    else none) fun b18 =>
    if b18 = true then some (false)
    else fuse_Splits_c1 k (fuse_Splits_l2 k p1 p3 t6 j) x10 (w64 (x9 + (1 : Int)))
    else none
    else fuse_Splits_c0 k p3 x9
def fuse_Splits (k : Nat) (p0 : S30) (p1 : Int) (p2 : ByteArray) (p3 : (List ByteArray)) : Option Bool :=
  (munch_All k p0 p2).bind fun t6 =>
  if t6.2.2 ≠ (0 : Int) then some (false)
  else fuse_Splits_l2 k p1 p3 t6 k (0 : Int) (0 : Int)
theorem fuse_Splits_spec {k : Nat} {p0 : S30} {p1 : Int} {p2 : ByteArray} {p3 : (List ByteArray)} {r : Bool} (h : fuse_Splits k p0 p1 p2 p3 = some r) : Spec Try.prog 30 [(e30 p0), (eI64 p1), (eStr p2), (.fz 1 (p3.map eStr))] (eBool r) := by
  rw [fuse_Splits.eq_1] at h
  refine Spec.intro (res := [.tmp 8]) Try.func30 rfl rfl rfl (Nat.le_of_ble_eq_true rfl) ?_
  refine AW.sr ?_
  refine AO.box rfl 4 rfl (by decide) rfl rfl rfl fun n5 => ?_
  refine AO.c (Calm.assign rfl rfl) ?_
  refine AO.nK [1, 2, 3, 4] ?_
  refine AW.sr ?_
  refine AO.c (Calm.load 0 rfl rfl rfl (At.cast At.here rfl) ag30 sz30) ?_
  refine AO.c (Calm.move rfl rfl) ?_
  obtain ⟨t6, et6, h⟩ := of_bind h
  refine AO.callS [(e30 p0), (eStr p2)] (.tup [(.fz 3 (t6.1.map e96)), (eI64 t6.2.1), (eI64 t6.2.2)]) 18 rfl (by decide) ok63 rfl rfl rfl ⟨rfl, rfl, rfl, rfl, trivial⟩ (munch_All_spec et6) ?_
  refine AO.c (Calm.move rfl rfl) ?_
  refine AO.c (Calm.extract rfl rfl rfl) ?_
  refine AO.c (Calm.extract rfl rfl rfl) ?_
  refine AO.c (Calm.extract rfl rfl rfl) ?_
  refine AO.c (Calm.assign rfl rfl) ?_
  refine AO.c (Calm.assign rfl rfl) ?_
  refine AO.c (Calm.assign rfl rfl) ?_
  refine AO.nH [1, 3, 9, 11] (H' := []) (Sub.nil _) ?_
  refine AW.seq ?_
  refine AW.sr ?_
  refine AO.c (Calm.move rfl rfl) ?_
  refine AO.c (x := eBool (decide (t6.2.2 ≠ (0 : Int)))) (Calm.int rfl rfl rfl rfl) ?_
  refine AO.nK [1, 3, 9, 23] ?_
  rcases of_ite h with ⟨hc7, h⟩ | ⟨hc7, h⟩
  ·refine AW.condP _ rfl hc7 ?_
   refine AW.sr ?_
   refine AO.c (Calm.assign rfl rfl) ?_
   refine AO.nK [8] ?_
   refine AW.rK [8] ?_
   have hr := Option.some.inj h
   subst hr
   exact ⟨[(eBool false)], ⟨rfl, rfl, trivial⟩, rfl⟩
  ·refine AW.condN _ rfl hc7 ?_
   refine AW.sK [1, 3, 9] ?_
   refine AW.sr ?_
   refine AO.c (Calm.assign rfl rfl) ?_
   refine AO.nK [1, 3, 9, 12] ?_
   refine AW.seq_mid (fun ρ H => ∃ (x8 : Int), ρ = [(3, (.fz 1 (p3.map eStr))), (12, (eI64 x8))] ∧ H = [] ∧ fuse_Splits_c0 k p3 x8 = some r) ?_ ?_
   ·refine AW.sr ?_
    refine AO.c (Calm.move rfl rfl) ?_
    refine AO.c (Calm.lenL rfl rfl Try.underlying92) ?_
    refine AO.c (Calm.move rfl rfl) ?_
    refine AO.nK [1, 3, 12, 24, 25, 26] ?_
    refine AW.block ?_
    refine AW.wK [1, 3, 12, 24, 25, 26] ?_
    refine AW.loop (fun kq ρ H => ∃ (x9 : Int) (x10 : Int), ρ = [(1, (eI64 p1)), (3, (.fz 1 (p3.map eStr))), (12, (eI64 x9)), (24, (.fz 3 (t6.1.map e96))), (25, (eI64 (t6.1.length : Int))), (26, (eI64 x10))] ∧ H = [] ∧ fuse_Splits_l2 k p1 p3 t6 kq x9 x10 = some r) k ⟨(0 : Int), (0 : Int), rfl, rfl, h⟩ ?_
    rintro kq12 _ _ ⟨x9, x10, rfl, rfl, h⟩
    cases kq12 with
    | zero => rw [fuse_Splits_l2.eq_1] at h; cases h
    | succ kq12 =>
    rw [fuse_Splits_l2.eq_2] at h
    generalize hrec11 : fuse_Splits_l2 k p1 p3 t6 kq12 = rec11 at h
    refine AW.sr ?_
    refine AO.c (x := eBool (decide (x10 < (t6.1.length : Int)))) (Calm.int rfl rfl rfl rfl) ?_
    refine AO.nK [1, 3, 12, 24, 25, 26, 27] ?_
    refine AW.seq ?_
    rcases of_ite h with ⟨hc13, h⟩ | ⟨hc13, h⟩
    ·refine AW.condP _ rfl hc13 ?_
     refine AW.sK [1, 3, 12, 24, 25, 26] ?_
     refine AW.seq_mid (fun ρ H => ∃ (x14 : Int), ρ = [(1, (eI64 p1)), (3, (.fz 1 (p3.map eStr))), (12, (eI64 x14)), (24, (.fz 3 (t6.1.map e96))), (25, (eI64 (t6.1.length : Int))), (26, (eI64 x10))] ∧ H = [] ∧ fuse_Splits_c1 k rec11 x10 x14 = some r) ?_ ?_
     ·refine AW.block ?_
      refine AW.sr ?_
      obtain ⟨hg15, h⟩ := of_guard h
      refine AO.c (Calm.idxL (f := e96) rfl rfl rfl hg15 Try.underlying92 sz96) ?_
      refine AO.c (Calm.loadRp rfl rfl ag96 sz96) ?_
      refine AO.alloc rfl 14 rfl (by decide) rfl zr96 lay96 fun n16 => ?_
      refine AO.store (X' := (e96 (lget t6.1 x10))) 0 rfl rfl rfl rfl rfl rfl (Put.cast Put.here rfl) rfl rfl sz96 rfl ?_
      refine AO.nK [1, 3, 12, 14, 24, 25, 26] ?_
      refine AW.seq ?_
      refine AW.sr ?_
      refine AO.c (x := .ptr n16 0) (Calm.fldPtr rfl rfl Try.underlying96 rfl sz3 _ rfl) ?_
      refine AO.c (Calm.load 0 rfl rfl rfl (At.cast (At.fld0 At.here) rfl) ag3 sz3) ?_
      refine AO.c (Calm.move rfl rfl) ?_
      refine AO.c (x := eBool (decide (((lget t6.1 x10).f0) = p1))) (Calm.int rfl rfl rfl rfl) ?_
      refine AO.nK [1, 3, 12, 14, 24, 25, 26, 33] ?_
      rcases of_ite h with ⟨hc17, h⟩ | ⟨hc17, h⟩
      ·refine AW.condP _ rfl hc17 ?_
       refine AW.eH [1, 3, 12, 24, 25, 26] (H' := []) (Sub.nil _) ?_
       exact ⟨x9, rfl, rfl, h⟩
      ·refine AW.condN _ rfl hc17 ?_
       refine AW.sK [1, 3, 12, 14, 24, 25, 26] ?_
       refine AW.seq ?_
       refine AW.seq ?_
       obtain ⟨b18, hq19, h⟩ := of_bind h
       refine AW.regQM (by rfl) (by decide +kernel) [(1, (eI64 p1)), (3, (.fz 1 (p3.map eStr))), (12, (eI64 x9)), (24, (.fz 3 (t6.1.map e96))), (25, (eI64 (t6.1.length : Int))), (26, (eI64 x10)), (46, (eBool b18))] ?_ ?_
       ·refine AQ.c (Calm.move rfl rfl) ?_
        refine AQ.c (Calm.move rfl rfl) ?_
        refine AQ.c (Calm.lenL rfl rfl Try.underlying53) ?_
        refine AQ.c (x := eBool (decide ((p3.length : Int) ≤ x9))) (Calm.int rfl rfl rfl rfl) ?_
        refine AQ.c (Calm.move rfl rfl) ?_
        rcases of_ite hq19 with ⟨hc20, hq19⟩ | ⟨hc20, hq19⟩
        ·refine AQ.sF rfl rfl (bD (decide_eq_true hc20)) ?_
         refine AQ.sF rfl rfl (bD (decide_eq_true hc20)) ?_
         refine AQ.sF rfl rfl (bD (decide_eq_true hc20)) ?_
         refine AQ.sF rfl rfl (bD (decide_eq_true hc20)) ?_
         refine AQ.sF rfl rfl (bD (decide_eq_true hc20)) ?_
         refine AQ.sF rfl rfl (bD (decide_eq_true hc20)) ?_
         refine AQ.sF rfl rfl (bD (decide_eq_true hc20)) ?_
         refine AQ.c (Calm.pickT rfl (bD (decide_eq_true hc20)) rfl) ?_
         cases hq19
         refine AQ.nilE rfl ?_
         exact ⟨rfl, rfl, rfl, rfl, rfl, rfl, rfl, trivial⟩
        ·refine AQ.cG (x := .ptr n16 1) rfl rfl (bD (decide_eq_false hc20)) (Calm.fldPtr rfl rfl Try.underlying96 rfl sz9 _ rfl) ?_
         refine AQ.cG rfl rfl (bD (decide_eq_false hc20)) (Calm.load 0 rfl rfl rfl (At.cast (At.fldS (At.fld0 At.here)) rfl) ag9 sz9) ?_
         refine AQ.cG rfl rfl (bD (decide_eq_false hc20)) (Calm.move rfl rfl) ?_
         refine AQ.cG rfl rfl (bD (decide_eq_false hc20)) (Calm.move rfl rfl) ?_
         obtain ⟨hg21, hq19⟩ := of_guard hq19
         refine AQ.cG rfl rfl (bD (decide_eq_false hc20)) (Calm.idxL (f := eStr) rfl rfl rfl hg21 Try.underlying53 sz9) ?_
         refine AQ.cG rfl rfl (bD (decide_eq_false hc20)) (Calm.loadRp rfl rfl ag9 sz9) ?_
         refine AQ.cG (x := eBool (decide (((lget t6.1 x10).f1) ≠ (lget p3 x9)))) rfl rfl (bD (decide_eq_false hc20)) (Calm.str rfl rfl rfl rfl) ?_
         refine AQ.c (Calm.pickF rfl (bD (decide_eq_false hc20)) rfl) ?_
         cases hq19
         refine AQ.nilE rfl ?_
         exact ⟨rfl, rfl, rfl, rfl, rfl, rfl, rfl, trivial⟩
       ·rcases of_ite h with ⟨hc22, h⟩ | ⟨hc22, h⟩
        ·refine AW.condT' _ rfl hc22 ?_
         refine AW.sr ?_
         refine AO.c (Calm.assign rfl rfl) ?_
         refine AO.nH [8] (H' := []) (Sub.nil _) ?_
         refine AW.rK [8] ?_
         have hr := Option.some.inj h
         subst hr
         exact ⟨[(eBool false)], ⟨rfl, rfl, trivial⟩, rfl⟩
        ·refine AW.condF' _ rfl hc22 ?_
         refine AW.sH [1, 3, 12, 24, 25, 26] (H' := []) (Sub.nil _) ?_
         refine AW.reg ?_
         refine AO.c (Calm.move rfl rfl) ?_
         refine AO.c (x := eI64 (w64 (x9 + (1 : Int)))) (Calm.int rfl rfl rfl rfl) ?_
         refine AO.c (Calm.assign rfl rfl) ?_
         refine AO.nK [1, 3, 12, 24, 25, 26] ?_
         exact ⟨(w64 (x9 + (1 : Int))), rfl, rfl, h⟩
     ·rintro _ _ ⟨x14, rfl, rfl, h⟩
      rw [fuse_Splits_c1.eq_1] at h
      refine AW.reg ?_
      refine AO.c (x := eI64 (w64 (x10 + (1 : Int)))) (Calm.int rfl rfl rfl rfl) ?_
      refine AO.c (Calm.move rfl rfl) ?_
      refine AO.nK [1, 3, 12, 24, 25, 26] ?_
      exact ⟨kq12, Nat.lt_succ_self _, x14, (w64 (x10 + (1 : Int))), rfl, rfl, by rw [hrec11]; exact h⟩
    ·refine AW.condN _ rfl hc13 ?_
     refine AW.eK [3, 12] ?_
     exact ⟨x9, rfl, rfl, h⟩
   ·rintro _ _ ⟨x8, rfl, rfl, h⟩
    rw [fuse_Splits_c0.eq_1] at h
    refine AW.sr ?_
    refine AO.c (Calm.move rfl rfl) ?_
    refine AO.c (Calm.move rfl rfl) ?_
    refine AO.c (Calm.lenL rfl rfl Try.underlying53) ?_
    refine AO.c (x := eBool (decide (x8 = (p3.length : Int)))) (Calm.int rfl rfl rfl rfl) ?_
    refine AO.c (Calm.assign rfl rfl) ?_
    refine AO.nK [8] ?_
    refine AW.rK [8] ?_
    have hr := Option.some.inj h
    subst hr
    exact ⟨[(eBool (decide (x8 = (p3.length : Int))))], ⟨rfl, rfl, trivial⟩, rfl⟩
end Go.Avl.T5
/- bosket/fuse.Join; printed by avmain.py. -/
namespace Go.Avl.T5
open Go Go.RowKit Go.Proofs Go.Avl
set_option linter.unusedVariables false
set_option maxRecDepth 100000
set_option maxHeartbeats 4000000
attribute [local irreducible] AW AO AQ Spec SpecH Calm

def fuse_Join_c0 (k : Nat) (x4 : (List Int)) : Option ByteArray :=
  some ((strOfNums x4))
def fuse_Join_c1 (k : Nat) (rec8 : ((List Int) → Int → Option ByteArray)) (x7 : Int) (x12 : (List Int)) : Option ByteArray :=
  rec8 x12 (w64 (x7 + (1 : Int)))
def fuse_Join_l2 (k : Nat) (p0 : (List ByteArray)) (p1 : (List Bool)) : Nat → (List Int) → Int → Option ByteArray
  | 0, _, _ => none
  | j + 1, x6, x7 =>
    if x7 < (p0.length : Int) then if 0 ≤ x7 ∧ x7 < (p0.length : Int) then if (x6 ++ (lget p0 x7).data.toList.map fun b => (b.toNat : Int)).length * 1 ≤ 140737488355328 then Option.bind (α := Bool) (if x7 < (p1.length : Int) then if 0 ≤ x7 ∧ x7 < (p1.length : Int) then if (lget p1 x7) = true then some (decide (x7 < (w64 ((p0.length : Int) - (1 : Int)))))
    else some (false)
    else none
    else some (false)) fun b16 =>
    if b16 = true then if ((x6 ++ (lget p0 x7).data.toList.map fun b => (b.toNat : Int)) ++ ([(32 : Int)] : List Int)).length * 1 ≤ 140737488355328 then fuse_Join_c1 k (fuse_Join_l2 k p0 p1 j) x7 ((x6 ++ (lget p0 x7).data.toList.map fun b => (b.toNat : Int)) ++ ([(32 : Int)] : List Int))
    else none
    else fuse_Join_c1 k (fuse_Join_l2 k p0 p1 j) x7 (x6 ++ (lget p0 x7).data.toList.map fun b => (b.toNat : Int))
    else none
    else none
    else fuse_Join_c0 k x6
def fuse_Join (k : Nat) (p0 : (List ByteArray)) (p1 : (List Bool)) : Option ByteArray :=
  fuse_Join_l2 k p0 p1 k ([] : List Int) (0 : Int)
theorem fuse_Join_spec {k : Nat} {p0 : (List ByteArray)} {p1 : (List Bool)} {r : ByteArray} (h : fuse_Join k p0 p1 = some r) : Spec Try.prog 31 [(.fz 1 (p0.map eStr)), (.fz 1 (p1.map eBool))] (eStr r) := by
  rw [fuse_Join.eq_1] at h
  refine Spec.intro (res := [.tmp 4]) Try.func31 rfl rfl rfl (Nat.le_of_ble_eq_true rfl) ?_
  refine AW.sr ?_
  refine AO.c (Calm.assign rfl rfl) ?_
  refine AO.nK [0, 1] ?_
  refine AW.sr ?_
  refine AO.c (Calm.assign rfl rfl) ?_
  refine AO.nK [0, 1, 5] ?_
  refine AW.seq_mid (fun ρ H => ∃ (n3 : Nat) (x4 : (List Int)), ρ = [(5, (.own n3 0 x4.length))] ∧ H = [(n3, (.mem (.ar 1 (x4.map eU8))))] ∧ fuse_Join_c0 k x4 = some r) ?_ ?_
  ·refine AW.sr ?_
   refine AO.c (Calm.move rfl rfl) ?_
   refine AO.c (Calm.lenL rfl rfl Try.underlying53) ?_
   refine AO.c (Calm.move rfl rfl) ?_
   refine AO.nK [0, 1, 5, 8, 9, 10] ?_
   refine AW.block ?_
   refine AW.nilOwn 5 1 rfl fun n25 => ?_
   refine AW.wK [0, 1, 5, 8, 9, 10] ?_
   refine AW.loop (fun kq ρ H => ∃ (n5 : Nat) (x6 : (List Int)) (x7 : Int), ρ = [(0, (.fz 1 (p0.map eStr))), (1, (.fz 1 (p1.map eBool))), (5, (.own n5 0 x6.length)), (8, (.fz 1 (p0.map eStr))), (9, (eI64 (p0.length : Int))), (10, (eI64 x7))] ∧ H = [(n5, (.mem (.ar 1 (x6.map eU8))))] ∧ fuse_Join_l2 k p0 p1 kq x6 x7 = some r) k ⟨n25, ([] : List Int), (0 : Int), rfl, rfl, h⟩ ?_
   rintro kq9 _ _ ⟨n5, x6, x7, rfl, rfl, h⟩
   cases kq9 with
   | zero => rw [fuse_Join_l2.eq_1] at h; cases h
   | succ kq9 =>
   rw [fuse_Join_l2.eq_2] at h
   generalize hrec8 : fuse_Join_l2 k p0 p1 kq9 = rec8 at h
   refine AW.sr ?_
   refine AO.c (x := eBool (decide (x7 < (p0.length : Int)))) (Calm.int rfl rfl rfl rfl) ?_
   refine AO.nK [0, 1, 5, 8, 9, 10, 11] ?_
   refine AW.seq ?_
   rcases of_ite h with ⟨hc10, h⟩ | ⟨hc10, h⟩
   ·refine AW.condP _ rfl hc10 ?_
    refine AW.sK [0, 1, 5, 8, 9, 10] ?_
    refine AW.seq_mid (fun ρ H => ∃ (n11 : Nat) (x12 : (List Int)), ρ = [(0, (.fz 1 (p0.map eStr))), (1, (.fz 1 (p1.map eBool))), (5, (.own n11 0 x12.length)), (8, (.fz 1 (p0.map eStr))), (9, (eI64 (p0.length : Int))), (10, (eI64 x7))] ∧ H = [(n11, (.mem (.ar 1 (x12.map eU8))))] ∧ fuse_Join_c1 k rec8 x7 x12 = some r) ?_ ?_
    ·refine AW.block ?_
     refine AW.sr ?_
     refine AO.c (Calm.move rfl rfl) ?_
     obtain ⟨hg13, h⟩ := of_guard h
     refine AO.c (Calm.idxL (f := eStr) rfl rfl rfl hg13 Try.underlying53 sz9) ?_
     refine AO.c (Calm.loadRp rfl rfl ag9 sz9) ?_
     refine AO.c (Calm.assign rfl rfl) ?_
     refine AO.c (Calm.assign rfl rfl) ?_
     refine AO.nK [0, 1, 5, 6, 7, 8, 9, 10] ?_
     refine AW.sr ?_
     refine AO.c (Calm.move rfl rfl) ?_
     refine AO.c (Calm.move rfl rfl) ?_
     obtain ⟨hg15, h⟩ := of_guard h
     refine AO.appendStrL 0 17 rfl (by decide) rfl rfl rfl rfl rfl Try.underlying77 Try.underlying9 sz5 by5 zr5 rfl hg15 (by decide) fun n14 => ?_
     refine AO.c (Calm.assign rfl rfl) ?_
     refine AO.nK [0, 1, 5, 6, 8, 9, 10] ?_
     refine AW.seq ?_
     obtain ⟨b16, hq17, h⟩ := of_bind h
     refine AW.regM [(0, (.fz 1 (p0.map eStr))), (1, (.fz 1 (p1.map eBool))), (5, (.own n14 0 (x6 ++ (lget p0 x7).data.toList.map fun b => (b.toNat : Int)).length)), (8, (.fz 1 (p0.map eStr))), (9, (eI64 (p0.length : Int))), (10, (eI64 x7)), (34, (eBool b16))] [(n14, (.mem (.ar 1 ((x6 ++ (lget p0 x7).data.toList.map fun b => (b.toNat : Int)).map eU8))))] ?_ ?_
     ·refine AO.c (Calm.move rfl rfl) ?_
      refine AO.c (Calm.move rfl rfl) ?_
      refine AO.c (Calm.lenL rfl rfl Try.underlying49) ?_
      refine AO.c (x := eBool (decide (x7 < (p1.length : Int)))) (Calm.int rfl rfl rfl rfl) ?_
      refine AO.c (Calm.move rfl rfl) ?_
      rcases of_ite hq17 with ⟨hc18, hq17⟩ | ⟨hc18, hq17⟩
      ·refine AO.cG rfl rfl (bD (decide_eq_true hc18)) (Calm.move rfl rfl) ?_
       refine AO.cG rfl rfl (bD (decide_eq_true hc18)) (Calm.move rfl rfl) ?_
       obtain ⟨hg19, hq17⟩ := of_guard hq17
       refine AO.cG rfl rfl (bD (decide_eq_true hc18)) (Calm.idxL (f := eBool) rfl rfl rfl hg19 Try.underlying49 sz4) ?_
       refine AO.cG rfl rfl (bD (decide_eq_true hc18)) (Calm.loadRp rfl rfl ag4 sz4) ?_
       refine AO.c (Calm.pickT rfl (bD (decide_eq_true hc18)) rfl) ?_
       refine AO.c (Calm.move rfl rfl) ?_
       rcases of_ite hq17 with ⟨hc20, hq17⟩ | ⟨hc20, hq17⟩
       ·refine AO.cG rfl rfl (bD hc20) (Calm.move rfl rfl) ?_
        refine AO.cG rfl rfl (bD hc20) (Calm.move rfl rfl) ?_
        refine AO.cG rfl rfl (bD hc20) (Calm.lenL rfl rfl Try.underlying53) ?_
        refine AO.cG (x := eI64 (w64 ((p0.length : Int) - (1 : Int)))) rfl rfl (bD hc20) (Calm.int rfl rfl rfl rfl) ?_
        refine AO.cG (x := eBool (decide (x7 < (w64 ((p0.length : Int) - (1 : Int)))))) rfl rfl (bD hc20) (Calm.int rfl rfl rfl rfl) ?_
        refine AO.c (Calm.pickT rfl (bD hc20) rfl) ?_
        cases hq17
        refine AO.nilE ⟨rfl, rfl⟩ ?_ ?_
        · exact ⟨rfl, rfl, rfl, rfl, rfl, rfl, rfl, trivial⟩
        · exact (Sub.refl _)
       ·refine AO.sT rfl rfl (bD (eq_false_of_ne_true hc20)) ?_
        refine AO.sT rfl rfl (bD (eq_false_of_ne_true hc20)) ?_
        refine AO.sT rfl rfl (bD (eq_false_of_ne_true hc20)) ?_
        refine AO.sT rfl rfl (bD (eq_false_of_ne_true hc20)) ?_
        refine AO.sT rfl rfl (bD (eq_false_of_ne_true hc20)) ?_
        refine AO.c (Calm.pickF rfl (bD (eq_false_of_ne_true hc20)) rfl) ?_
        cases hq17
        refine AO.nilE ⟨rfl, rfl⟩ ?_ ?_
        · exact ⟨rfl, rfl, rfl, rfl, rfl, rfl, rfl, trivial⟩
        · exact (Sub.refl _)
      ·refine AO.sT rfl rfl (bD (decide_eq_false hc18)) ?_
       refine AO.sT rfl rfl (bD (decide_eq_false hc18)) ?_
       refine AO.sT rfl rfl (bD (decide_eq_false hc18)) ?_
       refine AO.sT rfl rfl (bD (decide_eq_false hc18)) ?_
       refine AO.c (Calm.pickF rfl (bD (decide_eq_false hc18)) rfl) ?_
       refine AO.c (Calm.move rfl rfl) ?_
       refine AO.sT rfl rfl rfl ?_
       refine AO.sT rfl rfl rfl ?_
       refine AO.sT rfl rfl rfl ?_
       refine AO.sT rfl rfl rfl ?_
       refine AO.sT rfl rfl rfl ?_
       refine AO.c (Calm.pickF rfl rfl rfl) ?_
       cases hq17
       refine AO.nilE ⟨rfl, rfl⟩ ?_ ?_
       · exact ⟨rfl, rfl, rfl, rfl, rfl, rfl, rfl, trivial⟩
       · exact (Sub.refl _)
     ·rcases of_ite h with ⟨hc21, h⟩ | ⟨hc21, h⟩
      ·refine AW.condT' _ rfl hc21 ?_
       refine AW.reg ?_
       refine AO.c (Calm.move rfl rfl) ?_
       refine AO.lit (Z := (eU8 (0 : Int))) (xs := (([(32 : Int)] : List Int).map eU8)) (qs := [(0, (eU8 (32 : Int)))]) rfl 36 rfl (by decide) rfl ⟨rfl, rfl, rfl, trivial⟩ Try.underlying77 sz5 zr5 lay5 rfl (by decide) (litOK (z := 1) [(eU8 (32 : Int))] rfl ⟨⟨rfl, rfl⟩, trivial⟩) rfl fun n22 => ?_
       obtain ⟨hg24, h⟩ := of_guard h
       refine AO.appendL (l := (x6 ++ (lget p0 x7).data.toList.map fun b => (b.toNat : Int))) (m := ([(32 : Int)] : List Int)) 1 37 rfl (by decide) rfl rfl rfl rfl rfl (Src.ownL (f := eU8) (l := ([(32 : Int)] : List Int)) 0 rfl) Try.underlying77 Try.underlying77 sz5 by5 zr5 rfl hg24 (by decide) fun n23 => ?_
       refine AO.c (Calm.assign rfl rfl) ?_
       refine AO.nH [0, 1, 5, 8, 9, 10] (H' := [(n23, (.mem (.ar 1 (((x6 ++ (lget p0 x7).data.toList.map fun b => (b.toNat : Int)) ++ ([(32 : Int)] : List Int)).map eU8))))]) (Sub.cons 1 rfl (Sub.nil _)) ?_
       exact ⟨n23, ((x6 ++ (lget p0 x7).data.toList.map fun b => (b.toNat : Int)) ++ ([(32 : Int)] : List Int)), rfl, rfl, h⟩
      ·refine AW.condF' _ rfl hc21 ?_
       refine AW.sK [0, 1, 5, 8, 9, 10] ?_
       exact ⟨n14, (x6 ++ (lget p0 x7).data.toList.map fun b => (b.toNat : Int)), rfl, rfl, h⟩
    ·rintro _ _ ⟨n11, x12, rfl, rfl, h⟩
     rw [fuse_Join_c1.eq_1] at h
     refine AW.reg ?_
     refine AO.c (x := eI64 (w64 (x7 + (1 : Int)))) (Calm.int rfl rfl rfl rfl) ?_
     refine AO.c (Calm.move rfl rfl) ?_
     refine AO.nK [0, 1, 5, 8, 9, 10] ?_
     exact ⟨kq9, Nat.lt_succ_self _, n11, x12, (w64 (x7 + (1 : Int))), rfl, rfl, by rw [hrec8]; exact h⟩
   ·refine AW.condN _ rfl hc10 ?_
    refine AW.eK [5] ?_
    exact ⟨n5, x6, rfl, rfl, h⟩
  ·rintro _ _ ⟨n3, x4, rfl, rfl, h⟩
   rw [fuse_Join_c0.eq_1] at h
   refine AW.sr ?_
   refine AO.c (Calm.move rfl rfl) ?_
   refine AO.c (x := eStr (strOfNums x4)) (Calm.strO 0 rfl rfl rfl Try.underlying77 Try.underlying9 Try.underlying5) ?_
   refine AO.c (Calm.assign rfl rfl) ?_
   refine AO.nH [4] (H' := []) (Sub.nil _) ?_
   refine AW.rK [4] ?_
   have hr := Option.some.inj h
   subst hr
   exact ⟨[(eStr (strOfNums x4))], ⟨rfl, rfl, trivial⟩, rfl⟩
end Go.Avl.T5
/- bosket/bosketref15.Splits; printed by avmain.py. -/
namespace Go.Avl.T5
open Go Go.RowKit Go.Proofs Go.Avl
set_option linter.unusedVariables false
set_option maxRecDepth 100000
set_option maxHeartbeats 4000000
attribute [local irreducible] AW AO AQ Spec SpecH Calm

def bosketref15_Splits_c0 (k : Nat) (b12 : Bool) : Option Bool :=
  some (b12)
def bosketref15_Splits_l1 (k : Nat) (p3 : (List ByteArray)) (x8 : (List ByteArray)) : Nat → Bool → Int → Option Bool
  | 0, _, _ => none
  | j + 1, b13, x14 =>
    Option.bind (α := Bool) (if x14 < (x8.length : Int) then some (b13)
    else some (false)) fun b17 =>
    if b17 = true then if 0 ≤ x14 ∧ x14 < (x8.length : Int) then if 0 ≤ x14 ∧ x14 < (p3.length : Int) then (bosketref15_Splits_l1 k p3 x8 j) (decide ((lget x8 x14) = (lget p3 x14))) (w64 (x14 + (1 : Int)))
    else none
    else none
    else bosketref15_Splits_c0 k b13
def bosketref15_Splits_c2 (k : Nat) (p3 : (List ByteArray)) (t6 : ((List S96) × Int × Bool)) (x8 : (List ByteArray)) : Option Bool :=
  Option.bind (α := Bool) (if t6.2.2 = true then some (decide ((x8.length : Int) = (p3.length : Int)))
  else some (false)) fun b9 =>
  bosketref15_Splits_l1 k p3 x8 k b9 (0 : Int)
def bosketref15_Splits_c3 (k : Nat) (rec26 : ((List ByteArray) → Int → Option Bool)) (x25 : Int) (x30 : (List ByteArray)) : Option Bool :=
  rec26 x30 (w64 (x25 + (1 : Int)))
def bosketref15_Splits_l4 (k : Nat) (p1 : Int) (p3 : (List ByteArray)) (t6 : ((List S96) × Int × Bool)) : Nat → (List ByteArray) → Int → Option Bool
  | 0, _, _ => none
  | j + 1, x24, x25 =>
    if x25 < (t6.1.length : Int) then if 0 ≤ x25 ∧ x25 < (t6.1.length : Int) then if ((lget t6.1 x25).f0) ≠ p1 then if 0 ≤ x25 ∧ x25 < (t6.1.length : Int) then if (x24 ++ ([(lget t6.1 x25).f1] : List ByteArray)).length * 16 ≤ 140737488355328 then bosketref15_Splits_c3 k (bosketref15_Splits_l4 k p1 p3 t6 j) x25 (x24 ++ ([(lget t6.1 x25).f1] : List ByteArray))
    else none
    else none
    else bosketref15_Splits_c3 k (bosketref15_Splits_l4 k p1 p3 t6 j) x25 x24
    else none
    else bosketref15_Splits_c2 k p3 t6 x24
def bosketref15_Splits (k : Nat) (p0 : S30) (p1 : Int) (p2 : ByteArray) (p3 : (List ByteArray)) : Option Bool :=
  (bosketref12_All k p0 p2).bind fun t6 =>
  bosketref15_Splits_l4 k p1 p3 t6 k ([] : List ByteArray) (0 : Int)
end Go.Avl.T5
/- bosket/bosketref15.Join; printed by avmain.py. -/
namespace Go.Avl.T5
open Go Go.RowKit Go.Proofs Go.Avl
set_option linter.unusedVariables false
set_option maxRecDepth 100000
set_option maxHeartbeats 4000000
attribute [local irreducible] AW AO AQ Spec SpecH Calm

def bosketref15_Join_c0 (k : Nat) (x3 : ByteArray) : Option ByteArray :=
  some (x3)
def bosketref15_Join_c1 (k : Nat) (rec6 : (ByteArray → Int → Option ByteArray)) (x5 : Int) (x9 : ByteArray) : Option ByteArray :=
  rec6 x9 (w64 (x5 + (1 : Int)))
def bosketref15_Join_l2 (k : Nat) (p0 : (List ByteArray)) (p1 : (List Bool)) : Nat → ByteArray → Int → Option ByteArray
  | 0, _, _ => none
  | j + 1, x4, x5 =>
    if x5 < (p0.length : Int) then if 0 ≤ x5 ∧ x5 < (p0.length : Int) then if x4.size + (lget p0 x5).size ≤ 9223372036854775807 then Option.bind (α := Bool) (if (w64 (x5 + (1 : Int))) < (p0.length : Int) then if x5 < (p1.length : Int) then if 0 ≤ x5 ∧ x5 < (p1.length : Int) then some ((lget p1 x5))
    else none
    else some (false)
    else some (false)) fun b12 =>
    if b12 = true then if (x4 ++ (lget p0 x5)).size + (ByteArray.mk #[32]).size ≤ 9223372036854775807 then bosketref15_Join_c1 k (bosketref15_Join_l2 k p0 p1 j) x5 ((x4 ++ (lget p0 x5)) ++ (ByteArray.mk #[32]))
    else none
    else bosketref15_Join_c1 k (bosketref15_Join_l2 k p0 p1 j) x5 (x4 ++ (lget p0 x5))
    else none
    else none
    else bosketref15_Join_c0 k x4
def bosketref15_Join (k : Nat) (p0 : (List ByteArray)) (p1 : (List Bool)) : Option ByteArray :=
  bosketref15_Join_l2 k p0 p1 k (ByteArray.mk #[]) (0 : Int)
end Go.Avl.T5
