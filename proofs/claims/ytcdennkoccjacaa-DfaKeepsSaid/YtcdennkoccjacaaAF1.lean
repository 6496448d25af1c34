/- Parts: T3B, T3f44, T3f46, T3f10, T3f11, T3f15, T3f17, T3f12, T3f14, T3f16, T3f18, T3f19, T3f22, T3f50, T3f66, T3f49, T3f48, T3f23, T3f52, T3f53, T3f27, T3f35, T3f36. -/
import Derived.Test.YtcdennkoccjacaaAv3
import Derived.Test.YtcdennkoccjacaaProg
/- Types and facts; printed by avmain.py. -/
namespace Go.Avl.T3
open Go Go.RowKit Go.Proofs Go.Avl
set_option linter.unusedVariables false
set_option maxRecDepth 100000
set_option maxHeartbeats 4000000
abbrev e25 (l : List Bool) : AV := .fz 1 (l.map eBool)
abbrev e43 (l : List Int) : AV := .fz 1 (l.map eI64)
structure S50 where
  f0 : (Vector Int 256)
  f1 : (List (List Int))
  f2 : (List Int)
deriving Inhabited, DecidableEq
abbrev e50 (x : S50) : AV := .st [(256, (.ar 1 (x.f0.toList.map eU8))), (1, (.fz 1 (x.f1.map e43))), (1, (.fz 1 (x.f2.map eI64)))]
theorem sz3 : tySize Try.prog 3 = some 1 := by rfl
theorem ag3 : tyAgg Try.prog 3 = some false := by rfl
theorem sz4 : tySize Try.prog 4 = some 1 := by rfl
theorem by4 : tyBytes Try.prog 4 = some 1 := by rfl
theorem zr4 : tyZero Try.prog 4 = some ([.bool false]) := by rfl
theorem lay4 : ∀ g, Sim g (eBool false) ([.bool false]) := fun g => (lay_fl rfl)
theorem ag4 : tyAgg Try.prog 4 = some false := by rfl
theorem zr3 : tyZero Try.prog 3 = some ([.int .i64 0]) := by rfl
theorem lay3 : ∀ g, Sim g (eI64 (0 : Int)) ([.int .i64 0]) := fun g => (lay_fl rfl)
theorem by3 : tyBytes Try.prog 3 = some 8 := by rfl
theorem ag47 : tyAgg Try.prog 47 = some true := by rfl
theorem sz47 : tySize Try.prog 47 = some 256 := by rfl
theorem sz5 : tySize Try.prog 5 = some 1 := by rfl
theorem ag5 : tyAgg Try.prog 5 = some false := by rfl
theorem sz48 : tySize Try.prog 48 = some 1 := by rfl
theorem ag48 : tyAgg Try.prog 48 = some false := by rfl
theorem sz43 : tySize Try.prog 43 = some 1 := by rfl
theorem ag43 : tyAgg Try.prog 43 = some false := by rfl
theorem ok52 : FnOK Try.prog 52 := FnOK.mk Try.func52 rfl rfl
theorem ok53 : FnOK Try.prog 53 := FnOK.mk Try.func53 rfl rfl
theorem ag50 : tyAgg Try.prog 50 = some true := by rfl
theorem sz50 : tySize Try.prog 50 = some 258 := by rfl
theorem ok66 : FnOK Try.prog 66 := FnOK.mk Try.func66 rfl rfl
theorem ok47 : FnOK Try.prog 47 := FnOK.mk Try.func47 rfl rfl
theorem ok50 : FnOK Try.prog 50 := FnOK.mk Try.func50 rfl rfl
theorem zr43 : tyZero Try.prog 43 = some ([.slice none 0 0]) := by rfl
theorem lay43 : ∀ g, Sim g (.fl (.slice none 0 0)) ([.slice none 0 0]) := fun g => (lay_fl rfl)
theorem zr50 : tyZero Try.prog 50 = some (((List.replicate 256 (.int .u8 0)) ++ ([.slice none 0 0] ++ ([.slice none 0 0] ++ [])))) := by rfl
theorem lay50 : ∀ g, Sim g (.st [(256, (.ar 1 ((Vector.replicate 256 (0 : Int)).toList.map eU8))), (1, (.fl (.slice none 0 0))), (1, (.fl (.slice none 0 0)))]) (((List.replicate 256 (.int .u8 0)) ++ ([.slice none 0 0] ++ ([.slice none 0 0] ++ [])))) := fun g => (Sim.stCons (lay_vec1 (lay_fl rfl)) rfl (Sim.stCons (lay_fl rfl) rfl (Sim.stCons (lay_fl rfl) rfl Sim.stNil)))
theorem ok27 : FnOK Try.prog 27 := FnOK.mk Try.func27 rfl rfl
theorem ok24 : FnOK Try.prog 24 := FnOK.mk Try.func24 rfl rfl
theorem ok49 : FnOK Try.prog 49 := FnOK.mk Try.func49 rfl rfl
theorem ok48 : FnOK Try.prog 48 := FnOK.mk Try.func48 rfl rfl
theorem ok37 : FnOK Try.prog 37 := FnOK.mk Try.func37 rfl rfl
theorem ok51 : FnOK Try.prog 51 := FnOK.mk Try.func51 rfl rfl
theorem by43 : tyBytes Try.prog 43 = some 24 := by rfl
theorem ok36 : FnOK Try.prog 36 := FnOK.mk Try.func36 rfl rfl
theorem ok38 : FnOK Try.prog 38 := FnOK.mk Try.func38 rfl rfl
theorem ok54 : FnOK Try.prog 54 := FnOK.mk Try.func54 rfl rfl
theorem eqa47 (x y : (Vector Int 256)) : EqOK Try.prog 2 47 (.ar 1 (x.toList.map eU8)) (.ar 1 (y.toList.map eU8)) (decide (x = y)) := EqOK.vec (m := 1) Try.underlying47 (fun a b => EqOK.int Try.underlying5) (fun _ => ag5) (fun _ => sz5) (fun _ => rfl) (by rfl) ⟨_, rfl⟩ x y
theorem eg47 : Try.prog.eqGuardType Try.prog.depth 47 = false := by decide +kernel
theorem ok55 : FnOK Try.prog 55 := FnOK.mk Try.func55 rfl rfl
theorem ok21 : FnOK Try.prog 21 := FnOK.mk Try.func21 rfl rfl
theorem ok22 : FnOK Try.prog 22 := FnOK.mk Try.func22 rfl rfl
theorem ok23 : FnOK Try.prog 23 := FnOK.mk Try.func23 rfl rfl
theorem ok26 : FnOK Try.prog 26 := FnOK.mk Try.func26 rfl rfl
theorem ok25 : FnOK Try.prog 25 := FnOK.mk Try.func25 rfl rfl
theorem ok28 : FnOK Try.prog 28 := FnOK.mk Try.func28 rfl rfl
theorem ok29 : FnOK Try.prog 29 := FnOK.mk Try.func29 rfl rfl
theorem ag9 : tyAgg Try.prog 9 = some false := by rfl
end Go.Avl.T3
/- bosket/bosketref02.Has; printed by avmain.py. -/
namespace Go.Avl.T3
open Go Go.RowKit Go.Proofs Go.Avl
set_option linter.unusedVariables false
set_option maxRecDepth 100000
set_option maxHeartbeats 4000000
attribute [local irreducible] AW AO AQ Spec SpecH Calm

end Go.Avl.T3
/- bosket/byteset.Has; printed by avmain.py. -/
namespace Go.Avl.T3
open Go Go.RowKit Go.Proofs Go.Avl
set_option linter.unusedVariables false
set_option maxRecDepth 100000
set_option maxHeartbeats 4000000
attribute [local irreducible] AW AO AQ Spec SpecH Calm

end Go.Avl.T3
/- bosket/bosketref06.Right; printed by avmain.py. -/
namespace Go.Avl.T3
open Go Go.RowKit Go.Proofs Go.Avl
set_option linter.unusedVariables false
set_option maxRecDepth 100000
set_option maxHeartbeats 4000000
attribute [local irreducible] AW AO AQ Spec SpecH Calm

end Go.Avl.T3
/- bosket/nfa.Right; printed by avmain.py. -/
namespace Go.Avl.T3
open Go Go.RowKit Go.Proofs Go.Avl
set_option linter.unusedVariables false
set_option maxRecDepth 100000
set_option maxHeartbeats 4000000
attribute [local irreducible] AW AO AQ Spec SpecH Calm

end Go.Avl.T3
/- bosket/nfa.Close; printed by avmain.py. -/
namespace Go.Avl.T3
open Go Go.RowKit Go.Proofs Go.Avl
set_option linter.unusedVariables false
set_option maxRecDepth 100000
set_option maxHeartbeats 4000000
attribute [local irreducible] AW AO AQ Spec SpecH Calm

end Go.Avl.T3
/- bosket/nfa.Move; printed by avmain.py. -/
namespace Go.Avl.T3
open Go Go.RowKit Go.Proofs Go.Avl
set_option linter.unusedVariables false
set_option maxRecDepth 100000
set_option maxHeartbeats 4000000
attribute [local irreducible] AW AO AQ Spec SpecH Calm

end Go.Avl.T3
/- bosket/nfa.Has; printed by avmain.py. -/
namespace Go.Avl.T3
open Go Go.RowKit Go.Proofs Go.Avl
set_option linter.unusedVariables false
set_option maxRecDepth 100000
set_option maxHeartbeats 4000000
attribute [local irreducible] AW AO AQ Spec SpecH Calm

end Go.Avl.T3
/- bosket/bosketref06.Same; printed by avmain.py. -/
namespace Go.Avl.T3
open Go Go.RowKit Go.Proofs Go.Avl
set_option linter.unusedVariables false
set_option maxRecDepth 100000
set_option maxHeartbeats 4000000
attribute [local irreducible] AW AO AQ Spec SpecH Calm

end Go.Avl.T3
/- bosket/bosketref06.Close; printed by avmain.py. -/
namespace Go.Avl.T3
open Go Go.RowKit Go.Proofs Go.Avl
set_option linter.unusedVariables false
set_option maxRecDepth 100000
set_option maxHeartbeats 4000000
attribute [local irreducible] AW AO AQ Spec SpecH Calm

end Go.Avl.T3
/- bosket/bosketref06.Move; printed by avmain.py. -/
namespace Go.Avl.T3
open Go Go.RowKit Go.Proofs Go.Avl
set_option linter.unusedVariables false
set_option maxRecDepth 100000
set_option maxHeartbeats 4000000
attribute [local irreducible] AW AO AQ Spec SpecH Calm

end Go.Avl.T3
/- bosket/bosketref06.Run; printed by avmain.py. -/
namespace Go.Avl.T3
open Go Go.RowKit Go.Proofs Go.Avl
set_option linter.unusedVariables false
set_option maxRecDepth 100000
set_option maxHeartbeats 4000000
attribute [local irreducible] AW AO AQ Spec SpecH Calm

end Go.Avl.T3
/- bosket/bosketlaw08.Small; printed by avmain.py. -/
namespace Go.Avl.T3
open Go Go.RowKit Go.Proofs Go.Avl
set_option linter.unusedVariables false
set_option maxRecDepth 100000
set_option maxHeartbeats 4000000
attribute [local irreducible] AW AO AQ Spec SpecH Calm

def bosketlaw08_Small_c0 (k : Nat) : Option Bool :=
  some (true)
def bosketlaw08_Small_l1 (k : Nat) (p0 : S50) : Nat → Int → Option Bool
  | 0, _ => none
  | j + 1, x7 =>
    if x7 < (p0.f1.length : Int) then if 0 ≤ x7 ∧ x7 < (p0.f1.length : Int) then if (256 : Int) < ((lget p0.f1 x7).length : Int) then some (false)
    else (bosketlaw08_Small_l1 k p0 j) (w64 (x7 + (1 : Int)))
    else none
    else bosketlaw08_Small_c0 k
def bosketlaw08_Small (k : Nat) (p0 : S50) : Option Bool :=
  Option.bind (α := Bool) (if (20 : Int) < (p0.f1.length : Int) then some (true)
  else some (decide ((30 : Int) < (p0.f2.length : Int)))) fun b3 =>
  if b3 = true then some (false)
  else bosketlaw08_Small_l1 k p0 k (0 : Int)
theorem bosketlaw08_Small_spec {k : Nat} {p0 : S50} {r : Bool} (h : bosketlaw08_Small k p0 = some r) : Spec Try.prog 22 [(e50 p0)] (eBool r) := by
  rw [bosketlaw08_Small.eq_1] at h
  refine Spec.intro (res := [.tmp 2]) Try.func22 rfl rfl rfl (Nat.le_of_ble_eq_true rfl) ?_
  refine AW.sr ?_
  refine AO.box rfl 1 rfl (by decide) rfl rfl rfl fun n2 => ?_
  refine AO.c (Calm.assign rfl rfl) ?_
  refine AO.nK [1] ?_
  refine AW.seq ?_
  refine AW.seq ?_
  obtain ⟨b3, hq4, h⟩ := of_bind h
  refine AW.regM [(1, (.ptr n2 0)), (13, (eBool b3))] [(n2, (.mem (e50 p0)))] ?_ ?_
  ·refine AO.c (x := .ptr n2 256) (Calm.fldPtr rfl rfl Try.underlying50 rfl sz48 _ rfl) ?_
   refine AO.c (Calm.load 0 rfl rfl rfl (At.cast (At.fldS (At.fld0 At.here)) rfl) ag48 sz48) ?_
   refine AO.c (Calm.lenL rfl rfl Try.underlying48) ?_
   refine AO.c (x := eBool (decide ((20 : Int) < (p0.f1.length : Int)))) (Calm.int rfl rfl rfl rfl) ?_
   refine AO.c (Calm.move rfl rfl) ?_
   rcases of_ite hq4 with ⟨hc5, hq4⟩ | ⟨hc5, hq4⟩
   ·refine AO.sF rfl rfl (bD (decide_eq_true hc5)) ?_
    refine AO.sF rfl rfl (bD (decide_eq_true hc5)) ?_
    refine AO.sF rfl rfl (bD (decide_eq_true hc5)) ?_
    refine AO.sF rfl rfl (bD (decide_eq_true hc5)) ?_
    refine AO.c (Calm.pickT rfl (bD (decide_eq_true hc5)) rfl) ?_
    cases hq4
    refine AO.nilE ⟨rfl, rfl⟩ ?_ ?_
    · exact ⟨rfl, rfl, trivial⟩
    · exact (Sub.refl _)
   ·refine AO.cG (x := .ptr n2 257) rfl rfl (bD (decide_eq_false hc5)) (Calm.fldPtr rfl rfl Try.underlying50 rfl sz43 _ rfl) ?_
    refine AO.cG rfl rfl (bD (decide_eq_false hc5)) (Calm.load 0 rfl rfl rfl (At.cast (At.fldS (At.fldS (At.fld0 At.here))) rfl) ag43 sz43) ?_
    refine AO.cG rfl rfl (bD (decide_eq_false hc5)) (Calm.lenL rfl rfl Try.underlying43) ?_
    refine AO.cG (x := eBool (decide ((30 : Int) < (p0.f2.length : Int)))) rfl rfl (bD (decide_eq_false hc5)) (Calm.int rfl rfl rfl rfl) ?_
    refine AO.c (Calm.pickF rfl (bD (decide_eq_false hc5)) rfl) ?_
    cases hq4
    refine AO.nilE ⟨rfl, rfl⟩ ?_ ?_
    · exact ⟨rfl, rfl, trivial⟩
    · exact (Sub.refl _)
  ·rcases of_ite h with ⟨hc6, h⟩ | ⟨hc6, h⟩
   ·refine AW.condT' _ rfl hc6 ?_
    refine AW.sr ?_
    refine AO.c (Calm.assign rfl rfl) ?_
    refine AO.nH [2] (H' := []) (Sub.nil _) ?_
    refine AW.rK [2] ?_
    have hr := Option.some.inj h
    subst hr
    exact ⟨[(eBool false)], ⟨rfl, rfl, trivial⟩, rfl⟩
   ·refine AW.condF' _ rfl hc6 ?_
    refine AW.sK [1] ?_
    refine AW.seq_mid (fun ρ H => ρ = [] ∧ H = [] ∧ bosketlaw08_Small_c0 k = some r) ?_ ?_
    ·refine AW.sr ?_
     refine AO.c (Calm.assign rfl rfl) ?_
     refine AO.nK [1, 3] ?_
     refine AW.block ?_
     refine AW.wK [1, 3] ?_
     refine AW.loop (fun kq ρ H => ∃ (x7 : Int), ρ = [(1, (.ptr n2 0)), (3, (eI64 x7))] ∧ H = [(n2, (.mem (e50 p0)))] ∧ bosketlaw08_Small_l1 k p0 kq x7 = some r) k ⟨(0 : Int), rfl, rfl, h⟩ ?_
     rintro kq9 _ _ ⟨x7, rfl, rfl, h⟩
     cases kq9 with
     | zero => rw [bosketlaw08_Small_l1.eq_1] at h; cases h
     | succ kq9 =>
     rw [bosketlaw08_Small_l1.eq_2] at h
     generalize hrec8 : bosketlaw08_Small_l1 k p0 kq9 = rec8 at h
     refine AW.seq ?_
     refine AW.sr ?_
     refine AO.c (Calm.move rfl rfl) ?_
     refine AO.c (x := .ptr n2 256) (Calm.fldPtr rfl rfl Try.underlying50 rfl sz48 _ rfl) ?_
     refine AO.c (Calm.load 0 rfl rfl rfl (At.cast (At.fldS (At.fld0 At.here)) rfl) ag48 sz48) ?_
     refine AO.c (Calm.lenL rfl rfl Try.underlying48) ?_
     refine AO.c (x := eBool (decide (x7 < (p0.f1.length : Int)))) (Calm.int rfl rfl rfl rfl) ?_
     refine AO.nK [1, 3, 18] ?_
     rcases of_ite h with ⟨hc10, h⟩ | ⟨hc10, h⟩
     ·refine AW.condP _ rfl hc10 ?_
      refine AW.sK [1, 3] ?_
      refine AW.seq ?_
      refine AW.block ?_
      refine AW.sr ?_
      refine AO.c (x := .ptr n2 256) (Calm.fldPtr rfl rfl Try.underlying50 rfl sz48 _ rfl) ?_
      refine AO.c (Calm.load 0 rfl rfl rfl (At.cast (At.fldS (At.fld0 At.here)) rfl) ag48 sz48) ?_
      refine AO.c (Calm.move rfl rfl) ?_
      obtain ⟨hg11, h⟩ := of_guard h
      refine AO.c (Calm.idxL (f := e43) rfl rfl rfl hg11 Try.underlying48 sz43) ?_
      refine AO.c (Calm.loadRp rfl rfl ag43 sz43) ?_
      refine AO.c (Calm.lenL rfl rfl Try.underlying43) ?_
      refine AO.c (x := eBool (decide ((256 : Int) < ((lget p0.f1 x7).length : Int)))) (Calm.int rfl rfl rfl rfl) ?_
      refine AO.nK [1, 3, 27] ?_
      rcases of_ite h with ⟨hc12, h⟩ | ⟨hc12, h⟩
      ·refine AW.condP _ rfl hc12 ?_
       refine AW.sr ?_
       refine AO.c (Calm.assign rfl rfl) ?_
       refine AO.nH [2] (H' := []) (Sub.nil _) ?_
       refine AW.rK [2] ?_
       have hr := Option.some.inj h
       subst hr
       exact ⟨[(eBool false)], ⟨rfl, rfl, trivial⟩, rfl⟩
      ·refine AW.condN _ rfl hc12 ?_
       refine AW.sK [1, 3] ?_
       refine AW.reg ?_
       refine AO.c (Calm.move rfl rfl) ?_
       refine AO.c (x := eI64 (w64 (x7 + (1 : Int)))) (Calm.int rfl rfl rfl rfl) ?_
       refine AO.c (Calm.assign rfl rfl) ?_
       refine AO.nK [1, 3] ?_
       exact ⟨kq9, Nat.lt_succ_self _, (w64 (x7 + (1 : Int))), rfl, rfl, by rw [hrec8]; exact h⟩
     ·refine AW.condN _ rfl hc10 ?_
      refine AW.eH [] (H' := []) (Sub.nil _) ?_
      exact ⟨rfl, rfl, h⟩
    ·rintro _ _ ⟨rfl, rfl, h⟩
     rw [bosketlaw08_Small_c0.eq_1] at h
     refine AW.sr ?_
     refine AO.c (Calm.assign rfl rfl) ?_
     refine AO.nK [2] ?_
     refine AW.rK [2] ?_
     have hr := Option.some.inj h
     subst hr
     exact ⟨[(eBool true)], ⟨rfl, rfl, trivial⟩, rfl⟩
end Go.Avl.T3
/- bosket/dfa.Mark; printed by avmain.py. -/
namespace Go.Avl.T3
open Go Go.RowKit Go.Proofs Go.Avl
set_option linter.unusedVariables false
set_option maxRecDepth 100000
set_option maxHeartbeats 4000000
attribute [local irreducible] AW AO AQ Spec SpecH Calm

def dfa_Mark (k : Nat) (p0 : S50) (p1 : Int) : Option Int :=
  Option.bind (α := Bool) (if p1 < (0 : Int) then some (true)
  else some (decide ((p0.f2.length : Int) ≤ p1))) fun b4 =>
  if b4 = true then some ((-1 : Int))
  else if 0 ≤ p1 ∧ p1 < (p0.f2.length : Int) then some ((lget p0.f2 p1))
  else none
theorem dfa_Mark_spec {k : Nat} {p0 : S50} {p1 : Int} {r : Int} (h : dfa_Mark k p0 p1 = some r) : Spec Try.prog 50 [(e50 p0), (eI64 p1)] (eI64 r) := by
  rw [dfa_Mark.eq_1] at h
  refine Spec.intro (res := [.tmp 4]) Try.func50 rfl rfl rfl (Nat.le_of_ble_eq_true rfl) ?_
  refine AW.sr ?_
  refine AO.box rfl 2 rfl (by decide) rfl rfl rfl fun n3 => ?_
  refine AO.c (Calm.assign rfl rfl) ?_
  refine AO.nK [1, 2] ?_
  refine AW.seq ?_
  refine AW.seq ?_
  obtain ⟨b4, hq5, h⟩ := of_bind h
  refine AW.regM [(1, (eI64 p1)), (2, (.ptr n3 0)), (13, (eBool b4))] [(n3, (.mem (e50 p0)))] ?_ ?_
  ·refine AO.c (Calm.move rfl rfl) ?_
   refine AO.c (x := eBool (decide (p1 < (0 : Int)))) (Calm.int rfl rfl rfl rfl) ?_
   refine AO.c (Calm.move rfl rfl) ?_
   rcases of_ite hq5 with ⟨hc6, hq5⟩ | ⟨hc6, hq5⟩
   ·refine AO.sF rfl rfl (bD (decide_eq_true hc6)) ?_
    refine AO.sF rfl rfl (bD (decide_eq_true hc6)) ?_
    refine AO.sF rfl rfl (bD (decide_eq_true hc6)) ?_
    refine AO.sF rfl rfl (bD (decide_eq_true hc6)) ?_
    refine AO.sF rfl rfl (bD (decide_eq_true hc6)) ?_
    refine AO.c (Calm.pickT rfl (bD (decide_eq_true hc6)) rfl) ?_
    cases hq5
    refine AO.nilE ⟨rfl, rfl⟩ ?_ ?_
    · exact ⟨rfl, rfl, rfl, trivial⟩
    · exact (Sub.refl _)
   ·refine AO.cG rfl rfl (bD (decide_eq_false hc6)) (Calm.move rfl rfl) ?_
    refine AO.cG (x := .ptr n3 257) rfl rfl (bD (decide_eq_false hc6)) (Calm.fldPtr rfl rfl Try.underlying50 rfl sz43 _ rfl) ?_
    refine AO.cG rfl rfl (bD (decide_eq_false hc6)) (Calm.load 0 rfl rfl rfl (At.cast (At.fldS (At.fldS (At.fld0 At.here))) rfl) ag43 sz43) ?_
    refine AO.cG rfl rfl (bD (decide_eq_false hc6)) (Calm.lenL rfl rfl Try.underlying43) ?_
    refine AO.cG (x := eBool (decide ((p0.f2.length : Int) ≤ p1))) rfl rfl (bD (decide_eq_false hc6)) (Calm.int rfl rfl rfl rfl) ?_
    refine AO.c (Calm.pickF rfl (bD (decide_eq_false hc6)) rfl) ?_
    cases hq5
    refine AO.nilE ⟨rfl, rfl⟩ ?_ ?_
    · exact ⟨rfl, rfl, rfl, trivial⟩
    · exact (Sub.refl _)
  ·rcases of_ite h with ⟨hc7, h⟩ | ⟨hc7, h⟩
   ·refine AW.condT' _ rfl hc7 ?_
    refine AW.sr ?_
    refine AO.c (Calm.assign rfl rfl) ?_
    refine AO.nH [4] (H' := []) (Sub.nil _) ?_
    refine AW.rK [4] ?_
    have hr := Option.some.inj h
    subst hr
    exact ⟨[(eI64 (-1 : Int))], ⟨rfl, rfl, trivial⟩, rfl⟩
   ·refine AW.condF' _ rfl hc7 ?_
    refine AW.sK [1, 2] ?_
    refine AW.sr ?_
    refine AO.c (x := .ptr n3 257) (Calm.fldPtr rfl rfl Try.underlying50 rfl sz43 _ rfl) ?_
    refine AO.c (Calm.load 0 rfl rfl rfl (At.cast (At.fldS (At.fldS (At.fld0 At.here))) rfl) ag43 sz43) ?_
    refine AO.c (Calm.move rfl rfl) ?_
    obtain ⟨hg8, h⟩ := of_guard h
    refine AO.c (Calm.idxL (f := eI64) rfl rfl rfl hg8 Try.underlying43 sz3) ?_
    refine AO.c (Calm.loadRp rfl rfl ag3 sz3) ?_
    refine AO.c (Calm.assign rfl rfl) ?_
    refine AO.nH [4] (H' := []) (Sub.nil _) ?_
    refine AW.rK [4] ?_
    have hr := Option.some.inj h
    subst hr
    exact ⟨[(eI64 (lget p0.f2 p1))], ⟨rfl, rfl, trivial⟩, rfl⟩
end Go.Avl.T3
/- bosket/dfa.Step; printed by avmain.py. -/
namespace Go.Avl.T3
open Go Go.RowKit Go.Proofs Go.Avl
set_option linter.unusedVariables false
set_option maxRecDepth 100000
set_option maxHeartbeats 4000000
attribute [local irreducible] AW AO AQ Spec SpecH Calm

def dfa_Step (k : Nat) (p0 : S50) (p1 : Int) (p2 : Int) : Option Int :=
  Option.bind (α := Bool) (if p1 < (0 : Int) then some (true)
  else if (p0.f1.length : Int) ≤ p1 then some (true)
  else if 0 ≤ p2 ∧ p2 < (256 : Int) then if 0 ≤ p1 ∧ p1 < (p0.f1.length : Int) then some (decide (((lget p0.f1 p1).length : Int) ≤ (w64 (vget p0.f0 p2))))
  else none
  else none) fun b5 =>
  if b5 = true then some ((-1 : Int))
  else if 0 ≤ p1 ∧ p1 < (p0.f1.length : Int) then if 0 ≤ p2 ∧ p2 < (256 : Int) then if 0 ≤ (vget p0.f0 p2) ∧ (vget p0.f0 p2) < ((lget p0.f1 p1).length : Int) then some ((lget (lget p0.f1 p1) (vget p0.f0 p2)))
  else none
  else none
  else none
theorem dfa_Step_spec {k : Nat} {p0 : S50} {p1 : Int} {p2 : Int} {r : Int} (h : dfa_Step k p0 p1 p2 = some r) : Spec Try.prog 66 [(e50 p0), (eI64 p1), (eU8 p2)] (eI64 r) := by
  rw [dfa_Step.eq_1] at h
  refine Spec.intro (res := [.tmp 6]) Try.func66 rfl rfl rfl (Nat.le_of_ble_eq_true rfl) ?_
  refine AW.sr ?_
  refine AO.box rfl 3 rfl (by decide) rfl rfl rfl fun n4 => ?_
  refine AO.c (Calm.assign rfl rfl) ?_
  refine AO.nK [1, 2, 3] ?_
  refine AW.seq ?_
  refine AW.seq ?_
  obtain ⟨b5, hq6, h⟩ := of_bind h
  refine AW.regQM (by rfl) (by decide +kernel) [(1, (eI64 p1)), (2, (eU8 p2)), (3, (.ptr n4 0)), (29, (eBool b5))] ?_ ?_
  ·refine AQ.c (Calm.move rfl rfl) ?_
   refine AQ.c (x := eBool (decide (p1 < (0 : Int)))) (Calm.int rfl rfl rfl rfl) ?_
   refine AQ.c (Calm.move rfl rfl) ?_
   rcases of_ite hq6 with ⟨hc7, hq6⟩ | ⟨hc7, hq6⟩
   ·refine AQ.sF rfl rfl (bD (decide_eq_true hc7)) ?_
    refine AQ.sF rfl rfl (bD (decide_eq_true hc7)) ?_
    refine AQ.sF rfl rfl (bD (decide_eq_true hc7)) ?_
    refine AQ.sF rfl rfl (bD (decide_eq_true hc7)) ?_
    refine AQ.sF rfl rfl (bD (decide_eq_true hc7)) ?_
    refine AQ.c (Calm.pickT rfl (bD (decide_eq_true hc7)) rfl) ?_
    refine AQ.c (Calm.move rfl rfl) ?_
    refine AQ.sF rfl rfl rfl ?_
    refine AQ.sF rfl rfl rfl ?_
    refine AQ.sF rfl rfl rfl ?_
    refine AQ.sF rfl rfl rfl ?_
    refine AQ.sF rfl rfl rfl ?_
    refine AQ.sF rfl rfl rfl ?_
    refine AQ.sF rfl rfl rfl ?_
    refine AQ.sF rfl rfl rfl ?_
    refine AQ.sF rfl rfl rfl ?_
    refine AQ.sF rfl rfl rfl ?_
    refine AQ.sF rfl rfl rfl ?_
    refine AQ.sF rfl rfl rfl ?_
    refine AQ.c (Calm.pickT rfl rfl rfl) ?_
    cases hq6
    refine AQ.nilE rfl ?_
    exact ⟨rfl, rfl, rfl, rfl, trivial⟩
   ·refine AQ.cG rfl rfl (bD (decide_eq_false hc7)) (Calm.move rfl rfl) ?_
    refine AQ.cG (x := .ptr n4 256) rfl rfl (bD (decide_eq_false hc7)) (Calm.fldPtr rfl rfl Try.underlying50 rfl sz48 _ rfl) ?_
    refine AQ.cG rfl rfl (bD (decide_eq_false hc7)) (Calm.load 0 rfl rfl rfl (At.cast (At.fldS (At.fld0 At.here)) rfl) ag48 sz48) ?_
    refine AQ.cG rfl rfl (bD (decide_eq_false hc7)) (Calm.lenL rfl rfl Try.underlying48) ?_
    refine AQ.cG (x := eBool (decide ((p0.f1.length : Int) ≤ p1))) rfl rfl (bD (decide_eq_false hc7)) (Calm.int rfl rfl rfl rfl) ?_
    refine AQ.c (Calm.pickF rfl (bD (decide_eq_false hc7)) rfl) ?_
    refine AQ.c (Calm.move rfl rfl) ?_
    rcases of_ite hq6 with ⟨hc8, hq6⟩ | ⟨hc8, hq6⟩
    ·refine AQ.sF rfl rfl (bD (decide_eq_true hc8)) ?_
     refine AQ.sF rfl rfl (bD (decide_eq_true hc8)) ?_
     refine AQ.sF rfl rfl (bD (decide_eq_true hc8)) ?_
     refine AQ.sF rfl rfl (bD (decide_eq_true hc8)) ?_
     refine AQ.sF rfl rfl (bD (decide_eq_true hc8)) ?_
     refine AQ.sF rfl rfl (bD (decide_eq_true hc8)) ?_
     refine AQ.sF rfl rfl (bD (decide_eq_true hc8)) ?_
     refine AQ.sF rfl rfl (bD (decide_eq_true hc8)) ?_
     refine AQ.sF rfl rfl (bD (decide_eq_true hc8)) ?_
     refine AQ.sF rfl rfl (bD (decide_eq_true hc8)) ?_
     refine AQ.sF rfl rfl (bD (decide_eq_true hc8)) ?_
     refine AQ.sF rfl rfl (bD (decide_eq_true hc8)) ?_
     refine AQ.c (Calm.pickT rfl (bD (decide_eq_true hc8)) rfl) ?_
     cases hq6
     refine AQ.nilE rfl ?_
     exact ⟨rfl, rfl, rfl, rfl, trivial⟩
    ·refine AQ.cG rfl rfl (bD (decide_eq_false hc8)) (Calm.move rfl rfl) ?_
     refine AQ.cG (x := .ptr n4 0) rfl rfl (bD (decide_eq_false hc8)) (Calm.fldPtr rfl rfl Try.underlying50 rfl sz47 _ rfl) ?_
     obtain ⟨hg9, hq6⟩ := of_guard hq6
     refine AQ.cG rfl rfl (bD (decide_eq_false hc8)) (Calm.idxP rfl rfl rfl hg9 Try.underlying47 sz5) ?_
     refine AQ.cG rfl rfl (bD (decide_eq_false hc8)) (Calm.load 0 rfl rfl rfl (At.cast (At.fld0 (At.vidx p2 hg9.1 hg9.2 At.here)) (by omega)) ag5 sz5) ?_
     refine AQ.cG (x := eI64 (w64 (vget p0.f0 p2))) rfl rfl (bD (decide_eq_false hc8)) (Calm.conv rfl rfl Try.underlying5 Try.underlying3) ?_
     refine AQ.cG (x := .ptr n4 256) rfl rfl (bD (decide_eq_false hc8)) (Calm.fldPtr rfl rfl Try.underlying50 rfl sz48 _ rfl) ?_
     refine AQ.cG rfl rfl (bD (decide_eq_false hc8)) (Calm.load 0 rfl rfl rfl (At.cast (At.fldS (At.fld0 At.here)) rfl) ag48 sz48) ?_
     refine AQ.cG rfl rfl (bD (decide_eq_false hc8)) (Calm.move rfl rfl) ?_
     obtain ⟨hg10, hq6⟩ := of_guard hq6
     refine AQ.cG rfl rfl (bD (decide_eq_false hc8)) (Calm.idxL (f := e43) rfl rfl rfl hg10 Try.underlying48 sz43) ?_
     refine AQ.cG rfl rfl (bD (decide_eq_false hc8)) (Calm.loadRp rfl rfl ag43 sz43) ?_
     refine AQ.cG rfl rfl (bD (decide_eq_false hc8)) (Calm.lenL rfl rfl Try.underlying43) ?_
     refine AQ.cG (x := eBool (decide (((lget p0.f1 p1).length : Int) ≤ (w64 (vget p0.f0 p2))))) rfl rfl (bD (decide_eq_false hc8)) (Calm.int rfl rfl rfl rfl) ?_
     refine AQ.c (Calm.pickF rfl (bD (decide_eq_false hc8)) rfl) ?_
     cases hq6
     refine AQ.nilE rfl ?_
     exact ⟨rfl, rfl, rfl, rfl, trivial⟩
  ·rcases of_ite h with ⟨hc11, h⟩ | ⟨hc11, h⟩
   ·refine AW.condT' _ rfl hc11 ?_
    refine AW.sr ?_
    refine AO.c (Calm.assign rfl rfl) ?_
    refine AO.nH [6] (H' := []) (Sub.nil _) ?_
    refine AW.rK [6] ?_
    have hr := Option.some.inj h
    subst hr
    exact ⟨[(eI64 (-1 : Int))], ⟨rfl, rfl, trivial⟩, rfl⟩
   ·refine AW.condF' _ rfl hc11 ?_
    refine AW.sK [1, 2, 3] ?_
    refine AW.seq ?_
    refine AW.regQ (by rfl) (by decide +kernel) ?_
    refine AQ.c (x := .ptr n4 256) (Calm.fldPtr rfl rfl Try.underlying50 rfl sz48 _ rfl) ?_
    refine AQ.c (Calm.load 0 rfl rfl rfl (At.cast (At.fldS (At.fld0 At.here)) rfl) ag48 sz48) ?_
    refine AQ.c (Calm.move rfl rfl) ?_
    obtain ⟨hg12, h⟩ := of_guard h
    refine AQ.c (Calm.idxL (f := e43) rfl rfl rfl hg12 Try.underlying48 sz43) ?_
    refine AQ.c (Calm.loadRp rfl rfl ag43 sz43) ?_
    refine AQ.c (Calm.move rfl rfl) ?_
    refine AQ.c (x := .ptr n4 0) (Calm.fldPtr rfl rfl Try.underlying50 rfl sz47 _ rfl) ?_
    obtain ⟨hg13, h⟩ := of_guard h
    refine AQ.c (Calm.idxP rfl rfl rfl hg13 Try.underlying47 sz5) ?_
    refine AQ.c (Calm.load 0 rfl rfl rfl (At.cast (At.fld0 (At.vidx p2 hg13.1 hg13.2 At.here)) (by omega)) ag5 sz5) ?_
    obtain ⟨hg14, h⟩ := of_guard h
    refine AQ.c (Calm.idxL (f := eI64) rfl rfl rfl hg14 Try.underlying43 sz3) ?_
    refine AQ.c (Calm.loadRp rfl rfl ag3 sz3) ?_
    refine AQ.c (Calm.assign rfl rfl) ?_
    refine AQ.nK [6] ?_
    refine AW.rH [6] (H' := []) (Sub.nil _) ?_
    have hr := Option.some.inj h
    subst hr
    exact ⟨[(eI64 (lget (lget p0.f1 p1) (vget p0.f0 p2)))], ⟨rfl, rfl, trivial⟩, rfl⟩
end Go.Avl.T3
/- bosket/bosketref08.classes; printed by avmain.py. -/
namespace Go.Avl.T3
open Go Go.RowKit Go.Proofs Go.Avl
set_option linter.unusedVariables false
set_option maxRecDepth 100000
set_option maxHeartbeats 4000000
attribute [local irreducible] AW AO AQ Spec SpecH Calm

def bosketref08_classes_c0 (k : Nat) (x3 : Int) : Option Int :=
  some (x3)
def bosketref08_classes_l1 (k : Nat) (p0 : S50) : Nat → Int → Int → Option Int
  | 0, _, _ => none
  | j + 1, x4, x5 =>
    if x5 < (256 : Int) then if 0 ≤ x5 ∧ x5 < (256 : Int) then (bosketref08_classes_l1 k p0 j) (max x4 (w64 ((w64 (vget p0.f0 x5)) + (1 : Int)))) (w64 (x5 + (1 : Int)))
    else none
    else bosketref08_classes_c0 k x4
def bosketref08_classes (k : Nat) (p0 : S50) : Option Int :=
  bosketref08_classes_l1 k p0 k (0 : Int) (0 : Int)
theorem bosketref08_classes_spec {k : Nat} {p0 : S50} {r : Int} (h : bosketref08_classes k p0 = some r) : Spec Try.prog 49 [(e50 p0)] (eI64 r) := by
  rw [bosketref08_classes.eq_1] at h
  refine Spec.intro (res := [.tmp 2]) Try.func49 rfl rfl rfl (Nat.le_of_ble_eq_true rfl) ?_
  refine AW.sr ?_
  refine AO.box rfl 1 rfl (by decide) rfl rfl rfl fun n2 => ?_
  refine AO.c (Calm.assign rfl rfl) ?_
  refine AO.nK [1] ?_
  refine AW.sr ?_
  refine AO.c (Calm.assign rfl rfl) ?_
  refine AO.nK [1, 3] ?_
  refine AW.seq_mid (fun ρ H => ∃ (x3 : Int), ρ = [(3, (eI64 x3))] ∧ H = [] ∧ bosketref08_classes_c0 k x3 = some r) ?_ ?_
  ·refine AW.sr ?_
   refine AO.c (Calm.assign rfl rfl) ?_
   refine AO.nK [1, 3, 4] ?_
   refine AW.block ?_
   refine AW.wK [1, 3, 4] ?_
   refine AW.loop (fun kq ρ H => ∃ (x4 : Int) (x5 : Int), ρ = [(1, (.ptr n2 0)), (3, (eI64 x4)), (4, (eI64 x5))] ∧ H = [(n2, (.mem (e50 p0)))] ∧ bosketref08_classes_l1 k p0 kq x4 x5 = some r) k ⟨(0 : Int), (0 : Int), rfl, rfl, h⟩ ?_
   rintro kq7 _ _ ⟨x4, x5, rfl, rfl, h⟩
   cases kq7 with
   | zero => rw [bosketref08_classes_l1.eq_1] at h; cases h
   | succ kq7 =>
   rw [bosketref08_classes_l1.eq_2] at h
   generalize hrec6 : bosketref08_classes_l1 k p0 kq7 = rec6 at h
   refine AW.seq ?_
   refine AW.sr ?_
   refine AO.c (Calm.move rfl rfl) ?_
   refine AO.c (x := eBool (decide (x5 < (256 : Int)))) (Calm.int rfl rfl rfl rfl) ?_
   refine AO.nK [1, 3, 4, 6] ?_
   rcases of_ite h with ⟨hc8, h⟩ | ⟨hc8, h⟩
   ·refine AW.condP _ rfl hc8 ?_
    refine AW.sK [1, 3, 4] ?_
    refine AW.seq ?_
    refine AW.block ?_
    refine AW.reg ?_
    refine AO.c (Calm.move rfl rfl) ?_
    refine AO.c (Calm.move rfl rfl) ?_
    refine AO.c (x := .ptr n2 0) (Calm.fldPtr rfl rfl Try.underlying50 rfl sz47 _ rfl) ?_
    obtain ⟨hg9, h⟩ := of_guard h
    refine AO.c (Calm.idxP rfl rfl rfl hg9 Try.underlying47 sz5) ?_
    refine AO.c (Calm.load 0 rfl rfl rfl (At.cast (At.fld0 (At.vidx x5 hg9.1 hg9.2 At.here)) (by omega)) ag5 sz5) ?_
    refine AO.c (x := eI64 (w64 (vget p0.f0 x5))) (Calm.conv rfl rfl Try.underlying5 Try.underlying3) ?_
    refine AO.c (x := eI64 (w64 ((w64 (vget p0.f0 x5)) + (1 : Int)))) (Calm.int rfl rfl rfl rfl) ?_
    refine AO.c (x := eI64 (max x4 (w64 ((w64 (vget p0.f0 x5)) + (1 : Int))))) (Calm.max2 rfl rfl rfl) ?_
    refine AO.c (Calm.assign rfl rfl) ?_
    refine AO.nK [1, 3, 4] ?_
    refine AW.reg ?_
    refine AO.c (Calm.move rfl rfl) ?_
    refine AO.c (x := eI64 (w64 (x5 + (1 : Int)))) (Calm.int rfl rfl rfl rfl) ?_
    refine AO.c (Calm.assign rfl rfl) ?_
    refine AO.nK [1, 3, 4] ?_
    exact ⟨kq7, Nat.lt_succ_self _, (max x4 (w64 ((w64 (vget p0.f0 x5)) + (1 : Int)))), (w64 (x5 + (1 : Int))), rfl, rfl, by rw [hrec6]; exact h⟩
   ·refine AW.condN _ rfl hc8 ?_
    refine AW.eH [3] (H' := []) (Sub.nil _) ?_
    exact ⟨x4, rfl, rfl, h⟩
  ·rintro _ _ ⟨x3, rfl, rfl, h⟩
   rw [bosketref08_classes_c0.eq_1] at h
   refine AW.sr ?_
   refine AO.c (Calm.move rfl rfl) ?_
   refine AO.c (Calm.assign rfl rfl) ?_
   refine AO.nK [2] ?_
   refine AW.rK [2] ?_
   have hr := Option.some.inj h
   subst hr
   exact ⟨[(eI64 x3)], ⟨rfl, rfl, trivial⟩, rfl⟩
end Go.Avl.T3
/- bosket/bosketref08.gapless; printed by avmain.py. -/
namespace Go.Avl.T3
open Go Go.RowKit Go.Proofs Go.Avl
set_option linter.unusedVariables false
set_option maxRecDepth 100000
set_option maxHeartbeats 4000000
attribute [local irreducible] AW AO AQ Spec SpecH Calm

def bosketref08_gapless_c0 (k : Nat) : Option Bool :=
  some (true)
def bosketref08_gapless_c1 (k : Nat) (rec4 : (Int → Option Bool)) (x3 : Int) : Option Bool :=
  rec4 (w64 (x3 + (1 : Int)))
def bosketref08_gapless_c2 (k : Nat) (rec4 : (Int → Option Bool)) (x3 : Int) (b8 : Bool) : Option Bool :=
  if (!b8) = true then some (false)
  else bosketref08_gapless_c1 k rec4 x3
def bosketref08_gapless_l3 (k : Nat) (rec4 : (Int → Option Bool)) (p0 : S50) (x3 : Int) : Nat → Bool → Int → Option Bool
  | 0, _, _ => none
  | j + 1, b10, x11 =>
    if x11 < (256 : Int) then Option.bind (α := Bool) (if b10 = true then some (true)
    else if 0 ≤ x11 ∧ x11 < (256 : Int) then some (decide ((w64 (vget p0.f0 x11)) = x3))
    else none) fun b15 =>
    (bosketref08_gapless_l3 k rec4 p0 x3 j) b15 (w64 (x11 + (1 : Int)))
    else bosketref08_gapless_c2 k rec4 x3 b10
def bosketref08_gapless_l4 (k : Nat) (p0 : S50) : Nat → Int → Option Bool
  | 0, _ => none
  | j + 1, x3 =>
    (bosketref08_classes k p0).bind fun t6 =>
    if x3 < t6 then bosketref08_gapless_l3 k (bosketref08_gapless_l4 k p0 j) p0 x3 k false (0 : Int)
    else bosketref08_gapless_c0 k
def bosketref08_gapless (k : Nat) (p0 : S50) : Option Bool :=
  bosketref08_gapless_l4 k p0 k (0 : Int)
theorem bosketref08_gapless_spec {k : Nat} {p0 : S50} {r : Bool} (h : bosketref08_gapless k p0 = some r) : Spec Try.prog 48 [(e50 p0)] (eBool r) := by
  rw [bosketref08_gapless.eq_1] at h
  refine Spec.intro (res := [.tmp 2]) Try.func48 rfl rfl rfl (Nat.le_of_ble_eq_true rfl) ?_
  refine AW.sr ?_
  refine AO.box rfl 1 rfl (by decide) rfl rfl rfl fun n2 => ?_
  refine AO.c (Calm.assign rfl rfl) ?_
  refine AO.nK [1] ?_
  refine AW.seq_mid (fun ρ H => ρ = [] ∧ H = [] ∧ bosketref08_gapless_c0 k = some r) ?_ ?_
  ·refine AW.sr ?_
   refine AO.c (Calm.assign rfl rfl) ?_
   refine AO.nK [1, 3] ?_
   refine AW.block ?_
   refine AW.wK [1, 3] ?_
   refine AW.loop (fun kq ρ H => ∃ (x3 : Int), ρ = [(1, (.ptr n2 0)), (3, (eI64 x3))] ∧ H = [(n2, (.mem (e50 p0)))] ∧ bosketref08_gapless_l4 k p0 kq x3 = some r) k ⟨(0 : Int), rfl, rfl, h⟩ ?_
   rintro kq5 _ _ ⟨x3, rfl, rfl, h⟩
   cases kq5 with
   | zero => rw [bosketref08_gapless_l4.eq_1] at h; cases h
   | succ kq5 =>
   rw [bosketref08_gapless_l4.eq_2] at h
   generalize hrec4 : bosketref08_gapless_l4 k p0 kq5 = rec4 at h
   refine AW.seq ?_
   refine AW.sr ?_
   refine AO.c (Calm.move rfl rfl) ?_
   refine AO.c (Calm.load 0 rfl rfl rfl (At.cast At.here rfl) ag50 sz50) ?_
   obtain ⟨t6, et6, h⟩ := of_bind h
   refine AO.callS [(e50 p0)] (eI64 t6) 8 rfl (by decide) ok49 rfl rfl rfl ⟨rfl, rfl, trivial⟩ (bosketref08_classes_spec et6) ?_
   refine AO.c (x := eBool (decide (x3 < t6))) (Calm.int rfl rfl rfl rfl) ?_
   refine AO.nK [1, 3, 9] ?_
   rcases of_ite h with ⟨hc7, h⟩ | ⟨hc7, h⟩
   ·refine AW.condP _ rfl hc7 ?_
    refine AW.sK [1, 3] ?_
    refine AW.seq_mid (fun ρ H => ρ = [(1, (.ptr n2 0)), (3, (eI64 x3))] ∧ H = [(n2, (.mem (e50 p0)))] ∧ bosketref08_gapless_c1 k rec4 x3 = some r) ?_ ?_
    ·refine AW.block ?_
     refine AW.sr ?_
     refine AO.c (Calm.assign rfl rfl) ?_
     refine AO.nK [1, 3, 4] ?_
     refine AW.seq_mid (fun ρ H => ∃ (b8 : Bool), ρ = [(1, (.ptr n2 0)), (3, (eI64 x3)), (4, (eBool b8))] ∧ H = [(n2, (.mem (e50 p0)))] ∧ bosketref08_gapless_c2 k rec4 x3 b8 = some r) ?_ ?_
     ·refine AW.sr ?_
      refine AO.c (Calm.assign rfl rfl) ?_
      refine AO.nK [1, 3, 4, 5] ?_
      refine AW.block ?_
      refine AW.wK [1, 3, 4, 5] ?_
      refine AW.loop (fun kq ρ H => ∃ (b10 : Bool) (x11 : Int), ρ = [(1, (.ptr n2 0)), (3, (eI64 x3)), (4, (eBool b10)), (5, (eI64 x11))] ∧ H = [(n2, (.mem (e50 p0)))] ∧ bosketref08_gapless_l3 k rec4 p0 x3 kq b10 x11 = some r) k ⟨false, (0 : Int), rfl, rfl, h⟩ ?_
      rintro kq13 _ _ ⟨b10, x11, rfl, rfl, h⟩
      cases kq13 with
      | zero => rw [bosketref08_gapless_l3.eq_1] at h; cases h
      | succ kq13 =>
      rw [bosketref08_gapless_l3.eq_2] at h
      generalize hrec12 : bosketref08_gapless_l3 k rec4 p0 x3 kq13 = rec12 at h
      refine AW.seq ?_
      refine AW.sr ?_
      refine AO.c (Calm.move rfl rfl) ?_
      refine AO.c (x := eBool (decide (x11 < (256 : Int)))) (Calm.int rfl rfl rfl rfl) ?_
      refine AO.nK [1, 3, 4, 5, 13] ?_
      rcases of_ite h with ⟨hc14, h⟩ | ⟨hc14, h⟩
      ·refine AW.condP _ rfl hc14 ?_
       refine AW.sK [1, 3, 4, 5] ?_
       refine AW.seq ?_
       refine AW.block ?_
       obtain ⟨b15, hq16, h⟩ := of_bind h
       refine AW.regM [(1, (.ptr n2 0)), (3, (eI64 x3)), (4, (eBool b15)), (5, (eI64 x11))] [(n2, (.mem (e50 p0)))] ?_ ?_
       ·refine AO.c (Calm.move rfl rfl) ?_
        refine AO.c (Calm.move rfl rfl) ?_
        rcases of_ite hq16 with ⟨hc17, hq16⟩ | ⟨hc17, hq16⟩
        ·refine AO.sF rfl rfl (bD hc17) ?_
         refine AO.sF rfl rfl (bD hc17) ?_
         refine AO.sF rfl rfl (bD hc17) ?_
         refine AO.sF rfl rfl (bD hc17) ?_
         refine AO.sF rfl rfl (bD hc17) ?_
         refine AO.sF rfl rfl (bD hc17) ?_
         refine AO.sF rfl rfl (bD hc17) ?_
         refine AO.c (Calm.pickT rfl (bD hc17) rfl) ?_
         refine AO.c (Calm.assign rfl rfl) ?_
         cases hq16
         refine AO.nilE ⟨rfl, rfl⟩ ?_ ?_
         · exact ⟨rfl, rfl, rfl, rfl, trivial⟩
         · exact (Sub.refl _)
        ·refine AO.cG rfl rfl (bD (eq_false_of_ne_true hc17)) (Calm.move rfl rfl) ?_
         refine AO.cG (x := .ptr n2 0) rfl rfl (bD (eq_false_of_ne_true hc17)) (Calm.fldPtr rfl rfl Try.underlying50 rfl sz47 _ rfl) ?_
         obtain ⟨hg18, hq16⟩ := of_guard hq16
         refine AO.cG rfl rfl (bD (eq_false_of_ne_true hc17)) (Calm.idxP rfl rfl rfl hg18 Try.underlying47 sz5) ?_
         refine AO.cG rfl rfl (bD (eq_false_of_ne_true hc17)) (Calm.load 0 rfl rfl rfl (At.cast (At.fld0 (At.vidx x11 hg18.1 hg18.2 At.here)) (by omega)) ag5 sz5) ?_
         refine AO.cG (x := eI64 (w64 (vget p0.f0 x11))) rfl rfl (bD (eq_false_of_ne_true hc17)) (Calm.conv rfl rfl Try.underlying5 Try.underlying3) ?_
         refine AO.cG rfl rfl (bD (eq_false_of_ne_true hc17)) (Calm.move rfl rfl) ?_
         refine AO.cG (x := eBool (decide ((w64 (vget p0.f0 x11)) = x3))) rfl rfl (bD (eq_false_of_ne_true hc17)) (Calm.int rfl rfl rfl rfl) ?_
         refine AO.c (Calm.pickF rfl (bD (eq_false_of_ne_true hc17)) rfl) ?_
         refine AO.c (Calm.assign rfl rfl) ?_
         cases hq16
         refine AO.nilE ⟨rfl, rfl⟩ ?_ ?_
         · exact ⟨rfl, rfl, rfl, rfl, trivial⟩
         · exact (Sub.refl _)
       ·refine AW.reg ?_
        refine AO.c (Calm.move rfl rfl) ?_
        refine AO.c (x := eI64 (w64 (x11 + (1 : Int)))) (Calm.int rfl rfl rfl rfl) ?_
        refine AO.c (Calm.assign rfl rfl) ?_
        refine AO.nK [1, 3, 4, 5] ?_
        exact ⟨kq13, Nat.lt_succ_self _, b15, (w64 (x11 + (1 : Int))), rfl, rfl, by rw [hrec12]; exact h⟩
      ·refine AW.condN _ rfl hc14 ?_
       refine AW.eK [1, 3, 4] ?_
       exact ⟨b10, rfl, rfl, h⟩
     ·rintro _ _ ⟨b8, rfl, rfl, h⟩
      rw [bosketref08_gapless_c2.eq_1] at h
      refine AW.sr ?_
      refine AO.c (Calm.move rfl rfl) ?_
      refine AO.c (Calm.not rfl rfl) ?_
      refine AO.nK [1, 3, 27] ?_
      rcases of_ite h with ⟨hc9, h⟩ | ⟨hc9, h⟩
      ·refine AW.condT' _ rfl hc9 ?_
       refine AW.sr ?_
       refine AO.c (Calm.assign rfl rfl) ?_
       refine AO.nH [2] (H' := []) (Sub.nil _) ?_
       refine AW.rK [2] ?_
       have hr := Option.some.inj h
       subst hr
       exact ⟨[(eBool false)], ⟨rfl, rfl, trivial⟩, rfl⟩
      ·refine AW.condF' _ rfl hc9 ?_
       refine AW.sK [1, 3] ?_
       exact ⟨rfl, rfl, h⟩
    ·rintro _ _ ⟨rfl, rfl, h⟩
     rw [bosketref08_gapless_c1.eq_1] at h
     refine AW.reg ?_
     refine AO.c (Calm.move rfl rfl) ?_
     refine AO.c (x := eI64 (w64 (x3 + (1 : Int)))) (Calm.int rfl rfl rfl rfl) ?_
     refine AO.c (Calm.assign rfl rfl) ?_
     refine AO.nK [1, 3] ?_
     exact ⟨kq5, Nat.lt_succ_self _, (w64 (x3 + (1 : Int))), rfl, rfl, by rw [hrec4]; exact h⟩
   ·refine AW.condN _ rfl hc7 ?_
    refine AW.eH [] (H' := []) (Sub.nil _) ?_
    exact ⟨rfl, rfl, h⟩
  ·rintro _ _ ⟨rfl, rfl, h⟩
   rw [bosketref08_gapless_c0.eq_1] at h
   refine AW.sr ?_
   refine AO.c (Calm.assign rfl rfl) ?_
   refine AO.nK [2] ?_
   refine AW.rK [2] ?_
   have hr := Option.some.inj h
   subst hr
   exact ⟨[(eBool true)], ⟨rfl, rfl, trivial⟩, rfl⟩
end Go.Avl.T3
/- bosket/bosketref08.Right; printed by avmain.py. -/
namespace Go.Avl.T3
open Go Go.RowKit Go.Proofs Go.Avl
set_option linter.unusedVariables false
set_option maxRecDepth 100000
set_option maxHeartbeats 4000000
attribute [local irreducible] AW AO AQ Spec SpecH Calm

def bosketref08_Right_c0 (k : Nat) : Option Bool :=
  some (true)
def bosketref08_Right_c1 (k : Nat) (rec11 : (Int → Option Bool)) (x10 : Int) : Option Bool :=
  rec11 (w64 (x10 + (1 : Int)))
def bosketref08_Right_l2 (k : Nat) (rec11 : (Int → Option Bool)) (p0 : S50) (x10 : Int) : Nat → Int → Option Bool
  | 0, _ => none
  | j + 1, x23 =>
    if 0 ≤ x10 ∧ x10 < (p0.f1.length : Int) then if x23 < ((lget p0.f1 x10).length : Int) then Option.bind (α := Bool) (if 0 ≤ x10 ∧ x10 < (p0.f1.length : Int) then if 0 ≤ x23 ∧ x23 < ((lget p0.f1 x10).length : Int) then if (lget (lget p0.f1 x10) x23) < (-1 : Int) then some (true)
    else if 0 ≤ x10 ∧ x10 < (p0.f1.length : Int) then if 0 ≤ x23 ∧ x23 < ((lget p0.f1 x10).length : Int) then some (decide ((p0.f1.length : Int) ≤ (lget (lget p0.f1 x10) x23)))
    else none
    else none
    else none
    else none) fun b28 =>
    if b28 = true then some (false)
    else (bosketref08_Right_l2 k rec11 p0 x10 j) (w64 (x23 + (1 : Int)))
    else bosketref08_Right_c1 k rec11 x10
    else none
def bosketref08_Right_l3 (k : Nat) (p0 : S50) : Nat → Int → Option Bool
  | 0, _ => none
  | j + 1, x10 =>
    if x10 < (p0.f1.length : Int) then Option.bind (α := Bool) (if 0 ≤ x10 ∧ x10 < (p0.f1.length : Int) then (bosketref08_classes k p0).bind fun t17 =>
    if ((lget p0.f1 x10).length : Int) ≠ t17 then some (true)
    else if 0 ≤ x10 ∧ x10 < (p0.f2.length : Int) then if (lget p0.f2 x10) < (-1 : Int) then some (true)
    else if 0 ≤ x10 ∧ x10 < (p0.f2.length : Int) then some (decide ((32768 : Int) ≤ (lget p0.f2 x10)))
    else none
    else none
    else none) fun b14 =>
    if b14 = true then some (false)
    else bosketref08_Right_l2 k (bosketref08_Right_l3 k p0 j) p0 x10 k (0 : Int)
    else bosketref08_Right_c0 k
def bosketref08_Right (k : Nat) (p0 : S50) : Option Bool :=
  Option.bind (α := Bool) (if (p0.f1.length : Int) < (1 : Int) then some (true)
  else if (32768 : Int) < (p0.f1.length : Int) then some (true)
  else if (p0.f2.length : Int) ≠ (p0.f1.length : Int) then some (true)
  else (bosketref08_gapless k p0).bind fun t8 =>
  some (!t8)) fun b3 =>
  if b3 = true then some (false)
  else bosketref08_Right_l3 k p0 k (0 : Int)
theorem bosketref08_Right_spec {k : Nat} {p0 : S50} {r : Bool} (h : bosketref08_Right k p0 = some r) : Spec Try.prog 23 [(e50 p0)] (eBool r) := by
  rw [bosketref08_Right.eq_1] at h
  refine Spec.intro (res := [.tmp 2]) Try.func23 rfl rfl rfl (Nat.le_of_ble_eq_true rfl) ?_
  refine AW.sr ?_
  refine AO.box rfl 1 rfl (by decide) rfl rfl rfl fun n2 => ?_
  refine AO.c (Calm.assign rfl rfl) ?_
  refine AO.nK [1] ?_
  refine AW.sr ?_
  refine AO.c (x := .ptr n2 256) (Calm.fldPtr rfl rfl Try.underlying50 rfl sz48 _ rfl) ?_
  refine AO.c (Calm.load 0 rfl rfl rfl (At.cast (At.fldS (At.fld0 At.here)) rfl) ag48 sz48) ?_
  refine AO.c (Calm.lenL rfl rfl Try.underlying48) ?_
  refine AO.c (Calm.assign rfl rfl) ?_
  refine AO.nK [1, 3] ?_
  refine AW.seq ?_
  refine AW.seq ?_
  obtain ⟨b3, hq4, h⟩ := of_bind h
  refine AW.regM [(1, (.ptr n2 0)), (3, (eI64 (p0.f1.length : Int))), (26, (eBool b3))] [(n2, (.mem (e50 p0)))] ?_ ?_
  ·refine AO.c (Calm.move rfl rfl) ?_
   refine AO.c (x := eBool (decide ((p0.f1.length : Int) < (1 : Int)))) (Calm.int rfl rfl rfl rfl) ?_
   refine AO.c (Calm.move rfl rfl) ?_
   rcases of_ite hq4 with ⟨hc5, hq4⟩ | ⟨hc5, hq4⟩
   ·refine AO.sF rfl rfl (bD (decide_eq_true hc5)) ?_
    refine AO.sF rfl rfl (bD (decide_eq_true hc5)) ?_
    refine AO.c (Calm.pickT rfl (bD (decide_eq_true hc5)) rfl) ?_
    refine AO.c (Calm.move rfl rfl) ?_
    refine AO.sF rfl rfl rfl ?_
    refine AO.sF rfl rfl rfl ?_
    refine AO.sF rfl rfl rfl ?_
    refine AO.sF rfl rfl rfl ?_
    refine AO.sF rfl rfl rfl ?_
    refine AO.c (Calm.pickT rfl rfl rfl) ?_
    refine AO.c (Calm.move rfl rfl) ?_
    refine AO.sF rfl rfl rfl ?_
    refine AO.sF rfl rfl rfl ?_
    refine AO.sF rfl rfl rfl ?_
    refine AO.c (Calm.pickT rfl rfl rfl) ?_
    cases hq4
    refine AO.nilE ⟨rfl, rfl⟩ ?_ ?_
    · exact ⟨rfl, rfl, rfl, trivial⟩
    · exact (Sub.refl _)
   ·refine AO.cG rfl rfl (bD (decide_eq_false hc5)) (Calm.move rfl rfl) ?_
    refine AO.cG (x := eBool (decide ((32768 : Int) < (p0.f1.length : Int)))) rfl rfl (bD (decide_eq_false hc5)) (Calm.int rfl rfl rfl rfl) ?_
    refine AO.c (Calm.pickF rfl (bD (decide_eq_false hc5)) rfl) ?_
    refine AO.c (Calm.move rfl rfl) ?_
    rcases of_ite hq4 with ⟨hc6, hq4⟩ | ⟨hc6, hq4⟩
    ·refine AO.sF rfl rfl (bD (decide_eq_true hc6)) ?_
     refine AO.sF rfl rfl (bD (decide_eq_true hc6)) ?_
     refine AO.sF rfl rfl (bD (decide_eq_true hc6)) ?_
     refine AO.sF rfl rfl (bD (decide_eq_true hc6)) ?_
     refine AO.sF rfl rfl (bD (decide_eq_true hc6)) ?_
     refine AO.c (Calm.pickT rfl (bD (decide_eq_true hc6)) rfl) ?_
     refine AO.c (Calm.move rfl rfl) ?_
     refine AO.sF rfl rfl rfl ?_
     refine AO.sF rfl rfl rfl ?_
     refine AO.sF rfl rfl rfl ?_
     refine AO.c (Calm.pickT rfl rfl rfl) ?_
     cases hq4
     refine AO.nilE ⟨rfl, rfl⟩ ?_ ?_
     · exact ⟨rfl, rfl, rfl, trivial⟩
     · exact (Sub.refl _)
    ·refine AO.cG (x := .ptr n2 257) rfl rfl (bD (decide_eq_false hc6)) (Calm.fldPtr rfl rfl Try.underlying50 rfl sz43 _ rfl) ?_
     refine AO.cG rfl rfl (bD (decide_eq_false hc6)) (Calm.load 0 rfl rfl rfl (At.cast (At.fldS (At.fldS (At.fld0 At.here))) rfl) ag43 sz43) ?_
     refine AO.cG rfl rfl (bD (decide_eq_false hc6)) (Calm.lenL rfl rfl Try.underlying43) ?_
     refine AO.cG rfl rfl (bD (decide_eq_false hc6)) (Calm.move rfl rfl) ?_
     refine AO.cG (x := eBool (decide ((p0.f2.length : Int) ≠ (p0.f1.length : Int)))) rfl rfl (bD (decide_eq_false hc6)) (Calm.int rfl rfl rfl rfl) ?_
     refine AO.c (Calm.pickF rfl (bD (decide_eq_false hc6)) rfl) ?_
     refine AO.c (Calm.move rfl rfl) ?_
     rcases of_ite hq4 with ⟨hc7, hq4⟩ | ⟨hc7, hq4⟩
     ·refine AO.sF rfl rfl (bD (decide_eq_true hc7)) ?_
      refine AO.sF rfl rfl (bD (decide_eq_true hc7)) ?_
      refine AO.sF rfl rfl (bD (decide_eq_true hc7)) ?_
      refine AO.c (Calm.pickT rfl (bD (decide_eq_true hc7)) rfl) ?_
      cases hq4
      refine AO.nilE ⟨rfl, rfl⟩ ?_ ?_
      · exact ⟨rfl, rfl, rfl, trivial⟩
      · exact (Sub.refl _)
     ·refine AO.cG rfl rfl (bD (decide_eq_false hc7)) (Calm.load 0 rfl rfl rfl (At.cast At.here rfl) ag50 sz50) ?_
      obtain ⟨t8, et8, hq4⟩ := of_bind hq4
      refine AO.callG 13 false 22 [(e50 p0)] (eBool t8) 24 rfl (by decide) ok48 rfl rfl (bD (decide_eq_false hc7)) rfl rfl ⟨rfl, rfl, trivial⟩ (bosketref08_gapless_spec et8) ?_
      refine AO.cG rfl rfl (bD (decide_eq_false hc7)) (Calm.not rfl rfl) ?_
      refine AO.c (Calm.pickF rfl (bD (decide_eq_false hc7)) rfl) ?_
      cases hq4
      refine AO.nilE ⟨rfl, rfl⟩ ?_ ?_
      · exact ⟨rfl, rfl, rfl, trivial⟩
      · exact (Sub.refl _)
  ·rcases of_ite h with ⟨hc9, h⟩ | ⟨hc9, h⟩
   ·refine AW.condT' _ rfl hc9 ?_
    refine AW.sr ?_
    refine AO.c (Calm.assign rfl rfl) ?_
    refine AO.nH [2] (H' := []) (Sub.nil _) ?_
    refine AW.rK [2] ?_
    have hr := Option.some.inj h
    subst hr
    exact ⟨[(eBool false)], ⟨rfl, rfl, trivial⟩, rfl⟩
   ·refine AW.condF' _ rfl hc9 ?_
    refine AW.sK [1, 3] ?_
    refine AW.seq_mid (fun ρ H => ρ = [] ∧ H = [] ∧ bosketref08_Right_c0 k = some r) ?_ ?_
    ·refine AW.sr ?_
     refine AO.c (Calm.assign rfl rfl) ?_
     refine AO.nK [1, 3, 4] ?_
     refine AW.block ?_
     refine AW.wK [1, 3, 4] ?_
     refine AW.loop (fun kq ρ H => ∃ (x10 : Int), ρ = [(1, (.ptr n2 0)), (3, (eI64 (p0.f1.length : Int))), (4, (eI64 x10))] ∧ H = [(n2, (.mem (e50 p0)))] ∧ bosketref08_Right_l3 k p0 kq x10 = some r) k ⟨(0 : Int), rfl, rfl, h⟩ ?_
     rintro kq12 _ _ ⟨x10, rfl, rfl, h⟩
     cases kq12 with
     | zero => rw [bosketref08_Right_l3.eq_1] at h; cases h
     | succ kq12 =>
     rw [bosketref08_Right_l3.eq_2] at h
     generalize hrec11 : bosketref08_Right_l3 k p0 kq12 = rec11 at h
     refine AW.seq ?_
     refine AW.sr ?_
     refine AO.c (Calm.move rfl rfl) ?_
     refine AO.c (Calm.move rfl rfl) ?_
     refine AO.c (x := eBool (decide (x10 < (p0.f1.length : Int)))) (Calm.int rfl rfl rfl rfl) ?_
     refine AO.nK [1, 3, 4, 29] ?_
     rcases of_ite h with ⟨hc13, h⟩ | ⟨hc13, h⟩
     ·refine AW.condP _ rfl hc13 ?_
      refine AW.sK [1, 3, 4] ?_
      refine AW.seq_mid (fun ρ H => ρ = [(1, (.ptr n2 0)), (3, (eI64 (p0.f1.length : Int))), (4, (eI64 x10))] ∧ H = [(n2, (.mem (e50 p0)))] ∧ bosketref08_Right_c1 k rec11 x10 = some r) ?_ ?_
      ·refine AW.block ?_
       refine AW.seq ?_
       refine AW.seq ?_
       obtain ⟨b14, hq15, h⟩ := of_bind h
       refine AW.regQM (by rfl) (by decide +kernel) [(1, (.ptr n2 0)), (3, (eI64 (p0.f1.length : Int))), (4, (eI64 x10)), (56, (eBool b14))] ?_ ?_
       ·refine AQ.c (x := .ptr n2 256) (Calm.fldPtr rfl rfl Try.underlying50 rfl sz48 _ rfl) ?_
        refine AQ.c (Calm.load 0 rfl rfl rfl (At.cast (At.fldS (At.fld0 At.here)) rfl) ag48 sz48) ?_
        refine AQ.c (Calm.move rfl rfl) ?_
        obtain ⟨hg16, hq15⟩ := of_guard hq15
        refine AQ.c (Calm.idxL (f := e43) rfl rfl rfl hg16 Try.underlying48 sz43) ?_
        refine AQ.c (Calm.loadRp rfl rfl ag43 sz43) ?_
        refine AQ.c (Calm.lenL rfl rfl Try.underlying43) ?_
        refine AQ.c (Calm.load 0 rfl rfl rfl (At.cast At.here rfl) ag50 sz50) ?_
        obtain ⟨t17, et17, hq15⟩ := of_bind hq15
        refine AQ.c (Calm.call (args := [(e50 p0)]) rfl rfl ok49 ⟨rfl, rfl, trivial⟩ rfl (bosketref08_classes_spec et17)) ?_
        refine AQ.c (x := eBool (decide (((lget p0.f1 x10).length : Int) ≠ t17))) (Calm.int rfl rfl rfl rfl) ?_
        refine AQ.c (Calm.move rfl rfl) ?_
        rcases of_ite hq15 with ⟨hc18, hq15⟩ | ⟨hc18, hq15⟩
        ·refine AQ.sF rfl rfl (bD (decide_eq_true hc18)) ?_
         refine AQ.sF rfl rfl (bD (decide_eq_true hc18)) ?_
         refine AQ.sF rfl rfl (bD (decide_eq_true hc18)) ?_
         refine AQ.sF rfl rfl (bD (decide_eq_true hc18)) ?_
         refine AQ.sF rfl rfl (bD (decide_eq_true hc18)) ?_
         refine AQ.sF rfl rfl (bD (decide_eq_true hc18)) ?_
         refine AQ.c (Calm.pickT rfl (bD (decide_eq_true hc18)) rfl) ?_
         refine AQ.c (Calm.move rfl rfl) ?_
         refine AQ.sF rfl rfl rfl ?_
         refine AQ.sF rfl rfl rfl ?_
         refine AQ.sF rfl rfl rfl ?_
         refine AQ.sF rfl rfl rfl ?_
         refine AQ.sF rfl rfl rfl ?_
         refine AQ.sF rfl rfl rfl ?_
         refine AQ.c (Calm.pickT rfl rfl rfl) ?_
         cases hq15
         refine AQ.nilE rfl ?_
         exact ⟨rfl, rfl, rfl, rfl, trivial⟩
        ·refine AQ.cG (x := .ptr n2 257) rfl rfl (bD (decide_eq_false hc18)) (Calm.fldPtr rfl rfl Try.underlying50 rfl sz43 _ rfl) ?_
         refine AQ.cG rfl rfl (bD (decide_eq_false hc18)) (Calm.load 0 rfl rfl rfl (At.cast (At.fldS (At.fldS (At.fld0 At.here))) rfl) ag43 sz43) ?_
         refine AQ.cG rfl rfl (bD (decide_eq_false hc18)) (Calm.move rfl rfl) ?_
         obtain ⟨hg19, hq15⟩ := of_guard hq15
         refine AQ.cG rfl rfl (bD (decide_eq_false hc18)) (Calm.idxL (f := eI64) rfl rfl rfl hg19 Try.underlying43 sz3) ?_
         refine AQ.cG rfl rfl (bD (decide_eq_false hc18)) (Calm.loadRp rfl rfl ag3 sz3) ?_
         refine AQ.cG (x := eBool (decide ((lget p0.f2 x10) < (-1 : Int)))) rfl rfl (bD (decide_eq_false hc18)) (Calm.int rfl rfl rfl rfl) ?_
         refine AQ.c (Calm.pickF rfl (bD (decide_eq_false hc18)) rfl) ?_
         refine AQ.c (Calm.move rfl rfl) ?_
         rcases of_ite hq15 with ⟨hc20, hq15⟩ | ⟨hc20, hq15⟩
         ·refine AQ.sF rfl rfl (bD (decide_eq_true hc20)) ?_
          refine AQ.sF rfl rfl (bD (decide_eq_true hc20)) ?_
          refine AQ.sF rfl rfl (bD (decide_eq_true hc20)) ?_
          refine AQ.sF rfl rfl (bD (decide_eq_true hc20)) ?_
          refine AQ.sF rfl rfl (bD (decide_eq_true hc20)) ?_
          refine AQ.sF rfl rfl (bD (decide_eq_true hc20)) ?_
          refine AQ.c (Calm.pickT rfl (bD (decide_eq_true hc20)) rfl) ?_
          cases hq15
          refine AQ.nilE rfl ?_
          exact ⟨rfl, rfl, rfl, rfl, trivial⟩
         ·refine AQ.cG (x := .ptr n2 257) rfl rfl (bD (decide_eq_false hc20)) (Calm.fldPtr rfl rfl Try.underlying50 rfl sz43 _ rfl) ?_
          refine AQ.cG rfl rfl (bD (decide_eq_false hc20)) (Calm.load 0 rfl rfl rfl (At.cast (At.fldS (At.fldS (At.fld0 At.here))) rfl) ag43 sz43) ?_
          refine AQ.cG rfl rfl (bD (decide_eq_false hc20)) (Calm.move rfl rfl) ?_
          obtain ⟨hg21, hq15⟩ := of_guard hq15
          refine AQ.cG rfl rfl (bD (decide_eq_false hc20)) (Calm.idxL (f := eI64) rfl rfl rfl hg21 Try.underlying43 sz3) ?_
          refine AQ.cG rfl rfl (bD (decide_eq_false hc20)) (Calm.loadRp rfl rfl ag3 sz3) ?_
          refine AQ.cG (x := eBool (decide ((32768 : Int) ≤ (lget p0.f2 x10)))) rfl rfl (bD (decide_eq_false hc20)) (Calm.int rfl rfl rfl rfl) ?_
          refine AQ.c (Calm.pickF rfl (bD (decide_eq_false hc20)) rfl) ?_
          cases hq15
          refine AQ.nilE rfl ?_
          exact ⟨rfl, rfl, rfl, rfl, trivial⟩
       ·rcases of_ite h with ⟨hc22, h⟩ | ⟨hc22, h⟩
        ·refine AW.condT' _ rfl hc22 ?_
         refine AW.sr ?_
         refine AO.c (Calm.assign rfl rfl) ?_
         refine AO.nH [2] (H' := []) (Sub.nil _) ?_
         refine AW.rK [2] ?_
         have hr := Option.some.inj h
         subst hr
         exact ⟨[(eBool false)], ⟨rfl, rfl, trivial⟩, rfl⟩
        ·refine AW.condF' _ rfl hc22 ?_
         refine AW.sK [1, 3, 4] ?_
         refine AW.sr ?_
         refine AO.c (Calm.assign rfl rfl) ?_
         refine AO.nK [1, 3, 4, 5] ?_
         refine AW.block ?_
         refine AW.wK [1, 3, 4, 5] ?_
         refine AW.loop (fun kq ρ H => ∃ (x23 : Int), ρ = [(1, (.ptr n2 0)), (3, (eI64 (p0.f1.length : Int))), (4, (eI64 x10)), (5, (eI64 x23))] ∧ H = [(n2, (.mem (e50 p0)))] ∧ bosketref08_Right_l2 k rec11 p0 x10 kq x23 = some r) k ⟨(0 : Int), rfl, rfl, h⟩ ?_
         rintro kq25 _ _ ⟨x23, rfl, rfl, h⟩
         cases kq25 with
         | zero => rw [bosketref08_Right_l2.eq_1] at h; cases h
         | succ kq25 =>
         rw [bosketref08_Right_l2.eq_2] at h
         generalize hrec24 : bosketref08_Right_l2 k rec11 p0 x10 kq25 = rec24 at h
         refine AW.seq ?_
         refine AW.sr ?_
         refine AO.c (Calm.move rfl rfl) ?_
         refine AO.c (x := .ptr n2 256) (Calm.fldPtr rfl rfl Try.underlying50 rfl sz48 _ rfl) ?_
         refine AO.c (Calm.load 0 rfl rfl rfl (At.cast (At.fldS (At.fld0 At.here)) rfl) ag48 sz48) ?_
         refine AO.c (Calm.move rfl rfl) ?_
         obtain ⟨hg26, h⟩ := of_guard h
         refine AO.c (Calm.idxL (f := e43) rfl rfl rfl hg26 Try.underlying48 sz43) ?_
         refine AO.c (Calm.loadRp rfl rfl ag43 sz43) ?_
         refine AO.c (Calm.lenL rfl rfl Try.underlying43) ?_
         refine AO.c (x := eBool (decide (x23 < ((lget p0.f1 x10).length : Int)))) (Calm.int rfl rfl rfl rfl) ?_
         refine AO.nK [1, 3, 4, 5, 64] ?_
         rcases of_ite h with ⟨hc27, h⟩ | ⟨hc27, h⟩
         ·refine AW.condP _ rfl hc27 ?_
          refine AW.sK [1, 3, 4, 5] ?_
          refine AW.seq ?_
          refine AW.block ?_
          refine AW.seq ?_
          obtain ⟨b28, hq29, h⟩ := of_bind h
          refine AW.regM [(1, (.ptr n2 0)), (3, (eI64 (p0.f1.length : Int))), (4, (eI64 x10)), (5, (eI64 x23)), (87, (eBool b28))] [(n2, (.mem (e50 p0)))] ?_ ?_
          ·refine AO.c (x := .ptr n2 256) (Calm.fldPtr rfl rfl Try.underlying50 rfl sz48 _ rfl) ?_
           refine AO.c (Calm.load 0 rfl rfl rfl (At.cast (At.fldS (At.fld0 At.here)) rfl) ag48 sz48) ?_
           refine AO.c (Calm.move rfl rfl) ?_
           obtain ⟨hg30, hq29⟩ := of_guard hq29
           refine AO.c (Calm.idxL (f := e43) rfl rfl rfl hg30 Try.underlying48 sz43) ?_
           refine AO.c (Calm.loadRp rfl rfl ag43 sz43) ?_
           refine AO.c (Calm.move rfl rfl) ?_
           obtain ⟨hg31, hq29⟩ := of_guard hq29
           refine AO.c (Calm.idxL (f := eI64) rfl rfl rfl hg31 Try.underlying43 sz3) ?_
           refine AO.c (Calm.loadRp rfl rfl ag3 sz3) ?_
           refine AO.c (x := eBool (decide ((lget (lget p0.f1 x10) x23) < (-1 : Int)))) (Calm.int rfl rfl rfl rfl) ?_
           refine AO.c (Calm.move rfl rfl) ?_
           rcases of_ite hq29 with ⟨hc32, hq29⟩ | ⟨hc32, hq29⟩
           ·refine AO.sF rfl rfl (bD (decide_eq_true hc32)) ?_
            refine AO.sF rfl rfl (bD (decide_eq_true hc32)) ?_
            refine AO.sF rfl rfl (bD (decide_eq_true hc32)) ?_
            refine AO.sF rfl rfl (bD (decide_eq_true hc32)) ?_
            refine AO.sF rfl rfl (bD (decide_eq_true hc32)) ?_
            refine AO.sF rfl rfl (bD (decide_eq_true hc32)) ?_
            refine AO.sF rfl rfl (bD (decide_eq_true hc32)) ?_
            refine AO.sF rfl rfl (bD (decide_eq_true hc32)) ?_
            refine AO.sF rfl rfl (bD (decide_eq_true hc32)) ?_
            refine AO.sF rfl rfl (bD (decide_eq_true hc32)) ?_
            refine AO.c (Calm.pickT rfl (bD (decide_eq_true hc32)) rfl) ?_
            cases hq29
            refine AO.nilE ⟨rfl, rfl⟩ ?_ ?_
            · exact ⟨rfl, rfl, rfl, rfl, rfl, trivial⟩
            · exact (Sub.refl _)
           ·refine AO.cG (x := .ptr n2 256) rfl rfl (bD (decide_eq_false hc32)) (Calm.fldPtr rfl rfl Try.underlying50 rfl sz48 _ rfl) ?_
            refine AO.cG rfl rfl (bD (decide_eq_false hc32)) (Calm.load 0 rfl rfl rfl (At.cast (At.fldS (At.fld0 At.here)) rfl) ag48 sz48) ?_
            refine AO.cG rfl rfl (bD (decide_eq_false hc32)) (Calm.move rfl rfl) ?_
            obtain ⟨hg33, hq29⟩ := of_guard hq29
            refine AO.cG rfl rfl (bD (decide_eq_false hc32)) (Calm.idxL (f := e43) rfl rfl rfl hg33 Try.underlying48 sz43) ?_
            refine AO.cG rfl rfl (bD (decide_eq_false hc32)) (Calm.loadRp rfl rfl ag43 sz43) ?_
            refine AO.cG rfl rfl (bD (decide_eq_false hc32)) (Calm.move rfl rfl) ?_
            obtain ⟨hg34, hq29⟩ := of_guard hq29
            refine AO.cG rfl rfl (bD (decide_eq_false hc32)) (Calm.idxL (f := eI64) rfl rfl rfl hg34 Try.underlying43 sz3) ?_
            refine AO.cG rfl rfl (bD (decide_eq_false hc32)) (Calm.loadRp rfl rfl ag3 sz3) ?_
            refine AO.cG rfl rfl (bD (decide_eq_false hc32)) (Calm.move rfl rfl) ?_
            refine AO.cG (x := eBool (decide ((p0.f1.length : Int) ≤ (lget (lget p0.f1 x10) x23)))) rfl rfl (bD (decide_eq_false hc32)) (Calm.int rfl rfl rfl rfl) ?_
            refine AO.c (Calm.pickF rfl (bD (decide_eq_false hc32)) rfl) ?_
            cases hq29
            refine AO.nilE ⟨rfl, rfl⟩ ?_ ?_
            · exact ⟨rfl, rfl, rfl, rfl, rfl, trivial⟩
            · exact (Sub.refl _)
          ·rcases of_ite h with ⟨hc35, h⟩ | ⟨hc35, h⟩
           ·refine AW.condT' _ rfl hc35 ?_
            refine AW.sr ?_
            refine AO.c (Calm.assign rfl rfl) ?_
            refine AO.nH [2] (H' := []) (Sub.nil _) ?_
            refine AW.rK [2] ?_
            have hr := Option.some.inj h
            subst hr
            exact ⟨[(eBool false)], ⟨rfl, rfl, trivial⟩, rfl⟩
           ·refine AW.condF' _ rfl hc35 ?_
            refine AW.sK [1, 3, 4, 5] ?_
            refine AW.reg ?_
            refine AO.c (Calm.move rfl rfl) ?_
            refine AO.c (x := eI64 (w64 (x23 + (1 : Int)))) (Calm.int rfl rfl rfl rfl) ?_
            refine AO.c (Calm.assign rfl rfl) ?_
            refine AO.nK [1, 3, 4, 5] ?_
            exact ⟨kq25, Nat.lt_succ_self _, (w64 (x23 + (1 : Int))), rfl, rfl, by rw [hrec24]; exact h⟩
         ·refine AW.condN _ rfl hc27 ?_
          refine AW.eK [1, 3, 4] ?_
          exact ⟨rfl, rfl, h⟩
      ·rintro _ _ ⟨rfl, rfl, h⟩
       rw [bosketref08_Right_c1.eq_1] at h
       refine AW.reg ?_
       refine AO.c (Calm.move rfl rfl) ?_
       refine AO.c (x := eI64 (w64 (x10 + (1 : Int)))) (Calm.int rfl rfl rfl rfl) ?_
       refine AO.c (Calm.assign rfl rfl) ?_
       refine AO.nK [1, 3, 4] ?_
       exact ⟨kq12, Nat.lt_succ_self _, (w64 (x10 + (1 : Int))), rfl, rfl, by rw [hrec11]; exact h⟩
     ·refine AW.condN _ rfl hc13 ?_
      refine AW.eH [] (H' := []) (Sub.nil _) ?_
      exact ⟨rfl, rfl, h⟩
    ·rintro _ _ ⟨rfl, rfl, h⟩
     rw [bosketref08_Right_c0.eq_1] at h
     refine AW.sr ?_
     refine AO.c (Calm.assign rfl rfl) ?_
     refine AO.nK [2] ?_
     refine AW.rK [2] ?_
     have hr := Option.some.inj h
     subst hr
     exact ⟨[(eBool true)], ⟨rfl, rfl, trivial⟩, rfl⟩
end Go.Avl.T3
/- bosket/byteset.Count; printed by avmain.py. -/
namespace Go.Avl.T3
open Go Go.RowKit Go.Proofs Go.Avl
set_option linter.unusedVariables false
set_option maxRecDepth 100000
set_option maxHeartbeats 4000000
attribute [local irreducible] AW AO AQ Spec SpecH Calm

def byteset_Count_c0 (k : Nat) (x3 : Int) : Option Int :=
  some (x3)
def byteset_Count_l1 (k : Nat) (p0 : (Vector Int 256)) : Nat → Int → Int → Option Int
  | 0, _, _ => none
  | j + 1, x4, x5 =>
    if x5 < (256 : Int) then if 0 ≤ x5 ∧ x5 < (256 : Int) then (byteset_Count_l1 k p0 j) (max x4 (w64 ((w64 (vget p0 x5)) + (1 : Int)))) (w64 (x5 + (1 : Int)))
    else none
    else byteset_Count_c0 k x4
def byteset_Count (k : Nat) (p0 : (Vector Int 256)) : Option Int :=
  byteset_Count_l1 k p0 k (0 : Int) (0 : Int)
theorem byteset_Count_spec {k : Nat} {p0 : (Vector Int 256)} {r : Int} (h : byteset_Count k p0 = some r) : Spec Try.prog 52 [(.ar 1 (p0.toList.map eU8))] (eI64 r) := by
  rw [byteset_Count.eq_1] at h
  refine Spec.intro (res := [.tmp 2]) Try.func52 rfl rfl rfl (Nat.le_of_ble_eq_true rfl) ?_
  refine AW.sr ?_
  refine AO.box rfl 1 rfl (by decide) rfl rfl rfl fun n2 => ?_
  refine AO.c (Calm.assign rfl rfl) ?_
  refine AO.nK [1] ?_
  refine AW.sr ?_
  refine AO.c (Calm.assign rfl rfl) ?_
  refine AO.nK [1, 3] ?_
  refine AW.seq_mid (fun ρ H => ∃ (x3 : Int), ρ = [(3, (eI64 x3))] ∧ H = [] ∧ byteset_Count_c0 k x3 = some r) ?_ ?_
  ·refine AW.sr ?_
   refine AO.c (Calm.load 0 rfl rfl rfl (At.cast At.here rfl) ag47 (by rw [sz47]; simp [AV.size])) ?_
   refine AO.c (Calm.move rfl rfl) ?_
   refine AO.nH [3, 6, 7] (H' := []) (Sub.nil _) ?_
   refine AW.block ?_
   refine AW.wK [3, 6, 7] ?_
   refine AW.loop (fun kq ρ H => ∃ (x4 : Int) (x5 : Int), ρ = [(3, (eI64 x4)), (6, (.ar 1 (p0.toList.map eU8))), (7, (eI64 x5))] ∧ H = [] ∧ byteset_Count_l1 k p0 kq x4 x5 = some r) k ⟨(0 : Int), (0 : Int), rfl, rfl, h⟩ ?_
   rintro kq7 _ _ ⟨x4, x5, rfl, rfl, h⟩
   cases kq7 with
   | zero => rw [byteset_Count_l1.eq_1] at h; cases h
   | succ kq7 =>
   rw [byteset_Count_l1.eq_2] at h
   generalize hrec6 : byteset_Count_l1 k p0 kq7 = rec6 at h
   refine AW.sr ?_
   refine AO.c (x := eBool (decide (x5 < (256 : Int)))) (Calm.int rfl rfl rfl rfl) ?_
   refine AO.nK [3, 6, 7, 8] ?_
   refine AW.seq ?_
   rcases of_ite h with ⟨hc8, h⟩ | ⟨hc8, h⟩
   ·refine AW.condP _ rfl hc8 ?_
    refine AW.sK [3, 6, 7] ?_
    refine AW.seq ?_
    refine AW.block ?_
    refine AW.sr ?_
    obtain ⟨hg9, h⟩ := of_guard h
    refine AO.c (x := eU8 (vget p0 x5)) (Calm.idxVv (f := eU8) rfl rfl rfl hg9 Try.underlying47 sz5 ag5 rfl) ?_
    refine AO.c (Calm.assign rfl rfl) ?_
    refine AO.nK [3, 5, 6, 7] ?_
    refine AW.reg ?_
    refine AO.c (Calm.move rfl rfl) ?_
    refine AO.c (Calm.move rfl rfl) ?_
    refine AO.c (x := eI64 (w64 (vget p0 x5))) (Calm.conv rfl rfl Try.underlying5 Try.underlying3) ?_
    refine AO.c (x := eI64 (w64 ((w64 (vget p0 x5)) + (1 : Int)))) (Calm.int rfl rfl rfl rfl) ?_
    refine AO.c (x := eI64 (max x4 (w64 ((w64 (vget p0 x5)) + (1 : Int))))) (Calm.max2 rfl rfl rfl) ?_
    refine AO.c (Calm.assign rfl rfl) ?_
    refine AO.nK [3, 6, 7] ?_
    refine AW.reg ?_
    refine AO.c (x := eI64 (w64 (x5 + (1 : Int)))) (Calm.int rfl rfl rfl rfl) ?_
    refine AO.c (Calm.move rfl rfl) ?_
    refine AO.nK [3, 6, 7] ?_
    exact ⟨kq7, Nat.lt_succ_self _, (max x4 (w64 ((w64 (vget p0 x5)) + (1 : Int)))), (w64 (x5 + (1 : Int))), rfl, rfl, by rw [hrec6]; exact h⟩
   ·refine AW.condN _ rfl hc8 ?_
    refine AW.eK [3] ?_
    exact ⟨x4, rfl, rfl, h⟩
  ·rintro _ _ ⟨x3, rfl, rfl, h⟩
   rw [byteset_Count_c0.eq_1] at h
   refine AW.sr ?_
   refine AO.c (Calm.move rfl rfl) ?_
   refine AO.c (Calm.assign rfl rfl) ?_
   refine AO.nK [2] ?_
   refine AW.rK [2] ?_
   have hr := Option.some.inj h
   subst hr
   exact ⟨[(eI64 x3)], ⟨rfl, rfl, trivial⟩, rfl⟩
end Go.Avl.T3
/- bosket/dfa.gapless; printed by avmain.py. -/
namespace Go.Avl.T3
open Go Go.RowKit Go.Proofs Go.Avl
set_option linter.unusedVariables false
set_option maxRecDepth 100000
set_option maxHeartbeats 4000000
attribute [local irreducible] AW AO AQ Spec SpecH Calm

def dfa_gapless_c0 (k : Nat) : Option Bool :=
  some (true)
def dfa_gapless_l1 (k : Nat) (x6 : (List Bool)) : Nat → Int → Option Bool
  | 0, _ => none
  | j + 1, x7 =>
    if x7 < (x6.length : Int) then if 0 ≤ x7 ∧ x7 < (x6.length : Int) then if (!(lget x6 x7)) = true then some (false)
    else (dfa_gapless_l1 k x6 j) (w64 (x7 + (1 : Int)))
    else none
    else dfa_gapless_c0 k
def dfa_gapless_c2 (k : Nat) (x6 : (List Bool)) : Option Bool :=
  dfa_gapless_l1 k x6 k (0 : Int)
def dfa_gapless_l3 (k : Nat) (p0 : (Vector Int 256)) : Nat → (List Bool) → Int → Option Bool
  | 0, _, _ => none
  | j + 1, x13, x14 =>
    if x14 < (256 : Int) then if 0 ≤ x14 ∧ x14 < (256 : Int) then if 0 ≤ (vget p0 x14) ∧ (vget p0 x14) < (x13.length : Int) then (dfa_gapless_l3 k p0 j) (lset x13 (vget p0 x14) true) (w64 (x14 + (1 : Int)))
    else none
    else none
    else dfa_gapless_c2 k x13
def dfa_gapless (k : Nat) (p0 : (Vector Int 256)) (p1 : Int) : Option Bool :=
  if 0 ≤ p1 ∧ p1 * (1 : Int) ≤ 140737488355328 ∧ p1 ≤ 9223372036854775807 then dfa_gapless_l3 k p0 k (List.replicate p1.toNat false) (0 : Int)
  else none
theorem dfa_gapless_spec {k : Nat} {p0 : (Vector Int 256)} {p1 : Int} {r : Bool} (h : dfa_gapless k p0 p1 = some r) : Spec Try.prog 53 [(.ar 1 (p0.toList.map eU8)), (eI64 p1)] (eBool r) := by
  rw [dfa_gapless.eq_1] at h
  refine Spec.intro (res := [.tmp 4]) Try.func53 rfl rfl rfl (Nat.le_of_ble_eq_true rfl) ?_
  refine AW.sr ?_
  refine AO.box rfl 2 rfl (by decide) rfl rfl rfl fun n3 => ?_
  refine AO.c (Calm.assign rfl rfl) ?_
  refine AO.nK [1, 2] ?_
  refine AW.sr ?_
  refine AO.c (Calm.move rfl rfl) ?_
  obtain ⟨hg5, h⟩ := of_guard h
  refine AO.makeL (f := eBool) false rfl 11 rfl (by decide) rfl rfl rfl Try.underlying25 sz4 by4 zr4 lay4 rfl hg5 fun n4 => ?_
  refine AO.c (Calm.assign rfl rfl) ?_
  refine AO.nH [2, 5] (H' := [(n3, (.mem (.ar 1 (p0.toList.map eU8)))), (n4, (.mem (.ar 1 ((List.replicate p1.toNat false).map eBool))))]) (Sub.cons 1 rfl (Sub.cons 0 rfl (Sub.nil _))) ?_
  refine AW.seq_mid (fun ρ H => ∃ (x6 : (List Bool)), ρ = [(5, (.own n4 0 x6.length))] ∧ H = [(n4, (.mem (.ar 1 (x6.map eBool))))] ∧ dfa_gapless_c2 k x6 = some r) ?_ ?_
  ·refine AW.sr ?_
   refine AO.c (Calm.load 0 rfl rfl rfl (At.cast At.here rfl) ag47 (by rw [sz47]; simp [AV.size])) ?_
   refine AO.c (Calm.move rfl rfl) ?_
   refine AO.nH [5, 12, 13] (H' := [(n4, (.mem (.ar 1 ((List.replicate p1.toNat false).map eBool))))]) (Sub.cons 1 rfl (Sub.nil _)) ?_
   refine AW.block ?_
   refine AW.wK [5, 12, 13] ?_
   refine AW.loop (fun kq ρ H => ∃ (x13 : (List Bool)) (x14 : Int), ρ = [(5, (.own n4 0 x13.length)), (12, (.ar 1 (p0.toList.map eU8))), (13, (eI64 x14))] ∧ H = [(n4, (.mem (.ar 1 (x13.map eBool))))] ∧ dfa_gapless_l3 k p0 kq x13 x14 = some r) k ⟨(List.replicate p1.toNat false), (0 : Int), rfl, rfl, h⟩ ?_
   rintro kq16 _ _ ⟨x13, x14, rfl, rfl, h⟩
   cases kq16 with
   | zero => rw [dfa_gapless_l3.eq_1] at h; cases h
   | succ kq16 =>
   rw [dfa_gapless_l3.eq_2] at h
   generalize hrec15 : dfa_gapless_l3 k p0 kq16 = rec15 at h
   refine AW.sr ?_
   refine AO.c (x := eBool (decide (x14 < (256 : Int)))) (Calm.int rfl rfl rfl rfl) ?_
   refine AO.nK [5, 12, 13, 14] ?_
   refine AW.seq ?_
   rcases of_ite h with ⟨hc17, h⟩ | ⟨hc17, h⟩
   ·refine AW.condP _ rfl hc17 ?_
    refine AW.sK [5, 12, 13] ?_
    refine AW.seq ?_
    refine AW.block ?_
    refine AW.sr ?_
    obtain ⟨hg18, h⟩ := of_guard h
    refine AO.c (x := eU8 (vget p0 x14)) (Calm.idxVv (f := eU8) rfl rfl rfl hg18 Try.underlying47 sz5 ag5 rfl) ?_
    refine AO.c (Calm.assign rfl rfl) ?_
    refine AO.nK [5, 7, 12, 13] ?_
    refine AW.reg ?_
    refine AO.c (Calm.move rfl rfl) ?_
    refine AO.c (Calm.move rfl rfl) ?_
    obtain ⟨hg19, h⟩ := of_guard h
    refine AO.c (Calm.idxO 0 rfl rfl rfl rfl hg19 Try.underlying25 sz4) ?_
    refine AO.store (X' := (.ar 1 ((lset x13 (vget p0 x14) true).map eBool))) 0 rfl rfl rfl rfl rfl rfl (Put.cast (Put.lidx (vget p0 x14) true hg19.1 hg19.2 Put.here) (by omega)) rfl rfl sz4 rfl ?_
    refine AO.coe 5 (y' := (.own n4 0 (lset x13 (vget p0 x14) true).length)) rfl (fun _ _ h => lset_own h) ?_
    refine AO.coe 16 (y' := (.own n4 0 (lset x13 (vget p0 x14) true).length)) rfl (fun _ _ h => lset_own h) ?_
    refine AO.nK [5, 12, 13] ?_
    refine AW.reg ?_
    refine AO.c (x := eI64 (w64 (x14 + (1 : Int)))) (Calm.int rfl rfl rfl rfl) ?_
    refine AO.c (Calm.move rfl rfl) ?_
    refine AO.nK [5, 12, 13] ?_
    exact ⟨kq16, Nat.lt_succ_self _, (lset x13 (vget p0 x14) true), (w64 (x14 + (1 : Int))), rfl, rfl, by rw [hrec15]; exact h⟩
   ·refine AW.condN _ rfl hc17 ?_
    refine AW.eK [5] ?_
    exact ⟨x13, rfl, rfl, h⟩
  ·rintro _ _ ⟨x6, rfl, rfl, h⟩
   rw [dfa_gapless_c2.eq_1] at h
   refine AW.seq_mid (fun ρ H => ρ = [] ∧ H = [] ∧ dfa_gapless_c0 k = some r) ?_ ?_
   ·refine AW.sr ?_
    refine AO.c (Calm.move rfl rfl) ?_
    refine AO.c (Calm.lenOwn rfl rfl Try.underlying25) ?_
    refine AO.c (Calm.move rfl rfl) ?_
    refine AO.nK [20, 21, 22] ?_
    refine AW.block ?_
    refine AW.wK [20, 21, 22] ?_
    refine AW.loop (fun kq ρ H => ∃ (x7 : Int), ρ = [(20, (.own n4 0 x6.length)), (21, (eI64 (x6.length : Int))), (22, (eI64 x7))] ∧ H = [(n4, (.mem (.ar 1 (x6.map eBool))))] ∧ dfa_gapless_l1 k x6 kq x7 = some r) k ⟨(0 : Int), rfl, rfl, h⟩ ?_
    rintro kq9 _ _ ⟨x7, rfl, rfl, h⟩
    cases kq9 with
    | zero => rw [dfa_gapless_l1.eq_1] at h; cases h
    | succ kq9 =>
    rw [dfa_gapless_l1.eq_2] at h
    generalize hrec8 : dfa_gapless_l1 k x6 kq9 = rec8 at h
    refine AW.sr ?_
    refine AO.c (x := eBool (decide (x7 < (x6.length : Int)))) (Calm.int rfl rfl rfl rfl) ?_
    refine AO.nK [20, 21, 22, 23] ?_
    refine AW.seq ?_
    rcases of_ite h with ⟨hc10, h⟩ | ⟨hc10, h⟩
    ·refine AW.condP _ rfl hc10 ?_
     refine AW.sK [20, 21, 22] ?_
     refine AW.seq ?_
     refine AW.block ?_
     refine AW.sr ?_
     obtain ⟨hg11, h⟩ := of_guard h
     refine AO.c (Calm.idxO 0 rfl rfl rfl rfl hg11 Try.underlying25 sz4) ?_
     refine AO.c (Calm.load 0 rfl rfl rfl (At.cast (At.lidx x7 hg11.1 hg11.2 At.here) (by omega)) ag4 sz4) ?_
     refine AO.c (Calm.assign rfl rfl) ?_
     refine AO.nK [9, 20, 21, 22] ?_
     refine AW.sr ?_
     refine AO.c (Calm.move rfl rfl) ?_
     refine AO.c (Calm.not rfl rfl) ?_
     refine AO.nK [20, 21, 22, 27] ?_
     rcases of_ite h with ⟨hc12, h⟩ | ⟨hc12, h⟩
     ·refine AW.condT' _ rfl hc12 ?_
      refine AW.sr ?_
      refine AO.c (Calm.assign rfl rfl) ?_
      refine AO.nH [4] (H' := []) (Sub.nil _) ?_
      refine AW.rK [4] ?_
      have hr := Option.some.inj h
      subst hr
      exact ⟨[(eBool false)], ⟨rfl, rfl, trivial⟩, rfl⟩
     ·refine AW.condF' _ rfl hc12 ?_
      refine AW.sK [20, 21, 22] ?_
      refine AW.reg ?_
      refine AO.c (x := eI64 (w64 (x7 + (1 : Int)))) (Calm.int rfl rfl rfl rfl) ?_
      refine AO.c (Calm.move rfl rfl) ?_
      refine AO.nK [20, 21, 22] ?_
      exact ⟨kq9, Nat.lt_succ_self _, (w64 (x7 + (1 : Int))), rfl, rfl, by rw [hrec8]; exact h⟩
    ·refine AW.condN _ rfl hc10 ?_
     refine AW.eH [] (H' := []) (Sub.nil _) ?_
     exact ⟨rfl, rfl, h⟩
   ·rintro _ _ ⟨rfl, rfl, h⟩
    rw [dfa_gapless_c0.eq_1] at h
    refine AW.sr ?_
    refine AO.c (Calm.assign rfl rfl) ?_
    refine AO.nK [4] ?_
    refine AW.rK [4] ?_
    have hr := Option.some.inj h
    subst hr
    exact ⟨[(eBool true)], ⟨rfl, rfl, trivial⟩, rfl⟩
end Go.Avl.T3
/- bosket/dfa.Right; printed by avmain.py. -/
namespace Go.Avl.T3
open Go Go.RowKit Go.Proofs Go.Avl
set_option linter.unusedVariables false
set_option maxRecDepth 100000
set_option maxHeartbeats 4000000
attribute [local irreducible] AW AO AQ Spec SpecH Calm

def dfa_Right_c0 (k : Nat) : Option Bool :=
  some (true)
def dfa_Right_c1 (k : Nat) (rec12 : (Int → Option Bool)) (x11 : Int) : Option Bool :=
  rec12 (w64 (x11 + (1 : Int)))
def dfa_Right_l2 (k : Nat) (rec12 : (Int → Option Bool)) (p0 : S50) (x11 : Int) : Nat → Int → Option Bool
  | 0, _ => none
  | j + 1, x23 =>
    if x23 < ((lget p0.f1 x11).length : Int) then if 0 ≤ x23 ∧ x23 < ((lget p0.f1 x11).length : Int) then Option.bind (α := Bool) (if (lget (lget p0.f1 x11) x23) < (-1 : Int) then some (true)
    else some (decide ((p0.f1.length : Int) ≤ (lget (lget p0.f1 x11) x23)))) fun b28 =>
    if b28 = true then some (false)
    else (dfa_Right_l2 k rec12 p0 x11 j) (w64 (x23 + (1 : Int)))
    else none
    else dfa_Right_c1 k rec12 x11
def dfa_Right_l3 (k : Nat) (p0 : S50) (t8 : Int) : Nat → Int → Option Bool
  | 0, _ => none
  | j + 1, x11 =>
    if x11 < (p0.f1.length : Int) then if 0 ≤ x11 ∧ x11 < (p0.f1.length : Int) then Option.bind (α := Bool) (if ((lget p0.f1 x11).length : Int) ≠ t8 then some (true)
    else if 0 ≤ x11 ∧ x11 < (p0.f2.length : Int) then if (lget p0.f2 x11) < (-1 : Int) then some (true)
    else if 0 ≤ x11 ∧ x11 < (p0.f2.length : Int) then some (decide ((32768 : Int) ≤ (lget p0.f2 x11)))
    else none
    else none) fun b16 =>
    if b16 = true then some (false)
    else dfa_Right_l2 k (dfa_Right_l3 k p0 t8 j) p0 x11 k (0 : Int)
    else none
    else dfa_Right_c0 k
def dfa_Right (k : Nat) (p0 : S50) : Option Bool :=
  Option.bind (α := Bool) (if (p0.f1.length : Int) = (0 : Int) then some (true)
  else if (32768 : Int) < (p0.f1.length : Int) then some (true)
  else some (decide ((p0.f2.length : Int) ≠ (p0.f1.length : Int)))) fun b3 =>
  if b3 = true then some (false)
  else (byteset_Count k p0.f0).bind fun t8 =>
  (dfa_gapless k p0.f0 t8).bind fun t9 =>
  if (!t9) = true then some (false)
  else dfa_Right_l3 k p0 t8 k (0 : Int)
theorem dfa_Right_spec {k : Nat} {p0 : S50} {r : Bool} (h : dfa_Right k p0 = some r) : Spec Try.prog 27 [(e50 p0)] (eBool r) := by
  rw [dfa_Right.eq_1] at h
  refine Spec.intro (res := [.tmp 2]) Try.func27 rfl rfl rfl (Nat.le_of_ble_eq_true rfl) ?_
  refine AW.sr ?_
  refine AO.box rfl 1 rfl (by decide) rfl rfl rfl fun n2 => ?_
  refine AO.c (Calm.assign rfl rfl) ?_
  refine AO.nK [1] ?_
  refine AW.sr ?_
  refine AO.c (x := .ptr n2 256) (Calm.fldPtr rfl rfl Try.underlying50 rfl sz48 _ rfl) ?_
  refine AO.c (Calm.load 0 rfl rfl rfl (At.cast (At.fldS (At.fld0 At.here)) rfl) ag48 sz48) ?_
  refine AO.c (Calm.lenL rfl rfl Try.underlying48) ?_
  refine AO.c (Calm.assign rfl rfl) ?_
  refine AO.nK [1, 3] ?_
  refine AW.seq ?_
  refine AW.seq ?_
  obtain ⟨b3, hq4, h⟩ := of_bind h
  refine AW.regM [(1, (.ptr n2 0)), (3, (eI64 (p0.f1.length : Int))), (24, (eBool b3))] [(n2, (.mem (e50 p0)))] ?_ ?_
  ·refine AO.c (Calm.move rfl rfl) ?_
   refine AO.c (x := eBool (decide ((p0.f1.length : Int) = (0 : Int)))) (Calm.int rfl rfl rfl rfl) ?_
   refine AO.c (Calm.move rfl rfl) ?_
   rcases of_ite hq4 with ⟨hc5, hq4⟩ | ⟨hc5, hq4⟩
   ·refine AO.sF rfl rfl (bD (decide_eq_true hc5)) ?_
    refine AO.sF rfl rfl (bD (decide_eq_true hc5)) ?_
    refine AO.c (Calm.pickT rfl (bD (decide_eq_true hc5)) rfl) ?_
    refine AO.c (Calm.move rfl rfl) ?_
    refine AO.sF rfl rfl rfl ?_
    refine AO.sF rfl rfl rfl ?_
    refine AO.sF rfl rfl rfl ?_
    refine AO.sF rfl rfl rfl ?_
    refine AO.sF rfl rfl rfl ?_
    refine AO.c (Calm.pickT rfl rfl rfl) ?_
    cases hq4
    refine AO.nilE ⟨rfl, rfl⟩ ?_ ?_
    · exact ⟨rfl, rfl, rfl, trivial⟩
    · exact (Sub.refl _)
   ·refine AO.cG rfl rfl (bD (decide_eq_false hc5)) (Calm.move rfl rfl) ?_
    refine AO.cG (x := eBool (decide ((32768 : Int) < (p0.f1.length : Int)))) rfl rfl (bD (decide_eq_false hc5)) (Calm.int rfl rfl rfl rfl) ?_
    refine AO.c (Calm.pickF rfl (bD (decide_eq_false hc5)) rfl) ?_
    refine AO.c (Calm.move rfl rfl) ?_
    rcases of_ite hq4 with ⟨hc6, hq4⟩ | ⟨hc6, hq4⟩
    ·refine AO.sF rfl rfl (bD (decide_eq_true hc6)) ?_
     refine AO.sF rfl rfl (bD (decide_eq_true hc6)) ?_
     refine AO.sF rfl rfl (bD (decide_eq_true hc6)) ?_
     refine AO.sF rfl rfl (bD (decide_eq_true hc6)) ?_
     refine AO.sF rfl rfl (bD (decide_eq_true hc6)) ?_
     refine AO.c (Calm.pickT rfl (bD (decide_eq_true hc6)) rfl) ?_
     cases hq4
     refine AO.nilE ⟨rfl, rfl⟩ ?_ ?_
     · exact ⟨rfl, rfl, rfl, trivial⟩
     · exact (Sub.refl _)
    ·refine AO.cG (x := .ptr n2 257) rfl rfl (bD (decide_eq_false hc6)) (Calm.fldPtr rfl rfl Try.underlying50 rfl sz43 _ rfl) ?_
     refine AO.cG rfl rfl (bD (decide_eq_false hc6)) (Calm.load 0 rfl rfl rfl (At.cast (At.fldS (At.fldS (At.fld0 At.here))) rfl) ag43 sz43) ?_
     refine AO.cG rfl rfl (bD (decide_eq_false hc6)) (Calm.lenL rfl rfl Try.underlying43) ?_
     refine AO.cG rfl rfl (bD (decide_eq_false hc6)) (Calm.move rfl rfl) ?_
     refine AO.cG (x := eBool (decide ((p0.f2.length : Int) ≠ (p0.f1.length : Int)))) rfl rfl (bD (decide_eq_false hc6)) (Calm.int rfl rfl rfl rfl) ?_
     refine AO.c (Calm.pickF rfl (bD (decide_eq_false hc6)) rfl) ?_
     cases hq4
     refine AO.nilE ⟨rfl, rfl⟩ ?_ ?_
     · exact ⟨rfl, rfl, rfl, trivial⟩
     · exact (Sub.refl _)
  ·rcases of_ite h with ⟨hc7, h⟩ | ⟨hc7, h⟩
   ·refine AW.condT' _ rfl hc7 ?_
    refine AW.sr ?_
    refine AO.c (Calm.assign rfl rfl) ?_
    refine AO.nH [2] (H' := []) (Sub.nil _) ?_
    refine AW.rK [2] ?_
    have hr := Option.some.inj h
    subst hr
    exact ⟨[(eBool false)], ⟨rfl, rfl, trivial⟩, rfl⟩
   ·refine AW.condF' _ rfl hc7 ?_
    refine AW.sK [1, 3] ?_
    refine AW.sr ?_
    refine AO.c (x := .ptr n2 0) (Calm.fldPtr rfl rfl Try.underlying50 rfl sz47 _ rfl) ?_
    refine AO.c (Calm.load 0 rfl rfl rfl (At.cast (At.fld0 At.here) rfl) ag47 (by rw [sz47]; simp [AV.size])) ?_
    obtain ⟨t8, et8, h⟩ := of_bind h
    refine AO.callS [(.ar 1 (p0.f0.toList.map eU8))] (eI64 t8) 27 rfl (by decide) ok52 rfl rfl rfl ⟨rfl, rfl, trivial⟩ (byteset_Count_spec et8) ?_
    refine AO.c (Calm.assign rfl rfl) ?_
    refine AO.nK [1, 3, 4] ?_
    refine AW.seq ?_
    refine AW.sr ?_
    refine AO.c (x := .ptr n2 0) (Calm.fldPtr rfl rfl Try.underlying50 rfl sz47 _ rfl) ?_
    refine AO.c (Calm.load 0 rfl rfl rfl (At.cast (At.fld0 At.here) rfl) ag47 (by rw [sz47]; simp [AV.size])) ?_
    refine AO.c (Calm.move rfl rfl) ?_
    obtain ⟨t9, et9, h⟩ := of_bind h
    refine AO.callS [(.ar 1 (p0.f0.toList.map eU8)), (eI64 t8)] (eBool t9) 31 rfl (by decide) ok53 rfl rfl rfl ⟨rfl, rfl, rfl, rfl, trivial⟩ (dfa_gapless_spec et9) ?_
    refine AO.c (Calm.not rfl rfl) ?_
    refine AO.nK [1, 3, 4, 32] ?_
    rcases of_ite h with ⟨hc10, h⟩ | ⟨hc10, h⟩
    ·refine AW.condT' _ rfl hc10 ?_
     refine AW.sr ?_
     refine AO.c (Calm.assign rfl rfl) ?_
     refine AO.nH [2] (H' := []) (Sub.nil _) ?_
     refine AW.rK [2] ?_
     have hr := Option.some.inj h
     subst hr
     exact ⟨[(eBool false)], ⟨rfl, rfl, trivial⟩, rfl⟩
    ·refine AW.condF' _ rfl hc10 ?_
     refine AW.sK [1, 3, 4] ?_
     refine AW.seq_mid (fun ρ H => ρ = [] ∧ H = [] ∧ dfa_Right_c0 k = some r) ?_ ?_
     ·refine AW.sr ?_
      refine AO.c (x := .ptr n2 256) (Calm.fldPtr rfl rfl Try.underlying50 rfl sz48 _ rfl) ?_
      refine AO.c (Calm.load 0 rfl rfl rfl (At.cast (At.fldS (At.fld0 At.here)) rfl) ag48 sz48) ?_
      refine AO.c (Calm.lenL rfl rfl Try.underlying48) ?_
      refine AO.c (Calm.move rfl rfl) ?_
      refine AO.nK [1, 3, 4, 34, 35, 36] ?_
      refine AW.block ?_
      refine AW.wK [1, 3, 4, 34, 35, 36] ?_
      refine AW.loop (fun kq ρ H => ∃ (x11 : Int), ρ = [(1, (.ptr n2 0)), (3, (eI64 (p0.f1.length : Int))), (4, (eI64 t8)), (34, (.fz 1 (p0.f1.map e43))), (35, (eI64 (p0.f1.length : Int))), (36, (eI64 x11))] ∧ H = [(n2, (.mem (e50 p0)))] ∧ dfa_Right_l3 k p0 t8 kq x11 = some r) k ⟨(0 : Int), rfl, rfl, h⟩ ?_
      rintro kq13 _ _ ⟨x11, rfl, rfl, h⟩
      cases kq13 with
      | zero => rw [dfa_Right_l3.eq_1] at h; cases h
      | succ kq13 =>
      rw [dfa_Right_l3.eq_2] at h
      generalize hrec12 : dfa_Right_l3 k p0 t8 kq13 = rec12 at h
      refine AW.sr ?_
      refine AO.c (x := eBool (decide (x11 < (p0.f1.length : Int)))) (Calm.int rfl rfl rfl rfl) ?_
      refine AO.nK [1, 3, 4, 34, 35, 36, 37] ?_
      refine AW.seq ?_
      rcases of_ite h with ⟨hc14, h⟩ | ⟨hc14, h⟩
      ·refine AW.condP _ rfl hc14 ?_
       refine AW.sK [1, 3, 4, 34, 35, 36] ?_
       refine AW.seq_mid (fun ρ H => ρ = [(1, (.ptr n2 0)), (3, (eI64 (p0.f1.length : Int))), (4, (eI64 t8)), (34, (.fz 1 (p0.f1.map e43))), (35, (eI64 (p0.f1.length : Int))), (36, (eI64 x11))] ∧ H = [(n2, (.mem (e50 p0)))] ∧ dfa_Right_c1 k rec12 x11 = some r) ?_ ?_
       ·refine AW.block ?_
        refine AW.sr ?_
        refine AO.c (Calm.move rfl rfl) ?_
        obtain ⟨hg15, h⟩ := of_guard h
        refine AO.c (Calm.idxL (f := e43) rfl rfl rfl hg15 Try.underlying48 sz43) ?_
        refine AO.c (Calm.loadRp rfl rfl ag43 sz43) ?_
        refine AO.c (Calm.assign rfl rfl) ?_
        refine AO.c (Calm.assign rfl rfl) ?_
        refine AO.nK [1, 3, 4, 5, 6, 34, 35, 36] ?_
        refine AW.seq ?_
        refine AW.seq ?_
        obtain ⟨b16, hq17, h⟩ := of_bind h
        refine AW.regM [(1, (.ptr n2 0)), (3, (eI64 (p0.f1.length : Int))), (4, (eI64 t8)), (6, (.fz 1 ((lget p0.f1 x11).map eI64))), (34, (.fz 1 (p0.f1.map e43))), (35, (eI64 (p0.f1.length : Int))), (36, (eI64 x11)), (60, (eBool b16))] [(n2, (.mem (e50 p0)))] ?_ ?_
        ·refine AO.c (Calm.move rfl rfl) ?_
         refine AO.c (Calm.lenL rfl rfl Try.underlying43) ?_
         refine AO.c (Calm.move rfl rfl) ?_
         refine AO.c (x := eBool (decide (((lget p0.f1 x11).length : Int) ≠ t8))) (Calm.int rfl rfl rfl rfl) ?_
         refine AO.c (Calm.move rfl rfl) ?_
         rcases of_ite hq17 with ⟨hc18, hq17⟩ | ⟨hc18, hq17⟩
         ·refine AO.sF rfl rfl (bD (decide_eq_true hc18)) ?_
          refine AO.sF rfl rfl (bD (decide_eq_true hc18)) ?_
          refine AO.sF rfl rfl (bD (decide_eq_true hc18)) ?_
          refine AO.sF rfl rfl (bD (decide_eq_true hc18)) ?_
          refine AO.sF rfl rfl (bD (decide_eq_true hc18)) ?_
          refine AO.sF rfl rfl (bD (decide_eq_true hc18)) ?_
          refine AO.c (Calm.pickT rfl (bD (decide_eq_true hc18)) rfl) ?_
          refine AO.c (Calm.move rfl rfl) ?_
          refine AO.sF rfl rfl rfl ?_
          refine AO.sF rfl rfl rfl ?_
          refine AO.sF rfl rfl rfl ?_
          refine AO.sF rfl rfl rfl ?_
          refine AO.sF rfl rfl rfl ?_
          refine AO.sF rfl rfl rfl ?_
          refine AO.c (Calm.pickT rfl rfl rfl) ?_
          cases hq17
          refine AO.nilE ⟨rfl, rfl⟩ ?_ ?_
          · exact ⟨rfl, rfl, rfl, rfl, rfl, rfl, rfl, rfl, trivial⟩
          · exact (Sub.refl _)
         ·refine AO.cG (x := .ptr n2 257) rfl rfl (bD (decide_eq_false hc18)) (Calm.fldPtr rfl rfl Try.underlying50 rfl sz43 _ rfl) ?_
          refine AO.cG rfl rfl (bD (decide_eq_false hc18)) (Calm.load 0 rfl rfl rfl (At.cast (At.fldS (At.fldS (At.fld0 At.here))) rfl) ag43 sz43) ?_
          refine AO.cG rfl rfl (bD (decide_eq_false hc18)) (Calm.move rfl rfl) ?_
          obtain ⟨hg19, hq17⟩ := of_guard hq17
          refine AO.cG rfl rfl (bD (decide_eq_false hc18)) (Calm.idxL (f := eI64) rfl rfl rfl hg19 Try.underlying43 sz3) ?_
          refine AO.cG rfl rfl (bD (decide_eq_false hc18)) (Calm.loadRp rfl rfl ag3 sz3) ?_
          refine AO.cG (x := eBool (decide ((lget p0.f2 x11) < (-1 : Int)))) rfl rfl (bD (decide_eq_false hc18)) (Calm.int rfl rfl rfl rfl) ?_
          refine AO.c (Calm.pickF rfl (bD (decide_eq_false hc18)) rfl) ?_
          refine AO.c (Calm.move rfl rfl) ?_
          rcases of_ite hq17 with ⟨hc20, hq17⟩ | ⟨hc20, hq17⟩
          ·refine AO.sF rfl rfl (bD (decide_eq_true hc20)) ?_
           refine AO.sF rfl rfl (bD (decide_eq_true hc20)) ?_
           refine AO.sF rfl rfl (bD (decide_eq_true hc20)) ?_
           refine AO.sF rfl rfl (bD (decide_eq_true hc20)) ?_
           refine AO.sF rfl rfl (bD (decide_eq_true hc20)) ?_
           refine AO.sF rfl rfl (bD (decide_eq_true hc20)) ?_
           refine AO.c (Calm.pickT rfl (bD (decide_eq_true hc20)) rfl) ?_
           cases hq17
           refine AO.nilE ⟨rfl, rfl⟩ ?_ ?_
           · exact ⟨rfl, rfl, rfl, rfl, rfl, rfl, rfl, rfl, trivial⟩
           · exact (Sub.refl _)
          ·refine AO.cG (x := .ptr n2 257) rfl rfl (bD (decide_eq_false hc20)) (Calm.fldPtr rfl rfl Try.underlying50 rfl sz43 _ rfl) ?_
           refine AO.cG rfl rfl (bD (decide_eq_false hc20)) (Calm.load 0 rfl rfl rfl (At.cast (At.fldS (At.fldS (At.fld0 At.here))) rfl) ag43 sz43) ?_
           refine AO.cG rfl rfl (bD (decide_eq_false hc20)) (Calm.move rfl rfl) ?_
           obtain ⟨hg21, hq17⟩ := of_guard hq17
           refine AO.cG rfl rfl (bD (decide_eq_false hc20)) (Calm.idxL (f := eI64) rfl rfl rfl hg21 Try.underlying43 sz3) ?_
           refine AO.cG rfl rfl (bD (decide_eq_false hc20)) (Calm.loadRp rfl rfl ag3 sz3) ?_
           refine AO.cG (x := eBool (decide ((32768 : Int) ≤ (lget p0.f2 x11)))) rfl rfl (bD (decide_eq_false hc20)) (Calm.int rfl rfl rfl rfl) ?_
           refine AO.c (Calm.pickF rfl (bD (decide_eq_false hc20)) rfl) ?_
           cases hq17
           refine AO.nilE ⟨rfl, rfl⟩ ?_ ?_
           · exact ⟨rfl, rfl, rfl, rfl, rfl, rfl, rfl, rfl, trivial⟩
           · exact (Sub.refl _)
        ·rcases of_ite h with ⟨hc22, h⟩ | ⟨hc22, h⟩
         ·refine AW.condT' _ rfl hc22 ?_
          refine AW.sr ?_
          refine AO.c (Calm.assign rfl rfl) ?_
          refine AO.nH [2] (H' := []) (Sub.nil _) ?_
          refine AW.rK [2] ?_
          have hr := Option.some.inj h
          subst hr
          exact ⟨[(eBool false)], ⟨rfl, rfl, trivial⟩, rfl⟩
         ·refine AW.condF' _ rfl hc22 ?_
          refine AW.sK [1, 3, 4, 6, 34, 35, 36] ?_
          refine AW.sr ?_
          refine AO.c (Calm.move rfl rfl) ?_
          refine AO.c (Calm.lenL rfl rfl Try.underlying43) ?_
          refine AO.c (Calm.move rfl rfl) ?_
          refine AO.nK [1, 3, 4, 34, 35, 36, 61, 62, 63] ?_
          refine AW.block ?_
          refine AW.wK [1, 3, 4, 34, 35, 36, 61, 62, 63] ?_
          refine AW.loop (fun kq ρ H => ∃ (x23 : Int), ρ = [(1, (.ptr n2 0)), (3, (eI64 (p0.f1.length : Int))), (4, (eI64 t8)), (34, (.fz 1 (p0.f1.map e43))), (35, (eI64 (p0.f1.length : Int))), (36, (eI64 x11)), (61, (.fz 1 ((lget p0.f1 x11).map eI64))), (62, (eI64 ((lget p0.f1 x11).length : Int))), (63, (eI64 x23))] ∧ H = [(n2, (.mem (e50 p0)))] ∧ dfa_Right_l2 k rec12 p0 x11 kq x23 = some r) k ⟨(0 : Int), rfl, rfl, h⟩ ?_
          rintro kq25 _ _ ⟨x23, rfl, rfl, h⟩
          cases kq25 with
          | zero => rw [dfa_Right_l2.eq_1] at h; cases h
          | succ kq25 =>
          rw [dfa_Right_l2.eq_2] at h
          generalize hrec24 : dfa_Right_l2 k rec12 p0 x11 kq25 = rec24 at h
          refine AW.sr ?_
          refine AO.c (x := eBool (decide (x23 < ((lget p0.f1 x11).length : Int)))) (Calm.int rfl rfl rfl rfl) ?_
          refine AO.nK [1, 3, 4, 34, 35, 36, 61, 62, 63, 64] ?_
          refine AW.seq ?_
          rcases of_ite h with ⟨hc26, h⟩ | ⟨hc26, h⟩
          ·refine AW.condP _ rfl hc26 ?_
           refine AW.sK [1, 3, 4, 34, 35, 36, 61, 62, 63] ?_
           refine AW.seq ?_
           refine AW.block ?_
           refine AW.sr ?_
           obtain ⟨hg27, h⟩ := of_guard h
           refine AO.c (Calm.idxL (f := eI64) rfl rfl rfl hg27 Try.underlying43 sz3) ?_
           refine AO.c (Calm.loadRp rfl rfl ag3 sz3) ?_
           refine AO.c (Calm.assign rfl rfl) ?_
           refine AO.nK [1, 3, 4, 8, 34, 35, 36, 61, 62, 63] ?_
           refine AW.seq ?_
           obtain ⟨b28, hq29, h⟩ := of_bind h
           refine AW.regM [(1, (.ptr n2 0)), (3, (eI64 (p0.f1.length : Int))), (4, (eI64 t8)), (34, (.fz 1 (p0.f1.map e43))), (35, (eI64 (p0.f1.length : Int))), (36, (eI64 x11)), (61, (.fz 1 ((lget p0.f1 x11).map eI64))), (62, (eI64 ((lget p0.f1 x11).length : Int))), (63, (eI64 x23)), (73, (eBool b28))] [(n2, (.mem (e50 p0)))] ?_ ?_
           ·refine AO.c (Calm.move rfl rfl) ?_
            refine AO.c (x := eBool (decide ((lget (lget p0.f1 x11) x23) < (-1 : Int)))) (Calm.int rfl rfl rfl rfl) ?_
            refine AO.c (Calm.move rfl rfl) ?_
            rcases of_ite hq29 with ⟨hc30, hq29⟩ | ⟨hc30, hq29⟩
            ·refine AO.sF rfl rfl (bD (decide_eq_true hc30)) ?_
             refine AO.sF rfl rfl (bD (decide_eq_true hc30)) ?_
             refine AO.sF rfl rfl (bD (decide_eq_true hc30)) ?_
             refine AO.c (Calm.pickT rfl (bD (decide_eq_true hc30)) rfl) ?_
             cases hq29
             refine AO.nilE ⟨rfl, rfl⟩ ?_ ?_
             · exact ⟨rfl, rfl, rfl, rfl, rfl, rfl, rfl, rfl, rfl, rfl, trivial⟩
             · exact (Sub.refl _)
            ·refine AO.cG rfl rfl (bD (decide_eq_false hc30)) (Calm.move rfl rfl) ?_
             refine AO.cG rfl rfl (bD (decide_eq_false hc30)) (Calm.move rfl rfl) ?_
             refine AO.cG (x := eBool (decide ((p0.f1.length : Int) ≤ (lget (lget p0.f1 x11) x23)))) rfl rfl (bD (decide_eq_false hc30)) (Calm.int rfl rfl rfl rfl) ?_
             refine AO.c (Calm.pickF rfl (bD (decide_eq_false hc30)) rfl) ?_
             cases hq29
             refine AO.nilE ⟨rfl, rfl⟩ ?_ ?_
             · exact ⟨rfl, rfl, rfl, rfl, rfl, rfl, rfl, rfl, rfl, rfl, trivial⟩
             · exact (Sub.refl _)
           ·rcases of_ite h with ⟨hc31, h⟩ | ⟨hc31, h⟩
            ·refine AW.condT' _ rfl hc31 ?_
             refine AW.sr ?_
             refine AO.c (Calm.assign rfl rfl) ?_
             refine AO.nH [2] (H' := []) (Sub.nil _) ?_
             refine AW.rK [2] ?_
             have hr := Option.some.inj h
             subst hr
             exact ⟨[(eBool false)], ⟨rfl, rfl, trivial⟩, rfl⟩
            ·refine AW.condF' _ rfl hc31 ?_
             refine AW.sK [1, 3, 4, 34, 35, 36, 61, 62, 63] ?_
             refine AW.reg ?_
             refine AO.c (x := eI64 (w64 (x23 + (1 : Int)))) (Calm.int rfl rfl rfl rfl) ?_
             refine AO.c (Calm.move rfl rfl) ?_
             refine AO.nK [1, 3, 4, 34, 35, 36, 61, 62, 63] ?_
             exact ⟨kq25, Nat.lt_succ_self _, (w64 (x23 + (1 : Int))), rfl, rfl, by rw [hrec24]; exact h⟩
          ·refine AW.condN _ rfl hc26 ?_
           refine AW.eK [1, 3, 4, 34, 35, 36] ?_
           exact ⟨rfl, rfl, h⟩
       ·rintro _ _ ⟨rfl, rfl, h⟩
        rw [dfa_Right_c1.eq_1] at h
        refine AW.reg ?_
        refine AO.c (x := eI64 (w64 (x11 + (1 : Int)))) (Calm.int rfl rfl rfl rfl) ?_
        refine AO.c (Calm.move rfl rfl) ?_
        refine AO.nK [1, 3, 4, 34, 35, 36] ?_
        exact ⟨kq13, Nat.lt_succ_self _, (w64 (x11 + (1 : Int))), rfl, rfl, by rw [hrec12]; exact h⟩
      ·refine AW.condN _ rfl hc14 ?_
       refine AW.eH [] (H' := []) (Sub.nil _) ?_
       exact ⟨rfl, rfl, h⟩
     ·rintro _ _ ⟨rfl, rfl, h⟩
      rw [dfa_Right_c0.eq_1] at h
      refine AW.sr ?_
      refine AO.c (Calm.assign rfl rfl) ?_
      refine AO.nK [2] ?_
      refine AW.rK [2] ?_
      have hr := Option.some.inj h
      subst hr
      exact ⟨[(eBool true)], ⟨rfl, rfl, trivial⟩, rfl⟩
end Go.Avl.T3
/- bosket/dfa.Reached; printed by avmain.py. -/
namespace Go.Avl.T3
open Go Go.RowKit Go.Proofs Go.Avl
set_option linter.unusedVariables false
set_option maxRecDepth 100000
set_option maxHeartbeats 4000000
attribute [local irreducible] AW AO AQ Spec SpecH Calm

end Go.Avl.T3
/- bosket/bosketref08.Reached; printed by avmain.py. -/
namespace Go.Avl.T3
open Go Go.RowKit Go.Proofs Go.Avl
set_option linter.unusedVariables false
set_option maxRecDepth 100000
set_option maxHeartbeats 4000000
attribute [local irreducible] AW AO AQ Spec SpecH Calm

def bosketref08_Reached_c0 (k : Nat) (x11 : (List Bool)) : Option (List Bool) :=
  some (x11)
def bosketref08_Reached_c1 (k : Nat) (rec14 : ((List Bool) → Int → Option (List Bool))) (x13 : Int) (x17 : (List Bool)) : Option (List Bool) :=
  rec14 x17 (w64 (x13 + (1 : Int)))
def bosketref08_Reached_c2 (k : Nat) (rec20 : ((List Bool) → Int → Option (List Bool))) (x19 : Int) (x23 : (List Bool)) : Option (List Bool) :=
  rec20 x23 (w64 (x19 + (1 : Int)))
def bosketref08_Reached_c3 (k : Nat) (rec26 : ((List Bool) → Int → Option (List Bool))) (x25 : Int) (x34 : (List Bool)) : Option (List Bool) :=
  rec26 x34 (w64 (x25 + (1 : Int)))
def bosketref08_Reached_l4 (k : Nat) (rec20 : ((List Bool) → Int → Option (List Bool))) (p0 : S50) (x19 : Int) : Nat → (List Bool) → Int → Option (List Bool)
  | 0, _, _ => none
  | j + 1, x24, x25 =>
    Option.bind (α := Bool) (if 0 ≤ x19 ∧ x19 < (x24.length : Int) then if (lget x24 x19) = true then if 0 ≤ x19 ∧ x19 < (p0.f1.length : Int) then some (decide (x25 < ((lget p0.f1 x19).length : Int)))
    else none
    else some (false)
    else none) fun b28 =>
    if b28 = true then if 0 ≤ x19 ∧ x19 < (p0.f1.length : Int) then if 0 ≤ x25 ∧ x25 < ((lget p0.f1 x19).length : Int) then if (0 : Int) ≤ (lget (lget p0.f1 x19) x25) then if 0 ≤ (lget (lget p0.f1 x19) x25) ∧ (lget (lget p0.f1 x19) x25) < (x24.length : Int) then bosketref08_Reached_c3 k (bosketref08_Reached_l4 k rec20 p0 x19 j) x25 (lset x24 (lget (lget p0.f1 x19) x25) true)
    else none
    else bosketref08_Reached_c3 k (bosketref08_Reached_l4 k rec20 p0 x19 j) x25 x24
    else none
    else none
    else bosketref08_Reached_c2 k rec20 x19 x24
def bosketref08_Reached_l5 (k : Nat) (rec14 : ((List Bool) → Int → Option (List Bool))) (p0 : S50) (x13 : Int) : Nat → (List Bool) → Int → Option (List Bool)
  | 0, _, _ => none
  | j + 1, x18, x19 =>
    if x19 < (x18.length : Int) then bosketref08_Reached_l4 k (bosketref08_Reached_l5 k rec14 p0 x13 j) p0 x19 k x18 (0 : Int)
    else bosketref08_Reached_c1 k rec14 x13 x18
def bosketref08_Reached_l6 (k : Nat) (p0 : S50) : Nat → (List Bool) → Int → Option (List Bool)
  | 0, _, _ => none
  | j + 1, x12, x13 =>
    if x13 < (x12.length : Int) then bosketref08_Reached_l5 k (bosketref08_Reached_l6 k p0 j) p0 x13 k x12 (0 : Int)
    else bosketref08_Reached_c0 k x12
def bosketref08_Reached (k : Nat) (p0 : S50) (p1 : Int) : Option (List Bool) :=
  if 0 ≤ (p0.f1.length : Int) ∧ (p0.f1.length : Int) * (1 : Int) ≤ 140737488355328 ∧ (p0.f1.length : Int) ≤ 9223372036854775807 then Option.bind (α := Bool) (if p1 < (0 : Int) then some (true)
  else some (decide (((List.replicate (p0.f1.length : Int).toNat false).length : Int) ≤ p1))) fun b6 =>
  if b6 = true then some ((List.replicate (p0.f1.length : Int).toNat false))
  else if 0 ≤ p1 ∧ p1 < ((List.replicate (p0.f1.length : Int).toNat false).length : Int) then bosketref08_Reached_l6 k p0 k (lset (List.replicate (p0.f1.length : Int).toNat false) p1 true) (0 : Int)
  else none
  else none
theorem bosketref08_Reached_spec {k : Nat} {p0 : S50} {p1 : Int} {r : (List Bool)} (h : bosketref08_Reached k p0 p1 = some r) : Spec Try.prog 36 [(e50 p0), (eI64 p1)] (e25 r) := by
  rw [bosketref08_Reached.eq_1] at h
  refine Spec.intro (res := [.tmp 4]) Try.func36 rfl rfl rfl (Nat.le_of_ble_eq_true rfl) ?_
  refine AW.sr ?_
  refine AO.box rfl 2 rfl (by decide) rfl rfl rfl fun n3 => ?_
  refine AO.c (Calm.assign rfl rfl) ?_
  refine AO.nK [1, 2] ?_
  refine AW.sr ?_
  refine AO.c (x := .ptr n3 256) (Calm.fldPtr rfl rfl Try.underlying50 rfl sz48 _ rfl) ?_
  refine AO.c (Calm.load 0 rfl rfl rfl (At.cast (At.fldS (At.fld0 At.here)) rfl) ag48 sz48) ?_
  refine AO.c (Calm.lenL rfl rfl Try.underlying48) ?_
  obtain ⟨hg5, h⟩ := of_guard h
  refine AO.makeL (f := eBool) false rfl 13 rfl (by decide) rfl rfl rfl Try.underlying25 sz4 by4 zr4 lay4 rfl hg5 fun n4 => ?_
  refine AO.c (Calm.assign rfl rfl) ?_
  refine AO.nH [1, 2, 5] (H' := [(n3, (.mem (e50 p0))), (n4, (.mem (.ar 1 ((List.replicate (p0.f1.length : Int).toNat false).map eBool))))]) (Sub.cons 1 rfl (Sub.cons 0 rfl (Sub.nil _))) ?_
  refine AW.seq ?_
  refine AW.seq ?_
  obtain ⟨b6, hq7, h⟩ := of_bind h
  refine AW.regM [(1, (eI64 p1)), (2, (.ptr n3 0)), (5, (.own n4 0 (List.replicate (p0.f1.length : Int).toNat false).length)), (21, (eBool b6))] [(n3, (.mem (e50 p0))), (n4, (.mem (.ar 1 ((List.replicate (p0.f1.length : Int).toNat false).map eBool))))] ?_ ?_
  ·refine AO.c (Calm.move rfl rfl) ?_
   refine AO.c (x := eBool (decide (p1 < (0 : Int)))) (Calm.int rfl rfl rfl rfl) ?_
   refine AO.c (Calm.move rfl rfl) ?_
   rcases of_ite hq7 with ⟨hc8, hq7⟩ | ⟨hc8, hq7⟩
   ·refine AO.sF rfl rfl (bD (decide_eq_true hc8)) ?_
    refine AO.sF rfl rfl (bD (decide_eq_true hc8)) ?_
    refine AO.sF rfl rfl (bD (decide_eq_true hc8)) ?_
    refine AO.sF rfl rfl (bD (decide_eq_true hc8)) ?_
    refine AO.c (Calm.pickT rfl (bD (decide_eq_true hc8)) rfl) ?_
    cases hq7
    refine AO.nilE ⟨rfl, rfl⟩ ?_ ?_
    · exact ⟨rfl, rfl, rfl, rfl, trivial⟩
    · exact (Sub.refl _)
   ·refine AO.cG rfl rfl (bD (decide_eq_false hc8)) (Calm.move rfl rfl) ?_
    refine AO.cG rfl rfl (bD (decide_eq_false hc8)) (Calm.move rfl rfl) ?_
    refine AO.cG rfl rfl (bD (decide_eq_false hc8)) (Calm.lenOwn rfl rfl Try.underlying25) ?_
    refine AO.cG (x := eBool (decide (((List.replicate (p0.f1.length : Int).toNat false).length : Int) ≤ p1))) rfl rfl (bD (decide_eq_false hc8)) (Calm.int rfl rfl rfl rfl) ?_
    refine AO.c (Calm.pickF rfl (bD (decide_eq_false hc8)) rfl) ?_
    cases hq7
    refine AO.nilE ⟨rfl, rfl⟩ ?_ ?_
    · exact ⟨rfl, rfl, rfl, rfl, trivial⟩
    · exact (Sub.refl _)
  ·rcases of_ite h with ⟨hc9, h⟩ | ⟨hc9, h⟩
   ·refine AW.condT' _ rfl hc9 ?_
    refine AW.sr ?_
    refine AO.c (Calm.move rfl rfl) ?_
    refine AO.c (Calm.assign rfl rfl) ?_
    refine AO.nH [4] (H' := [(n4, (.mem (.ar 1 ((List.replicate (p0.f1.length : Int).toNat false).map eBool))))]) (Sub.cons 1 rfl (Sub.nil _)) ?_
    refine AW.freezeS 0 [(4, (.fz 1 ((List.replicate (p0.f1.length : Int).toNat false).map eBool)))] rfl ⟨fz_all rfl, trivial⟩ ?_
    refine AW.rK [4] ?_
    have hr := Option.some.inj h
    subst hr
    exact ⟨[(.fz 1 ((List.replicate (p0.f1.length : Int).toNat false).map eBool))], ⟨rfl, rfl, trivial⟩, rfl⟩
   ·refine AW.condF' _ rfl hc9 ?_
    refine AW.sK [1, 2, 5] ?_
    refine AW.sr ?_
    refine AO.c (Calm.move rfl rfl) ?_
    refine AO.c (Calm.move rfl rfl) ?_
    obtain ⟨hg10, h⟩ := of_guard h
    refine AO.c (Calm.idxO 1 rfl rfl rfl rfl hg10 Try.underlying25 sz4) ?_
    refine AO.store (X' := (.ar 1 ((lset (List.replicate (p0.f1.length : Int).toNat false) p1 true).map eBool))) 1 rfl rfl rfl rfl rfl rfl (Put.cast (Put.lidx p1 true hg10.1 hg10.2 Put.here) (by omega)) rfl rfl sz4 rfl ?_
    refine AO.coe 5 (y' := (.own n4 0 (lset (List.replicate (p0.f1.length : Int).toNat false) p1 true).length)) rfl (fun _ _ h => lset_own h) ?_
    refine AO.coe 23 (y' := (.own n4 0 (lset (List.replicate (p0.f1.length : Int).toNat false) p1 true).length)) rfl (fun _ _ h => lset_own h) ?_
    refine AO.nK [2, 5] ?_
    refine AW.seq_mid (fun ρ H => ∃ (x11 : (List Bool)), ρ = [(5, (.own n4 0 x11.length))] ∧ H = [(n4, (.mem (.ar 1 (x11.map eBool))))] ∧ bosketref08_Reached_c0 k x11 = some r) ?_ ?_
    ·refine AW.sr ?_
     refine AO.c (Calm.assign rfl rfl) ?_
     refine AO.nK [2, 5, 6] ?_
     refine AW.block ?_
     refine AW.wK [2, 5, 6] ?_
     refine AW.loop (fun kq ρ H => ∃ (x12 : (List Bool)) (x13 : Int), ρ = [(2, (.ptr n3 0)), (5, (.own n4 0 x12.length)), (6, (eI64 x13))] ∧ H = [(n3, (.mem (e50 p0))), (n4, (.mem (.ar 1 (x12.map eBool))))] ∧ bosketref08_Reached_l6 k p0 kq x12 x13 = some r) k ⟨(lset (List.replicate (p0.f1.length : Int).toNat false) p1 true), (0 : Int), rfl, rfl, h⟩ ?_
     rintro kq15 _ _ ⟨x12, x13, rfl, rfl, h⟩
     cases kq15 with
     | zero => rw [bosketref08_Reached_l6.eq_1] at h; cases h
     | succ kq15 =>
     rw [bosketref08_Reached_l6.eq_2] at h
     generalize hrec14 : bosketref08_Reached_l6 k p0 kq15 = rec14 at h
     refine AW.seq ?_
     refine AW.sr ?_
     refine AO.c (Calm.move rfl rfl) ?_
     refine AO.c (Calm.move rfl rfl) ?_
     refine AO.c (Calm.lenOwn rfl rfl Try.underlying25) ?_
     refine AO.c (x := eBool (decide (x13 < (x12.length : Int)))) (Calm.int rfl rfl rfl rfl) ?_
     refine AO.nK [2, 5, 6, 29] ?_
     rcases of_ite h with ⟨hc16, h⟩ | ⟨hc16, h⟩
     ·refine AW.condP _ rfl hc16 ?_
      refine AW.sK [2, 5, 6] ?_
      refine AW.seq_mid (fun ρ H => ∃ (x17 : (List Bool)), ρ = [(2, (.ptr n3 0)), (5, (.own n4 0 x17.length)), (6, (eI64 x13))] ∧ H = [(n3, (.mem (e50 p0))), (n4, (.mem (.ar 1 (x17.map eBool))))] ∧ bosketref08_Reached_c1 k rec14 x13 x17 = some r) ?_ ?_
      ·refine AW.block ?_
       refine AW.sr ?_
       refine AO.c (Calm.assign rfl rfl) ?_
       refine AO.nK [2, 5, 6, 7] ?_
       refine AW.block ?_
       refine AW.wK [2, 5, 6, 7] ?_
       refine AW.loop (fun kq ρ H => ∃ (x18 : (List Bool)) (x19 : Int), ρ = [(2, (.ptr n3 0)), (5, (.own n4 0 x18.length)), (6, (eI64 x13)), (7, (eI64 x19))] ∧ H = [(n3, (.mem (e50 p0))), (n4, (.mem (.ar 1 (x18.map eBool))))] ∧ bosketref08_Reached_l5 k rec14 p0 x13 kq x18 x19 = some r) k ⟨x12, (0 : Int), rfl, rfl, h⟩ ?_
       rintro kq21 _ _ ⟨x18, x19, rfl, rfl, h⟩
       cases kq21 with
       | zero => rw [bosketref08_Reached_l5.eq_1] at h; cases h
       | succ kq21 =>
       rw [bosketref08_Reached_l5.eq_2] at h
       generalize hrec20 : bosketref08_Reached_l5 k rec14 p0 x13 kq21 = rec20 at h
       refine AW.seq ?_
       refine AW.sr ?_
       refine AO.c (Calm.move rfl rfl) ?_
       refine AO.c (Calm.move rfl rfl) ?_
       refine AO.c (Calm.lenOwn rfl rfl Try.underlying25) ?_
       refine AO.c (x := eBool (decide (x19 < (x18.length : Int)))) (Calm.int rfl rfl rfl rfl) ?_
       refine AO.nK [2, 5, 6, 7, 35] ?_
       rcases of_ite h with ⟨hc22, h⟩ | ⟨hc22, h⟩
       ·refine AW.condP _ rfl hc22 ?_
        refine AW.sK [2, 5, 6, 7] ?_
        refine AW.seq_mid (fun ρ H => ∃ (x23 : (List Bool)), ρ = [(2, (.ptr n3 0)), (5, (.own n4 0 x23.length)), (6, (eI64 x13)), (7, (eI64 x19))] ∧ H = [(n3, (.mem (e50 p0))), (n4, (.mem (.ar 1 (x23.map eBool))))] ∧ bosketref08_Reached_c2 k rec20 x19 x23 = some r) ?_ ?_
        ·refine AW.block ?_
         refine AW.sr ?_
         refine AO.c (Calm.assign rfl rfl) ?_
         refine AO.nK [2, 5, 6, 7, 8] ?_
         refine AW.block ?_
         refine AW.wK [2, 5, 6, 7, 8] ?_
         refine AW.loop (fun kq ρ H => ∃ (x24 : (List Bool)) (x25 : Int), ρ = [(2, (.ptr n3 0)), (5, (.own n4 0 x24.length)), (6, (eI64 x13)), (7, (eI64 x19)), (8, (eI64 x25))] ∧ H = [(n3, (.mem (e50 p0))), (n4, (.mem (.ar 1 (x24.map eBool))))] ∧ bosketref08_Reached_l4 k rec20 p0 x19 kq x24 x25 = some r) k ⟨x18, (0 : Int), rfl, rfl, h⟩ ?_
         rintro kq27 _ _ ⟨x24, x25, rfl, rfl, h⟩
         cases kq27 with
         | zero => rw [bosketref08_Reached_l4.eq_1] at h; cases h
         | succ kq27 =>
         rw [bosketref08_Reached_l4.eq_2] at h
         generalize hrec26 : bosketref08_Reached_l4 k rec20 p0 x19 kq27 = rec26 at h
         refine AW.seq ?_
         refine AW.seq ?_
         obtain ⟨b28, hq29, h⟩ := of_bind h
         refine AW.regM [(2, (.ptr n3 0)), (5, (.own n4 0 x24.length)), (6, (eI64 x13)), (7, (eI64 x19)), (8, (eI64 x25)), (51, (eBool b28))] [(n3, (.mem (e50 p0))), (n4, (.mem (.ar 1 (x24.map eBool))))] ?_ ?_
         ·refine AO.c (Calm.move rfl rfl) ?_
          refine AO.c (Calm.move rfl rfl) ?_
          obtain ⟨hg30, hq29⟩ := of_guard hq29
          refine AO.c (Calm.idxO 1 rfl rfl rfl rfl hg30 Try.underlying25 sz4) ?_
          refine AO.c (Calm.load 1 rfl rfl rfl (At.cast (At.lidx x19 hg30.1 hg30.2 At.here) (by omega)) ag4 sz4) ?_
          refine AO.c (Calm.move rfl rfl) ?_
          rcases of_ite hq29 with ⟨hc31, hq29⟩ | ⟨hc31, hq29⟩
          ·refine AO.cG rfl rfl (bD hc31) (Calm.move rfl rfl) ?_
           refine AO.cG (x := .ptr n3 256) rfl rfl (bD hc31) (Calm.fldPtr rfl rfl Try.underlying50 rfl sz48 _ rfl) ?_
           refine AO.cG rfl rfl (bD hc31) (Calm.load 0 rfl rfl rfl (At.cast (At.fldS (At.fld0 At.here)) rfl) ag48 sz48) ?_
           refine AO.cG rfl rfl (bD hc31) (Calm.move rfl rfl) ?_
           obtain ⟨hg32, hq29⟩ := of_guard hq29
           refine AO.cG rfl rfl (bD hc31) (Calm.idxL (f := e43) rfl rfl rfl hg32 Try.underlying48 sz43) ?_
           refine AO.cG rfl rfl (bD hc31) (Calm.loadRp rfl rfl ag43 sz43) ?_
           refine AO.cG rfl rfl (bD hc31) (Calm.lenL rfl rfl Try.underlying43) ?_
           refine AO.cG (x := eBool (decide (x25 < ((lget p0.f1 x19).length : Int)))) rfl rfl (bD hc31) (Calm.int rfl rfl rfl rfl) ?_
           refine AO.c (Calm.pickT rfl (bD hc31) rfl) ?_
           cases hq29
           refine AO.nilE ⟨rfl, rfl⟩ ?_ ?_
           · exact ⟨rfl, rfl, rfl, rfl, rfl, rfl, trivial⟩
           · exact (Sub.refl _)
          ·refine AO.sT rfl rfl (bD (eq_false_of_ne_true hc31)) ?_
           refine AO.sT rfl rfl (bD (eq_false_of_ne_true hc31)) ?_
           refine AO.sT rfl rfl (bD (eq_false_of_ne_true hc31)) ?_
           refine AO.sT rfl rfl (bD (eq_false_of_ne_true hc31)) ?_
           refine AO.sT rfl rfl (bD (eq_false_of_ne_true hc31)) ?_
           refine AO.sT rfl rfl (bD (eq_false_of_ne_true hc31)) ?_
           refine AO.sT rfl rfl (bD (eq_false_of_ne_true hc31)) ?_
           refine AO.sT rfl rfl (bD (eq_false_of_ne_true hc31)) ?_
           refine AO.c (Calm.pickF rfl (bD (eq_false_of_ne_true hc31)) rfl) ?_
           cases hq29
           refine AO.nilE ⟨rfl, rfl⟩ ?_ ?_
           · exact ⟨rfl, rfl, rfl, rfl, rfl, rfl, trivial⟩
           · exact (Sub.refl _)
         ·rcases of_ite h with ⟨hc33, h⟩ | ⟨hc33, h⟩
          ·refine AW.condT' _ rfl hc33 ?_
           refine AW.sK [2, 5, 6, 7, 8] ?_
           refine AW.seq_mid (fun ρ H => ∃ (x34 : (List Bool)), ρ = [(2, (.ptr n3 0)), (5, (.own n4 0 x34.length)), (6, (eI64 x13)), (7, (eI64 x19)), (8, (eI64 x25))] ∧ H = [(n3, (.mem (e50 p0))), (n4, (.mem (.ar 1 (x34.map eBool))))] ∧ bosketref08_Reached_c3 k rec26 x25 x34 = some r) ?_ ?_
           ·refine AW.block ?_
            refine AW.sr ?_
            refine AO.c (x := .ptr n3 256) (Calm.fldPtr rfl rfl Try.underlying50 rfl sz48 _ rfl) ?_
            refine AO.c (Calm.load 0 rfl rfl rfl (At.cast (At.fldS (At.fld0 At.here)) rfl) ag48 sz48) ?_
            refine AO.c (Calm.move rfl rfl) ?_
            obtain ⟨hg35, h⟩ := of_guard h
            refine AO.c (Calm.idxL (f := e43) rfl rfl rfl hg35 Try.underlying48 sz43) ?_
            refine AO.c (Calm.loadRp rfl rfl ag43 sz43) ?_
            refine AO.c (Calm.move rfl rfl) ?_
            obtain ⟨hg36, h⟩ := of_guard h
            refine AO.c (Calm.idxL (f := eI64) rfl rfl rfl hg36 Try.underlying43 sz3) ?_
            refine AO.c (Calm.loadRp rfl rfl ag3 sz3) ?_
            refine AO.c (Calm.assign rfl rfl) ?_
            refine AO.nK [2, 5, 6, 7, 8, 9] ?_
            refine AW.sr ?_
            refine AO.c (Calm.move rfl rfl) ?_
            refine AO.c (x := eBool (decide ((0 : Int) ≤ (lget (lget p0.f1 x19) x25)))) (Calm.int rfl rfl rfl rfl) ?_
            refine AO.nK [2, 5, 6, 7, 8, 9, 63] ?_
            rcases of_ite h with ⟨hc37, h⟩ | ⟨hc37, h⟩
            ·refine AW.condP _ rfl hc37 ?_
             refine AW.reg ?_
             refine AO.c (Calm.move rfl rfl) ?_
             refine AO.c (Calm.move rfl rfl) ?_
             obtain ⟨hg38, h⟩ := of_guard h
             refine AO.c (Calm.idxO 1 rfl rfl rfl rfl hg38 Try.underlying25 sz4) ?_
             refine AO.store (X' := (.ar 1 ((lset x24 (lget (lget p0.f1 x19) x25) true).map eBool))) 1 rfl rfl rfl rfl rfl rfl (Put.cast (Put.lidx (lget (lget p0.f1 x19) x25) true hg38.1 hg38.2 Put.here) (by omega)) rfl rfl sz4 rfl ?_
             refine AO.coe 5 (y' := (.own n4 0 (lset x24 (lget (lget p0.f1 x19) x25) true).length)) rfl (fun _ _ h => lset_own h) ?_
             refine AO.coe 64 (y' := (.own n4 0 (lset x24 (lget (lget p0.f1 x19) x25) true).length)) rfl (fun _ _ h => lset_own h) ?_
             refine AO.nK [2, 5, 6, 7, 8] ?_
             exact ⟨(lset x24 (lget (lget p0.f1 x19) x25) true), rfl, rfl, h⟩
            ·refine AW.condN _ rfl hc37 ?_
             refine AW.sK [2, 5, 6, 7, 8] ?_
             exact ⟨x24, rfl, rfl, h⟩
           ·rintro _ _ ⟨x34, rfl, rfl, h⟩
            rw [bosketref08_Reached_c3.eq_1] at h
            refine AW.reg ?_
            refine AO.c (Calm.move rfl rfl) ?_
            refine AO.c (x := eI64 (w64 (x25 + (1 : Int)))) (Calm.int rfl rfl rfl rfl) ?_
            refine AO.c (Calm.assign rfl rfl) ?_
            refine AO.nK [2, 5, 6, 7, 8] ?_
            exact ⟨kq27, Nat.lt_succ_self _, x34, (w64 (x25 + (1 : Int))), rfl, rfl, by rw [hrec26]; exact h⟩
          ·refine AW.condF' _ rfl hc33 ?_
           refine AW.eK [2, 5, 6, 7] ?_
           exact ⟨x24, rfl, rfl, h⟩
        ·rintro _ _ ⟨x23, rfl, rfl, h⟩
         rw [bosketref08_Reached_c2.eq_1] at h
         refine AW.reg ?_
         refine AO.c (Calm.move rfl rfl) ?_
         refine AO.c (x := eI64 (w64 (x19 + (1 : Int)))) (Calm.int rfl rfl rfl rfl) ?_
         refine AO.c (Calm.assign rfl rfl) ?_
         refine AO.nK [2, 5, 6, 7] ?_
         exact ⟨kq21, Nat.lt_succ_self _, x23, (w64 (x19 + (1 : Int))), rfl, rfl, by rw [hrec20]; exact h⟩
       ·refine AW.condN _ rfl hc22 ?_
        refine AW.eK [2, 5, 6] ?_
        exact ⟨x18, rfl, rfl, h⟩
      ·rintro _ _ ⟨x17, rfl, rfl, h⟩
       rw [bosketref08_Reached_c1.eq_1] at h
       refine AW.reg ?_
       refine AO.c (Calm.move rfl rfl) ?_
       refine AO.c (x := eI64 (w64 (x13 + (1 : Int)))) (Calm.int rfl rfl rfl rfl) ?_
       refine AO.c (Calm.assign rfl rfl) ?_
       refine AO.nK [2, 5, 6] ?_
       exact ⟨kq15, Nat.lt_succ_self _, x17, (w64 (x13 + (1 : Int))), rfl, rfl, by rw [hrec14]; exact h⟩
     ·refine AW.condN _ rfl hc16 ?_
      refine AW.eH [5] (H' := [(n4, (.mem (.ar 1 (x12.map eBool))))]) (Sub.cons 1 rfl (Sub.nil _)) ?_
      exact ⟨x12, rfl, rfl, h⟩
    ·rintro _ _ ⟨x11, rfl, rfl, h⟩
     rw [bosketref08_Reached_c0.eq_1] at h
     refine AW.sr ?_
     refine AO.c (Calm.move rfl rfl) ?_
     refine AO.c (Calm.assign rfl rfl) ?_
     refine AO.nK [4] ?_
     refine AW.freezeS 0 [(4, (.fz 1 (x11.map eBool)))] rfl ⟨fz_all rfl, trivial⟩ ?_
     refine AW.rK [4] ?_
     have hr := Option.some.inj h
     subst hr
     exact ⟨[(.fz 1 (x11.map eBool))], ⟨rfl, rfl, trivial⟩, rfl⟩
end Go.Avl.T3
