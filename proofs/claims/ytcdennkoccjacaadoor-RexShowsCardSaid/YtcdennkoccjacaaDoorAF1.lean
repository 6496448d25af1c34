/- Parts: TEB, TEf31, TEf25, TEf18, TEf44, TEf36, TEf60, TEf59, TEf55, TEf58, TEf57, TEf51, TEf40, TEf26. -/
import Derived.Test.YtcdennkoccjacaaDoorAv3
import Derived.Test.YtcdennkoccjacaaDoorProg
/- Types and facts; printed by avmain.py. -/
namespace Go.Avl.TE
open Go Go.RowKit Go.Proofs Go.Avl
set_option linter.unusedVariables false
set_option maxRecDepth 100000
set_option maxHeartbeats 4000000
structure S49 where
  f0 : ByteArray
  f1 : Int
  f2 : Int
deriving Inhabited, DecidableEq
abbrev e49 (x : S49) : AV := .st [(1, (eStr x.f0)), (1, (eI64 x.f1)), (1, (eI64 x.f2))]
abbrev e38 (v : Vector Int 4) : AV := .ar 1 (v.toList.map eU64)
structure S40 where
  f0 : Int
  f1 : (Vector Int 4)
deriving Inhabited, DecidableEq
abbrev e40 (x : S40) : AV := .st [(1, (eI64 x.f0)), (4, (.ar 1 (x.f1.toList.map eU64)))]
abbrev e23 (l : List S40) : AV := .fz 5 (l.map e40)
abbrev e41 (l : List (List S40)) : AV := .fz 1 (l.map e23)
abbrev e60 (l : List Int) : AV := .fz 1 (l.map eU8)
structure S71 where
  f0 : Int
  f1 : Int
deriving Inhabited, DecidableEq
abbrev e71 (x : S71) : AV := .st [(1, (eU8 x.f0)), (1, (eU8 x.f1))]
abbrev e68 (l : List S71) : AV := .fz 2 (l.map e71)
theorem sz3 : tySize Tryd.prog 3 = some 1 := by rfl
theorem ag3 : tyAgg Tryd.prog 3 = some false := by rfl
theorem sz9 : tySize Tryd.prog 9 = some 1 := by rfl
theorem ag9 : tyAgg Tryd.prog 9 = some false := by rfl
theorem zr38 : tyZero Tryd.prog 38 = some ((List.replicate 4 (.int .u64 0))) := by rfl
theorem lay38 : ∀ g, Sim g (.ar 1 ((Vector.replicate 4 (0 : Int)).toList.map eU64)) ((List.replicate 4 (.int .u64 0))) := fun g => (lay_vec1 (lay_fl rfl))
theorem sz36 : tySize Tryd.prog 36 = some 1 := by rfl
theorem sz38 : tySize Tryd.prog 38 = some 4 := by rfl
theorem ag38 : tyAgg Tryd.prog 38 = some true := by rfl
theorem ok60 : FnOK Tryd.prog 60 := FnOK.mk Tryd.func60 rfl rfl
theorem ok59 : FnOK Tryd.prog 59 := FnOK.mk Tryd.func59 rfl rfl
theorem ag36 : tyAgg Tryd.prog 36 = some false := by rfl
theorem ok36 : FnOK Tryd.prog 36 := FnOK.mk Tryd.func36 rfl rfl
theorem ok51 : FnOK Tryd.prog 51 := FnOK.mk Tryd.func51 rfl rfl
theorem eqa38 (x y : (Vector Int 4)) : EqOK Tryd.prog 2 38 (.ar 1 (x.toList.map eU64)) (.ar 1 (y.toList.map eU64)) (decide (x = y)) := EqOK.vec (m := 1) Tryd.underlying38 (fun a b => EqOK.int Tryd.underlying36) (fun _ => ag36) (fun _ => sz36) (fun _ => rfl) (by rfl) ⟨_, rfl⟩ x y
theorem eg38 : Tryd.prog.eqGuardType Tryd.prog.depth 38 = false := by decide +kernel
theorem ok31 : FnOK Tryd.prog 31 := FnOK.mk Tryd.func31 rfl rfl
theorem ok44 : FnOK Tryd.prog 44 := FnOK.mk Tryd.func44 rfl rfl
theorem ok55 : FnOK Tryd.prog 55 := FnOK.mk Tryd.func55 rfl rfl
theorem ok58 : FnOK Tryd.prog 58 := FnOK.mk Tryd.func58 rfl rfl
theorem ok57 : FnOK Tryd.prog 57 := FnOK.mk Tryd.func57 rfl rfl
theorem ok40 : FnOK Tryd.prog 40 := FnOK.mk Tryd.func40 rfl rfl
theorem zr40 : tyZero Tryd.prog 40 = some (([.int .i64 0] ++ ((List.replicate 4 (.int .u64 0)) ++ []))) := by rfl
theorem lay40 : ∀ g, Sim g (.st [(1, (eI64 (0 : Int))), (4, (.ar 1 ((Vector.replicate 4 (0 : Int)).toList.map eU64)))]) (([.int .i64 0] ++ ((List.replicate 4 (.int .u64 0)) ++ []))) := fun g => (Sim.stCons (lay_fl rfl) rfl (Sim.stCons (lay_vec1 (lay_fl rfl)) rfl Sim.stNil))
theorem sz40 : tySize Tryd.prog 40 = some 5 := by rfl
theorem ok26 : FnOK Tryd.prog 26 := FnOK.mk Tryd.func26 rfl rfl
theorem sz5 : tySize Tryd.prog 5 = some 1 := by rfl
theorem ag5 : tyAgg Tryd.prog 5 = some false := by rfl
theorem ok25 : FnOK Tryd.prog 25 := FnOK.mk Tryd.func25 rfl rfl
theorem sz23 : tySize Tryd.prog 23 = some 1 := by rfl
theorem ag23 : tyAgg Tryd.prog 23 = some false := by rfl
theorem by40 : tyBytes Tryd.prog 40 = some 40 := by rfl
theorem ok30 : FnOK Tryd.prog 30 := FnOK.mk Tryd.func30 rfl rfl
theorem zr23 : tyZero Tryd.prog 23 = some ([.slice none 0 0]) := by rfl
theorem lay23 : ∀ g, Sim g (.fl (.slice none 0 0)) ([.slice none 0 0]) := fun g => (lay_fl rfl)
theorem ok18 : FnOK Tryd.prog 18 := FnOK.mk Tryd.func18 rfl rfl
theorem ok43 : FnOK Tryd.prog 43 := FnOK.mk Tryd.func43 rfl rfl
theorem ok53 : FnOK Tryd.prog 53 := FnOK.mk Tryd.func53 rfl rfl
theorem ok21 : FnOK Tryd.prog 21 := FnOK.mk Tryd.func21 rfl rfl
theorem ok54 : FnOK Tryd.prog 54 := FnOK.mk Tryd.func54 rfl rfl
theorem zr5 : tyZero Tryd.prog 5 = some ([.int .u8 0]) := by rfl
theorem lay5 : ∀ g, Sim g (eU8 (0 : Int)) ([.int .u8 0]) := fun g => (lay_fl rfl)
theorem ok56 : FnOK Tryd.prog 56 := FnOK.mk Tryd.func56 rfl rfl
theorem zr49 : tyZero Tryd.prog 49 = some (([.string ByteArray.empty] ++ ([.int .i64 0] ++ ([.int .i64 0] ++ [])))) := by rfl
theorem lay49 : ∀ g, Sim g (.st [(1, (eStr ByteArray.empty)), (1, (eI64 (0 : Int))), (1, (eI64 (0 : Int)))]) (([.string ByteArray.empty] ++ ([.int .i64 0] ++ ([.int .i64 0] ++ [])))) := fun g => (Sim.stCons (lay_fl rfl) rfl (Sim.stCons (lay_fl rfl) rfl (Sim.stCons (lay_fl rfl) rfl Sim.stNil)))
theorem ag40 : tyAgg Tryd.prog 40 = some true := by rfl
theorem ok27 : FnOK Tryd.prog 27 := FnOK.mk Tryd.func27 rfl rfl
theorem ok16 : FnOK Tryd.prog 16 := FnOK.mk Tryd.func16 rfl rfl
theorem ok47 : FnOK Tryd.prog 47 := FnOK.mk Tryd.func47 rfl rfl
theorem tb0 : ∀ i : Int, 0 ≤ i ∧ i < (64 : Int) → (0, i.toNat * 1, Value.int .u8 (lget tab0 i)) ∈ tabs := fun i h => by
  rw [Nat.mul_one]; exact tab_mem (l := tab0) i.toNat (by have : tab0.length = 64 := rfl; omega)
theorem ok50 : FnOK Tryd.prog 50 := FnOK.mk Tryd.func50 rfl rfl
theorem ok48 : FnOK Tryd.prog 48 := FnOK.mk Tryd.func48 rfl rfl
theorem ok49 : FnOK Tryd.prog 49 := FnOK.mk Tryd.func49 rfl rfl
theorem by5 : tyBytes Tryd.prog 5 = some 1 := by rfl
theorem ok52 : FnOK Tryd.prog 52 := FnOK.mk Tryd.func52 rfl rfl
theorem zr71 : tyZero Tryd.prog 71 = some (([.int .u8 0] ++ ([.int .u8 0] ++ []))) := by rfl
theorem lay71 : ∀ g, Sim g (.st [(1, (eU8 (0 : Int))), (1, (eU8 (0 : Int)))]) (([.int .u8 0] ++ ([.int .u8 0] ++ []))) := fun g => (Sim.stCons (lay_fl rfl) rfl (Sim.stCons (lay_fl rfl) rfl Sim.stNil))
theorem sz71 : tySize Tryd.prog 71 = some 2 := by rfl
theorem by71 : tyBytes Tryd.prog 71 = some 2 := by rfl
theorem ok37 : FnOK Tryd.prog 37 := FnOK.mk Tryd.func37 rfl rfl
theorem ok39 : FnOK Tryd.prog 39 := FnOK.mk Tryd.func39 rfl rfl
theorem ok38 : FnOK Tryd.prog 38 := FnOK.mk Tryd.func38 rfl rfl
theorem ok41 : FnOK Tryd.prog 41 := FnOK.mk Tryd.func41 rfl rfl
theorem ag71 : tyAgg Tryd.prog 71 = some true := by rfl
theorem ok14 : FnOK Tryd.prog 14 := FnOK.mk Tryd.func14 rfl rfl
theorem ok28 : FnOK Tryd.prog 28 := FnOK.mk Tryd.func28 rfl rfl
theorem ok29 : FnOK Tryd.prog 29 := FnOK.mk Tryd.func29 rfl rfl
theorem ok20 : FnOK Tryd.prog 20 := FnOK.mk Tryd.func20 rfl rfl
theorem ok42 : FnOK Tryd.prog 42 := FnOK.mk Tryd.func42 rfl rfl
theorem ok12 : FnOK Tryd.prog 12 := FnOK.mk Tryd.func12 rfl rfl
theorem ok8 : FnOK Tryd.prog 8 := FnOK.mk Tryd.func8 rfl rfl
theorem ok7 : FnOK Tryd.prog 7 := FnOK.mk Tryd.func7 rfl rfl
theorem zr3 : tyZero Tryd.prog 3 = some ([.int .i64 0]) := by rfl
theorem lay3 : ∀ g, Sim g (eI64 (0 : Int)) ([.int .i64 0]) := fun g => (lay_fl rfl)
theorem ok19 : FnOK Tryd.prog 19 := FnOK.mk Tryd.func19 rfl rfl
theorem ok17 : FnOK Tryd.prog 17 := FnOK.mk Tryd.func17 rfl rfl
theorem by23 : tyBytes Tryd.prog 23 = some 24 := by rfl
theorem eqk40 (x y : S40) : EqOK Tryd.prog 3 40 (e40 x) (e40 y) (decide (x = y)) := (EqOK.struct (bs := [decide (x.f0 = y.f0), decide (x.f1 = y.f1)]) Tryd.underlying40 (by decide +kernel) ⟨⟨rfl, (eI64 x.f0), (eI64 y.f0), (At.cast (At.fld0 At.here) rfl), (At.cast (At.fld0 At.here) rfl), ag3, ag3, sz3, sz3, (EqOK.lift 1 (EqOK.int Tryd.underlying3))⟩, ⟨rfl, (.ar 1 (x.f1.toList.map eU64)), (.ar 1 (y.f1.toList.map eU64)), (At.cast (At.fldS (At.fld0 At.here)) rfl), (At.cast (At.fldS (At.fld0 At.here)) rfl), ag38, ag38, (by rw [sz38]; simp [AV.size]), (by rw [sz38]; simp [AV.size]), (eqa38 x.f1 y.f1)⟩, trivial⟩).of (by cases x; cases y; simp)
theorem eg40 : Tryd.prog.eqGuardType Tryd.prog.depth 40 = false := by decide +kernel
theorem ok24 : FnOK Tryd.prog 24 := FnOK.mk Tryd.func24 rfl rfl
theorem ok5 : FnOK Tryd.prog 5 := FnOK.mk Tryd.func5 rfl rfl
theorem ok6 : FnOK Tryd.prog 6 := FnOK.mk Tryd.func6 rfl rfl
theorem ok15 : FnOK Tryd.prog 15 := FnOK.mk Tryd.func15 rfl rfl
theorem ok10 : FnOK Tryd.prog 10 := FnOK.mk Tryd.func10 rfl rfl
theorem ok11 : FnOK Tryd.prog 11 := FnOK.mk Tryd.func11 rfl rfl
theorem ok35 : FnOK Tryd.prog 35 := FnOK.mk Tryd.func35 rfl rfl
theorem ok45 : FnOK Tryd.prog 45 := FnOK.mk Tryd.func45 rfl rfl
theorem sz4 : tySize Tryd.prog 4 = some 1 := by rfl
theorem ag4 : tyAgg Tryd.prog 4 = some false := by rfl
theorem zr4 : tyZero Tryd.prog 4 = some ([.bool false]) := by rfl
theorem lay4 : ∀ g, Sim g (eBool false) ([.bool false]) := fun g => (lay_fl rfl)
theorem by4 : tyBytes Tryd.prog 4 = some 1 := by rfl
theorem ok46 : FnOK Tryd.prog 46 := FnOK.mk Tryd.func46 rfl rfl
theorem ok32 : FnOK Tryd.prog 32 := FnOK.mk Tryd.func32 rfl rfl
theorem ok33 : FnOK Tryd.prog 33 := FnOK.mk Tryd.func33 rfl rfl
theorem ok34 : FnOK Tryd.prog 34 := FnOK.mk Tryd.func34 rfl rfl
theorem ok9 : FnOK Tryd.prog 9 := FnOK.mk Tryd.func9 rfl rfl
theorem zr9 : tyZero Tryd.prog 9 = some ([.string ByteArray.empty]) := by rfl
theorem lay9 : ∀ g, Sim g (eStr ByteArray.empty) ([.string ByteArray.empty]) := fun g => (lay_fl rfl)
theorem by9 : tyBytes Tryd.prog 9 = some 16 := by rfl
theorem by3 : tyBytes Tryd.prog 3 = some 8 := by rfl
theorem ok22 : FnOK Tryd.prog 22 := FnOK.mk Tryd.func22 rfl rfl
theorem ok23 : FnOK Tryd.prog 23 := FnOK.mk Tryd.func23 rfl rfl
end Go.Avl.TE
/- (*bosket/rex.reader).eat; printed by avmain.py. -/
namespace Go.Avl.TE
open Go Go.RowKit Go.Proofs Go.Avl
set_option linter.unusedVariables false
set_option maxRecDepth 100000
set_option maxHeartbeats 4000000
attribute [local irreducible] AW AO AQ Spec SpecH Calm

def rex_reader_eat (k : Nat) (p0 : S49) (p1 : Int) : Option (Bool × S49) :=
  Option.bind (α := Bool) (if p0.f1 < (p0.f0.size : Int) then if 0 ≤ p0.f1 ∧ p0.f1 < (p0.f0.size : Int) then some (decide ((byteAt p0.f0 p0.f1) = p1))
  else none
  else some (false)) fun b3 =>
  if b3 = true then some (true, (S49.mk p0.f0 (w64 (p0.f1 + (1 : Int))) p0.f2))
  else some (false, p0)
theorem rex_reader_eat_spec {k : Nat} {p0 : S49} {p1 : Int} {r : (Bool × S49)} (h : rex_reader_eat k p0 p1 = some r) {q0 : Nat} {T0 : Heap} : SpecH Tryd.prog 31 [(.ptr q0 0), (eU8 p1)] ((q0, (.mem (e49 p0))) :: T0) (fun x H' => x = (eBool r.1) ∧ Sub ((q0, (.mem (e49 r.2))) :: T0) H') := by
  rw [rex_reader_eat.eq_1] at h
  refine SpecH.intro (res := [.tmp 4]) Tryd.func31 rfl rfl rfl (Nat.le_of_ble_eq_true rfl) ?_
  refine AW.sr ?_
  refine AO.c (Calm.assign rfl rfl) ?_
  refine AO.nK [0, 1] ?_
  refine AW.seq ?_
  refine AW.seq ?_
  obtain ⟨b3, hq4, h⟩ := of_bind h
  refine AW.regQM (by rfl) (by decide +kernel) [(0, (.ptr q0 0)), (27, (eBool b3))] ?_ ?_
  ·refine AQ.c (Calm.move rfl rfl) ?_
   refine AQ.c (Calm.nilCheck rfl rfl) ?_
   refine AQ.c (x := .ptr q0 1) (Calm.fldPtr rfl rfl Tryd.underlying49 rfl sz3 _ rfl) ?_
   refine AQ.c (Calm.load 0 rfl rfl rfl (At.cast (At.fldS (At.fld0 At.here)) rfl) ag3 sz3) ?_
   refine AQ.c (Calm.move rfl rfl) ?_
   refine AQ.c (Calm.nilCheck rfl rfl) ?_
   refine AQ.c (x := .ptr q0 0) (Calm.fldPtr rfl rfl Tryd.underlying49 rfl sz9 _ rfl) ?_
   refine AQ.c (Calm.load 0 rfl rfl rfl (At.cast (At.fld0 At.here) rfl) ag9 sz9) ?_
   refine AQ.c (Calm.lenStr rfl rfl Tryd.underlying9) ?_
   refine AQ.c (x := eBool (decide (p0.f1 < (p0.f0.size : Int)))) (Calm.int rfl rfl rfl rfl) ?_
   refine AQ.c (Calm.move rfl rfl) ?_
   rcases of_ite hq4 with ⟨hc5, hq4⟩ | ⟨hc5, hq4⟩
   ·refine AQ.cG rfl rfl (bD (decide_eq_true hc5)) (Calm.move rfl rfl) ?_
    refine AQ.cG rfl rfl (bD (decide_eq_true hc5)) (Calm.nilCheck rfl rfl) ?_
    refine AQ.cG (x := .ptr q0 0) rfl rfl (bD (decide_eq_true hc5)) (Calm.fldPtr rfl rfl Tryd.underlying49 rfl sz9 _ rfl) ?_
    refine AQ.cG rfl rfl (bD (decide_eq_true hc5)) (Calm.load 0 rfl rfl rfl (At.cast (At.fld0 At.here) rfl) ag9 sz9) ?_
    refine AQ.cG rfl rfl (bD (decide_eq_true hc5)) (Calm.move rfl rfl) ?_
    refine AQ.cG rfl rfl (bD (decide_eq_true hc5)) (Calm.nilCheck rfl rfl) ?_
    refine AQ.cG (x := .ptr q0 1) rfl rfl (bD (decide_eq_true hc5)) (Calm.fldPtr rfl rfl Tryd.underlying49 rfl sz3 _ rfl) ?_
    refine AQ.cG rfl rfl (bD (decide_eq_true hc5)) (Calm.load 0 rfl rfl rfl (At.cast (At.fldS (At.fld0 At.here)) rfl) ag3 sz3) ?_
    obtain ⟨hg6, hq4⟩ := of_guard hq4
    refine AQ.cG (x := eU8 (byteAt p0.f0 p0.f1)) rfl rfl (bD (decide_eq_true hc5)) (Calm.idxS rfl rfl rfl hg6 Tryd.underlying9) ?_
    refine AQ.cG rfl rfl (bD (decide_eq_true hc5)) (Calm.move rfl rfl) ?_
    refine AQ.cG (x := eBool (decide ((byteAt p0.f0 p0.f1) = p1))) rfl rfl (bD (decide_eq_true hc5)) (Calm.int rfl rfl rfl rfl) ?_
    refine AQ.c (Calm.pickT rfl (bD (decide_eq_true hc5)) rfl) ?_
    cases hq4
    refine AQ.nilE rfl ?_
    exact ⟨rfl, rfl, trivial⟩
   ·refine AQ.sT rfl rfl (bD (decide_eq_false hc5)) ?_
    refine AQ.sT rfl rfl (bD (decide_eq_false hc5)) ?_
    refine AQ.sT rfl rfl (bD (decide_eq_false hc5)) ?_
    refine AQ.sT rfl rfl (bD (decide_eq_false hc5)) ?_
    refine AQ.sT rfl rfl (bD (decide_eq_false hc5)) ?_
    refine AQ.sT rfl rfl (bD (decide_eq_false hc5)) ?_
    refine AQ.sT rfl rfl (bD (decide_eq_false hc5)) ?_
    refine AQ.sT rfl rfl (bD (decide_eq_false hc5)) ?_
    refine AQ.sT rfl rfl (bD (decide_eq_false hc5)) ?_
    refine AQ.sT rfl rfl (bD (decide_eq_false hc5)) ?_
    refine AQ.sT rfl rfl (bD (decide_eq_false hc5)) ?_
    refine AQ.c (Calm.pickF rfl (bD (decide_eq_false hc5)) rfl) ?_
    cases hq4
    refine AQ.nilE rfl ?_
    exact ⟨rfl, rfl, trivial⟩
  ·rcases of_ite h with ⟨hc7, h⟩ | ⟨hc7, h⟩
   ·refine AW.condT' _ rfl hc7 ?_
    refine AW.sr ?_
    refine AO.c (Calm.move rfl rfl) ?_
    refine AO.c (Calm.nilCheck rfl rfl) ?_
    refine AO.c (x := .ptr q0 1) (Calm.fldPtr rfl rfl Tryd.underlying49 rfl sz3 _ rfl) ?_
    refine AO.c (Calm.load 0 rfl rfl rfl (At.cast (At.fldS (At.fld0 At.here)) rfl) ag3 sz3) ?_
    refine AO.c (x := eI64 (w64 (p0.f1 + (1 : Int)))) (Calm.int rfl rfl rfl rfl) ?_
    refine AO.c (Calm.nilCheck rfl rfl) ?_
    refine AO.c (x := .ptr q0 1) (Calm.fldPtr rfl rfl Tryd.underlying49 rfl sz3 _ rfl) ?_
    refine AO.store (X' := (.st [(1, (eStr p0.f0)), (1, (eI64 (w64 (p0.f1 + (1 : Int))))), (1, (eI64 p0.f2))])) 0 rfl rfl rfl rfl rfl rfl (Put.cast (Put.fldS (Put.fld0 Put.here)) rfl) rfl rfl sz3 rfl ?_
    refine AO.nK [] ?_
    refine AW.sr ?_
    refine AO.c (Calm.assign rfl rfl) ?_
    refine AO.nK [4] ?_
    refine AW.rK [4] ?_
    have hr := Option.some.inj h
    subst hr
    exact ⟨[(eBool true)], ⟨rfl, rfl, trivial⟩, rfl, (Sub.cons 0 rfl (Sub.refl _))⟩
   ·refine AW.condF' _ rfl hc7 ?_
    refine AW.sK [] ?_
    refine AW.sr ?_
    refine AO.c (Calm.assign rfl rfl) ?_
    refine AO.nK [4] ?_
    refine AW.rK [4] ?_
    have hr := Option.some.inj h
    subst hr
    exact ⟨[(eBool false)], ⟨rfl, rfl, trivial⟩, rfl, (Sub.cons 0 rfl (Sub.refl _))⟩
end Go.Avl.TE
/- bosket/rex.Takes; printed by avmain.py. -/
namespace Go.Avl.TE
open Go Go.RowKit Go.Proofs Go.Avl
set_option linter.unusedVariables false
set_option maxRecDepth 100000
set_option maxHeartbeats 4000000
attribute [local irreducible] AW AO AQ Spec SpecH Calm

def rex_Takes_c0 (k : Nat) (b6 : Bool) : Option Int :=
  if b6 = true then some ((2 : Int))
  else some ((-1 : Int))
def rex_Takes_c1 (k : Nat) (p0 : Int) (b4 : Bool) : Option Int :=
  if b4 = true then some ((1 : Int))
  else if p0 = (2 : Int) then rex_Takes_c0 k (decide (p0 = (2 : Int)))
  else rex_Takes_c0 k (decide (p0 = (3 : Int)))
def rex_Takes_c2 (k : Nat) (p0 : Int) (b2 : Bool) : Option Int :=
  if b2 = true then some ((0 : Int))
  else if p0 = (4 : Int) then rex_Takes_c1 k p0 (decide (p0 = (4 : Int)))
  else if p0 = (5 : Int) then rex_Takes_c1 k p0 (decide (p0 = (5 : Int)))
  else rex_Takes_c1 k p0 (decide (p0 = (6 : Int)))
def rex_Takes (k : Nat) (p0 : Int) : Option Int :=
  if p0 = (0 : Int) then rex_Takes_c2 k p0 (decide (p0 = (0 : Int)))
  else rex_Takes_c2 k p0 (decide (p0 = (1 : Int)))
theorem rex_Takes_spec {k : Nat} {p0 : Int} {r : Int} (h : rex_Takes k p0 = some r) : Spec Tryd.prog 25 [(eI64 p0)] (eI64 r) := by
  rw [rex_Takes.eq_1] at h
  refine Spec.intro (res := [.tmp 2]) Tryd.func25 rfl rfl rfl (Nat.le_of_ble_eq_true rfl) ?_
  refine AW.sr ?_
  refine AO.c (Calm.assign rfl rfl) ?_
  refine AO.nK [0] ?_
  refine AW.seq ?_
  refine AW.sr ?_
  refine AO.c (Calm.move rfl rfl) ?_
  refine AO.nK [3] ?_
  refine AW.block ?_
  refine AW.seq_mid (fun ρ H => ∃ (b2 : Bool), ρ = [(3, (eI64 p0)), (4, (eBool b2))] ∧ H = [] ∧ rex_Takes_c2 k p0 b2 = some r) ?_ ?_
  ·refine AW.sr ?_
   refine AO.c (x := eBool (decide (p0 = (0 : Int)))) (Calm.int rfl rfl rfl rfl) ?_
   refine AO.c (Calm.assign rfl rfl) ?_
   refine AO.nK [3, 4] ?_
   rcases of_ite h with ⟨hc11, h⟩ | ⟨hc11, h⟩
   ·refine AW.condP _ rfl hc11 ?_
    refine AW.sK [3, 4] ?_
    exact ⟨decide (p0 = (0 : Int)), rfl, rfl, h⟩
   ·refine AW.condN _ rfl hc11 ?_
    refine AW.reg ?_
    refine AO.c (x := eBool (decide (p0 = (1 : Int)))) (Calm.int rfl rfl rfl rfl) ?_
    refine AO.c (Calm.assign rfl rfl) ?_
    refine AO.nK [3, 4] ?_
    exact ⟨decide (p0 = (1 : Int)), rfl, rfl, h⟩
  ·rintro _ _ ⟨b2, rfl, rfl, h⟩
   rw [rex_Takes_c2.eq_1] at h
   rcases of_ite h with ⟨hc3, h⟩ | ⟨hc3, h⟩
   ·refine AW.condT' _ rfl hc3 ?_
    refine AW.sr ?_
    refine AO.c (Calm.assign rfl rfl) ?_
    refine AO.nK [2] ?_
    refine AW.rK [2] ?_
    have hr := Option.some.inj h
    subst hr
    exact ⟨[(eI64 (0 : Int))], ⟨rfl, rfl, trivial⟩, rfl⟩
   ·refine AW.condF' _ rfl hc3 ?_
    refine AW.seq_mid (fun ρ H => ∃ (b4 : Bool), ρ = [(3, (eI64 p0)), (7, (eBool b4))] ∧ H = [] ∧ rex_Takes_c1 k p0 b4 = some r) ?_ ?_
    ·refine AW.sr ?_
     refine AO.c (x := eBool (decide (p0 = (4 : Int)))) (Calm.int rfl rfl rfl rfl) ?_
     refine AO.c (Calm.assign rfl rfl) ?_
     refine AO.nK [3, 7] ?_
     rcases of_ite h with ⟨hc9, h⟩ | ⟨hc9, h⟩
     ·refine AW.condP _ rfl hc9 ?_
      refine AW.sK [3, 7] ?_
      exact ⟨decide (p0 = (4 : Int)), rfl, rfl, h⟩
     ·refine AW.condN _ rfl hc9 ?_
      refine AW.sr ?_
      refine AO.c (x := eBool (decide (p0 = (5 : Int)))) (Calm.int rfl rfl rfl rfl) ?_
      refine AO.c (Calm.assign rfl rfl) ?_
      refine AO.nK [3, 7] ?_
      rcases of_ite h with ⟨hc10, h⟩ | ⟨hc10, h⟩
      ·refine AW.condP _ rfl hc10 ?_
       refine AW.sK [3, 7] ?_
       exact ⟨decide (p0 = (5 : Int)), rfl, rfl, h⟩
      ·refine AW.condN _ rfl hc10 ?_
       refine AW.reg ?_
       refine AO.c (x := eBool (decide (p0 = (6 : Int)))) (Calm.int rfl rfl rfl rfl) ?_
       refine AO.c (Calm.assign rfl rfl) ?_
       refine AO.nK [3, 7] ?_
       exact ⟨decide (p0 = (6 : Int)), rfl, rfl, h⟩
    ·rintro _ _ ⟨b4, rfl, rfl, h⟩
     rw [rex_Takes_c1.eq_1] at h
     rcases of_ite h with ⟨hc5, h⟩ | ⟨hc5, h⟩
     ·refine AW.condT' _ rfl hc5 ?_
      refine AW.sr ?_
      refine AO.c (Calm.assign rfl rfl) ?_
      refine AO.nK [2] ?_
      refine AW.rK [2] ?_
      have hr := Option.some.inj h
      subst hr
      exact ⟨[(eI64 (1 : Int))], ⟨rfl, rfl, trivial⟩, rfl⟩
     ·refine AW.condF' _ rfl hc5 ?_
      refine AW.seq_mid (fun ρ H => ∃ (b6 : Bool), ρ = [(11, (eBool b6))] ∧ H = [] ∧ rex_Takes_c0 k b6 = some r) ?_ ?_
      ·refine AW.sr ?_
       refine AO.c (x := eBool (decide (p0 = (2 : Int)))) (Calm.int rfl rfl rfl rfl) ?_
       refine AO.c (Calm.assign rfl rfl) ?_
       refine AO.nK [3, 11] ?_
       rcases of_ite h with ⟨hc8, h⟩ | ⟨hc8, h⟩
       ·refine AW.condP _ rfl hc8 ?_
        refine AW.sK [11] ?_
        exact ⟨decide (p0 = (2 : Int)), rfl, rfl, h⟩
       ·refine AW.condN _ rfl hc8 ?_
        refine AW.reg ?_
        refine AO.c (x := eBool (decide (p0 = (3 : Int)))) (Calm.int rfl rfl rfl rfl) ?_
        refine AO.c (Calm.assign rfl rfl) ?_
        refine AO.nK [11] ?_
        exact ⟨decide (p0 = (3 : Int)), rfl, rfl, h⟩
      ·rintro _ _ ⟨b6, rfl, rfl, h⟩
       rw [rex_Takes_c0.eq_1] at h
       rcases of_ite h with ⟨hc7, h⟩ | ⟨hc7, h⟩
       ·refine AW.condT' _ rfl hc7 ?_
        refine AW.sr ?_
        refine AO.c (Calm.assign rfl rfl) ?_
        refine AO.nK [2] ?_
        refine AW.rK [2] ?_
        have hr := Option.some.inj h
        subst hr
        exact ⟨[(eI64 (2 : Int))], ⟨rfl, rfl, trivial⟩, rfl⟩
       ·refine AW.condF' _ rfl hc7 ?_
        refine AW.sK [] ?_
        refine AW.sr ?_
        refine AO.c (Calm.assign rfl rfl) ?_
        refine AO.nK [2] ?_
        refine AW.rK [2] ?_
        have hr := Option.some.inj h
        subst hr
        exact ⟨[(eI64 (-1 : Int))], ⟨rfl, rfl, trivial⟩, rfl⟩
end Go.Avl.TE
/- bosket/rex.Join; printed by avmain.py. -/
namespace Go.Avl.TE
open Go Go.RowKit Go.Proofs Go.Avl
set_option linter.unusedVariables false
set_option maxRecDepth 100000
set_option maxHeartbeats 4000000
attribute [local irreducible] AW AO AQ Spec SpecH Calm

def rex_Join_c0 (k : Nat) (p0 : Int) (x9 : (List S40)) : Option (List S40) :=
  if (x9 ++ ([(S40.mk p0 (Vector.replicate 4 (0 : Int)))] : List S40)).length * 40 ≤ 140737488355328 then some ((x9 ++ ([(S40.mk p0 (Vector.replicate 4 (0 : Int)))] : List S40)))
  else none
def rex_Join_l1 (k : Nat) (p0 : Int) (p1 : (List (List S40))) : Nat → (List S40) → Int → Option (List S40)
  | 0, _, _ => none
  | j + 1, x14, x15 =>
    if x15 < (p1.length : Int) then if 0 ≤ x15 ∧ x15 < (p1.length : Int) then if (x14 ++ (lget p1 x15)).length * 40 ≤ 140737488355328 then (rex_Join_l1 k p0 p1 j) (x14 ++ (lget p1 x15)) (w64 (x15 + (1 : Int)))
    else none
    else none
    else rex_Join_c0 k p0 x14
def rex_Join (k : Nat) (p0 : Int) (p1 : (List (List S40))) : Option (List S40) :=
  Option.bind (α := Bool) ((rex_Takes k p0).bind fun t5 =>
  if t5 ≠ (p1.length : Int) then some (true)
  else some (decide ((p1.length : Int) = (0 : Int)))) fun b3 =>
  if b3 = true then some ([])
  else rex_Join_l1 k p0 p1 k ([] : List S40) (0 : Int)
theorem rex_Join_spec {k : Nat} {p0 : Int} {p1 : (List (List S40))} {r : (List S40)} (h : rex_Join k p0 p1 = some r) : Spec Tryd.prog 18 [(eI64 p0), (.fz 1 (p1.map e23))] (e23 r) := by
  rw [rex_Join.eq_1] at h
  refine Spec.intro (res := [.tmp 4]) Tryd.func18 rfl rfl rfl (Nat.le_of_ble_eq_true rfl) ?_
  refine AW.sr ?_
  refine AO.c (Calm.assign rfl rfl) ?_
  refine AO.nK [0, 1] ?_
  refine AW.seq ?_
  refine AW.seq ?_
  obtain ⟨b3, hq4, h⟩ := of_bind h
  refine AW.regM [(0, (eI64 p0)), (1, (.fz 1 (p1.map e23))), (17, (eBool b3))] [] ?_ ?_
  ·refine AO.c (Calm.move rfl rfl) ?_
   obtain ⟨t5, et5, hq4⟩ := of_bind hq4
   refine AO.callS [(eI64 p0)] (eI64 t5) 9 rfl (by decide) ok25 rfl rfl rfl ⟨rfl, rfl, trivial⟩ (rex_Takes_spec et5) ?_
   refine AO.c (Calm.move rfl rfl) ?_
   refine AO.c (Calm.lenL rfl rfl Tryd.underlying41) ?_
   refine AO.c (x := eBool (decide (t5 ≠ (p1.length : Int)))) (Calm.int rfl rfl rfl rfl) ?_
   refine AO.c (Calm.move rfl rfl) ?_
   rcases of_ite hq4 with ⟨hc6, hq4⟩ | ⟨hc6, hq4⟩
   ·refine AO.sF rfl rfl (bD (decide_eq_true hc6)) ?_
    refine AO.sF rfl rfl (bD (decide_eq_true hc6)) ?_
    refine AO.sF rfl rfl (bD (decide_eq_true hc6)) ?_
    refine AO.c (Calm.pickT rfl (bD (decide_eq_true hc6)) rfl) ?_
    cases hq4
    refine AO.nilE ⟨rfl, rfl⟩ ?_ ?_
    · exact ⟨rfl, rfl, rfl, trivial⟩
    · exact (Sub.refl _)
   ·refine AO.cG rfl rfl (bD (decide_eq_false hc6)) (Calm.move rfl rfl) ?_
    refine AO.cG rfl rfl (bD (decide_eq_false hc6)) (Calm.lenL rfl rfl Tryd.underlying41) ?_
    refine AO.cG (x := eBool (decide ((p1.length : Int) = (0 : Int)))) rfl rfl (bD (decide_eq_false hc6)) (Calm.int rfl rfl rfl rfl) ?_
    refine AO.c (Calm.pickF rfl (bD (decide_eq_false hc6)) rfl) ?_
    cases hq4
    refine AO.nilE ⟨rfl, rfl⟩ ?_ ?_
    · exact ⟨rfl, rfl, rfl, trivial⟩
    · exact (Sub.refl _)
  ·rcases of_ite h with ⟨hc7, h⟩ | ⟨hc7, h⟩
   ·refine AW.condT' _ rfl hc7 ?_
    refine AW.sr ?_
    refine AO.c (Calm.assign rfl rfl) ?_
    refine AO.nK [4] ?_
    refine AW.coeC 4 (y' := (.fz 5 (([] : List S40).map e40))) rfl Coe.nil ?_
    refine AW.rK [4] ?_
    have hr := Option.some.inj h
    subst hr
    exact ⟨[(.fz 5 (([] : List S40).map e40))], ⟨rfl, rfl, trivial⟩, rfl⟩
   ·refine AW.condF' _ rfl hc7 ?_
    refine AW.sK [0, 1] ?_
    refine AW.sr ?_
    refine AO.c (Calm.assign rfl rfl) ?_
    refine AO.nK [0, 1, 5] ?_
    refine AW.seq_mid (fun ρ H => ∃ (n8 : Nat) (x9 : (List S40)), ρ = [(0, (eI64 p0)), (5, (.own n8 0 x9.length))] ∧ H = [(n8, (.mem (.ar 5 (x9.map e40))))] ∧ rex_Join_c0 k p0 x9 = some r) ?_ ?_
    ·refine AW.sr ?_
     refine AO.c (Calm.move rfl rfl) ?_
     refine AO.c (Calm.lenL rfl rfl Tryd.underlying41) ?_
     refine AO.c (Calm.move rfl rfl) ?_
     refine AO.nK [0, 5, 18, 19, 20] ?_
     refine AW.block ?_
     refine AW.nilOwn 5 5 rfl fun n22 => ?_
     refine AW.wK [0, 5, 18, 19, 20] ?_
     refine AW.loop (fun kq ρ H => ∃ (n13 : Nat) (x14 : (List S40)) (x15 : Int), ρ = [(0, (eI64 p0)), (5, (.own n13 0 x14.length)), (18, (.fz 1 (p1.map e23))), (19, (eI64 (p1.length : Int))), (20, (eI64 x15))] ∧ H = [(n13, (.mem (.ar 5 (x14.map e40))))] ∧ rex_Join_l1 k p0 p1 kq x14 x15 = some r) k ⟨n22, ([] : List S40), (0 : Int), rfl, rfl, h⟩ ?_
     rintro kq17 _ _ ⟨n13, x14, x15, rfl, rfl, h⟩
     cases kq17 with
     | zero => rw [rex_Join_l1.eq_1] at h; cases h
     | succ kq17 =>
     rw [rex_Join_l1.eq_2] at h
     generalize hrec16 : rex_Join_l1 k p0 p1 kq17 = rec16 at h
     refine AW.sr ?_
     refine AO.c (x := eBool (decide (x15 < (p1.length : Int)))) (Calm.int rfl rfl rfl rfl) ?_
     refine AO.nK [0, 5, 18, 19, 20, 21] ?_
     refine AW.seq ?_
     rcases of_ite h with ⟨hc18, h⟩ | ⟨hc18, h⟩
     ·refine AW.condP _ rfl hc18 ?_
      refine AW.sK [0, 5, 18, 19, 20] ?_
      refine AW.seq ?_
      refine AW.block ?_
      refine AW.sr ?_
      obtain ⟨hg19, h⟩ := of_guard h
      refine AO.c (Calm.idxL (f := e23) rfl rfl rfl hg19 Tryd.underlying41 sz23) ?_
      refine AO.c (Calm.loadRp rfl rfl ag23 sz23) ?_
      refine AO.c (Calm.assign rfl rfl) ?_
      refine AO.nK [0, 5, 7, 18, 19, 20] ?_
      refine AW.reg ?_
      refine AO.c (Calm.move rfl rfl) ?_
      refine AO.c (Calm.move rfl rfl) ?_
      obtain ⟨hg21, h⟩ := of_guard h
      refine AO.appendL (l := x14) (m := (lget p1 x15)) 0 26 rfl (by decide) rfl rfl rfl rfl rfl Src.fz Tryd.underlying23 Tryd.underlying23 sz40 by40 zr40 rfl hg21 (by decide) fun n20 => ?_
      refine AO.c (Calm.assign rfl rfl) ?_
      refine AO.nK [0, 5, 18, 19, 20] ?_
      refine AW.reg ?_
      refine AO.c (x := eI64 (w64 (x15 + (1 : Int)))) (Calm.int rfl rfl rfl rfl) ?_
      refine AO.c (Calm.move rfl rfl) ?_
      refine AO.nK [0, 5, 18, 19, 20] ?_
      exact ⟨kq17, Nat.lt_succ_self _, n20, (x14 ++ (lget p1 x15)), (w64 (x15 + (1 : Int))), rfl, rfl, by rw [hrec16]; exact h⟩
     ·refine AW.condN _ rfl hc18 ?_
      refine AW.eK [0, 5] ?_
      exact ⟨n13, x14, rfl, rfl, h⟩
    ·rintro _ _ ⟨n8, x9, rfl, rfl, h⟩
     rw [rex_Join_c0.eq_1] at h
     refine AW.sr ?_
     refine AO.c (Calm.move rfl rfl) ?_
     refine AO.c (Calm.move rfl rfl) ?_
     refine AO.c (x := .st [(1, (eI64 p0)), (4, (.ar 1 ((Vector.replicate 4 (0 : Int)).toList.map eU64)))]) (Calm.build (qs := [(0, (eI64 p0))]) rfl ⟨rfl, rfl, rfl, trivial⟩ Tryd.underlying40 rfl zr40 lay40 (.cons rfl rfl rfl rfl (Put.cast (Put.fld0 Put.here) rfl) .nil) rfl) ?_
     refine AO.lit (Z := (.st [(1, (eI64 (0 : Int))), (4, (.ar 1 ((Vector.replicate 4 (0 : Int)).toList.map eU64)))])) (xs := (([(S40.mk p0 (Vector.replicate 4 (0 : Int)))] : List S40).map e40)) (qs := [(0, (e40 (S40.mk p0 (Vector.replicate 4 (0 : Int)))))]) rfl 31 rfl (by decide) rfl ⟨rfl, rfl, rfl, trivial⟩ Tryd.underlying23 sz40 zr40 lay40 rfl (by decide) (litOK (z := 5) [(e40 (S40.mk p0 (Vector.replicate 4 (0 : Int))))] rfl ⟨⟨rfl, rfl⟩, trivial⟩) rfl fun n10 => ?_
     obtain ⟨hg12, h⟩ := of_guard h
     refine AO.appendL (l := x9) (m := ([(S40.mk p0 (Vector.replicate 4 (0 : Int)))] : List S40)) 1 32 rfl (by decide) rfl rfl rfl rfl rfl (Src.ownL (f := e40) (l := ([(S40.mk p0 (Vector.replicate 4 (0 : Int)))] : List S40)) 0 rfl) Tryd.underlying23 Tryd.underlying23 sz40 by40 zr40 rfl hg12 (by decide) fun n11 => ?_
     refine AO.c (Calm.assign rfl rfl) ?_
     refine AO.nH [4] (H' := [(n11, (.mem (.ar 5 ((x9 ++ ([(S40.mk p0 (Vector.replicate 4 (0 : Int)))] : List S40)).map e40))))]) (Sub.cons 1 rfl (Sub.nil _)) ?_
     refine AW.freezeS 0 [(4, (.fz 5 ((x9 ++ ([(S40.mk p0 (Vector.replicate 4 (0 : Int)))] : List S40)).map e40)))] rfl ⟨fz_all rfl, trivial⟩ ?_
     refine AW.rK [4] ?_
     have hr := Option.some.inj h
     subst hr
     exact ⟨[(.fz 5 ((x9 ++ ([(S40.mk p0 (Vector.replicate 4 (0 : Int)))] : List S40)).map e40))], ⟨rfl, rfl, trivial⟩, rfl⟩
end Go.Avl.TE
/- (*bosket/rex.reader).end; printed by avmain.py. -/
namespace Go.Avl.TE
open Go Go.RowKit Go.Proofs Go.Avl
set_option linter.unusedVariables false
set_option maxRecDepth 100000
set_option maxHeartbeats 4000000
attribute [local irreducible] AW AO AQ Spec SpecH Calm

def rex_reader_end_c0 (k : Nat) : Option Bool :=
  some (false)
def rex_reader_end_l1 (k : Nat) (p0 : S49) (p1 : ByteArray) : Nat → Int → Option Bool
  | 0, _ => none
  | j + 1, x4 =>
    if x4 < (p1.size : Int) then if 0 ≤ p0.f1 ∧ p0.f1 < (p0.f0.size : Int) then if 0 ≤ x4 ∧ x4 < (p1.size : Int) then if (byteAt p0.f0 p0.f1) = (byteAt p1 x4) then some (true)
    else (rex_reader_end_l1 k p0 p1 j) (w64 (x4 + (1 : Int)))
    else none
    else none
    else rex_reader_end_c0 k
def rex_reader_end (k : Nat) (p0 : S49) (p1 : ByteArray) : Option Bool :=
  if (p0.f0.size : Int) ≤ p0.f1 then some (true)
  else rex_reader_end_l1 k p0 p1 k (0 : Int)
theorem rex_reader_end_spec {k : Nat} {p0 : S49} {p1 : ByteArray} {r : Bool} (h : rex_reader_end k p0 p1 = some r) {q0 : Nat} {T0 : Heap} : SpecH Tryd.prog 44 [(.ptr q0 0), (eStr p1)] ((q0, (.mem (e49 p0))) :: T0) (fun x H' => x = eBool r ∧ Sub ((q0, (.mem (e49 p0))) :: T0) H') := by
  rw [rex_reader_end.eq_1] at h
  refine SpecH.intro (res := [.tmp 4]) Tryd.func44 rfl rfl rfl (Nat.le_of_ble_eq_true rfl) ?_
  refine AW.sr ?_
  refine AO.c (Calm.assign rfl rfl) ?_
  refine AO.nK [0, 1] ?_
  refine AW.seq ?_
  refine AW.seq ?_
  refine AW.regQ (by rfl) (by decide +kernel) ?_
  refine AQ.c (Calm.move rfl rfl) ?_
  refine AQ.c (Calm.nilCheck rfl rfl) ?_
  refine AQ.c (x := .ptr q0 1) (Calm.fldPtr rfl rfl Tryd.underlying49 rfl sz3 _ rfl) ?_
  refine AQ.c (Calm.load 0 rfl rfl rfl (At.cast (At.fldS (At.fld0 At.here)) rfl) ag3 sz3) ?_
  refine AQ.c (Calm.move rfl rfl) ?_
  refine AQ.c (Calm.nilCheck rfl rfl) ?_
  refine AQ.c (x := .ptr q0 0) (Calm.fldPtr rfl rfl Tryd.underlying49 rfl sz9 _ rfl) ?_
  refine AQ.c (Calm.load 0 rfl rfl rfl (At.cast (At.fld0 At.here) rfl) ag9 sz9) ?_
  refine AQ.c (Calm.lenStr rfl rfl Tryd.underlying9) ?_
  refine AQ.c (x := eBool (decide ((p0.f0.size : Int) ≤ p0.f1))) (Calm.int rfl rfl rfl rfl) ?_
  refine AQ.nK [0, 1, 15] ?_
  rcases of_ite h with ⟨hc3, h⟩ | ⟨hc3, h⟩
  ·refine AW.condP _ rfl hc3 ?_
   refine AW.sr ?_
   refine AO.c (Calm.assign rfl rfl) ?_
   refine AO.nK [4] ?_
   refine AW.rK [4] ?_
   have hr := Option.some.inj h
   subst hr
   exact ⟨[(eBool true)], ⟨rfl, rfl, trivial⟩, rfl, (Sub.cons 0 rfl (Sub.refl _))⟩
  ·refine AW.condN _ rfl hc3 ?_
   refine AW.sK [0, 1] ?_
   refine AW.seq_mid (fun ρ H => ρ = [] ∧ H = ((q0, (.mem (e49 p0))) :: T0) ∧ rex_reader_end_c0 k = some r) ?_ ?_
   ·refine AW.sr ?_
    refine AO.c (Calm.move rfl rfl) ?_
    refine AO.c (Calm.lenStr rfl rfl Tryd.underlying9) ?_
    refine AO.c (Calm.move rfl rfl) ?_
    refine AO.nK [0, 1, 17, 18] ?_
    refine AW.block ?_
    refine AW.wK [0, 1, 17, 18] ?_
    refine AW.loop (fun kq ρ H => ∃ (x4 : Int), ρ = [(0, (.ptr q0 0)), (1, (eStr p1)), (17, (eI64 (p1.size : Int))), (18, (eI64 x4))] ∧ H = ((q0, (.mem (e49 p0))) :: T0) ∧ rex_reader_end_l1 k p0 p1 kq x4 = some r) k ⟨(0 : Int), rfl, rfl, h⟩ ?_
    rintro kq6 _ _ ⟨x4, rfl, rfl, h⟩
    cases kq6 with
    | zero => rw [rex_reader_end_l1.eq_1] at h; cases h
    | succ kq6 =>
    rw [rex_reader_end_l1.eq_2] at h
    generalize hrec5 : rex_reader_end_l1 k p0 p1 kq6 = rec5 at h
    refine AW.sr ?_
    refine AO.c (x := eBool (decide (x4 < (p1.size : Int)))) (Calm.int rfl rfl rfl rfl) ?_
    refine AO.nK [0, 1, 17, 18, 19] ?_
    refine AW.seq ?_
    rcases of_ite h with ⟨hc7, h⟩ | ⟨hc7, h⟩
    ·refine AW.condP _ rfl hc7 ?_
     refine AW.sK [0, 1, 17, 18] ?_
     refine AW.seq ?_
     refine AW.block ?_
     refine AW.sr ?_
     refine AO.c (Calm.move rfl rfl) ?_
     refine AO.c (Calm.assign rfl rfl) ?_
     refine AO.nK [0, 1, 5, 17, 18] ?_
     refine AW.seq ?_
     refine AW.regQ (by rfl) (by decide +kernel) ?_
     refine AQ.c (Calm.move rfl rfl) ?_
     refine AQ.c (Calm.nilCheck rfl rfl) ?_
     refine AQ.c (x := .ptr q0 0) (Calm.fldPtr rfl rfl Tryd.underlying49 rfl sz9 _ rfl) ?_
     refine AQ.c (Calm.load 0 rfl rfl rfl (At.cast (At.fld0 At.here) rfl) ag9 sz9) ?_
     refine AQ.c (Calm.move rfl rfl) ?_
     refine AQ.c (Calm.nilCheck rfl rfl) ?_
     refine AQ.c (x := .ptr q0 1) (Calm.fldPtr rfl rfl Tryd.underlying49 rfl sz3 _ rfl) ?_
     refine AQ.c (Calm.load 0 rfl rfl rfl (At.cast (At.fldS (At.fld0 At.here)) rfl) ag3 sz3) ?_
     obtain ⟨hg8, h⟩ := of_guard h
     refine AQ.c (x := eU8 (byteAt p0.f0 p0.f1)) (Calm.idxS rfl rfl rfl hg8 Tryd.underlying9) ?_
     refine AQ.c (Calm.move rfl rfl) ?_
     refine AQ.c (Calm.move rfl rfl) ?_
     obtain ⟨hg9, h⟩ := of_guard h
     refine AQ.c (x := eU8 (byteAt p1 x4)) (Calm.idxS rfl rfl rfl hg9 Tryd.underlying9) ?_
     refine AQ.c (x := eBool (decide ((byteAt p0.f0 p0.f1) = (byteAt p1 x4)))) (Calm.int rfl rfl rfl rfl) ?_
     refine AQ.nK [0, 1, 17, 18, 33] ?_
     rcases of_ite h with ⟨hc10, h⟩ | ⟨hc10, h⟩
     ·refine AW.condP _ rfl hc10 ?_
      refine AW.sr ?_
      refine AO.c (Calm.assign rfl rfl) ?_
      refine AO.nK [4] ?_
      refine AW.rK [4] ?_
      have hr := Option.some.inj h
      subst hr
      exact ⟨[(eBool true)], ⟨rfl, rfl, trivial⟩, rfl, (Sub.cons 0 rfl (Sub.refl _))⟩
     ·refine AW.condN _ rfl hc10 ?_
      refine AW.sK [0, 1, 17, 18] ?_
      refine AW.reg ?_
      refine AO.c (x := eI64 (w64 (x4 + (1 : Int)))) (Calm.int rfl rfl rfl rfl) ?_
      refine AO.c (Calm.move rfl rfl) ?_
      refine AO.nK [0, 1, 17, 18] ?_
      exact ⟨kq6, Nat.lt_succ_self _, (w64 (x4 + (1 : Int))), rfl, rfl, by rw [hrec5]; exact h⟩
    ·refine AW.condN _ rfl hc7 ?_
     refine AW.eK [] ?_
     exact ⟨rfl, rfl, h⟩
   ·rintro _ _ ⟨rfl, rfl, h⟩
    rw [rex_reader_end_c0.eq_1] at h
    refine AW.sr ?_
    refine AO.c (Calm.assign rfl rfl) ?_
    refine AO.nK [4] ?_
    refine AW.rK [4] ?_
    have hr := Option.some.inj h
    subst hr
    exact ⟨[(eBool false)], ⟨rfl, rfl, trivial⟩, rfl, (Sub.cons 0 rfl (Sub.refl _))⟩
end Go.Avl.TE
/- bosket/byteset.Full; printed by avmain.py. -/
namespace Go.Avl.TE
open Go Go.RowKit Go.Proofs Go.Avl
set_option linter.unusedVariables false
set_option maxRecDepth 100000
set_option maxHeartbeats 4000000
attribute [local irreducible] AW AO AQ Spec SpecH Calm

def byteset_Full (k : Nat) : Option (Vector Int 4) :=
  some ((vset (vset (vset (vset (Vector.replicate 4 (0 : Int)) (0 : Int) (18446744073709551615 : Int)) (1 : Int) (18446744073709551615 : Int)) (2 : Int) (18446744073709551615 : Int)) (3 : Int) (18446744073709551615 : Int)))
theorem byteset_Full_spec {k : Nat}  {r : (Vector Int 4)} (h : byteset_Full k = some r) : Spec Tryd.prog 36 [] (e38 r) := by
  rw [byteset_Full.eq_1] at h
  refine Spec.intro (res := [.cell 0 38]) Tryd.func36 rfl rfl rfl (Nat.le_of_ble_eq_true rfl) ?_
  refine AW.sr ?_
  refine AO.alloc rfl 0 rfl (by decide) rfl zr38 lay38 fun n1 => ?_
  refine AO.nK [0] ?_
  refine AW.sr ?_
  refine AO.c (x := .ar 1 ((vset (vset (vset (vset (Vector.replicate 4 (0 : Int)) (0 : Int) (18446744073709551615 : Int)) (1 : Int) (18446744073709551615 : Int)) (2 : Int) (18446744073709551615 : Int)) (3 : Int) (18446744073709551615 : Int)).toList.map eU64)) (Calm.buildAr (qs := [(0, (eU64 (18446744073709551615 : Int))), (1, (eU64 (18446744073709551615 : Int))), (2, (eU64 (18446744073709551615 : Int))), (3, (eU64 (18446744073709551615 : Int)))]) rfl ⟨rfl, rfl, rfl, rfl, rfl, rfl, rfl, rfl, rfl, rfl, rfl, rfl, trivial⟩ Tryd.underlying38 sz36 zr38 lay38 (.cons rfl rfl rfl rfl (Put.cast (Put.vidx (0 : Int) (18446744073709551615 : Int) (by decide) (by decide) Put.here) rfl) (.cons rfl rfl rfl rfl (Put.cast (Put.vidx (1 : Int) (18446744073709551615 : Int) (by decide) (by decide) Put.here) rfl) (.cons rfl rfl rfl rfl (Put.cast (Put.vidx (2 : Int) (18446744073709551615 : Int) (by decide) (by decide) Put.here) rfl) (.cons rfl rfl rfl rfl (Put.cast (Put.vidx (3 : Int) (18446744073709551615 : Int) (by decide) (by decide) Put.here) rfl) .nil)))) rfl) ?_
  refine AO.store (X' := (.ar 1 ((vset (vset (vset (vset (Vector.replicate 4 (0 : Int)) (0 : Int) (18446744073709551615 : Int)) (1 : Int) (18446744073709551615 : Int)) (2 : Int) (18446744073709551615 : Int)) (3 : Int) (18446744073709551615 : Int)).toList.map eU64))) 0 rfl rfl rfl rfl rfl rfl (Put.cast Put.here rfl) rfl (by simp [AV.size]) (by rw [sz38]; simp [AV.size]) rfl ?_
  refine AO.nK [0] ?_
  refine AW.rK [0] ?_
  have hr := Option.some.inj h
  subst hr
  exact ⟨[(.ar 1 ((vset (vset (vset (vset (Vector.replicate 4 (0 : Int)) (0 : Int) (18446744073709551615 : Int)) (1 : Int) (18446744073709551615 : Int)) (2 : Int) (18446744073709551615 : Int)) (3 : Int) (18446744073709551615 : Int)).toList.map eU64))], ⟨⟨_, 0, rfl, rfl, ag38, (by rw [sz38]; simp [AV.size])⟩, trivial⟩, rfl⟩
end Go.Avl.TE
/- bosket/escape.value; printed by avmain.py. -/
namespace Go.Avl.TE
open Go Go.RowKit Go.Proofs Go.Avl
set_option linter.unusedVariables false
set_option maxRecDepth 100000
set_option maxHeartbeats 4000000
attribute [local irreducible] AW AO AQ Spec SpecH Calm

def escape_value (k : Nat) (p0 : Int) : Option Int :=
  Option.bind (α := Bool) (if (48 : Int) ≤ p0 then some (decide (p0 ≤ (57 : Int)))
  else some (false)) fun b2 =>
  if b2 = true then some ((w64 (w8 (p0 - (48 : Int)))))
  else Option.bind (α := Bool) (if (97 : Int) ≤ p0 then some (decide (p0 ≤ (102 : Int)))
  else some (false)) fun b6 =>
  if b6 = true then some ((w64 ((w64 (w8 (p0 - (97 : Int)))) + (10 : Int))))
  else some ((-1 : Int))
theorem escape_value_spec {k : Nat} {p0 : Int} {r : Int} (h : escape_value k p0 = some r) : Spec Tryd.prog 60 [(eU8 p0)] (eI64 r) := by
  rw [escape_value.eq_1] at h
  refine Spec.intro (res := [.tmp 2]) Tryd.func60 rfl rfl rfl (Nat.le_of_ble_eq_true rfl) ?_
  refine AW.sr ?_
  refine AO.c (Calm.assign rfl rfl) ?_
  refine AO.nK [0] ?_
  refine AW.seq ?_
  refine AW.block ?_
  refine AW.seq ?_
  obtain ⟨b2, hq3, h⟩ := of_bind h
  refine AW.regM [(0, (eU8 p0)), (3, (eBool b2))] [] ?_ ?_
  ·refine AO.c (Calm.move rfl rfl) ?_
   refine AO.c (x := eBool (decide ((48 : Int) ≤ p0))) (Calm.int rfl rfl rfl rfl) ?_
   refine AO.c (Calm.move rfl rfl) ?_
   rcases of_ite hq3 with ⟨hc4, hq3⟩ | ⟨hc4, hq3⟩
   ·refine AO.cG rfl rfl (bD (decide_eq_true hc4)) (Calm.move rfl rfl) ?_
    refine AO.cG (x := eBool (decide (p0 ≤ (57 : Int)))) rfl rfl (bD (decide_eq_true hc4)) (Calm.int rfl rfl rfl rfl) ?_
    refine AO.c (Calm.pickT rfl (bD (decide_eq_true hc4)) rfl) ?_
    refine AO.c (Calm.assign rfl rfl) ?_
    cases hq3
    refine AO.nilE ⟨rfl, rfl⟩ ?_ ?_
    · exact ⟨rfl, rfl, trivial⟩
    · exact (Sub.refl _)
   ·refine AO.sT rfl rfl (bD (decide_eq_false hc4)) ?_
    refine AO.sT rfl rfl (bD (decide_eq_false hc4)) ?_
    refine AO.c (Calm.pickF rfl (bD (decide_eq_false hc4)) rfl) ?_
    refine AO.c (Calm.assign rfl rfl) ?_
    cases hq3
    refine AO.nilE ⟨rfl, rfl⟩ ?_ ?_
    · exact ⟨rfl, rfl, trivial⟩
    · exact (Sub.refl _)
  ·rcases of_ite h with ⟨hc5, h⟩ | ⟨hc5, h⟩
   ·refine AW.condT' _ rfl hc5 ?_
    refine AW.sr ?_
    refine AO.c (Calm.move rfl rfl) ?_
    refine AO.c (x := eU8 (w8 (p0 - (48 : Int)))) (Calm.int rfl rfl rfl rfl) ?_
    refine AO.c (x := eI64 (w64 (w8 (p0 - (48 : Int))))) (Calm.conv rfl rfl Tryd.underlying5 Tryd.underlying3) ?_
    refine AO.c (Calm.assign rfl rfl) ?_
    refine AO.nK [2] ?_
    refine AW.rK [2] ?_
    have hr := Option.some.inj h
    subst hr
    exact ⟨[(eI64 (w64 (w8 (p0 - (48 : Int)))))], ⟨rfl, rfl, trivial⟩, rfl⟩
   ·refine AW.condF' _ rfl hc5 ?_
    refine AW.seq ?_
    obtain ⟨b6, hq7, h⟩ := of_bind h
    refine AW.regM [(0, (eU8 p0)), (13, (eBool b6))] [] ?_ ?_
    ·refine AO.c (Calm.move rfl rfl) ?_
     refine AO.c (x := eBool (decide ((97 : Int) ≤ p0))) (Calm.int rfl rfl rfl rfl) ?_
     refine AO.c (Calm.move rfl rfl) ?_
     rcases of_ite hq7 with ⟨hc8, hq7⟩ | ⟨hc8, hq7⟩
     ·refine AO.cG rfl rfl (bD (decide_eq_true hc8)) (Calm.move rfl rfl) ?_
      refine AO.cG (x := eBool (decide (p0 ≤ (102 : Int)))) rfl rfl (bD (decide_eq_true hc8)) (Calm.int rfl rfl rfl rfl) ?_
      refine AO.c (Calm.pickT rfl (bD (decide_eq_true hc8)) rfl) ?_
      refine AO.c (Calm.assign rfl rfl) ?_
      cases hq7
      refine AO.nilE ⟨rfl, rfl⟩ ?_ ?_
      · exact ⟨rfl, rfl, trivial⟩
      · exact (Sub.refl _)
     ·refine AO.sT rfl rfl (bD (decide_eq_false hc8)) ?_
      refine AO.sT rfl rfl (bD (decide_eq_false hc8)) ?_
      refine AO.c (Calm.pickF rfl (bD (decide_eq_false hc8)) rfl) ?_
      refine AO.c (Calm.assign rfl rfl) ?_
      cases hq7
      refine AO.nilE ⟨rfl, rfl⟩ ?_ ?_
      · exact ⟨rfl, rfl, trivial⟩
      · exact (Sub.refl _)
    ·rcases of_ite h with ⟨hc9, h⟩ | ⟨hc9, h⟩
     ·refine AW.condT' _ rfl hc9 ?_
      refine AW.sr ?_
      refine AO.c (Calm.move rfl rfl) ?_
      refine AO.c (x := eU8 (w8 (p0 - (97 : Int)))) (Calm.int rfl rfl rfl rfl) ?_
      refine AO.c (x := eI64 (w64 (w8 (p0 - (97 : Int))))) (Calm.conv rfl rfl Tryd.underlying5 Tryd.underlying3) ?_
      refine AO.c (x := eI64 (w64 ((w64 (w8 (p0 - (97 : Int)))) + (10 : Int)))) (Calm.int rfl rfl rfl rfl) ?_
      refine AO.c (Calm.assign rfl rfl) ?_
      refine AO.nK [2] ?_
      refine AW.rK [2] ?_
      have hr := Option.some.inj h
      subst hr
      exact ⟨[(eI64 (w64 ((w64 (w8 (p0 - (97 : Int)))) + (10 : Int))))], ⟨rfl, rfl, trivial⟩, rfl⟩
     ·refine AW.condF' _ rfl hc9 ?_
      refine AW.sK [] ?_
      refine AW.sr ?_
      refine AO.c (Calm.assign rfl rfl) ?_
      refine AO.nK [2] ?_
      refine AW.rK [2] ?_
      have hr := Option.some.inj h
      subst hr
      exact ⟨[(eI64 (-1 : Int))], ⟨rfl, rfl, trivial⟩, rfl⟩
end Go.Avl.TE
/- bosket/escape.Read; printed by avmain.py. -/
namespace Go.Avl.TE
open Go Go.RowKit Go.Proofs Go.Avl
set_option linter.unusedVariables false
set_option maxRecDepth 100000
set_option maxHeartbeats 4000000
attribute [local irreducible] AW AO AQ Spec SpecH Calm

def escape_Read_c0 (k : Nat) (p0 : ByteArray) : Option (Int × Int × Bool) :=
  Option.bind (α := Bool) (if (48 : Int) ≤ (byteAt p0 (1 : Int)) then if (byteAt p0 (1 : Int)) ≤ (57 : Int) then some (true)
  else if (97 : Int) ≤ (byteAt p0 (1 : Int)) then if (byteAt p0 (1 : Int)) ≤ (122 : Int) then some (true)
  else if (65 : Int) ≤ (byteAt p0 (1 : Int)) then if (byteAt p0 (1 : Int)) ≤ (90 : Int) then some (true)
  else if (byteAt p0 (1 : Int)) < (32 : Int) then some (true)
  else some (decide ((126 : Int) < (byteAt p0 (1 : Int))))
  else if (byteAt p0 (1 : Int)) < (32 : Int) then some (true)
  else some (decide ((126 : Int) < (byteAt p0 (1 : Int))))
  else if (65 : Int) ≤ (byteAt p0 (1 : Int)) then if (byteAt p0 (1 : Int)) ≤ (90 : Int) then some (true)
  else if (byteAt p0 (1 : Int)) < (32 : Int) then some (true)
  else some (decide ((126 : Int) < (byteAt p0 (1 : Int))))
  else if (byteAt p0 (1 : Int)) < (32 : Int) then some (true)
  else some (decide ((126 : Int) < (byteAt p0 (1 : Int))))
  else if (97 : Int) ≤ (byteAt p0 (1 : Int)) then if (byteAt p0 (1 : Int)) ≤ (122 : Int) then some (true)
  else if (65 : Int) ≤ (byteAt p0 (1 : Int)) then if (byteAt p0 (1 : Int)) ≤ (90 : Int) then some (true)
  else if (byteAt p0 (1 : Int)) < (32 : Int) then some (true)
  else some (decide ((126 : Int) < (byteAt p0 (1 : Int))))
  else if (byteAt p0 (1 : Int)) < (32 : Int) then some (true)
  else some (decide ((126 : Int) < (byteAt p0 (1 : Int))))
  else if (65 : Int) ≤ (byteAt p0 (1 : Int)) then if (byteAt p0 (1 : Int)) ≤ (90 : Int) then some (true)
  else if (byteAt p0 (1 : Int)) < (32 : Int) then some (true)
  else some (decide ((126 : Int) < (byteAt p0 (1 : Int))))
  else if (byteAt p0 (1 : Int)) < (32 : Int) then some (true)
  else some (decide ((126 : Int) < (byteAt p0 (1 : Int))))) fun b8 =>
  if b8 = true then some ((0 : Int), (0 : Int), false)
  else some ((byteAt p0 (1 : Int)), (2 : Int), true)
def escape_Read_c1 (k : Nat) : Option (Int × Int × Bool) :=
  some ((0 : Int), (0 : Int), false)
def escape_Read_c2 (k : Nat) (p0 : ByteArray) : Option (Int × Int × Bool) :=
  Option.bind (α := Bool) (if (4 : Int) ≤ (p0.size : Int) then if 0 ≤ (2 : Int) ∧ (2 : Int) < (p0.size : Int) then (escape_value k (byteAt p0 (2 : Int))).bind fun t37 =>
  if (0 : Int) ≤ t37 then if 0 ≤ (3 : Int) ∧ (3 : Int) < (p0.size : Int) then (escape_value k (byteAt p0 (3 : Int))).bind fun t40 =>
  some (decide ((0 : Int) ≤ t40))
  else none
  else some (false)
  else none
  else some (false)) fun b33 =>
  if b33 = true then if 0 ≤ (2 : Int) ∧ (2 : Int) < (p0.size : Int) then (escape_value k (byteAt p0 (2 : Int))).bind fun t43 =>
  if 0 ≤ (3 : Int) ∧ (3 : Int) < (p0.size : Int) then (escape_value k (byteAt p0 (3 : Int))).bind fun t45 =>
  some ((w8 (bits .or .i64 (IntKind.i64.wrap (t43 * 2 ^ (min (4 : Int).toNat IntKind.i64.bits))) t45)), (4 : Int), true)
  else none
  else none
  else escape_Read_c1 k
def escape_Read_c3 (k : Nat) : Option (Int × Int × Bool) :=
  some ((13 : Int), (2 : Int), true)
def escape_Read_c4 (k : Nat) : Option (Int × Int × Bool) :=
  some ((9 : Int), (2 : Int), true)
def escape_Read_c5 (k : Nat) : Option (Int × Int × Bool) :=
  some ((10 : Int), (2 : Int), true)
def escape_Read (k : Nat) (p0 : ByteArray) : Option (Int × Int × Bool) :=
  if p0 = (ByteArray.mk #[]) then some ((0 : Int), (0 : Int), false)
  else if 0 ≤ (0 : Int) ∧ (0 : Int) < (p0.size : Int) then if (byteAt p0 (0 : Int)) ≠ (92 : Int) then if 0 ≤ (0 : Int) ∧ (0 : Int) < (p0.size : Int) then some ((byteAt p0 (0 : Int)), (1 : Int), true)
  else none
  else if (p0.size : Int) < (2 : Int) then some ((0 : Int), (0 : Int), false)
  else if 0 ≤ (1 : Int) ∧ (1 : Int) < (p0.size : Int) then if (byteAt p0 (1 : Int)) = (110 : Int) then escape_Read_c5 k
  else if (byteAt p0 (1 : Int)) = (116 : Int) then escape_Read_c4 k
  else if (byteAt p0 (1 : Int)) = (114 : Int) then escape_Read_c3 k
  else if (byteAt p0 (1 : Int)) = (120 : Int) then escape_Read_c2 k p0
  else if (byteAt p0 (1 : Int)) = (0 : Int) then escape_Read_c1 k
  else escape_Read_c0 k p0
  else none
  else none
theorem escape_Read_spec {k : Nat} {p0 : ByteArray} {r : (Int × Int × Bool)} (h : escape_Read k p0 = some r) : Spec Tryd.prog 59 [(eStr p0)] (.tup [(eU8 r.1), (eI64 r.2.1), (eBool r.2.2)]) := by
  rw [escape_Read.eq_1] at h
  refine Spec.intro (res := [.tmp 2, .tmp 3, .tmp 4]) Tryd.func59 rfl rfl rfl (Nat.le_of_ble_eq_true rfl) ?_
  refine AW.sr ?_
  refine AO.c (Calm.assign rfl rfl) ?_
  refine AO.c (Calm.assign rfl rfl) ?_
  refine AO.c (Calm.assign rfl rfl) ?_
  refine AO.nK [0] ?_
  refine AW.seq ?_
  refine AW.block ?_
  refine AW.sr ?_
  refine AO.c (Calm.move rfl rfl) ?_
  refine AO.c (x := eBool (decide (p0 = (ByteArray.mk #[])))) (Calm.str rfl rfl rfl rfl) ?_
  refine AO.c (Calm.assign rfl rfl) ?_
  refine AO.nK [0, 6] ?_
  rcases of_ite h with ⟨hc2, h⟩ | ⟨hc2, h⟩
  ·refine AW.condP _ rfl hc2 ?_
   refine AW.sr ?_
   refine AO.c (Calm.assign rfl rfl) ?_
   refine AO.c (Calm.assign rfl rfl) ?_
   refine AO.c (Calm.assign rfl rfl) ?_
   refine AO.nK [2, 3, 4] ?_
   refine AW.rK [2, 3, 4] ?_
   have hr := Option.some.inj h
   subst hr
   exact ⟨[(eU8 (0 : Int)), (eI64 (0 : Int)), (eBool false)], ⟨rfl, rfl, rfl, rfl, rfl, rfl, trivial⟩, rfl⟩
  ·refine AW.condN _ rfl hc2 ?_
   refine AW.sr ?_
   refine AO.c (Calm.move rfl rfl) ?_
   obtain ⟨hg3, h⟩ := of_guard h
   refine AO.c (x := eU8 (byteAt p0 (0 : Int))) (Calm.idxS rfl rfl rfl hg3 Tryd.underlying9) ?_
   refine AO.c (x := eBool (decide ((byteAt p0 (0 : Int)) ≠ (92 : Int)))) (Calm.int rfl rfl rfl rfl) ?_
   refine AO.c (Calm.assign rfl rfl) ?_
   refine AO.nK [0, 9] ?_
   rcases of_ite h with ⟨hc4, h⟩ | ⟨hc4, h⟩
   ·refine AW.condP _ rfl hc4 ?_
    refine AW.sr ?_
    refine AO.c (Calm.move rfl rfl) ?_
    obtain ⟨hg5, h⟩ := of_guard h
    refine AO.c (x := eU8 (byteAt p0 (0 : Int))) (Calm.idxS rfl rfl rfl hg5 Tryd.underlying9) ?_
    refine AO.c (Calm.assign rfl rfl) ?_
    refine AO.c (Calm.assign rfl rfl) ?_
    refine AO.c (Calm.assign rfl rfl) ?_
    refine AO.nK [2, 3, 4] ?_
    refine AW.rK [2, 3, 4] ?_
    have hr := Option.some.inj h
    subst hr
    exact ⟨[(eU8 (byteAt p0 (0 : Int))), (eI64 (1 : Int)), (eBool true)], ⟨rfl, rfl, rfl, rfl, rfl, rfl, trivial⟩, rfl⟩
   ·refine AW.condN _ rfl hc4 ?_
    refine AW.sr ?_
    refine AO.c (Calm.move rfl rfl) ?_
    refine AO.c (Calm.lenStr rfl rfl Tryd.underlying9) ?_
    refine AO.c (x := eBool (decide ((p0.size : Int) < (2 : Int)))) (Calm.int rfl rfl rfl rfl) ?_
    refine AO.c (Calm.assign rfl rfl) ?_
    refine AO.nK [0, 15] ?_
    rcases of_ite h with ⟨hc6, h⟩ | ⟨hc6, h⟩
    ·refine AW.condP _ rfl hc6 ?_
     refine AW.sr ?_
     refine AO.c (Calm.assign rfl rfl) ?_
     refine AO.c (Calm.assign rfl rfl) ?_
     refine AO.c (Calm.assign rfl rfl) ?_
     refine AO.nK [2, 3, 4] ?_
     refine AW.rK [2, 3, 4] ?_
     have hr := Option.some.inj h
     subst hr
     exact ⟨[(eU8 (0 : Int)), (eI64 (0 : Int)), (eBool false)], ⟨rfl, rfl, rfl, rfl, rfl, rfl, trivial⟩, rfl⟩
    ·refine AW.condN _ rfl hc6 ?_
     refine AW.sK [0] ?_
     refine AW.sr ?_
     refine AO.c (Calm.move rfl rfl) ?_
     obtain ⟨hg7, h⟩ := of_guard h
     refine AO.c (x := eU8 (byteAt p0 (1 : Int))) (Calm.idxS rfl rfl rfl hg7 Tryd.underlying9) ?_
     refine AO.c (Calm.assign rfl rfl) ?_
     refine AO.nK [0, 5] ?_
     refine AW.seq_mid (fun ρ H => ρ = [(5, (eU8 (byteAt p0 (1 : Int))))] ∧ H = [] ∧ escape_Read_c0 k p0 = some r) ?_ ?_
     ·refine AW.sr ?_
      refine AO.c (Calm.move rfl rfl) ?_
      refine AO.nK [0, 5, 21] ?_
      refine AW.block ?_
      refine AW.seq_mid (fun ρ H => ρ = [] ∧ H = [] ∧ escape_Read_c1 k = some r) ?_ ?_
      ·refine AW.block ?_
       refine AW.seq_mid (fun ρ H => ρ = [(0, (eStr p0))] ∧ H = [] ∧ escape_Read_c2 k p0 = some r) ?_ ?_
       ·refine AW.block ?_
        refine AW.seq_mid (fun ρ H => ρ = [] ∧ H = [] ∧ escape_Read_c3 k = some r) ?_ ?_
        ·refine AW.block ?_
         refine AW.seq_mid (fun ρ H => ρ = [] ∧ H = [] ∧ escape_Read_c4 k = some r) ?_ ?_
         ·refine AW.block ?_
          refine AW.seq_mid (fun ρ H => ρ = [] ∧ H = [] ∧ escape_Read_c5 k = some r) ?_ ?_
          ·refine AW.block ?_
           refine AW.seq ?_
           refine AW.seq ?_
           refine AW.sr ?_
           refine AO.c (x := eBool (decide ((byteAt p0 (1 : Int)) = (110 : Int)))) (Calm.int rfl rfl rfl rfl) ?_
           refine AO.c (Calm.assign rfl rfl) ?_
           refine AO.nK [0, 5, 21, 22] ?_
           rcases of_ite h with ⟨hc46, h⟩ | ⟨hc46, h⟩
           ·refine AW.condP _ rfl hc46 ?_
            refine AW.eK [] ?_
            exact ⟨rfl, rfl, h⟩
           ·refine AW.condN _ rfl hc46 ?_
            refine AW.sK [0, 5, 21] ?_
            refine AW.seq ?_
            refine AW.sr ?_
            refine AO.c (x := eBool (decide ((byteAt p0 (1 : Int)) = (116 : Int)))) (Calm.int rfl rfl rfl rfl) ?_
            refine AO.c (Calm.assign rfl rfl) ?_
            refine AO.nK [0, 5, 21, 24] ?_
            rcases of_ite h with ⟨hc47, h⟩ | ⟨hc47, h⟩
            ·refine AW.condP _ rfl hc47 ?_
             refine AW.eK [] ?_
             exact ⟨rfl, rfl, h⟩
            ·refine AW.condN _ rfl hc47 ?_
             refine AW.sK [0, 5, 21] ?_
             refine AW.seq ?_
             refine AW.sr ?_
             refine AO.c (x := eBool (decide ((byteAt p0 (1 : Int)) = (114 : Int)))) (Calm.int rfl rfl rfl rfl) ?_
             refine AO.c (Calm.assign rfl rfl) ?_
             refine AO.nK [0, 5, 21, 26] ?_
             rcases of_ite h with ⟨hc48, h⟩ | ⟨hc48, h⟩
             ·refine AW.condP _ rfl hc48 ?_
              refine AW.eK [] ?_
              exact ⟨rfl, rfl, h⟩
             ·refine AW.condN _ rfl hc48 ?_
              refine AW.sK [0, 5, 21] ?_
              refine AW.seq ?_
              refine AW.sr ?_
              refine AO.c (x := eBool (decide ((byteAt p0 (1 : Int)) = (120 : Int)))) (Calm.int rfl rfl rfl rfl) ?_
              refine AO.c (Calm.assign rfl rfl) ?_
              refine AO.nK [0, 5, 21, 28] ?_
              rcases of_ite h with ⟨hc49, h⟩ | ⟨hc49, h⟩
              ·refine AW.condP _ rfl hc49 ?_
               refine AW.eK [0] ?_
               exact ⟨rfl, rfl, h⟩
              ·refine AW.condN _ rfl hc49 ?_
               refine AW.sK [5, 21] ?_
               refine AW.sr ?_
               refine AO.c (x := eBool (decide ((byteAt p0 (1 : Int)) = (0 : Int)))) (Calm.int rfl rfl rfl rfl) ?_
               refine AO.c (Calm.assign rfl rfl) ?_
               refine AO.nK [5, 30] ?_
               rcases of_ite h with ⟨hc50, h⟩ | ⟨hc50, h⟩
               ·refine AW.condP _ rfl hc50 ?_
                refine AW.eK [] ?_
                exact ⟨rfl, rfl, h⟩
               ·refine AW.condN _ rfl hc50 ?_
                refine AW.sK [5] ?_
                refine AW.eK [5] ?_
                exact ⟨rfl, rfl, h⟩
          ·rintro _ _ ⟨rfl, rfl, h⟩
           rw [escape_Read_c5.eq_1] at h
           refine AW.seq ?_
           refine AW.sr ?_
           refine AO.c (Calm.assign rfl rfl) ?_
           refine AO.c (Calm.assign rfl rfl) ?_
           refine AO.c (Calm.assign rfl rfl) ?_
           refine AO.nK [2, 3, 4] ?_
           refine AW.rK [2, 3, 4] ?_
           have hr := Option.some.inj h
           subst hr
           exact ⟨[(eU8 (10 : Int)), (eI64 (2 : Int)), (eBool true)], ⟨rfl, rfl, rfl, rfl, rfl, rfl, trivial⟩, rfl⟩
         ·rintro _ _ ⟨rfl, rfl, h⟩
          rw [escape_Read_c4.eq_1] at h
          refine AW.seq ?_
          refine AW.sr ?_
          refine AO.c (Calm.assign rfl rfl) ?_
          refine AO.c (Calm.assign rfl rfl) ?_
          refine AO.c (Calm.assign rfl rfl) ?_
          refine AO.nK [2, 3, 4] ?_
          refine AW.rK [2, 3, 4] ?_
          have hr := Option.some.inj h
          subst hr
          exact ⟨[(eU8 (9 : Int)), (eI64 (2 : Int)), (eBool true)], ⟨rfl, rfl, rfl, rfl, rfl, rfl, trivial⟩, rfl⟩
        ·rintro _ _ ⟨rfl, rfl, h⟩
         rw [escape_Read_c3.eq_1] at h
         refine AW.seq ?_
         refine AW.sr ?_
         refine AO.c (Calm.assign rfl rfl) ?_
         refine AO.c (Calm.assign rfl rfl) ?_
         refine AO.c (Calm.assign rfl rfl) ?_
         refine AO.nK [2, 3, 4] ?_
         refine AW.rK [2, 3, 4] ?_
         have hr := Option.some.inj h
         subst hr
         exact ⟨[(eU8 (13 : Int)), (eI64 (2 : Int)), (eBool true)], ⟨rfl, rfl, rfl, rfl, rfl, rfl, trivial⟩, rfl⟩
       ·rintro _ _ ⟨rfl, rfl, h⟩
        rw [escape_Read_c2.eq_1] at h
        refine AW.seq ?_
        obtain ⟨b33, hq34, h⟩ := of_bind h
        refine AW.regM [(0, (eStr p0)), (46, (eBool b33))] [] ?_ ?_
        ·refine AO.c (Calm.move rfl rfl) ?_
         refine AO.c (Calm.lenStr rfl rfl Tryd.underlying9) ?_
         refine AO.c (x := eBool (decide ((4 : Int) ≤ (p0.size : Int)))) (Calm.int rfl rfl rfl rfl) ?_
         refine AO.c (Calm.move rfl rfl) ?_
         rcases of_ite hq34 with ⟨hc35, hq34⟩ | ⟨hc35, hq34⟩
         ·refine AO.cG rfl rfl (bD (decide_eq_true hc35)) (Calm.move rfl rfl) ?_
          obtain ⟨hg36, hq34⟩ := of_guard hq34
          refine AO.cG (x := eU8 (byteAt p0 (2 : Int))) rfl rfl (bD (decide_eq_true hc35)) (Calm.idxS rfl rfl rfl hg36 Tryd.underlying9) ?_
          obtain ⟨t37, et37, hq34⟩ := of_bind hq34
          refine AO.callG 3 true 35 [(eU8 (byteAt p0 (2 : Int)))] (eI64 t37) 38 rfl (by decide) ok60 rfl rfl (bD (decide_eq_true hc35)) rfl rfl ⟨rfl, rfl, trivial⟩ (escape_value_spec et37) ?_
          refine AO.cG (x := eBool (decide ((0 : Int) ≤ t37))) rfl rfl (bD (decide_eq_true hc35)) (Calm.int rfl rfl rfl rfl) ?_
          refine AO.c (Calm.pickT rfl (bD (decide_eq_true hc35)) rfl) ?_
          refine AO.c (Calm.move rfl rfl) ?_
          rcases of_ite hq34 with ⟨hc38, hq34⟩ | ⟨hc38, hq34⟩
          ·refine AO.cG rfl rfl (bD (decide_eq_true hc38)) (Calm.move rfl rfl) ?_
           obtain ⟨hg39, hq34⟩ := of_guard hq34
           refine AO.cG (x := eU8 (byteAt p0 (3 : Int))) rfl rfl (bD (decide_eq_true hc38)) (Calm.idxS rfl rfl rfl hg39 Tryd.underlying9) ?_
           obtain ⟨t40, et40, hq34⟩ := of_bind hq34
           refine AO.callG 9 true 41 [(eU8 (byteAt p0 (3 : Int)))] (eI64 t40) 44 rfl (by decide) ok60 rfl rfl (bD (decide_eq_true hc38)) rfl rfl ⟨rfl, rfl, trivial⟩ (escape_value_spec et40) ?_
           refine AO.cG (x := eBool (decide ((0 : Int) ≤ t40))) rfl rfl (bD (decide_eq_true hc38)) (Calm.int rfl rfl rfl rfl) ?_
           refine AO.c (Calm.pickT rfl (bD (decide_eq_true hc38)) rfl) ?_
           cases hq34
           refine AO.nilE ⟨rfl, rfl⟩ ?_ ?_
           · exact ⟨rfl, rfl, trivial⟩
           · exact (Sub.refl _)
          ·refine AO.sT rfl rfl (bD (decide_eq_false hc38)) ?_
           refine AO.sT rfl rfl (bD (decide_eq_false hc38)) ?_
           refine AO.sT rfl rfl (bD (decide_eq_false hc38)) ?_
           refine AO.sT rfl rfl (bD (decide_eq_false hc38)) ?_
           refine AO.c (Calm.pickF rfl (bD (decide_eq_false hc38)) rfl) ?_
           cases hq34
           refine AO.nilE ⟨rfl, rfl⟩ ?_ ?_
           · exact ⟨rfl, rfl, trivial⟩
           · exact (Sub.refl _)
         ·refine AO.sT rfl rfl (bD (decide_eq_false hc35)) ?_
          refine AO.sT rfl rfl (bD (decide_eq_false hc35)) ?_
          refine AO.sT rfl rfl (bD (decide_eq_false hc35)) ?_
          refine AO.sT rfl rfl (bD (decide_eq_false hc35)) ?_
          refine AO.c (Calm.pickF rfl (bD (decide_eq_false hc35)) rfl) ?_
          refine AO.c (Calm.move rfl rfl) ?_
          refine AO.sT rfl rfl rfl ?_
          refine AO.sT rfl rfl rfl ?_
          refine AO.sT rfl rfl rfl ?_
          refine AO.sT rfl rfl rfl ?_
          refine AO.c (Calm.pickF rfl rfl rfl) ?_
          cases hq34
          refine AO.nilE ⟨rfl, rfl⟩ ?_ ?_
          · exact ⟨rfl, rfl, trivial⟩
          · exact (Sub.refl _)
        ·rcases of_ite h with ⟨hc41, h⟩ | ⟨hc41, h⟩
         ·refine AW.condT' _ rfl hc41 ?_
          refine AW.seq ?_
          refine AW.regQ (by rfl) (by decide +kernel) ?_
          refine AQ.c (Calm.move rfl rfl) ?_
          obtain ⟨hg42, h⟩ := of_guard h
          refine AQ.c (x := eU8 (byteAt p0 (2 : Int))) (Calm.idxS rfl rfl rfl hg42 Tryd.underlying9) ?_
          obtain ⟨t43, et43, h⟩ := of_bind h
          refine AQ.c (Calm.call (args := [(eU8 (byteAt p0 (2 : Int)))]) rfl rfl ok60 ⟨rfl, rfl, trivial⟩ rfl (escape_value_spec et43)) ?_
          refine AQ.c (x := eI64 (IntKind.i64.wrap (t43 * 2 ^ (min (4 : Int).toNat IntKind.i64.bits)))) (Calm.shl rfl rfl rfl (by decide)) ?_
          refine AQ.c (Calm.move rfl rfl) ?_
          obtain ⟨hg44, h⟩ := of_guard h
          refine AQ.c (x := eU8 (byteAt p0 (3 : Int))) (Calm.idxS rfl rfl rfl hg44 Tryd.underlying9) ?_
          obtain ⟨t45, et45, h⟩ := of_bind h
          refine AQ.c (Calm.call (args := [(eU8 (byteAt p0 (3 : Int)))]) rfl rfl ok60 ⟨rfl, rfl, trivial⟩ rfl (escape_value_spec et45)) ?_
          refine AQ.c (x := eI64 (bits .or .i64 (IntKind.i64.wrap (t43 * 2 ^ (min (4 : Int).toNat IntKind.i64.bits))) t45)) (Calm.int rfl rfl rfl rfl) ?_
          refine AQ.c (x := eU8 (w8 (bits .or .i64 (IntKind.i64.wrap (t43 * 2 ^ (min (4 : Int).toNat IntKind.i64.bits))) t45))) (Calm.conv rfl rfl Tryd.underlying3 Tryd.underlying5) ?_
          refine AQ.c (Calm.assign rfl rfl) ?_
          refine AQ.c (Calm.assign rfl rfl) ?_
          refine AQ.c (Calm.assign rfl rfl) ?_
          refine AQ.nK [2, 3, 4] ?_
          refine AW.rK [2, 3, 4] ?_
          have hr := Option.some.inj h
          subst hr
          exact ⟨[(eU8 (w8 (bits .or .i64 (IntKind.i64.wrap (t43 * 2 ^ (min (4 : Int).toNat IntKind.i64.bits))) t45))), (eI64 (4 : Int)), (eBool true)], ⟨rfl, rfl, rfl, rfl, rfl, rfl, trivial⟩, rfl⟩
         ·refine AW.condF' _ rfl hc41 ?_
          refine AW.sK [] ?_
          exact ⟨rfl, rfl, h⟩
      ·rintro _ _ ⟨rfl, rfl, h⟩
       rw [escape_Read_c1.eq_1] at h
       refine AW.seq ?_
       refine AW.sr ?_
       refine AO.c (Calm.assign rfl rfl) ?_
       refine AO.c (Calm.assign rfl rfl) ?_
       refine AO.c (Calm.assign rfl rfl) ?_
       refine AO.nK [2, 3, 4] ?_
       refine AW.rK [2, 3, 4] ?_
       have hr := Option.some.inj h
       subst hr
       exact ⟨[(eU8 (0 : Int)), (eI64 (0 : Int)), (eBool false)], ⟨rfl, rfl, rfl, rfl, rfl, rfl, trivial⟩, rfl⟩
     ·rintro _ _ ⟨rfl, rfl, h⟩
      rw [escape_Read_c0.eq_1] at h
      refine AW.seq ?_
      refine AW.seq ?_
      obtain ⟨b8, hq9, h⟩ := of_bind h
      refine AW.regM [(5, (eU8 (byteAt p0 (1 : Int)))), (85, (eBool b8))] [] ?_ ?_
      ·refine AO.c (Calm.move rfl rfl) ?_
       refine AO.c (x := eBool (decide ((48 : Int) ≤ (byteAt p0 (1 : Int))))) (Calm.int rfl rfl rfl rfl) ?_
       refine AO.c (Calm.move rfl rfl) ?_
       rcases of_ite hq9 with ⟨hc10, hq9⟩ | ⟨hc10, hq9⟩
       ·refine AO.cG rfl rfl (bD (decide_eq_true hc10)) (Calm.move rfl rfl) ?_
        refine AO.cG (x := eBool (decide ((byteAt p0 (1 : Int)) ≤ (57 : Int)))) rfl rfl (bD (decide_eq_true hc10)) (Calm.int rfl rfl rfl rfl) ?_
        refine AO.c (Calm.pickT rfl (bD (decide_eq_true hc10)) rfl) ?_
        refine AO.c (Calm.move rfl rfl) ?_
        rcases of_ite hq9 with ⟨hc11, hq9⟩ | ⟨hc11, hq9⟩
        ·refine AO.sF rfl rfl (bD (decide_eq_true hc11)) ?_
         refine AO.sF rfl rfl (bD (decide_eq_true hc11)) ?_
         refine AO.sF rfl rfl (bD (decide_eq_true hc11)) ?_
         refine AO.sU rfl rfl rfl ?_
         refine AO.sU rfl rfl rfl ?_
         refine AO.sF rfl rfl (bD (decide_eq_true hc11)) ?_
         refine AO.c (Calm.pickT rfl (bD (decide_eq_true hc11)) rfl) ?_
         refine AO.c (Calm.move rfl rfl) ?_
         refine AO.sF rfl rfl rfl ?_
         refine AO.sF rfl rfl rfl ?_
         refine AO.sF rfl rfl rfl ?_
         refine AO.sU rfl rfl rfl ?_
         refine AO.sU rfl rfl rfl ?_
         refine AO.sF rfl rfl rfl ?_
         refine AO.c (Calm.pickT rfl rfl rfl) ?_
         refine AO.c (Calm.move rfl rfl) ?_
         refine AO.sF rfl rfl rfl ?_
         refine AO.sF rfl rfl rfl ?_
         refine AO.c (Calm.pickT rfl rfl rfl) ?_
         refine AO.c (Calm.move rfl rfl) ?_
         refine AO.sF rfl rfl rfl ?_
         refine AO.sF rfl rfl rfl ?_
         refine AO.c (Calm.pickT rfl rfl rfl) ?_
         cases hq9
         refine AO.nilE ⟨rfl, rfl⟩ ?_ ?_
         · exact ⟨rfl, rfl, trivial⟩
         · exact (Sub.refl _)
        ·refine AO.cG rfl rfl (bD (decide_eq_false hc11)) (Calm.move rfl rfl) ?_
         refine AO.cG (x := eBool (decide ((97 : Int) ≤ (byteAt p0 (1 : Int))))) rfl rfl (bD (decide_eq_false hc11)) (Calm.int rfl rfl rfl rfl) ?_
         refine AO.cG rfl rfl (bD (decide_eq_false hc11)) (Calm.move rfl rfl) ?_
         rcases of_ite hq9 with ⟨hc12, hq9⟩ | ⟨hc12, hq9⟩
         ·refine AO.cG rfl rfl (bD (decide_eq_true hc12)) (Calm.move rfl rfl) ?_
          refine AO.cG (x := eBool (decide ((byteAt p0 (1 : Int)) ≤ (122 : Int)))) rfl rfl (bD (decide_eq_true hc12)) (Calm.int rfl rfl rfl rfl) ?_
          refine AO.cG rfl rfl (bD (decide_eq_false hc11)) (Calm.pickT rfl (bD (decide_eq_true hc12)) rfl) ?_
          refine AO.c (Calm.pickF rfl (bD (decide_eq_false hc11)) rfl) ?_
          refine AO.c (Calm.move rfl rfl) ?_
          rcases of_ite hq9 with ⟨hc13, hq9⟩ | ⟨hc13, hq9⟩
          ·refine AO.sF rfl rfl (bD (decide_eq_true hc13)) ?_
           refine AO.sF rfl rfl (bD (decide_eq_true hc13)) ?_
           refine AO.sF rfl rfl (bD (decide_eq_true hc13)) ?_
           refine AO.sU rfl rfl rfl ?_
           refine AO.sU rfl rfl rfl ?_
           refine AO.sF rfl rfl (bD (decide_eq_true hc13)) ?_
           refine AO.c (Calm.pickT rfl (bD (decide_eq_true hc13)) rfl) ?_
           refine AO.c (Calm.move rfl rfl) ?_
           refine AO.sF rfl rfl rfl ?_
           refine AO.sF rfl rfl rfl ?_
           refine AO.c (Calm.pickT rfl rfl rfl) ?_
           refine AO.c (Calm.move rfl rfl) ?_
           refine AO.sF rfl rfl rfl ?_
           refine AO.sF rfl rfl rfl ?_
           refine AO.c (Calm.pickT rfl rfl rfl) ?_
           cases hq9
           refine AO.nilE ⟨rfl, rfl⟩ ?_ ?_
           · exact ⟨rfl, rfl, trivial⟩
           · exact (Sub.refl _)
          ·refine AO.cG rfl rfl (bD (decide_eq_false hc13)) (Calm.move rfl rfl) ?_
           refine AO.cG (x := eBool (decide ((65 : Int) ≤ (byteAt p0 (1 : Int))))) rfl rfl (bD (decide_eq_false hc13)) (Calm.int rfl rfl rfl rfl) ?_
           refine AO.cG rfl rfl (bD (decide_eq_false hc13)) (Calm.move rfl rfl) ?_
           rcases of_ite hq9 with ⟨hc14, hq9⟩ | ⟨hc14, hq9⟩
           ·refine AO.cG rfl rfl (bD (decide_eq_true hc14)) (Calm.move rfl rfl) ?_
            refine AO.cG (x := eBool (decide ((byteAt p0 (1 : Int)) ≤ (90 : Int)))) rfl rfl (bD (decide_eq_true hc14)) (Calm.int rfl rfl rfl rfl) ?_
            refine AO.cG rfl rfl (bD (decide_eq_false hc13)) (Calm.pickT rfl (bD (decide_eq_true hc14)) rfl) ?_
            refine AO.c (Calm.pickF rfl (bD (decide_eq_false hc13)) rfl) ?_
            refine AO.c (Calm.move rfl rfl) ?_
            rcases of_ite hq9 with ⟨hc15, hq9⟩ | ⟨hc15, hq9⟩
            ·refine AO.sF rfl rfl (bD (decide_eq_true hc15)) ?_
             refine AO.sF rfl rfl (bD (decide_eq_true hc15)) ?_
             refine AO.c (Calm.pickT rfl (bD (decide_eq_true hc15)) rfl) ?_
             refine AO.c (Calm.move rfl rfl) ?_
             refine AO.sF rfl rfl rfl ?_
             refine AO.sF rfl rfl rfl ?_
             refine AO.c (Calm.pickT rfl rfl rfl) ?_
             cases hq9
             refine AO.nilE ⟨rfl, rfl⟩ ?_ ?_
             · exact ⟨rfl, rfl, trivial⟩
             · exact (Sub.refl _)
            ·refine AO.cG rfl rfl (bD (decide_eq_false hc15)) (Calm.move rfl rfl) ?_
             refine AO.cG (x := eBool (decide ((byteAt p0 (1 : Int)) < (32 : Int)))) rfl rfl (bD (decide_eq_false hc15)) (Calm.int rfl rfl rfl rfl) ?_
             refine AO.c (Calm.pickF rfl (bD (decide_eq_false hc15)) rfl) ?_
             refine AO.c (Calm.move rfl rfl) ?_
             rcases of_ite hq9 with ⟨hc16, hq9⟩ | ⟨hc16, hq9⟩
             ·refine AO.sF rfl rfl (bD (decide_eq_true hc16)) ?_
              refine AO.sF rfl rfl (bD (decide_eq_true hc16)) ?_
              refine AO.c (Calm.pickT rfl (bD (decide_eq_true hc16)) rfl) ?_
              cases hq9
              refine AO.nilE ⟨rfl, rfl⟩ ?_ ?_
              · exact ⟨rfl, rfl, trivial⟩
              · exact (Sub.refl _)
             ·refine AO.cG rfl rfl (bD (decide_eq_false hc16)) (Calm.move rfl rfl) ?_
              refine AO.cG (x := eBool (decide ((126 : Int) < (byteAt p0 (1 : Int))))) rfl rfl (bD (decide_eq_false hc16)) (Calm.int rfl rfl rfl rfl) ?_
              refine AO.c (Calm.pickF rfl (bD (decide_eq_false hc16)) rfl) ?_
              cases hq9
              refine AO.nilE ⟨rfl, rfl⟩ ?_ ?_
              · exact ⟨rfl, rfl, trivial⟩
              · exact (Sub.refl _)
           ·refine AO.sT rfl rfl (bD (decide_eq_false hc14)) ?_
            refine AO.sT rfl rfl (bD (decide_eq_false hc14)) ?_
            refine AO.cG rfl rfl (bD (decide_eq_false hc13)) (Calm.pickF rfl (bD (decide_eq_false hc14)) rfl) ?_
            refine AO.c (Calm.pickF rfl (bD (decide_eq_false hc13)) rfl) ?_
            refine AO.c (Calm.move rfl rfl) ?_
            refine AO.cG rfl rfl rfl (Calm.move rfl rfl) ?_
            refine AO.cG (x := eBool (decide ((byteAt p0 (1 : Int)) < (32 : Int)))) rfl rfl rfl (Calm.int rfl rfl rfl rfl) ?_
            refine AO.c (Calm.pickF rfl rfl rfl) ?_
            refine AO.c (Calm.move rfl rfl) ?_
            rcases of_ite hq9 with ⟨hc17, hq9⟩ | ⟨hc17, hq9⟩
            ·refine AO.sF rfl rfl (bD (decide_eq_true hc17)) ?_
             refine AO.sF rfl rfl (bD (decide_eq_true hc17)) ?_
             refine AO.c (Calm.pickT rfl (bD (decide_eq_true hc17)) rfl) ?_
             cases hq9
             refine AO.nilE ⟨rfl, rfl⟩ ?_ ?_
             · exact ⟨rfl, rfl, trivial⟩
             · exact (Sub.refl _)
            ·refine AO.cG rfl rfl (bD (decide_eq_false hc17)) (Calm.move rfl rfl) ?_
             refine AO.cG (x := eBool (decide ((126 : Int) < (byteAt p0 (1 : Int))))) rfl rfl (bD (decide_eq_false hc17)) (Calm.int rfl rfl rfl rfl) ?_
             refine AO.c (Calm.pickF rfl (bD (decide_eq_false hc17)) rfl) ?_
             cases hq9
             refine AO.nilE ⟨rfl, rfl⟩ ?_ ?_
             · exact ⟨rfl, rfl, trivial⟩
             · exact (Sub.refl _)
         ·refine AO.sT rfl rfl (bD (decide_eq_false hc12)) ?_
          refine AO.sT rfl rfl (bD (decide_eq_false hc12)) ?_
          refine AO.cG rfl rfl (bD (decide_eq_false hc11)) (Calm.pickF rfl (bD (decide_eq_false hc12)) rfl) ?_
          refine AO.c (Calm.pickF rfl (bD (decide_eq_false hc11)) rfl) ?_
          refine AO.c (Calm.move rfl rfl) ?_
          refine AO.cG rfl rfl rfl (Calm.move rfl rfl) ?_
          refine AO.cG (x := eBool (decide ((65 : Int) ≤ (byteAt p0 (1 : Int))))) rfl rfl rfl (Calm.int rfl rfl rfl rfl) ?_
          refine AO.cG rfl rfl rfl (Calm.move rfl rfl) ?_
          rcases of_ite hq9 with ⟨hc18, hq9⟩ | ⟨hc18, hq9⟩
          ·refine AO.cG rfl rfl (bD (decide_eq_true hc18)) (Calm.move rfl rfl) ?_
           refine AO.cG (x := eBool (decide ((byteAt p0 (1 : Int)) ≤ (90 : Int)))) rfl rfl (bD (decide_eq_true hc18)) (Calm.int rfl rfl rfl rfl) ?_
           refine AO.cG rfl rfl rfl (Calm.pickT rfl (bD (decide_eq_true hc18)) rfl) ?_
           refine AO.c (Calm.pickF rfl rfl rfl) ?_
           refine AO.c (Calm.move rfl rfl) ?_
           rcases of_ite hq9 with ⟨hc19, hq9⟩ | ⟨hc19, hq9⟩
           ·refine AO.sF rfl rfl (bD (decide_eq_true hc19)) ?_
            refine AO.sF rfl rfl (bD (decide_eq_true hc19)) ?_
            refine AO.c (Calm.pickT rfl (bD (decide_eq_true hc19)) rfl) ?_
            refine AO.c (Calm.move rfl rfl) ?_
            refine AO.sF rfl rfl rfl ?_
            refine AO.sF rfl rfl rfl ?_
            refine AO.c (Calm.pickT rfl rfl rfl) ?_
            cases hq9
            refine AO.nilE ⟨rfl, rfl⟩ ?_ ?_
            · exact ⟨rfl, rfl, trivial⟩
            · exact (Sub.refl _)
           ·refine AO.cG rfl rfl (bD (decide_eq_false hc19)) (Calm.move rfl rfl) ?_
            refine AO.cG (x := eBool (decide ((byteAt p0 (1 : Int)) < (32 : Int)))) rfl rfl (bD (decide_eq_false hc19)) (Calm.int rfl rfl rfl rfl) ?_
            refine AO.c (Calm.pickF rfl (bD (decide_eq_false hc19)) rfl) ?_
            refine AO.c (Calm.move rfl rfl) ?_
            rcases of_ite hq9 with ⟨hc20, hq9⟩ | ⟨hc20, hq9⟩
            ·refine AO.sF rfl rfl (bD (decide_eq_true hc20)) ?_
             refine AO.sF rfl rfl (bD (decide_eq_true hc20)) ?_
             refine AO.c (Calm.pickT rfl (bD (decide_eq_true hc20)) rfl) ?_
             cases hq9
             refine AO.nilE ⟨rfl, rfl⟩ ?_ ?_
             · exact ⟨rfl, rfl, trivial⟩
             · exact (Sub.refl _)
            ·refine AO.cG rfl rfl (bD (decide_eq_false hc20)) (Calm.move rfl rfl) ?_
             refine AO.cG (x := eBool (decide ((126 : Int) < (byteAt p0 (1 : Int))))) rfl rfl (bD (decide_eq_false hc20)) (Calm.int rfl rfl rfl rfl) ?_
             refine AO.c (Calm.pickF rfl (bD (decide_eq_false hc20)) rfl) ?_
             cases hq9
             refine AO.nilE ⟨rfl, rfl⟩ ?_ ?_
             · exact ⟨rfl, rfl, trivial⟩
             · exact (Sub.refl _)
          ·refine AO.sT rfl rfl (bD (decide_eq_false hc18)) ?_
           refine AO.sT rfl rfl (bD (decide_eq_false hc18)) ?_
           refine AO.cG rfl rfl rfl (Calm.pickF rfl (bD (decide_eq_false hc18)) rfl) ?_
           refine AO.c (Calm.pickF rfl rfl rfl) ?_
           refine AO.c (Calm.move rfl rfl) ?_
           refine AO.cG rfl rfl rfl (Calm.move rfl rfl) ?_
           refine AO.cG (x := eBool (decide ((byteAt p0 (1 : Int)) < (32 : Int)))) rfl rfl rfl (Calm.int rfl rfl rfl rfl) ?_
           refine AO.c (Calm.pickF rfl rfl rfl) ?_
           refine AO.c (Calm.move rfl rfl) ?_
           rcases of_ite hq9 with ⟨hc21, hq9⟩ | ⟨hc21, hq9⟩
           ·refine AO.sF rfl rfl (bD (decide_eq_true hc21)) ?_
            refine AO.sF rfl rfl (bD (decide_eq_true hc21)) ?_
            refine AO.c (Calm.pickT rfl (bD (decide_eq_true hc21)) rfl) ?_
            cases hq9
            refine AO.nilE ⟨rfl, rfl⟩ ?_ ?_
            · exact ⟨rfl, rfl, trivial⟩
            · exact (Sub.refl _)
           ·refine AO.cG rfl rfl (bD (decide_eq_false hc21)) (Calm.move rfl rfl) ?_
            refine AO.cG (x := eBool (decide ((126 : Int) < (byteAt p0 (1 : Int))))) rfl rfl (bD (decide_eq_false hc21)) (Calm.int rfl rfl rfl rfl) ?_
            refine AO.c (Calm.pickF rfl (bD (decide_eq_false hc21)) rfl) ?_
            cases hq9
            refine AO.nilE ⟨rfl, rfl⟩ ?_ ?_
            · exact ⟨rfl, rfl, trivial⟩
            · exact (Sub.refl _)
       ·refine AO.sT rfl rfl (bD (decide_eq_false hc10)) ?_
        refine AO.sT rfl rfl (bD (decide_eq_false hc10)) ?_
        refine AO.c (Calm.pickF rfl (bD (decide_eq_false hc10)) rfl) ?_
        refine AO.c (Calm.move rfl rfl) ?_
        refine AO.cG rfl rfl rfl (Calm.move rfl rfl) ?_
        refine AO.cG (x := eBool (decide ((97 : Int) ≤ (byteAt p0 (1 : Int))))) rfl rfl rfl (Calm.int rfl rfl rfl rfl) ?_
        refine AO.cG rfl rfl rfl (Calm.move rfl rfl) ?_
        rcases of_ite hq9 with ⟨hc22, hq9⟩ | ⟨hc22, hq9⟩
        ·refine AO.cG rfl rfl (bD (decide_eq_true hc22)) (Calm.move rfl rfl) ?_
         refine AO.cG (x := eBool (decide ((byteAt p0 (1 : Int)) ≤ (122 : Int)))) rfl rfl (bD (decide_eq_true hc22)) (Calm.int rfl rfl rfl rfl) ?_
         refine AO.cG rfl rfl rfl (Calm.pickT rfl (bD (decide_eq_true hc22)) rfl) ?_
         refine AO.c (Calm.pickF rfl rfl rfl) ?_
         refine AO.c (Calm.move rfl rfl) ?_
         rcases of_ite hq9 with ⟨hc23, hq9⟩ | ⟨hc23, hq9⟩
         ·refine AO.sF rfl rfl (bD (decide_eq_true hc23)) ?_
          refine AO.sF rfl rfl (bD (decide_eq_true hc23)) ?_
          refine AO.sF rfl rfl (bD (decide_eq_true hc23)) ?_
          refine AO.sU rfl rfl rfl ?_
          refine AO.sU rfl rfl rfl ?_
          refine AO.sF rfl rfl (bD (decide_eq_true hc23)) ?_
          refine AO.c (Calm.pickT rfl (bD (decide_eq_true hc23)) rfl) ?_
          refine AO.c (Calm.move rfl rfl) ?_
          refine AO.sF rfl rfl rfl ?_
          refine AO.sF rfl rfl rfl ?_
          refine AO.c (Calm.pickT rfl rfl rfl) ?_
          refine AO.c (Calm.move rfl rfl) ?_
          refine AO.sF rfl rfl rfl ?_
          refine AO.sF rfl rfl rfl ?_
          refine AO.c (Calm.pickT rfl rfl rfl) ?_
          cases hq9
          refine AO.nilE ⟨rfl, rfl⟩ ?_ ?_
          · exact ⟨rfl, rfl, trivial⟩
          · exact (Sub.refl _)
         ·refine AO.cG rfl rfl (bD (decide_eq_false hc23)) (Calm.move rfl rfl) ?_
          refine AO.cG (x := eBool (decide ((65 : Int) ≤ (byteAt p0 (1 : Int))))) rfl rfl (bD (decide_eq_false hc23)) (Calm.int rfl rfl rfl rfl) ?_
          refine AO.cG rfl rfl (bD (decide_eq_false hc23)) (Calm.move rfl rfl) ?_
          rcases of_ite hq9 with ⟨hc24, hq9⟩ | ⟨hc24, hq9⟩
          ·refine AO.cG rfl rfl (bD (decide_eq_true hc24)) (Calm.move rfl rfl) ?_
           refine AO.cG (x := eBool (decide ((byteAt p0 (1 : Int)) ≤ (90 : Int)))) rfl rfl (bD (decide_eq_true hc24)) (Calm.int rfl rfl rfl rfl) ?_
           refine AO.cG rfl rfl (bD (decide_eq_false hc23)) (Calm.pickT rfl (bD (decide_eq_true hc24)) rfl) ?_
           refine AO.c (Calm.pickF rfl (bD (decide_eq_false hc23)) rfl) ?_
           refine AO.c (Calm.move rfl rfl) ?_
           rcases of_ite hq9 with ⟨hc25, hq9⟩ | ⟨hc25, hq9⟩
           ·refine AO.sF rfl rfl (bD (decide_eq_true hc25)) ?_
            refine AO.sF rfl rfl (bD (decide_eq_true hc25)) ?_
            refine AO.c (Calm.pickT rfl (bD (decide_eq_true hc25)) rfl) ?_
            refine AO.c (Calm.move rfl rfl) ?_
            refine AO.sF rfl rfl rfl ?_
            refine AO.sF rfl rfl rfl ?_
            refine AO.c (Calm.pickT rfl rfl rfl) ?_
            cases hq9
            refine AO.nilE ⟨rfl, rfl⟩ ?_ ?_
            · exact ⟨rfl, rfl, trivial⟩
            · exact (Sub.refl _)
           ·refine AO.cG rfl rfl (bD (decide_eq_false hc25)) (Calm.move rfl rfl) ?_
            refine AO.cG (x := eBool (decide ((byteAt p0 (1 : Int)) < (32 : Int)))) rfl rfl (bD (decide_eq_false hc25)) (Calm.int rfl rfl rfl rfl) ?_
            refine AO.c (Calm.pickF rfl (bD (decide_eq_false hc25)) rfl) ?_
            refine AO.c (Calm.move rfl rfl) ?_
            rcases of_ite hq9 with ⟨hc26, hq9⟩ | ⟨hc26, hq9⟩
            ·refine AO.sF rfl rfl (bD (decide_eq_true hc26)) ?_
             refine AO.sF rfl rfl (bD (decide_eq_true hc26)) ?_
             refine AO.c (Calm.pickT rfl (bD (decide_eq_true hc26)) rfl) ?_
             cases hq9
             refine AO.nilE ⟨rfl, rfl⟩ ?_ ?_
             · exact ⟨rfl, rfl, trivial⟩
             · exact (Sub.refl _)
            ·refine AO.cG rfl rfl (bD (decide_eq_false hc26)) (Calm.move rfl rfl) ?_
             refine AO.cG (x := eBool (decide ((126 : Int) < (byteAt p0 (1 : Int))))) rfl rfl (bD (decide_eq_false hc26)) (Calm.int rfl rfl rfl rfl) ?_
             refine AO.c (Calm.pickF rfl (bD (decide_eq_false hc26)) rfl) ?_
             cases hq9
             refine AO.nilE ⟨rfl, rfl⟩ ?_ ?_
             · exact ⟨rfl, rfl, trivial⟩
             · exact (Sub.refl _)
          ·refine AO.sT rfl rfl (bD (decide_eq_false hc24)) ?_
           refine AO.sT rfl rfl (bD (decide_eq_false hc24)) ?_
           refine AO.cG rfl rfl (bD (decide_eq_false hc23)) (Calm.pickF rfl (bD (decide_eq_false hc24)) rfl) ?_
           refine AO.c (Calm.pickF rfl (bD (decide_eq_false hc23)) rfl) ?_
           refine AO.c (Calm.move rfl rfl) ?_
           refine AO.cG rfl rfl rfl (Calm.move rfl rfl) ?_
           refine AO.cG (x := eBool (decide ((byteAt p0 (1 : Int)) < (32 : Int)))) rfl rfl rfl (Calm.int rfl rfl rfl rfl) ?_
           refine AO.c (Calm.pickF rfl rfl rfl) ?_
           refine AO.c (Calm.move rfl rfl) ?_
           rcases of_ite hq9 with ⟨hc27, hq9⟩ | ⟨hc27, hq9⟩
           ·refine AO.sF rfl rfl (bD (decide_eq_true hc27)) ?_
            refine AO.sF rfl rfl (bD (decide_eq_true hc27)) ?_
            refine AO.c (Calm.pickT rfl (bD (decide_eq_true hc27)) rfl) ?_
            cases hq9
            refine AO.nilE ⟨rfl, rfl⟩ ?_ ?_
            · exact ⟨rfl, rfl, trivial⟩
            · exact (Sub.refl _)
           ·refine AO.cG rfl rfl (bD (decide_eq_false hc27)) (Calm.move rfl rfl) ?_
            refine AO.cG (x := eBool (decide ((126 : Int) < (byteAt p0 (1 : Int))))) rfl rfl (bD (decide_eq_false hc27)) (Calm.int rfl rfl rfl rfl) ?_
            refine AO.c (Calm.pickF rfl (bD (decide_eq_false hc27)) rfl) ?_
            cases hq9
            refine AO.nilE ⟨rfl, rfl⟩ ?_ ?_
            · exact ⟨rfl, rfl, trivial⟩
            · exact (Sub.refl _)
        ·refine AO.sT rfl rfl (bD (decide_eq_false hc22)) ?_
         refine AO.sT rfl rfl (bD (decide_eq_false hc22)) ?_
         refine AO.cG rfl rfl rfl (Calm.pickF rfl (bD (decide_eq_false hc22)) rfl) ?_
         refine AO.c (Calm.pickF rfl rfl rfl) ?_
         refine AO.c (Calm.move rfl rfl) ?_
         refine AO.cG rfl rfl rfl (Calm.move rfl rfl) ?_
         refine AO.cG (x := eBool (decide ((65 : Int) ≤ (byteAt p0 (1 : Int))))) rfl rfl rfl (Calm.int rfl rfl rfl rfl) ?_
         refine AO.cG rfl rfl rfl (Calm.move rfl rfl) ?_
         rcases of_ite hq9 with ⟨hc28, hq9⟩ | ⟨hc28, hq9⟩
         ·refine AO.cG rfl rfl (bD (decide_eq_true hc28)) (Calm.move rfl rfl) ?_
          refine AO.cG (x := eBool (decide ((byteAt p0 (1 : Int)) ≤ (90 : Int)))) rfl rfl (bD (decide_eq_true hc28)) (Calm.int rfl rfl rfl rfl) ?_
          refine AO.cG rfl rfl rfl (Calm.pickT rfl (bD (decide_eq_true hc28)) rfl) ?_
          refine AO.c (Calm.pickF rfl rfl rfl) ?_
          refine AO.c (Calm.move rfl rfl) ?_
          rcases of_ite hq9 with ⟨hc29, hq9⟩ | ⟨hc29, hq9⟩
          ·refine AO.sF rfl rfl (bD (decide_eq_true hc29)) ?_
           refine AO.sF rfl rfl (bD (decide_eq_true hc29)) ?_
           refine AO.c (Calm.pickT rfl (bD (decide_eq_true hc29)) rfl) ?_
           refine AO.c (Calm.move rfl rfl) ?_
           refine AO.sF rfl rfl rfl ?_
           refine AO.sF rfl rfl rfl ?_
           refine AO.c (Calm.pickT rfl rfl rfl) ?_
           cases hq9
           refine AO.nilE ⟨rfl, rfl⟩ ?_ ?_
           · exact ⟨rfl, rfl, trivial⟩
           · exact (Sub.refl _)
          ·refine AO.cG rfl rfl (bD (decide_eq_false hc29)) (Calm.move rfl rfl) ?_
           refine AO.cG (x := eBool (decide ((byteAt p0 (1 : Int)) < (32 : Int)))) rfl rfl (bD (decide_eq_false hc29)) (Calm.int rfl rfl rfl rfl) ?_
           refine AO.c (Calm.pickF rfl (bD (decide_eq_false hc29)) rfl) ?_
           refine AO.c (Calm.move rfl rfl) ?_
           rcases of_ite hq9 with ⟨hc30, hq9⟩ | ⟨hc30, hq9⟩
           ·refine AO.sF rfl rfl (bD (decide_eq_true hc30)) ?_
            refine AO.sF rfl rfl (bD (decide_eq_true hc30)) ?_
            refine AO.c (Calm.pickT rfl (bD (decide_eq_true hc30)) rfl) ?_
            cases hq9
            refine AO.nilE ⟨rfl, rfl⟩ ?_ ?_
            · exact ⟨rfl, rfl, trivial⟩
            · exact (Sub.refl _)
           ·refine AO.cG rfl rfl (bD (decide_eq_false hc30)) (Calm.move rfl rfl) ?_
            refine AO.cG (x := eBool (decide ((126 : Int) < (byteAt p0 (1 : Int))))) rfl rfl (bD (decide_eq_false hc30)) (Calm.int rfl rfl rfl rfl) ?_
            refine AO.c (Calm.pickF rfl (bD (decide_eq_false hc30)) rfl) ?_
            cases hq9
            refine AO.nilE ⟨rfl, rfl⟩ ?_ ?_
            · exact ⟨rfl, rfl, trivial⟩
            · exact (Sub.refl _)
         ·refine AO.sT rfl rfl (bD (decide_eq_false hc28)) ?_
          refine AO.sT rfl rfl (bD (decide_eq_false hc28)) ?_
          refine AO.cG rfl rfl rfl (Calm.pickF rfl (bD (decide_eq_false hc28)) rfl) ?_
          refine AO.c (Calm.pickF rfl rfl rfl) ?_
          refine AO.c (Calm.move rfl rfl) ?_
          refine AO.cG rfl rfl rfl (Calm.move rfl rfl) ?_
          refine AO.cG (x := eBool (decide ((byteAt p0 (1 : Int)) < (32 : Int)))) rfl rfl rfl (Calm.int rfl rfl rfl rfl) ?_
          refine AO.c (Calm.pickF rfl rfl rfl) ?_
          refine AO.c (Calm.move rfl rfl) ?_
          rcases of_ite hq9 with ⟨hc31, hq9⟩ | ⟨hc31, hq9⟩
          ·refine AO.sF rfl rfl (bD (decide_eq_true hc31)) ?_
           refine AO.sF rfl rfl (bD (decide_eq_true hc31)) ?_
           refine AO.c (Calm.pickT rfl (bD (decide_eq_true hc31)) rfl) ?_
           cases hq9
           refine AO.nilE ⟨rfl, rfl⟩ ?_ ?_
           · exact ⟨rfl, rfl, trivial⟩
           · exact (Sub.refl _)
          ·refine AO.cG rfl rfl (bD (decide_eq_false hc31)) (Calm.move rfl rfl) ?_
           refine AO.cG (x := eBool (decide ((126 : Int) < (byteAt p0 (1 : Int))))) rfl rfl (bD (decide_eq_false hc31)) (Calm.int rfl rfl rfl rfl) ?_
           refine AO.c (Calm.pickF rfl (bD (decide_eq_false hc31)) rfl) ?_
           cases hq9
           refine AO.nilE ⟨rfl, rfl⟩ ?_ ?_
           · exact ⟨rfl, rfl, trivial⟩
           · exact (Sub.refl _)
      ·rcases of_ite h with ⟨hc32, h⟩ | ⟨hc32, h⟩
       ·refine AW.condT' _ rfl hc32 ?_
        refine AW.sr ?_
        refine AO.c (Calm.assign rfl rfl) ?_
        refine AO.c (Calm.assign rfl rfl) ?_
        refine AO.c (Calm.assign rfl rfl) ?_
        refine AO.nK [2, 3, 4] ?_
        refine AW.rK [2, 3, 4] ?_
        have hr := Option.some.inj h
        subst hr
        exact ⟨[(eU8 (0 : Int)), (eI64 (0 : Int)), (eBool false)], ⟨rfl, rfl, rfl, rfl, rfl, rfl, trivial⟩, rfl⟩
       ·refine AW.condF' _ rfl hc32 ?_
        refine AW.sK [5] ?_
        refine AW.sr ?_
        refine AO.c (Calm.move rfl rfl) ?_
        refine AO.c (Calm.assign rfl rfl) ?_
        refine AO.c (Calm.assign rfl rfl) ?_
        refine AO.c (Calm.assign rfl rfl) ?_
        refine AO.nK [2, 3, 4] ?_
        refine AW.rK [2, 3, 4] ?_
        have hr := Option.some.inj h
        subst hr
        exact ⟨[(eU8 (byteAt p0 (1 : Int))), (eI64 (2 : Int)), (eBool true)], ⟨rfl, rfl, rfl, rfl, rfl, rfl, trivial⟩, rfl⟩
end Go.Avl.TE
/- (*bosket/rex.reader).byte; printed by avmain.py. -/
namespace Go.Avl.TE
open Go Go.RowKit Go.Proofs Go.Avl
set_option linter.unusedVariables false
set_option maxRecDepth 100000
set_option maxHeartbeats 4000000
attribute [local irreducible] AW AO AQ Spec SpecH Calm

def rex_reader_byte (k : Nat) (p0 : S49) : Option (Int × Bool × S49) :=
  if 0 ≤ p0.f1 ∧ p0.f1 ≤ (p0.f0.size : Int) ∧ (p0.f0.size : Int) ≤ (p0.f0.size : Int) then (escape_Read k (p0.f0.extract p0.f1.toNat (p0.f0.size : Int).toNat)).bind fun t3 =>
  some (t3.1, t3.2.2, (S49.mk p0.f0 (w64 (p0.f1 + t3.2.1)) p0.f2))
  else none
theorem rex_reader_byte_spec {k : Nat} {p0 : S49} {r : (Int × Bool × S49)} (h : rex_reader_byte k p0 = some r) {q0 : Nat} {T0 : Heap} : SpecH Tryd.prog 55 [(.ptr q0 0)] ((q0, (.mem (e49 p0))) :: T0) (fun x H' => x = .tup [(eU8 r.1), (eBool r.2.1)] ∧ Sub ((q0, (.mem (e49 r.2.2))) :: T0) H') := by
  rw [rex_reader_byte.eq_1] at h
  refine SpecH.intro (res := [.tmp 2, .tmp 3]) Tryd.func55 rfl rfl rfl (Nat.le_of_ble_eq_true rfl) ?_
  refine AW.sr ?_
  refine AO.c (Calm.assign rfl rfl) ?_
  refine AO.c (Calm.assign rfl rfl) ?_
  refine AO.nK [0] ?_
  refine AW.seq ?_
  refine AW.regQ (by rfl) (by decide +kernel) ?_
  refine AQ.c (Calm.move rfl rfl) ?_
  refine AQ.c (Calm.nilCheck rfl rfl) ?_
  refine AQ.c (x := .ptr q0 0) (Calm.fldPtr rfl rfl Tryd.underlying49 rfl sz9 _ rfl) ?_
  refine AQ.c (Calm.load 0 rfl rfl rfl (At.cast (At.fld0 At.here) rfl) ag9 sz9) ?_
  refine AQ.c (Calm.move rfl rfl) ?_
  refine AQ.c (Calm.nilCheck rfl rfl) ?_
  refine AQ.c (x := .ptr q0 1) (Calm.fldPtr rfl rfl Tryd.underlying49 rfl sz3 _ rfl) ?_
  refine AQ.c (Calm.load 0 rfl rfl rfl (At.cast (At.fldS (At.fld0 At.here)) rfl) ag3 sz3) ?_
  obtain ⟨hg2, h⟩ := of_guard h
  refine AQ.c (x := eStr (p0.f0.extract p0.f1.toNat (p0.f0.size : Int).toNat)) (Calm.sliceS rfl rfl rfl rfl hg2 Tryd.underlying9) ?_
  obtain ⟨t3, et3, h⟩ := of_bind h
  refine AQ.c (Calm.call (args := [(eStr (p0.f0.extract p0.f1.toNat (p0.f0.size : Int).toNat))]) rfl rfl ok59 ⟨rfl, rfl, trivial⟩ rfl (escape_Read_spec et3)) ?_
  refine AQ.c (Calm.move rfl rfl) ?_
  refine AQ.c (Calm.extract rfl rfl rfl) ?_
  refine AQ.c (Calm.extract rfl rfl rfl) ?_
  refine AQ.c (Calm.extract rfl rfl rfl) ?_
  refine AQ.c (Calm.assign rfl rfl) ?_
  refine AQ.c (Calm.assign rfl rfl) ?_
  refine AQ.c (Calm.assign rfl rfl) ?_
  refine AQ.nK [0, 4, 5, 6] ?_
  refine AW.sr ?_
  refine AO.c (Calm.move rfl rfl) ?_
  refine AO.c (Calm.nilCheck rfl rfl) ?_
  refine AO.c (x := .ptr q0 1) (Calm.fldPtr rfl rfl Tryd.underlying49 rfl sz3 _ rfl) ?_
  refine AO.c (Calm.load 0 rfl rfl rfl (At.cast (At.fldS (At.fld0 At.here)) rfl) ag3 sz3) ?_
  refine AO.c (Calm.move rfl rfl) ?_
  refine AO.c (x := eI64 (w64 (p0.f1 + t3.2.1))) (Calm.int rfl rfl rfl rfl) ?_
  refine AO.c (Calm.nilCheck rfl rfl) ?_
  refine AO.c (x := .ptr q0 1) (Calm.fldPtr rfl rfl Tryd.underlying49 rfl sz3 _ rfl) ?_
  refine AO.store (X' := (.st [(1, (eStr p0.f0)), (1, (eI64 (w64 (p0.f1 + t3.2.1)))), (1, (eI64 p0.f2))])) 0 rfl rfl rfl rfl rfl rfl (Put.cast (Put.fldS (Put.fld0 Put.here)) rfl) rfl rfl sz3 rfl ?_
  refine AO.nK [4, 6] ?_
  refine AW.sr ?_
  refine AO.c (Calm.move rfl rfl) ?_
  refine AO.c (Calm.move rfl rfl) ?_
  refine AO.c (Calm.assign rfl rfl) ?_
  refine AO.c (Calm.assign rfl rfl) ?_
  refine AO.nK [2, 3] ?_
  refine AW.rK [2, 3] ?_
  have hr := Option.some.inj h
  subst hr
  exact ⟨[(eU8 t3.1), (eBool t3.2.2)], ⟨rfl, rfl, rfl, rfl, trivial⟩, rfl, (Sub.cons 0 rfl (Sub.refl _))⟩
end Go.Avl.TE
/- bosket/byteset.Range; printed by avmain.py. -/
namespace Go.Avl.TE
open Go Go.RowKit Go.Proofs Go.Avl
set_option linter.unusedVariables false
set_option maxRecDepth 100000
set_option maxHeartbeats 4000000
attribute [local irreducible] AW AO AQ Spec SpecH Calm

def byteset_Range_c0 (k : Nat) (x5 : (Vector Int 4)) : Option (Vector Int 4) :=
  some (x5)
def byteset_Range_l1 (k : Nat) (p1 : Int) : Nat → (Vector Int 4) → Int → Option (Vector Int 4)
  | 0, _, _ => none
  | j + 1, x6, x7 =>
    if x7 ≤ (w64 p1) then if 0 ≤ (IntKind.i64.wrap (x7.tdiv (64 : Int))) ∧ (IntKind.i64.wrap (x7.tdiv (64 : Int))) < (4 : Int) then if 0 ≤ (u64 (x7.tmod (64 : Int))) then if 0 ≤ (IntKind.i64.wrap (x7.tdiv (64 : Int))) ∧ (IntKind.i64.wrap (x7.tdiv (64 : Int))) < (4 : Int) then (byteset_Range_l1 k p1 j) (vset x6 (IntKind.i64.wrap (x7.tdiv (64 : Int))) (bits .or .u64 (vget x6 (IntKind.i64.wrap (x7.tdiv (64 : Int)))) (IntKind.u64.wrap ((1 : Int) * 2 ^ (min (u64 (x7.tmod (64 : Int))).toNat IntKind.u64.bits))))) (w64 (x7 + (1 : Int)))
    else none
    else none
    else none
    else byteset_Range_c0 k x6
def byteset_Range (k : Nat) (p0 : Int) (p1 : Int) : Option (Vector Int 4) :=
  byteset_Range_l1 k p1 k (Vector.replicate 4 (0 : Int)) (w64 p0)
theorem byteset_Range_spec {k : Nat} {p0 : Int} {p1 : Int} {r : (Vector Int 4)} (h : byteset_Range k p0 p1 = some r) : Spec Tryd.prog 58 [(eU8 p0), (eU8 p1)] (e38 r) := by
  rw [byteset_Range.eq_1] at h
  refine Spec.intro (res := [.cell 4 38]) Tryd.func58 rfl rfl rfl (Nat.le_of_ble_eq_true rfl) ?_
  refine AW.sr ?_
  refine AO.alloc rfl 4 rfl (by decide) rfl zr38 lay38 fun n3 => ?_
  refine AO.nK [0, 1, 4] ?_
  refine AW.sr ?_
  refine AO.alloc rfl 5 rfl (by decide) rfl zr38 lay38 fun n4 => ?_
  refine AO.nH [0, 1, 4, 5] (H' := [(n3, (.mem (.ar 1 ((Vector.replicate 4 (0 : Int)).toList.map eU64)))), (n4, (.mem (.ar 1 ((Vector.replicate 4 (0 : Int)).toList.map eU64))))]) (Sub.cons 1 rfl (Sub.cons 0 rfl (Sub.nil _))) ?_
  refine AW.seq_mid (fun ρ H => ∃ (x5 : (Vector Int 4)), ρ = [(4, (.ptr n3 0)), (5, (.ptr n4 0))] ∧ H = [(n3, (.mem (.ar 1 ((Vector.replicate 4 (0 : Int)).toList.map eU64)))), (n4, (.mem (.ar 1 (x5.toList.map eU64))))] ∧ byteset_Range_c0 k x5 = some r) ?_ ?_
  ·refine AW.sr ?_
   refine AO.c (Calm.move rfl rfl) ?_
   refine AO.c (x := eI64 (w64 p0)) (Calm.conv rfl rfl Tryd.underlying5 Tryd.underlying3) ?_
   refine AO.c (Calm.assign rfl rfl) ?_
   refine AO.nK [1, 4, 5, 6] ?_
   refine AW.block ?_
   refine AW.wK [1, 4, 5, 6] ?_
   refine AW.loop (fun kq ρ H => ∃ (x6 : (Vector Int 4)) (x7 : Int), ρ = [(1, (eU8 p1)), (4, (.ptr n3 0)), (5, (.ptr n4 0)), (6, (eI64 x7))] ∧ H = [(n3, (.mem (.ar 1 ((Vector.replicate 4 (0 : Int)).toList.map eU64)))), (n4, (.mem (.ar 1 (x6.toList.map eU64))))] ∧ byteset_Range_l1 k p1 kq x6 x7 = some r) k ⟨(Vector.replicate 4 (0 : Int)), (w64 p0), rfl, rfl, h⟩ ?_
   rintro kq9 _ _ ⟨x6, x7, rfl, rfl, h⟩
   cases kq9 with
   | zero => rw [byteset_Range_l1.eq_1] at h; cases h
   | succ kq9 =>
   rw [byteset_Range_l1.eq_2] at h
   generalize hrec8 : byteset_Range_l1 k p1 kq9 = rec8 at h
   refine AW.seq ?_
   refine AW.sr ?_
   refine AO.c (Calm.move rfl rfl) ?_
   refine AO.c (Calm.move rfl rfl) ?_
   refine AO.c (x := eI64 (w64 p1)) (Calm.conv rfl rfl Tryd.underlying5 Tryd.underlying3) ?_
   refine AO.c (x := eBool (decide (x7 ≤ (w64 p1)))) (Calm.int rfl rfl rfl rfl) ?_
   refine AO.nK [1, 4, 5, 6, 12] ?_
   rcases of_ite h with ⟨hc10, h⟩ | ⟨hc10, h⟩
   ·refine AW.condP _ rfl hc10 ?_
    refine AW.sK [1, 4, 5, 6] ?_
    refine AW.seq ?_
    refine AW.block ?_
    refine AW.reg ?_
    refine AO.c (Calm.move rfl rfl) ?_
    refine AO.c (x := eI64 (IntKind.i64.wrap (x7.tdiv (64 : Int)))) (Calm.quo rfl rfl rfl (by decide)) ?_
    obtain ⟨hg11, h⟩ := of_guard h
    refine AO.c (Calm.idxP rfl rfl rfl hg11 Tryd.underlying38 sz36) ?_
    refine AO.c (Calm.load 1 rfl rfl rfl (At.cast (At.vidx (IntKind.i64.wrap (x7.tdiv (64 : Int))) hg11.1 hg11.2 At.here) (by omega)) ag36 sz36) ?_
    refine AO.c (Calm.move rfl rfl) ?_
    refine AO.c (x := eI64 (x7.tmod (64 : Int))) (Calm.rem rfl rfl rfl (by decide)) ?_
    refine AO.c (x := eU64 (u64 (x7.tmod (64 : Int)))) (Calm.conv rfl rfl Tryd.underlying3 Tryd.underlying78) ?_
    obtain ⟨hg12, h⟩ := of_guard h
    refine AO.c (x := eU64 (IntKind.u64.wrap ((1 : Int) * 2 ^ (min (u64 (x7.tmod (64 : Int))).toNat IntKind.u64.bits)))) (Calm.shl rfl rfl rfl hg12) ?_
    refine AO.c (x := eU64 (bits .or .u64 (vget x6 (IntKind.i64.wrap (x7.tdiv (64 : Int)))) (IntKind.u64.wrap ((1 : Int) * 2 ^ (min (u64 (x7.tmod (64 : Int))).toNat IntKind.u64.bits))))) (Calm.int rfl rfl rfl rfl) ?_
    obtain ⟨hg13, h⟩ := of_guard h
    refine AO.c (Calm.idxP rfl rfl rfl hg13 Tryd.underlying38 sz36) ?_
    refine AO.store (X' := (.ar 1 ((vset x6 (IntKind.i64.wrap (x7.tdiv (64 : Int))) (bits .or .u64 (vget x6 (IntKind.i64.wrap (x7.tdiv (64 : Int)))) (IntKind.u64.wrap ((1 : Int) * 2 ^ (min (u64 (x7.tmod (64 : Int))).toNat IntKind.u64.bits))))).toList.map eU64))) 1 rfl rfl rfl rfl rfl rfl (Put.cast (Put.vidx (IntKind.i64.wrap (x7.tdiv (64 : Int))) (bits .or .u64 (vget x6 (IntKind.i64.wrap (x7.tdiv (64 : Int)))) (IntKind.u64.wrap ((1 : Int) * 2 ^ (min (u64 (x7.tmod (64 : Int))).toNat IntKind.u64.bits)))) hg13.1 hg13.2 Put.here) (by omega)) rfl rfl sz36 rfl ?_
    refine AO.nK [1, 4, 5, 6] ?_
    refine AW.reg ?_
    refine AO.c (Calm.move rfl rfl) ?_
    refine AO.c (x := eI64 (w64 (x7 + (1 : Int)))) (Calm.int rfl rfl rfl rfl) ?_
    refine AO.c (Calm.assign rfl rfl) ?_
    refine AO.nK [1, 4, 5, 6] ?_
    exact ⟨kq9, Nat.lt_succ_self _, (vset x6 (IntKind.i64.wrap (x7.tdiv (64 : Int))) (bits .or .u64 (vget x6 (IntKind.i64.wrap (x7.tdiv (64 : Int)))) (IntKind.u64.wrap ((1 : Int) * 2 ^ (min (u64 (x7.tmod (64 : Int))).toNat IntKind.u64.bits))))), (w64 (x7 + (1 : Int))), rfl, rfl, by rw [hrec8]; exact h⟩
   ·refine AW.condN _ rfl hc10 ?_
    refine AW.eK [4, 5] ?_
    exact ⟨x6, rfl, rfl, h⟩
  ·rintro _ _ ⟨x5, rfl, rfl, h⟩
   rw [byteset_Range_c0.eq_1] at h
   refine AW.sr ?_
   refine AO.c (Calm.load 1 rfl rfl rfl (At.cast At.here rfl) ag38 (by rw [sz38]; simp [AV.size])) ?_
   refine AO.store (X' := (.ar 1 (x5.toList.map eU64))) 0 rfl rfl rfl rfl rfl rfl (Put.cast Put.here rfl) rfl (by simp [AV.size]) (by rw [sz38]; simp [AV.size]) rfl ?_
   refine AO.nH [4] (H' := [(n3, (.mem (.ar 1 (x5.toList.map eU64))))]) (Sub.cons 0 rfl (Sub.nil _)) ?_
   refine AW.rK [4] ?_
   have hr := Option.some.inj h
   subst hr
   exact ⟨[(.ar 1 (x5.toList.map eU64))], ⟨⟨_, 0, rfl, rfl, ag38, (by rw [sz38]; simp [AV.size])⟩, trivial⟩, rfl⟩
end Go.Avl.TE
/- bosket/byteset.Or; printed by avmain.py. -/
namespace Go.Avl.TE
open Go Go.RowKit Go.Proofs Go.Avl
set_option linter.unusedVariables false
set_option maxRecDepth 100000
set_option maxHeartbeats 4000000
attribute [local irreducible] AW AO AQ Spec SpecH Calm

def byteset_Or_c0 (k : Nat) (x6 : (Vector Int 4)) : Option (Vector Int 4) :=
  some (x6)
def byteset_Or_l1 (k : Nat) (p1 : (Vector Int 4)) : Nat → (Vector Int 4) → Int → Option (Vector Int 4)
  | 0, _, _ => none
  | j + 1, x7, x8 =>
    if x8 < (4 : Int) then if 0 ≤ x8 ∧ x8 < (4 : Int) then if 0 ≤ x8 ∧ x8 < (4 : Int) then if 0 ≤ x8 ∧ x8 < (4 : Int) then (byteset_Or_l1 k p1 j) (vset x7 x8 (bits .or .u64 (vget x7 x8) (vget p1 x8))) (w64 (x8 + (1 : Int)))
    else none
    else none
    else none
    else byteset_Or_c0 k x7
def byteset_Or (k : Nat) (p0 : (Vector Int 4)) (p1 : (Vector Int 4)) : Option (Vector Int 4) :=
  byteset_Or_l1 k p1 k p0 (0 : Int)
theorem byteset_Or_spec {k : Nat} {p0 : (Vector Int 4)} {p1 : (Vector Int 4)} {r : (Vector Int 4)} (h : byteset_Or k p0 p1 = some r) : Spec Tryd.prog 57 [(.ar 1 (p0.toList.map eU64)), (.ar 1 (p1.toList.map eU64))] (e38 r) := by
  rw [byteset_Or.eq_1] at h
  refine Spec.intro (res := [.cell 4 38]) Tryd.func57 rfl rfl rfl (Nat.le_of_ble_eq_true rfl) ?_
  refine AW.sr ?_
  refine AO.box rfl 2 rfl (by decide) rfl rfl rfl fun n3 => ?_
  refine AO.box rfl 3 rfl (by decide) rfl rfl rfl fun n4 => ?_
  refine AO.alloc rfl 4 rfl (by decide) rfl zr38 lay38 fun n5 => ?_
  refine AO.nH [2, 3, 4] (H' := [(n3, (.mem (.ar 1 (p0.toList.map eU64)))), (n4, (.mem (.ar 1 (p1.toList.map eU64)))), (n5, (.mem (.ar 1 ((Vector.replicate 4 (0 : Int)).toList.map eU64))))]) (Sub.cons 2 rfl (Sub.cons 1 rfl (Sub.cons 0 rfl (Sub.nil _)))) ?_
  refine AW.seq_mid (fun ρ H => ∃ (x6 : (Vector Int 4)), ρ = [(2, (.ptr n3 0)), (4, (.ptr n5 0))] ∧ H = [(n3, (.mem (.ar 1 (x6.toList.map eU64)))), (n5, (.mem (.ar 1 ((Vector.replicate 4 (0 : Int)).toList.map eU64))))] ∧ byteset_Or_c0 k x6 = some r) ?_ ?_
  ·refine AW.sr ?_
   refine AO.c (Calm.move rfl rfl) ?_
   refine AO.nK [2, 3, 4, 6] ?_
   refine AW.block ?_
   refine AW.wK [2, 3, 4, 6] ?_
   refine AW.loop (fun kq ρ H => ∃ (x7 : (Vector Int 4)) (x8 : Int), ρ = [(2, (.ptr n3 0)), (3, (.ptr n4 0)), (4, (.ptr n5 0)), (6, (eI64 x8))] ∧ H = [(n3, (.mem (.ar 1 (x7.toList.map eU64)))), (n4, (.mem (.ar 1 (p1.toList.map eU64)))), (n5, (.mem (.ar 1 ((Vector.replicate 4 (0 : Int)).toList.map eU64))))] ∧ byteset_Or_l1 k p1 kq x7 x8 = some r) k ⟨p0, (0 : Int), rfl, rfl, h⟩ ?_
   rintro kq10 _ _ ⟨x7, x8, rfl, rfl, h⟩
   cases kq10 with
   | zero => rw [byteset_Or_l1.eq_1] at h; cases h
   | succ kq10 =>
   rw [byteset_Or_l1.eq_2] at h
   generalize hrec9 : byteset_Or_l1 k p1 kq10 = rec9 at h
   refine AW.sr ?_
   refine AO.c (x := eBool (decide (x8 < (4 : Int)))) (Calm.int rfl rfl rfl rfl) ?_
   refine AO.nK [2, 3, 4, 6, 7] ?_
   refine AW.seq ?_
   rcases of_ite h with ⟨hc11, h⟩ | ⟨hc11, h⟩
   ·refine AW.condP _ rfl hc11 ?_
    refine AW.sK [2, 3, 4, 6] ?_
    refine AW.seq ?_
    refine AW.block ?_
    refine AW.sr ?_
    refine AO.c (Calm.move rfl rfl) ?_
    refine AO.c (Calm.assign rfl rfl) ?_
    refine AO.nK [2, 3, 4, 5, 6] ?_
    obtain ⟨hg12, h⟩ := of_guard h
    obtain ⟨hg13, h⟩ := of_guard h
    obtain ⟨hg14, h⟩ := of_guard h
    refine AW.regAnyL rfl rfl (by rfl) (by decide +kernel) (by decide +kernel) [(eI64 x8), (.ptr n3 (0 + x8.toNat * 1)), (eU64 (vget x7 x8)), (eI64 x8), (.ptr n4 (0 + x8.toNat * 1)), (eU64 (vget p1 x8)), (eU64 (bits .or .u64 (vget x7 x8) (vget p1 x8))), (.ptr n3 (0 + x8.toNat * 1))] [(2, (.ptr n3 0)), (3, (.ptr n4 0)), (4, (.ptr n5 0)), (5, (eI64 x8)), (6, (eI64 x8))] ⟨rfl, rfl, rfl, rfl, rfl, trivial⟩ rfl ?_ [(2, (.ptr n3 0)), (3, (.ptr n4 0)), (4, (.ptr n5 0)), (6, (eI64 x8)), (15, (eU64 (bits .or .u64 (vget x7 x8) (vget p1 x8)))), (16, (.ptr n3 (0 + x8.toNat * 1)))] ⟨rfl, rfl, rfl, rfl, rfl, rfl, trivial⟩ ?_
    ·refine ⟨?_, ?_, ?_, ?_, ?_, ?_, ?_, ?_, trivial⟩
     ·refine AO.wK [5] ?_
      refine AO.c (Calm.move rfl rfl) ?_
      exact AO.nE (d := 9) rfl ⟨⟨_, rfl, rfl⟩, Sub.refl _⟩
     ·refine AO.wK [2, 9] ?_
      refine AO.c (Calm.idxP rfl rfl rfl hg12 Tryd.underlying38 sz36) ?_
      exact AO.nE (d := 10) rfl ⟨⟨_, rfl, rfl⟩, Sub.refl _⟩
     ·refine AO.wK [10] ?_
      refine AO.c (Calm.load 0 rfl rfl rfl (At.cast (At.vidx x8 hg12.1 hg12.2 At.here) (by omega)) ag36 sz36) ?_
      exact AO.nE (d := 11) rfl ⟨⟨_, rfl, rfl⟩, Sub.refl _⟩
     ·refine AO.wK [5] ?_
      refine AO.c (Calm.move rfl rfl) ?_
      exact AO.nE (d := 12) rfl ⟨⟨_, rfl, rfl⟩, Sub.refl _⟩
     ·refine AO.wK [3, 12] ?_
      refine AO.c (Calm.idxP rfl rfl rfl hg13 Tryd.underlying38 sz36) ?_
      exact AO.nE (d := 13) rfl ⟨⟨_, rfl, rfl⟩, Sub.refl _⟩
     ·refine AO.wK [13] ?_
      refine AO.c (Calm.load 1 rfl rfl rfl (At.cast (At.vidx x8 hg13.1 hg13.2 At.here) (by omega)) ag36 sz36) ?_
      exact AO.nE (d := 14) rfl ⟨⟨_, rfl, rfl⟩, Sub.refl _⟩
     ·refine AO.wK [11, 14] ?_
      refine AO.c (x := eU64 (bits .or .u64 (vget x7 x8) (vget p1 x8))) (Calm.int rfl rfl rfl rfl) ?_
      exact AO.nE (d := 15) rfl ⟨⟨_, rfl, rfl⟩, Sub.refl _⟩
     ·refine AO.wK [2, 9] ?_
      refine AO.c (Calm.idxP rfl rfl rfl hg14 Tryd.underlying38 sz36) ?_
      exact AO.nE (d := 16) rfl ⟨⟨_, rfl, rfl⟩, Sub.refl _⟩
    ·refine AO.store (X' := (.ar 1 ((vset x7 x8 (bits .or .u64 (vget x7 x8) (vget p1 x8))).toList.map eU64))) 0 rfl rfl rfl rfl rfl rfl (Put.cast (Put.vidx x8 (bits .or .u64 (vget x7 x8) (vget p1 x8)) hg14.1 hg14.2 Put.here) (by omega)) rfl rfl sz36 rfl ?_
     refine AO.nK [2, 3, 4, 6] ?_
     refine AW.reg ?_
     refine AO.c (x := eI64 (w64 (x8 + (1 : Int)))) (Calm.int rfl rfl rfl rfl) ?_
     refine AO.c (Calm.move rfl rfl) ?_
     refine AO.nK [2, 3, 4, 6] ?_
     exact ⟨kq10, Nat.lt_succ_self _, (vset x7 x8 (bits .or .u64 (vget x7 x8) (vget p1 x8))), (w64 (x8 + (1 : Int))), rfl, rfl, by rw [hrec9]; exact h⟩
   ·refine AW.condN _ rfl hc11 ?_
    refine AW.eH [2, 4] (H' := [(n3, (.mem (.ar 1 (x7.toList.map eU64)))), (n5, (.mem (.ar 1 ((Vector.replicate 4 (0 : Int)).toList.map eU64))))]) (Sub.cons 0 rfl (Sub.cons 1 rfl (Sub.nil _))) ?_
    exact ⟨x7, rfl, rfl, h⟩
  ·rintro _ _ ⟨x6, rfl, rfl, h⟩
   rw [byteset_Or_c0.eq_1] at h
   refine AW.sr ?_
   refine AO.c (Calm.load 0 rfl rfl rfl (At.cast At.here rfl) ag38 (by rw [sz38]; simp [AV.size])) ?_
   refine AO.store (X' := (.ar 1 (x6.toList.map eU64))) 1 rfl rfl rfl rfl rfl rfl (Put.cast Put.here rfl) rfl (by simp [AV.size]) (by rw [sz38]; simp [AV.size]) rfl ?_
   refine AO.nH [4] (H' := [(n5, (.mem (.ar 1 (x6.toList.map eU64))))]) (Sub.cons 1 rfl (Sub.nil _)) ?_
   refine AW.rK [4] ?_
   have hr := Option.some.inj h
   subst hr
   exact ⟨[(.ar 1 (x6.toList.map eU64))], ⟨⟨_, 0, rfl, rfl, ag38, (by rw [sz38]; simp [AV.size])⟩, trivial⟩, rfl⟩
end Go.Avl.TE
/- bosket/byteset.Less; printed by avmain.py. -/
namespace Go.Avl.TE
open Go Go.RowKit Go.Proofs Go.Avl
set_option linter.unusedVariables false
set_option maxRecDepth 100000
set_option maxHeartbeats 4000000
attribute [local irreducible] AW AO AQ Spec SpecH Calm

def byteset_Less_c0 (k : Nat) (x6 : (Vector Int 4)) : Option (Vector Int 4) :=
  some (x6)
def byteset_Less_l1 (k : Nat) (p1 : (Vector Int 4)) : Nat → (Vector Int 4) → Int → Option (Vector Int 4)
  | 0, _, _ => none
  | j + 1, x7, x8 =>
    if x8 < (4 : Int) then if 0 ≤ x8 ∧ x8 < (4 : Int) then if 0 ≤ x8 ∧ x8 < (4 : Int) then if 0 ≤ x8 ∧ x8 < (4 : Int) then (byteset_Less_l1 k p1 j) (vset x7 x8 (bits .andNot .u64 (vget x7 x8) (vget p1 x8))) (w64 (x8 + (1 : Int)))
    else none
    else none
    else none
    else byteset_Less_c0 k x7
def byteset_Less (k : Nat) (p0 : (Vector Int 4)) (p1 : (Vector Int 4)) : Option (Vector Int 4) :=
  byteset_Less_l1 k p1 k p0 (0 : Int)
theorem byteset_Less_spec {k : Nat} {p0 : (Vector Int 4)} {p1 : (Vector Int 4)} {r : (Vector Int 4)} (h : byteset_Less k p0 p1 = some r) : Spec Tryd.prog 51 [(.ar 1 (p0.toList.map eU64)), (.ar 1 (p1.toList.map eU64))] (e38 r) := by
  rw [byteset_Less.eq_1] at h
  refine Spec.intro (res := [.cell 4 38]) Tryd.func51 rfl rfl rfl (Nat.le_of_ble_eq_true rfl) ?_
  refine AW.sr ?_
  refine AO.box rfl 2 rfl (by decide) rfl rfl rfl fun n3 => ?_
  refine AO.box rfl 3 rfl (by decide) rfl rfl rfl fun n4 => ?_
  refine AO.alloc rfl 4 rfl (by decide) rfl zr38 lay38 fun n5 => ?_
  refine AO.nH [2, 3, 4] (H' := [(n3, (.mem (.ar 1 (p0.toList.map eU64)))), (n4, (.mem (.ar 1 (p1.toList.map eU64)))), (n5, (.mem (.ar 1 ((Vector.replicate 4 (0 : Int)).toList.map eU64))))]) (Sub.cons 2 rfl (Sub.cons 1 rfl (Sub.cons 0 rfl (Sub.nil _)))) ?_
  refine AW.seq_mid (fun ρ H => ∃ (x6 : (Vector Int 4)), ρ = [(2, (.ptr n3 0)), (4, (.ptr n5 0))] ∧ H = [(n3, (.mem (.ar 1 (x6.toList.map eU64)))), (n5, (.mem (.ar 1 ((Vector.replicate 4 (0 : Int)).toList.map eU64))))] ∧ byteset_Less_c0 k x6 = some r) ?_ ?_
  ·refine AW.sr ?_
   refine AO.c (Calm.move rfl rfl) ?_
   refine AO.nK [2, 3, 4, 6] ?_
   refine AW.block ?_
   refine AW.wK [2, 3, 4, 6] ?_
   refine AW.loop (fun kq ρ H => ∃ (x7 : (Vector Int 4)) (x8 : Int), ρ = [(2, (.ptr n3 0)), (3, (.ptr n4 0)), (4, (.ptr n5 0)), (6, (eI64 x8))] ∧ H = [(n3, (.mem (.ar 1 (x7.toList.map eU64)))), (n4, (.mem (.ar 1 (p1.toList.map eU64)))), (n5, (.mem (.ar 1 ((Vector.replicate 4 (0 : Int)).toList.map eU64))))] ∧ byteset_Less_l1 k p1 kq x7 x8 = some r) k ⟨p0, (0 : Int), rfl, rfl, h⟩ ?_
   rintro kq10 _ _ ⟨x7, x8, rfl, rfl, h⟩
   cases kq10 with
   | zero => rw [byteset_Less_l1.eq_1] at h; cases h
   | succ kq10 =>
   rw [byteset_Less_l1.eq_2] at h
   generalize hrec9 : byteset_Less_l1 k p1 kq10 = rec9 at h
   refine AW.sr ?_
   refine AO.c (x := eBool (decide (x8 < (4 : Int)))) (Calm.int rfl rfl rfl rfl) ?_
   refine AO.nK [2, 3, 4, 6, 7] ?_
   refine AW.seq ?_
   rcases of_ite h with ⟨hc11, h⟩ | ⟨hc11, h⟩
   ·refine AW.condP _ rfl hc11 ?_
    refine AW.sK [2, 3, 4, 6] ?_
    refine AW.seq ?_
    refine AW.block ?_
    refine AW.sr ?_
    refine AO.c (Calm.move rfl rfl) ?_
    refine AO.c (Calm.assign rfl rfl) ?_
    refine AO.nK [2, 3, 4, 5, 6] ?_
    obtain ⟨hg12, h⟩ := of_guard h
    obtain ⟨hg13, h⟩ := of_guard h
    obtain ⟨hg14, h⟩ := of_guard h
    refine AW.regAnyL rfl rfl (by rfl) (by decide +kernel) (by decide +kernel) [(eI64 x8), (.ptr n3 (0 + x8.toNat * 1)), (eU64 (vget x7 x8)), (eI64 x8), (.ptr n4 (0 + x8.toNat * 1)), (eU64 (vget p1 x8)), (eU64 (bits .andNot .u64 (vget x7 x8) (vget p1 x8))), (.ptr n3 (0 + x8.toNat * 1))] [(2, (.ptr n3 0)), (3, (.ptr n4 0)), (4, (.ptr n5 0)), (5, (eI64 x8)), (6, (eI64 x8))] ⟨rfl, rfl, rfl, rfl, rfl, trivial⟩ rfl ?_ [(2, (.ptr n3 0)), (3, (.ptr n4 0)), (4, (.ptr n5 0)), (6, (eI64 x8)), (15, (eU64 (bits .andNot .u64 (vget x7 x8) (vget p1 x8)))), (16, (.ptr n3 (0 + x8.toNat * 1)))] ⟨rfl, rfl, rfl, rfl, rfl, rfl, trivial⟩ ?_
    ·refine ⟨?_, ?_, ?_, ?_, ?_, ?_, ?_, ?_, trivial⟩
     ·refine AO.wK [5] ?_
      refine AO.c (Calm.move rfl rfl) ?_
      exact AO.nE (d := 9) rfl ⟨⟨_, rfl, rfl⟩, Sub.refl _⟩
     ·refine AO.wK [2, 9] ?_
      refine AO.c (Calm.idxP rfl rfl rfl hg12 Tryd.underlying38 sz36) ?_
      exact AO.nE (d := 10) rfl ⟨⟨_, rfl, rfl⟩, Sub.refl _⟩
     ·refine AO.wK [10] ?_
      refine AO.c (Calm.load 0 rfl rfl rfl (At.cast (At.vidx x8 hg12.1 hg12.2 At.here) (by omega)) ag36 sz36) ?_
      exact AO.nE (d := 11) rfl ⟨⟨_, rfl, rfl⟩, Sub.refl _⟩
     ·refine AO.wK [5] ?_
      refine AO.c (Calm.move rfl rfl) ?_
      exact AO.nE (d := 12) rfl ⟨⟨_, rfl, rfl⟩, Sub.refl _⟩
     ·refine AO.wK [3, 12] ?_
      refine AO.c (Calm.idxP rfl rfl rfl hg13 Tryd.underlying38 sz36) ?_
      exact AO.nE (d := 13) rfl ⟨⟨_, rfl, rfl⟩, Sub.refl _⟩
     ·refine AO.wK [13] ?_
      refine AO.c (Calm.load 1 rfl rfl rfl (At.cast (At.vidx x8 hg13.1 hg13.2 At.here) (by omega)) ag36 sz36) ?_
      exact AO.nE (d := 14) rfl ⟨⟨_, rfl, rfl⟩, Sub.refl _⟩
     ·refine AO.wK [11, 14] ?_
      refine AO.c (x := eU64 (bits .andNot .u64 (vget x7 x8) (vget p1 x8))) (Calm.int rfl rfl rfl rfl) ?_
      exact AO.nE (d := 15) rfl ⟨⟨_, rfl, rfl⟩, Sub.refl _⟩
     ·refine AO.wK [2, 9] ?_
      refine AO.c (Calm.idxP rfl rfl rfl hg14 Tryd.underlying38 sz36) ?_
      exact AO.nE (d := 16) rfl ⟨⟨_, rfl, rfl⟩, Sub.refl _⟩
    ·refine AO.store (X' := (.ar 1 ((vset x7 x8 (bits .andNot .u64 (vget x7 x8) (vget p1 x8))).toList.map eU64))) 0 rfl rfl rfl rfl rfl rfl (Put.cast (Put.vidx x8 (bits .andNot .u64 (vget x7 x8) (vget p1 x8)) hg14.1 hg14.2 Put.here) (by omega)) rfl rfl sz36 rfl ?_
     refine AO.nK [2, 3, 4, 6] ?_
     refine AW.reg ?_
     refine AO.c (x := eI64 (w64 (x8 + (1 : Int)))) (Calm.int rfl rfl rfl rfl) ?_
     refine AO.c (Calm.move rfl rfl) ?_
     refine AO.nK [2, 3, 4, 6] ?_
     exact ⟨kq10, Nat.lt_succ_self _, (vset x7 x8 (bits .andNot .u64 (vget x7 x8) (vget p1 x8))), (w64 (x8 + (1 : Int))), rfl, rfl, by rw [hrec9]; exact h⟩
   ·refine AW.condN _ rfl hc11 ?_
    refine AW.eH [2, 4] (H' := [(n3, (.mem (.ar 1 (x7.toList.map eU64)))), (n5, (.mem (.ar 1 ((Vector.replicate 4 (0 : Int)).toList.map eU64))))]) (Sub.cons 0 rfl (Sub.cons 1 rfl (Sub.nil _))) ?_
    exact ⟨x7, rfl, rfl, h⟩
  ·rintro _ _ ⟨x6, rfl, rfl, h⟩
   rw [byteset_Less_c0.eq_1] at h
   refine AW.sr ?_
   refine AO.c (Calm.load 0 rfl rfl rfl (At.cast At.here rfl) ag38 (by rw [sz38]; simp [AV.size])) ?_
   refine AO.store (X' := (.ar 1 (x6.toList.map eU64))) 1 rfl rfl rfl rfl rfl rfl (Put.cast Put.here rfl) rfl (by simp [AV.size]) (by rw [sz38]; simp [AV.size]) rfl ?_
   refine AO.nH [4] (H' := [(n5, (.mem (.ar 1 (x6.toList.map eU64))))]) (Sub.cons 1 rfl (Sub.nil _)) ?_
   refine AW.rK [4] ?_
   have hr := Option.some.inj h
   subst hr
   exact ⟨[(.ar 1 (x6.toList.map eU64))], ⟨⟨_, 0, rfl, rfl, ag38, (by rw [sz38]; simp [AV.size])⟩, trivial⟩, rfl⟩
end Go.Avl.TE
/- bosket/byteset.Not; printed by avmain.py. -/
namespace Go.Avl.TE
open Go Go.RowKit Go.Proofs Go.Avl
set_option linter.unusedVariables false
set_option maxRecDepth 100000
set_option maxHeartbeats 4000000
attribute [local irreducible] AW AO AQ Spec SpecH Calm

def byteset_Not (k : Nat) (p0 : (Vector Int 4)) : Option (Vector Int 4) :=
  (byteset_Full k).bind fun t4 =>
  (byteset_Less k t4 p0).bind fun t5 =>
  some (t5)
theorem byteset_Not_spec {k : Nat} {p0 : (Vector Int 4)} {r : (Vector Int 4)} (h : byteset_Not k p0 = some r) : Spec Tryd.prog 40 [(.ar 1 (p0.toList.map eU64))] (e38 r) := by
  rw [byteset_Not.eq_1] at h
  refine Spec.intro (res := [.cell 2 38]) Tryd.func40 rfl rfl rfl (Nat.le_of_ble_eq_true rfl) ?_
  refine AW.sr ?_
  refine AO.box rfl 1 rfl (by decide) rfl rfl rfl fun n2 => ?_
  refine AO.alloc rfl 2 rfl (by decide) rfl zr38 lay38 fun n3 => ?_
  refine AO.nH [1, 2] (H' := [(n2, (.mem (.ar 1 (p0.toList.map eU64)))), (n3, (.mem (.ar 1 ((Vector.replicate 4 (0 : Int)).toList.map eU64))))]) (Sub.cons 1 rfl (Sub.cons 0 rfl (Sub.nil _))) ?_
  refine AW.seq ?_
  obtain ⟨t4, et4, h⟩ := of_bind h
  obtain ⟨t5, et5, h⟩ := of_bind h
  refine AW.regAnyL rfl rfl (by rfl) (by decide +kernel) (by decide +kernel) [(.ar 1 (t4.toList.map eU64)), (.ar 1 (p0.toList.map eU64)), (.ar 1 (t5.toList.map eU64))] [(1, (.ptr n2 0)), (2, (.ptr n3 0))] ⟨rfl, rfl, trivial⟩ rfl ?_ [(2, (.ptr n3 0)), (5, (.ar 1 (t5.toList.map eU64)))] ⟨rfl, rfl, trivial⟩ ?_
  ·refine ⟨?_, ?_, ?_, trivial⟩
   ·refine AO.wK [] ?_
    refine AO.callS [] (.ar 1 (t4.toList.map eU64)) 3 rfl (by decide) ok36 rfl rfl rfl trivial (byteset_Full_spec et4) ?_
    exact AO.nE (d := 3) rfl ⟨⟨_, rfl, rfl⟩, Sub.refl _⟩
   ·refine AO.wK [1] ?_
    refine AO.c (Calm.load 0 rfl rfl rfl (At.cast At.here rfl) ag38 (by rw [sz38]; simp [AV.size])) ?_
    exact AO.nE (d := 4) rfl ⟨⟨_, rfl, rfl⟩, Sub.refl _⟩
   ·refine AO.wK [3, 4] ?_
    refine AO.callS [(.ar 1 (t4.toList.map eU64)), (.ar 1 (p0.toList.map eU64))] (.ar 1 (t5.toList.map eU64)) 5 rfl (by decide) ok51 rfl rfl rfl ⟨rfl, rfl, rfl, rfl, trivial⟩ (byteset_Less_spec et5) ?_
    exact AO.nE (d := 5) rfl ⟨⟨_, rfl, rfl⟩, Sub.refl _⟩
  ·refine AO.store (X' := (.ar 1 (t5.toList.map eU64))) 1 rfl rfl rfl rfl rfl rfl (Put.cast Put.here rfl) rfl (by simp [AV.size]) (by rw [sz38]; simp [AV.size]) rfl ?_
   refine AO.nH [2] (H' := [(n3, (.mem (.ar 1 (t5.toList.map eU64))))]) (Sub.cons 1 rfl (Sub.nil _)) ?_
   refine AW.rK [2] ?_
   have hr := Option.some.inj h
   subst hr
   exact ⟨[(.ar 1 (t5.toList.map eU64))], ⟨⟨_, 0, rfl, rfl, ag38, (by rw [sz38]; simp [AV.size])⟩, trivial⟩, rfl⟩
end Go.Avl.TE
/- bosket/byteset.Empty; printed by avmain.py. -/
namespace Go.Avl.TE
open Go Go.RowKit Go.Proofs Go.Avl
set_option linter.unusedVariables false
set_option maxRecDepth 100000
set_option maxHeartbeats 4000000
attribute [local irreducible] AW AO AQ Spec SpecH Calm

def byteset_Empty (k : Nat) (p0 : (Vector Int 4)) : Option Bool :=
  some (decide (p0 = (Vector.replicate 4 (0 : Int))))
theorem byteset_Empty_spec {k : Nat} {p0 : (Vector Int 4)} {r : Bool} (h : byteset_Empty k p0 = some r) : Spec Tryd.prog 26 [(.ar 1 (p0.toList.map eU64))] (eBool r) := by
  rw [byteset_Empty.eq_1] at h
  refine Spec.intro (res := [.tmp 2]) Tryd.func26 rfl rfl rfl (Nat.le_of_ble_eq_true rfl) ?_
  refine AW.sr ?_
  refine AO.box rfl 1 rfl (by decide) rfl rfl rfl fun n2 => ?_
  refine AO.c (Calm.assign rfl rfl) ?_
  refine AO.nK [1] ?_
  refine AW.sr ?_
  refine AO.c (Calm.load 0 rfl rfl rfl (At.cast At.here rfl) ag38 (by rw [sz38]; simp [AV.size])) ?_
  refine AO.c (x := .ar 1 ((Vector.replicate 4 (0 : Int)).toList.map eU64)) (Calm.buildAr (qs := []) rfl trivial Tryd.underlying38 sz36 zr38 lay38 .nil rfl) ?_
  refine AO.c (x := eBool (decide (p0 = (Vector.replicate 4 (0 : Int))))) (Calm.eqA rfl rfl rfl eg38 (eqa38 p0 (Vector.replicate 4 (0 : Int))) (by decide)) ?_
  refine AO.c (Calm.assign rfl rfl) ?_
  refine AO.nH [2] (H' := []) (Sub.nil _) ?_
  refine AW.rK [2] ?_
  have hr := Option.some.inj h
  subst hr
  exact ⟨[(eBool (decide (p0 = (Vector.replicate 4 (0 : Int)))))], ⟨rfl, rfl, trivial⟩, rfl⟩
end Go.Avl.TE
