/- Parts: TEB, TEf35, TEf19, TEf6, TEf25, TEf26, TEf12, TEf17, TEf15, TEf27, TEf16, TEf14, TEf10, TEf24, TEf11, TEf13, TEf18, TEf36, TEf47, TEf37, TEf50. -/
import Derived.Test.YtcdennkoccjacaaDoorAv3
import Derived.Test.YtcdennkoccjacaaDoorProg
/- Types and facts; printed by avmain.py. -/
namespace Go.Avl.TE
open Go Go.RowKit Go.Proofs Go.Avl
set_option linter.unusedVariables false
set_option maxRecDepth 100000
set_option maxHeartbeats 4000000
structure S49 where
  f0 : ByteArray
  f1 : Int
  f2 : Int
deriving Inhabited, DecidableEq
abbrev e49 (x : S49) : AV := .st [(1, (eStr x.f0)), (1, (eI64 x.f1)), (1, (eI64 x.f2))]
abbrev e38 (v : Vector Int 4) : AV := .ar 1 (v.toList.map eU64)
structure S40 where
  f0 : Int
  f1 : (Vector Int 4)
deriving Inhabited, DecidableEq
abbrev e40 (x : S40) : AV := .st [(1, (eI64 x.f0)), (4, (.ar 1 (x.f1.toList.map eU64)))]
abbrev e23 (l : List S40) : AV := .fz 5 (l.map e40)
abbrev e41 (l : List (List S40)) : AV := .fz 1 (l.map e23)
abbrev e60 (l : List Int) : AV := .fz 1 (l.map eU8)
structure S71 where
  f0 : Int
  f1 : Int
deriving Inhabited, DecidableEq
abbrev e71 (x : S71) : AV := .st [(1, (eU8 x.f0)), (1, (eU8 x.f1))]
abbrev e68 (l : List S71) : AV := .fz 2 (l.map e71)
abbrev e34 (l : List (Vector Int 4)) : AV := .fz 4 (l.map e38)
theorem sz3 : tySize Tryd.prog 3 = some 1 := by rfl
theorem ag3 : tyAgg Tryd.prog 3 = some false := by rfl
theorem sz9 : tySize Tryd.prog 9 = some 1 := by rfl
theorem ag9 : tyAgg Tryd.prog 9 = some false := by rfl
theorem zr38 : tyZero Tryd.prog 38 = some ((List.replicate 4 (.int .u64 0))) := by rfl
theorem lay38 : ∀ g, Sim g (.ar 1 ((Vector.replicate 4 (0 : Int)).toList.map eU64)) ((List.replicate 4 (.int .u64 0))) := fun g => (lay_vec1 (lay_fl rfl))
theorem sz36 : tySize Tryd.prog 36 = some 1 := by rfl
theorem sz38 : tySize Tryd.prog 38 = some 4 := by rfl
theorem ag38 : tyAgg Tryd.prog 38 = some true := by rfl
theorem ok60 : FnOK Tryd.prog 60 := FnOK.mk Tryd.func60 rfl rfl
theorem ok59 : FnOK Tryd.prog 59 := FnOK.mk Tryd.func59 rfl rfl
theorem ag36 : tyAgg Tryd.prog 36 = some false := by rfl
theorem ok36 : FnOK Tryd.prog 36 := FnOK.mk Tryd.func36 rfl rfl
theorem ok51 : FnOK Tryd.prog 51 := FnOK.mk Tryd.func51 rfl rfl
theorem eqa38 (x y : (Vector Int 4)) : EqOK Tryd.prog 2 38 (.ar 1 (x.toList.map eU64)) (.ar 1 (y.toList.map eU64)) (decide (x = y)) := EqOK.vec (m := 1) Tryd.underlying38 (fun a b => EqOK.int Tryd.underlying36) (fun _ => ag36) (fun _ => sz36) (fun _ => rfl) (by rfl) ⟨_, rfl⟩ x y
theorem eg38 : Tryd.prog.eqGuardType Tryd.prog.depth 38 = false := by decide +kernel
theorem ok31 : FnOK Tryd.prog 31 := FnOK.mk Tryd.func31 rfl rfl
theorem ok44 : FnOK Tryd.prog 44 := FnOK.mk Tryd.func44 rfl rfl
theorem ok55 : FnOK Tryd.prog 55 := FnOK.mk Tryd.func55 rfl rfl
theorem ok58 : FnOK Tryd.prog 58 := FnOK.mk Tryd.func58 rfl rfl
theorem ok57 : FnOK Tryd.prog 57 := FnOK.mk Tryd.func57 rfl rfl
theorem ok40 : FnOK Tryd.prog 40 := FnOK.mk Tryd.func40 rfl rfl
theorem zr40 : tyZero Tryd.prog 40 = some (([.int .i64 0] ++ ((List.replicate 4 (.int .u64 0)) ++ []))) := by rfl
theorem lay40 : ∀ g, Sim g (.st [(1, (eI64 (0 : Int))), (4, (.ar 1 ((Vector.replicate 4 (0 : Int)).toList.map eU64)))]) (([.int .i64 0] ++ ((List.replicate 4 (.int .u64 0)) ++ []))) := fun g => (Sim.stCons (lay_fl rfl) rfl (Sim.stCons (lay_vec1 (lay_fl rfl)) rfl Sim.stNil))
theorem sz40 : tySize Tryd.prog 40 = some 5 := by rfl
theorem ok26 : FnOK Tryd.prog 26 := FnOK.mk Tryd.func26 rfl rfl
theorem sz5 : tySize Tryd.prog 5 = some 1 := by rfl
theorem ag5 : tyAgg Tryd.prog 5 = some false := by rfl
theorem ok25 : FnOK Tryd.prog 25 := FnOK.mk Tryd.func25 rfl rfl
theorem sz23 : tySize Tryd.prog 23 = some 1 := by rfl
theorem ag23 : tyAgg Tryd.prog 23 = some false := by rfl
theorem by40 : tyBytes Tryd.prog 40 = some 40 := by rfl
theorem ok30 : FnOK Tryd.prog 30 := FnOK.mk Tryd.func30 rfl rfl
theorem zr23 : tyZero Tryd.prog 23 = some ([.slice none 0 0]) := by rfl
theorem lay23 : ∀ g, Sim g (.fl (.slice none 0 0)) ([.slice none 0 0]) := fun g => (lay_fl rfl)
theorem ok18 : FnOK Tryd.prog 18 := FnOK.mk Tryd.func18 rfl rfl
theorem ok43 : FnOK Tryd.prog 43 := FnOK.mk Tryd.func43 rfl rfl
theorem ok53 : FnOK Tryd.prog 53 := FnOK.mk Tryd.func53 rfl rfl
theorem ok21 : FnOK Tryd.prog 21 := FnOK.mk Tryd.func21 rfl rfl
theorem ok54 : FnOK Tryd.prog 54 := FnOK.mk Tryd.func54 rfl rfl
theorem zr5 : tyZero Tryd.prog 5 = some ([.int .u8 0]) := by rfl
theorem lay5 : ∀ g, Sim g (eU8 (0 : Int)) ([.int .u8 0]) := fun g => (lay_fl rfl)
theorem ok56 : FnOK Tryd.prog 56 := FnOK.mk Tryd.func56 rfl rfl
theorem zr49 : tyZero Tryd.prog 49 = some (([.string ByteArray.empty] ++ ([.int .i64 0] ++ ([.int .i64 0] ++ [])))) := by rfl
theorem lay49 : ∀ g, Sim g (.st [(1, (eStr ByteArray.empty)), (1, (eI64 (0 : Int))), (1, (eI64 (0 : Int)))]) (([.string ByteArray.empty] ++ ([.int .i64 0] ++ ([.int .i64 0] ++ [])))) := fun g => (Sim.stCons (lay_fl rfl) rfl (Sim.stCons (lay_fl rfl) rfl (Sim.stCons (lay_fl rfl) rfl Sim.stNil)))
theorem ag40 : tyAgg Tryd.prog 40 = some true := by rfl
theorem ok27 : FnOK Tryd.prog 27 := FnOK.mk Tryd.func27 rfl rfl
theorem ok16 : FnOK Tryd.prog 16 := FnOK.mk Tryd.func16 rfl rfl
theorem ok47 : FnOK Tryd.prog 47 := FnOK.mk Tryd.func47 rfl rfl
theorem tb0 : ∀ i : Int, 0 ≤ i ∧ i < (64 : Int) → (0, i.toNat * 1, Value.int .u8 (lget tab0 i)) ∈ tabs := fun i h => by
  rw [Nat.mul_one]; exact tab_mem (l := tab0) i.toNat (by have : tab0.length = 64 := rfl; omega)
theorem ok50 : FnOK Tryd.prog 50 := FnOK.mk Tryd.func50 rfl rfl
theorem ok48 : FnOK Tryd.prog 48 := FnOK.mk Tryd.func48 rfl rfl
theorem ok49 : FnOK Tryd.prog 49 := FnOK.mk Tryd.func49 rfl rfl
theorem by5 : tyBytes Tryd.prog 5 = some 1 := by rfl
theorem ok52 : FnOK Tryd.prog 52 := FnOK.mk Tryd.func52 rfl rfl
theorem zr71 : tyZero Tryd.prog 71 = some (([.int .u8 0] ++ ([.int .u8 0] ++ []))) := by rfl
theorem lay71 : ∀ g, Sim g (.st [(1, (eU8 (0 : Int))), (1, (eU8 (0 : Int)))]) (([.int .u8 0] ++ ([.int .u8 0] ++ []))) := fun g => (Sim.stCons (lay_fl rfl) rfl (Sim.stCons (lay_fl rfl) rfl Sim.stNil))
theorem sz71 : tySize Tryd.prog 71 = some 2 := by rfl
theorem by71 : tyBytes Tryd.prog 71 = some 2 := by rfl
theorem ok37 : FnOK Tryd.prog 37 := FnOK.mk Tryd.func37 rfl rfl
theorem ok39 : FnOK Tryd.prog 39 := FnOK.mk Tryd.func39 rfl rfl
theorem ok38 : FnOK Tryd.prog 38 := FnOK.mk Tryd.func38 rfl rfl
theorem ok41 : FnOK Tryd.prog 41 := FnOK.mk Tryd.func41 rfl rfl
theorem ag71 : tyAgg Tryd.prog 71 = some true := by rfl
theorem ok14 : FnOK Tryd.prog 14 := FnOK.mk Tryd.func14 rfl rfl
theorem ok28 : FnOK Tryd.prog 28 := FnOK.mk Tryd.func28 rfl rfl
theorem ok29 : FnOK Tryd.prog 29 := FnOK.mk Tryd.func29 rfl rfl
theorem ok20 : FnOK Tryd.prog 20 := FnOK.mk Tryd.func20 rfl rfl
theorem ok42 : FnOK Tryd.prog 42 := FnOK.mk Tryd.func42 rfl rfl
theorem ok12 : FnOK Tryd.prog 12 := FnOK.mk Tryd.func12 rfl rfl
theorem ok8 : FnOK Tryd.prog 8 := FnOK.mk Tryd.func8 rfl rfl
theorem ok7 : FnOK Tryd.prog 7 := FnOK.mk Tryd.func7 rfl rfl
theorem zr3 : tyZero Tryd.prog 3 = some ([.int .i64 0]) := by rfl
theorem lay3 : ∀ g, Sim g (eI64 (0 : Int)) ([.int .i64 0]) := fun g => (lay_fl rfl)
theorem ok19 : FnOK Tryd.prog 19 := FnOK.mk Tryd.func19 rfl rfl
theorem ok17 : FnOK Tryd.prog 17 := FnOK.mk Tryd.func17 rfl rfl
theorem by23 : tyBytes Tryd.prog 23 = some 24 := by rfl
theorem ok15 : FnOK Tryd.prog 15 := FnOK.mk Tryd.func15 rfl rfl
theorem eqk40 (x y : S40) : EqOK Tryd.prog 3 40 (e40 x) (e40 y) (decide (x = y)) := (EqOK.struct (bs := [decide (x.f0 = y.f0), decide (x.f1 = y.f1)]) Tryd.underlying40 (by decide +kernel) ⟨⟨rfl, (eI64 x.f0), (eI64 y.f0), (At.cast (At.fld0 At.here) rfl), (At.cast (At.fld0 At.here) rfl), ag3, ag3, sz3, sz3, (EqOK.lift 1 (EqOK.int Tryd.underlying3))⟩, ⟨rfl, (.ar 1 (x.f1.toList.map eU64)), (.ar 1 (y.f1.toList.map eU64)), (At.cast (At.fldS (At.fld0 At.here)) rfl), (At.cast (At.fldS (At.fld0 At.here)) rfl), ag38, ag38, (by rw [sz38]; simp [AV.size]), (by rw [sz38]; simp [AV.size]), (eqa38 x.f1 y.f1)⟩, trivial⟩).of (by cases x; cases y; simp)
theorem eg40 : Tryd.prog.eqGuardType Tryd.prog.depth 40 = false := by decide +kernel
theorem ok24 : FnOK Tryd.prog 24 := FnOK.mk Tryd.func24 rfl rfl
theorem ok5 : FnOK Tryd.prog 5 := FnOK.mk Tryd.func5 rfl rfl
theorem ok6 : FnOK Tryd.prog 6 := FnOK.mk Tryd.func6 rfl rfl
theorem ok10 : FnOK Tryd.prog 10 := FnOK.mk Tryd.func10 rfl rfl
theorem ok11 : FnOK Tryd.prog 11 := FnOK.mk Tryd.func11 rfl rfl
theorem by38 : tyBytes Tryd.prog 38 = some 32 := by rfl
theorem ok13 : FnOK Tryd.prog 13 := FnOK.mk Tryd.func13 rfl rfl
end Go.Avl.TE
/- bosket/bosketref02.Has; printed by avmain.py. -/
namespace Go.Avl.TE
open Go Go.RowKit Go.Proofs Go.Avl
set_option linter.unusedVariables false
set_option maxRecDepth 100000
set_option maxHeartbeats 4000000
attribute [local irreducible] AW AO AQ Spec SpecH Calm

end Go.Avl.TE
/- bosket/bosketref04.Takes; printed by avmain.py. -/
namespace Go.Avl.TE
open Go Go.RowKit Go.Proofs Go.Avl
set_option linter.unusedVariables false
set_option maxRecDepth 100000
set_option maxHeartbeats 4000000
attribute [local irreducible] AW AO AQ Spec SpecH Calm

def bosketref04_Takes (k : Nat) (p0 : Int) : Option Int :=
  Option.bind (α := Bool) (if p0 < (0 : Int) then some (true)
  else some (decide ((6 : Int) < p0))) fun b3 =>
  if b3 = true then some ((-1 : Int))
  else if 0 ≤ p0 ∧ p0 < (([(0 : Int), (0 : Int), (2 : Int), (2 : Int), (1 : Int), (1 : Int), (1 : Int)] : List Int).length : Int) then (some (lget ([(0 : Int), (0 : Int), (2 : Int), (2 : Int), (1 : Int), (1 : Int), (1 : Int)] : List Int) p0)).bind fun x8 =>
  some (x8)
  else none
theorem bosketref04_Takes_spec {k : Nat} {p0 : Int} {r : Int} (h : bosketref04_Takes k p0 = some r) : Spec Tryd.prog 19 [(eI64 p0)] (eI64 r) := by
  rw [bosketref04_Takes.eq_1] at h
  refine Spec.intro (res := [.tmp 2]) Tryd.func19 rfl rfl rfl (Nat.le_of_ble_eq_true rfl) ?_
  refine AW.sr ?_
  refine AO.c (Calm.assign rfl rfl) ?_
  refine AO.nK [0] ?_
  refine AW.sr ?_
  refine AO.lit (Z := (eI64 (0 : Int))) (xs := (([(0 : Int), (0 : Int), (2 : Int), (2 : Int), (1 : Int), (1 : Int), (1 : Int)] : List Int).map eI64)) (qs := [(0, (eI64 (0 : Int))), (1, (eI64 (0 : Int))), (2, (eI64 (2 : Int))), (3, (eI64 (2 : Int))), (4, (eI64 (1 : Int))), (5, (eI64 (1 : Int))), (6, (eI64 (1 : Int)))]) rfl 4 rfl (by decide) rfl ⟨rfl, rfl, rfl, rfl, rfl, rfl, rfl, rfl, rfl, rfl, rfl, rfl, rfl, rfl, rfl, rfl, rfl, rfl, rfl, rfl, rfl, trivial⟩ Tryd.underlying53 sz3 zr3 lay3 rfl (by decide) (litOK (z := 1) [(eI64 (0 : Int)), (eI64 (0 : Int)), (eI64 (2 : Int)), (eI64 (2 : Int)), (eI64 (1 : Int)), (eI64 (1 : Int)), (eI64 (1 : Int))] rfl ⟨⟨rfl, rfl⟩, ⟨rfl, rfl⟩, ⟨rfl, rfl⟩, ⟨rfl, rfl⟩, ⟨rfl, rfl⟩, ⟨rfl, rfl⟩, ⟨rfl, rfl⟩, trivial⟩) rfl fun n2 => ?_
  refine AO.c (Calm.assign rfl rfl) ?_
  refine AO.nK [0, 3] ?_
  refine AW.seq ?_
  refine AW.seq ?_
  obtain ⟨b3, hq4, h⟩ := of_bind h
  refine AW.regM [(0, (eI64 p0)), (3, (.own n2 0 ([(0 : Int), (0 : Int), (2 : Int), (2 : Int), (1 : Int), (1 : Int), (1 : Int)] : List Int).length)), (10, (eBool b3))] [(n2, (.mem (.ar 1 (([(0 : Int), (0 : Int), (2 : Int), (2 : Int), (1 : Int), (1 : Int), (1 : Int)] : List Int).map eI64))))] ?_ ?_
  ·refine AO.c (Calm.move rfl rfl) ?_
   refine AO.c (x := eBool (decide (p0 < (0 : Int)))) (Calm.int rfl rfl rfl rfl) ?_
   refine AO.c (Calm.move rfl rfl) ?_
   rcases of_ite hq4 with ⟨hc5, hq4⟩ | ⟨hc5, hq4⟩
   ·refine AO.sF rfl rfl (bD (decide_eq_true hc5)) ?_
    refine AO.sF rfl rfl (bD (decide_eq_true hc5)) ?_
    refine AO.c (Calm.pickT rfl (bD (decide_eq_true hc5)) rfl) ?_
    cases hq4
    refine AO.nilE ⟨rfl, rfl⟩ ?_ ?_
    · exact ⟨rfl, rfl, rfl, trivial⟩
    · exact (Sub.refl _)
   ·refine AO.cG rfl rfl (bD (decide_eq_false hc5)) (Calm.move rfl rfl) ?_
    refine AO.cG (x := eBool (decide ((6 : Int) < p0))) rfl rfl (bD (decide_eq_false hc5)) (Calm.int rfl rfl rfl rfl) ?_
    refine AO.c (Calm.pickF rfl (bD (decide_eq_false hc5)) rfl) ?_
    cases hq4
    refine AO.nilE ⟨rfl, rfl⟩ ?_ ?_
    · exact ⟨rfl, rfl, rfl, trivial⟩
    · exact (Sub.refl _)
  ·rcases of_ite h with ⟨hc6, h⟩ | ⟨hc6, h⟩
   ·refine AW.condT' _ rfl hc6 ?_
    refine AW.sr ?_
    refine AO.c (Calm.assign rfl rfl) ?_
    refine AO.nH [2] (H' := []) (Sub.nil _) ?_
    refine AW.rK [2] ?_
    have hr := Option.some.inj h
    subst hr
    exact ⟨[(eI64 (-1 : Int))], ⟨rfl, rfl, trivial⟩, rfl⟩
   ·refine AW.condF' _ rfl hc6 ?_
    refine AW.sK [0, 3] ?_
    refine AW.sr ?_
    refine AO.c (Calm.move rfl rfl) ?_
    refine AO.c (Calm.move rfl rfl) ?_
    obtain ⟨hg7, h⟩ := of_guard h
    refine AO.c (Calm.idxO 0 rfl rfl rfl rfl hg7 Tryd.underlying53 sz3) ?_
    refine AO.c (Calm.load 0 rfl rfl rfl (At.cast (At.lidx p0 hg7.1 hg7.2 At.here) (by omega)) ag3 sz3) ?_
    obtain ⟨x8, ex8, h⟩ := of_bind h
    refine AO.c (Calm.assign rfl (congrArg (fun x => some (eI64 x)) (Option.some.inj ex8))) ?_
    refine AO.nH [2] (H' := []) (Sub.nil _) ?_
    refine AW.rK [2] ?_
    have hr := Option.some.inj h
    subst hr
    exact ⟨[(eI64 x8)], ⟨rfl, rfl, trivial⟩, rfl⟩
end Go.Avl.TE
/- bosket/bosketref04.Check; printed by avmain.py. -/
namespace Go.Avl.TE
open Go Go.RowKit Go.Proofs Go.Avl
set_option linter.unusedVariables false
set_option maxRecDepth 100000
set_option maxHeartbeats 4000000
attribute [local irreducible] AW AO AQ Spec SpecH Calm

def bosketref04_Check_c0 (k : Nat) (x3 : Int) : Option Int :=
  if x3 ≠ (1 : Int) then some ((5 : Int))
  else some ((0 : Int))
def bosketref04_Check_l1 (k : Nat) (p0 : (List S40)) : Nat → Int → Int → Option Int
  | 0, _, _ => none
  | j + 1, x5, x6 =>
    if x6 < (p0.length : Int) then if 0 ≤ x6 ∧ x6 < (p0.length : Int) then (bosketref04_Takes k ((lget p0 x6).f0)).bind fun t11 =>
    Option.bind (α := Bool) (if t11 < (0 : Int) then some (true)
    else if x5 < t11 then some (true)
    else if 0 ≤ x6 ∧ x6 < (p0.length : Int) then if 0 ≤ x6 ∧ x6 < (p0.length : Int) then some (((decide (((lget p0 x6).f0) = (1 : Int))) == (decide (((lget p0 x6).f1) = (Vector.replicate 4 (0 : Int))))))
    else none
    else none) fun b12 =>
    if b12 = true then some ((5 : Int))
    else (bosketref04_Check_l1 k p0 j) (w64 ((w64 (x5 - t11)) + (1 : Int))) (w64 (x6 + (1 : Int)))
    else none
    else bosketref04_Check_c0 k x5
def bosketref04_Check (k : Nat) (p0 : (List S40)) : Option Int :=
  if (400 : Int) < (p0.length : Int) then some ((6 : Int))
  else bosketref04_Check_l1 k p0 k (0 : Int) (0 : Int)
theorem bosketref04_Check_spec {k : Nat} {p0 : (List S40)} {r : Int} (h : bosketref04_Check k p0 = some r) : Spec Tryd.prog 6 [(.fz 5 (p0.map e40))] (eI64 r) := by
  rw [bosketref04_Check.eq_1] at h
  refine Spec.intro (res := [.tmp 2]) Tryd.func6 rfl rfl rfl (Nat.le_of_ble_eq_true rfl) ?_
  refine AW.sr ?_
  refine AO.c (Calm.assign rfl rfl) ?_
  refine AO.nK [0] ?_
  refine AW.seq ?_
  refine AW.sr ?_
  refine AO.c (Calm.move rfl rfl) ?_
  refine AO.c (Calm.lenL rfl rfl Tryd.underlying23) ?_
  refine AO.c (x := eBool (decide ((400 : Int) < (p0.length : Int)))) (Calm.int rfl rfl rfl rfl) ?_
  refine AO.nK [0, 8] ?_
  rcases of_ite h with ⟨hc2, h⟩ | ⟨hc2, h⟩
  ·refine AW.condP _ rfl hc2 ?_
   refine AW.sr ?_
   refine AO.c (Calm.assign rfl rfl) ?_
   refine AO.nK [2] ?_
   refine AW.rK [2] ?_
   have hr := Option.some.inj h
   subst hr
   exact ⟨[(eI64 (6 : Int))], ⟨rfl, rfl, trivial⟩, rfl⟩
  ·refine AW.condN _ rfl hc2 ?_
   refine AW.sK [0] ?_
   refine AW.sr ?_
   refine AO.c (Calm.assign rfl rfl) ?_
   refine AO.nK [0, 3] ?_
   refine AW.seq_mid (fun ρ H => ∃ (x3 : Int), ρ = [(3, (eI64 x3))] ∧ H = [] ∧ bosketref04_Check_c0 k x3 = some r) ?_ ?_
   ·refine AW.sr ?_
    refine AO.c (Calm.assign rfl rfl) ?_
    refine AO.nK [0, 3, 4] ?_
    refine AW.block ?_
    refine AW.wK [0, 3, 4] ?_
    refine AW.loop (fun kq ρ H => ∃ (x5 : Int) (x6 : Int), ρ = [(0, (.fz 5 (p0.map e40))), (3, (eI64 x5)), (4, (eI64 x6))] ∧ H = [] ∧ bosketref04_Check_l1 k p0 kq x5 x6 = some r) k ⟨(0 : Int), (0 : Int), rfl, rfl, h⟩ ?_
    rintro kq8 _ _ ⟨x5, x6, rfl, rfl, h⟩
    cases kq8 with
    | zero => rw [bosketref04_Check_l1.eq_1] at h; cases h
    | succ kq8 =>
    rw [bosketref04_Check_l1.eq_2] at h
    generalize hrec7 : bosketref04_Check_l1 k p0 kq8 = rec7 at h
    refine AW.seq ?_
    refine AW.sr ?_
    refine AO.c (Calm.move rfl rfl) ?_
    refine AO.c (Calm.move rfl rfl) ?_
    refine AO.c (Calm.lenL rfl rfl Tryd.underlying23) ?_
    refine AO.c (x := eBool (decide (x6 < (p0.length : Int)))) (Calm.int rfl rfl rfl rfl) ?_
    refine AO.nK [0, 3, 4, 12] ?_
    rcases of_ite h with ⟨hc9, h⟩ | ⟨hc9, h⟩
    ·refine AW.condP _ rfl hc9 ?_
     refine AW.sK [0, 3, 4] ?_
     refine AW.seq ?_
     refine AW.block ?_
     refine AW.sr ?_
     refine AO.c (Calm.move rfl rfl) ?_
     refine AO.c (Calm.move rfl rfl) ?_
     obtain ⟨hg10, h⟩ := of_guard h
     refine AO.c (Calm.idxL (f := e40) rfl rfl rfl hg10 Tryd.underlying23 sz40) ?_
     refine AO.c (Calm.fldRp rfl rfl Tryd.underlying40 rfl sz3 (At.cast (At.fld0 At.here) rfl)) ?_
     refine AO.c (Calm.loadRp rfl rfl ag3 sz3) ?_
     obtain ⟨t11, et11, h⟩ := of_bind h
     refine AO.callS [(eI64 ((lget p0 x6).f0))] (eI64 t11) 20 rfl (by decide) ok19 rfl rfl rfl ⟨rfl, rfl, trivial⟩ (bosketref04_Takes_spec et11) ?_
     refine AO.c (Calm.assign rfl rfl) ?_
     refine AO.nK [0, 3, 4, 5] ?_
     refine AW.seq ?_
     refine AW.seq ?_
     obtain ⟨b12, hq13, h⟩ := of_bind h
     refine AW.regQM (by rfl) (by decide +kernel) [(0, (.fz 5 (p0.map e40))), (3, (eI64 x5)), (4, (eI64 x6)), (5, (eI64 t11)), (43, (eBool b12))] ?_ ?_
     ·refine AQ.c (Calm.move rfl rfl) ?_
      refine AQ.c (x := eBool (decide (t11 < (0 : Int)))) (Calm.int rfl rfl rfl rfl) ?_
      refine AQ.c (Calm.move rfl rfl) ?_
      rcases of_ite hq13 with ⟨hc14, hq13⟩ | ⟨hc14, hq13⟩
      ·refine AQ.sF rfl rfl (bD (decide_eq_true hc14)) ?_
       refine AQ.sF rfl rfl (bD (decide_eq_true hc14)) ?_
       refine AQ.sF rfl rfl (bD (decide_eq_true hc14)) ?_
       refine AQ.c (Calm.pickT rfl (bD (decide_eq_true hc14)) rfl) ?_
       refine AQ.c (Calm.move rfl rfl) ?_
       refine AQ.sF rfl rfl rfl ?_
       refine AQ.sF rfl rfl rfl ?_
       refine AQ.sF rfl rfl rfl ?_
       refine AQ.sF rfl rfl rfl ?_
       refine AQ.sF rfl rfl rfl ?_
       refine AQ.sF rfl rfl rfl ?_
       refine AQ.sF rfl rfl rfl ?_
       refine AQ.sF rfl rfl rfl ?_
       refine AQ.sF rfl rfl rfl ?_
       refine AQ.sF rfl rfl rfl ?_
       refine AQ.sF rfl rfl rfl ?_
       refine AQ.sF rfl rfl rfl ?_
       refine AQ.sF rfl rfl rfl ?_
       refine AQ.sF rfl rfl rfl ?_
       refine AQ.c (Calm.pickT rfl rfl rfl) ?_
       cases hq13
       refine AQ.nilE rfl ?_
       exact ⟨rfl, rfl, rfl, rfl, rfl, trivial⟩
      ·refine AQ.cG rfl rfl (bD (decide_eq_false hc14)) (Calm.move rfl rfl) ?_
       refine AQ.cG rfl rfl (bD (decide_eq_false hc14)) (Calm.move rfl rfl) ?_
       refine AQ.cG (x := eBool (decide (x5 < t11))) rfl rfl (bD (decide_eq_false hc14)) (Calm.int rfl rfl rfl rfl) ?_
       refine AQ.c (Calm.pickF rfl (bD (decide_eq_false hc14)) rfl) ?_
       refine AQ.c (Calm.move rfl rfl) ?_
       rcases of_ite hq13 with ⟨hc15, hq13⟩ | ⟨hc15, hq13⟩
       ·refine AQ.sF rfl rfl (bD (decide_eq_true hc15)) ?_
        refine AQ.sF rfl rfl (bD (decide_eq_true hc15)) ?_
        refine AQ.sF rfl rfl (bD (decide_eq_true hc15)) ?_
        refine AQ.sF rfl rfl (bD (decide_eq_true hc15)) ?_
        refine AQ.sF rfl rfl (bD (decide_eq_true hc15)) ?_
        refine AQ.sF rfl rfl (bD (decide_eq_true hc15)) ?_
        refine AQ.sF rfl rfl (bD (decide_eq_true hc15)) ?_
        refine AQ.sF rfl rfl (bD (decide_eq_true hc15)) ?_
        refine AQ.sF rfl rfl (bD (decide_eq_true hc15)) ?_
        refine AQ.sF rfl rfl (bD (decide_eq_true hc15)) ?_
        refine AQ.sF rfl rfl (bD (decide_eq_true hc15)) ?_
        refine AQ.sF rfl rfl (bD (decide_eq_true hc15)) ?_
        refine AQ.sF rfl rfl (bD (decide_eq_true hc15)) ?_
        refine AQ.sF rfl rfl (bD (decide_eq_true hc15)) ?_
        refine AQ.c (Calm.pickT rfl (bD (decide_eq_true hc15)) rfl) ?_
        cases hq13
        refine AQ.nilE rfl ?_
        exact ⟨rfl, rfl, rfl, rfl, rfl, trivial⟩
       ·refine AQ.cG rfl rfl (bD (decide_eq_false hc15)) (Calm.move rfl rfl) ?_
        refine AQ.cG rfl rfl (bD (decide_eq_false hc15)) (Calm.move rfl rfl) ?_
        obtain ⟨hg16, hq13⟩ := of_guard hq13
        refine AQ.cG rfl rfl (bD (decide_eq_false hc15)) (Calm.idxL (f := e40) rfl rfl rfl hg16 Tryd.underlying23 sz40) ?_
        refine AQ.cG rfl rfl (bD (decide_eq_false hc15)) (Calm.fldRp rfl rfl Tryd.underlying40 rfl sz3 (At.cast (At.fld0 At.here) rfl)) ?_
        refine AQ.cG rfl rfl (bD (decide_eq_false hc15)) (Calm.loadRp rfl rfl ag3 sz3) ?_
        refine AQ.cG (x := eBool (decide (((lget p0 x6).f0) = (1 : Int)))) rfl rfl (bD (decide_eq_false hc15)) (Calm.int rfl rfl rfl rfl) ?_
        refine AQ.cG rfl rfl (bD (decide_eq_false hc15)) (Calm.move rfl rfl) ?_
        refine AQ.cG rfl rfl (bD (decide_eq_false hc15)) (Calm.move rfl rfl) ?_
        obtain ⟨hg17, hq13⟩ := of_guard hq13
        refine AQ.cG rfl rfl (bD (decide_eq_false hc15)) (Calm.idxL (f := e40) rfl rfl rfl hg17 Tryd.underlying23 sz40) ?_
        refine AQ.cG rfl rfl (bD (decide_eq_false hc15)) (Calm.fldRp rfl rfl Tryd.underlying40 rfl sz38 (At.cast (At.fldS (At.fld0 At.here)) rfl)) ?_
        refine AQ.cG rfl rfl (bD (decide_eq_false hc15)) (Calm.loadRp rfl rfl ag38 (by rw [sz38]; simp [AV.size])) ?_
        refine AQ.cG (x := .ar 1 ((Vector.replicate 4 (0 : Int)).toList.map eU64)) rfl rfl (bD (decide_eq_false hc15)) (Calm.buildAr (qs := []) rfl trivial Tryd.underlying38 sz36 zr38 lay38 .nil rfl) ?_
        refine AQ.cG (x := eBool (decide (((lget p0 x6).f1) = (Vector.replicate 4 (0 : Int))))) rfl rfl (bD (decide_eq_false hc15)) (Calm.eqA rfl rfl rfl eg38 (eqa38 ((lget p0 x6).f1) (Vector.replicate 4 (0 : Int))) (by decide)) ?_
        refine AQ.cG (x := eBool ((decide (((lget p0 x6).f0) = (1 : Int))) == (decide (((lget p0 x6).f1) = (Vector.replicate 4 (0 : Int)))))) rfl rfl (bD (decide_eq_false hc15)) (Calm.boolEq rfl rfl rfl Tryd.underlying4) ?_
        refine AQ.c (Calm.pickF rfl (bD (decide_eq_false hc15)) rfl) ?_
        cases hq13
        refine AQ.nilE rfl ?_
        exact ⟨rfl, rfl, rfl, rfl, rfl, trivial⟩
     ·rcases of_ite h with ⟨hc18, h⟩ | ⟨hc18, h⟩
      ·refine AW.condT' _ rfl hc18 ?_
       refine AW.sr ?_
       refine AO.c (Calm.assign rfl rfl) ?_
       refine AO.nK [2] ?_
       refine AW.rK [2] ?_
       have hr := Option.some.inj h
       subst hr
       exact ⟨[(eI64 (5 : Int))], ⟨rfl, rfl, trivial⟩, rfl⟩
      ·refine AW.condF' _ rfl hc18 ?_
       refine AW.sK [0, 3, 4, 5] ?_
       refine AW.reg ?_
       refine AO.c (Calm.move rfl rfl) ?_
       refine AO.c (Calm.move rfl rfl) ?_
       refine AO.c (x := eI64 (w64 (x5 - t11))) (Calm.int rfl rfl rfl rfl) ?_
       refine AO.c (x := eI64 (w64 ((w64 (x5 - t11)) + (1 : Int)))) (Calm.int rfl rfl rfl rfl) ?_
       refine AO.c (Calm.assign rfl rfl) ?_
       refine AO.nK [0, 3, 4] ?_
       refine AW.reg ?_
       refine AO.c (Calm.move rfl rfl) ?_
       refine AO.c (x := eI64 (w64 (x6 + (1 : Int)))) (Calm.int rfl rfl rfl rfl) ?_
       refine AO.c (Calm.assign rfl rfl) ?_
       refine AO.nK [0, 3, 4] ?_
       exact ⟨kq8, Nat.lt_succ_self _, (w64 ((w64 (x5 - t11)) + (1 : Int))), (w64 (x6 + (1 : Int))), rfl, rfl, by rw [hrec7]; exact h⟩
    ·refine AW.condN _ rfl hc9 ?_
     refine AW.eK [3] ?_
     exact ⟨x5, rfl, rfl, h⟩
   ·rintro _ _ ⟨x3, rfl, rfl, h⟩
    rw [bosketref04_Check_c0.eq_1] at h
    refine AW.seq ?_
    refine AW.sr ?_
    refine AO.c (Calm.move rfl rfl) ?_
    refine AO.c (x := eBool (decide (x3 ≠ (1 : Int)))) (Calm.int rfl rfl rfl rfl) ?_
    refine AO.nK [49] ?_
    rcases of_ite h with ⟨hc4, h⟩ | ⟨hc4, h⟩
    ·refine AW.condP _ rfl hc4 ?_
     refine AW.sr ?_
     refine AO.c (Calm.assign rfl rfl) ?_
     refine AO.nK [2] ?_
     refine AW.rK [2] ?_
     have hr := Option.some.inj h
     subst hr
     exact ⟨[(eI64 (5 : Int))], ⟨rfl, rfl, trivial⟩, rfl⟩
    ·refine AW.condN _ rfl hc4 ?_
     refine AW.sK [] ?_
     refine AW.sr ?_
     refine AO.c (Calm.assign rfl rfl) ?_
     refine AO.nK [2] ?_
     refine AW.rK [2] ?_
     have hr := Option.some.inj h
     subst hr
     exact ⟨[(eI64 (0 : Int))], ⟨rfl, rfl, trivial⟩, rfl⟩
end Go.Avl.TE
/- bosket/rex.Takes; printed by avmain.py. -/
namespace Go.Avl.TE
open Go Go.RowKit Go.Proofs Go.Avl
set_option linter.unusedVariables false
set_option maxRecDepth 100000
set_option maxHeartbeats 4000000
attribute [local irreducible] AW AO AQ Spec SpecH Calm

def rex_Takes_c0 (k : Nat) (b6 : Bool) : Option Int :=
  if b6 = true then some ((2 : Int))
  else some ((-1 : Int))
def rex_Takes_c1 (k : Nat) (p0 : Int) (b4 : Bool) : Option Int :=
  if b4 = true then some ((1 : Int))
  else if p0 = (2 : Int) then rex_Takes_c0 k (decide (p0 = (2 : Int)))
  else rex_Takes_c0 k (decide (p0 = (3 : Int)))
def rex_Takes_c2 (k : Nat) (p0 : Int) (b2 : Bool) : Option Int :=
  if b2 = true then some ((0 : Int))
  else if p0 = (4 : Int) then rex_Takes_c1 k p0 (decide (p0 = (4 : Int)))
  else if p0 = (5 : Int) then rex_Takes_c1 k p0 (decide (p0 = (5 : Int)))
  else rex_Takes_c1 k p0 (decide (p0 = (6 : Int)))
def rex_Takes (k : Nat) (p0 : Int) : Option Int :=
  if p0 = (0 : Int) then rex_Takes_c2 k p0 (decide (p0 = (0 : Int)))
  else rex_Takes_c2 k p0 (decide (p0 = (1 : Int)))
theorem rex_Takes_spec {k : Nat} {p0 : Int} {r : Int} (h : rex_Takes k p0 = some r) : Spec Tryd.prog 25 [(eI64 p0)] (eI64 r) := by
  rw [rex_Takes.eq_1] at h
  refine Spec.intro (res := [.tmp 2]) Tryd.func25 rfl rfl rfl (Nat.le_of_ble_eq_true rfl) ?_
  refine AW.sr ?_
  refine AO.c (Calm.assign rfl rfl) ?_
  refine AO.nK [0] ?_
  refine AW.seq ?_
  refine AW.sr ?_
  refine AO.c (Calm.move rfl rfl) ?_
  refine AO.nK [3] ?_
  refine AW.block ?_
  refine AW.seq_mid (fun ρ H => ∃ (b2 : Bool), ρ = [(3, (eI64 p0)), (4, (eBool b2))] ∧ H = [] ∧ rex_Takes_c2 k p0 b2 = some r) ?_ ?_
  ·refine AW.sr ?_
   refine AO.c (x := eBool (decide (p0 = (0 : Int)))) (Calm.int rfl rfl rfl rfl) ?_
   refine AO.c (Calm.assign rfl rfl) ?_
   refine AO.nK [3, 4] ?_
   rcases of_ite h with ⟨hc11, h⟩ | ⟨hc11, h⟩
   ·refine AW.condP _ rfl hc11 ?_
    refine AW.sK [3, 4] ?_
    exact ⟨decide (p0 = (0 : Int)), rfl, rfl, h⟩
   ·refine AW.condN _ rfl hc11 ?_
    refine AW.reg ?_
    refine AO.c (x := eBool (decide (p0 = (1 : Int)))) (Calm.int rfl rfl rfl rfl) ?_
    refine AO.c (Calm.assign rfl rfl) ?_
    refine AO.nK [3, 4] ?_
    exact ⟨decide (p0 = (1 : Int)), rfl, rfl, h⟩
  ·rintro _ _ ⟨b2, rfl, rfl, h⟩
   rw [rex_Takes_c2.eq_1] at h
   rcases of_ite h with ⟨hc3, h⟩ | ⟨hc3, h⟩
   ·refine AW.condT' _ rfl hc3 ?_
    refine AW.sr ?_
    refine AO.c (Calm.assign rfl rfl) ?_
    refine AO.nK [2] ?_
    refine AW.rK [2] ?_
    have hr := Option.some.inj h
    subst hr
    exact ⟨[(eI64 (0 : Int))], ⟨rfl, rfl, trivial⟩, rfl⟩
   ·refine AW.condF' _ rfl hc3 ?_
    refine AW.seq_mid (fun ρ H => ∃ (b4 : Bool), ρ = [(3, (eI64 p0)), (7, (eBool b4))] ∧ H = [] ∧ rex_Takes_c1 k p0 b4 = some r) ?_ ?_
    ·refine AW.sr ?_
     refine AO.c (x := eBool (decide (p0 = (4 : Int)))) (Calm.int rfl rfl rfl rfl) ?_
     refine AO.c (Calm.assign rfl rfl) ?_
     refine AO.nK [3, 7] ?_
     rcases of_ite h with ⟨hc9, h⟩ | ⟨hc9, h⟩
     ·refine AW.condP _ rfl hc9 ?_
      refine AW.sK [3, 7] ?_
      exact ⟨decide (p0 = (4 : Int)), rfl, rfl, h⟩
     ·refine AW.condN _ rfl hc9 ?_
      refine AW.sr ?_
      refine AO.c (x := eBool (decide (p0 = (5 : Int)))) (Calm.int rfl rfl rfl rfl) ?_
      refine AO.c (Calm.assign rfl rfl) ?_
      refine AO.nK [3, 7] ?_
      rcases of_ite h with ⟨hc10, h⟩ | ⟨hc10, h⟩
      ·refine AW.condP _ rfl hc10 ?_
       refine AW.sK [3, 7] ?_
       exact ⟨decide (p0 = (5 : Int)), rfl, rfl, h⟩
      ·refine AW.condN _ rfl hc10 ?_
       refine AW.reg ?_
       refine AO.c (x := eBool (decide (p0 = (6 : Int)))) (Calm.int rfl rfl rfl rfl) ?_
       refine AO.c (Calm.assign rfl rfl) ?_
       refine AO.nK [3, 7] ?_
       exact ⟨decide (p0 = (6 : Int)), rfl, rfl, h⟩
    ·rintro _ _ ⟨b4, rfl, rfl, h⟩
     rw [rex_Takes_c1.eq_1] at h
     rcases of_ite h with ⟨hc5, h⟩ | ⟨hc5, h⟩
     ·refine AW.condT' _ rfl hc5 ?_
      refine AW.sr ?_
      refine AO.c (Calm.assign rfl rfl) ?_
      refine AO.nK [2] ?_
      refine AW.rK [2] ?_
      have hr := Option.some.inj h
      subst hr
      exact ⟨[(eI64 (1 : Int))], ⟨rfl, rfl, trivial⟩, rfl⟩
     ·refine AW.condF' _ rfl hc5 ?_
      refine AW.seq_mid (fun ρ H => ∃ (b6 : Bool), ρ = [(11, (eBool b6))] ∧ H = [] ∧ rex_Takes_c0 k b6 = some r) ?_ ?_
      ·refine AW.sr ?_
       refine AO.c (x := eBool (decide (p0 = (2 : Int)))) (Calm.int rfl rfl rfl rfl) ?_
       refine AO.c (Calm.assign rfl rfl) ?_
       refine AO.nK [3, 11] ?_
       rcases of_ite h with ⟨hc8, h⟩ | ⟨hc8, h⟩
       ·refine AW.condP _ rfl hc8 ?_
        refine AW.sK [11] ?_
        exact ⟨decide (p0 = (2 : Int)), rfl, rfl, h⟩
       ·refine AW.condN _ rfl hc8 ?_
        refine AW.reg ?_
        refine AO.c (x := eBool (decide (p0 = (3 : Int)))) (Calm.int rfl rfl rfl rfl) ?_
        refine AO.c (Calm.assign rfl rfl) ?_
        refine AO.nK [11] ?_
        exact ⟨decide (p0 = (3 : Int)), rfl, rfl, h⟩
      ·rintro _ _ ⟨b6, rfl, rfl, h⟩
       rw [rex_Takes_c0.eq_1] at h
       rcases of_ite h with ⟨hc7, h⟩ | ⟨hc7, h⟩
       ·refine AW.condT' _ rfl hc7 ?_
        refine AW.sr ?_
        refine AO.c (Calm.assign rfl rfl) ?_
        refine AO.nK [2] ?_
        refine AW.rK [2] ?_
        have hr := Option.some.inj h
        subst hr
        exact ⟨[(eI64 (2 : Int))], ⟨rfl, rfl, trivial⟩, rfl⟩
       ·refine AW.condF' _ rfl hc7 ?_
        refine AW.sK [] ?_
        refine AW.sr ?_
        refine AO.c (Calm.assign rfl rfl) ?_
        refine AO.nK [2] ?_
        refine AW.rK [2] ?_
        have hr := Option.some.inj h
        subst hr
        exact ⟨[(eI64 (-1 : Int))], ⟨rfl, rfl, trivial⟩, rfl⟩
end Go.Avl.TE
/- bosket/byteset.Empty; printed by avmain.py. -/
namespace Go.Avl.TE
open Go Go.RowKit Go.Proofs Go.Avl
set_option linter.unusedVariables false
set_option maxRecDepth 100000
set_option maxHeartbeats 4000000
attribute [local irreducible] AW AO AQ Spec SpecH Calm

def byteset_Empty (k : Nat) (p0 : (Vector Int 4)) : Option Bool :=
  some (decide (p0 = (Vector.replicate 4 (0 : Int))))
theorem byteset_Empty_spec {k : Nat} {p0 : (Vector Int 4)} {r : Bool} (h : byteset_Empty k p0 = some r) : Spec Tryd.prog 26 [(.ar 1 (p0.toList.map eU64))] (eBool r) := by
  rw [byteset_Empty.eq_1] at h
  refine Spec.intro (res := [.tmp 2]) Tryd.func26 rfl rfl rfl (Nat.le_of_ble_eq_true rfl) ?_
  refine AW.sr ?_
  refine AO.box rfl 1 rfl (by decide) rfl rfl rfl fun n2 => ?_
  refine AO.c (Calm.assign rfl rfl) ?_
  refine AO.nK [1] ?_
  refine AW.sr ?_
  refine AO.c (Calm.load 0 rfl rfl rfl (At.cast At.here rfl) ag38 (by rw [sz38]; simp [AV.size])) ?_
  refine AO.c (x := .ar 1 ((Vector.replicate 4 (0 : Int)).toList.map eU64)) (Calm.buildAr (qs := []) rfl trivial Tryd.underlying38 sz36 zr38 lay38 .nil rfl) ?_
  refine AO.c (x := eBool (decide (p0 = (Vector.replicate 4 (0 : Int))))) (Calm.eqA rfl rfl rfl eg38 (eqa38 p0 (Vector.replicate 4 (0 : Int))) (by decide)) ?_
  refine AO.c (Calm.assign rfl rfl) ?_
  refine AO.nH [2] (H' := []) (Sub.nil _) ?_
  refine AW.rK [2] ?_
  have hr := Option.some.inj h
  subst hr
  exact ⟨[(eBool (decide (p0 = (Vector.replicate 4 (0 : Int)))))], ⟨rfl, rfl, trivial⟩, rfl⟩
end Go.Avl.TE
/- bosket/rex.Check; printed by avmain.py. -/
namespace Go.Avl.TE
open Go Go.RowKit Go.Proofs Go.Avl
set_option linter.unusedVariables false
set_option maxRecDepth 100000
set_option maxHeartbeats 4000000
attribute [local irreducible] AW AO AQ Spec SpecH Calm

def rex_Check_c0 (k : Nat) (x3 : Int) : Option Int :=
  if x3 ≠ (1 : Int) then some ((5 : Int))
  else some ((0 : Int))
def rex_Check_l1 (k : Nat) (p0 : (List S40)) : Nat → Int → Int → Option Int
  | 0, _, _ => none
  | j + 1, x5, x6 =>
    if x6 < (p0.length : Int) then if 0 ≤ x6 ∧ x6 < (p0.length : Int) then (rex_Takes k ((lget p0 x6).f0)).bind fun t12 =>
    Option.bind (α := Bool) (if t12 < (0 : Int) then some (true)
    else if x5 < t12 then some (true)
    else (byteset_Empty k ((lget p0 x6).f1)).bind fun t17 =>
    some (((decide (((lget p0 x6).f0) = (1 : Int))) == t17))) fun b13 =>
    if b13 = true then some ((5 : Int))
    else (rex_Check_l1 k p0 j) (w64 (x5 + (w64 ((1 : Int) - t12)))) (w64 (x6 + (1 : Int)))
    else none
    else rex_Check_c0 k x5
def rex_Check (k : Nat) (p0 : (List S40)) : Option Int :=
  if (400 : Int) < (p0.length : Int) then some ((6 : Int))
  else rex_Check_l1 k p0 k (0 : Int) (0 : Int)
theorem rex_Check_spec {k : Nat} {p0 : (List S40)} {r : Int} (h : rex_Check k p0 = some r) : Spec Tryd.prog 12 [(.fz 5 (p0.map e40))] (eI64 r) := by
  rw [rex_Check.eq_1] at h
  refine Spec.intro (res := [.tmp 2]) Tryd.func12 rfl rfl rfl (Nat.le_of_ble_eq_true rfl) ?_
  refine AW.sr ?_
  refine AO.c (Calm.assign rfl rfl) ?_
  refine AO.nK [0] ?_
  refine AW.seq ?_
  refine AW.sr ?_
  refine AO.c (Calm.move rfl rfl) ?_
  refine AO.c (Calm.lenL rfl rfl Tryd.underlying23) ?_
  refine AO.c (x := eBool (decide ((400 : Int) < (p0.length : Int)))) (Calm.int rfl rfl rfl rfl) ?_
  refine AO.nK [0, 9] ?_
  rcases of_ite h with ⟨hc2, h⟩ | ⟨hc2, h⟩
  ·refine AW.condP _ rfl hc2 ?_
   refine AW.sr ?_
   refine AO.c (Calm.assign rfl rfl) ?_
   refine AO.nK [2] ?_
   refine AW.rK [2] ?_
   have hr := Option.some.inj h
   subst hr
   exact ⟨[(eI64 (6 : Int))], ⟨rfl, rfl, trivial⟩, rfl⟩
  ·refine AW.condN _ rfl hc2 ?_
   refine AW.sK [0] ?_
   refine AW.sr ?_
   refine AO.c (Calm.assign rfl rfl) ?_
   refine AO.nK [0, 3] ?_
   refine AW.seq_mid (fun ρ H => ∃ (x3 : Int), ρ = [(3, (eI64 x3))] ∧ H = [] ∧ rex_Check_c0 k x3 = some r) ?_ ?_
   ·refine AW.sr ?_
    refine AO.c (Calm.move rfl rfl) ?_
    refine AO.c (Calm.lenL rfl rfl Tryd.underlying23) ?_
    refine AO.c (Calm.move rfl rfl) ?_
    refine AO.nK [3, 10, 11, 12] ?_
    refine AW.block ?_
    refine AW.wK [3, 10, 11, 12] ?_
    refine AW.loop (fun kq ρ H => ∃ (x5 : Int) (x6 : Int), ρ = [(3, (eI64 x5)), (10, (.fz 5 (p0.map e40))), (11, (eI64 (p0.length : Int))), (12, (eI64 x6))] ∧ H = [] ∧ rex_Check_l1 k p0 kq x5 x6 = some r) k ⟨(0 : Int), (0 : Int), rfl, rfl, h⟩ ?_
    rintro kq8 _ _ ⟨x5, x6, rfl, rfl, h⟩
    cases kq8 with
    | zero => rw [rex_Check_l1.eq_1] at h; cases h
    | succ kq8 =>
    rw [rex_Check_l1.eq_2] at h
    generalize hrec7 : rex_Check_l1 k p0 kq8 = rec7 at h
    refine AW.sr ?_
    refine AO.c (x := eBool (decide (x6 < (p0.length : Int)))) (Calm.int rfl rfl rfl rfl) ?_
    refine AO.nK [3, 10, 11, 12, 13] ?_
    refine AW.seq ?_
    rcases of_ite h with ⟨hc9, h⟩ | ⟨hc9, h⟩
    ·refine AW.condP _ rfl hc9 ?_
     refine AW.sK [3, 10, 11, 12] ?_
     refine AW.seq ?_
     refine AW.block ?_
     refine AW.sr ?_
     obtain ⟨hg10, h⟩ := of_guard h
     refine AO.c (Calm.idxL (f := e40) rfl rfl rfl hg10 Tryd.underlying23 sz40) ?_
     refine AO.c (Calm.loadRp rfl rfl ag40 sz40) ?_
     refine AO.alloc rfl 5 rfl (by decide) rfl zr40 lay40 fun n11 => ?_
     refine AO.store (X' := (e40 (lget p0 x6))) 0 rfl rfl rfl rfl rfl rfl (Put.cast Put.here rfl) rfl rfl sz40 rfl ?_
     refine AO.nK [3, 5, 10, 11, 12] ?_
     refine AW.sr ?_
     refine AO.c (x := .ptr n11 0) (Calm.fldPtr rfl rfl Tryd.underlying40 rfl sz3 _ rfl) ?_
     refine AO.c (Calm.load 0 rfl rfl rfl (At.cast (At.fld0 At.here) rfl) ag3 sz3) ?_
     obtain ⟨t12, et12, h⟩ := of_bind h
     refine AO.callS [(eI64 ((lget p0 x6).f0))] (eI64 t12) 18 rfl (by decide) ok25 rfl rfl rfl ⟨rfl, rfl, trivial⟩ (rex_Takes_spec et12) ?_
     refine AO.c (Calm.assign rfl rfl) ?_
     refine AO.nK [3, 5, 6, 10, 11, 12] ?_
     refine AW.seq ?_
     refine AW.seq ?_
     obtain ⟨b13, hq14, h⟩ := of_bind h
     refine AW.regQM (by rfl) (by decide +kernel) [(3, (eI64 x5)), (6, (eI64 t12)), (10, (.fz 5 (p0.map e40))), (11, (eI64 (p0.length : Int))), (12, (eI64 x6)), (34, (eBool b13))] ?_ ?_
     ·refine AQ.c (Calm.move rfl rfl) ?_
      refine AQ.c (x := eBool (decide (t12 < (0 : Int)))) (Calm.int rfl rfl rfl rfl) ?_
      refine AQ.c (Calm.move rfl rfl) ?_
      rcases of_ite hq14 with ⟨hc15, hq14⟩ | ⟨hc15, hq14⟩
      ·refine AQ.sF rfl rfl (bD (decide_eq_true hc15)) ?_
       refine AQ.sF rfl rfl (bD (decide_eq_true hc15)) ?_
       refine AQ.sF rfl rfl (bD (decide_eq_true hc15)) ?_
       refine AQ.c (Calm.pickT rfl (bD (decide_eq_true hc15)) rfl) ?_
       refine AQ.c (Calm.move rfl rfl) ?_
       refine AQ.sF rfl rfl rfl ?_
       refine AQ.sF rfl rfl rfl ?_
       refine AQ.sF rfl rfl rfl ?_
       refine AQ.sF rfl rfl rfl ?_
       refine AQ.sF rfl rfl rfl ?_
       refine AQ.sF rfl rfl rfl ?_
       refine AQ.sF rfl rfl rfl ?_
       refine AQ.c (Calm.pickT rfl rfl rfl) ?_
       cases hq14
       refine AQ.nilE rfl ?_
       exact ⟨rfl, rfl, rfl, rfl, rfl, rfl, trivial⟩
      ·refine AQ.cG rfl rfl (bD (decide_eq_false hc15)) (Calm.move rfl rfl) ?_
       refine AQ.cG rfl rfl (bD (decide_eq_false hc15)) (Calm.move rfl rfl) ?_
       refine AQ.cG (x := eBool (decide (x5 < t12))) rfl rfl (bD (decide_eq_false hc15)) (Calm.int rfl rfl rfl rfl) ?_
       refine AQ.c (Calm.pickF rfl (bD (decide_eq_false hc15)) rfl) ?_
       refine AQ.c (Calm.move rfl rfl) ?_
       rcases of_ite hq14 with ⟨hc16, hq14⟩ | ⟨hc16, hq14⟩
       ·refine AQ.sF rfl rfl (bD (decide_eq_true hc16)) ?_
        refine AQ.sF rfl rfl (bD (decide_eq_true hc16)) ?_
        refine AQ.sF rfl rfl (bD (decide_eq_true hc16)) ?_
        refine AQ.sF rfl rfl (bD (decide_eq_true hc16)) ?_
        refine AQ.sF rfl rfl (bD (decide_eq_true hc16)) ?_
        refine AQ.sF rfl rfl (bD (decide_eq_true hc16)) ?_
        refine AQ.sF rfl rfl (bD (decide_eq_true hc16)) ?_
        refine AQ.c (Calm.pickT rfl (bD (decide_eq_true hc16)) rfl) ?_
        cases hq14
        refine AQ.nilE rfl ?_
        exact ⟨rfl, rfl, rfl, rfl, rfl, rfl, trivial⟩
       ·refine AQ.cG (x := .ptr n11 0) rfl rfl (bD (decide_eq_false hc16)) (Calm.fldPtr rfl rfl Tryd.underlying40 rfl sz3 _ rfl) ?_
        refine AQ.cG rfl rfl (bD (decide_eq_false hc16)) (Calm.load 0 rfl rfl rfl (At.cast (At.fld0 At.here) rfl) ag3 sz3) ?_
        refine AQ.cG (x := eBool (decide (((lget p0 x6).f0) = (1 : Int)))) rfl rfl (bD (decide_eq_false hc16)) (Calm.int rfl rfl rfl rfl) ?_
        refine AQ.cG (x := .ptr n11 1) rfl rfl (bD (decide_eq_false hc16)) (Calm.fldPtr rfl rfl Tryd.underlying40 rfl sz38 _ rfl) ?_
        refine AQ.cG rfl rfl (bD (decide_eq_false hc16)) (Calm.load 0 rfl rfl rfl (At.cast (At.fldS (At.fld0 At.here)) rfl) ag38 (by rw [sz38]; simp [AV.size])) ?_
        obtain ⟨t17, et17, hq14⟩ := of_bind hq14
        refine AQ.cG rfl rfl (bD (decide_eq_false hc16)) (Calm.call (args := [(.ar 1 (((lget p0 x6).f1).toList.map eU64))]) rfl rfl ok26 ⟨rfl, rfl, trivial⟩ rfl (byteset_Empty_spec et17)) ?_
        refine AQ.cG (x := eBool ((decide (((lget p0 x6).f0) = (1 : Int))) == t17)) rfl rfl (bD (decide_eq_false hc16)) (Calm.boolEq rfl rfl rfl Tryd.underlying4) ?_
        refine AQ.c (Calm.pickF rfl (bD (decide_eq_false hc16)) rfl) ?_
        cases hq14
        refine AQ.nilE rfl ?_
        exact ⟨rfl, rfl, rfl, rfl, rfl, rfl, trivial⟩
     ·rcases of_ite h with ⟨hc18, h⟩ | ⟨hc18, h⟩
      ·refine AW.condT' _ rfl hc18 ?_
       refine AW.sr ?_
       refine AO.c (Calm.assign rfl rfl) ?_
       refine AO.nH [2] (H' := []) (Sub.nil _) ?_
       refine AW.rK [2] ?_
       have hr := Option.some.inj h
       subst hr
       exact ⟨[(eI64 (5 : Int))], ⟨rfl, rfl, trivial⟩, rfl⟩
      ·refine AW.condF' _ rfl hc18 ?_
       refine AW.sH [3, 6, 10, 11, 12] (H' := []) (Sub.nil _) ?_
       refine AW.reg ?_
       refine AO.c (Calm.move rfl rfl) ?_
       refine AO.c (Calm.move rfl rfl) ?_
       refine AO.c (x := eI64 (w64 ((1 : Int) - t12))) (Calm.int rfl rfl rfl rfl) ?_
       refine AO.c (x := eI64 (w64 (x5 + (w64 ((1 : Int) - t12))))) (Calm.int rfl rfl rfl rfl) ?_
       refine AO.c (Calm.assign rfl rfl) ?_
       refine AO.nK [3, 10, 11, 12] ?_
       refine AW.reg ?_
       refine AO.c (x := eI64 (w64 (x6 + (1 : Int)))) (Calm.int rfl rfl rfl rfl) ?_
       refine AO.c (Calm.move rfl rfl) ?_
       refine AO.nK [3, 10, 11, 12] ?_
       exact ⟨kq8, Nat.lt_succ_self _, (w64 (x5 + (w64 ((1 : Int) - t12)))), (w64 (x6 + (1 : Int))), rfl, rfl, by rw [hrec7]; exact h⟩
    ·refine AW.condN _ rfl hc9 ?_
     refine AW.eK [3] ?_
     exact ⟨x5, rfl, rfl, h⟩
   ·rintro _ _ ⟨x3, rfl, rfl, h⟩
    rw [rex_Check_c0.eq_1] at h
    refine AW.seq ?_
    refine AW.sr ?_
    refine AO.c (Calm.move rfl rfl) ?_
    refine AO.c (x := eBool (decide (x3 ≠ (1 : Int)))) (Calm.int rfl rfl rfl rfl) ?_
    refine AO.nK [41] ?_
    rcases of_ite h with ⟨hc4, h⟩ | ⟨hc4, h⟩
    ·refine AW.condP _ rfl hc4 ?_
     refine AW.sr ?_
     refine AO.c (Calm.assign rfl rfl) ?_
     refine AO.nK [2] ?_
     refine AW.rK [2] ?_
     have hr := Option.some.inj h
     subst hr
     exact ⟨[(eI64 (5 : Int))], ⟨rfl, rfl, trivial⟩, rfl⟩
    ·refine AW.condN _ rfl hc4 ?_
     refine AW.sK [] ?_
     refine AW.sr ?_
     refine AO.c (Calm.assign rfl rfl) ?_
     refine AO.nK [2] ?_
     refine AW.rK [2] ?_
     have hr := Option.some.inj h
     subst hr
     exact ⟨[(eI64 (0 : Int))], ⟨rfl, rfl, trivial⟩, rfl⟩
end Go.Avl.TE
/- bosket/bosketref04.Start; printed by avmain.py. -/
namespace Go.Avl.TE
open Go Go.RowKit Go.Proofs Go.Avl
set_option linter.unusedVariables false
set_option maxRecDepth 100000
set_option maxHeartbeats 4000000
attribute [local irreducible] AW AO AQ Spec SpecH Calm

def bosketref04_Start_c0 (k : Nat) : Option Int :=
  some ((0 : Int))
def bosketref04_Start_l1 (k : Nat) (p0 : (List S40)) : Nat → Int → Int → Option Int
  | 0, _, _ => none
  | j + 1, x3, x4 =>
    if (0 : Int) ≤ x4 then if 0 ≤ x4 ∧ x4 < (p0.length : Int) then (bosketref04_Takes k ((lget p0 x4).f0)).bind fun t9 =>
    if (w64 ((w64 (x3 - (1 : Int))) + t9)) = (0 : Int) then some (x4)
    else (bosketref04_Start_l1 k p0 j) (w64 ((w64 (x3 - (1 : Int))) + t9)) (w64 (x4 - (1 : Int)))
    else none
    else bosketref04_Start_c0 k
def bosketref04_Start (k : Nat) (p0 : (List S40)) (p1 : Int) : Option Int :=
  bosketref04_Start_l1 k p0 k (1 : Int) p1
theorem bosketref04_Start_spec {k : Nat} {p0 : (List S40)} {p1 : Int} {r : Int} (h : bosketref04_Start k p0 p1 = some r) : Spec Tryd.prog 17 [(.fz 5 (p0.map e40)), (eI64 p1)] (eI64 r) := by
  rw [bosketref04_Start.eq_1] at h
  refine Spec.intro (res := [.tmp 4]) Tryd.func17 rfl rfl rfl (Nat.le_of_ble_eq_true rfl) ?_
  refine AW.sr ?_
  refine AO.c (Calm.assign rfl rfl) ?_
  refine AO.nK [0, 1] ?_
  refine AW.sr ?_
  refine AO.c (Calm.assign rfl rfl) ?_
  refine AO.nK [0, 1, 5] ?_
  refine AW.seq_mid (fun ρ H => ρ = [] ∧ H = [] ∧ bosketref04_Start_c0 k = some r) ?_ ?_
  ·refine AW.sr ?_
   refine AO.c (Calm.move rfl rfl) ?_
   refine AO.c (Calm.assign rfl rfl) ?_
   refine AO.nK [0, 5, 6] ?_
   refine AW.block ?_
   refine AW.wK [0, 5, 6] ?_
   refine AW.loop (fun kq ρ H => ∃ (x3 : Int) (x4 : Int), ρ = [(0, (.fz 5 (p0.map e40))), (5, (eI64 x3)), (6, (eI64 x4))] ∧ H = [] ∧ bosketref04_Start_l1 k p0 kq x3 x4 = some r) k ⟨(1 : Int), p1, rfl, rfl, h⟩ ?_
   rintro kq6 _ _ ⟨x3, x4, rfl, rfl, h⟩
   cases kq6 with
   | zero => rw [bosketref04_Start_l1.eq_1] at h; cases h
   | succ kq6 =>
   rw [bosketref04_Start_l1.eq_2] at h
   generalize hrec5 : bosketref04_Start_l1 k p0 kq6 = rec5 at h
   refine AW.seq ?_
   refine AW.sr ?_
   refine AO.c (Calm.move rfl rfl) ?_
   refine AO.c (x := eBool (decide ((0 : Int) ≤ x4))) (Calm.int rfl rfl rfl rfl) ?_
   refine AO.nK [0, 5, 6, 9] ?_
   rcases of_ite h with ⟨hc7, h⟩ | ⟨hc7, h⟩
   ·refine AW.condP _ rfl hc7 ?_
    refine AW.sK [0, 5, 6] ?_
    refine AW.seq ?_
    refine AW.block ?_
    refine AW.sr ?_
    refine AO.c (Calm.move rfl rfl) ?_
    refine AO.c (x := eI64 (w64 (x3 - (1 : Int)))) (Calm.int rfl rfl rfl rfl) ?_
    refine AO.c (Calm.move rfl rfl) ?_
    refine AO.c (Calm.move rfl rfl) ?_
    obtain ⟨hg8, h⟩ := of_guard h
    refine AO.c (Calm.idxL (f := e40) rfl rfl rfl hg8 Tryd.underlying23 sz40) ?_
    refine AO.c (Calm.fldRp rfl rfl Tryd.underlying40 rfl sz3 (At.cast (At.fld0 At.here) rfl)) ?_
    refine AO.c (Calm.loadRp rfl rfl ag3 sz3) ?_
    obtain ⟨t9, et9, h⟩ := of_bind h
    refine AO.callS [(eI64 ((lget p0 x4).f0))] (eI64 t9) 19 rfl (by decide) ok19 rfl rfl rfl ⟨rfl, rfl, trivial⟩ (bosketref04_Takes_spec et9) ?_
    refine AO.c (x := eI64 (w64 ((w64 (x3 - (1 : Int))) + t9))) (Calm.int rfl rfl rfl rfl) ?_
    refine AO.c (Calm.assign rfl rfl) ?_
    refine AO.nK [0, 5, 6] ?_
    refine AW.sr ?_
    refine AO.c (Calm.move rfl rfl) ?_
    refine AO.c (x := eBool (decide ((w64 ((w64 (x3 - (1 : Int))) + t9)) = (0 : Int)))) (Calm.int rfl rfl rfl rfl) ?_
    refine AO.nK [0, 5, 6, 22] ?_
    rcases of_ite h with ⟨hc10, h⟩ | ⟨hc10, h⟩
    ·refine AW.condP _ rfl hc10 ?_
     refine AW.sr ?_
     refine AO.c (Calm.move rfl rfl) ?_
     refine AO.c (Calm.assign rfl rfl) ?_
     refine AO.nK [4] ?_
     refine AW.rK [4] ?_
     have hr := Option.some.inj h
     subst hr
     exact ⟨[(eI64 x4)], ⟨rfl, rfl, trivial⟩, rfl⟩
    ·refine AW.condN _ rfl hc10 ?_
     refine AW.sK [0, 5, 6] ?_
     refine AW.reg ?_
     refine AO.c (Calm.move rfl rfl) ?_
     refine AO.c (x := eI64 (w64 (x4 - (1 : Int)))) (Calm.int rfl rfl rfl rfl) ?_
     refine AO.c (Calm.assign rfl rfl) ?_
     refine AO.nK [0, 5, 6] ?_
     exact ⟨kq6, Nat.lt_succ_self _, (w64 ((w64 (x3 - (1 : Int))) + t9)), (w64 (x4 - (1 : Int))), rfl, rfl, by rw [hrec5]; exact h⟩
   ·refine AW.condN _ rfl hc7 ?_
    refine AW.eK [] ?_
    exact ⟨rfl, rfl, h⟩
  ·rintro _ _ ⟨rfl, rfl, h⟩
   rw [bosketref04_Start_c0.eq_1] at h
   refine AW.sr ?_
   refine AO.c (Calm.assign rfl rfl) ?_
   refine AO.nK [4] ?_
   refine AW.rK [4] ?_
   have hr := Option.some.inj h
   subst hr
   exact ⟨[(eI64 (0 : Int))], ⟨rfl, rfl, trivial⟩, rfl⟩
end Go.Avl.TE
/- bosket/bosketref04.Parts; printed by avmain.py. -/
namespace Go.Avl.TE
open Go Go.RowKit Go.Proofs Go.Avl
set_option linter.unusedVariables false
set_option maxRecDepth 100000
set_option maxHeartbeats 4000000
attribute [local irreducible] AW AO AQ Spec SpecH Calm

def bosketref04_Parts_c0 (k : Nat) (x3 : (List (List S40))) : Option (List (List S40)) :=
  some (x3)
def bosketref04_Parts_l1 (k : Nat) (p0 : (List S40)) : Nat → (List (List S40)) → Int → Int → Option (List (List S40))
  | 0, _, _, _ => none
  | j + 1, x7, x8, x9 =>
    if (0 : Int) < x9 then (bosketref04_Start k p0 (w64 (x8 - (1 : Int)))).bind fun t13 =>
    if 0 ≤ t13 ∧ t13 ≤ x8 ∧ x8 ≤ (p0.length : Int) then if (([(lcut p0 t13 x8)] : List (List S40)) ++ x7).length * 24 ≤ 140737488355328 then (bosketref04_Parts_l1 k p0 j) (([(lcut p0 t13 x8)] : List (List S40)) ++ x7) t13 (w64 (x9 - (1 : Int)))
    else none
    else none
    else bosketref04_Parts_c0 k x7
def bosketref04_Parts (k : Nat) (p0 : (List S40)) : Option (List (List S40)) :=
  if 0 ≤ (w64 ((p0.length : Int) - (1 : Int))) ∧ (w64 ((p0.length : Int) - (1 : Int))) < (p0.length : Int) then (bosketref04_Takes k ((lget p0 (w64 ((p0.length : Int) - (1 : Int)))).f0)).bind fun t5 =>
  bosketref04_Parts_l1 k p0 k ([] : List (List S40)) (w64 ((p0.length : Int) - (1 : Int))) t5
  else none
theorem bosketref04_Parts_spec {k : Nat} {p0 : (List S40)} {r : (List (List S40))} (h : bosketref04_Parts k p0 = some r) : Spec Tryd.prog 15 [(.fz 5 (p0.map e40))] (e41 r) := by
  rw [bosketref04_Parts.eq_1] at h
  refine Spec.intro (res := [.tmp 2]) Tryd.func15 rfl rfl rfl (Nat.le_of_ble_eq_true rfl) ?_
  refine AW.sr ?_
  refine AO.c (Calm.assign rfl rfl) ?_
  refine AO.nK [0] ?_
  refine AW.sr ?_
  refine AO.c (Calm.move rfl rfl) ?_
  refine AO.c (Calm.lenL rfl rfl Tryd.underlying23) ?_
  refine AO.c (x := eI64 (w64 ((p0.length : Int) - (1 : Int)))) (Calm.int rfl rfl rfl rfl) ?_
  refine AO.c (Calm.assign rfl rfl) ?_
  refine AO.nK [0, 3] ?_
  refine AW.sr ?_
  refine AO.c (Calm.assign rfl rfl) ?_
  refine AO.nK [0, 3, 4] ?_
  refine AW.sr ?_
  refine AO.c (Calm.move rfl rfl) ?_
  refine AO.c (Calm.assign rfl rfl) ?_
  refine AO.nK [0, 3, 4, 5] ?_
  refine AW.seq_mid (fun ρ H => ∃ (n2 : Nat) (x3 : (List (List S40))), ρ = [(4, (.own n2 0 x3.length))] ∧ H = [(n2, (.mem (.ar 1 (x3.map e23))))] ∧ bosketref04_Parts_c0 k x3 = some r) ?_ ?_
  ·refine AW.sr ?_
   refine AO.c (Calm.move rfl rfl) ?_
   refine AO.c (Calm.move rfl rfl) ?_
   obtain ⟨hg4, h⟩ := of_guard h
   refine AO.c (Calm.idxL (f := e40) rfl rfl rfl hg4 Tryd.underlying23 sz40) ?_
   refine AO.c (Calm.fldRp rfl rfl Tryd.underlying40 rfl sz3 (At.cast (At.fld0 At.here) rfl)) ?_
   refine AO.c (Calm.loadRp rfl rfl ag3 sz3) ?_
   obtain ⟨t5, et5, h⟩ := of_bind h
   refine AO.callS [(eI64 ((lget p0 (w64 ((p0.length : Int) - (1 : Int)))).f0))] (eI64 t5) 17 rfl (by decide) ok19 rfl rfl rfl ⟨rfl, rfl, trivial⟩ (bosketref04_Takes_spec et5) ?_
   refine AO.c (Calm.assign rfl rfl) ?_
   refine AO.nK [0, 4, 5, 6] ?_
   refine AW.block ?_
   refine AW.nilOwn 4 1 rfl fun n18 => ?_
   refine AW.wK [0, 4, 5, 6] ?_
   refine AW.loop (fun kq ρ H => ∃ (n6 : Nat) (x7 : (List (List S40))) (x8 : Int) (x9 : Int), ρ = [(0, (.fz 5 (p0.map e40))), (4, (.own n6 0 x7.length)), (5, (eI64 x8)), (6, (eI64 x9))] ∧ H = [(n6, (.mem (.ar 1 (x7.map e23))))] ∧ bosketref04_Parts_l1 k p0 kq x7 x8 x9 = some r) k ⟨n18, ([] : List (List S40)), (w64 ((p0.length : Int) - (1 : Int))), t5, rfl, rfl, h⟩ ?_
   rintro kq11 _ _ ⟨n6, x7, x8, x9, rfl, rfl, h⟩
   cases kq11 with
   | zero => rw [bosketref04_Parts_l1.eq_1] at h; cases h
   | succ kq11 =>
   rw [bosketref04_Parts_l1.eq_2] at h
   generalize hrec10 : bosketref04_Parts_l1 k p0 kq11 = rec10 at h
   refine AW.seq ?_
   refine AW.sr ?_
   refine AO.c (Calm.move rfl rfl) ?_
   refine AO.c (x := eBool (decide ((0 : Int) < x9))) (Calm.int rfl rfl rfl rfl) ?_
   refine AO.nK [0, 4, 5, 6, 19] ?_
   rcases of_ite h with ⟨hc12, h⟩ | ⟨hc12, h⟩
   ·refine AW.condP _ rfl hc12 ?_
    refine AW.sK [0, 4, 5, 6] ?_
    refine AW.seq ?_
    refine AW.block ?_
    refine AW.sr ?_
    refine AO.c (Calm.move rfl rfl) ?_
    refine AO.c (Calm.move rfl rfl) ?_
    refine AO.c (x := eI64 (w64 (x8 - (1 : Int)))) (Calm.int rfl rfl rfl rfl) ?_
    obtain ⟨t13, et13, h⟩ := of_bind h
    refine AO.callS [(.fz 5 (p0.map e40)), (eI64 (w64 (x8 - (1 : Int))))] (eI64 t13) 25 rfl (by decide) ok17 rfl rfl rfl ⟨rfl, rfl, rfl, rfl, trivial⟩ (bosketref04_Start_spec et13) ?_
    refine AO.c (Calm.assign rfl rfl) ?_
    refine AO.nK [0, 4, 5, 6, 7] ?_
    refine AW.sr ?_
    refine AO.c (Calm.move rfl rfl) ?_
    refine AO.c (Calm.move rfl rfl) ?_
    refine AO.c (Calm.move rfl rfl) ?_
    obtain ⟨hg14, h⟩ := of_guard h
    refine AO.c (x := .fz 5 ((lcut p0 t13 x8).map e40)) (Calm.sliceL rfl rfl rfl rfl hg14 Tryd.underlying23 sz40) ?_
    refine AO.lit (Z := (.fl (.slice none 0 0))) (xs := (([(lcut p0 t13 x8)] : List (List S40)).map e23)) (qs := [(0, (.fz 5 ((lcut p0 t13 x8).map e40)))]) rfl 30 rfl (by decide) rfl ⟨rfl, rfl, rfl, trivial⟩ Tryd.underlying41 sz23 zr23 lay23 rfl (by decide) (litOK (z := 1) [(.fz 5 ((lcut p0 t13 x8).map e40))] rfl ⟨⟨rfl, rfl⟩, trivial⟩) rfl fun n15 => ?_
    refine AO.c (Calm.move rfl rfl) ?_
    obtain ⟨hg17, h⟩ := of_guard h
    refine AO.appendL (l := ([(lcut p0 t13 x8)] : List (List S40))) (m := x7) 0 32 rfl (by decide) rfl rfl rfl rfl rfl (Src.ownL (f := e23) (l := x7) 1 rfl) Tryd.underlying41 Tryd.underlying41 sz23 by23 zr23 rfl hg17 (by decide) fun n16 => ?_
    refine AO.c (Calm.assign rfl rfl) ?_
    refine AO.nH [0, 4, 6, 7] (H' := [(n16, (.mem (.ar 1 ((([(lcut p0 t13 x8)] : List (List S40)) ++ x7).map e23))))]) (Sub.cons 0 rfl (Sub.nil _)) ?_
    refine AW.reg ?_
    refine AO.c (Calm.move rfl rfl) ?_
    refine AO.c (Calm.assign rfl rfl) ?_
    refine AO.nK [0, 4, 5, 6] ?_
    refine AW.reg ?_
    refine AO.c (Calm.move rfl rfl) ?_
    refine AO.c (x := eI64 (w64 (x9 - (1 : Int)))) (Calm.int rfl rfl rfl rfl) ?_
    refine AO.c (Calm.assign rfl rfl) ?_
    refine AO.nK [0, 4, 5, 6] ?_
    exact ⟨kq11, Nat.lt_succ_self _, n16, (([(lcut p0 t13 x8)] : List (List S40)) ++ x7), t13, (w64 (x9 - (1 : Int))), rfl, rfl, by rw [hrec10]; exact h⟩
   ·refine AW.condN _ rfl hc12 ?_
    refine AW.eK [4] ?_
    exact ⟨n6, x7, rfl, rfl, h⟩
  ·rintro _ _ ⟨n2, x3, rfl, rfl, h⟩
   rw [bosketref04_Parts_c0.eq_1] at h
   refine AW.sr ?_
   refine AO.c (Calm.move rfl rfl) ?_
   refine AO.c (Calm.assign rfl rfl) ?_
   refine AO.nK [2] ?_
   refine AW.freezeS 0 [(2, (.fz 1 (x3.map e23)))] rfl ⟨fz_all rfl, trivial⟩ ?_
   refine AW.rK [2] ?_
   have hr := Option.some.inj h
   subst hr
   exact ⟨[(.fz 1 (x3.map e23))], ⟨rfl, rfl, trivial⟩, rfl⟩
end Go.Avl.TE
/- slices.Clone[bosket/api.Regex,bosket/api.Piece]; printed by avmain.py. -/
namespace Go.Avl.TE
open Go Go.RowKit Go.Proofs Go.Avl
set_option linter.unusedVariables false
set_option maxRecDepth 100000
set_option maxHeartbeats 4000000
attribute [local irreducible] AW AO AQ Spec SpecH Calm

def slices_Clone_api_Regex_api_Piece_ (k : Nat) (p0 : (List S40)) : Option (List S40) :=
  if (([] : List S40) ++ p0).length * 40 ≤ 140737488355328 then some ((([] : List S40) ++ p0))
  else none
def slices_Clone_api_Regex_api_Piece__own (k : Nat) (p0 : (List S40)) : Option (List S40) :=
  if (([] : List S40) ++ p0).length * 40 ≤ 140737488355328 then some ((([] : List S40) ++ p0))
  else none
theorem slices_Clone_api_Regex_api_Piece__spec {k : Nat} {p0 : (List S40)} {r : (List S40)} (h : slices_Clone_api_Regex_api_Piece_ k p0 = some r) : Spec Tryd.prog 27 [(.fz 5 (p0.map e40))] (e23 r) := by
  rw [slices_Clone_api_Regex_api_Piece_.eq_1] at h
  refine Spec.intro (res := [.tmp 2]) Tryd.func27 rfl rfl rfl (Nat.le_of_ble_eq_true rfl) ?_
  refine AW.sr ?_
  refine AO.c (Calm.assign rfl rfl) ?_
  refine AO.nK [0] ?_
  refine AW.seq ?_
  refine AW.sr ?_
  refine AO.c (Calm.move rfl rfl) ?_
  refine AO.nilFz rfl 4 rfl (by decide) rfl rfl Tryd.underlying23 fun gb2 hgb2 => ?_
  refine AO.nK [0, 4] ?_
  cases gb2
  ·refine AW.condF rfl ?_
   refine AW.sK [0] ?_
   refine AW.sr ?_
   refine AO.lit (Z := (.st [(1, (eI64 (0 : Int))), (4, (.ar 1 ((Vector.replicate 4 (0 : Int)).toList.map eU64)))])) (xs := (([] : List S40).map e40)) (qs := []) rfl 5 rfl (by decide) rfl trivial Tryd.underlying23 sz40 zr40 lay40 rfl (by decide) (litOK (z := 5) [] rfl trivial) rfl fun n3 => ?_
   refine AO.c (Calm.move rfl rfl) ?_
   obtain ⟨hg5, h⟩ := of_guard h
   refine AO.appendL (l := ([] : List S40)) (m := p0) 0 7 rfl (by decide) rfl rfl rfl rfl rfl Src.fz Tryd.underlying23 Tryd.underlying23 sz40 by40 zr40 rfl hg5 (by decide) fun n4 => ?_
   refine AO.c (Calm.assign rfl rfl) ?_
   refine AO.nK [2] ?_
   refine AW.freezeS 0 [(2, (.fz 5 ((([] : List S40) ++ p0).map e40)))] rfl ⟨fz_all rfl, trivial⟩ ?_
   refine AW.rK [2] ?_
   have hr := Option.some.inj h
   subst hr
   exact ⟨[(.fz 5 ((([] : List S40) ++ p0).map e40))], ⟨rfl, rfl, trivial⟩, rfl⟩
  ·have hn6 : p0 = [] := List.map_eq_nil_iff.1 (hgb2 rfl)
   have h : (some ([])) = some r := by simpa [hn6] using h
   refine AW.condT rfl ?_
   refine AW.sr ?_
   refine AO.c (Calm.assign rfl rfl) ?_
   refine AO.nK [2] ?_
   refine AW.coeC 2 (y' := (.fz 5 (([] : List S40).map e40))) rfl Coe.nil ?_
   refine AW.rK [2] ?_
   have hr := Option.some.inj h
   subst hr
   exact ⟨[(.fz 5 (([] : List S40).map e40))], ⟨rfl, rfl, trivial⟩, rfl⟩
theorem slices_Clone_api_Regex_api_Piece__own_spec {k : Nat} {p0 : (List S40)} {r : (List S40)} (h : slices_Clone_api_Regex_api_Piece__own k p0 = some r) {T0 : Heap} : SpecH Tryd.prog 27 [(.fz 5 (p0.map e40))] (T0) (fun x H' => ∃ m, x = .own m 0 r.length ∧ Sub ((m, .mem (.ar 5 (r.map e40))) :: T0) H') := by
  rw [slices_Clone_api_Regex_api_Piece__own.eq_1] at h
  refine SpecH.intro (res := [.tmp 2]) Tryd.func27 rfl rfl rfl (Nat.le_of_ble_eq_true rfl) ?_
  refine AW.sr ?_
  refine AO.c (Calm.assign rfl rfl) ?_
  refine AO.nK [0] ?_
  refine AW.seq ?_
  refine AW.sr ?_
  refine AO.c (Calm.move rfl rfl) ?_
  refine AO.nilFz rfl 4 rfl (by decide) rfl rfl Tryd.underlying23 fun gb2 hgb2 => ?_
  refine AO.nK [0, 4] ?_
  cases gb2
  ·refine AW.condF rfl ?_
   refine AW.sK [0] ?_
   refine AW.sr ?_
   refine AO.lit (Z := (.st [(1, (eI64 (0 : Int))), (4, (.ar 1 ((Vector.replicate 4 (0 : Int)).toList.map eU64)))])) (xs := (([] : List S40).map e40)) (qs := []) rfl 5 rfl (by decide) rfl trivial Tryd.underlying23 sz40 zr40 lay40 rfl (by decide) (litOK (z := 5) [] rfl trivial) rfl fun n4 => ?_
   refine AO.c (Calm.move rfl rfl) ?_
   obtain ⟨hg6, h⟩ := of_guard h
   refine AO.appendL (l := ([] : List S40)) (m := p0) 0 7 rfl (by decide) rfl rfl rfl rfl rfl Src.fz Tryd.underlying23 Tryd.underlying23 sz40 by40 zr40 rfl hg6 (by decide) fun n5 => ?_
   refine AO.c (Calm.assign rfl rfl) ?_
   refine AO.nK [2] ?_
   refine AW.rK [2] ?_
   have hr := Option.some.inj h
   subst hr
   exact ⟨[(.own n5 0 (([] : List S40) ++ p0).length)], ⟨rfl, rfl, trivial⟩, n5, rfl, (Sub.cons 0 rfl (Sub.refl _))⟩
  ·have hn7 : p0 = [] := List.map_eq_nil_iff.1 (hgb2 rfl)
   have h : (some ([])) = some r := by simpa [hn7] using h
   refine AW.condT rfl ?_
   refine AW.sr ?_
   refine AO.c (Calm.assign rfl rfl) ?_
   refine AO.nK [2] ?_
   refine AW.nilOwn 2 5 rfl fun n3 => ?_
   refine AW.rK [2] ?_
   have hr := Option.some.inj h
   subst hr
   exact ⟨[(.own n3 0 ([] : List S40).length)], ⟨rfl, rfl, trivial⟩, n3, rfl, (Sub.cons 0 rfl (Sub.refl _))⟩
end Go.Avl.TE
/- bosket/rex.Start; printed by avmain.py. -/
namespace Go.Avl.TE
open Go Go.RowKit Go.Proofs Go.Avl
set_option linter.unusedVariables false
set_option maxRecDepth 100000
set_option maxHeartbeats 4000000
attribute [local irreducible] AW AO AQ Spec SpecH Calm

def rex_Start_c0 (k : Nat) : Option Int :=
  some ((0 : Int))
def rex_Start_l1 (k : Nat) (p0 : (List S40)) : Nat → Int → Int → Option Int
  | 0, _, _ => none
  | j + 1, x3, x4 =>
    if (0 : Int) ≤ x4 then if 0 ≤ x4 ∧ x4 < (p0.length : Int) then (rex_Takes k ((lget p0 x4).f0)).bind fun t9 =>
    if (w64 (x3 + (w64 (t9 - (1 : Int))))) = (0 : Int) then some (x4)
    else (rex_Start_l1 k p0 j) (w64 (x3 + (w64 (t9 - (1 : Int))))) (w64 (x4 - (1 : Int)))
    else none
    else rex_Start_c0 k
def rex_Start (k : Nat) (p0 : (List S40)) (p1 : Int) : Option Int :=
  rex_Start_l1 k p0 k (1 : Int) p1
theorem rex_Start_spec {k : Nat} {p0 : (List S40)} {p1 : Int} {r : Int} (h : rex_Start k p0 p1 = some r) : Spec Tryd.prog 16 [(.fz 5 (p0.map e40)), (eI64 p1)] (eI64 r) := by
  rw [rex_Start.eq_1] at h
  refine Spec.intro (res := [.tmp 4]) Tryd.func16 rfl rfl rfl (Nat.le_of_ble_eq_true rfl) ?_
  refine AW.sr ?_
  refine AO.c (Calm.assign rfl rfl) ?_
  refine AO.nK [0, 1] ?_
  refine AW.sr ?_
  refine AO.c (Calm.assign rfl rfl) ?_
  refine AO.nK [0, 1, 5] ?_
  refine AW.seq_mid (fun ρ H => ρ = [] ∧ H = [] ∧ rex_Start_c0 k = some r) ?_ ?_
  ·refine AW.sr ?_
   refine AO.c (Calm.move rfl rfl) ?_
   refine AO.c (Calm.assign rfl rfl) ?_
   refine AO.nK [0, 5, 6] ?_
   refine AW.block ?_
   refine AW.wK [0, 5, 6] ?_
   refine AW.loop (fun kq ρ H => ∃ (x3 : Int) (x4 : Int), ρ = [(0, (.fz 5 (p0.map e40))), (5, (eI64 x3)), (6, (eI64 x4))] ∧ H = [] ∧ rex_Start_l1 k p0 kq x3 x4 = some r) k ⟨(1 : Int), p1, rfl, rfl, h⟩ ?_
   rintro kq6 _ _ ⟨x3, x4, rfl, rfl, h⟩
   cases kq6 with
   | zero => rw [rex_Start_l1.eq_1] at h; cases h
   | succ kq6 =>
   rw [rex_Start_l1.eq_2] at h
   generalize hrec5 : rex_Start_l1 k p0 kq6 = rec5 at h
   refine AW.seq ?_
   refine AW.sr ?_
   refine AO.c (Calm.move rfl rfl) ?_
   refine AO.c (x := eBool (decide ((0 : Int) ≤ x4))) (Calm.int rfl rfl rfl rfl) ?_
   refine AO.nK [0, 5, 6, 9] ?_
   rcases of_ite h with ⟨hc7, h⟩ | ⟨hc7, h⟩
   ·refine AW.condP _ rfl hc7 ?_
    refine AW.sK [0, 5, 6] ?_
    refine AW.seq ?_
    refine AW.block ?_
    refine AW.sr ?_
    refine AO.c (Calm.move rfl rfl) ?_
    refine AO.c (Calm.move rfl rfl) ?_
    refine AO.c (Calm.move rfl rfl) ?_
    obtain ⟨hg8, h⟩ := of_guard h
    refine AO.c (Calm.idxL (f := e40) rfl rfl rfl hg8 Tryd.underlying23 sz40) ?_
    refine AO.c (Calm.fldRp rfl rfl Tryd.underlying40 rfl sz3 (At.cast (At.fld0 At.here) rfl)) ?_
    refine AO.c (Calm.loadRp rfl rfl ag3 sz3) ?_
    obtain ⟨t9, et9, h⟩ := of_bind h
    refine AO.callS [(eI64 ((lget p0 x4).f0))] (eI64 t9) 18 rfl (by decide) ok25 rfl rfl rfl ⟨rfl, rfl, trivial⟩ (rex_Takes_spec et9) ?_
    refine AO.c (x := eI64 (w64 (t9 - (1 : Int)))) (Calm.int rfl rfl rfl rfl) ?_
    refine AO.c (x := eI64 (w64 (x3 + (w64 (t9 - (1 : Int)))))) (Calm.int rfl rfl rfl rfl) ?_
    refine AO.c (Calm.assign rfl rfl) ?_
    refine AO.nK [0, 5, 6] ?_
    refine AW.sr ?_
    refine AO.c (Calm.move rfl rfl) ?_
    refine AO.c (x := eBool (decide ((w64 (x3 + (w64 (t9 - (1 : Int))))) = (0 : Int)))) (Calm.int rfl rfl rfl rfl) ?_
    refine AO.nK [0, 5, 6, 22] ?_
    rcases of_ite h with ⟨hc10, h⟩ | ⟨hc10, h⟩
    ·refine AW.condP _ rfl hc10 ?_
     refine AW.sr ?_
     refine AO.c (Calm.move rfl rfl) ?_
     refine AO.c (Calm.assign rfl rfl) ?_
     refine AO.nK [4] ?_
     refine AW.rK [4] ?_
     have hr := Option.some.inj h
     subst hr
     exact ⟨[(eI64 x4)], ⟨rfl, rfl, trivial⟩, rfl⟩
    ·refine AW.condN _ rfl hc10 ?_
     refine AW.sK [0, 5, 6] ?_
     refine AW.reg ?_
     refine AO.c (Calm.move rfl rfl) ?_
     refine AO.c (x := eI64 (w64 (x4 - (1 : Int)))) (Calm.int rfl rfl rfl rfl) ?_
     refine AO.c (Calm.assign rfl rfl) ?_
     refine AO.nK [0, 5, 6] ?_
     exact ⟨kq6, Nat.lt_succ_self _, (w64 (x3 + (w64 (t9 - (1 : Int))))), (w64 (x4 - (1 : Int))), rfl, rfl, by rw [hrec5]; exact h⟩
   ·refine AW.condN _ rfl hc7 ?_
    refine AW.eK [] ?_
    exact ⟨rfl, rfl, h⟩
  ·rintro _ _ ⟨rfl, rfl, h⟩
   rw [rex_Start_c0.eq_1] at h
   refine AW.sr ?_
   refine AO.c (Calm.assign rfl rfl) ?_
   refine AO.nK [4] ?_
   refine AW.rK [4] ?_
   have hr := Option.some.inj h
   subst hr
   exact ⟨[(eI64 (0 : Int))], ⟨rfl, rfl, trivial⟩, rfl⟩
end Go.Avl.TE
/- bosket/rex.Parts; printed by avmain.py. -/
namespace Go.Avl.TE
open Go Go.RowKit Go.Proofs Go.Avl
set_option linter.unusedVariables false
set_option maxRecDepth 100000
set_option maxHeartbeats 4000000
attribute [local irreducible] AW AO AQ Spec SpecH Calm

def rex_Parts (k : Nat) (p0 : (List S40)) : Option (List (List S40)) :=
  if (p0.length : Int) = (0 : Int) then some ([])
  else if 0 ≤ (w64 ((p0.length : Int) - (1 : Int))) ∧ (w64 ((p0.length : Int) - (1 : Int))) < (p0.length : Int) then (rex_Takes k ((lget p0 (w64 ((p0.length : Int) - (1 : Int)))).f0)).bind fun t4 =>
  if t4 = (1 : Int) then if 0 ≤ (0 : Int) ∧ (0 : Int) ≤ (w64 ((p0.length : Int) - (1 : Int))) ∧ (w64 ((p0.length : Int) - (1 : Int))) ≤ (p0.length : Int) then (slices_Clone_api_Regex_api_Piece__own k (lcut p0 (0 : Int) (w64 ((p0.length : Int) - (1 : Int))))).bind fun t7 =>
  some ([t7])
  else none
  else if t4 = (2 : Int) then (rex_Start k p0 (w64 ((p0.length : Int) - (2 : Int)))).bind fun t12 =>
  if 0 ≤ (0 : Int) ∧ (0 : Int) ≤ t12 ∧ t12 ≤ (p0.length : Int) then (slices_Clone_api_Regex_api_Piece_ k (lcut p0 (0 : Int) t12)).bind fun t14 =>
  if 0 ≤ t12 ∧ t12 ≤ (w64 ((p0.length : Int) - (1 : Int))) ∧ (w64 ((p0.length : Int) - (1 : Int))) ≤ (p0.length : Int) then (slices_Clone_api_Regex_api_Piece_ k (lcut p0 t12 (w64 ((p0.length : Int) - (1 : Int))))).bind fun t16 =>
  some ([t14, t16])
  else none
  else none
  else some ([])
  else none
theorem rex_Parts_spec {k : Nat} {p0 : (List S40)} {r : (List (List S40))} (h : rex_Parts k p0 = some r) : Spec Tryd.prog 14 [(.fz 5 (p0.map e40))] (e41 r) := by
  rw [rex_Parts.eq_1] at h
  refine Spec.intro (res := [.tmp 2]) Tryd.func14 rfl rfl rfl (Nat.le_of_ble_eq_true rfl) ?_
  refine AW.sr ?_
  refine AO.c (Calm.assign rfl rfl) ?_
  refine AO.nK [0] ?_
  refine AW.seq ?_
  refine AW.sr ?_
  refine AO.c (Calm.move rfl rfl) ?_
  refine AO.c (Calm.lenL rfl rfl Tryd.underlying23) ?_
  refine AO.c (x := eBool (decide ((p0.length : Int) = (0 : Int)))) (Calm.int rfl rfl rfl rfl) ?_
  refine AO.nK [0, 6] ?_
  rcases of_ite h with ⟨hc2, h⟩ | ⟨hc2, h⟩
  ·refine AW.condP _ rfl hc2 ?_
   refine AW.sr ?_
   refine AO.c (Calm.assign rfl rfl) ?_
   refine AO.nK [2] ?_
   refine AW.coeC 2 (y' := (.fz 1 (([] : List (List S40)).map e23))) rfl Coe.nil ?_
   refine AW.rK [2] ?_
   have hr := Option.some.inj h
   subst hr
   exact ⟨[(.fz 1 (([] : List (List S40)).map e23))], ⟨rfl, rfl, trivial⟩, rfl⟩
  ·refine AW.condN _ rfl hc2 ?_
   refine AW.sK [0] ?_
   refine AW.seq ?_
   refine AW.sr ?_
   refine AO.c (Calm.move rfl rfl) ?_
   refine AO.c (Calm.move rfl rfl) ?_
   refine AO.c (Calm.lenL rfl rfl Tryd.underlying23) ?_
   refine AO.c (x := eI64 (w64 ((p0.length : Int) - (1 : Int)))) (Calm.int rfl rfl rfl rfl) ?_
   obtain ⟨hg3, h⟩ := of_guard h
   refine AO.c (Calm.idxL (f := e40) rfl rfl rfl hg3 Tryd.underlying23 sz40) ?_
   refine AO.c (Calm.fldRp rfl rfl Tryd.underlying40 rfl sz3 (At.cast (At.fld0 At.here) rfl)) ?_
   refine AO.c (Calm.loadRp rfl rfl ag3 sz3) ?_
   obtain ⟨t4, et4, h⟩ := of_bind h
   refine AO.callS [(eI64 ((lget p0 (w64 ((p0.length : Int) - (1 : Int)))).f0))] (eI64 t4) 14 rfl (by decide) ok25 rfl rfl rfl ⟨rfl, rfl, trivial⟩ (rex_Takes_spec et4) ?_
   refine AO.nK [0, 14] ?_
   refine AW.block ?_
   refine AW.sr ?_
   refine AO.c (x := eBool (decide (t4 = (1 : Int)))) (Calm.int rfl rfl rfl rfl) ?_
   refine AO.c (Calm.assign rfl rfl) ?_
   refine AO.nK [0, 14, 15] ?_
   rcases of_ite h with ⟨hc5, h⟩ | ⟨hc5, h⟩
   ·refine AW.condP _ rfl hc5 ?_
    refine AW.sr ?_
    refine AO.c (Calm.move rfl rfl) ?_
    refine AO.c (Calm.move rfl rfl) ?_
    refine AO.c (Calm.lenL rfl rfl Tryd.underlying23) ?_
    refine AO.c (x := eI64 (w64 ((p0.length : Int) - (1 : Int)))) (Calm.int rfl rfl rfl rfl) ?_
    obtain ⟨hg6, h⟩ := of_guard h
    refine AO.c (x := .fz 5 ((lcut p0 (0 : Int) (w64 ((p0.length : Int) - (1 : Int)))).map e40)) (Calm.sliceL rfl rfl rfl rfl hg6 Tryd.underlying23 sz40) ?_
    obtain ⟨t7, et7, h⟩ := of_bind h
    refine AO.callH [(.fz 5 ((lcut p0 (0 : Int) (w64 ((p0.length : Int) - (1 : Int)))).map e40))] [] _ rfl rfl rfl 22 rfl (by decide) ok27 ⟨rfl, rfl, trivial⟩ (Sub.refl _) (slices_Clone_api_Regex_api_Piece__own_spec et7) ?_
    rintro _ _ ⟨n9, rfl, hs8⟩
    refine AO.wH [0, 14, 15, 17, 18, 19, 20, 21, 22] hs8 ?_
    refine AO.freezeS 0 [(22, (.fz 5 (t7.map e40)))] rfl ⟨fz_all rfl, trivial⟩ ?_
    refine AO.lit (Z := (.fl (.slice none 0 0))) (xs := (([t7] : List (List S40)).map e23)) (qs := [(0, (.fz 5 (t7.map e40)))]) rfl 23 rfl (by decide) rfl ⟨rfl, rfl, rfl, trivial⟩ Tryd.underlying41 sz23 zr23 lay23 rfl (by decide) (litOK (z := 1) [(.fz 5 (t7.map e40))] rfl ⟨⟨rfl, rfl⟩, trivial⟩) rfl fun n10 => ?_
    refine AO.c (Calm.assign rfl rfl) ?_
    refine AO.nK [2] ?_
    refine AW.freezeS 0 [(2, (.fz 1 (([t7] : List (List S40)).map e23)))] rfl ⟨fz_all rfl, trivial⟩ ?_
    refine AW.rK [2] ?_
    have hr := Option.some.inj h
    subst hr
    exact ⟨[(.fz 1 (([t7] : List (List S40)).map e23))], ⟨rfl, rfl, trivial⟩, rfl⟩
   ·refine AW.condN _ rfl hc5 ?_
    refine AW.sr ?_
    refine AO.c (x := eBool (decide (t4 = (2 : Int)))) (Calm.int rfl rfl rfl rfl) ?_
    refine AO.c (Calm.assign rfl rfl) ?_
    refine AO.nK [0, 24] ?_
    rcases of_ite h with ⟨hc11, h⟩ | ⟨hc11, h⟩
    ·refine AW.condP _ rfl hc11 ?_
     refine AW.sr ?_
     refine AO.c (Calm.move rfl rfl) ?_
     refine AO.c (Calm.move rfl rfl) ?_
     refine AO.c (Calm.lenL rfl rfl Tryd.underlying23) ?_
     refine AO.c (x := eI64 (w64 ((p0.length : Int) - (2 : Int)))) (Calm.int rfl rfl rfl rfl) ?_
     obtain ⟨t12, et12, h⟩ := of_bind h
     refine AO.callS [(.fz 5 (p0.map e40)), (eI64 (w64 ((p0.length : Int) - (2 : Int))))] (eI64 t12) 30 rfl (by decide) ok16 rfl rfl rfl ⟨rfl, rfl, rfl, rfl, trivial⟩ (rex_Start_spec et12) ?_
     refine AO.c (Calm.assign rfl rfl) ?_
     refine AO.nK [0, 3] ?_
     refine AW.seq ?_
     obtain ⟨hg13, h⟩ := of_guard h
     obtain ⟨t14, et14, h⟩ := of_bind h
     obtain ⟨hg15, h⟩ := of_guard h
     obtain ⟨t16, et16, h⟩ := of_bind h
     refine AW.regAny (by rfl) (by decide +kernel) [(.fz 5 (p0.map e40)), (eI64 t12), (.fz 5 ((lcut p0 (0 : Int) t12).map e40)), (.fz 5 (t14.map e40)), (.fz 5 (p0.map e40)), (eI64 t12), (.fz 5 (p0.map e40)), (eI64 (p0.length : Int)), (eI64 (w64 ((p0.length : Int) - (1 : Int)))), (.fz 5 ((lcut p0 t12 (w64 ((p0.length : Int) - (1 : Int)))).map e40)), (.fz 5 (t16.map e40)), (.fz 1 (([t14, t16] : List (List S40)).map e23)), (.fz 1 (([t14, t16] : List (List S40)).map e23))] [(0, (.fz 5 (p0.map e40))), (3, (eI64 t12))] ⟨rfl, rfl, trivial⟩ rfl ?_ [(2, (.fz 1 (([t14, t16] : List (List S40)).map e23)))] [] ⟨rfl, trivial⟩ (Sub.refl _) ?_
     ·refine ⟨?_, ?_, ?_, ?_, ?_, ?_, ?_, ?_, ?_, ?_, ?_, ?_, ?_, trivial⟩
      ·refine AO.wK [0] ?_
       refine AO.c (Calm.move rfl rfl) ?_
       exact AO.nE (d := 31) rfl ⟨⟨_, rfl, rfl⟩, Sub.refl _⟩
      ·refine AO.wK [3] ?_
       refine AO.c (Calm.move rfl rfl) ?_
       exact AO.nE (d := 32) rfl ⟨⟨_, rfl, rfl⟩, Sub.refl _⟩
      ·refine AO.wK [31, 32] ?_
       refine AO.c (x := .fz 5 ((lcut p0 (0 : Int) t12).map e40)) (Calm.sliceL rfl rfl rfl rfl hg13 Tryd.underlying23 sz40) ?_
       exact AO.nE (d := 33) rfl ⟨⟨_, rfl, rfl⟩, Sub.refl _⟩
      ·refine AO.wK [33] ?_
       refine AO.callS [(.fz 5 ((lcut p0 (0 : Int) t12).map e40))] (.fz 5 (t14.map e40)) 34 rfl (by decide) ok27 rfl rfl rfl ⟨rfl, rfl, trivial⟩ (slices_Clone_api_Regex_api_Piece__spec et14) ?_
       exact AO.nE (d := 34) rfl ⟨⟨_, rfl, rfl⟩, Sub.refl _⟩
      ·refine AO.wK [0] ?_
       refine AO.c (Calm.move rfl rfl) ?_
       exact AO.nE (d := 35) rfl ⟨⟨_, rfl, rfl⟩, Sub.refl _⟩
      ·refine AO.wK [3] ?_
       refine AO.c (Calm.move rfl rfl) ?_
       exact AO.nE (d := 36) rfl ⟨⟨_, rfl, rfl⟩, Sub.refl _⟩
      ·refine AO.wK [0] ?_
       refine AO.c (Calm.move rfl rfl) ?_
       exact AO.nE (d := 37) rfl ⟨⟨_, rfl, rfl⟩, Sub.refl _⟩
      ·refine AO.wK [37] ?_
       refine AO.c (Calm.lenL rfl rfl Tryd.underlying23) ?_
       exact AO.nE (d := 38) rfl ⟨⟨_, rfl, rfl⟩, Sub.refl _⟩
      ·refine AO.wK [38] ?_
       refine AO.c (x := eI64 (w64 ((p0.length : Int) - (1 : Int)))) (Calm.int rfl rfl rfl rfl) ?_
       exact AO.nE (d := 39) rfl ⟨⟨_, rfl, rfl⟩, Sub.refl _⟩
      ·refine AO.wK [35, 36, 39] ?_
       refine AO.c (x := .fz 5 ((lcut p0 t12 (w64 ((p0.length : Int) - (1 : Int)))).map e40)) (Calm.sliceL rfl rfl rfl rfl hg15 Tryd.underlying23 sz40) ?_
       exact AO.nE (d := 40) rfl ⟨⟨_, rfl, rfl⟩, Sub.refl _⟩
      ·refine AO.wK [40] ?_
       refine AO.callS [(.fz 5 ((lcut p0 t12 (w64 ((p0.length : Int) - (1 : Int)))).map e40))] (.fz 5 (t16.map e40)) 41 rfl (by decide) ok27 rfl rfl rfl ⟨rfl, rfl, trivial⟩ (slices_Clone_api_Regex_api_Piece__spec et16) ?_
       exact AO.nE (d := 41) rfl ⟨⟨_, rfl, rfl⟩, Sub.refl _⟩
      ·refine AO.wK [34, 41] ?_
       refine AO.lit (Z := (.fl (.slice none 0 0))) (xs := (([t14, t16] : List (List S40)).map e23)) (qs := [(0, (.fz 5 (t14.map e40))), (1, (.fz 5 (t16.map e40)))]) rfl 42 rfl (by decide) rfl ⟨rfl, rfl, rfl, rfl, rfl, rfl, trivial⟩ Tryd.underlying41 sz23 zr23 lay23 rfl (by decide) (litOK (z := 1) [(.fz 5 (t14.map e40)), (.fz 5 (t16.map e40))] rfl ⟨⟨rfl, rfl⟩, ⟨rfl, rfl⟩, trivial⟩) rfl fun n17 => ?_
       refine AO.freezeS 0 [(42, (.fz 1 (([t14, t16] : List (List S40)).map e23)))] rfl ⟨fz_all rfl, trivial⟩ ?_
       exact AO.nE (d := 42) rfl ⟨⟨_, rfl, rfl⟩, Sub.refl _⟩
      ·refine AO.wK [42] ?_
       refine AO.c (Calm.assign rfl rfl) ?_
       exact AO.nE (d := 2) rfl ⟨⟨_, rfl, rfl⟩, Sub.refl _⟩
     ·refine AW.rK [2] ?_
      have hr := Option.some.inj h
      subst hr
      exact ⟨[(.fz 1 (([t14, t16] : List (List S40)).map e23))], ⟨rfl, rfl, trivial⟩, rfl⟩
    ·refine AW.condN _ rfl hc11 ?_
     refine AW.sK [] ?_
     refine AW.sr ?_
     refine AO.c (Calm.assign rfl rfl) ?_
     refine AO.nK [2] ?_
     refine AW.coeC 2 (y' := (.fz 1 (([] : List (List S40)).map e23))) rfl Coe.nil ?_
     refine AW.rK [2] ?_
     have hr := Option.some.inj h
     subst hr
     exact ⟨[(.fz 1 (([] : List (List S40)).map e23))], ⟨rfl, rfl, trivial⟩, rfl⟩
end Go.Avl.TE
/- bosket/bosketref04.Same; printed by avmain.py. -/
namespace Go.Avl.TE
open Go Go.RowKit Go.Proofs Go.Avl
set_option linter.unusedVariables false
set_option maxRecDepth 100000
set_option maxHeartbeats 4000000
attribute [local irreducible] AW AO AQ Spec SpecH Calm

def bosketref04_Same_c0 (k : Nat) : Option Bool :=
  some (true)
def bosketref04_Same_l1 (k : Nat) (p0 : (List S40)) (p1 : (List S40)) : Nat → Int → Option Bool
  | 0, _ => none
  | j + 1, x4 =>
    if x4 < (p0.length : Int) then if 0 ≤ x4 ∧ x4 < (p0.length : Int) then if 0 ≤ x4 ∧ x4 < (p1.length : Int) then if (!(decide ((lget p0 x4) = (lget p1 x4)))) = true then some (false)
    else (bosketref04_Same_l1 k p0 p1 j) (w64 (x4 + (1 : Int)))
    else none
    else none
    else bosketref04_Same_c0 k
def bosketref04_Same (k : Nat) (p0 : (List S40)) (p1 : (List S40)) : Option Bool :=
  if (p0.length : Int) ≠ (p1.length : Int) then some (false)
  else bosketref04_Same_l1 k p0 p1 k (0 : Int)
theorem bosketref04_Same_spec {k : Nat} {p0 : (List S40)} {p1 : (List S40)} {r : Bool} (h : bosketref04_Same k p0 p1 = some r) : Spec Tryd.prog 10 [(.fz 5 (p0.map e40)), (.fz 5 (p1.map e40))] (eBool r) := by
  rw [bosketref04_Same.eq_1] at h
  refine Spec.intro (res := [.tmp 4]) Tryd.func10 rfl rfl rfl (Nat.le_of_ble_eq_true rfl) ?_
  refine AW.sr ?_
  refine AO.c (Calm.assign rfl rfl) ?_
  refine AO.nK [0, 1] ?_
  refine AW.seq ?_
  refine AW.sr ?_
  refine AO.c (Calm.move rfl rfl) ?_
  refine AO.c (Calm.lenL rfl rfl Tryd.underlying23) ?_
  refine AO.c (Calm.move rfl rfl) ?_
  refine AO.c (Calm.lenL rfl rfl Tryd.underlying23) ?_
  refine AO.c (x := eBool (decide ((p0.length : Int) ≠ (p1.length : Int)))) (Calm.int rfl rfl rfl rfl) ?_
  refine AO.nK [0, 1, 10] ?_
  rcases of_ite h with ⟨hc3, h⟩ | ⟨hc3, h⟩
  ·refine AW.condP _ rfl hc3 ?_
   refine AW.sr ?_
   refine AO.c (Calm.assign rfl rfl) ?_
   refine AO.nK [4] ?_
   refine AW.rK [4] ?_
   have hr := Option.some.inj h
   subst hr
   exact ⟨[(eBool false)], ⟨rfl, rfl, trivial⟩, rfl⟩
  ·refine AW.condN _ rfl hc3 ?_
   refine AW.sK [0, 1] ?_
   refine AW.seq_mid (fun ρ H => ρ = [] ∧ H = [] ∧ bosketref04_Same_c0 k = some r) ?_ ?_
   ·refine AW.sr ?_
    refine AO.c (Calm.assign rfl rfl) ?_
    refine AO.nK [0, 1, 5] ?_
    refine AW.block ?_
    refine AW.wK [0, 1, 5] ?_
    refine AW.loop (fun kq ρ H => ∃ (x4 : Int), ρ = [(0, (.fz 5 (p0.map e40))), (1, (.fz 5 (p1.map e40))), (5, (eI64 x4))] ∧ H = [] ∧ bosketref04_Same_l1 k p0 p1 kq x4 = some r) k ⟨(0 : Int), rfl, rfl, h⟩ ?_
    rintro kq6 _ _ ⟨x4, rfl, rfl, h⟩
    cases kq6 with
    | zero => rw [bosketref04_Same_l1.eq_1] at h; cases h
    | succ kq6 =>
    rw [bosketref04_Same_l1.eq_2] at h
    generalize hrec5 : bosketref04_Same_l1 k p0 p1 kq6 = rec5 at h
    refine AW.seq ?_
    refine AW.sr ?_
    refine AO.c (Calm.move rfl rfl) ?_
    refine AO.c (Calm.move rfl rfl) ?_
    refine AO.c (Calm.lenL rfl rfl Tryd.underlying23) ?_
    refine AO.c (x := eBool (decide (x4 < (p0.length : Int)))) (Calm.int rfl rfl rfl rfl) ?_
    refine AO.nK [0, 1, 5, 14] ?_
    rcases of_ite h with ⟨hc7, h⟩ | ⟨hc7, h⟩
    ·refine AW.condP _ rfl hc7 ?_
     refine AW.sK [0, 1, 5] ?_
     refine AW.seq ?_
     refine AW.block ?_
     refine AW.seq ?_
     refine AW.regQ (by rfl) (by decide +kernel) ?_
     refine AQ.c (Calm.move rfl rfl) ?_
     refine AQ.c (Calm.move rfl rfl) ?_
     obtain ⟨hg8, h⟩ := of_guard h
     refine AQ.c (Calm.idxL (f := e40) rfl rfl rfl hg8 Tryd.underlying23 sz40) ?_
     refine AQ.c (Calm.loadRp rfl rfl ag40 sz40) ?_
     refine AQ.c (Calm.move rfl rfl) ?_
     refine AQ.c (Calm.move rfl rfl) ?_
     obtain ⟨hg9, h⟩ := of_guard h
     refine AQ.c (Calm.idxL (f := e40) rfl rfl rfl hg9 Tryd.underlying23 sz40) ?_
     refine AQ.c (Calm.loadRp rfl rfl ag40 sz40) ?_
     refine AQ.c (x := eBool (!(decide ((lget p0 x4) = (lget p1 x4))))) (Calm.neS rfl rfl rfl eg40 (eqk40 (lget p0 x4) (lget p1 x4)) (by decide)) ?_
     refine AQ.nK [0, 1, 5, 25] ?_
     rcases of_ite h with ⟨hc10, h⟩ | ⟨hc10, h⟩
     ·refine AW.condT' _ rfl hc10 ?_
      refine AW.sr ?_
      refine AO.c (Calm.assign rfl rfl) ?_
      refine AO.nK [4] ?_
      refine AW.rK [4] ?_
      have hr := Option.some.inj h
      subst hr
      exact ⟨[(eBool false)], ⟨rfl, rfl, trivial⟩, rfl⟩
     ·refine AW.condF' _ rfl hc10 ?_
      refine AW.sK [0, 1, 5] ?_
      refine AW.reg ?_
      refine AO.c (Calm.move rfl rfl) ?_
      refine AO.c (x := eI64 (w64 (x4 + (1 : Int)))) (Calm.int rfl rfl rfl rfl) ?_
      refine AO.c (Calm.assign rfl rfl) ?_
      refine AO.nK [0, 1, 5] ?_
      exact ⟨kq6, Nat.lt_succ_self _, (w64 (x4 + (1 : Int))), rfl, rfl, by rw [hrec5]; exact h⟩
    ·refine AW.condN _ rfl hc7 ?_
     refine AW.eK [] ?_
     exact ⟨rfl, rfl, h⟩
   ·rintro _ _ ⟨rfl, rfl, h⟩
    rw [bosketref04_Same_c0.eq_1] at h
    refine AW.sr ?_
    refine AO.c (Calm.assign rfl rfl) ?_
    refine AO.nK [4] ?_
    refine AW.rK [4] ?_
    have hr := Option.some.inj h
    subst hr
    exact ⟨[(eBool true)], ⟨rfl, rfl, trivial⟩, rfl⟩
end Go.Avl.TE
/- slices.Equal[bosket/api.Regex,bosket/api.Piece]; printed by avmain.py. -/
namespace Go.Avl.TE
open Go Go.RowKit Go.Proofs Go.Avl
set_option linter.unusedVariables false
set_option maxRecDepth 100000
set_option maxHeartbeats 4000000
attribute [local irreducible] AW AO AQ Spec SpecH Calm

def slices_Equal_api_Regex_api_Piece__c0 (k : Nat) : Option Bool :=
  some (true)
def slices_Equal_api_Regex_api_Piece__l1 (k : Nat) (p0 : (List S40)) (p1 : (List S40)) : Nat → Int → Option Bool
  | 0, _ => none
  | j + 1, x4 =>
    if x4 < (p0.length : Int) then if 0 ≤ x4 ∧ x4 < (p0.length : Int) then if 0 ≤ x4 ∧ x4 < (p1.length : Int) then if (!(decide ((lget p0 x4) = (lget p1 x4)))) = true then some (false)
    else (slices_Equal_api_Regex_api_Piece__l1 k p0 p1 j) (w64 (x4 + (1 : Int)))
    else none
    else none
    else slices_Equal_api_Regex_api_Piece__c0 k
def slices_Equal_api_Regex_api_Piece_ (k : Nat) (p0 : (List S40)) (p1 : (List S40)) : Option Bool :=
  if (p0.length : Int) ≠ (p1.length : Int) then some (false)
  else slices_Equal_api_Regex_api_Piece__l1 k p0 p1 k (0 : Int)
theorem slices_Equal_api_Regex_api_Piece__spec {k : Nat} {p0 : (List S40)} {p1 : (List S40)} {r : Bool} (h : slices_Equal_api_Regex_api_Piece_ k p0 p1 = some r) : Spec Tryd.prog 24 [(.fz 5 (p0.map e40)), (.fz 5 (p1.map e40))] (eBool r) := by
  rw [slices_Equal_api_Regex_api_Piece_.eq_1] at h
  refine Spec.intro (res := [.tmp 4]) Tryd.func24 rfl rfl rfl (Nat.le_of_ble_eq_true rfl) ?_
  refine AW.sr ?_
  refine AO.c (Calm.assign rfl rfl) ?_
  refine AO.nK [0, 1] ?_
  refine AW.seq ?_
  refine AW.sr ?_
  refine AO.c (Calm.move rfl rfl) ?_
  refine AO.c (Calm.lenL rfl rfl Tryd.underlying23) ?_
  refine AO.c (Calm.move rfl rfl) ?_
  refine AO.c (Calm.lenL rfl rfl Tryd.underlying23) ?_
  refine AO.c (x := eBool (decide ((p0.length : Int) ≠ (p1.length : Int)))) (Calm.int rfl rfl rfl rfl) ?_
  refine AO.nK [0, 1, 10] ?_
  rcases of_ite h with ⟨hc3, h⟩ | ⟨hc3, h⟩
  ·refine AW.condP _ rfl hc3 ?_
   refine AW.sr ?_
   refine AO.c (Calm.assign rfl rfl) ?_
   refine AO.nK [4] ?_
   refine AW.rK [4] ?_
   have hr := Option.some.inj h
   subst hr
   exact ⟨[(eBool false)], ⟨rfl, rfl, trivial⟩, rfl⟩
  ·refine AW.condN _ rfl hc3 ?_
   refine AW.sK [0, 1] ?_
   refine AW.seq_mid (fun ρ H => ρ = [] ∧ H = [] ∧ slices_Equal_api_Regex_api_Piece__c0 k = some r) ?_ ?_
   ·refine AW.sr ?_
    refine AO.c (Calm.move rfl rfl) ?_
    refine AO.c (Calm.lenL rfl rfl Tryd.underlying23) ?_
    refine AO.c (Calm.move rfl rfl) ?_
    refine AO.nK [0, 1, 12, 13] ?_
    refine AW.block ?_
    refine AW.wK [0, 1, 12, 13] ?_
    refine AW.loop (fun kq ρ H => ∃ (x4 : Int), ρ = [(0, (.fz 5 (p0.map e40))), (1, (.fz 5 (p1.map e40))), (12, (eI64 (p0.length : Int))), (13, (eI64 x4))] ∧ H = [] ∧ slices_Equal_api_Regex_api_Piece__l1 k p0 p1 kq x4 = some r) k ⟨(0 : Int), rfl, rfl, h⟩ ?_
    rintro kq6 _ _ ⟨x4, rfl, rfl, h⟩
    cases kq6 with
    | zero => rw [slices_Equal_api_Regex_api_Piece__l1.eq_1] at h; cases h
    | succ kq6 =>
    rw [slices_Equal_api_Regex_api_Piece__l1.eq_2] at h
    generalize hrec5 : slices_Equal_api_Regex_api_Piece__l1 k p0 p1 kq6 = rec5 at h
    refine AW.sr ?_
    refine AO.c (x := eBool (decide (x4 < (p0.length : Int)))) (Calm.int rfl rfl rfl rfl) ?_
    refine AO.nK [0, 1, 12, 13, 14] ?_
    refine AW.seq ?_
    rcases of_ite h with ⟨hc7, h⟩ | ⟨hc7, h⟩
    ·refine AW.condP _ rfl hc7 ?_
     refine AW.sK [0, 1, 12, 13] ?_
     refine AW.seq ?_
     refine AW.block ?_
     refine AW.sr ?_
     refine AO.c (Calm.move rfl rfl) ?_
     refine AO.c (Calm.assign rfl rfl) ?_
     refine AO.nK [0, 1, 5, 12, 13] ?_
     refine AW.seq ?_
     refine AW.regQ (by rfl) (by decide +kernel) ?_
     refine AQ.c (Calm.move rfl rfl) ?_
     refine AQ.c (Calm.move rfl rfl) ?_
     obtain ⟨hg8, h⟩ := of_guard h
     refine AQ.c (Calm.idxL (f := e40) rfl rfl rfl hg8 Tryd.underlying23 sz40) ?_
     refine AQ.c (Calm.loadRp rfl rfl ag40 sz40) ?_
     refine AQ.c (Calm.move rfl rfl) ?_
     refine AQ.c (Calm.move rfl rfl) ?_
     obtain ⟨hg9, h⟩ := of_guard h
     refine AQ.c (Calm.idxL (f := e40) rfl rfl rfl hg9 Tryd.underlying23 sz40) ?_
     refine AQ.c (Calm.loadRp rfl rfl ag40 sz40) ?_
     refine AQ.c (x := eBool (!(decide ((lget p0 x4) = (lget p1 x4))))) (Calm.neS rfl rfl rfl eg40 (eqk40 (lget p0 x4) (lget p1 x4)) (by decide)) ?_
     refine AQ.nK [0, 1, 12, 13, 24] ?_
     rcases of_ite h with ⟨hc10, h⟩ | ⟨hc10, h⟩
     ·refine AW.condT' _ rfl hc10 ?_
      refine AW.sr ?_
      refine AO.c (Calm.assign rfl rfl) ?_
      refine AO.nK [4] ?_
      refine AW.rK [4] ?_
      have hr := Option.some.inj h
      subst hr
      exact ⟨[(eBool false)], ⟨rfl, rfl, trivial⟩, rfl⟩
     ·refine AW.condF' _ rfl hc10 ?_
      refine AW.sK [0, 1, 12, 13] ?_
      refine AW.reg ?_
      refine AO.c (x := eI64 (w64 (x4 + (1 : Int)))) (Calm.int rfl rfl rfl rfl) ?_
      refine AO.c (Calm.move rfl rfl) ?_
      refine AO.nK [0, 1, 12, 13] ?_
      exact ⟨kq6, Nat.lt_succ_self _, (w64 (x4 + (1 : Int))), rfl, rfl, by rw [hrec5]; exact h⟩
    ·refine AW.condN _ rfl hc7 ?_
     refine AW.eK [] ?_
     exact ⟨rfl, rfl, h⟩
   ·rintro _ _ ⟨rfl, rfl, h⟩
    rw [slices_Equal_api_Regex_api_Piece__c0.eq_1] at h
    refine AW.sr ?_
    refine AO.c (Calm.assign rfl rfl) ?_
    refine AO.nK [4] ?_
    refine AW.rK [4] ?_
    have hr := Option.some.inj h
    subst hr
    exact ⟨[(eBool true)], ⟨rfl, rfl, trivial⟩, rfl⟩
end Go.Avl.TE
/- bosket/rex.Same; printed by avmain.py. -/
namespace Go.Avl.TE
open Go Go.RowKit Go.Proofs Go.Avl
set_option linter.unusedVariables false
set_option maxRecDepth 100000
set_option maxHeartbeats 4000000
attribute [local irreducible] AW AO AQ Spec SpecH Calm

def rex_Same (k : Nat) (p0 : (List S40)) (p1 : (List S40)) : Option Bool :=
  (slices_Equal_api_Regex_api_Piece_ k p0 p1).bind fun t3 =>
  some (t3)
theorem rex_Same_spec {k : Nat} {p0 : (List S40)} {p1 : (List S40)} {r : Bool} (h : rex_Same k p0 p1 = some r) : Spec Tryd.prog 11 [(.fz 5 (p0.map e40)), (.fz 5 (p1.map e40))] (eBool r) := by
  rw [rex_Same.eq_1] at h
  refine Spec.intro (res := [.tmp 4]) Tryd.func11 rfl rfl rfl (Nat.le_of_ble_eq_true rfl) ?_
  refine AW.sr ?_
  refine AO.c (Calm.assign rfl rfl) ?_
  refine AO.nK [0, 1] ?_
  refine AW.sr ?_
  refine AO.c (Calm.move rfl rfl) ?_
  refine AO.c (Calm.move rfl rfl) ?_
  obtain ⟨t3, et3, h⟩ := of_bind h
  refine AO.callS [(.fz 5 (p0.map e40)), (.fz 5 (p1.map e40))] (eBool t3) 7 rfl (by decide) ok24 rfl rfl rfl ⟨rfl, rfl, rfl, rfl, trivial⟩ (slices_Equal_api_Regex_api_Piece__spec et3) ?_
  refine AO.c (Calm.assign rfl rfl) ?_
  refine AO.nK [4] ?_
  refine AW.rK [4] ?_
  have hr := Option.some.inj h
  subst hr
  exact ⟨[(eBool t3)], ⟨rfl, rfl, trivial⟩, rfl⟩
end Go.Avl.TE
/- bosket/rex.Sets; printed by avmain.py. -/
namespace Go.Avl.TE
open Go Go.RowKit Go.Proofs Go.Avl
set_option linter.unusedVariables false
set_option maxRecDepth 100000
set_option maxHeartbeats 4000000
attribute [local irreducible] AW AO AQ Spec SpecH Calm

def rex_Sets_c0 (k : Nat) (x3 : (List (Vector Int 4))) : Option (List (Vector Int 4)) :=
  some (x3)
def rex_Sets_c1 (k : Nat) (rec7 : ((List (Vector Int 4)) → Int → Option (List (Vector Int 4)))) (x6 : Int) (x11 : (List (Vector Int 4))) : Option (List (Vector Int 4)) :=
  rec7 x11 (w64 (x6 + (1 : Int)))
def rex_Sets_l2 (k : Nat) (p0 : (List S40)) : Nat → (List (Vector Int 4)) → Int → Option (List (Vector Int 4))
  | 0, _, _ => none
  | j + 1, x5, x6 =>
    if x6 < (p0.length : Int) then if 0 ≤ x6 ∧ x6 < (p0.length : Int) then if ((lget p0 x6).f0) = (1 : Int) then if (x5 ++ ([(lget p0 x6).f1] : List (Vector Int 4))).length * 32 ≤ 140737488355328 then rex_Sets_c1 k (rex_Sets_l2 k p0 j) x6 (x5 ++ ([(lget p0 x6).f1] : List (Vector Int 4)))
    else none
    else rex_Sets_c1 k (rex_Sets_l2 k p0 j) x6 x5
    else none
    else rex_Sets_c0 k x5
def rex_Sets (k : Nat) (p0 : (List S40)) : Option (List (Vector Int 4)) :=
  rex_Sets_l2 k p0 k ([] : List (Vector Int 4)) (0 : Int)
theorem rex_Sets_spec {k : Nat} {p0 : (List S40)} {r : (List (Vector Int 4))} (h : rex_Sets k p0 = some r) : Spec Tryd.prog 13 [(.fz 5 (p0.map e40))] (e34 r) := by
  rw [rex_Sets.eq_1] at h
  refine Spec.intro (res := [.tmp 2]) Tryd.func13 rfl rfl rfl (Nat.le_of_ble_eq_true rfl) ?_
  refine AW.sr ?_
  refine AO.c (Calm.assign rfl rfl) ?_
  refine AO.nK [0] ?_
  refine AW.sr ?_
  refine AO.c (Calm.assign rfl rfl) ?_
  refine AO.nK [0, 3] ?_
  refine AW.seq_mid (fun ρ H => ∃ (n2 : Nat) (x3 : (List (Vector Int 4))), ρ = [(3, (.own n2 0 x3.length))] ∧ H = [(n2, (.mem (.ar 4 (x3.map e38))))] ∧ rex_Sets_c0 k x3 = some r) ?_ ?_
  ·refine AW.sr ?_
   refine AO.c (Calm.move rfl rfl) ?_
   refine AO.c (Calm.lenL rfl rfl Tryd.underlying23) ?_
   refine AO.c (Calm.move rfl rfl) ?_
   refine AO.nK [3, 6, 7, 8] ?_
   refine AW.block ?_
   refine AW.nilOwn 3 4 rfl fun n18 => ?_
   refine AW.wK [3, 6, 7, 8] ?_
   refine AW.loop (fun kq ρ H => ∃ (n4 : Nat) (x5 : (List (Vector Int 4))) (x6 : Int), ρ = [(3, (.own n4 0 x5.length)), (6, (.fz 5 (p0.map e40))), (7, (eI64 (p0.length : Int))), (8, (eI64 x6))] ∧ H = [(n4, (.mem (.ar 4 (x5.map e38))))] ∧ rex_Sets_l2 k p0 kq x5 x6 = some r) k ⟨n18, ([] : List (Vector Int 4)), (0 : Int), rfl, rfl, h⟩ ?_
   rintro kq8 _ _ ⟨n4, x5, x6, rfl, rfl, h⟩
   cases kq8 with
   | zero => rw [rex_Sets_l2.eq_1] at h; cases h
   | succ kq8 =>
   rw [rex_Sets_l2.eq_2] at h
   generalize hrec7 : rex_Sets_l2 k p0 kq8 = rec7 at h
   refine AW.sr ?_
   refine AO.c (x := eBool (decide (x6 < (p0.length : Int)))) (Calm.int rfl rfl rfl rfl) ?_
   refine AO.nK [3, 6, 7, 8, 9] ?_
   refine AW.seq ?_
   rcases of_ite h with ⟨hc9, h⟩ | ⟨hc9, h⟩
   ·refine AW.condP _ rfl hc9 ?_
    refine AW.sK [3, 6, 7, 8] ?_
    refine AW.seq_mid (fun ρ H => ∃ (n10 : Nat) (x11 : (List (Vector Int 4))), ρ = [(3, (.own n10 0 x11.length)), (6, (.fz 5 (p0.map e40))), (7, (eI64 (p0.length : Int))), (8, (eI64 x6))] ∧ H = [(n10, (.mem (.ar 4 (x11.map e38))))] ∧ rex_Sets_c1 k rec7 x6 x11 = some r) ?_ ?_
    ·refine AW.block ?_
     refine AW.sr ?_
     obtain ⟨hg12, h⟩ := of_guard h
     refine AO.c (Calm.idxL (f := e40) rfl rfl rfl hg12 Tryd.underlying23 sz40) ?_
     refine AO.c (Calm.loadRp rfl rfl ag40 sz40) ?_
     refine AO.alloc rfl 5 rfl (by decide) rfl zr40 lay40 fun n13 => ?_
     refine AO.store (X' := (e40 (lget p0 x6))) 0 rfl rfl rfl rfl rfl rfl (Put.cast Put.here rfl) rfl rfl sz40 rfl ?_
     refine AO.nH [3, 5, 6, 7, 8] (H' := [(n4, (.mem (.ar 4 (x5.map e38)))), (n13, (.mem (e40 (lget p0 x6))))]) (Sub.cons 1 rfl (Sub.cons 0 rfl (Sub.nil _))) ?_
     refine AW.sr ?_
     refine AO.c (x := .ptr n13 0) (Calm.fldPtr rfl rfl Tryd.underlying40 rfl sz3 _ rfl) ?_
     refine AO.c (Calm.load 1 rfl rfl rfl (At.cast (At.fld0 At.here) rfl) ag3 sz3) ?_
     refine AO.c (x := eBool (decide (((lget p0 x6).f0) = (1 : Int)))) (Calm.int rfl rfl rfl rfl) ?_
     refine AO.nK [3, 5, 6, 7, 8, 14] ?_
     rcases of_ite h with ⟨hc14, h⟩ | ⟨hc14, h⟩
     ·refine AW.condP _ rfl hc14 ?_
      refine AW.reg ?_
      refine AO.c (Calm.move rfl rfl) ?_
      refine AO.c (x := .ptr n13 1) (Calm.fldPtr rfl rfl Tryd.underlying40 rfl sz38 _ rfl) ?_
      refine AO.c (Calm.load 1 rfl rfl rfl (At.cast (At.fldS (At.fld0 At.here)) rfl) ag38 (by rw [sz38]; simp [AV.size])) ?_
      refine AO.lit (Z := (.ar 1 ((Vector.replicate 4 (0 : Int)).toList.map eU64))) (xs := (([(lget p0 x6).f1] : List (Vector Int 4)).map e38)) (qs := [(0, (.ar 1 (((lget p0 x6).f1).toList.map eU64)))]) rfl 18 rfl (by decide) rfl ⟨rfl, rfl, rfl, trivial⟩ Tryd.underlying34 sz38 zr38 lay38 rfl (by decide) (litOK (z := 4) [(.ar 1 (((lget p0 x6).f1).toList.map eU64))] (vec_size _ _) ⟨⟨rfl, (vec_size _ _)⟩, trivial⟩) rfl fun n15 => ?_
      obtain ⟨hg17, h⟩ := of_guard h
      refine AO.appendL (l := x5) (m := ([(lget p0 x6).f1] : List (Vector Int 4))) 1 19 rfl (by decide) rfl rfl rfl rfl rfl (Src.ownL (f := e38) (l := ([(lget p0 x6).f1] : List (Vector Int 4))) 0 rfl) Tryd.underlying34 Tryd.underlying34 sz38 by38 zr38 rfl hg17 (by decide) fun n16 => ?_
      refine AO.c (Calm.assign rfl rfl) ?_
      refine AO.nH [3, 6, 7, 8] (H' := [(n16, (.mem (.ar 4 ((x5 ++ ([(lget p0 x6).f1] : List (Vector Int 4))).map e38))))]) (Sub.cons 1 rfl (Sub.nil _)) ?_
      exact ⟨n16, (x5 ++ ([(lget p0 x6).f1] : List (Vector Int 4))), rfl, rfl, h⟩
     ·refine AW.condN _ rfl hc14 ?_
      refine AW.sH [3, 6, 7, 8] (H' := [(n4, (.mem (.ar 4 (x5.map e38))))]) (Sub.cons 0 rfl (Sub.nil _)) ?_
      exact ⟨n4, x5, rfl, rfl, h⟩
    ·rintro _ _ ⟨n10, x11, rfl, rfl, h⟩
     rw [rex_Sets_c1.eq_1] at h
     refine AW.reg ?_
     refine AO.c (x := eI64 (w64 (x6 + (1 : Int)))) (Calm.int rfl rfl rfl rfl) ?_
     refine AO.c (Calm.move rfl rfl) ?_
     refine AO.nK [3, 6, 7, 8] ?_
     exact ⟨kq8, Nat.lt_succ_self _, n10, x11, (w64 (x6 + (1 : Int))), rfl, rfl, by rw [hrec7]; exact h⟩
   ·refine AW.condN _ rfl hc9 ?_
    refine AW.eK [3] ?_
    exact ⟨n4, x5, rfl, rfl, h⟩
  ·rintro _ _ ⟨n2, x3, rfl, rfl, h⟩
   rw [rex_Sets_c0.eq_1] at h
   refine AW.sr ?_
   refine AO.c (Calm.move rfl rfl) ?_
   refine AO.c (Calm.assign rfl rfl) ?_
   refine AO.nK [2] ?_
   refine AW.freezeS 0 [(2, (.fz 4 (x3.map e38)))] rfl ⟨fz_all rfl, trivial⟩ ?_
   refine AW.rK [2] ?_
   have hr := Option.some.inj h
   subst hr
   exact ⟨[(.fz 4 (x3.map e38))], ⟨rfl, rfl, trivial⟩, rfl⟩
end Go.Avl.TE
/- bosket/rex.Join; printed by avmain.py. -/
namespace Go.Avl.TE
open Go Go.RowKit Go.Proofs Go.Avl
set_option linter.unusedVariables false
set_option maxRecDepth 100000
set_option maxHeartbeats 4000000
attribute [local irreducible] AW AO AQ Spec SpecH Calm

def rex_Join_c0 (k : Nat) (p0 : Int) (x9 : (List S40)) : Option (List S40) :=
  if (x9 ++ ([(S40.mk p0 (Vector.replicate 4 (0 : Int)))] : List S40)).length * 40 ≤ 140737488355328 then some ((x9 ++ ([(S40.mk p0 (Vector.replicate 4 (0 : Int)))] : List S40)))
  else none
def rex_Join_l1 (k : Nat) (p0 : Int) (p1 : (List (List S40))) : Nat → (List S40) → Int → Option (List S40)
  | 0, _, _ => none
  | j + 1, x14, x15 =>
    if x15 < (p1.length : Int) then if 0 ≤ x15 ∧ x15 < (p1.length : Int) then if (x14 ++ (lget p1 x15)).length * 40 ≤ 140737488355328 then (rex_Join_l1 k p0 p1 j) (x14 ++ (lget p1 x15)) (w64 (x15 + (1 : Int)))
    else none
    else none
    else rex_Join_c0 k p0 x14
def rex_Join (k : Nat) (p0 : Int) (p1 : (List (List S40))) : Option (List S40) :=
  Option.bind (α := Bool) ((rex_Takes k p0).bind fun t5 =>
  if t5 ≠ (p1.length : Int) then some (true)
  else some (decide ((p1.length : Int) = (0 : Int)))) fun b3 =>
  if b3 = true then some ([])
  else rex_Join_l1 k p0 p1 k ([] : List S40) (0 : Int)
theorem rex_Join_spec {k : Nat} {p0 : Int} {p1 : (List (List S40))} {r : (List S40)} (h : rex_Join k p0 p1 = some r) : Spec Tryd.prog 18 [(eI64 p0), (.fz 1 (p1.map e23))] (e23 r) := by
  rw [rex_Join.eq_1] at h
  refine Spec.intro (res := [.tmp 4]) Tryd.func18 rfl rfl rfl (Nat.le_of_ble_eq_true rfl) ?_
  refine AW.sr ?_
  refine AO.c (Calm.assign rfl rfl) ?_
  refine AO.nK [0, 1] ?_
  refine AW.seq ?_
  refine AW.seq ?_
  obtain ⟨b3, hq4, h⟩ := of_bind h
  refine AW.regM [(0, (eI64 p0)), (1, (.fz 1 (p1.map e23))), (17, (eBool b3))] [] ?_ ?_
  ·refine AO.c (Calm.move rfl rfl) ?_
   obtain ⟨t5, et5, hq4⟩ := of_bind hq4
   refine AO.callS [(eI64 p0)] (eI64 t5) 9 rfl (by decide) ok25 rfl rfl rfl ⟨rfl, rfl, trivial⟩ (rex_Takes_spec et5) ?_
   refine AO.c (Calm.move rfl rfl) ?_
   refine AO.c (Calm.lenL rfl rfl Tryd.underlying41) ?_
   refine AO.c (x := eBool (decide (t5 ≠ (p1.length : Int)))) (Calm.int rfl rfl rfl rfl) ?_
   refine AO.c (Calm.move rfl rfl) ?_
   rcases of_ite hq4 with ⟨hc6, hq4⟩ | ⟨hc6, hq4⟩
   ·refine AO.sF rfl rfl (bD (decide_eq_true hc6)) ?_
    refine AO.sF rfl rfl (bD (decide_eq_true hc6)) ?_
    refine AO.sF rfl rfl (bD (decide_eq_true hc6)) ?_
    refine AO.c (Calm.pickT rfl (bD (decide_eq_true hc6)) rfl) ?_
    cases hq4
    refine AO.nilE ⟨rfl, rfl⟩ ?_ ?_
    · exact ⟨rfl, rfl, rfl, trivial⟩
    · exact (Sub.refl _)
   ·refine AO.cG rfl rfl (bD (decide_eq_false hc6)) (Calm.move rfl rfl) ?_
    refine AO.cG rfl rfl (bD (decide_eq_false hc6)) (Calm.lenL rfl rfl Tryd.underlying41) ?_
    refine AO.cG (x := eBool (decide ((p1.length : Int) = (0 : Int)))) rfl rfl (bD (decide_eq_false hc6)) (Calm.int rfl rfl rfl rfl) ?_
    refine AO.c (Calm.pickF rfl (bD (decide_eq_false hc6)) rfl) ?_
    cases hq4
    refine AO.nilE ⟨rfl, rfl⟩ ?_ ?_
    · exact ⟨rfl, rfl, rfl, trivial⟩
    · exact (Sub.refl _)
  ·rcases of_ite h with ⟨hc7, h⟩ | ⟨hc7, h⟩
   ·refine AW.condT' _ rfl hc7 ?_
    refine AW.sr ?_
    refine AO.c (Calm.assign rfl rfl) ?_
    refine AO.nK [4] ?_
    refine AW.coeC 4 (y' := (.fz 5 (([] : List S40).map e40))) rfl Coe.nil ?_
    refine AW.rK [4] ?_
    have hr := Option.some.inj h
    subst hr
    exact ⟨[(.fz 5 (([] : List S40).map e40))], ⟨rfl, rfl, trivial⟩, rfl⟩
   ·refine AW.condF' _ rfl hc7 ?_
    refine AW.sK [0, 1] ?_
    refine AW.sr ?_
    refine AO.c (Calm.assign rfl rfl) ?_
    refine AO.nK [0, 1, 5] ?_
    refine AW.seq_mid (fun ρ H => ∃ (n8 : Nat) (x9 : (List S40)), ρ = [(0, (eI64 p0)), (5, (.own n8 0 x9.length))] ∧ H = [(n8, (.mem (.ar 5 (x9.map e40))))] ∧ rex_Join_c0 k p0 x9 = some r) ?_ ?_
    ·refine AW.sr ?_
     refine AO.c (Calm.move rfl rfl) ?_
     refine AO.c (Calm.lenL rfl rfl Tryd.underlying41) ?_
     refine AO.c (Calm.move rfl rfl) ?_
     refine AO.nK [0, 5, 18, 19, 20] ?_
     refine AW.block ?_
     refine AW.nilOwn 5 5 rfl fun n22 => ?_
     refine AW.wK [0, 5, 18, 19, 20] ?_
     refine AW.loop (fun kq ρ H => ∃ (n13 : Nat) (x14 : (List S40)) (x15 : Int), ρ = [(0, (eI64 p0)), (5, (.own n13 0 x14.length)), (18, (.fz 1 (p1.map e23))), (19, (eI64 (p1.length : Int))), (20, (eI64 x15))] ∧ H = [(n13, (.mem (.ar 5 (x14.map e40))))] ∧ rex_Join_l1 k p0 p1 kq x14 x15 = some r) k ⟨n22, ([] : List S40), (0 : Int), rfl, rfl, h⟩ ?_
     rintro kq17 _ _ ⟨n13, x14, x15, rfl, rfl, h⟩
     cases kq17 with
     | zero => rw [rex_Join_l1.eq_1] at h; cases h
     | succ kq17 =>
     rw [rex_Join_l1.eq_2] at h
     generalize hrec16 : rex_Join_l1 k p0 p1 kq17 = rec16 at h
     refine AW.sr ?_
     refine AO.c (x := eBool (decide (x15 < (p1.length : Int)))) (Calm.int rfl rfl rfl rfl) ?_
     refine AO.nK [0, 5, 18, 19, 20, 21] ?_
     refine AW.seq ?_
     rcases of_ite h with ⟨hc18, h⟩ | ⟨hc18, h⟩
     ·refine AW.condP _ rfl hc18 ?_
      refine AW.sK [0, 5, 18, 19, 20] ?_
      refine AW.seq ?_
      refine AW.block ?_
      refine AW.sr ?_
      obtain ⟨hg19, h⟩ := of_guard h
      refine AO.c (Calm.idxL (f := e23) rfl rfl rfl hg19 Tryd.underlying41 sz23) ?_
      refine AO.c (Calm.loadRp rfl rfl ag23 sz23) ?_
      refine AO.c (Calm.assign rfl rfl) ?_
      refine AO.nK [0, 5, 7, 18, 19, 20] ?_
      refine AW.reg ?_
      refine AO.c (Calm.move rfl rfl) ?_
      refine AO.c (Calm.move rfl rfl) ?_
      obtain ⟨hg21, h⟩ := of_guard h
      refine AO.appendL (l := x14) (m := (lget p1 x15)) 0 26 rfl (by decide) rfl rfl rfl rfl rfl Src.fz Tryd.underlying23 Tryd.underlying23 sz40 by40 zr40 rfl hg21 (by decide) fun n20 => ?_
      refine AO.c (Calm.assign rfl rfl) ?_
      refine AO.nK [0, 5, 18, 19, 20] ?_
      refine AW.reg ?_
      refine AO.c (x := eI64 (w64 (x15 + (1 : Int)))) (Calm.int rfl rfl rfl rfl) ?_
      refine AO.c (Calm.move rfl rfl) ?_
      refine AO.nK [0, 5, 18, 19, 20] ?_
      exact ⟨kq17, Nat.lt_succ_self _, n20, (x14 ++ (lget p1 x15)), (w64 (x15 + (1 : Int))), rfl, rfl, by rw [hrec16]; exact h⟩
     ·refine AW.condN _ rfl hc18 ?_
      refine AW.eK [0, 5] ?_
      exact ⟨n13, x14, rfl, rfl, h⟩
    ·rintro _ _ ⟨n8, x9, rfl, rfl, h⟩
     rw [rex_Join_c0.eq_1] at h
     refine AW.sr ?_
     refine AO.c (Calm.move rfl rfl) ?_
     refine AO.c (Calm.move rfl rfl) ?_
     refine AO.c (x := .st [(1, (eI64 p0)), (4, (.ar 1 ((Vector.replicate 4 (0 : Int)).toList.map eU64)))]) (Calm.build (qs := [(0, (eI64 p0))]) rfl ⟨rfl, rfl, rfl, trivial⟩ Tryd.underlying40 rfl zr40 lay40 (.cons rfl rfl rfl rfl (Put.cast (Put.fld0 Put.here) rfl) .nil) rfl) ?_
     refine AO.lit (Z := (.st [(1, (eI64 (0 : Int))), (4, (.ar 1 ((Vector.replicate 4 (0 : Int)).toList.map eU64)))])) (xs := (([(S40.mk p0 (Vector.replicate 4 (0 : Int)))] : List S40).map e40)) (qs := [(0, (e40 (S40.mk p0 (Vector.replicate 4 (0 : Int)))))]) rfl 31 rfl (by decide) rfl ⟨rfl, rfl, rfl, trivial⟩ Tryd.underlying23 sz40 zr40 lay40 rfl (by decide) (litOK (z := 5) [(e40 (S40.mk p0 (Vector.replicate 4 (0 : Int))))] rfl ⟨⟨rfl, rfl⟩, trivial⟩) rfl fun n10 => ?_
     obtain ⟨hg12, h⟩ := of_guard h
     refine AO.appendL (l := x9) (m := ([(S40.mk p0 (Vector.replicate 4 (0 : Int)))] : List S40)) 1 32 rfl (by decide) rfl rfl rfl rfl rfl (Src.ownL (f := e40) (l := ([(S40.mk p0 (Vector.replicate 4 (0 : Int)))] : List S40)) 0 rfl) Tryd.underlying23 Tryd.underlying23 sz40 by40 zr40 rfl hg12 (by decide) fun n11 => ?_
     refine AO.c (Calm.assign rfl rfl) ?_
     refine AO.nH [4] (H' := [(n11, (.mem (.ar 5 ((x9 ++ ([(S40.mk p0 (Vector.replicate 4 (0 : Int)))] : List S40)).map e40))))]) (Sub.cons 1 rfl (Sub.nil _)) ?_
     refine AW.freezeS 0 [(4, (.fz 5 ((x9 ++ ([(S40.mk p0 (Vector.replicate 4 (0 : Int)))] : List S40)).map e40)))] rfl ⟨fz_all rfl, trivial⟩ ?_
     refine AW.rK [4] ?_
     have hr := Option.some.inj h
     subst hr
     exact ⟨[(.fz 5 ((x9 ++ ([(S40.mk p0 (Vector.replicate 4 (0 : Int)))] : List S40)).map e40))], ⟨rfl, rfl, trivial⟩, rfl⟩
end Go.Avl.TE
/- bosket/byteset.Full; printed by avmain.py. -/
namespace Go.Avl.TE
open Go Go.RowKit Go.Proofs Go.Avl
set_option linter.unusedVariables false
set_option maxRecDepth 100000
set_option maxHeartbeats 4000000
attribute [local irreducible] AW AO AQ Spec SpecH Calm

def byteset_Full (k : Nat) : Option (Vector Int 4) :=
  some ((vset (vset (vset (vset (Vector.replicate 4 (0 : Int)) (0 : Int) (18446744073709551615 : Int)) (1 : Int) (18446744073709551615 : Int)) (2 : Int) (18446744073709551615 : Int)) (3 : Int) (18446744073709551615 : Int)))
theorem byteset_Full_spec {k : Nat}  {r : (Vector Int 4)} (h : byteset_Full k = some r) : Spec Tryd.prog 36 [] (e38 r) := by
  rw [byteset_Full.eq_1] at h
  refine Spec.intro (res := [.cell 0 38]) Tryd.func36 rfl rfl rfl (Nat.le_of_ble_eq_true rfl) ?_
  refine AW.sr ?_
  refine AO.alloc rfl 0 rfl (by decide) rfl zr38 lay38 fun n1 => ?_
  refine AO.nK [0] ?_
  refine AW.sr ?_
  refine AO.c (x := .ar 1 ((vset (vset (vset (vset (Vector.replicate 4 (0 : Int)) (0 : Int) (18446744073709551615 : Int)) (1 : Int) (18446744073709551615 : Int)) (2 : Int) (18446744073709551615 : Int)) (3 : Int) (18446744073709551615 : Int)).toList.map eU64)) (Calm.buildAr (qs := [(0, (eU64 (18446744073709551615 : Int))), (1, (eU64 (18446744073709551615 : Int))), (2, (eU64 (18446744073709551615 : Int))), (3, (eU64 (18446744073709551615 : Int)))]) rfl ⟨rfl, rfl, rfl, rfl, rfl, rfl, rfl, rfl, rfl, rfl, rfl, rfl, trivial⟩ Tryd.underlying38 sz36 zr38 lay38 (.cons rfl rfl rfl rfl (Put.cast (Put.vidx (0 : Int) (18446744073709551615 : Int) (by decide) (by decide) Put.here) rfl) (.cons rfl rfl rfl rfl (Put.cast (Put.vidx (1 : Int) (18446744073709551615 : Int) (by decide) (by decide) Put.here) rfl) (.cons rfl rfl rfl rfl (Put.cast (Put.vidx (2 : Int) (18446744073709551615 : Int) (by decide) (by decide) Put.here) rfl) (.cons rfl rfl rfl rfl (Put.cast (Put.vidx (3 : Int) (18446744073709551615 : Int) (by decide) (by decide) Put.here) rfl) .nil)))) rfl) ?_
  refine AO.store (X' := (.ar 1 ((vset (vset (vset (vset (Vector.replicate 4 (0 : Int)) (0 : Int) (18446744073709551615 : Int)) (1 : Int) (18446744073709551615 : Int)) (2 : Int) (18446744073709551615 : Int)) (3 : Int) (18446744073709551615 : Int)).toList.map eU64))) 0 rfl rfl rfl rfl rfl rfl (Put.cast Put.here rfl) rfl (by simp [AV.size]) (by rw [sz38]; simp [AV.size]) rfl ?_
  refine AO.nK [0] ?_
  refine AW.rK [0] ?_
  have hr := Option.some.inj h
  subst hr
  exact ⟨[(.ar 1 ((vset (vset (vset (vset (Vector.replicate 4 (0 : Int)) (0 : Int) (18446744073709551615 : Int)) (1 : Int) (18446744073709551615 : Int)) (2 : Int) (18446744073709551615 : Int)) (3 : Int) (18446744073709551615 : Int)).toList.map eU64))], ⟨⟨_, 0, rfl, rfl, ag38, (by rw [sz38]; simp [AV.size])⟩, trivial⟩, rfl⟩
end Go.Avl.TE
/- math/bits.OnesCount64; printed by avmain.py. -/
namespace Go.Avl.TE
open Go Go.RowKit Go.Proofs Go.Avl
set_option linter.unusedVariables false
set_option maxRecDepth 100000
set_option maxHeartbeats 4000000
attribute [local irreducible] AW AO AQ Spec SpecH Calm

def math_bits_OnesCount64 (k : Nat) (p0 : Int) : Option Int :=
  (some (u64 ((bits .and .u64 (Int.fdiv p0 (2 ^ (min (1 : Int).toNat IntKind.u64.bits))) (6148914691236517205 : Int)) + (bits .and .u64 p0 (6148914691236517205 : Int))))).bind fun x2 =>
  (some (u64 ((bits .and .u64 (Int.fdiv x2 (2 ^ (min (2 : Int).toNat IntKind.u64.bits))) (3689348814741910323 : Int)) + (bits .and .u64 x2 (3689348814741910323 : Int))))).bind fun x3 =>
  (some (bits .and .u64 (u64 ((Int.fdiv x3 (2 ^ (min (4 : Int).toNat IntKind.u64.bits))) + x3)) (1085102592571150095 : Int))).bind fun x4 =>
  (some (u64 (x4 + (Int.fdiv x4 (2 ^ (min (8 : Int).toNat IntKind.u64.bits)))))).bind fun x5 =>
  (some (u64 (x5 + (Int.fdiv x5 (2 ^ (min (16 : Int).toNat IntKind.u64.bits)))))).bind fun x6 =>
  (some (u64 (x6 + (Int.fdiv x6 (2 ^ (min (32 : Int).toNat IntKind.u64.bits)))))).bind fun x7 =>
  some ((bits .and .i64 (w64 x7) (127 : Int)))
theorem math_bits_OnesCount64_spec {k : Nat} {p0 : Int} {r : Int} (h : math_bits_OnesCount64 k p0 = some r) : Spec Tryd.prog 47 [(eU64 p0)] (eI64 r) := by
  rw [math_bits_OnesCount64.eq_1] at h
  refine Spec.intro (res := [.tmp 2]) Tryd.func47 rfl rfl rfl (Nat.le_of_ble_eq_true rfl) ?_
  refine AW.sr ?_
  refine AO.c (Calm.assign rfl rfl) ?_
  refine AO.nK [0] ?_
  refine AW.sr ?_
  refine AO.c (Calm.move rfl rfl) ?_
  refine AO.c (x := eU64 (Int.fdiv p0 (2 ^ (min (1 : Int).toNat IntKind.u64.bits)))) (Calm.shr rfl rfl rfl (by decide)) ?_
  refine AO.c (x := eU64 (bits .and .u64 (Int.fdiv p0 (2 ^ (min (1 : Int).toNat IntKind.u64.bits))) (6148914691236517205 : Int))) (Calm.int rfl rfl rfl rfl) ?_
  refine AO.c (Calm.move rfl rfl) ?_
  refine AO.c (x := eU64 (bits .and .u64 p0 (6148914691236517205 : Int))) (Calm.int rfl rfl rfl rfl) ?_
  refine AO.c (x := eU64 (u64 ((bits .and .u64 (Int.fdiv p0 (2 ^ (min (1 : Int).toNat IntKind.u64.bits))) (6148914691236517205 : Int)) + (bits .and .u64 p0 (6148914691236517205 : Int))))) (Calm.int rfl rfl rfl rfl) ?_
  obtain ⟨x2, ex2, h⟩ := of_bind h
  refine AO.c (Calm.assign rfl (congrArg (fun x => some (eU64 x)) (Option.some.inj ex2))) ?_
  refine AO.nK [0] ?_
  refine AW.sr ?_
  refine AO.c (Calm.move rfl rfl) ?_
  refine AO.c (x := eU64 (Int.fdiv x2 (2 ^ (min (2 : Int).toNat IntKind.u64.bits)))) (Calm.shr rfl rfl rfl (by decide)) ?_
  refine AO.c (x := eU64 (bits .and .u64 (Int.fdiv x2 (2 ^ (min (2 : Int).toNat IntKind.u64.bits))) (3689348814741910323 : Int))) (Calm.int rfl rfl rfl rfl) ?_
  refine AO.c (Calm.move rfl rfl) ?_
  refine AO.c (x := eU64 (bits .and .u64 x2 (3689348814741910323 : Int))) (Calm.int rfl rfl rfl rfl) ?_
  refine AO.c (x := eU64 (u64 ((bits .and .u64 (Int.fdiv x2 (2 ^ (min (2 : Int).toNat IntKind.u64.bits))) (3689348814741910323 : Int)) + (bits .and .u64 x2 (3689348814741910323 : Int))))) (Calm.int rfl rfl rfl rfl) ?_
  obtain ⟨x3, ex3, h⟩ := of_bind h
  refine AO.c (Calm.assign rfl (congrArg (fun x => some (eU64 x)) (Option.some.inj ex3))) ?_
  refine AO.nK [0] ?_
  refine AW.sr ?_
  refine AO.c (Calm.move rfl rfl) ?_
  refine AO.c (x := eU64 (Int.fdiv x3 (2 ^ (min (4 : Int).toNat IntKind.u64.bits)))) (Calm.shr rfl rfl rfl (by decide)) ?_
  refine AO.c (Calm.move rfl rfl) ?_
  refine AO.c (x := eU64 (u64 ((Int.fdiv x3 (2 ^ (min (4 : Int).toNat IntKind.u64.bits))) + x3))) (Calm.int rfl rfl rfl rfl) ?_
  refine AO.c (x := eU64 (bits .and .u64 (u64 ((Int.fdiv x3 (2 ^ (min (4 : Int).toNat IntKind.u64.bits))) + x3)) (1085102592571150095 : Int))) (Calm.int rfl rfl rfl rfl) ?_
  obtain ⟨x4, ex4, h⟩ := of_bind h
  refine AO.c (Calm.assign rfl (congrArg (fun x => some (eU64 x)) (Option.some.inj ex4))) ?_
  refine AO.nK [0] ?_
  refine AW.sr ?_
  refine AO.c (Calm.move rfl rfl) ?_
  refine AO.c (Calm.move rfl rfl) ?_
  refine AO.c (x := eU64 (Int.fdiv x4 (2 ^ (min (8 : Int).toNat IntKind.u64.bits)))) (Calm.shr rfl rfl rfl (by decide)) ?_
  refine AO.c (x := eU64 (u64 (x4 + (Int.fdiv x4 (2 ^ (min (8 : Int).toNat IntKind.u64.bits)))))) (Calm.int rfl rfl rfl rfl) ?_
  obtain ⟨x5, ex5, h⟩ := of_bind h
  refine AO.c (Calm.assign rfl (congrArg (fun x => some (eU64 x)) (Option.some.inj ex5))) ?_
  refine AO.nK [0] ?_
  refine AW.sr ?_
  refine AO.c (Calm.move rfl rfl) ?_
  refine AO.c (Calm.move rfl rfl) ?_
  refine AO.c (x := eU64 (Int.fdiv x5 (2 ^ (min (16 : Int).toNat IntKind.u64.bits)))) (Calm.shr rfl rfl rfl (by decide)) ?_
  refine AO.c (x := eU64 (u64 (x5 + (Int.fdiv x5 (2 ^ (min (16 : Int).toNat IntKind.u64.bits)))))) (Calm.int rfl rfl rfl rfl) ?_
  obtain ⟨x6, ex6, h⟩ := of_bind h
  refine AO.c (Calm.assign rfl (congrArg (fun x => some (eU64 x)) (Option.some.inj ex6))) ?_
  refine AO.nK [0] ?_
  refine AW.sr ?_
  refine AO.c (Calm.move rfl rfl) ?_
  refine AO.c (Calm.move rfl rfl) ?_
  refine AO.c (x := eU64 (Int.fdiv x6 (2 ^ (min (32 : Int).toNat IntKind.u64.bits)))) (Calm.shr rfl rfl rfl (by decide)) ?_
  refine AO.c (x := eU64 (u64 (x6 + (Int.fdiv x6 (2 ^ (min (32 : Int).toNat IntKind.u64.bits)))))) (Calm.int rfl rfl rfl rfl) ?_
  obtain ⟨x7, ex7, h⟩ := of_bind h
  refine AO.c (Calm.assign rfl (congrArg (fun x => some (eU64 x)) (Option.some.inj ex7))) ?_
  refine AO.nK [0] ?_
  refine AW.sr ?_
  refine AO.c (Calm.move rfl rfl) ?_
  refine AO.c (x := eI64 (w64 x7)) (Calm.conv rfl rfl Tryd.underlying36 Tryd.underlying3) ?_
  refine AO.c (x := eI64 (bits .and .i64 (w64 x7) (127 : Int))) (Calm.int rfl rfl rfl rfl) ?_
  refine AO.c (Calm.assign rfl rfl) ?_
  refine AO.nK [2] ?_
  refine AW.rK [2] ?_
  have hr := Option.some.inj h
  subst hr
  exact ⟨[(eI64 (bits .and .i64 (w64 x7) (127 : Int)))], ⟨rfl, rfl, trivial⟩, rfl⟩
end Go.Avl.TE
/- bosket/byteset.Len; printed by avmain.py. -/
namespace Go.Avl.TE
open Go Go.RowKit Go.Proofs Go.Avl
set_option linter.unusedVariables false
set_option maxRecDepth 100000
set_option maxHeartbeats 4000000
attribute [local irreducible] AW AO AQ Spec SpecH Calm

def byteset_Len_c0 (k : Nat) (x3 : Int) : Option Int :=
  some (x3)
def byteset_Len_l1 (k : Nat) (p0 : (Vector Int 4)) : Nat → Int → Int → Option Int
  | 0, _, _ => none
  | j + 1, x4, x5 =>
    if x5 < (4 : Int) then if 0 ≤ x5 ∧ x5 < (4 : Int) then (math_bits_OnesCount64 k (vget p0 x5)).bind fun t10 =>
    (byteset_Len_l1 k p0 j) (w64 (x4 + t10)) (w64 (x5 + (1 : Int)))
    else none
    else byteset_Len_c0 k x4
def byteset_Len (k : Nat) (p0 : (Vector Int 4)) : Option Int :=
  byteset_Len_l1 k p0 k (0 : Int) (0 : Int)
theorem byteset_Len_spec {k : Nat} {p0 : (Vector Int 4)} {r : Int} (h : byteset_Len k p0 = some r) : Spec Tryd.prog 37 [(.ar 1 (p0.toList.map eU64))] (eI64 r) := by
  rw [byteset_Len.eq_1] at h
  refine Spec.intro (res := [.tmp 2]) Tryd.func37 rfl rfl rfl (Nat.le_of_ble_eq_true rfl) ?_
  refine AW.sr ?_
  refine AO.box rfl 1 rfl (by decide) rfl rfl rfl fun n2 => ?_
  refine AO.c (Calm.assign rfl rfl) ?_
  refine AO.nK [1] ?_
  refine AW.sr ?_
  refine AO.c (Calm.assign rfl rfl) ?_
  refine AO.nK [1, 3] ?_
  refine AW.seq_mid (fun ρ H => ∃ (x3 : Int), ρ = [(3, (eI64 x3))] ∧ H = [] ∧ byteset_Len_c0 k x3 = some r) ?_ ?_
  ·refine AW.sr ?_
   refine AO.c (Calm.load 0 rfl rfl rfl (At.cast At.here rfl) ag38 (by rw [sz38]; simp [AV.size])) ?_
   refine AO.c (Calm.move rfl rfl) ?_
   refine AO.nH [3, 6, 7] (H' := []) (Sub.nil _) ?_
   refine AW.block ?_
   refine AW.wK [3, 6, 7] ?_
   refine AW.loop (fun kq ρ H => ∃ (x4 : Int) (x5 : Int), ρ = [(3, (eI64 x4)), (6, (.ar 1 (p0.toList.map eU64))), (7, (eI64 x5))] ∧ H = [] ∧ byteset_Len_l1 k p0 kq x4 x5 = some r) k ⟨(0 : Int), (0 : Int), rfl, rfl, h⟩ ?_
   rintro kq7 _ _ ⟨x4, x5, rfl, rfl, h⟩
   cases kq7 with
   | zero => rw [byteset_Len_l1.eq_1] at h; cases h
   | succ kq7 =>
   rw [byteset_Len_l1.eq_2] at h
   generalize hrec6 : byteset_Len_l1 k p0 kq7 = rec6 at h
   refine AW.sr ?_
   refine AO.c (x := eBool (decide (x5 < (4 : Int)))) (Calm.int rfl rfl rfl rfl) ?_
   refine AO.nK [3, 6, 7, 8] ?_
   refine AW.seq ?_
   rcases of_ite h with ⟨hc8, h⟩ | ⟨hc8, h⟩
   ·refine AW.condP _ rfl hc8 ?_
    refine AW.sK [3, 6, 7] ?_
    refine AW.seq ?_
    refine AW.block ?_
    refine AW.sr ?_
    obtain ⟨hg9, h⟩ := of_guard h
    refine AO.c (x := eU64 (vget p0 x5)) (Calm.idxVv (f := eU64) rfl rfl rfl hg9 Tryd.underlying38 sz36 ag36 rfl) ?_
    refine AO.c (Calm.assign rfl rfl) ?_
    refine AO.nK [3, 5, 6, 7] ?_
    refine AW.reg ?_
    refine AO.c (Calm.move rfl rfl) ?_
    refine AO.c (Calm.move rfl rfl) ?_
    obtain ⟨t10, et10, h⟩ := of_bind h
    refine AO.callS [(eU64 (vget p0 x5))] (eI64 t10) 12 rfl (by decide) ok47 rfl rfl rfl ⟨rfl, rfl, trivial⟩ (math_bits_OnesCount64_spec et10) ?_
    refine AO.c (x := eI64 (w64 (x4 + t10))) (Calm.int rfl rfl rfl rfl) ?_
    refine AO.c (Calm.assign rfl rfl) ?_
    refine AO.nK [3, 6, 7] ?_
    refine AW.reg ?_
    refine AO.c (x := eI64 (w64 (x5 + (1 : Int)))) (Calm.int rfl rfl rfl rfl) ?_
    refine AO.c (Calm.move rfl rfl) ?_
    refine AO.nK [3, 6, 7] ?_
    exact ⟨kq7, Nat.lt_succ_self _, (w64 (x4 + t10)), (w64 (x5 + (1 : Int))), rfl, rfl, by rw [hrec6]; exact h⟩
   ·refine AW.condN _ rfl hc8 ?_
    refine AW.eK [3] ?_
    exact ⟨x4, rfl, rfl, h⟩
  ·rintro _ _ ⟨x3, rfl, rfl, h⟩
   rw [byteset_Len_c0.eq_1] at h
   refine AW.sr ?_
   refine AO.c (Calm.move rfl rfl) ?_
   refine AO.c (Calm.assign rfl rfl) ?_
   refine AO.nK [2] ?_
   refine AW.rK [2] ?_
   have hr := Option.some.inj h
   subst hr
   exact ⟨[(eI64 x3)], ⟨rfl, rfl, trivial⟩, rfl⟩
end Go.Avl.TE
/- math/bits.TrailingZeros64; printed by avmain.py. -/
namespace Go.Avl.TE
open Go Go.RowKit Go.Proofs Go.Avl
set_option linter.unusedVariables false
set_option maxRecDepth 100000
set_option maxHeartbeats 4000000
attribute [local irreducible] AW AO AQ Spec SpecH Calm

def math_bits_TrailingZeros64 (k : Nat) (p0 : Int) : Option Int :=
  if p0 = (0 : Int) then some ((64 : Int))
  else if 0 ≤ (Int.fdiv (u64 ((bits .and .u64 p0 (IntKind.u64.wrap (0 - p0))) * (285870213051353865 : Int))) (2 ^ (min (58 : Int).toNat IntKind.u64.bits))) ∧ (Int.fdiv (u64 ((bits .and .u64 p0 (IntKind.u64.wrap (0 - p0))) * (285870213051353865 : Int))) (2 ^ (min (58 : Int).toNat IntKind.u64.bits))) < (64 : Int) then (some (w64 (lget tab0 (Int.fdiv (u64 ((bits .and .u64 p0 (IntKind.u64.wrap (0 - p0))) * (285870213051353865 : Int))) (2 ^ (min (58 : Int).toNat IntKind.u64.bits)))))).bind fun x4 =>
  some (x4)
  else none
theorem math_bits_TrailingZeros64_spec {k : Nat} {p0 : Int} {r : Int} (h : math_bits_TrailingZeros64 k p0 = some r) : Spec Tryd.prog 50 [(eU64 p0)] (eI64 r) := by
  rw [math_bits_TrailingZeros64.eq_1] at h
  refine Spec.intro (res := [.tmp 2]) Tryd.func50 rfl rfl rfl (Nat.le_of_ble_eq_true rfl) ?_
  refine AW.sr ?_
  refine AO.c (Calm.assign rfl rfl) ?_
  refine AO.nK [0] ?_
  refine AW.seq ?_
  refine AW.sr ?_
  refine AO.c (Calm.move rfl rfl) ?_
  refine AO.c (x := eBool (decide (p0 = (0 : Int)))) (Calm.int rfl rfl rfl rfl) ?_
  refine AO.nK [0, 4] ?_
  rcases of_ite h with ⟨hc2, h⟩ | ⟨hc2, h⟩
  ·refine AW.condP _ rfl hc2 ?_
   refine AW.sr ?_
   refine AO.c (Calm.assign rfl rfl) ?_
   refine AO.nK [2] ?_
   refine AW.rK [2] ?_
   have hr := Option.some.inj h
   subst hr
   exact ⟨[(eI64 (64 : Int))], ⟨rfl, rfl, trivial⟩, rfl⟩
  ·refine AW.condN _ rfl hc2 ?_
   refine AW.sK [0] ?_
   refine AW.sr ?_
   refine AO.c (Calm.move rfl rfl) ?_
   refine AO.c (Calm.move rfl rfl) ?_
   refine AO.c (x := eU64 (IntKind.u64.wrap (0 - p0))) (Calm.neg rfl rfl) ?_
   refine AO.c (x := eU64 (bits .and .u64 p0 (IntKind.u64.wrap (0 - p0)))) (Calm.int rfl rfl rfl rfl) ?_
   refine AO.c (x := eU64 (u64 ((bits .and .u64 p0 (IntKind.u64.wrap (0 - p0))) * (285870213051353865 : Int)))) (Calm.int rfl rfl rfl rfl) ?_
   refine AO.c (x := eU64 (Int.fdiv (u64 ((bits .and .u64 p0 (IntKind.u64.wrap (0 - p0))) * (285870213051353865 : Int))) (2 ^ (min (58 : Int).toNat IntKind.u64.bits)))) (Calm.shr rfl rfl rfl (by decide)) ?_
   obtain ⟨hg3, h⟩ := of_guard h
   refine AO.c (x := .fl (.pointer (some ⟨0, (Int.fdiv (u64 ((bits .and .u64 p0 (IntKind.u64.wrap (0 - p0))) * (285870213051353865 : Int))) (2 ^ (min (58 : Int).toNat IntKind.u64.bits))).toNat * 1, none⟩))) (Calm.idxGlob rfl rfl rfl hg3 Tryd.underlying80 sz5) ?_
   refine AO.c (x := eU8 (lget tab0 (Int.fdiv (u64 ((bits .and .u64 p0 (IntKind.u64.wrap (0 - p0))) * (285870213051353865 : Int))) (2 ^ (min (58 : Int).toNat IntKind.u64.bits))))) (Calm.loadTab rfl rfl (tb0 _ hg3) ag5 sz5) ?_
   refine AO.c (x := eI64 (w64 (lget tab0 (Int.fdiv (u64 ((bits .and .u64 p0 (IntKind.u64.wrap (0 - p0))) * (285870213051353865 : Int))) (2 ^ (min (58 : Int).toNat IntKind.u64.bits)))))) (Calm.conv rfl rfl Tryd.underlying5 Tryd.underlying3) ?_
   obtain ⟨x4, ex4, h⟩ := of_bind h
   refine AO.c (Calm.assign rfl (congrArg (fun x => some (eI64 x)) (Option.some.inj ex4))) ?_
   refine AO.nK [2] ?_
   refine AW.rK [2] ?_
   have hr := Option.some.inj h
   subst hr
   exact ⟨[(eI64 x4)], ⟨rfl, rfl, trivial⟩, rfl⟩
end Go.Avl.TE
