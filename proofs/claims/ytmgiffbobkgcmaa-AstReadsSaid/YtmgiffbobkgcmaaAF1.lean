/- Parts: T2B, T2f32, T2f24, T2f31, T2f30, T2f64, T2f33, T2f34, T2f35. -/
import Derived.Test.YtmgiffbobkgcmaaAv3
import Derived.Test.YtmgiffbobkgcmaaProg
/- Types and facts; printed by avmain.py. -/
namespace Go.Avl.T2
open Go Go.RowKit Go.Proofs Go.Avl
set_option linter.unusedVariables false
set_option maxRecDepth 100000
set_option maxHeartbeats 4000000
structure S23 where
  f0 : Int
  f1 : Int
deriving Inhabited, DecidableEq
abbrev e23 (x : S23) : AV := .st [(1, (eI64 x.f0)), (1, (eI64 x.f1))]
structure S88 where
  f0 : ByteArray
  f1 : Int
  f2 : Int
deriving Inhabited, DecidableEq
abbrev e88 (x : S88) : AV := .st [(1, (eStr x.f0)), (1, (eI64 x.f1)), (1, (eI64 x.f2))]
structure S43 where
  f0 : Bool
  f1 : Int
  f2 : Int
  f3 : ByteArray
deriving Inhabited, DecidableEq
abbrev e43 (x : S43) : AV := .st [(1, (eBool x.f0)), (1, (eI64 x.f1)), (1, (eI64 x.f2)), (1, (eStr x.f3))]
abbrev e37 (l : List S43) : AV := .fz 4 (l.map e43)
abbrev e49 (l : List (List S43)) : AV := .fz 1 (l.map e37)
abbrev e45 (l : List ByteArray) : AV := .fz 1 (l.map eStr)
structure S55 where
  f0 : Int
  f1 : Int
  f2 : ByteArray
deriving Inhabited, DecidableEq
abbrev e55 (x : S55) : AV := .st [(1, (eI64 x.f0)), (1, (eI64 x.f1)), (1, (eStr x.f2))]
structure S60 where
  f0 : Int
  f1 : Int
  f2 : ByteArray
deriving Inhabited, DecidableEq
abbrev e60 (x : S60) : AV := .st [(1, (eI64 x.f0)), (1, (eI64 x.f1)), (1, (eStr x.f2))]
theorem xok93 : ExtOK Try.prog 93 Go.Extern.BytealgIndexByte.indexByte := ⟨_, Try.func93, by kernel_rfl, by kernel_rfl, by kernel_rfl, by kernel_rfl⟩
theorem ok78 : FnOK Try.prog 78 := FnOK.mk Try.func78 rfl rfl
theorem ok91 : FnOK Try.prog 91 := FnOK.mk Try.func91 rfl rfl
theorem xok74 : ExtOK Try.prog 74 Go.Extern.BytealgCount.count := ⟨_, Try.func74, by kernel_rfl, by kernel_rfl, by kernel_rfl, by kernel_rfl⟩
theorem ok75 : FnOK Try.prog 75 := FnOK.mk Try.func75 rfl rfl
theorem ok76 : FnOK Try.prog 76 := FnOK.mk Try.func76 rfl rfl
theorem zr23 : tyZero Try.prog 23 = some (([.int .i64 0] ++ ([.int .i64 0] ++ []))) := by rfl
theorem lay23 : ∀ g, Sim g (.st [(1, (eI64 (0 : Int))), (1, (eI64 (0 : Int)))]) (([.int .i64 0] ++ ([.int .i64 0] ++ []))) := fun g => (Sim.stCons (lay_fl rfl) rfl (Sim.stCons (lay_fl rfl) rfl Sim.stNil))
theorem ok55 : FnOK Try.prog 55 := FnOK.mk Try.func55 rfl rfl
theorem ok56 : FnOK Try.prog 56 := FnOK.mk Try.func56 rfl rfl
theorem sz23 : tySize Try.prog 23 = some 2 := by rfl
theorem ag23 : tyAgg Try.prog 23 = some true := by rfl
theorem sz5 : tySize Try.prog 5 = some 1 := by rfl
theorem zr5 : tyZero Try.prog 5 = some ([.int .u8 0]) := by rfl
theorem lay5 : ∀ g, Sim g (eU8 (0 : Int)) ([.int .u8 0]) := fun g => (lay_fl rfl)
theorem ok80 : FnOK Try.prog 80 := FnOK.mk Try.func80 rfl rfl
theorem sz3 : tySize Try.prog 3 = some 1 := by rfl
theorem ag3 : tyAgg Try.prog 3 = some false := by rfl
theorem ok59 : FnOK Try.prog 59 := FnOK.mk Try.func59 rfl rfl
theorem ok14 : FnOK Try.prog 14 := FnOK.mk Try.func14 rfl rfl
theorem ok20 : FnOK Try.prog 20 := FnOK.mk Try.func20 rfl rfl
theorem ok57 : FnOK Try.prog 57 := FnOK.mk Try.func57 rfl rfl
theorem ok12 : FnOK Try.prog 12 := FnOK.mk Try.func12 rfl rfl
theorem ok13 : FnOK Try.prog 13 := FnOK.mk Try.func13 rfl rfl
theorem ok15 : FnOK Try.prog 15 := FnOK.mk Try.func15 rfl rfl
theorem ok94 : FnOK Try.prog 94 := FnOK.mk Try.func94 rfl rfl
theorem ok79 : FnOK Try.prog 79 := FnOK.mk Try.func79 rfl rfl
theorem ok58 : FnOK Try.prog 58 := FnOK.mk Try.func58 rfl rfl
theorem ok19 : FnOK Try.prog 19 := FnOK.mk Try.func19 rfl rfl
theorem ok16 : FnOK Try.prog 16 := FnOK.mk Try.func16 rfl rfl
theorem ok17 : FnOK Try.prog 17 := FnOK.mk Try.func17 rfl rfl
theorem ok18 : FnOK Try.prog 18 := FnOK.mk Try.func18 rfl rfl
theorem sz9 : tySize Try.prog 9 = some 1 := by rfl
theorem ag9 : tyAgg Try.prog 9 = some false := by rfl
theorem sz43 : tySize Try.prog 43 = some 4 := by rfl
theorem by43 : tyBytes Try.prog 43 = some 40 := by rfl
theorem zr43 : tyZero Try.prog 43 = some (([.bool false] ++ ([.int .i64 0] ++ ([.int .i64 0] ++ ([.string ByteArray.empty] ++ []))))) := by rfl
theorem sz37 : tySize Try.prog 37 = some 1 := by rfl
theorem ag37 : tyAgg Try.prog 37 = some false := by rfl
theorem ok85 : FnOK Try.prog 85 := FnOK.mk Try.func85 rfl rfl
theorem ag43 : tyAgg Try.prog 43 = some true := by rfl
theorem lay43 : ∀ g, Sim g (.st [(1, (eBool false)), (1, (eI64 (0 : Int))), (1, (eI64 (0 : Int))), (1, (eStr ByteArray.empty))]) (([.bool false] ++ ([.int .i64 0] ++ ([.int .i64 0] ++ ([.string ByteArray.empty] ++ []))))) := fun g => (Sim.stCons (lay_fl rfl) rfl (Sim.stCons (lay_fl rfl) rfl (Sim.stCons (lay_fl rfl) rfl (Sim.stCons (lay_fl rfl) rfl Sim.stNil))))
theorem ok66 : FnOK Try.prog 66 := FnOK.mk Try.func66 rfl rfl
theorem zr37 : tyZero Try.prog 37 = some ([.slice none 0 0]) := by rfl
theorem lay37 : ∀ g, Sim g (.fl (.slice none 0 0)) ([.slice none 0 0]) := fun g => (lay_fl rfl)
theorem ok98 : FnOK Try.prog 98 := FnOK.mk Try.func98 rfl rfl
theorem ok87 : FnOK Try.prog 87 := FnOK.mk Try.func87 rfl rfl
theorem by5 : tyBytes Try.prog 5 = some 1 := by rfl
theorem ok83 : FnOK Try.prog 83 := FnOK.mk Try.func83 rfl rfl
theorem ok84 : FnOK Try.prog 84 := FnOK.mk Try.func84 rfl rfl
theorem ok68 : FnOK Try.prog 68 := FnOK.mk Try.func68 rfl rfl
theorem ok62 : FnOK Try.prog 62 := FnOK.mk Try.func62 rfl rfl
theorem by37 : tyBytes Try.prog 37 = some 24 := by rfl
theorem ok38 : FnOK Try.prog 38 := FnOK.mk Try.func38 rfl rfl
theorem sz4 : tySize Try.prog 4 = some 1 := by rfl
theorem ag4 : tyAgg Try.prog 4 = some false := by rfl
theorem ok31 : FnOK Try.prog 31 := FnOK.mk Try.func31 rfl rfl
theorem ok95 : FnOK Try.prog 95 := FnOK.mk Try.func95 rfl rfl
theorem ok96 : FnOK Try.prog 96 := FnOK.mk Try.func96 rfl rfl
theorem ok81 : FnOK Try.prog 81 := FnOK.mk Try.func81 rfl rfl
theorem ok30 : FnOK Try.prog 30 := FnOK.mk Try.func30 rfl rfl
theorem ok64 : FnOK Try.prog 64 := FnOK.mk Try.func64 rfl rfl
theorem ok60 : FnOK Try.prog 60 := FnOK.mk Try.func60 rfl rfl
theorem ok33 : FnOK Try.prog 33 := FnOK.mk Try.func33 rfl rfl
theorem ok23 : FnOK Try.prog 23 := FnOK.mk Try.func23 rfl rfl
theorem zr88 : tyZero Try.prog 88 = some (([.string ByteArray.empty] ++ ([.int .i64 0] ++ ([.int .i64 0] ++ [])))) := by rfl
theorem lay88 : ∀ g, Sim g (.st [(1, (eStr ByteArray.empty)), (1, (eI64 (0 : Int))), (1, (eI64 (0 : Int)))]) (([.string ByteArray.empty] ++ ([.int .i64 0] ++ ([.int .i64 0] ++ [])))) := fun g => (Sim.stCons (lay_fl rfl) rfl (Sim.stCons (lay_fl rfl) rfl (Sim.stCons (lay_fl rfl) rfl Sim.stNil)))
theorem ok26 : FnOK Try.prog 26 := FnOK.mk Try.func26 rfl rfl
theorem ok32 : FnOK Try.prog 32 := FnOK.mk Try.func32 rfl rfl
theorem ok97 : FnOK Try.prog 97 := FnOK.mk Try.func97 rfl rfl
theorem ok82 : FnOK Try.prog 82 := FnOK.mk Try.func82 rfl rfl
theorem ok61 : FnOK Try.prog 61 := FnOK.mk Try.func61 rfl rfl
theorem ok35 : FnOK Try.prog 35 := FnOK.mk Try.func35 rfl rfl
theorem ok25 : FnOK Try.prog 25 := FnOK.mk Try.func25 rfl rfl
theorem eqk43 (x y : S43) : EqOK Try.prog 2 43 (e43 x) (e43 y) (decide (x = y)) := (EqOK.struct (bs := [decide (x.f0 = y.f0), decide (x.f1 = y.f1), decide (x.f2 = y.f2), decide (x.f3 = y.f3)]) Try.underlying43 (by decide +kernel) ⟨⟨rfl, (eBool x.f0), (eBool y.f0), (At.cast (At.fld0 At.here) rfl), (At.cast (At.fld0 At.here) rfl), ag4, ag4, sz4, sz4, (EqOK.bool Try.underlying4)⟩, ⟨rfl, (eI64 x.f1), (eI64 y.f1), (At.cast (At.fldS (At.fld0 At.here)) rfl), (At.cast (At.fldS (At.fld0 At.here)) rfl), ag3, ag3, sz3, sz3, (EqOK.int Try.underlying3)⟩, ⟨rfl, (eI64 x.f2), (eI64 y.f2), (At.cast (At.fldS (At.fldS (At.fld0 At.here))) rfl), (At.cast (At.fldS (At.fldS (At.fld0 At.here))) rfl), ag3, ag3, sz3, sz3, (EqOK.int Try.underlying3)⟩, ⟨rfl, (eStr x.f3), (eStr y.f3), (At.cast (At.fldS (At.fldS (At.fldS (At.fld0 At.here)))) rfl), (At.cast (At.fldS (At.fldS (At.fldS (At.fld0 At.here)))) rfl), ag9, ag9, sz9, sz9, (EqOK.str Try.underlying9)⟩, trivial⟩).of (by cases x; cases y; simp)
theorem eg43 : Try.prog.eqGuardType Try.prog.depth 43 = false := by decide +kernel
theorem ok21 : FnOK Try.prog 21 := FnOK.mk Try.func21 rfl rfl
theorem ok22 : FnOK Try.prog 22 := FnOK.mk Try.func22 rfl rfl
theorem ok24 : FnOK Try.prog 24 := FnOK.mk Try.func24 rfl rfl
theorem ok27 : FnOK Try.prog 27 := FnOK.mk Try.func27 rfl rfl
theorem ok99 : FnOK Try.prog 99 := FnOK.mk Try.func99 rfl rfl
theorem ok89 : FnOK Try.prog 89 := FnOK.mk Try.func89 rfl rfl
theorem ok70 : FnOK Try.prog 70 := FnOK.mk Try.func70 rfl rfl
theorem ok63 : FnOK Try.prog 63 := FnOK.mk Try.func63 rfl rfl
theorem zr9 : tyZero Try.prog 9 = some ([.string ByteArray.empty]) := by rfl
theorem lay9 : ∀ g, Sim g (eStr ByteArray.empty) ([.string ByteArray.empty]) := fun g => (lay_fl rfl)
theorem by9 : tyBytes Try.prog 9 = some 16 := by rfl
theorem ok28 : FnOK Try.prog 28 := FnOK.mk Try.func28 rfl rfl
theorem ok29 : FnOK Try.prog 29 := FnOK.mk Try.func29 rfl rfl
theorem ok34 : FnOK Try.prog 34 := FnOK.mk Try.func34 rfl rfl
theorem ok36 : FnOK Try.prog 36 := FnOK.mk Try.func36 rfl rfl
theorem ok65 : FnOK Try.prog 65 := FnOK.mk Try.func65 rfl rfl
theorem ok37 : FnOK Try.prog 37 := FnOK.mk Try.func37 rfl rfl
theorem ok86 : FnOK Try.prog 86 := FnOK.mk Try.func86 rfl rfl
theorem zr94 : tyZero Try.prog 94 = some ((List.replicate 12 (.string ByteArray.empty))) := by rfl
theorem lay94 : ∀ g, Sim g (.ar 1 ((Vector.replicate 12 ByteArray.empty).toList.map eStr)) ((List.replicate 12 (.string ByteArray.empty))) := fun g => (lay_vec1 (lay_fl rfl))
theorem sz94 : tySize Try.prog 94 = some 12 := by rfl
theorem ok40 : FnOK Try.prog 40 := FnOK.mk Try.func40 rfl rfl
theorem ok88 : FnOK Try.prog 88 := FnOK.mk Try.func88 rfl rfl
theorem ag55 : tyAgg Try.prog 55 = some true := by rfl
theorem sz55 : tySize Try.prog 55 = some 3 := by rfl
theorem ok43 : FnOK Try.prog 43 := FnOK.mk Try.func43 rfl rfl
theorem zr55 : tyZero Try.prog 55 = some (([.int .i64 0] ++ ([.int .i64 0] ++ ([.string ByteArray.empty] ++ [])))) := by rfl
theorem lay55 : ∀ g, Sim g (.st [(1, (eI64 (0 : Int))), (1, (eI64 (0 : Int))), (1, (eStr ByteArray.empty))]) (([.int .i64 0] ++ ([.int .i64 0] ++ ([.string ByteArray.empty] ++ [])))) := fun g => (Sim.stCons (lay_fl rfl) rfl (Sim.stCons (lay_fl rfl) rfl (Sim.stCons (lay_fl rfl) rfl Sim.stNil)))
theorem ok67 : FnOK Try.prog 67 := FnOK.mk Try.func67 rfl rfl
theorem ok48 : FnOK Try.prog 48 := FnOK.mk Try.func48 rfl rfl
theorem ok69 : FnOK Try.prog 69 := FnOK.mk Try.func69 rfl rfl
theorem ok42 : FnOK Try.prog 42 := FnOK.mk Try.func42 rfl rfl
theorem ok47 : FnOK Try.prog 47 := FnOK.mk Try.func47 rfl rfl
theorem eqk55 (x y : S55) : EqOK Try.prog 2 55 (e55 x) (e55 y) (decide (x = y)) := (EqOK.struct (bs := [decide (x.f0 = y.f0), decide (x.f1 = y.f1), decide (x.f2 = y.f2)]) Try.underlying55 (by decide +kernel) ⟨⟨rfl, (eI64 x.f0), (eI64 y.f0), (At.cast (At.fld0 At.here) rfl), (At.cast (At.fld0 At.here) rfl), ag3, ag3, sz3, sz3, (EqOK.int Try.underlying3)⟩, ⟨rfl, (eI64 x.f1), (eI64 y.f1), (At.cast (At.fldS (At.fld0 At.here)) rfl), (At.cast (At.fldS (At.fld0 At.here)) rfl), ag3, ag3, sz3, sz3, (EqOK.int Try.underlying3)⟩, ⟨rfl, (eStr x.f2), (eStr y.f2), (At.cast (At.fldS (At.fldS (At.fld0 At.here))) rfl), (At.cast (At.fldS (At.fldS (At.fld0 At.here))) rfl), ag9, ag9, sz9, sz9, (EqOK.str Try.underlying9)⟩, trivial⟩).of (by cases x; cases y; simp)
theorem eg55 : Try.prog.eqGuardType Try.prog.depth 55 = false := by decide +kernel
theorem zr60 : tyZero Try.prog 60 = some (([.int .i64 0] ++ ([.int .i64 0] ++ ([.string ByteArray.empty] ++ [])))) := by rfl
theorem lay60 : ∀ g, Sim g (.st [(1, (eI64 (0 : Int))), (1, (eI64 (0 : Int))), (1, (eStr ByteArray.empty))]) (([.int .i64 0] ++ ([.int .i64 0] ++ ([.string ByteArray.empty] ++ [])))) := fun g => (Sim.stCons (lay_fl rfl) rfl (Sim.stCons (lay_fl rfl) rfl (Sim.stCons (lay_fl rfl) rfl Sim.stNil)))
theorem sz60 : tySize Try.prog 60 = some 3 := by rfl
theorem ag60 : tyAgg Try.prog 60 = some true := by rfl
theorem ok41 : FnOK Try.prog 41 := FnOK.mk Try.func41 rfl rfl
theorem ok44 : FnOK Try.prog 44 := FnOK.mk Try.func44 rfl rfl
theorem ok39 : FnOK Try.prog 39 := FnOK.mk Try.func39 rfl rfl
theorem ok45 : FnOK Try.prog 45 := FnOK.mk Try.func45 rfl rfl
theorem ok46 : FnOK Try.prog 46 := FnOK.mk Try.func46 rfl rfl
theorem ok49 : FnOK Try.prog 49 := FnOK.mk Try.func49 rfl rfl
theorem eqk60 (x y : S60) : EqOK Try.prog 2 60 (e60 x) (e60 y) (decide (x = y)) := (EqOK.struct (bs := [decide (x.f0 = y.f0), decide (x.f1 = y.f1), decide (x.f2 = y.f2)]) Try.underlying60 (by decide +kernel) ⟨⟨rfl, (eI64 x.f0), (eI64 y.f0), (At.cast (At.fld0 At.here) rfl), (At.cast (At.fld0 At.here) rfl), ag3, ag3, sz3, sz3, (EqOK.int Try.underlying3)⟩, ⟨rfl, (eI64 x.f1), (eI64 y.f1), (At.cast (At.fldS (At.fld0 At.here)) rfl), (At.cast (At.fldS (At.fld0 At.here)) rfl), ag3, ag3, sz3, sz3, (EqOK.int Try.underlying3)⟩, ⟨rfl, (eStr x.f2), (eStr y.f2), (At.cast (At.fldS (At.fldS (At.fld0 At.here))) rfl), (At.cast (At.fldS (At.fldS (At.fld0 At.here))) rfl), ag9, ag9, sz9, sz9, (EqOK.str Try.underlying9)⟩, trivial⟩).of (by cases x; cases y; simp)
theorem eg60 : Try.prog.eqGuardType Try.prog.depth 60 = false := by decide +kernel
theorem ok72 : FnOK Try.prog 72 := FnOK.mk Try.func72 rfl rfl
theorem by60 : tyBytes Try.prog 60 = some 32 := by rfl
theorem ok53 : FnOK Try.prog 53 := FnOK.mk Try.func53 rfl rfl
theorem ok54 : FnOK Try.prog 54 := FnOK.mk Try.func54 rfl rfl
end Go.Avl.T2
/- bosket/bosketref31.Size; printed by avmain.py. -/
namespace Go.Avl.T2
open Go Go.RowKit Go.Proofs Go.Avl
set_option linter.unusedVariables false
set_option maxRecDepth 100000
set_option maxHeartbeats 4000000
attribute [local irreducible] AW AO AQ Spec SpecH Calm

def bosketref31_Size_c0 (k : Nat) (x15 : Int) : Option Int :=
  some (x15)
def bosketref31_Size_l1 (k : Nat) (self : ((List S43) → Int → Option Int)) (p0 : (List S43)) (p1 : Int) : Nat → Int → Int → Option Int
  | 0, _, _ => none
  | j + 1, x16, x17 =>
    if 0 ≤ p1 ∧ p1 < (p0.length : Int) then if x17 < ((lget p0 p1).f2) then (self p0 (w64 (p1 + x16))).bind fun t22 =>
    if t22 = (0 : Int) then some ((0 : Int))
    else (bosketref31_Size_l1 k self p0 p1 j) (w64 (x16 + t22)) (w64 (x17 + (1 : Int)))
    else bosketref31_Size_c0 k x16
    else none
def bosketref31_Size_r (k : Nat) : Nat → (List S43) → Int → Option Int
  | 0, _, _ => none
  | j + 1, p0, p1 =>
    Option.bind (α := Bool) (if p1 < (0 : Int) then some (true)
    else if (p0.length : Int) ≤ p1 then some (true)
    else if 0 ≤ p1 ∧ p1 < (p0.length : Int) then if ((lget p0 p1).f2) < (0 : Int) then some (true)
    else if 0 ≤ p1 ∧ p1 < (p0.length : Int) then if (12 : Int) < ((lget p0 p1).f2) then some (true)
    else if 0 ≤ p1 ∧ p1 < (p0.length : Int) then if ((lget p0 p1).f0) = true then if 0 ≤ p1 ∧ p1 < (p0.length : Int) then some (decide (((lget p0 p1).f2) ≠ (0 : Int)))
    else none
    else some (false)
    else none
    else none
    else none) fun b3 =>
    if b3 = true then some ((0 : Int))
    else bosketref31_Size_l1 k (bosketref31_Size_r k j) p0 p1 k (1 : Int) (0 : Int)
def bosketref31_Size (k : Nat) (p0 : (List S43)) (p1 : Int) : Option Int := bosketref31_Size_r k k p0 p1
theorem bosketref31_Size_spec' (k : Nat) : ∀ (j : Nat) (p0 : (List S43)) (p1 : Int) (r : Int), bosketref31_Size_r k j p0 p1 = some r → Spec Try.prog 32 [(.fz 4 (p0.map e43)), (eI64 p1)] (eI64 r) := by
  intro j
  induction j with
  | zero => intro p0 p1 r h; rw [bosketref31_Size_r.eq_1] at h; cases h
  | succ j hself =>
  intro p0 p1 r h
  rw [bosketref31_Size_r.eq_2] at h
  generalize hs : bosketref31_Size_r k j = self at h hself
  refine Spec.intro (res := [.tmp 4]) Try.func32 rfl rfl rfl (Nat.le_of_ble_eq_true rfl) ?_
  refine AW.seq ?_
  refine AW.reg ?_
  refine AO.calm rfl 4 rfl (by decide) (eI64 (0 : Int)) (Calm.assign rfl rfl) ?_
  refine AO.nil (ρ' := [(0, (.fz 4 (p0.map e43))), (1, (eI64 p1))]) (H' := []) ⟨rfl, rfl, trivial⟩ (Sub.refl _) ?_
  refine AW.seq ?_
  refine AW.seq ?_
  obtain ⟨b3, hq4, h⟩ := of_bind h
  refine AW.regM [(0, (.fz 4 (p0.map e43))), (1, (eI64 p1)), (46, (eBool b3))] [] ?_ ?_
  · refine AO.calm rfl 8 rfl (by decide) (eI64 p1) (Calm.move rfl rfl) ?_
    refine AO.calm rfl 9 rfl (by decide) (eBool (decide (p1 < (0 : Int)))) (Calm.int rfl rfl rfl rfl) ?_
    refine AO.calm rfl 10 rfl (by decide) (eBool (decide (p1 < (0 : Int)))) (Calm.move rfl rfl) ?_
    by_cases hc5 : p1 < (0 : Int)
    · have hq4 := (if_pos hc5).symm.trans hq4
      refine AO.skipG 2 true 10 rfl rfl (congrArg (fun b => some (AV.fl (Value.bool b))) (decide_eq_true hc5)) 11 rfl (by decide) ?_
      refine AO.skipG 2 true 10 rfl rfl (congrArg (fun b => some (AV.fl (Value.bool b))) (decide_eq_true hc5)) 12 rfl (by decide) ?_
      refine AO.skipG 2 true 10 rfl rfl (congrArg (fun b => some (AV.fl (Value.bool b))) (decide_eq_true hc5)) 13 rfl (by decide) ?_
      refine AO.skipG 2 true 10 rfl rfl (congrArg (fun b => some (AV.fl (Value.bool b))) (decide_eq_true hc5)) 14 rfl (by decide) ?_
      refine AO.calm rfl 15 rfl (by decide) (eBool true) (Calm.pickT rfl (congrArg (fun b => some (AV.fl (Value.bool b))) (decide_eq_true hc5)) rfl) ?_
      refine AO.calm rfl 16 rfl (by decide) (eBool true) (Calm.move rfl rfl) ?_
      refine AO.skipG 8 true 16 rfl rfl rfl 17 rfl (by decide) ?_
      refine AO.skipG 8 true 16 rfl rfl rfl 18 rfl (by decide) ?_
      refine AO.skipG 8 true 16 rfl rfl rfl 19 rfl (by decide) ?_
      refine AO.skipG 8 true 16 rfl rfl rfl 20 rfl (by decide) ?_
      refine AO.skipG 8 true 16 rfl rfl rfl 21 rfl (by decide) ?_
      refine AO.skipG 8 true 16 rfl rfl rfl 22 rfl (by decide) ?_
      refine AO.calm rfl 23 rfl (by decide) (eBool true) (Calm.pickT rfl rfl rfl) ?_
      refine AO.calm rfl 24 rfl (by decide) (eBool true) (Calm.move rfl rfl) ?_
      refine AO.skipG 16 true 24 rfl rfl rfl 25 rfl (by decide) ?_
      refine AO.skipG 16 true 24 rfl rfl rfl 26 rfl (by decide) ?_
      refine AO.skipG 16 true 24 rfl rfl rfl 27 rfl (by decide) ?_
      refine AO.skipG 16 true 24 rfl rfl rfl 28 rfl (by decide) ?_
      refine AO.skipG 16 true 24 rfl rfl rfl 29 rfl (by decide) ?_
      refine AO.skipG 16 true 24 rfl rfl rfl 30 rfl (by decide) ?_
      refine AO.calm rfl 31 rfl (by decide) (eBool true) (Calm.pickT rfl rfl rfl) ?_
      refine AO.calm rfl 32 rfl (by decide) (eBool true) (Calm.move rfl rfl) ?_
      refine AO.skipG 24 true 32 rfl rfl rfl 33 rfl (by decide) ?_
      refine AO.skipG 24 true 32 rfl rfl rfl 34 rfl (by decide) ?_
      refine AO.skipG 24 true 32 rfl rfl rfl 35 rfl (by decide) ?_
      refine AO.skipG 24 true 32 rfl rfl rfl 36 rfl (by decide) ?_
      refine AO.skipG 24 true 32 rfl rfl rfl 37 rfl (by decide) ?_
      refine AO.skipG 24 true 32 rfl rfl rfl 38 rfl (by decide) ?_
      refine AO.skipU 30 true 38 rfl rfl rfl 39 rfl (by decide) ?_
      refine AO.skipU 30 true 38 rfl rfl rfl 40 rfl (by decide) ?_
      refine AO.skipU 30 true 38 rfl rfl rfl 41 rfl (by decide) ?_
      refine AO.skipU 30 true 38 rfl rfl rfl 42 rfl (by decide) ?_
      refine AO.skipU 30 true 38 rfl rfl rfl 43 rfl (by decide) ?_
      refine AO.skipU 30 true 38 rfl rfl rfl 44 rfl (by decide) ?_
      refine AO.skipG 24 true 32 rfl rfl rfl 45 rfl (by decide) ?_
      refine AO.calm rfl 46 rfl (by decide) (eBool true) (Calm.pickT rfl rfl rfl) ?_
      cases hq4
      refine AO.nilE ⟨rfl, rfl⟩ ?_ ?_
      · exact ⟨rfl, rfl, rfl, trivial⟩
      · exact (Sub.refl _)
    · have hq4 := (if_neg hc5).symm.trans hq4
      refine AO.calmG 2 false 10 rfl rfl (congrArg (fun b => some (AV.fl (Value.bool b))) (decide_eq_false hc5)) 11 rfl (by decide) (eI64 p1) (Calm.move rfl rfl) ?_
      refine AO.calmG 2 false 10 rfl rfl (congrArg (fun b => some (AV.fl (Value.bool b))) (decide_eq_false hc5)) 12 rfl (by decide) (.fz 4 (p0.map e43)) (Calm.move rfl rfl) ?_
      refine AO.calmG 2 false 10 rfl rfl (congrArg (fun b => some (AV.fl (Value.bool b))) (decide_eq_false hc5)) 13 rfl (by decide) (eI64 (p0.length : Int)) (Calm.lenL rfl rfl Try.underlying37) ?_
      refine AO.calmG 2 false 10 rfl rfl (congrArg (fun b => some (AV.fl (Value.bool b))) (decide_eq_false hc5)) 14 rfl (by decide) (eBool (decide ((p0.length : Int) ≤ p1))) (Calm.int rfl rfl rfl rfl) ?_
      refine AO.calm rfl 15 rfl (by decide) (eBool (decide ((p0.length : Int) ≤ p1))) (Calm.pickF rfl (congrArg (fun b => some (AV.fl (Value.bool b))) (decide_eq_false hc5)) rfl) ?_
      refine AO.calm rfl 16 rfl (by decide) (eBool (decide ((p0.length : Int) ≤ p1))) (Calm.move rfl rfl) ?_
      by_cases hc6 : (p0.length : Int) ≤ p1
      · have hq4 := (if_pos hc6).symm.trans hq4
        refine AO.skipG 8 true 16 rfl rfl (congrArg (fun b => some (AV.fl (Value.bool b))) (decide_eq_true hc6)) 17 rfl (by decide) ?_
        refine AO.skipG 8 true 16 rfl rfl (congrArg (fun b => some (AV.fl (Value.bool b))) (decide_eq_true hc6)) 18 rfl (by decide) ?_
        refine AO.skipG 8 true 16 rfl rfl (congrArg (fun b => some (AV.fl (Value.bool b))) (decide_eq_true hc6)) 19 rfl (by decide) ?_
        refine AO.skipG 8 true 16 rfl rfl (congrArg (fun b => some (AV.fl (Value.bool b))) (decide_eq_true hc6)) 20 rfl (by decide) ?_
        refine AO.skipG 8 true 16 rfl rfl (congrArg (fun b => some (AV.fl (Value.bool b))) (decide_eq_true hc6)) 21 rfl (by decide) ?_
        refine AO.skipG 8 true 16 rfl rfl (congrArg (fun b => some (AV.fl (Value.bool b))) (decide_eq_true hc6)) 22 rfl (by decide) ?_
        refine AO.calm rfl 23 rfl (by decide) (eBool true) (Calm.pickT rfl (congrArg (fun b => some (AV.fl (Value.bool b))) (decide_eq_true hc6)) rfl) ?_
        refine AO.calm rfl 24 rfl (by decide) (eBool true) (Calm.move rfl rfl) ?_
        refine AO.skipG 16 true 24 rfl rfl rfl 25 rfl (by decide) ?_
        refine AO.skipG 16 true 24 rfl rfl rfl 26 rfl (by decide) ?_
        refine AO.skipG 16 true 24 rfl rfl rfl 27 rfl (by decide) ?_
        refine AO.skipG 16 true 24 rfl rfl rfl 28 rfl (by decide) ?_
        refine AO.skipG 16 true 24 rfl rfl rfl 29 rfl (by decide) ?_
        refine AO.skipG 16 true 24 rfl rfl rfl 30 rfl (by decide) ?_
        refine AO.calm rfl 31 rfl (by decide) (eBool true) (Calm.pickT rfl rfl rfl) ?_
        refine AO.calm rfl 32 rfl (by decide) (eBool true) (Calm.move rfl rfl) ?_
        refine AO.skipG 24 true 32 rfl rfl rfl 33 rfl (by decide) ?_
        refine AO.skipG 24 true 32 rfl rfl rfl 34 rfl (by decide) ?_
        refine AO.skipG 24 true 32 rfl rfl rfl 35 rfl (by decide) ?_
        refine AO.skipG 24 true 32 rfl rfl rfl 36 rfl (by decide) ?_
        refine AO.skipG 24 true 32 rfl rfl rfl 37 rfl (by decide) ?_
        refine AO.skipG 24 true 32 rfl rfl rfl 38 rfl (by decide) ?_
        refine AO.skipU 30 true 38 rfl rfl rfl 39 rfl (by decide) ?_
        refine AO.skipU 30 true 38 rfl rfl rfl 40 rfl (by decide) ?_
        refine AO.skipU 30 true 38 rfl rfl rfl 41 rfl (by decide) ?_
        refine AO.skipU 30 true 38 rfl rfl rfl 42 rfl (by decide) ?_
        refine AO.skipU 30 true 38 rfl rfl rfl 43 rfl (by decide) ?_
        refine AO.skipU 30 true 38 rfl rfl rfl 44 rfl (by decide) ?_
        refine AO.skipG 24 true 32 rfl rfl rfl 45 rfl (by decide) ?_
        refine AO.calm rfl 46 rfl (by decide) (eBool true) (Calm.pickT rfl rfl rfl) ?_
        cases hq4
        refine AO.nilE ⟨rfl, rfl⟩ ?_ ?_
        · exact ⟨rfl, rfl, rfl, trivial⟩
        · exact (Sub.refl _)
      · have hq4 := (if_neg hc6).symm.trans hq4
        refine AO.calmG 8 false 16 rfl rfl (congrArg (fun b => some (AV.fl (Value.bool b))) (decide_eq_false hc6)) 17 rfl (by decide) (.fz 4 (p0.map e43)) (Calm.move rfl rfl) ?_
        refine AO.calmG 8 false 16 rfl rfl (congrArg (fun b => some (AV.fl (Value.bool b))) (decide_eq_false hc6)) 18 rfl (by decide) (eI64 p1) (Calm.move rfl rfl) ?_
        obtain ⟨hg7, hq4⟩ := of_guard hq4
        refine AO.calmG 8 false 16 rfl rfl (congrArg (fun b => some (AV.fl (Value.bool b))) (decide_eq_false hc6)) 19 rfl (by decide) (.rp (e43 (lget p0 p1))) (Calm.idxL (f := e43) rfl rfl rfl hg7 Try.underlying37 sz43) ?_
        refine AO.calmG 8 false 16 rfl rfl (congrArg (fun b => some (AV.fl (Value.bool b))) (decide_eq_false hc6)) 20 rfl (by decide) (.rp (eI64 ((lget p0 p1).f2))) (Calm.fldRp rfl rfl Try.underlying43 rfl sz3 (At.cast (At.fldS (At.fldS (At.fld0 At.here))) rfl)) ?_
        refine AO.calmG 8 false 16 rfl rfl (congrArg (fun b => some (AV.fl (Value.bool b))) (decide_eq_false hc6)) 21 rfl (by decide) (eI64 ((lget p0 p1).f2)) (Calm.loadRp rfl rfl ag3 sz3) ?_
        refine AO.calmG 8 false 16 rfl rfl (congrArg (fun b => some (AV.fl (Value.bool b))) (decide_eq_false hc6)) 22 rfl (by decide) (eBool (decide (((lget p0 p1).f2) < (0 : Int)))) (Calm.int rfl rfl rfl rfl) ?_
        refine AO.calm rfl 23 rfl (by decide) (eBool (decide (((lget p0 p1).f2) < (0 : Int)))) (Calm.pickF rfl (congrArg (fun b => some (AV.fl (Value.bool b))) (decide_eq_false hc6)) rfl) ?_
        refine AO.calm rfl 24 rfl (by decide) (eBool (decide (((lget p0 p1).f2) < (0 : Int)))) (Calm.move rfl rfl) ?_
        by_cases hc8 : ((lget p0 p1).f2) < (0 : Int)
        · have hq4 := (if_pos hc8).symm.trans hq4
          refine AO.skipG 16 true 24 rfl rfl (congrArg (fun b => some (AV.fl (Value.bool b))) (decide_eq_true hc8)) 25 rfl (by decide) ?_
          refine AO.skipG 16 true 24 rfl rfl (congrArg (fun b => some (AV.fl (Value.bool b))) (decide_eq_true hc8)) 26 rfl (by decide) ?_
          refine AO.skipG 16 true 24 rfl rfl (congrArg (fun b => some (AV.fl (Value.bool b))) (decide_eq_true hc8)) 27 rfl (by decide) ?_
          refine AO.skipG 16 true 24 rfl rfl (congrArg (fun b => some (AV.fl (Value.bool b))) (decide_eq_true hc8)) 28 rfl (by decide) ?_
          refine AO.skipG 16 true 24 rfl rfl (congrArg (fun b => some (AV.fl (Value.bool b))) (decide_eq_true hc8)) 29 rfl (by decide) ?_
          refine AO.skipG 16 true 24 rfl rfl (congrArg (fun b => some (AV.fl (Value.bool b))) (decide_eq_true hc8)) 30 rfl (by decide) ?_
          refine AO.calm rfl 31 rfl (by decide) (eBool true) (Calm.pickT rfl (congrArg (fun b => some (AV.fl (Value.bool b))) (decide_eq_true hc8)) rfl) ?_
          refine AO.calm rfl 32 rfl (by decide) (eBool true) (Calm.move rfl rfl) ?_
          refine AO.skipG 24 true 32 rfl rfl rfl 33 rfl (by decide) ?_
          refine AO.skipG 24 true 32 rfl rfl rfl 34 rfl (by decide) ?_
          refine AO.skipG 24 true 32 rfl rfl rfl 35 rfl (by decide) ?_
          refine AO.skipG 24 true 32 rfl rfl rfl 36 rfl (by decide) ?_
          refine AO.skipG 24 true 32 rfl rfl rfl 37 rfl (by decide) ?_
          refine AO.skipG 24 true 32 rfl rfl rfl 38 rfl (by decide) ?_
          refine AO.skipU 30 true 38 rfl rfl rfl 39 rfl (by decide) ?_
          refine AO.skipU 30 true 38 rfl rfl rfl 40 rfl (by decide) ?_
          refine AO.skipU 30 true 38 rfl rfl rfl 41 rfl (by decide) ?_
          refine AO.skipU 30 true 38 rfl rfl rfl 42 rfl (by decide) ?_
          refine AO.skipU 30 true 38 rfl rfl rfl 43 rfl (by decide) ?_
          refine AO.skipU 30 true 38 rfl rfl rfl 44 rfl (by decide) ?_
          refine AO.skipG 24 true 32 rfl rfl rfl 45 rfl (by decide) ?_
          refine AO.calm rfl 46 rfl (by decide) (eBool true) (Calm.pickT rfl rfl rfl) ?_
          cases hq4
          refine AO.nilE ⟨rfl, rfl⟩ ?_ ?_
          · exact ⟨rfl, rfl, rfl, trivial⟩
          · exact (Sub.refl _)
        · have hq4 := (if_neg hc8).symm.trans hq4
          refine AO.calmG 16 false 24 rfl rfl (congrArg (fun b => some (AV.fl (Value.bool b))) (decide_eq_false hc8)) 25 rfl (by decide) (.fz 4 (p0.map e43)) (Calm.move rfl rfl) ?_
          refine AO.calmG 16 false 24 rfl rfl (congrArg (fun b => some (AV.fl (Value.bool b))) (decide_eq_false hc8)) 26 rfl (by decide) (eI64 p1) (Calm.move rfl rfl) ?_
          obtain ⟨hg9, hq4⟩ := of_guard hq4
          refine AO.calmG 16 false 24 rfl rfl (congrArg (fun b => some (AV.fl (Value.bool b))) (decide_eq_false hc8)) 27 rfl (by decide) (.rp (e43 (lget p0 p1))) (Calm.idxL (f := e43) rfl rfl rfl hg9 Try.underlying37 sz43) ?_
          refine AO.calmG 16 false 24 rfl rfl (congrArg (fun b => some (AV.fl (Value.bool b))) (decide_eq_false hc8)) 28 rfl (by decide) (.rp (eI64 ((lget p0 p1).f2))) (Calm.fldRp rfl rfl Try.underlying43 rfl sz3 (At.cast (At.fldS (At.fldS (At.fld0 At.here))) rfl)) ?_
          refine AO.calmG 16 false 24 rfl rfl (congrArg (fun b => some (AV.fl (Value.bool b))) (decide_eq_false hc8)) 29 rfl (by decide) (eI64 ((lget p0 p1).f2)) (Calm.loadRp rfl rfl ag3 sz3) ?_
          refine AO.calmG 16 false 24 rfl rfl (congrArg (fun b => some (AV.fl (Value.bool b))) (decide_eq_false hc8)) 30 rfl (by decide) (eBool (decide ((12 : Int) < ((lget p0 p1).f2)))) (Calm.int rfl rfl rfl rfl) ?_
          refine AO.calm rfl 31 rfl (by decide) (eBool (decide ((12 : Int) < ((lget p0 p1).f2)))) (Calm.pickF rfl (congrArg (fun b => some (AV.fl (Value.bool b))) (decide_eq_false hc8)) rfl) ?_
          refine AO.calm rfl 32 rfl (by decide) (eBool (decide ((12 : Int) < ((lget p0 p1).f2)))) (Calm.move rfl rfl) ?_
          by_cases hc10 : (12 : Int) < ((lget p0 p1).f2)
          · have hq4 := (if_pos hc10).symm.trans hq4
            refine AO.skipG 24 true 32 rfl rfl (congrArg (fun b => some (AV.fl (Value.bool b))) (decide_eq_true hc10)) 33 rfl (by decide) ?_
            refine AO.skipG 24 true 32 rfl rfl (congrArg (fun b => some (AV.fl (Value.bool b))) (decide_eq_true hc10)) 34 rfl (by decide) ?_
            refine AO.skipG 24 true 32 rfl rfl (congrArg (fun b => some (AV.fl (Value.bool b))) (decide_eq_true hc10)) 35 rfl (by decide) ?_
            refine AO.skipG 24 true 32 rfl rfl (congrArg (fun b => some (AV.fl (Value.bool b))) (decide_eq_true hc10)) 36 rfl (by decide) ?_
            refine AO.skipG 24 true 32 rfl rfl (congrArg (fun b => some (AV.fl (Value.bool b))) (decide_eq_true hc10)) 37 rfl (by decide) ?_
            refine AO.skipG 24 true 32 rfl rfl (congrArg (fun b => some (AV.fl (Value.bool b))) (decide_eq_true hc10)) 38 rfl (by decide) ?_
            refine AO.skipU 30 true 38 rfl rfl rfl 39 rfl (by decide) ?_
            refine AO.skipU 30 true 38 rfl rfl rfl 40 rfl (by decide) ?_
            refine AO.skipU 30 true 38 rfl rfl rfl 41 rfl (by decide) ?_
            refine AO.skipU 30 true 38 rfl rfl rfl 42 rfl (by decide) ?_
            refine AO.skipU 30 true 38 rfl rfl rfl 43 rfl (by decide) ?_
            refine AO.skipU 30 true 38 rfl rfl rfl 44 rfl (by decide) ?_
            refine AO.skipG 24 true 32 rfl rfl (congrArg (fun b => some (AV.fl (Value.bool b))) (decide_eq_true hc10)) 45 rfl (by decide) ?_
            refine AO.calm rfl 46 rfl (by decide) (eBool true) (Calm.pickT rfl (congrArg (fun b => some (AV.fl (Value.bool b))) (decide_eq_true hc10)) rfl) ?_
            cases hq4
            refine AO.nilE ⟨rfl, rfl⟩ ?_ ?_
            · exact ⟨rfl, rfl, rfl, trivial⟩
            · exact (Sub.refl _)
          · have hq4 := (if_neg hc10).symm.trans hq4
            refine AO.calmG 24 false 32 rfl rfl (congrArg (fun b => some (AV.fl (Value.bool b))) (decide_eq_false hc10)) 33 rfl (by decide) (.fz 4 (p0.map e43)) (Calm.move rfl rfl) ?_
            refine AO.calmG 24 false 32 rfl rfl (congrArg (fun b => some (AV.fl (Value.bool b))) (decide_eq_false hc10)) 34 rfl (by decide) (eI64 p1) (Calm.move rfl rfl) ?_
            obtain ⟨hg11, hq4⟩ := of_guard hq4
            refine AO.calmG 24 false 32 rfl rfl (congrArg (fun b => some (AV.fl (Value.bool b))) (decide_eq_false hc10)) 35 rfl (by decide) (.rp (e43 (lget p0 p1))) (Calm.idxL (f := e43) rfl rfl rfl hg11 Try.underlying37 sz43) ?_
            refine AO.calmG 24 false 32 rfl rfl (congrArg (fun b => some (AV.fl (Value.bool b))) (decide_eq_false hc10)) 36 rfl (by decide) (.rp (eBool ((lget p0 p1).f0))) (Calm.fldRp rfl rfl Try.underlying43 rfl sz4 (At.cast (At.fld0 At.here) rfl)) ?_
            refine AO.calmG 24 false 32 rfl rfl (congrArg (fun b => some (AV.fl (Value.bool b))) (decide_eq_false hc10)) 37 rfl (by decide) (eBool ((lget p0 p1).f0)) (Calm.loadRp rfl rfl ag4 sz4) ?_
            refine AO.calmG 24 false 32 rfl rfl (congrArg (fun b => some (AV.fl (Value.bool b))) (decide_eq_false hc10)) 38 rfl (by decide) (eBool ((lget p0 p1).f0)) (Calm.move rfl rfl) ?_
            by_cases hc12 : ((lget p0 p1).f0) = true
            · have hq4 := (if_pos hc12).symm.trans hq4
              refine AO.calmG 30 true 38 rfl rfl (congrArg (fun b => some (AV.fl (Value.bool b))) hc12) 39 rfl (by decide) (.fz 4 (p0.map e43)) (Calm.move rfl rfl) ?_
              refine AO.calmG 30 true 38 rfl rfl (congrArg (fun b => some (AV.fl (Value.bool b))) hc12) 40 rfl (by decide) (eI64 p1) (Calm.move rfl rfl) ?_
              obtain ⟨hg13, hq4⟩ := of_guard hq4
              refine AO.calmG 30 true 38 rfl rfl (congrArg (fun b => some (AV.fl (Value.bool b))) hc12) 41 rfl (by decide) (.rp (e43 (lget p0 p1))) (Calm.idxL (f := e43) rfl rfl rfl hg13 Try.underlying37 sz43) ?_
              refine AO.calmG 30 true 38 rfl rfl (congrArg (fun b => some (AV.fl (Value.bool b))) hc12) 42 rfl (by decide) (.rp (eI64 ((lget p0 p1).f2))) (Calm.fldRp rfl rfl Try.underlying43 rfl sz3 (At.cast (At.fldS (At.fldS (At.fld0 At.here))) rfl)) ?_
              refine AO.calmG 30 true 38 rfl rfl (congrArg (fun b => some (AV.fl (Value.bool b))) hc12) 43 rfl (by decide) (eI64 ((lget p0 p1).f2)) (Calm.loadRp rfl rfl ag3 sz3) ?_
              refine AO.calmG 30 true 38 rfl rfl (congrArg (fun b => some (AV.fl (Value.bool b))) hc12) 44 rfl (by decide) (eBool (decide (((lget p0 p1).f2) ≠ (0 : Int)))) (Calm.int rfl rfl rfl rfl) ?_
              refine AO.calmG 24 false 32 rfl rfl (congrArg (fun b => some (AV.fl (Value.bool b))) (decide_eq_false hc10)) 45 rfl (by decide) (eBool (decide (((lget p0 p1).f2) ≠ (0 : Int)))) (Calm.pickT rfl (congrArg (fun b => some (AV.fl (Value.bool b))) hc12) rfl) ?_
              refine AO.calm rfl 46 rfl (by decide) (eBool (decide (((lget p0 p1).f2) ≠ (0 : Int)))) (Calm.pickF rfl (congrArg (fun b => some (AV.fl (Value.bool b))) (decide_eq_false hc10)) rfl) ?_
              cases hq4
              refine AO.nilE ⟨rfl, rfl⟩ ?_ ?_
              · exact ⟨rfl, rfl, rfl, trivial⟩
              · exact (Sub.refl _)
            · have hq4 := (if_neg hc12).symm.trans hq4
              refine AO.skipG 30 false 38 rfl rfl (congrArg (fun b => some (AV.fl (Value.bool b))) (eq_false_of_ne_true hc12)) 39 rfl (by decide) ?_
              refine AO.skipG 30 false 38 rfl rfl (congrArg (fun b => some (AV.fl (Value.bool b))) (eq_false_of_ne_true hc12)) 40 rfl (by decide) ?_
              refine AO.skipG 30 false 38 rfl rfl (congrArg (fun b => some (AV.fl (Value.bool b))) (eq_false_of_ne_true hc12)) 41 rfl (by decide) ?_
              refine AO.skipG 30 false 38 rfl rfl (congrArg (fun b => some (AV.fl (Value.bool b))) (eq_false_of_ne_true hc12)) 42 rfl (by decide) ?_
              refine AO.skipG 30 false 38 rfl rfl (congrArg (fun b => some (AV.fl (Value.bool b))) (eq_false_of_ne_true hc12)) 43 rfl (by decide) ?_
              refine AO.skipG 30 false 38 rfl rfl (congrArg (fun b => some (AV.fl (Value.bool b))) (eq_false_of_ne_true hc12)) 44 rfl (by decide) ?_
              refine AO.calmG 24 false 32 rfl rfl (congrArg (fun b => some (AV.fl (Value.bool b))) (decide_eq_false hc10)) 45 rfl (by decide) (eBool false) (Calm.pickF rfl (congrArg (fun b => some (AV.fl (Value.bool b))) (eq_false_of_ne_true hc12)) rfl) ?_
              refine AO.calm rfl 46 rfl (by decide) (eBool false) (Calm.pickF rfl (congrArg (fun b => some (AV.fl (Value.bool b))) (decide_eq_false hc10)) rfl) ?_
              cases hq4
              refine AO.nilE ⟨rfl, rfl⟩ ?_ ?_
              · exact ⟨rfl, rfl, rfl, trivial⟩
              · exact (Sub.refl _)
  · by_cases hc14 : b3 = true
    · have h := (if_pos hc14).symm.trans h
      refine AW.condT' b3 rfl hc14 ?_
      refine AW.seq ?_
      refine AW.reg ?_
      refine AO.calm rfl 4 rfl (by decide) (eI64 (0 : Int)) (Calm.assign rfl rfl) ?_
      refine AO.nil (ρ' := [(4, (eI64 (0 : Int)))]) (H' := []) ⟨rfl, trivial⟩ (Sub.refl _) ?_
      refine AW.ret (ρ' := [(4, (eI64 (0 : Int)))]) (H' := []) ⟨rfl, trivial⟩ (Sub.refl _) ?_
      have hr := Option.some.inj h
      subst hr
      exact ⟨[(eI64 (0 : Int))], ⟨rfl, rfl, trivial⟩, rfl⟩
    · have h := (if_neg hc14).symm.trans h
      refine AW.condF' b3 rfl hc14 ?_
      refine AW.skip (ρ' := [(0, (.fz 4 (p0.map e43))), (1, (eI64 p1))]) (H' := []) ⟨rfl, rfl, trivial⟩ (Sub.refl _) ?_
      refine AW.seq ?_
      refine AW.reg ?_
      refine AO.calm rfl 5 rfl (by decide) (eI64 (1 : Int)) (Calm.assign rfl rfl) ?_
      refine AO.nil (ρ' := [(0, (.fz 4 (p0.map e43))), (1, (eI64 p1)), (5, (eI64 (1 : Int)))]) (H' := []) ⟨rfl, rfl, rfl, trivial⟩ (Sub.refl _) ?_
      refine AW.seq_mid (fun ρ H => ∃ (x15 : Int), ρ = [(5, (eI64 x15))] ∧ H = [] ∧ bosketref31_Size_c0 k x15 = some r) ?_ ?_
      · refine AW.seq ?_
        refine AW.reg ?_
        refine AO.calm rfl 6 rfl (by decide) (eI64 (0 : Int)) (Calm.assign rfl rfl) ?_
        refine AO.nil (ρ' := [(0, (.fz 4 (p0.map e43))), (1, (eI64 p1)), (5, (eI64 (1 : Int))), (6, (eI64 (0 : Int)))]) (H' := []) ⟨rfl, rfl, rfl, rfl, trivial⟩ (Sub.refl _) ?_
        refine AW.block ?_
        refine AW.weak (ρ' := [(0, (.fz 4 (p0.map e43))), (1, (eI64 p1)), (5, (eI64 (1 : Int))), (6, (eI64 (0 : Int)))]) (H' := []) ⟨rfl, rfl, rfl, rfl, trivial⟩ (Sub.refl _) ?_
        refine AW.loop (fun kq ρ H => ∃ (x16 : Int) (x17 : Int), ρ = [(0, (.fz 4 (p0.map e43))), (1, (eI64 p1)), (5, (eI64 x16)), (6, (eI64 x17))] ∧ H = [] ∧ bosketref31_Size_l1 k self p0 p1 kq x16 x17 = some r) k ⟨(1 : Int), (0 : Int), rfl, rfl, h⟩ ?_
        rintro kq19 _ _ ⟨x16, x17, rfl, rfl, h⟩
        cases kq19 with
        | zero => rw [bosketref31_Size_l1.eq_1] at h; cases h
        | succ kq19 =>
        rw [bosketref31_Size_l1.eq_2] at h
        generalize hrec18 : bosketref31_Size_l1 k self p0 p1 kq19 = rec18 at h
        refine AW.seq ?_
        refine AW.seq ?_
        refine AW.reg ?_
        refine AO.calm rfl 47 rfl (by decide) (eI64 x17) (Calm.move rfl rfl) ?_
        refine AO.calm rfl 48 rfl (by decide) (.fz 4 (p0.map e43)) (Calm.move rfl rfl) ?_
        refine AO.calm rfl 49 rfl (by decide) (eI64 p1) (Calm.move rfl rfl) ?_
        obtain ⟨hg20, h⟩ := of_guard h
        refine AO.calm rfl 50 rfl (by decide) (.rp (e43 (lget p0 p1))) (Calm.idxL (f := e43) rfl rfl rfl hg20 Try.underlying37 sz43) ?_
        refine AO.calm rfl 51 rfl (by decide) (.rp (eI64 ((lget p0 p1).f2))) (Calm.fldRp rfl rfl Try.underlying43 rfl sz3 (At.cast (At.fldS (At.fldS (At.fld0 At.here))) rfl)) ?_
        refine AO.calm rfl 52 rfl (by decide) (eI64 ((lget p0 p1).f2)) (Calm.loadRp rfl rfl ag3 sz3) ?_
        refine AO.calm rfl 53 rfl (by decide) (eBool (decide (x17 < ((lget p0 p1).f2)))) (Calm.int rfl rfl rfl rfl) ?_
        refine AO.nil (ρ' := [(0, (.fz 4 (p0.map e43))), (1, (eI64 p1)), (5, (eI64 x16)), (6, (eI64 x17)), (53, (eBool (decide (x17 < ((lget p0 p1).f2)))))]) (H' := []) ⟨rfl, rfl, rfl, rfl, rfl, trivial⟩ (Sub.refl _) ?_
        by_cases hc21 : x17 < ((lget p0 p1).f2)
        · have h := (if_pos hc21).symm.trans h
          refine AW.condP (x17 < ((lget p0 p1).f2)) rfl hc21 ?_
          refine AW.skip (ρ' := [(0, (.fz 4 (p0.map e43))), (1, (eI64 p1)), (5, (eI64 x16)), (6, (eI64 x17))]) (H' := []) ⟨rfl, rfl, rfl, rfl, trivial⟩ (Sub.refl _) ?_
          refine AW.seq ?_
          refine AW.block ?_
          refine AW.seq ?_
          refine AW.reg ?_
          refine AO.calm rfl 56 rfl (by decide) (.fz 4 (p0.map e43)) (Calm.move rfl rfl) ?_
          refine AO.calm rfl 57 rfl (by decide) (eI64 p1) (Calm.move rfl rfl) ?_
          refine AO.calm rfl 58 rfl (by decide) (eI64 x16) (Calm.move rfl rfl) ?_
          refine AO.calm rfl 59 rfl (by decide) (eI64 (w64 (p1 + x16))) (Calm.int rfl rfl rfl rfl) ?_
          obtain ⟨t22, et22, h⟩ := of_bind h
          refine AO.callS [(.fz 4 (p0.map e43)), (eI64 (w64 (p1 + x16)))] (eI64 t22) 60 rfl (by decide) ok32 rfl rfl rfl ⟨rfl, rfl, rfl, rfl, trivial⟩ (hself _ _ _ et22) ?_
          refine AO.calm rfl 7 rfl (by decide) (eI64 t22) (Calm.assign rfl rfl) ?_
          refine AO.nil (ρ' := [(0, (.fz 4 (p0.map e43))), (1, (eI64 p1)), (5, (eI64 x16)), (6, (eI64 x17)), (7, (eI64 t22))]) (H' := []) ⟨rfl, rfl, rfl, rfl, rfl, trivial⟩ (Sub.refl _) ?_
          refine AW.seq ?_
          refine AW.seq ?_
          refine AW.reg ?_
          refine AO.calm rfl 61 rfl (by decide) (eI64 t22) (Calm.move rfl rfl) ?_
          refine AO.calm rfl 62 rfl (by decide) (eBool (decide (t22 = (0 : Int)))) (Calm.int rfl rfl rfl rfl) ?_
          refine AO.nil (ρ' := [(0, (.fz 4 (p0.map e43))), (1, (eI64 p1)), (5, (eI64 x16)), (6, (eI64 x17)), (7, (eI64 t22)), (62, (eBool (decide (t22 = (0 : Int)))))]) (H' := []) ⟨rfl, rfl, rfl, rfl, rfl, rfl, trivial⟩ (Sub.refl _) ?_
          by_cases hc23 : t22 = (0 : Int)
          · have h := (if_pos hc23).symm.trans h
            refine AW.condP (t22 = (0 : Int)) rfl hc23 ?_
            refine AW.seq ?_
            refine AW.reg ?_
            refine AO.calm rfl 4 rfl (by decide) (eI64 (0 : Int)) (Calm.assign rfl rfl) ?_
            refine AO.nil (ρ' := [(4, (eI64 (0 : Int)))]) (H' := []) ⟨rfl, trivial⟩ (Sub.refl _) ?_
            refine AW.ret (ρ' := [(4, (eI64 (0 : Int)))]) (H' := []) ⟨rfl, trivial⟩ (Sub.refl _) ?_
            have hr := Option.some.inj h
            subst hr
            exact ⟨[(eI64 (0 : Int))], ⟨rfl, rfl, trivial⟩, rfl⟩
          · have h := (if_neg hc23).symm.trans h
            refine AW.condN (t22 = (0 : Int)) rfl hc23 ?_
            refine AW.skip (ρ' := [(0, (.fz 4 (p0.map e43))), (1, (eI64 p1)), (5, (eI64 x16)), (6, (eI64 x17)), (7, (eI64 t22))]) (H' := []) ⟨rfl, rfl, rfl, rfl, rfl, trivial⟩ (Sub.refl _) ?_
            refine AW.reg ?_
            refine AO.calm rfl 63 rfl (by decide) (eI64 x16) (Calm.move rfl rfl) ?_
            refine AO.calm rfl 64 rfl (by decide) (eI64 t22) (Calm.move rfl rfl) ?_
            refine AO.calm rfl 65 rfl (by decide) (eI64 (w64 (x16 + t22))) (Calm.int rfl rfl rfl rfl) ?_
            refine AO.calm rfl 5 rfl (by decide) (eI64 (w64 (x16 + t22))) (Calm.assign rfl rfl) ?_
            refine AO.nil (ρ' := [(0, (.fz 4 (p0.map e43))), (1, (eI64 p1)), (5, (eI64 (w64 (x16 + t22)))), (6, (eI64 x17))]) (H' := []) ⟨rfl, rfl, rfl, rfl, trivial⟩ (Sub.refl _) ?_
            refine AW.reg ?_
            refine AO.calm rfl 54 rfl (by decide) (eI64 x17) (Calm.move rfl rfl) ?_
            refine AO.calm rfl 55 rfl (by decide) (eI64 (w64 (x17 + (1 : Int)))) (Calm.int rfl rfl rfl rfl) ?_
            refine AO.calm rfl 6 rfl (by decide) (eI64 (w64 (x17 + (1 : Int)))) (Calm.assign rfl rfl) ?_
            refine AO.nil (ρ' := [(0, (.fz 4 (p0.map e43))), (1, (eI64 p1)), (5, (eI64 (w64 (x16 + t22)))), (6, (eI64 (w64 (x17 + (1 : Int)))))]) (H' := []) ⟨rfl, rfl, rfl, rfl, trivial⟩ (Sub.refl _) ?_
            exact ⟨kq19, Nat.lt_succ_self _, (w64 (x16 + t22)), (w64 (x17 + (1 : Int))), rfl, rfl, by rw [hrec18]; exact h⟩
        · have h := (if_neg hc21).symm.trans h
          refine AW.condN (x17 < ((lget p0 p1).f2)) rfl hc21 ?_
          refine AW.exit (ρ' := [(5, (eI64 x16))]) (H' := []) ⟨rfl, trivial⟩ (Sub.refl _) ?_
          exact ⟨x16, rfl, rfl, h⟩
      · rintro _ _ ⟨x15, rfl, rfl, h⟩
        rw [bosketref31_Size_c0.eq_1] at h
        refine AW.seq ?_
        refine AW.reg ?_
        refine AO.calm rfl 66 rfl (by decide) (eI64 x15) (Calm.move rfl rfl) ?_
        refine AO.calm rfl 4 rfl (by decide) (eI64 x15) (Calm.assign rfl rfl) ?_
        refine AO.nil (ρ' := [(4, (eI64 x15))]) (H' := []) ⟨rfl, trivial⟩ (Sub.refl _) ?_
        refine AW.ret (ρ' := [(4, (eI64 x15))]) (H' := []) ⟨rfl, trivial⟩ (Sub.refl _) ?_
        have hr := Option.some.inj h
        subst hr
        exact ⟨[(eI64 x15)], ⟨rfl, rfl, trivial⟩, rfl⟩
theorem bosketref31_Size_spec {k : Nat} {p0 : (List S43)} {p1 : Int} {r : Int} (h : bosketref31_Size k p0 p1 = some r) : Spec Try.prog 32 [(.fz 4 (p0.map e43)), (eI64 p1)] (eI64 r) := bosketref31_Size_spec' k k p0 p1 r h
end Go.Avl.T2
/- bosket/bosketref31.Right; printed by avmain.py. -/
namespace Go.Avl.T2
open Go Go.RowKit Go.Proofs Go.Avl
set_option linter.unusedVariables false
set_option maxRecDepth 100000
set_option maxHeartbeats 4000000
attribute [local irreducible] AW AO AQ Spec SpecH Calm

def bosketref31_Right (k : Nat) (p0 : (List S43)) : Option Bool :=
  Option.bind (α := Bool) (if (1 : Int) ≤ (p0.length : Int) then if (p0.length : Int) ≤ (2000 : Int) then (bosketref31_Size k p0 (0 : Int)).bind fun t6 =>
  some (decide (t6 = (p0.length : Int)))
  else some (false)
  else some (false)) fun b2 =>
  some (b2)
theorem bosketref31_Right_spec {k : Nat} {p0 : (List S43)} {r : Bool} (h : bosketref31_Right k p0 = some r) : Spec Try.prog 24 [(.fz 4 (p0.map e43))] (eBool r) := by
  rw [bosketref31_Right.eq_1] at h
  refine Spec.intro (res := [.tmp 2]) Try.func24 rfl rfl rfl (Nat.le_of_ble_eq_true rfl) ?_
  refine AW.seq ?_
  refine AW.reg ?_
  refine AO.calm rfl 2 rfl (by decide) (eBool false) (Calm.assign rfl rfl) ?_
  refine AO.nil (ρ' := [(0, (.fz 4 (p0.map e43)))]) (H' := []) ⟨rfl, trivial⟩ (Sub.refl _) ?_
  refine AW.seq ?_
  obtain ⟨b2, hq3, h⟩ := of_bind h
  refine AW.regM [(2, (eBool b2))] [] ?_ ?_
  · refine AO.calm rfl 3 rfl (by decide) (.fz 4 (p0.map e43)) (Calm.move rfl rfl) ?_
    refine AO.calm rfl 4 rfl (by decide) (eI64 (p0.length : Int)) (Calm.lenL rfl rfl Try.underlying37) ?_
    refine AO.calm rfl 5 rfl (by decide) (eBool (decide ((1 : Int) ≤ (p0.length : Int)))) (Calm.int rfl rfl rfl rfl) ?_
    refine AO.calm rfl 6 rfl (by decide) (eBool (decide ((1 : Int) ≤ (p0.length : Int)))) (Calm.move rfl rfl) ?_
    by_cases hc4 : (1 : Int) ≤ (p0.length : Int)
    · have hq3 := (if_pos hc4).symm.trans hq3
      refine AO.calmG 3 true 6 rfl rfl (congrArg (fun b => some (AV.fl (Value.bool b))) (decide_eq_true hc4)) 7 rfl (by decide) (.fz 4 (p0.map e43)) (Calm.move rfl rfl) ?_
      refine AO.calmG 3 true 6 rfl rfl (congrArg (fun b => some (AV.fl (Value.bool b))) (decide_eq_true hc4)) 8 rfl (by decide) (eI64 (p0.length : Int)) (Calm.lenL rfl rfl Try.underlying37) ?_
      refine AO.calmG 3 true 6 rfl rfl (congrArg (fun b => some (AV.fl (Value.bool b))) (decide_eq_true hc4)) 9 rfl (by decide) (eBool (decide ((p0.length : Int) ≤ (2000 : Int)))) (Calm.int rfl rfl rfl rfl) ?_
      refine AO.calm rfl 10 rfl (by decide) (eBool (decide ((p0.length : Int) ≤ (2000 : Int)))) (Calm.pickT rfl (congrArg (fun b => some (AV.fl (Value.bool b))) (decide_eq_true hc4)) rfl) ?_
      refine AO.calm rfl 11 rfl (by decide) (eBool (decide ((p0.length : Int) ≤ (2000 : Int)))) (Calm.move rfl rfl) ?_
      by_cases hc5 : (p0.length : Int) ≤ (2000 : Int)
      · have hq3 := (if_pos hc5).symm.trans hq3
        refine AO.calmG 8 true 11 rfl rfl (congrArg (fun b => some (AV.fl (Value.bool b))) (decide_eq_true hc5)) 12 rfl (by decide) (.fz 4 (p0.map e43)) (Calm.move rfl rfl) ?_
        obtain ⟨t6, et6, hq3⟩ := of_bind hq3
        refine AO.callG 8 true 11 [(.fz 4 (p0.map e43)), (eI64 (0 : Int))] (eI64 t6) 13 rfl (by decide) ok32 rfl rfl (congrArg (fun b => some (AV.fl (Value.bool b))) (decide_eq_true hc5)) rfl rfl ⟨rfl, rfl, rfl, rfl, trivial⟩ (bosketref31_Size_spec et6) ?_
        refine AO.calmG 8 true 11 rfl rfl (congrArg (fun b => some (AV.fl (Value.bool b))) (decide_eq_true hc5)) 14 rfl (by decide) (.fz 4 (p0.map e43)) (Calm.move rfl rfl) ?_
        refine AO.calmG 8 true 11 rfl rfl (congrArg (fun b => some (AV.fl (Value.bool b))) (decide_eq_true hc5)) 15 rfl (by decide) (eI64 (p0.length : Int)) (Calm.lenL rfl rfl Try.underlying37) ?_
        refine AO.calmG 8 true 11 rfl rfl (congrArg (fun b => some (AV.fl (Value.bool b))) (decide_eq_true hc5)) 16 rfl (by decide) (eBool (decide (t6 = (p0.length : Int)))) (Calm.int rfl rfl rfl rfl) ?_
        refine AO.calm rfl 17 rfl (by decide) (eBool (decide (t6 = (p0.length : Int)))) (Calm.pickT rfl (congrArg (fun b => some (AV.fl (Value.bool b))) (decide_eq_true hc5)) rfl) ?_
        refine AO.calm rfl 2 rfl (by decide) (eBool (decide (t6 = (p0.length : Int)))) (Calm.assign rfl rfl) ?_
        cases hq3
        refine AO.nilE ⟨rfl, rfl⟩ ?_ ?_
        · exact ⟨rfl, trivial⟩
        · exact (Sub.refl _)
      · have hq3 := (if_neg hc5).symm.trans hq3
        refine AO.skipG 8 false 11 rfl rfl (congrArg (fun b => some (AV.fl (Value.bool b))) (decide_eq_false hc5)) 12 rfl (by decide) ?_
        refine AO.skipG 8 false 11 rfl rfl (congrArg (fun b => some (AV.fl (Value.bool b))) (decide_eq_false hc5)) 13 rfl (by decide) ?_
        refine AO.skipG 8 false 11 rfl rfl (congrArg (fun b => some (AV.fl (Value.bool b))) (decide_eq_false hc5)) 14 rfl (by decide) ?_
        refine AO.skipG 8 false 11 rfl rfl (congrArg (fun b => some (AV.fl (Value.bool b))) (decide_eq_false hc5)) 15 rfl (by decide) ?_
        refine AO.skipG 8 false 11 rfl rfl (congrArg (fun b => some (AV.fl (Value.bool b))) (decide_eq_false hc5)) 16 rfl (by decide) ?_
        refine AO.calm rfl 17 rfl (by decide) (eBool false) (Calm.pickF rfl (congrArg (fun b => some (AV.fl (Value.bool b))) (decide_eq_false hc5)) rfl) ?_
        refine AO.calm rfl 2 rfl (by decide) (eBool false) (Calm.assign rfl rfl) ?_
        cases hq3
        refine AO.nilE ⟨rfl, rfl⟩ ?_ ?_
        · exact ⟨rfl, trivial⟩
        · exact (Sub.refl _)
    · have hq3 := (if_neg hc4).symm.trans hq3
      refine AO.skipG 3 false 6 rfl rfl (congrArg (fun b => some (AV.fl (Value.bool b))) (decide_eq_false hc4)) 7 rfl (by decide) ?_
      refine AO.skipG 3 false 6 rfl rfl (congrArg (fun b => some (AV.fl (Value.bool b))) (decide_eq_false hc4)) 8 rfl (by decide) ?_
      refine AO.skipG 3 false 6 rfl rfl (congrArg (fun b => some (AV.fl (Value.bool b))) (decide_eq_false hc4)) 9 rfl (by decide) ?_
      refine AO.calm rfl 10 rfl (by decide) (eBool false) (Calm.pickF rfl (congrArg (fun b => some (AV.fl (Value.bool b))) (decide_eq_false hc4)) rfl) ?_
      refine AO.calm rfl 11 rfl (by decide) (eBool false) (Calm.move rfl rfl) ?_
      refine AO.skipG 8 false 11 rfl rfl rfl 12 rfl (by decide) ?_
      refine AO.skipG 8 false 11 rfl rfl rfl 13 rfl (by decide) ?_
      refine AO.skipG 8 false 11 rfl rfl rfl 14 rfl (by decide) ?_
      refine AO.skipG 8 false 11 rfl rfl rfl 15 rfl (by decide) ?_
      refine AO.skipG 8 false 11 rfl rfl rfl 16 rfl (by decide) ?_
      refine AO.calm rfl 17 rfl (by decide) (eBool false) (Calm.pickF rfl rfl rfl) ?_
      refine AO.calm rfl 2 rfl (by decide) (eBool false) (Calm.assign rfl rfl) ?_
      cases hq3
      refine AO.nilE ⟨rfl, rfl⟩ ?_ ?_
      · exact ⟨rfl, trivial⟩
      · exact (Sub.refl _)
  · refine AW.ret (ρ' := [(2, (eBool b2))]) (H' := []) ⟨rfl, trivial⟩ (Sub.refl _) ?_
    have hr := Option.some.inj h
    subst hr
    exact ⟨[(eBool b2)], ⟨rfl, rfl, trivial⟩, rfl⟩
end Go.Avl.T2
/- bosket/ast.Size; printed by avmain.py. -/
namespace Go.Avl.T2
open Go Go.RowKit Go.Proofs Go.Avl
set_option linter.unusedVariables false
set_option maxRecDepth 100000
set_option maxHeartbeats 4000000
attribute [local irreducible] AW AO AQ Spec SpecH Calm

def ast_Size_c0 (k : Nat) : Option Int :=
  some ((0 : Int))
def ast_Size_l1 (k : Nat) (p0 : (List S43)) (p1 : Int) : Nat → Int → Int → Option Int
  | 0, _, _ => none
  | j + 1, x7, x8 =>
    if x8 < (p0.length : Int) then Option.bind (α := Bool) (if 0 ≤ x8 ∧ x8 < (p0.length : Int) then if ((lget p0 x8).f2) < (0 : Int) then some (true)
    else if 0 ≤ x8 ∧ x8 < (p0.length : Int) then if (12 : Int) < ((lget p0 x8).f2) then some (true)
    else if 0 ≤ x8 ∧ x8 < (p0.length : Int) then if ((lget p0 x8).f0) = true then if 0 ≤ x8 ∧ x8 < (p0.length : Int) then some (decide ((0 : Int) < ((lget p0 x8).f2)))
    else none
    else some (false)
    else none
    else none
    else none) fun b12 =>
    if b12 = true then some ((0 : Int))
    else if 0 ≤ x8 ∧ x8 < (p0.length : Int) then if (w64 (x7 + (w64 (((lget p0 x8).f2) - (1 : Int))))) = (0 : Int) then some ((w64 ((w64 (x8 + (1 : Int))) - p1)))
    else (ast_Size_l1 k p0 p1 j) (w64 (x7 + (w64 (((lget p0 x8).f2) - (1 : Int))))) (w64 (x8 + (1 : Int)))
    else none
    else ast_Size_c0 k
def ast_Size (k : Nat) (p0 : (List S43)) (p1 : Int) : Option Int :=
  Option.bind (α := Bool) (if p1 < (0 : Int) then some (true)
  else some (decide ((p0.length : Int) ≤ p1))) fun b3 =>
  if b3 = true then some ((0 : Int))
  else ast_Size_l1 k p0 p1 k (1 : Int) p1
theorem ast_Size_spec {k : Nat} {p0 : (List S43)} {p1 : Int} {r : Int} (h : ast_Size k p0 p1 = some r) : Spec Try.prog 31 [(.fz 4 (p0.map e43)), (eI64 p1)] (eI64 r) := by
  rw [ast_Size.eq_1] at h
  refine Spec.intro (res := [.tmp 4]) Try.func31 rfl rfl rfl (Nat.le_of_ble_eq_true rfl) ?_
  refine AW.seq ?_
  refine AW.reg ?_
  refine AO.calm rfl 4 rfl (by decide) (eI64 (0 : Int)) (Calm.assign rfl rfl) ?_
  refine AO.nil (ρ' := [(0, (.fz 4 (p0.map e43))), (1, (eI64 p1))]) (H' := []) ⟨rfl, rfl, trivial⟩ (Sub.refl _) ?_
  refine AW.seq ?_
  refine AW.seq ?_
  obtain ⟨b3, hq4, h⟩ := of_bind h
  refine AW.regM [(0, (.fz 4 (p0.map e43))), (1, (eI64 p1)), (14, (eBool b3))] [] ?_ ?_
  · refine AO.calm rfl 7 rfl (by decide) (eI64 p1) (Calm.move rfl rfl) ?_
    refine AO.calm rfl 8 rfl (by decide) (eBool (decide (p1 < (0 : Int)))) (Calm.int rfl rfl rfl rfl) ?_
    refine AO.calm rfl 9 rfl (by decide) (eBool (decide (p1 < (0 : Int)))) (Calm.move rfl rfl) ?_
    by_cases hc5 : p1 < (0 : Int)
    · have hq4 := (if_pos hc5).symm.trans hq4
      refine AO.skipG 2 true 9 rfl rfl (congrArg (fun b => some (AV.fl (Value.bool b))) (decide_eq_true hc5)) 10 rfl (by decide) ?_
      refine AO.skipG 2 true 9 rfl rfl (congrArg (fun b => some (AV.fl (Value.bool b))) (decide_eq_true hc5)) 11 rfl (by decide) ?_
      refine AO.skipG 2 true 9 rfl rfl (congrArg (fun b => some (AV.fl (Value.bool b))) (decide_eq_true hc5)) 12 rfl (by decide) ?_
      refine AO.skipG 2 true 9 rfl rfl (congrArg (fun b => some (AV.fl (Value.bool b))) (decide_eq_true hc5)) 13 rfl (by decide) ?_
      refine AO.calm rfl 14 rfl (by decide) (eBool true) (Calm.pickT rfl (congrArg (fun b => some (AV.fl (Value.bool b))) (decide_eq_true hc5)) rfl) ?_
      cases hq4
      refine AO.nilE ⟨rfl, rfl⟩ ?_ ?_
      · exact ⟨rfl, rfl, rfl, trivial⟩
      · exact (Sub.refl _)
    · have hq4 := (if_neg hc5).symm.trans hq4
      refine AO.calmG 2 false 9 rfl rfl (congrArg (fun b => some (AV.fl (Value.bool b))) (decide_eq_false hc5)) 10 rfl (by decide) (eI64 p1) (Calm.move rfl rfl) ?_
      refine AO.calmG 2 false 9 rfl rfl (congrArg (fun b => some (AV.fl (Value.bool b))) (decide_eq_false hc5)) 11 rfl (by decide) (.fz 4 (p0.map e43)) (Calm.move rfl rfl) ?_
      refine AO.calmG 2 false 9 rfl rfl (congrArg (fun b => some (AV.fl (Value.bool b))) (decide_eq_false hc5)) 12 rfl (by decide) (eI64 (p0.length : Int)) (Calm.lenL rfl rfl Try.underlying37) ?_
      refine AO.calmG 2 false 9 rfl rfl (congrArg (fun b => some (AV.fl (Value.bool b))) (decide_eq_false hc5)) 13 rfl (by decide) (eBool (decide ((p0.length : Int) ≤ p1))) (Calm.int rfl rfl rfl rfl) ?_
      refine AO.calm rfl 14 rfl (by decide) (eBool (decide ((p0.length : Int) ≤ p1))) (Calm.pickF rfl (congrArg (fun b => some (AV.fl (Value.bool b))) (decide_eq_false hc5)) rfl) ?_
      cases hq4
      refine AO.nilE ⟨rfl, rfl⟩ ?_ ?_
      · exact ⟨rfl, rfl, rfl, trivial⟩
      · exact (Sub.refl _)
  · by_cases hc6 : b3 = true
    · have h := (if_pos hc6).symm.trans h
      refine AW.condT' b3 rfl hc6 ?_
      refine AW.seq ?_
      refine AW.reg ?_
      refine AO.calm rfl 4 rfl (by decide) (eI64 (0 : Int)) (Calm.assign rfl rfl) ?_
      refine AO.nil (ρ' := [(4, (eI64 (0 : Int)))]) (H' := []) ⟨rfl, trivial⟩ (Sub.refl _) ?_
      refine AW.ret (ρ' := [(4, (eI64 (0 : Int)))]) (H' := []) ⟨rfl, trivial⟩ (Sub.refl _) ?_
      have hr := Option.some.inj h
      subst hr
      exact ⟨[(eI64 (0 : Int))], ⟨rfl, rfl, trivial⟩, rfl⟩
    · have h := (if_neg hc6).symm.trans h
      refine AW.condF' b3 rfl hc6 ?_
      refine AW.skip (ρ' := [(0, (.fz 4 (p0.map e43))), (1, (eI64 p1))]) (H' := []) ⟨rfl, rfl, trivial⟩ (Sub.refl _) ?_
      refine AW.seq ?_
      refine AW.reg ?_
      refine AO.calm rfl 5 rfl (by decide) (eI64 (1 : Int)) (Calm.assign rfl rfl) ?_
      refine AO.nil (ρ' := [(0, (.fz 4 (p0.map e43))), (1, (eI64 p1)), (5, (eI64 (1 : Int)))]) (H' := []) ⟨rfl, rfl, rfl, trivial⟩ (Sub.refl _) ?_
      refine AW.seq_mid (fun ρ H => ρ = [] ∧ H = [] ∧ ast_Size_c0 k = some r) ?_ ?_
      · refine AW.seq ?_
        refine AW.reg ?_
        refine AO.calm rfl 15 rfl (by decide) (eI64 p1) (Calm.move rfl rfl) ?_
        refine AO.calm rfl 6 rfl (by decide) (eI64 p1) (Calm.assign rfl rfl) ?_
        refine AO.nil (ρ' := [(0, (.fz 4 (p0.map e43))), (1, (eI64 p1)), (5, (eI64 (1 : Int))), (6, (eI64 p1))]) (H' := []) ⟨rfl, rfl, rfl, rfl, trivial⟩ (Sub.refl _) ?_
        refine AW.block ?_
        refine AW.weak (ρ' := [(0, (.fz 4 (p0.map e43))), (1, (eI64 p1)), (5, (eI64 (1 : Int))), (6, (eI64 p1))]) (H' := []) ⟨rfl, rfl, rfl, rfl, trivial⟩ (Sub.refl _) ?_
        refine AW.loop (fun kq ρ H => ∃ (x7 : Int) (x8 : Int), ρ = [(0, (.fz 4 (p0.map e43))), (1, (eI64 p1)), (5, (eI64 x7)), (6, (eI64 x8))] ∧ H = [] ∧ ast_Size_l1 k p0 p1 kq x7 x8 = some r) k ⟨(1 : Int), p1, rfl, rfl, h⟩ ?_
        rintro kq10 _ _ ⟨x7, x8, rfl, rfl, h⟩
        cases kq10 with
        | zero => rw [ast_Size_l1.eq_1] at h; cases h
        | succ kq10 =>
        rw [ast_Size_l1.eq_2] at h
        generalize hrec9 : ast_Size_l1 k p0 p1 kq10 = rec9 at h
        refine AW.seq ?_
        refine AW.seq ?_
        refine AW.reg ?_
        refine AO.calm rfl 16 rfl (by decide) (eI64 x8) (Calm.move rfl rfl) ?_
        refine AO.calm rfl 17 rfl (by decide) (.fz 4 (p0.map e43)) (Calm.move rfl rfl) ?_
        refine AO.calm rfl 18 rfl (by decide) (eI64 (p0.length : Int)) (Calm.lenL rfl rfl Try.underlying37) ?_
        refine AO.calm rfl 19 rfl (by decide) (eBool (decide (x8 < (p0.length : Int)))) (Calm.int rfl rfl rfl rfl) ?_
        refine AO.nil (ρ' := [(0, (.fz 4 (p0.map e43))), (1, (eI64 p1)), (5, (eI64 x7)), (6, (eI64 x8)), (19, (eBool (decide (x8 < (p0.length : Int)))))]) (H' := []) ⟨rfl, rfl, rfl, rfl, rfl, trivial⟩ (Sub.refl _) ?_
        by_cases hc11 : x8 < (p0.length : Int)
        · have h := (if_pos hc11).symm.trans h
          refine AW.condP (x8 < (p0.length : Int)) rfl hc11 ?_
          refine AW.skip (ρ' := [(0, (.fz 4 (p0.map e43))), (1, (eI64 p1)), (5, (eI64 x7)), (6, (eI64 x8))]) (H' := []) ⟨rfl, rfl, rfl, rfl, trivial⟩ (Sub.refl _) ?_
          refine AW.seq ?_
          refine AW.block ?_
          refine AW.seq ?_
          refine AW.seq ?_
          obtain ⟨b12, hq13, h⟩ := of_bind h
          refine AW.regM [(0, (.fz 4 (p0.map e43))), (1, (eI64 p1)), (5, (eI64 x7)), (6, (eI64 x8)), (50, (eBool b12))] [] ?_ ?_
          · refine AO.calm rfl 22 rfl (by decide) (.fz 4 (p0.map e43)) (Calm.move rfl rfl) ?_
            refine AO.calm rfl 23 rfl (by decide) (eI64 x8) (Calm.move rfl rfl) ?_
            obtain ⟨hg14, hq13⟩ := of_guard hq13
            refine AO.calm rfl 24 rfl (by decide) (.rp (e43 (lget p0 x8))) (Calm.idxL (f := e43) rfl rfl rfl hg14 Try.underlying37 sz43) ?_
            refine AO.calm rfl 25 rfl (by decide) (.rp (eI64 ((lget p0 x8).f2))) (Calm.fldRp rfl rfl Try.underlying43 rfl sz3 (At.cast (At.fldS (At.fldS (At.fld0 At.here))) rfl)) ?_
            refine AO.calm rfl 26 rfl (by decide) (eI64 ((lget p0 x8).f2)) (Calm.loadRp rfl rfl ag3 sz3) ?_
            refine AO.calm rfl 27 rfl (by decide) (eBool (decide (((lget p0 x8).f2) < (0 : Int)))) (Calm.int rfl rfl rfl rfl) ?_
            refine AO.calm rfl 28 rfl (by decide) (eBool (decide (((lget p0 x8).f2) < (0 : Int)))) (Calm.move rfl rfl) ?_
            by_cases hc15 : ((lget p0 x8).f2) < (0 : Int)
            · have hq13 := (if_pos hc15).symm.trans hq13
              refine AO.skipG 6 true 28 rfl rfl (congrArg (fun b => some (AV.fl (Value.bool b))) (decide_eq_true hc15)) 29 rfl (by decide) ?_
              refine AO.skipG 6 true 28 rfl rfl (congrArg (fun b => some (AV.fl (Value.bool b))) (decide_eq_true hc15)) 30 rfl (by decide) ?_
              refine AO.skipG 6 true 28 rfl rfl (congrArg (fun b => some (AV.fl (Value.bool b))) (decide_eq_true hc15)) 31 rfl (by decide) ?_
              refine AO.skipG 6 true 28 rfl rfl (congrArg (fun b => some (AV.fl (Value.bool b))) (decide_eq_true hc15)) 32 rfl (by decide) ?_
              refine AO.skipG 6 true 28 rfl rfl (congrArg (fun b => some (AV.fl (Value.bool b))) (decide_eq_true hc15)) 33 rfl (by decide) ?_
              refine AO.skipG 6 true 28 rfl rfl (congrArg (fun b => some (AV.fl (Value.bool b))) (decide_eq_true hc15)) 34 rfl (by decide) ?_
              refine AO.calm rfl 35 rfl (by decide) (eBool true) (Calm.pickT rfl (congrArg (fun b => some (AV.fl (Value.bool b))) (decide_eq_true hc15)) rfl) ?_
              refine AO.calm rfl 36 rfl (by decide) (eBool true) (Calm.move rfl rfl) ?_
              refine AO.skipG 14 true 36 rfl rfl rfl 37 rfl (by decide) ?_
              refine AO.skipG 14 true 36 rfl rfl rfl 38 rfl (by decide) ?_
              refine AO.skipG 14 true 36 rfl rfl rfl 39 rfl (by decide) ?_
              refine AO.skipG 14 true 36 rfl rfl rfl 40 rfl (by decide) ?_
              refine AO.skipG 14 true 36 rfl rfl rfl 41 rfl (by decide) ?_
              refine AO.skipG 14 true 36 rfl rfl rfl 42 rfl (by decide) ?_
              refine AO.skipU 20 true 42 rfl rfl rfl 43 rfl (by decide) ?_
              refine AO.skipU 20 true 42 rfl rfl rfl 44 rfl (by decide) ?_
              refine AO.skipU 20 true 42 rfl rfl rfl 45 rfl (by decide) ?_
              refine AO.skipU 20 true 42 rfl rfl rfl 46 rfl (by decide) ?_
              refine AO.skipU 20 true 42 rfl rfl rfl 47 rfl (by decide) ?_
              refine AO.skipU 20 true 42 rfl rfl rfl 48 rfl (by decide) ?_
              refine AO.skipG 14 true 36 rfl rfl rfl 49 rfl (by decide) ?_
              refine AO.calm rfl 50 rfl (by decide) (eBool true) (Calm.pickT rfl rfl rfl) ?_
              cases hq13
              refine AO.nilE ⟨rfl, rfl⟩ ?_ ?_
              · exact ⟨rfl, rfl, rfl, rfl, rfl, trivial⟩
              · exact (Sub.refl _)
            · have hq13 := (if_neg hc15).symm.trans hq13
              refine AO.calmG 6 false 28 rfl rfl (congrArg (fun b => some (AV.fl (Value.bool b))) (decide_eq_false hc15)) 29 rfl (by decide) (.fz 4 (p0.map e43)) (Calm.move rfl rfl) ?_
              refine AO.calmG 6 false 28 rfl rfl (congrArg (fun b => some (AV.fl (Value.bool b))) (decide_eq_false hc15)) 30 rfl (by decide) (eI64 x8) (Calm.move rfl rfl) ?_
              obtain ⟨hg16, hq13⟩ := of_guard hq13
              refine AO.calmG 6 false 28 rfl rfl (congrArg (fun b => some (AV.fl (Value.bool b))) (decide_eq_false hc15)) 31 rfl (by decide) (.rp (e43 (lget p0 x8))) (Calm.idxL (f := e43) rfl rfl rfl hg16 Try.underlying37 sz43) ?_
              refine AO.calmG 6 false 28 rfl rfl (congrArg (fun b => some (AV.fl (Value.bool b))) (decide_eq_false hc15)) 32 rfl (by decide) (.rp (eI64 ((lget p0 x8).f2))) (Calm.fldRp rfl rfl Try.underlying43 rfl sz3 (At.cast (At.fldS (At.fldS (At.fld0 At.here))) rfl)) ?_
              refine AO.calmG 6 false 28 rfl rfl (congrArg (fun b => some (AV.fl (Value.bool b))) (decide_eq_false hc15)) 33 rfl (by decide) (eI64 ((lget p0 x8).f2)) (Calm.loadRp rfl rfl ag3 sz3) ?_
              refine AO.calmG 6 false 28 rfl rfl (congrArg (fun b => some (AV.fl (Value.bool b))) (decide_eq_false hc15)) 34 rfl (by decide) (eBool (decide ((12 : Int) < ((lget p0 x8).f2)))) (Calm.int rfl rfl rfl rfl) ?_
              refine AO.calm rfl 35 rfl (by decide) (eBool (decide ((12 : Int) < ((lget p0 x8).f2)))) (Calm.pickF rfl (congrArg (fun b => some (AV.fl (Value.bool b))) (decide_eq_false hc15)) rfl) ?_
              refine AO.calm rfl 36 rfl (by decide) (eBool (decide ((12 : Int) < ((lget p0 x8).f2)))) (Calm.move rfl rfl) ?_
              by_cases hc17 : (12 : Int) < ((lget p0 x8).f2)
              · have hq13 := (if_pos hc17).symm.trans hq13
                refine AO.skipG 14 true 36 rfl rfl (congrArg (fun b => some (AV.fl (Value.bool b))) (decide_eq_true hc17)) 37 rfl (by decide) ?_
                refine AO.skipG 14 true 36 rfl rfl (congrArg (fun b => some (AV.fl (Value.bool b))) (decide_eq_true hc17)) 38 rfl (by decide) ?_
                refine AO.skipG 14 true 36 rfl rfl (congrArg (fun b => some (AV.fl (Value.bool b))) (decide_eq_true hc17)) 39 rfl (by decide) ?_
                refine AO.skipG 14 true 36 rfl rfl (congrArg (fun b => some (AV.fl (Value.bool b))) (decide_eq_true hc17)) 40 rfl (by decide) ?_
                refine AO.skipG 14 true 36 rfl rfl (congrArg (fun b => some (AV.fl (Value.bool b))) (decide_eq_true hc17)) 41 rfl (by decide) ?_
                refine AO.skipG 14 true 36 rfl rfl (congrArg (fun b => some (AV.fl (Value.bool b))) (decide_eq_true hc17)) 42 rfl (by decide) ?_
                refine AO.skipU 20 true 42 rfl rfl rfl 43 rfl (by decide) ?_
                refine AO.skipU 20 true 42 rfl rfl rfl 44 rfl (by decide) ?_
                refine AO.skipU 20 true 42 rfl rfl rfl 45 rfl (by decide) ?_
                refine AO.skipU 20 true 42 rfl rfl rfl 46 rfl (by decide) ?_
                refine AO.skipU 20 true 42 rfl rfl rfl 47 rfl (by decide) ?_
                refine AO.skipU 20 true 42 rfl rfl rfl 48 rfl (by decide) ?_
                refine AO.skipG 14 true 36 rfl rfl (congrArg (fun b => some (AV.fl (Value.bool b))) (decide_eq_true hc17)) 49 rfl (by decide) ?_
                refine AO.calm rfl 50 rfl (by decide) (eBool true) (Calm.pickT rfl (congrArg (fun b => some (AV.fl (Value.bool b))) (decide_eq_true hc17)) rfl) ?_
                cases hq13
                refine AO.nilE ⟨rfl, rfl⟩ ?_ ?_
                · exact ⟨rfl, rfl, rfl, rfl, rfl, trivial⟩
                · exact (Sub.refl _)
              · have hq13 := (if_neg hc17).symm.trans hq13
                refine AO.calmG 14 false 36 rfl rfl (congrArg (fun b => some (AV.fl (Value.bool b))) (decide_eq_false hc17)) 37 rfl (by decide) (.fz 4 (p0.map e43)) (Calm.move rfl rfl) ?_
                refine AO.calmG 14 false 36 rfl rfl (congrArg (fun b => some (AV.fl (Value.bool b))) (decide_eq_false hc17)) 38 rfl (by decide) (eI64 x8) (Calm.move rfl rfl) ?_
                obtain ⟨hg18, hq13⟩ := of_guard hq13
                refine AO.calmG 14 false 36 rfl rfl (congrArg (fun b => some (AV.fl (Value.bool b))) (decide_eq_false hc17)) 39 rfl (by decide) (.rp (e43 (lget p0 x8))) (Calm.idxL (f := e43) rfl rfl rfl hg18 Try.underlying37 sz43) ?_
                refine AO.calmG 14 false 36 rfl rfl (congrArg (fun b => some (AV.fl (Value.bool b))) (decide_eq_false hc17)) 40 rfl (by decide) (.rp (eBool ((lget p0 x8).f0))) (Calm.fldRp rfl rfl Try.underlying43 rfl sz4 (At.cast (At.fld0 At.here) rfl)) ?_
                refine AO.calmG 14 false 36 rfl rfl (congrArg (fun b => some (AV.fl (Value.bool b))) (decide_eq_false hc17)) 41 rfl (by decide) (eBool ((lget p0 x8).f0)) (Calm.loadRp rfl rfl ag4 sz4) ?_
                refine AO.calmG 14 false 36 rfl rfl (congrArg (fun b => some (AV.fl (Value.bool b))) (decide_eq_false hc17)) 42 rfl (by decide) (eBool ((lget p0 x8).f0)) (Calm.move rfl rfl) ?_
                by_cases hc19 : ((lget p0 x8).f0) = true
                · have hq13 := (if_pos hc19).symm.trans hq13
                  refine AO.calmG 20 true 42 rfl rfl (congrArg (fun b => some (AV.fl (Value.bool b))) hc19) 43 rfl (by decide) (.fz 4 (p0.map e43)) (Calm.move rfl rfl) ?_
                  refine AO.calmG 20 true 42 rfl rfl (congrArg (fun b => some (AV.fl (Value.bool b))) hc19) 44 rfl (by decide) (eI64 x8) (Calm.move rfl rfl) ?_
                  obtain ⟨hg20, hq13⟩ := of_guard hq13
                  refine AO.calmG 20 true 42 rfl rfl (congrArg (fun b => some (AV.fl (Value.bool b))) hc19) 45 rfl (by decide) (.rp (e43 (lget p0 x8))) (Calm.idxL (f := e43) rfl rfl rfl hg20 Try.underlying37 sz43) ?_
                  refine AO.calmG 20 true 42 rfl rfl (congrArg (fun b => some (AV.fl (Value.bool b))) hc19) 46 rfl (by decide) (.rp (eI64 ((lget p0 x8).f2))) (Calm.fldRp rfl rfl Try.underlying43 rfl sz3 (At.cast (At.fldS (At.fldS (At.fld0 At.here))) rfl)) ?_
                  refine AO.calmG 20 true 42 rfl rfl (congrArg (fun b => some (AV.fl (Value.bool b))) hc19) 47 rfl (by decide) (eI64 ((lget p0 x8).f2)) (Calm.loadRp rfl rfl ag3 sz3) ?_
                  refine AO.calmG 20 true 42 rfl rfl (congrArg (fun b => some (AV.fl (Value.bool b))) hc19) 48 rfl (by decide) (eBool (decide ((0 : Int) < ((lget p0 x8).f2)))) (Calm.int rfl rfl rfl rfl) ?_
                  refine AO.calmG 14 false 36 rfl rfl (congrArg (fun b => some (AV.fl (Value.bool b))) (decide_eq_false hc17)) 49 rfl (by decide) (eBool (decide ((0 : Int) < ((lget p0 x8).f2)))) (Calm.pickT rfl (congrArg (fun b => some (AV.fl (Value.bool b))) hc19) rfl) ?_
                  refine AO.calm rfl 50 rfl (by decide) (eBool (decide ((0 : Int) < ((lget p0 x8).f2)))) (Calm.pickF rfl (congrArg (fun b => some (AV.fl (Value.bool b))) (decide_eq_false hc17)) rfl) ?_
                  cases hq13
                  refine AO.nilE ⟨rfl, rfl⟩ ?_ ?_
                  · exact ⟨rfl, rfl, rfl, rfl, rfl, trivial⟩
                  · exact (Sub.refl _)
                · have hq13 := (if_neg hc19).symm.trans hq13
                  refine AO.skipG 20 false 42 rfl rfl (congrArg (fun b => some (AV.fl (Value.bool b))) (eq_false_of_ne_true hc19)) 43 rfl (by decide) ?_
                  refine AO.skipG 20 false 42 rfl rfl (congrArg (fun b => some (AV.fl (Value.bool b))) (eq_false_of_ne_true hc19)) 44 rfl (by decide) ?_
                  refine AO.skipG 20 false 42 rfl rfl (congrArg (fun b => some (AV.fl (Value.bool b))) (eq_false_of_ne_true hc19)) 45 rfl (by decide) ?_
                  refine AO.skipG 20 false 42 rfl rfl (congrArg (fun b => some (AV.fl (Value.bool b))) (eq_false_of_ne_true hc19)) 46 rfl (by decide) ?_
                  refine AO.skipG 20 false 42 rfl rfl (congrArg (fun b => some (AV.fl (Value.bool b))) (eq_false_of_ne_true hc19)) 47 rfl (by decide) ?_
                  refine AO.skipG 20 false 42 rfl rfl (congrArg (fun b => some (AV.fl (Value.bool b))) (eq_false_of_ne_true hc19)) 48 rfl (by decide) ?_
                  refine AO.calmG 14 false 36 rfl rfl (congrArg (fun b => some (AV.fl (Value.bool b))) (decide_eq_false hc17)) 49 rfl (by decide) (eBool false) (Calm.pickF rfl (congrArg (fun b => some (AV.fl (Value.bool b))) (eq_false_of_ne_true hc19)) rfl) ?_
                  refine AO.calm rfl 50 rfl (by decide) (eBool false) (Calm.pickF rfl (congrArg (fun b => some (AV.fl (Value.bool b))) (decide_eq_false hc17)) rfl) ?_
                  cases hq13
                  refine AO.nilE ⟨rfl, rfl⟩ ?_ ?_
                  · exact ⟨rfl, rfl, rfl, rfl, rfl, trivial⟩
                  · exact (Sub.refl _)
          · by_cases hc21 : b12 = true
            · have h := (if_pos hc21).symm.trans h
              refine AW.condT' b12 rfl hc21 ?_
              refine AW.seq ?_
              refine AW.reg ?_
              refine AO.calm rfl 4 rfl (by decide) (eI64 (0 : Int)) (Calm.assign rfl rfl) ?_
              refine AO.nil (ρ' := [(4, (eI64 (0 : Int)))]) (H' := []) ⟨rfl, trivial⟩ (Sub.refl _) ?_
              refine AW.ret (ρ' := [(4, (eI64 (0 : Int)))]) (H' := []) ⟨rfl, trivial⟩ (Sub.refl _) ?_
              have hr := Option.some.inj h
              subst hr
              exact ⟨[(eI64 (0 : Int))], ⟨rfl, rfl, trivial⟩, rfl⟩
            · have h := (if_neg hc21).symm.trans h
              refine AW.condF' b12 rfl hc21 ?_
              refine AW.skip (ρ' := [(0, (.fz 4 (p0.map e43))), (1, (eI64 p1)), (5, (eI64 x7)), (6, (eI64 x8))]) (H' := []) ⟨rfl, rfl, rfl, rfl, trivial⟩ (Sub.refl _) ?_
              refine AW.seq ?_
              refine AW.reg ?_
              refine AO.calm rfl 51 rfl (by decide) (eI64 x7) (Calm.move rfl rfl) ?_
              refine AO.calm rfl 52 rfl (by decide) (.fz 4 (p0.map e43)) (Calm.move rfl rfl) ?_
              refine AO.calm rfl 53 rfl (by decide) (eI64 x8) (Calm.move rfl rfl) ?_
              obtain ⟨hg22, h⟩ := of_guard h
              refine AO.calm rfl 54 rfl (by decide) (.rp (e43 (lget p0 x8))) (Calm.idxL (f := e43) rfl rfl rfl hg22 Try.underlying37 sz43) ?_
              refine AO.calm rfl 55 rfl (by decide) (.rp (eI64 ((lget p0 x8).f2))) (Calm.fldRp rfl rfl Try.underlying43 rfl sz3 (At.cast (At.fldS (At.fldS (At.fld0 At.here))) rfl)) ?_
              refine AO.calm rfl 56 rfl (by decide) (eI64 ((lget p0 x8).f2)) (Calm.loadRp rfl rfl ag3 sz3) ?_
              refine AO.calm rfl 57 rfl (by decide) (eI64 (w64 (((lget p0 x8).f2) - (1 : Int)))) (Calm.int rfl rfl rfl rfl) ?_
              refine AO.calm rfl 58 rfl (by decide) (eI64 (w64 (x7 + (w64 (((lget p0 x8).f2) - (1 : Int)))))) (Calm.int rfl rfl rfl rfl) ?_
              refine AO.calm rfl 5 rfl (by decide) (eI64 (w64 (x7 + (w64 (((lget p0 x8).f2) - (1 : Int)))))) (Calm.assign rfl rfl) ?_
              refine AO.nil (ρ' := [(0, (.fz 4 (p0.map e43))), (1, (eI64 p1)), (5, (eI64 (w64 (x7 + (w64 (((lget p0 x8).f2) - (1 : Int))))))), (6, (eI64 x8))]) (H' := []) ⟨rfl, rfl, rfl, rfl, trivial⟩ (Sub.refl _) ?_
              refine AW.seq ?_
              refine AW.reg ?_
              refine AO.calm rfl 59 rfl (by decide) (eI64 (w64 (x7 + (w64 (((lget p0 x8).f2) - (1 : Int)))))) (Calm.move rfl rfl) ?_
              refine AO.calm rfl 60 rfl (by decide) (eBool (decide ((w64 (x7 + (w64 (((lget p0 x8).f2) - (1 : Int))))) = (0 : Int)))) (Calm.int rfl rfl rfl rfl) ?_
              refine AO.nil (ρ' := [(0, (.fz 4 (p0.map e43))), (1, (eI64 p1)), (5, (eI64 (w64 (x7 + (w64 (((lget p0 x8).f2) - (1 : Int))))))), (6, (eI64 x8)), (60, (eBool (decide ((w64 (x7 + (w64 (((lget p0 x8).f2) - (1 : Int))))) = (0 : Int)))))]) (H' := []) ⟨rfl, rfl, rfl, rfl, rfl, trivial⟩ (Sub.refl _) ?_
              by_cases hc23 : (w64 (x7 + (w64 (((lget p0 x8).f2) - (1 : Int))))) = (0 : Int)
              · have h := (if_pos hc23).symm.trans h
                refine AW.condP ((w64 (x7 + (w64 (((lget p0 x8).f2) - (1 : Int))))) = (0 : Int)) rfl hc23 ?_
                refine AW.seq ?_
                refine AW.reg ?_
                refine AO.calm rfl 61 rfl (by decide) (eI64 x8) (Calm.move rfl rfl) ?_
                refine AO.calm rfl 62 rfl (by decide) (eI64 (w64 (x8 + (1 : Int)))) (Calm.int rfl rfl rfl rfl) ?_
                refine AO.calm rfl 63 rfl (by decide) (eI64 p1) (Calm.move rfl rfl) ?_
                refine AO.calm rfl 64 rfl (by decide) (eI64 (w64 ((w64 (x8 + (1 : Int))) - p1))) (Calm.int rfl rfl rfl rfl) ?_
                refine AO.calm rfl 4 rfl (by decide) (eI64 (w64 ((w64 (x8 + (1 : Int))) - p1))) (Calm.assign rfl rfl) ?_
                refine AO.nil (ρ' := [(4, (eI64 (w64 ((w64 (x8 + (1 : Int))) - p1))))]) (H' := []) ⟨rfl, trivial⟩ (Sub.refl _) ?_
                refine AW.ret (ρ' := [(4, (eI64 (w64 ((w64 (x8 + (1 : Int))) - p1))))]) (H' := []) ⟨rfl, trivial⟩ (Sub.refl _) ?_
                have hr := Option.some.inj h
                subst hr
                exact ⟨[(eI64 (w64 ((w64 (x8 + (1 : Int))) - p1)))], ⟨rfl, rfl, trivial⟩, rfl⟩
              · have h := (if_neg hc23).symm.trans h
                refine AW.condN ((w64 (x7 + (w64 (((lget p0 x8).f2) - (1 : Int))))) = (0 : Int)) rfl hc23 ?_
                refine AW.skip (ρ' := [(0, (.fz 4 (p0.map e43))), (1, (eI64 p1)), (5, (eI64 (w64 (x7 + (w64 (((lget p0 x8).f2) - (1 : Int))))))), (6, (eI64 x8))]) (H' := []) ⟨rfl, rfl, rfl, rfl, trivial⟩ (Sub.refl _) ?_
                refine AW.reg ?_
                refine AO.calm rfl 20 rfl (by decide) (eI64 x8) (Calm.move rfl rfl) ?_
                refine AO.calm rfl 21 rfl (by decide) (eI64 (w64 (x8 + (1 : Int)))) (Calm.int rfl rfl rfl rfl) ?_
                refine AO.calm rfl 6 rfl (by decide) (eI64 (w64 (x8 + (1 : Int)))) (Calm.assign rfl rfl) ?_
                refine AO.nil (ρ' := [(0, (.fz 4 (p0.map e43))), (1, (eI64 p1)), (5, (eI64 (w64 (x7 + (w64 (((lget p0 x8).f2) - (1 : Int))))))), (6, (eI64 (w64 (x8 + (1 : Int)))))]) (H' := []) ⟨rfl, rfl, rfl, rfl, trivial⟩ (Sub.refl _) ?_
                exact ⟨kq10, Nat.lt_succ_self _, (w64 (x7 + (w64 (((lget p0 x8).f2) - (1 : Int))))), (w64 (x8 + (1 : Int))), rfl, rfl, by rw [hrec9]; exact h⟩
        · have h := (if_neg hc11).symm.trans h
          refine AW.condN (x8 < (p0.length : Int)) rfl hc11 ?_
          refine AW.exit (ρ' := []) (H' := []) trivial (Sub.refl _) ?_
          exact ⟨rfl, rfl, h⟩
      · rintro _ _ ⟨rfl, rfl, h⟩
        rw [ast_Size_c0.eq_1] at h
        refine AW.seq ?_
        refine AW.reg ?_
        refine AO.calm rfl 4 rfl (by decide) (eI64 (0 : Int)) (Calm.assign rfl rfl) ?_
        refine AO.nil (ρ' := [(4, (eI64 (0 : Int)))]) (H' := []) ⟨rfl, trivial⟩ (Sub.refl _) ?_
        refine AW.ret (ρ' := [(4, (eI64 (0 : Int)))]) (H' := []) ⟨rfl, trivial⟩ (Sub.refl _) ?_
        have hr := Option.some.inj h
        subst hr
        exact ⟨[(eI64 (0 : Int))], ⟨rfl, rfl, trivial⟩, rfl⟩
end Go.Avl.T2
/- bosket/ast.Right; printed by avmain.py. -/
namespace Go.Avl.T2
open Go Go.RowKit Go.Proofs Go.Avl
set_option linter.unusedVariables false
set_option maxRecDepth 100000
set_option maxHeartbeats 4000000
attribute [local irreducible] AW AO AQ Spec SpecH Calm

def ast_Right (k : Nat) (p0 : (List S43)) : Option Bool :=
  Option.bind (α := Bool) (if (p0.length : Int) ≤ (2000 : Int) then if (0 : Int) < (p0.length : Int) then (ast_Size k p0 (0 : Int)).bind fun t6 =>
  some (decide (t6 = (p0.length : Int)))
  else some (false)
  else some (false)) fun b2 =>
  some (b2)
theorem ast_Right_spec {k : Nat} {p0 : (List S43)} {r : Bool} (h : ast_Right k p0 = some r) : Spec Try.prog 30 [(.fz 4 (p0.map e43))] (eBool r) := by
  rw [ast_Right.eq_1] at h
  refine Spec.intro (res := [.tmp 2]) Try.func30 rfl rfl rfl (Nat.le_of_ble_eq_true rfl) ?_
  refine AW.seq ?_
  refine AW.reg ?_
  refine AO.calm rfl 2 rfl (by decide) (eBool false) (Calm.assign rfl rfl) ?_
  refine AO.nil (ρ' := [(0, (.fz 4 (p0.map e43)))]) (H' := []) ⟨rfl, trivial⟩ (Sub.refl _) ?_
  refine AW.seq ?_
  obtain ⟨b2, hq3, h⟩ := of_bind h
  refine AW.regM [(2, (eBool b2))] [] ?_ ?_
  · refine AO.calm rfl 3 rfl (by decide) (.fz 4 (p0.map e43)) (Calm.move rfl rfl) ?_
    refine AO.calm rfl 4 rfl (by decide) (eI64 (p0.length : Int)) (Calm.lenL rfl rfl Try.underlying37) ?_
    refine AO.calm rfl 5 rfl (by decide) (eBool (decide ((p0.length : Int) ≤ (2000 : Int)))) (Calm.int rfl rfl rfl rfl) ?_
    refine AO.calm rfl 6 rfl (by decide) (eBool (decide ((p0.length : Int) ≤ (2000 : Int)))) (Calm.move rfl rfl) ?_
    by_cases hc4 : (p0.length : Int) ≤ (2000 : Int)
    · have hq3 := (if_pos hc4).symm.trans hq3
      refine AO.calmG 3 true 6 rfl rfl (congrArg (fun b => some (AV.fl (Value.bool b))) (decide_eq_true hc4)) 7 rfl (by decide) (.fz 4 (p0.map e43)) (Calm.move rfl rfl) ?_
      refine AO.calmG 3 true 6 rfl rfl (congrArg (fun b => some (AV.fl (Value.bool b))) (decide_eq_true hc4)) 8 rfl (by decide) (eI64 (p0.length : Int)) (Calm.lenL rfl rfl Try.underlying37) ?_
      refine AO.calmG 3 true 6 rfl rfl (congrArg (fun b => some (AV.fl (Value.bool b))) (decide_eq_true hc4)) 9 rfl (by decide) (eBool (decide ((0 : Int) < (p0.length : Int)))) (Calm.int rfl rfl rfl rfl) ?_
      refine AO.calm rfl 10 rfl (by decide) (eBool (decide ((0 : Int) < (p0.length : Int)))) (Calm.pickT rfl (congrArg (fun b => some (AV.fl (Value.bool b))) (decide_eq_true hc4)) rfl) ?_
      refine AO.calm rfl 11 rfl (by decide) (eBool (decide ((0 : Int) < (p0.length : Int)))) (Calm.move rfl rfl) ?_
      by_cases hc5 : (0 : Int) < (p0.length : Int)
      · have hq3 := (if_pos hc5).symm.trans hq3
        refine AO.calmG 8 true 11 rfl rfl (congrArg (fun b => some (AV.fl (Value.bool b))) (decide_eq_true hc5)) 12 rfl (by decide) (.fz 4 (p0.map e43)) (Calm.move rfl rfl) ?_
        obtain ⟨t6, et6, hq3⟩ := of_bind hq3
        refine AO.callG 8 true 11 [(.fz 4 (p0.map e43)), (eI64 (0 : Int))] (eI64 t6) 13 rfl (by decide) ok31 rfl rfl (congrArg (fun b => some (AV.fl (Value.bool b))) (decide_eq_true hc5)) rfl rfl ⟨rfl, rfl, rfl, rfl, trivial⟩ (ast_Size_spec et6) ?_
        refine AO.calmG 8 true 11 rfl rfl (congrArg (fun b => some (AV.fl (Value.bool b))) (decide_eq_true hc5)) 14 rfl (by decide) (.fz 4 (p0.map e43)) (Calm.move rfl rfl) ?_
        refine AO.calmG 8 true 11 rfl rfl (congrArg (fun b => some (AV.fl (Value.bool b))) (decide_eq_true hc5)) 15 rfl (by decide) (eI64 (p0.length : Int)) (Calm.lenL rfl rfl Try.underlying37) ?_
        refine AO.calmG 8 true 11 rfl rfl (congrArg (fun b => some (AV.fl (Value.bool b))) (decide_eq_true hc5)) 16 rfl (by decide) (eBool (decide (t6 = (p0.length : Int)))) (Calm.int rfl rfl rfl rfl) ?_
        refine AO.calm rfl 17 rfl (by decide) (eBool (decide (t6 = (p0.length : Int)))) (Calm.pickT rfl (congrArg (fun b => some (AV.fl (Value.bool b))) (decide_eq_true hc5)) rfl) ?_
        refine AO.calm rfl 2 rfl (by decide) (eBool (decide (t6 = (p0.length : Int)))) (Calm.assign rfl rfl) ?_
        cases hq3
        refine AO.nilE ⟨rfl, rfl⟩ ?_ ?_
        · exact ⟨rfl, trivial⟩
        · exact (Sub.refl _)
      · have hq3 := (if_neg hc5).symm.trans hq3
        refine AO.skipG 8 false 11 rfl rfl (congrArg (fun b => some (AV.fl (Value.bool b))) (decide_eq_false hc5)) 12 rfl (by decide) ?_
        refine AO.skipG 8 false 11 rfl rfl (congrArg (fun b => some (AV.fl (Value.bool b))) (decide_eq_false hc5)) 13 rfl (by decide) ?_
        refine AO.skipG 8 false 11 rfl rfl (congrArg (fun b => some (AV.fl (Value.bool b))) (decide_eq_false hc5)) 14 rfl (by decide) ?_
        refine AO.skipG 8 false 11 rfl rfl (congrArg (fun b => some (AV.fl (Value.bool b))) (decide_eq_false hc5)) 15 rfl (by decide) ?_
        refine AO.skipG 8 false 11 rfl rfl (congrArg (fun b => some (AV.fl (Value.bool b))) (decide_eq_false hc5)) 16 rfl (by decide) ?_
        refine AO.calm rfl 17 rfl (by decide) (eBool false) (Calm.pickF rfl (congrArg (fun b => some (AV.fl (Value.bool b))) (decide_eq_false hc5)) rfl) ?_
        refine AO.calm rfl 2 rfl (by decide) (eBool false) (Calm.assign rfl rfl) ?_
        cases hq3
        refine AO.nilE ⟨rfl, rfl⟩ ?_ ?_
        · exact ⟨rfl, trivial⟩
        · exact (Sub.refl _)
    · have hq3 := (if_neg hc4).symm.trans hq3
      refine AO.skipG 3 false 6 rfl rfl (congrArg (fun b => some (AV.fl (Value.bool b))) (decide_eq_false hc4)) 7 rfl (by decide) ?_
      refine AO.skipG 3 false 6 rfl rfl (congrArg (fun b => some (AV.fl (Value.bool b))) (decide_eq_false hc4)) 8 rfl (by decide) ?_
      refine AO.skipG 3 false 6 rfl rfl (congrArg (fun b => some (AV.fl (Value.bool b))) (decide_eq_false hc4)) 9 rfl (by decide) ?_
      refine AO.calm rfl 10 rfl (by decide) (eBool false) (Calm.pickF rfl (congrArg (fun b => some (AV.fl (Value.bool b))) (decide_eq_false hc4)) rfl) ?_
      refine AO.calm rfl 11 rfl (by decide) (eBool false) (Calm.move rfl rfl) ?_
      refine AO.skipG 8 false 11 rfl rfl rfl 12 rfl (by decide) ?_
      refine AO.skipG 8 false 11 rfl rfl rfl 13 rfl (by decide) ?_
      refine AO.skipG 8 false 11 rfl rfl rfl 14 rfl (by decide) ?_
      refine AO.skipG 8 false 11 rfl rfl rfl 15 rfl (by decide) ?_
      refine AO.skipG 8 false 11 rfl rfl rfl 16 rfl (by decide) ?_
      refine AO.calm rfl 17 rfl (by decide) (eBool false) (Calm.pickF rfl rfl rfl) ?_
      refine AO.calm rfl 2 rfl (by decide) (eBool false) (Calm.assign rfl rfl) ?_
      cases hq3
      refine AO.nilE ⟨rfl, rfl⟩ ?_ ?_
      · exact ⟨rfl, trivial⟩
      · exact (Sub.refl _)
  · refine AW.ret (ρ' := [(2, (eBool b2))]) (H' := []) ⟨rfl, trivial⟩ (Sub.refl _) ?_
    have hr := Option.some.inj h
    subst hr
    exact ⟨[(eBool b2)], ⟨rfl, rfl, trivial⟩, rfl⟩
end Go.Avl.T2
/- slices.Clone[[]bosket/api.Node,bosket/api.Node]; printed by avmain.py. -/
namespace Go.Avl.T2
open Go Go.RowKit Go.Proofs Go.Avl
set_option linter.unusedVariables false
set_option maxRecDepth 100000
set_option maxHeartbeats 4000000
attribute [local irreducible] AW AO AQ Spec SpecH Calm

def slices_Clone_api_Node_api_Node_ (k : Nat) (p0 : (List S43)) : Option (List S43) :=
  if (([] : List S43) ++ p0).length * 40 ≤ 140737488355328 then some ((([] : List S43) ++ p0))
  else none
theorem slices_Clone_api_Node_api_Node__spec {k : Nat} {p0 : (List S43)} {r : (List S43)} (h : slices_Clone_api_Node_api_Node_ k p0 = some r) : Spec Try.prog 64 [(.fz 4 (p0.map e43))] (e37 r) := by
  rw [slices_Clone_api_Node_api_Node_.eq_1] at h
  refine Spec.intro (res := [.tmp 2]) Try.func64 rfl rfl rfl (Nat.le_of_ble_eq_true rfl) ?_
  refine AW.seq ?_
  refine AW.reg ?_
  refine AO.calm rfl 2 rfl (by decide) (.fl (.slice none 0 0)) (Calm.assign rfl rfl) ?_
  refine AO.nil (ρ' := [(0, (.fz 4 (p0.map e43)))]) (H' := []) ⟨rfl, trivial⟩ (Sub.refl _) ?_
  refine AW.seq ?_
  refine AW.seq ?_
  refine AW.reg ?_
  refine AO.calm rfl 3 rfl (by decide) (.fz 4 (p0.map e43)) (Calm.move rfl rfl) ?_
  refine AO.nilFz rfl 4 rfl (by decide) rfl rfl Try.underlying37 fun gb2 hgb2 => ?_
  refine AO.nil (ρ' := [(0, (.fz 4 (p0.map e43))), (4, (eBool gb2))]) (H' := []) ⟨rfl, rfl, trivial⟩ (Sub.refl _) ?_
  cases gb2
  · refine AW.condF rfl ?_
    refine AW.skip (ρ' := [(0, (.fz 4 (p0.map e43)))]) (H' := []) ⟨rfl, trivial⟩ (Sub.refl _) ?_
    refine AW.seq ?_
    refine AW.reg ?_
    refine AO.lit (Z := (.st [(1, (eBool false)), (1, (eI64 (0 : Int))), (1, (eI64 (0 : Int))), (1, (eStr ByteArray.empty))])) (xs := (([] : List S43).map e43)) (qs := []) rfl 5 rfl (by decide) rfl trivial Try.underlying37 sz43 zr43 lay43 rfl (by decide) (litOK (z := 4) [] rfl trivial) rfl fun n3 => ?_
    refine AO.calm rfl 6 rfl (by decide) (.fz 4 (p0.map e43)) (Calm.move rfl rfl) ?_
    obtain ⟨hg5, h⟩ := of_guard h
    refine AO.appendL (l := ([] : List S43)) (m := p0) 0 7 rfl (by decide) rfl rfl rfl rfl rfl Src.fz Try.underlying37 Try.underlying37 sz43 by43 zr43 rfl hg5 (by decide) fun n4 => ?_
    refine AO.calm rfl 2 rfl (by decide) (.own n4 0 (([] : List S43) ++ p0).length) (Calm.assign rfl rfl) ?_
    refine AO.nil (ρ' := [(2, (.own n4 0 (([] : List S43) ++ p0).length))]) (H' := [(n4, .mem (.ar 4 ((([] : List S43) ++ p0).map e43)))]) ⟨rfl, trivial⟩ (Sub.refl _) ?_
    refine AW.freezeS 0 [(2, (.fz 4 ((([] : List S43) ++ p0).map e43)))] rfl ⟨fz_all rfl, trivial⟩ ?_
    refine AW.ret (ρ' := [(2, (.fz 4 ((([] : List S43) ++ p0).map e43)))]) (H' := []) ⟨rfl, trivial⟩ (Sub.refl _) ?_
    have hr := Option.some.inj h
    subst hr
    exact ⟨[(.fz 4 ((([] : List S43) ++ p0).map e43))], ⟨rfl, rfl, trivial⟩, rfl⟩
  · have hn6 : p0 = [] := List.map_eq_nil_iff.1 (hgb2 rfl)
    have h : (some ([])) = some r := by simpa [hn6] using h
    refine AW.condT rfl ?_
    refine AW.seq ?_
    refine AW.reg ?_
    refine AO.calm rfl 2 rfl (by decide) (.fl (.slice none 0 0)) (Calm.assign rfl rfl) ?_
    refine AO.nil (ρ' := [(2, (.fl (.slice none 0 0)))]) (H' := []) ⟨rfl, trivial⟩ (Sub.refl _) ?_
    refine AW.coeC 2 (y' := (.fz 4 (([] : List S43).map e43))) rfl Coe.nil ?_
    refine AW.ret (ρ' := [(2, (.fz 4 (([] : List S43).map e43)))]) (H' := []) ⟨rfl, trivial⟩ (Sub.refl _) ?_
    have hr := Option.some.inj h
    subst hr
    exact ⟨[(.fz 4 (([] : List S43).map e43))], ⟨rfl, rfl, trivial⟩, rfl⟩
end Go.Avl.T2
/- bosket/ast.Kids; printed by avmain.py. -/
namespace Go.Avl.T2
open Go Go.RowKit Go.Proofs Go.Avl
set_option linter.unusedVariables false
set_option maxRecDepth 100000
set_option maxHeartbeats 4000000
attribute [local irreducible] AW AO AQ Spec SpecH Calm

def ast_Kids_c0 (k : Nat) (x5 : (List (List S43))) : Option (List (List S43)) :=
  some (x5)
def ast_Kids_l1 (k : Nat) (p0 : (List S43)) : Nat → (List (List S43)) → Int → Option (List (List S43))
  | 0, _, _ => none
  | j + 1, x7, x8 =>
    if x8 < (p0.length : Int) then (ast_Size k p0 x8).bind fun t12 =>
    if 0 ≤ x8 ∧ x8 ≤ (w64 (x8 + t12)) ∧ (w64 (x8 + t12)) ≤ (p0.length : Int) then (slices_Clone_api_Node_api_Node_ k (lcut p0 x8 (w64 (x8 + t12)))).bind fun t14 =>
    if (x7 ++ ([t14] : List (List S43))).length * 24 ≤ 140737488355328 then (ast_Kids_l1 k p0 j) (x7 ++ ([t14] : List (List S43))) (w64 (x8 + t12))
    else none
    else none
    else ast_Kids_c0 k x7
def ast_Kids (k : Nat) (p0 : (List S43)) : Option (List (List S43)) :=
  (ast_Right k p0).bind fun t2 =>
  if (!t2) = true then some ([])
  else ast_Kids_l1 k p0 k [] (1 : Int)
theorem ast_Kids_spec {k : Nat} {p0 : (List S43)} {r : (List (List S43))} (h : ast_Kids k p0 = some r) : Spec Try.prog 33 [(.fz 4 (p0.map e43))] (e49 r) := by
  rw [ast_Kids.eq_1] at h
  refine Spec.intro (res := [.tmp 2]) Try.func33 rfl rfl rfl (Nat.le_of_ble_eq_true rfl) ?_
  refine AW.seq ?_
  refine AW.reg ?_
  refine AO.calm rfl 2 rfl (by decide) (.fl (.slice none 0 0)) (Calm.assign rfl rfl) ?_
  refine AO.nil (ρ' := [(0, (.fz 4 (p0.map e43)))]) (H' := []) ⟨rfl, trivial⟩ (Sub.refl _) ?_
  refine AW.seq ?_
  refine AW.seq ?_
  refine AW.reg ?_
  refine AO.calm rfl 6 rfl (by decide) (.fz 4 (p0.map e43)) (Calm.move rfl rfl) ?_
  obtain ⟨t2, et2, h⟩ := of_bind h
  refine AO.callS [(.fz 4 (p0.map e43))] (eBool t2) 7 rfl (by decide) ok30 rfl rfl rfl ⟨rfl, rfl, trivial⟩ (ast_Right_spec et2) ?_
  refine AO.calm rfl 8 rfl (by decide) (eBool (!t2)) (Calm.not rfl rfl) ?_
  refine AO.nil (ρ' := [(0, (.fz 4 (p0.map e43))), (8, (eBool (!t2)))]) (H' := []) ⟨rfl, rfl, trivial⟩ (Sub.refl _) ?_
  by_cases hc3 : (!t2) = true
  · have h := (if_pos hc3).symm.trans h
    refine AW.condT' (!t2) rfl hc3 ?_
    refine AW.seq ?_
    refine AW.reg ?_
    refine AO.calm rfl 2 rfl (by decide) (.fl (.slice none 0 0)) (Calm.assign rfl rfl) ?_
    refine AO.nil (ρ' := [(2, (.fl (.slice none 0 0)))]) (H' := []) ⟨rfl, trivial⟩ (Sub.refl _) ?_
    refine AW.coeC 2 (y' := (.fz 1 (([] : List (List S43)).map e37))) rfl Coe.nil ?_
    refine AW.ret (ρ' := [(2, (.fz 1 (([] : List (List S43)).map e37)))]) (H' := []) ⟨rfl, trivial⟩ (Sub.refl _) ?_
    have hr := Option.some.inj h
    subst hr
    exact ⟨[(.fz 1 (([] : List (List S43)).map e37))], ⟨rfl, rfl, trivial⟩, rfl⟩
  · have h := (if_neg hc3).symm.trans h
    refine AW.condF' (!t2) rfl hc3 ?_
    refine AW.skip (ρ' := [(0, (.fz 4 (p0.map e43)))]) (H' := []) ⟨rfl, trivial⟩ (Sub.refl _) ?_
    refine AW.seq ?_
    refine AW.reg ?_
    refine AO.calm rfl 3 rfl (by decide) (.fl (.slice none 0 0)) (Calm.assign rfl rfl) ?_
    refine AO.nil (ρ' := [(0, (.fz 4 (p0.map e43))), (3, (.fl (.slice none 0 0)))]) (H' := []) ⟨rfl, rfl, trivial⟩ (Sub.refl _) ?_
    refine AW.seq_mid (fun ρ H => ∃ (n4 : Nat) (x5 : (List (List S43))), ρ = [(3, (.own n4 0 x5.length))] ∧ H = [(n4, .mem (.ar 1 (x5.map e37)))] ∧ ast_Kids_c0 k x5 = some r) ?_ ?_
    · refine AW.seq ?_
      refine AW.reg ?_
      refine AO.calm rfl 4 rfl (by decide) (eI64 (1 : Int)) (Calm.assign rfl rfl) ?_
      refine AO.nil (ρ' := [(0, (.fz 4 (p0.map e43))), (3, (.fl (.slice none 0 0))), (4, (eI64 (1 : Int)))]) (H' := []) ⟨rfl, rfl, rfl, trivial⟩ (Sub.refl _) ?_
      refine AW.block ?_
      refine AW.nilOwn 3 1 rfl fun n18 => ?_
      refine AW.weak (ρ' := [(0, (.fz 4 (p0.map e43))), (3, (.own n18 0 ([] : List (List S43)).length)), (4, (eI64 (1 : Int)))]) (H' := [(n18, .mem (.ar 1 (([] : List (List S43)).map e37)))]) ⟨rfl, rfl, rfl, trivial⟩ (Sub.refl _) ?_
      refine AW.loop (fun kq ρ H => ∃ (n6 : Nat) (x7 : (List (List S43))) (x8 : Int), ρ = [(0, (.fz 4 (p0.map e43))), (3, (.own n6 0 x7.length)), (4, (eI64 x8))] ∧ H = [(n6, .mem (.ar 1 (x7.map e37)))] ∧ ast_Kids_l1 k p0 kq x7 x8 = some r) k ⟨n18, [], (1 : Int), rfl, rfl, h⟩ ?_
      rintro kq10 _ _ ⟨n6, x7, x8, rfl, rfl, h⟩
      cases kq10 with
      | zero => rw [ast_Kids_l1.eq_1] at h; cases h
      | succ kq10 =>
      rw [ast_Kids_l1.eq_2] at h
      generalize hrec9 : ast_Kids_l1 k p0 kq10 = rec9 at h
      refine AW.seq ?_
      refine AW.seq ?_
      refine AW.reg ?_
      refine AO.calm rfl 9 rfl (by decide) (eI64 x8) (Calm.move rfl rfl) ?_
      refine AO.calm rfl 10 rfl (by decide) (.fz 4 (p0.map e43)) (Calm.move rfl rfl) ?_
      refine AO.calm rfl 11 rfl (by decide) (eI64 (p0.length : Int)) (Calm.lenL rfl rfl Try.underlying37) ?_
      refine AO.calm rfl 12 rfl (by decide) (eBool (decide (x8 < (p0.length : Int)))) (Calm.int rfl rfl rfl rfl) ?_
      refine AO.nil (ρ' := [(0, (.fz 4 (p0.map e43))), (3, (.own n6 0 x7.length)), (4, (eI64 x8)), (12, (eBool (decide (x8 < (p0.length : Int)))))]) (H' := [(n6, .mem (.ar 1 (x7.map e37)))]) ⟨rfl, rfl, rfl, rfl, trivial⟩ (Sub.refl _) ?_
      by_cases hc11 : x8 < (p0.length : Int)
      · have h := (if_pos hc11).symm.trans h
        refine AW.condP (x8 < (p0.length : Int)) rfl hc11 ?_
        refine AW.skip (ρ' := [(0, (.fz 4 (p0.map e43))), (3, (.own n6 0 x7.length)), (4, (eI64 x8))]) (H' := [(n6, .mem (.ar 1 (x7.map e37)))]) ⟨rfl, rfl, rfl, trivial⟩ (Sub.refl _) ?_
        refine AW.block ?_
        refine AW.seq ?_
        refine AW.reg ?_
        refine AO.calm rfl 13 rfl (by decide) (.fz 4 (p0.map e43)) (Calm.move rfl rfl) ?_
        refine AO.calm rfl 14 rfl (by decide) (eI64 x8) (Calm.move rfl rfl) ?_
        obtain ⟨t12, et12, h⟩ := of_bind h
        refine AO.callS [(.fz 4 (p0.map e43)), (eI64 x8)] (eI64 t12) 15 rfl (by decide) ok31 rfl rfl rfl ⟨rfl, rfl, rfl, rfl, trivial⟩ (ast_Size_spec et12) ?_
        refine AO.calm rfl 5 rfl (by decide) (eI64 t12) (Calm.assign rfl rfl) ?_
        refine AO.nil (ρ' := [(0, (.fz 4 (p0.map e43))), (3, (.own n6 0 x7.length)), (4, (eI64 x8)), (5, (eI64 t12))]) (H' := [(n6, .mem (.ar 1 (x7.map e37)))]) ⟨rfl, rfl, rfl, rfl, trivial⟩ (Sub.refl _) ?_
        refine AW.seq ?_
        refine AW.reg ?_
        refine AO.calm rfl 16 rfl (by decide) (.own n6 0 x7.length) (Calm.move rfl rfl) ?_
        refine AO.calm rfl 17 rfl (by decide) (.fz 4 (p0.map e43)) (Calm.move rfl rfl) ?_
        refine AO.calm rfl 18 rfl (by decide) (eI64 x8) (Calm.move rfl rfl) ?_
        refine AO.calm rfl 19 rfl (by decide) (eI64 x8) (Calm.move rfl rfl) ?_
        refine AO.calm rfl 20 rfl (by decide) (eI64 t12) (Calm.move rfl rfl) ?_
        refine AO.calm rfl 21 rfl (by decide) (eI64 (w64 (x8 + t12))) (Calm.int rfl rfl rfl rfl) ?_
        obtain ⟨hg13, h⟩ := of_guard h
        refine AO.calm rfl 22 rfl (by decide) (.fz 4 ((lcut p0 x8 (w64 (x8 + t12))).map e43)) (Calm.sliceL rfl rfl rfl rfl hg13 Try.underlying37 sz43) ?_
        obtain ⟨t14, et14, h⟩ := of_bind h
        refine AO.callS [(.fz 4 ((lcut p0 x8 (w64 (x8 + t12))).map e43))] (.fz 4 (t14.map e43)) 23 rfl (by decide) ok64 rfl rfl rfl ⟨rfl, rfl, trivial⟩ (slices_Clone_api_Node_api_Node__spec et14) ?_
        refine AO.lit (Z := (.fl (.slice none 0 0))) (xs := (([t14] : List (List S43)).map e37)) (qs := [(0, (.fz 4 (t14.map e43)))]) rfl 24 rfl (by decide) rfl ⟨rfl, rfl, rfl, trivial⟩ Try.underlying49 sz37 zr37 lay37 rfl (by decide) (litOK (z := 1) [(.fz 4 (t14.map e43))] rfl ⟨⟨rfl, rfl⟩, trivial⟩) rfl fun n15 => ?_
        obtain ⟨hg17, h⟩ := of_guard h
        refine AO.appendL (l := x7) (m := ([t14] : List (List S43))) 1 25 rfl (by decide) rfl rfl rfl rfl rfl (Src.ownL (f := e37) (l := ([t14] : List (List S43))) 0 rfl) Try.underlying49 Try.underlying49 sz37 by37 zr37 rfl hg17 (by decide) fun n16 => ?_
        refine AO.calm rfl 3 rfl (by decide) (.own n16 0 (x7 ++ ([t14] : List (List S43))).length) (Calm.assign rfl rfl) ?_
        refine AO.nil (ρ' := [(0, (.fz 4 (p0.map e43))), (3, (.own n16 0 (x7 ++ ([t14] : List (List S43))).length)), (4, (eI64 x8)), (5, (eI64 t12))]) (H' := [(n16, .mem (.ar 1 ((x7 ++ ([t14] : List (List S43))).map e37)))]) ⟨rfl, rfl, rfl, rfl, trivial⟩ (Sub.cons 1 rfl (Sub.nil _)) ?_
        refine AW.reg ?_
        refine AO.calm rfl 26 rfl (by decide) (eI64 x8) (Calm.move rfl rfl) ?_
        refine AO.calm rfl 27 rfl (by decide) (eI64 t12) (Calm.move rfl rfl) ?_
        refine AO.calm rfl 28 rfl (by decide) (eI64 (w64 (x8 + t12))) (Calm.int rfl rfl rfl rfl) ?_
        refine AO.calm rfl 4 rfl (by decide) (eI64 (w64 (x8 + t12))) (Calm.assign rfl rfl) ?_
        refine AO.nil (ρ' := [(0, (.fz 4 (p0.map e43))), (3, (.own n16 0 (x7 ++ ([t14] : List (List S43))).length)), (4, (eI64 (w64 (x8 + t12))))]) (H' := [(n16, .mem (.ar 1 ((x7 ++ ([t14] : List (List S43))).map e37)))]) ⟨rfl, rfl, rfl, trivial⟩ (Sub.refl _) ?_
        exact ⟨kq10, Nat.lt_succ_self _, n16, (x7 ++ ([t14] : List (List S43))), (w64 (x8 + t12)), rfl, rfl, by rw [hrec9]; exact h⟩
      · have h := (if_neg hc11).symm.trans h
        refine AW.condN (x8 < (p0.length : Int)) rfl hc11 ?_
        refine AW.exit (ρ' := [(3, (.own n6 0 x7.length))]) (H' := [(n6, .mem (.ar 1 (x7.map e37)))]) ⟨rfl, trivial⟩ (Sub.refl _) ?_
        exact ⟨n6, x7, rfl, rfl, h⟩
    · rintro _ _ ⟨n4, x5, rfl, rfl, h⟩
      rw [ast_Kids_c0.eq_1] at h
      refine AW.seq ?_
      refine AW.reg ?_
      refine AO.calm rfl 29 rfl (by decide) (.own n4 0 x5.length) (Calm.move rfl rfl) ?_
      refine AO.calm rfl 2 rfl (by decide) (.own n4 0 x5.length) (Calm.assign rfl rfl) ?_
      refine AO.nil (ρ' := [(2, (.own n4 0 x5.length))]) (H' := [(n4, .mem (.ar 1 (x5.map e37)))]) ⟨rfl, trivial⟩ (Sub.refl _) ?_
      refine AW.freezeS 0 [(2, (.fz 1 (x5.map e37)))] rfl ⟨fz_all rfl, trivial⟩ ?_
      refine AW.ret (ρ' := [(2, (.fz 1 (x5.map e37)))]) (H' := []) ⟨rfl, trivial⟩ (Sub.refl _) ?_
      have hr := Option.some.inj h
      subst hr
      exact ⟨[(.fz 1 (x5.map e37))], ⟨rfl, rfl, trivial⟩, rfl⟩
end Go.Avl.T2
/- bosket/ast.Depth; printed by avmain.py. -/
namespace Go.Avl.T2
open Go Go.RowKit Go.Proofs Go.Avl
set_option linter.unusedVariables false
set_option maxRecDepth 100000
set_option maxHeartbeats 4000000
attribute [local irreducible] AW AO AQ Spec SpecH Calm

def ast_Depth_c0 (k : Nat) (p0 : (List S43)) (x2 : Int) : Option Int :=
  (ast_Right k p0).bind fun t3 =>
  if (!t3) = true then some ((0 : Int))
  else some ((w64 (x2 + (1 : Int))))
def ast_Depth_l1 (k : Nat) (self : ((List S43) → Option Int)) (p0 : (List S43)) (t5 : (List (List S43))) : Nat → Int → Int → Option Int
  | 0, _, _ => none
  | j + 1, x6, x7 =>
    if x7 < (t5.length : Int) then if 0 ≤ x7 ∧ x7 < (t5.length : Int) then (self (lget t5 x7)).bind fun t12 =>
    (ast_Depth_l1 k self p0 t5 j) (max x6 t12) (w64 (x7 + (1 : Int)))
    else none
    else ast_Depth_c0 k p0 x6
def ast_Depth_r (k : Nat) : Nat → (List S43) → Option Int
  | 0, _ => none
  | j + 1, p0 =>
    (ast_Kids k p0).bind fun t5 =>
    ast_Depth_l1 k (ast_Depth_r k j) p0 t5 k (0 : Int) (0 : Int)
def ast_Depth (k : Nat) (p0 : (List S43)) : Option Int := ast_Depth_r k k p0
theorem ast_Depth_spec' (k : Nat) : ∀ (j : Nat) (p0 : (List S43)) (r : Int), ast_Depth_r k j p0 = some r → Spec Try.prog 34 [(.fz 4 (p0.map e43))] (eI64 r) := by
  intro j
  induction j with
  | zero => intro p0 r h; rw [ast_Depth_r.eq_1] at h; cases h
  | succ j hself =>
  intro p0 r h
  rw [ast_Depth_r.eq_2] at h
  generalize hs : ast_Depth_r k j = self at h hself
  refine Spec.intro (res := [.tmp 2]) Try.func34 rfl rfl rfl (Nat.le_of_ble_eq_true rfl) ?_
  refine AW.seq ?_
  refine AW.reg ?_
  refine AO.calm rfl 2 rfl (by decide) (eI64 (0 : Int)) (Calm.assign rfl rfl) ?_
  refine AO.nil (ρ' := [(0, (.fz 4 (p0.map e43)))]) (H' := []) ⟨rfl, trivial⟩ (Sub.refl _) ?_
  refine AW.seq ?_
  refine AW.reg ?_
  refine AO.calm rfl 3 rfl (by decide) (eI64 (0 : Int)) (Calm.assign rfl rfl) ?_
  refine AO.nil (ρ' := [(0, (.fz 4 (p0.map e43))), (3, (eI64 (0 : Int)))]) (H' := []) ⟨rfl, rfl, trivial⟩ (Sub.refl _) ?_
  refine AW.seq_mid (fun ρ H => ∃ (x2 : Int), ρ = [(0, (.fz 4 (p0.map e43))), (3, (eI64 x2))] ∧ H = [] ∧ ast_Depth_c0 k p0 x2 = some r) ?_ ?_
  · refine AW.seq ?_
    refine AW.reg ?_
    refine AO.calm rfl 6 rfl (by decide) (.fz 4 (p0.map e43)) (Calm.move rfl rfl) ?_
    obtain ⟨t5, et5, h⟩ := of_bind h
    refine AO.callS [(.fz 4 (p0.map e43))] (.fz 1 (t5.map e37)) 7 rfl (by decide) ok33 rfl rfl rfl ⟨rfl, rfl, trivial⟩ (ast_Kids_spec et5) ?_
    refine AO.calm rfl 8 rfl (by decide) (eI64 (t5.length : Int)) (Calm.lenL rfl rfl Try.underlying49) ?_
    refine AO.calm rfl 9 rfl (by decide) (eI64 (0 : Int)) (Calm.move rfl rfl) ?_
    refine AO.nil (ρ' := [(0, (.fz 4 (p0.map e43))), (3, (eI64 (0 : Int))), (7, (.fz 1 (t5.map e37))), (8, (eI64 (t5.length : Int))), (9, (eI64 (0 : Int)))]) (H' := []) ⟨rfl, rfl, rfl, rfl, rfl, trivial⟩ (Sub.refl _) ?_
    refine AW.block ?_
    refine AW.weak (ρ' := [(0, (.fz 4 (p0.map e43))), (3, (eI64 (0 : Int))), (7, (.fz 1 (t5.map e37))), (8, (eI64 (t5.length : Int))), (9, (eI64 (0 : Int)))]) (H' := []) ⟨rfl, rfl, rfl, rfl, rfl, trivial⟩ (Sub.refl _) ?_
    refine AW.loop (fun kq ρ H => ∃ (x6 : Int) (x7 : Int), ρ = [(0, (.fz 4 (p0.map e43))), (3, (eI64 x6)), (7, (.fz 1 (t5.map e37))), (8, (eI64 (t5.length : Int))), (9, (eI64 x7))] ∧ H = [] ∧ ast_Depth_l1 k self p0 t5 kq x6 x7 = some r) k ⟨(0 : Int), (0 : Int), rfl, rfl, h⟩ ?_
    rintro kq9 _ _ ⟨x6, x7, rfl, rfl, h⟩
    cases kq9 with
    | zero => rw [ast_Depth_l1.eq_1] at h; cases h
    | succ kq9 =>
    rw [ast_Depth_l1.eq_2] at h
    generalize hrec8 : ast_Depth_l1 k self p0 t5 kq9 = rec8 at h
    refine AW.seq ?_
    refine AW.reg ?_
    refine AO.calm rfl 10 rfl (by decide) (eBool (decide (x7 < (t5.length : Int)))) (Calm.int rfl rfl rfl rfl) ?_
    refine AO.nil (ρ' := [(0, (.fz 4 (p0.map e43))), (3, (eI64 x6)), (7, (.fz 1 (t5.map e37))), (8, (eI64 (t5.length : Int))), (9, (eI64 x7)), (10, (eBool (decide (x7 < (t5.length : Int)))))]) (H' := []) ⟨rfl, rfl, rfl, rfl, rfl, rfl, trivial⟩ (Sub.refl _) ?_
    refine AW.seq ?_
    by_cases hc10 : x7 < (t5.length : Int)
    · have h := (if_pos hc10).symm.trans h
      refine AW.condP (x7 < (t5.length : Int)) rfl hc10 ?_
      refine AW.skip (ρ' := [(0, (.fz 4 (p0.map e43))), (3, (eI64 x6)), (7, (.fz 1 (t5.map e37))), (8, (eI64 (t5.length : Int))), (9, (eI64 x7))]) (H' := []) ⟨rfl, rfl, rfl, rfl, rfl, trivial⟩ (Sub.refl _) ?_
      refine AW.seq ?_
      refine AW.block ?_
      refine AW.seq ?_
      refine AW.reg ?_
      obtain ⟨hg11, h⟩ := of_guard h
      refine AO.calm rfl 11 rfl (by decide) (.rp (.fz 4 ((lget t5 x7).map e43))) (Calm.idxL (f := e37) rfl rfl rfl hg11 Try.underlying49 sz37) ?_
      refine AO.calm rfl 12 rfl (by decide) (.fz 4 ((lget t5 x7).map e43)) (Calm.loadRp rfl rfl ag37 sz37) ?_
      refine AO.calm rfl 5 rfl (by decide) (.fz 4 ((lget t5 x7).map e43)) (Calm.assign rfl rfl) ?_
      refine AO.nil (ρ' := [(0, (.fz 4 (p0.map e43))), (3, (eI64 x6)), (5, (.fz 4 ((lget t5 x7).map e43))), (7, (.fz 1 (t5.map e37))), (8, (eI64 (t5.length : Int))), (9, (eI64 x7))]) (H' := []) ⟨rfl, rfl, rfl, rfl, rfl, rfl, trivial⟩ (Sub.refl _) ?_
      refine AW.reg ?_
      refine AO.calm rfl 13 rfl (by decide) (eI64 x6) (Calm.move rfl rfl) ?_
      refine AO.calm rfl 14 rfl (by decide) (.fz 4 ((lget t5 x7).map e43)) (Calm.move rfl rfl) ?_
      obtain ⟨t12, et12, h⟩ := of_bind h
      refine AO.callS [(.fz 4 ((lget t5 x7).map e43))] (eI64 t12) 15 rfl (by decide) ok34 rfl rfl rfl ⟨rfl, rfl, trivial⟩ (hself _ _ et12) ?_
      refine AO.calm rfl 16 rfl (by decide) (eI64 (max x6 t12)) (Calm.max2 rfl rfl rfl) ?_
      refine AO.calm rfl 3 rfl (by decide) (eI64 (max x6 t12)) (Calm.assign rfl rfl) ?_
      refine AO.nil (ρ' := [(0, (.fz 4 (p0.map e43))), (3, (eI64 (max x6 t12))), (7, (.fz 1 (t5.map e37))), (8, (eI64 (t5.length : Int))), (9, (eI64 x7))]) (H' := []) ⟨rfl, rfl, rfl, rfl, rfl, trivial⟩ (Sub.refl _) ?_
      refine AW.reg ?_
      refine AO.calm rfl 17 rfl (by decide) (eI64 (w64 (x7 + (1 : Int)))) (Calm.int rfl rfl rfl rfl) ?_
      refine AO.calm rfl 9 rfl (by decide) (eI64 (w64 (x7 + (1 : Int)))) (Calm.move rfl rfl) ?_
      refine AO.nil (ρ' := [(0, (.fz 4 (p0.map e43))), (3, (eI64 (max x6 t12))), (7, (.fz 1 (t5.map e37))), (8, (eI64 (t5.length : Int))), (9, (eI64 (w64 (x7 + (1 : Int)))))]) (H' := []) ⟨rfl, rfl, rfl, rfl, rfl, trivial⟩ (Sub.refl _) ?_
      exact ⟨kq9, Nat.lt_succ_self _, (max x6 t12), (w64 (x7 + (1 : Int))), rfl, rfl, by rw [hrec8]; exact h⟩
    · have h := (if_neg hc10).symm.trans h
      refine AW.condN (x7 < (t5.length : Int)) rfl hc10 ?_
      refine AW.exit (ρ' := [(0, (.fz 4 (p0.map e43))), (3, (eI64 x6))]) (H' := []) ⟨rfl, rfl, trivial⟩ (Sub.refl _) ?_
      exact ⟨x6, rfl, rfl, h⟩
  · rintro _ _ ⟨x2, rfl, rfl, h⟩
    rw [ast_Depth_c0.eq_1] at h
    refine AW.seq ?_
    refine AW.seq ?_
    refine AW.reg ?_
    refine AO.calm rfl 18 rfl (by decide) (.fz 4 (p0.map e43)) (Calm.move rfl rfl) ?_
    obtain ⟨t3, et3, h⟩ := of_bind h
    refine AO.callS [(.fz 4 (p0.map e43))] (eBool t3) 19 rfl (by decide) ok30 rfl rfl rfl ⟨rfl, rfl, trivial⟩ (ast_Right_spec et3) ?_
    refine AO.calm rfl 20 rfl (by decide) (eBool (!t3)) (Calm.not rfl rfl) ?_
    refine AO.nil (ρ' := [(3, (eI64 x2)), (20, (eBool (!t3)))]) (H' := []) ⟨rfl, rfl, trivial⟩ (Sub.refl _) ?_
    by_cases hc4 : (!t3) = true
    · have h := (if_pos hc4).symm.trans h
      refine AW.condT' (!t3) rfl hc4 ?_
      refine AW.seq ?_
      refine AW.reg ?_
      refine AO.calm rfl 2 rfl (by decide) (eI64 (0 : Int)) (Calm.assign rfl rfl) ?_
      refine AO.nil (ρ' := [(2, (eI64 (0 : Int)))]) (H' := []) ⟨rfl, trivial⟩ (Sub.refl _) ?_
      refine AW.ret (ρ' := [(2, (eI64 (0 : Int)))]) (H' := []) ⟨rfl, trivial⟩ (Sub.refl _) ?_
      have hr := Option.some.inj h
      subst hr
      exact ⟨[(eI64 (0 : Int))], ⟨rfl, rfl, trivial⟩, rfl⟩
    · have h := (if_neg hc4).symm.trans h
      refine AW.condF' (!t3) rfl hc4 ?_
      refine AW.skip (ρ' := [(3, (eI64 x2))]) (H' := []) ⟨rfl, trivial⟩ (Sub.refl _) ?_
      refine AW.seq ?_
      refine AW.reg ?_
      refine AO.calm rfl 21 rfl (by decide) (eI64 x2) (Calm.move rfl rfl) ?_
      refine AO.calm rfl 22 rfl (by decide) (eI64 (w64 (x2 + (1 : Int)))) (Calm.int rfl rfl rfl rfl) ?_
      refine AO.calm rfl 2 rfl (by decide) (eI64 (w64 (x2 + (1 : Int)))) (Calm.assign rfl rfl) ?_
      refine AO.nil (ρ' := [(2, (eI64 (w64 (x2 + (1 : Int)))))]) (H' := []) ⟨rfl, trivial⟩ (Sub.refl _) ?_
      refine AW.ret (ρ' := [(2, (eI64 (w64 (x2 + (1 : Int)))))]) (H' := []) ⟨rfl, trivial⟩ (Sub.refl _) ?_
      have hr := Option.some.inj h
      subst hr
      exact ⟨[(eI64 (w64 (x2 + (1 : Int))))], ⟨rfl, rfl, trivial⟩, rfl⟩
theorem ast_Depth_spec {k : Nat} {p0 : (List S43)} {r : Int} (h : ast_Depth k p0 = some r) : Spec Try.prog 34 [(.fz 4 (p0.map e43))] (eI64 r) := ast_Depth_spec' k k p0 r h
end Go.Avl.T2
/- bosket/bosketref31.Kids; printed by avmain.py. -/
namespace Go.Avl.T2
open Go Go.RowKit Go.Proofs Go.Avl
set_option linter.unusedVariables false
set_option maxRecDepth 100000
set_option maxHeartbeats 4000000
attribute [local irreducible] AW AO AQ Spec SpecH Calm

def bosketref31_Kids_c0 (k : Nat) (x3 : (List (List S43))) : Option (List (List S43)) :=
  some (x3)
def bosketref31_Kids_l1 (k : Nat) (p0 : (List S43)) : Nat → (List (List S43)) → Int → Int → Option (List (List S43))
  | 0, _, _, _ => none
  | j + 1, x5, x6, x7 =>
    if 0 ≤ (0 : Int) ∧ (0 : Int) < (p0.length : Int) then if x7 < ((lget p0 (0 : Int)).f2) then (bosketref31_Size k p0 x6).bind fun t12 =>
    if 0 ≤ x6 ∧ x6 ≤ (w64 (x6 + t12)) ∧ (w64 (x6 + t12)) ≤ (p0.length : Int) then if (x5 ++ ([(lcut p0 x6 (w64 (x6 + t12)))] : List (List S43))).length * 24 ≤ 140737488355328 then (bosketref31_Kids_l1 k p0 j) (x5 ++ ([(lcut p0 x6 (w64 (x6 + t12)))] : List (List S43))) (w64 (x6 + t12)) (w64 (x7 + (1 : Int)))
    else none
    else none
    else bosketref31_Kids_c0 k x5
    else none
def bosketref31_Kids (k : Nat) (p0 : (List S43)) : Option (List (List S43)) :=
  bosketref31_Kids_l1 k p0 k [] (1 : Int) (0 : Int)
theorem bosketref31_Kids_spec {k : Nat} {p0 : (List S43)} {r : (List (List S43))} (h : bosketref31_Kids k p0 = some r) : Spec Try.prog 35 [(.fz 4 (p0.map e43))] (e49 r) := by
  rw [bosketref31_Kids.eq_1] at h
  refine Spec.intro (res := [.tmp 2]) Try.func35 rfl rfl rfl (Nat.le_of_ble_eq_true rfl) ?_
  refine AW.seq ?_
  refine AW.reg ?_
  refine AO.calm rfl 2 rfl (by decide) (.fl (.slice none 0 0)) (Calm.assign rfl rfl) ?_
  refine AO.nil (ρ' := [(0, (.fz 4 (p0.map e43)))]) (H' := []) ⟨rfl, trivial⟩ (Sub.refl _) ?_
  refine AW.seq ?_
  refine AW.reg ?_
  refine AO.calm rfl 3 rfl (by decide) (.fl (.slice none 0 0)) (Calm.assign rfl rfl) ?_
  refine AO.nil (ρ' := [(0, (.fz 4 (p0.map e43))), (3, (.fl (.slice none 0 0)))]) (H' := []) ⟨rfl, rfl, trivial⟩ (Sub.refl _) ?_
  refine AW.seq ?_
  refine AW.reg ?_
  refine AO.calm rfl 4 rfl (by decide) (eI64 (1 : Int)) (Calm.assign rfl rfl) ?_
  refine AO.nil (ρ' := [(0, (.fz 4 (p0.map e43))), (3, (.fl (.slice none 0 0))), (4, (eI64 (1 : Int)))]) (H' := []) ⟨rfl, rfl, rfl, trivial⟩ (Sub.refl _) ?_
  refine AW.seq_mid (fun ρ H => ∃ (n2 : Nat) (x3 : (List (List S43))), ρ = [(3, (.own n2 0 x3.length))] ∧ H = [(n2, .mem (.ar 1 (x3.map e37)))] ∧ bosketref31_Kids_c0 k x3 = some r) ?_ ?_
  · refine AW.seq ?_
    refine AW.reg ?_
    refine AO.calm rfl 5 rfl (by decide) (eI64 (0 : Int)) (Calm.assign rfl rfl) ?_
    refine AO.nil (ρ' := [(0, (.fz 4 (p0.map e43))), (3, (.fl (.slice none 0 0))), (4, (eI64 (1 : Int))), (5, (eI64 (0 : Int)))]) (H' := []) ⟨rfl, rfl, rfl, rfl, trivial⟩ (Sub.refl _) ?_
    refine AW.block ?_
    refine AW.nilOwn 3 1 rfl fun n17 => ?_
    refine AW.weak (ρ' := [(0, (.fz 4 (p0.map e43))), (3, (.own n17 0 ([] : List (List S43)).length)), (4, (eI64 (1 : Int))), (5, (eI64 (0 : Int)))]) (H' := [(n17, .mem (.ar 1 (([] : List (List S43)).map e37)))]) ⟨rfl, rfl, rfl, rfl, trivial⟩ (Sub.refl _) ?_
    refine AW.loop (fun kq ρ H => ∃ (n4 : Nat) (x5 : (List (List S43))) (x6 : Int) (x7 : Int), ρ = [(0, (.fz 4 (p0.map e43))), (3, (.own n4 0 x5.length)), (4, (eI64 x6)), (5, (eI64 x7))] ∧ H = [(n4, .mem (.ar 1 (x5.map e37)))] ∧ bosketref31_Kids_l1 k p0 kq x5 x6 x7 = some r) k ⟨n17, [], (1 : Int), (0 : Int), rfl, rfl, h⟩ ?_
    rintro kq9 _ _ ⟨n4, x5, x6, x7, rfl, rfl, h⟩
    cases kq9 with
    | zero => rw [bosketref31_Kids_l1.eq_1] at h; cases h
    | succ kq9 =>
    rw [bosketref31_Kids_l1.eq_2] at h
    generalize hrec8 : bosketref31_Kids_l1 k p0 kq9 = rec8 at h
    refine AW.seq ?_
    refine AW.seq ?_
    refine AW.reg ?_
    refine AO.calm rfl 7 rfl (by decide) (eI64 x7) (Calm.move rfl rfl) ?_
    refine AO.calm rfl 8 rfl (by decide) (.fz 4 (p0.map e43)) (Calm.move rfl rfl) ?_
    obtain ⟨hg10, h⟩ := of_guard h
    refine AO.calm rfl 9 rfl (by decide) (.rp (e43 (lget p0 (0 : Int)))) (Calm.idxL (f := e43) rfl rfl rfl hg10 Try.underlying37 sz43) ?_
    refine AO.calm rfl 10 rfl (by decide) (.rp (eI64 ((lget p0 (0 : Int)).f2))) (Calm.fldRp rfl rfl Try.underlying43 rfl sz3 (At.cast (At.fldS (At.fldS (At.fld0 At.here))) rfl)) ?_
    refine AO.calm rfl 11 rfl (by decide) (eI64 ((lget p0 (0 : Int)).f2)) (Calm.loadRp rfl rfl ag3 sz3) ?_
    refine AO.calm rfl 12 rfl (by decide) (eBool (decide (x7 < ((lget p0 (0 : Int)).f2)))) (Calm.int rfl rfl rfl rfl) ?_
    refine AO.nil (ρ' := [(0, (.fz 4 (p0.map e43))), (3, (.own n4 0 x5.length)), (4, (eI64 x6)), (5, (eI64 x7)), (12, (eBool (decide (x7 < ((lget p0 (0 : Int)).f2)))))]) (H' := [(n4, .mem (.ar 1 (x5.map e37)))]) ⟨rfl, rfl, rfl, rfl, rfl, trivial⟩ (Sub.refl _) ?_
    by_cases hc11 : x7 < ((lget p0 (0 : Int)).f2)
    · have h := (if_pos hc11).symm.trans h
      refine AW.condP (x7 < ((lget p0 (0 : Int)).f2)) rfl hc11 ?_
      refine AW.skip (ρ' := [(0, (.fz 4 (p0.map e43))), (3, (.own n4 0 x5.length)), (4, (eI64 x6)), (5, (eI64 x7))]) (H' := [(n4, .mem (.ar 1 (x5.map e37)))]) ⟨rfl, rfl, rfl, rfl, trivial⟩ (Sub.refl _) ?_
      refine AW.seq ?_
      refine AW.block ?_
      refine AW.seq ?_
      refine AW.reg ?_
      refine AO.calm rfl 15 rfl (by decide) (.fz 4 (p0.map e43)) (Calm.move rfl rfl) ?_
      refine AO.calm rfl 16 rfl (by decide) (eI64 x6) (Calm.move rfl rfl) ?_
      obtain ⟨t12, et12, h⟩ := of_bind h
      refine AO.callS [(.fz 4 (p0.map e43)), (eI64 x6)] (eI64 t12) 17 rfl (by decide) ok32 rfl rfl rfl ⟨rfl, rfl, rfl, rfl, trivial⟩ (bosketref31_Size_spec et12) ?_
      refine AO.calm rfl 6 rfl (by decide) (eI64 t12) (Calm.assign rfl rfl) ?_
      refine AO.nil (ρ' := [(0, (.fz 4 (p0.map e43))), (3, (.own n4 0 x5.length)), (4, (eI64 x6)), (5, (eI64 x7)), (6, (eI64 t12))]) (H' := [(n4, .mem (.ar 1 (x5.map e37)))]) ⟨rfl, rfl, rfl, rfl, rfl, trivial⟩ (Sub.refl _) ?_
      refine AW.seq ?_
      refine AW.reg ?_
      refine AO.calm rfl 18 rfl (by decide) (.own n4 0 x5.length) (Calm.move rfl rfl) ?_
      refine AO.calm rfl 19 rfl (by decide) (.fz 4 (p0.map e43)) (Calm.move rfl rfl) ?_
      refine AO.calm rfl 20 rfl (by decide) (eI64 x6) (Calm.move rfl rfl) ?_
      refine AO.calm rfl 21 rfl (by decide) (eI64 x6) (Calm.move rfl rfl) ?_
      refine AO.calm rfl 22 rfl (by decide) (eI64 t12) (Calm.move rfl rfl) ?_
      refine AO.calm rfl 23 rfl (by decide) (eI64 (w64 (x6 + t12))) (Calm.int rfl rfl rfl rfl) ?_
      obtain ⟨hg13, h⟩ := of_guard h
      refine AO.calm rfl 24 rfl (by decide) (.fz 4 ((lcut p0 x6 (w64 (x6 + t12))).map e43)) (Calm.sliceL rfl rfl rfl rfl hg13 Try.underlying37 sz43) ?_
      refine AO.lit (Z := (.fl (.slice none 0 0))) (xs := (([(lcut p0 x6 (w64 (x6 + t12)))] : List (List S43)).map e37)) (qs := [(0, (.fz 4 ((lcut p0 x6 (w64 (x6 + t12))).map e43)))]) rfl 25 rfl (by decide) rfl ⟨rfl, rfl, rfl, trivial⟩ Try.underlying49 sz37 zr37 lay37 rfl (by decide) (litOK (z := 1) [(.fz 4 ((lcut p0 x6 (w64 (x6 + t12))).map e43))] rfl ⟨⟨rfl, rfl⟩, trivial⟩) rfl fun n14 => ?_
      obtain ⟨hg16, h⟩ := of_guard h
      refine AO.appendL (l := x5) (m := ([(lcut p0 x6 (w64 (x6 + t12)))] : List (List S43))) 1 26 rfl (by decide) rfl rfl rfl rfl rfl (Src.ownL (f := e37) (l := ([(lcut p0 x6 (w64 (x6 + t12)))] : List (List S43))) 0 rfl) Try.underlying49 Try.underlying49 sz37 by37 zr37 rfl hg16 (by decide) fun n15 => ?_
      refine AO.calm rfl 3 rfl (by decide) (.own n15 0 (x5 ++ ([(lcut p0 x6 (w64 (x6 + t12)))] : List (List S43))).length) (Calm.assign rfl rfl) ?_
      refine AO.nil (ρ' := [(0, (.fz 4 (p0.map e43))), (3, (.own n15 0 (x5 ++ ([(lcut p0 x6 (w64 (x6 + t12)))] : List (List S43))).length)), (4, (eI64 x6)), (5, (eI64 x7)), (6, (eI64 t12))]) (H' := [(n15, .mem (.ar 1 ((x5 ++ ([(lcut p0 x6 (w64 (x6 + t12)))] : List (List S43))).map e37)))]) ⟨rfl, rfl, rfl, rfl, rfl, trivial⟩ (Sub.cons 1 rfl (Sub.nil _)) ?_
      refine AW.reg ?_
      refine AO.calm rfl 27 rfl (by decide) (eI64 x6) (Calm.move rfl rfl) ?_
      refine AO.calm rfl 28 rfl (by decide) (eI64 t12) (Calm.move rfl rfl) ?_
      refine AO.calm rfl 29 rfl (by decide) (eI64 (w64 (x6 + t12))) (Calm.int rfl rfl rfl rfl) ?_
      refine AO.calm rfl 4 rfl (by decide) (eI64 (w64 (x6 + t12))) (Calm.assign rfl rfl) ?_
      refine AO.nil (ρ' := [(0, (.fz 4 (p0.map e43))), (3, (.own n15 0 (x5 ++ ([(lcut p0 x6 (w64 (x6 + t12)))] : List (List S43))).length)), (4, (eI64 (w64 (x6 + t12)))), (5, (eI64 x7))]) (H' := [(n15, .mem (.ar 1 ((x5 ++ ([(lcut p0 x6 (w64 (x6 + t12)))] : List (List S43))).map e37)))]) ⟨rfl, rfl, rfl, rfl, trivial⟩ (Sub.refl _) ?_
      refine AW.reg ?_
      refine AO.calm rfl 13 rfl (by decide) (eI64 x7) (Calm.move rfl rfl) ?_
      refine AO.calm rfl 14 rfl (by decide) (eI64 (w64 (x7 + (1 : Int)))) (Calm.int rfl rfl rfl rfl) ?_
      refine AO.calm rfl 5 rfl (by decide) (eI64 (w64 (x7 + (1 : Int)))) (Calm.assign rfl rfl) ?_
      refine AO.nil (ρ' := [(0, (.fz 4 (p0.map e43))), (3, (.own n15 0 (x5 ++ ([(lcut p0 x6 (w64 (x6 + t12)))] : List (List S43))).length)), (4, (eI64 (w64 (x6 + t12)))), (5, (eI64 (w64 (x7 + (1 : Int)))))]) (H' := [(n15, .mem (.ar 1 ((x5 ++ ([(lcut p0 x6 (w64 (x6 + t12)))] : List (List S43))).map e37)))]) ⟨rfl, rfl, rfl, rfl, trivial⟩ (Sub.refl _) ?_
      exact ⟨kq9, Nat.lt_succ_self _, n15, (x5 ++ ([(lcut p0 x6 (w64 (x6 + t12)))] : List (List S43))), (w64 (x6 + t12)), (w64 (x7 + (1 : Int))), rfl, rfl, by rw [hrec8]; exact h⟩
    · have h := (if_neg hc11).symm.trans h
      refine AW.condN (x7 < ((lget p0 (0 : Int)).f2)) rfl hc11 ?_
      refine AW.exit (ρ' := [(3, (.own n4 0 x5.length))]) (H' := [(n4, .mem (.ar 1 (x5.map e37)))]) ⟨rfl, trivial⟩ (Sub.refl _) ?_
      exact ⟨n4, x5, rfl, rfl, h⟩
  · rintro _ _ ⟨n2, x3, rfl, rfl, h⟩
    rw [bosketref31_Kids_c0.eq_1] at h
    refine AW.seq ?_
    refine AW.reg ?_
    refine AO.calm rfl 30 rfl (by decide) (.own n2 0 x3.length) (Calm.move rfl rfl) ?_
    refine AO.calm rfl 2 rfl (by decide) (.own n2 0 x3.length) (Calm.assign rfl rfl) ?_
    refine AO.nil (ρ' := [(2, (.own n2 0 x3.length))]) (H' := [(n2, .mem (.ar 1 (x3.map e37)))]) ⟨rfl, trivial⟩ (Sub.refl _) ?_
    refine AW.freezeS 0 [(2, (.fz 1 (x3.map e37)))] rfl ⟨fz_all rfl, trivial⟩ ?_
    refine AW.ret (ρ' := [(2, (.fz 1 (x3.map e37)))]) (H' := []) ⟨rfl, trivial⟩ (Sub.refl _) ?_
    have hr := Option.some.inj h
    subst hr
    exact ⟨[(.fz 1 (x3.map e37))], ⟨rfl, rfl, trivial⟩, rfl⟩
end Go.Avl.T2
