/- Parts: T2B, T2f94, T2f79, T2f58, T2f16, T2f84, T2f98. -/
import Derived.Test.YtmgiffbobkgcmaaAv3
import Derived.Test.YtmgiffbobkgcmaaProg
/- Types and facts; printed by avmain.py. -/
namespace Go.Avl.T2
open Go Go.RowKit Go.Proofs Go.Avl
set_option linter.unusedVariables false
set_option maxRecDepth 100000
set_option maxHeartbeats 4000000
structure S23 where
  f0 : Int
  f1 : Int
deriving Inhabited, DecidableEq
abbrev e23 (x : S23) : AV := .st [(1, (eI64 x.f0)), (1, (eI64 x.f1))]
structure S88 where
  f0 : ByteArray
  f1 : Int
  f2 : Int
deriving Inhabited, DecidableEq
abbrev e88 (x : S88) : AV := .st [(1, (eStr x.f0)), (1, (eI64 x.f1)), (1, (eI64 x.f2))]
structure S43 where
  f0 : Bool
  f1 : Int
  f2 : Int
  f3 : ByteArray
deriving Inhabited, DecidableEq
abbrev e43 (x : S43) : AV := .st [(1, (eBool x.f0)), (1, (eI64 x.f1)), (1, (eI64 x.f2)), (1, (eStr x.f3))]
abbrev e37 (l : List S43) : AV := .fz 4 (l.map e43)
abbrev e49 (l : List (List S43)) : AV := .fz 1 (l.map e37)
abbrev e45 (l : List ByteArray) : AV := .fz 1 (l.map eStr)
structure S55 where
  f0 : Int
  f1 : Int
  f2 : ByteArray
deriving Inhabited, DecidableEq
abbrev e55 (x : S55) : AV := .st [(1, (eI64 x.f0)), (1, (eI64 x.f1)), (1, (eStr x.f2))]
structure S60 where
  f0 : Int
  f1 : Int
  f2 : ByteArray
deriving Inhabited, DecidableEq
abbrev e60 (x : S60) : AV := .st [(1, (eI64 x.f0)), (1, (eI64 x.f1)), (1, (eStr x.f2))]
theorem xok93 : ExtOK Try.prog 93 Go.Extern.BytealgIndexByte.indexByte := ⟨_, Try.func93, by kernel_rfl, by kernel_rfl, by kernel_rfl, by kernel_rfl⟩
theorem ok78 : FnOK Try.prog 78 := FnOK.mk Try.func78 rfl rfl
theorem ok91 : FnOK Try.prog 91 := FnOK.mk Try.func91 rfl rfl
theorem xok74 : ExtOK Try.prog 74 Go.Extern.BytealgCount.count := ⟨_, Try.func74, by kernel_rfl, by kernel_rfl, by kernel_rfl, by kernel_rfl⟩
theorem ok75 : FnOK Try.prog 75 := FnOK.mk Try.func75 rfl rfl
theorem ok76 : FnOK Try.prog 76 := FnOK.mk Try.func76 rfl rfl
theorem zr23 : tyZero Try.prog 23 = some (([.int .i64 0] ++ ([.int .i64 0] ++ []))) := by rfl
theorem lay23 : ∀ g, Sim g (.st [(1, (eI64 (0 : Int))), (1, (eI64 (0 : Int)))]) (([.int .i64 0] ++ ([.int .i64 0] ++ []))) := fun g => (Sim.stCons (lay_fl rfl) rfl (Sim.stCons (lay_fl rfl) rfl Sim.stNil))
theorem ok55 : FnOK Try.prog 55 := FnOK.mk Try.func55 rfl rfl
theorem ok56 : FnOK Try.prog 56 := FnOK.mk Try.func56 rfl rfl
theorem sz23 : tySize Try.prog 23 = some 2 := by rfl
theorem ag23 : tyAgg Try.prog 23 = some true := by rfl
theorem sz5 : tySize Try.prog 5 = some 1 := by rfl
theorem zr5 : tyZero Try.prog 5 = some ([.int .u8 0]) := by rfl
theorem lay5 : ∀ g, Sim g (eU8 (0 : Int)) ([.int .u8 0]) := fun g => (lay_fl rfl)
theorem ok80 : FnOK Try.prog 80 := FnOK.mk Try.func80 rfl rfl
theorem sz3 : tySize Try.prog 3 = some 1 := by rfl
theorem ag3 : tyAgg Try.prog 3 = some false := by rfl
theorem ok59 : FnOK Try.prog 59 := FnOK.mk Try.func59 rfl rfl
theorem ok14 : FnOK Try.prog 14 := FnOK.mk Try.func14 rfl rfl
theorem ok20 : FnOK Try.prog 20 := FnOK.mk Try.func20 rfl rfl
theorem ok57 : FnOK Try.prog 57 := FnOK.mk Try.func57 rfl rfl
theorem ok12 : FnOK Try.prog 12 := FnOK.mk Try.func12 rfl rfl
theorem ok13 : FnOK Try.prog 13 := FnOK.mk Try.func13 rfl rfl
theorem ok15 : FnOK Try.prog 15 := FnOK.mk Try.func15 rfl rfl
theorem ok94 : FnOK Try.prog 94 := FnOK.mk Try.func94 rfl rfl
theorem ok79 : FnOK Try.prog 79 := FnOK.mk Try.func79 rfl rfl
theorem ok58 : FnOK Try.prog 58 := FnOK.mk Try.func58 rfl rfl
theorem ok19 : FnOK Try.prog 19 := FnOK.mk Try.func19 rfl rfl
theorem ok16 : FnOK Try.prog 16 := FnOK.mk Try.func16 rfl rfl
theorem ok17 : FnOK Try.prog 17 := FnOK.mk Try.func17 rfl rfl
theorem ok18 : FnOK Try.prog 18 := FnOK.mk Try.func18 rfl rfl
theorem sz9 : tySize Try.prog 9 = some 1 := by rfl
theorem ag9 : tyAgg Try.prog 9 = some false := by rfl
theorem sz43 : tySize Try.prog 43 = some 4 := by rfl
theorem by43 : tyBytes Try.prog 43 = some 40 := by rfl
theorem zr43 : tyZero Try.prog 43 = some (([.bool false] ++ ([.int .i64 0] ++ ([.int .i64 0] ++ ([.string ByteArray.empty] ++ []))))) := by rfl
theorem sz37 : tySize Try.prog 37 = some 1 := by rfl
theorem ag37 : tyAgg Try.prog 37 = some false := by rfl
theorem ok85 : FnOK Try.prog 85 := FnOK.mk Try.func85 rfl rfl
theorem ag43 : tyAgg Try.prog 43 = some true := by rfl
theorem lay43 : ∀ g, Sim g (.st [(1, (eBool false)), (1, (eI64 (0 : Int))), (1, (eI64 (0 : Int))), (1, (eStr ByteArray.empty))]) (([.bool false] ++ ([.int .i64 0] ++ ([.int .i64 0] ++ ([.string ByteArray.empty] ++ []))))) := fun g => (Sim.stCons (lay_fl rfl) rfl (Sim.stCons (lay_fl rfl) rfl (Sim.stCons (lay_fl rfl) rfl (Sim.stCons (lay_fl rfl) rfl Sim.stNil))))
theorem ok66 : FnOK Try.prog 66 := FnOK.mk Try.func66 rfl rfl
theorem zr37 : tyZero Try.prog 37 = some ([.slice none 0 0]) := by rfl
theorem lay37 : ∀ g, Sim g (.fl (.slice none 0 0)) ([.slice none 0 0]) := fun g => (lay_fl rfl)
theorem ok98 : FnOK Try.prog 98 := FnOK.mk Try.func98 rfl rfl
theorem ok87 : FnOK Try.prog 87 := FnOK.mk Try.func87 rfl rfl
theorem by5 : tyBytes Try.prog 5 = some 1 := by rfl
theorem ok83 : FnOK Try.prog 83 := FnOK.mk Try.func83 rfl rfl
theorem ok84 : FnOK Try.prog 84 := FnOK.mk Try.func84 rfl rfl
theorem ok68 : FnOK Try.prog 68 := FnOK.mk Try.func68 rfl rfl
theorem ok62 : FnOK Try.prog 62 := FnOK.mk Try.func62 rfl rfl
theorem by37 : tyBytes Try.prog 37 = some 24 := by rfl
theorem ok38 : FnOK Try.prog 38 := FnOK.mk Try.func38 rfl rfl
theorem sz4 : tySize Try.prog 4 = some 1 := by rfl
theorem ag4 : tyAgg Try.prog 4 = some false := by rfl
theorem ok31 : FnOK Try.prog 31 := FnOK.mk Try.func31 rfl rfl
theorem ok95 : FnOK Try.prog 95 := FnOK.mk Try.func95 rfl rfl
theorem ok96 : FnOK Try.prog 96 := FnOK.mk Try.func96 rfl rfl
theorem ok81 : FnOK Try.prog 81 := FnOK.mk Try.func81 rfl rfl
theorem ok30 : FnOK Try.prog 30 := FnOK.mk Try.func30 rfl rfl
theorem ok64 : FnOK Try.prog 64 := FnOK.mk Try.func64 rfl rfl
theorem ok60 : FnOK Try.prog 60 := FnOK.mk Try.func60 rfl rfl
theorem ok33 : FnOK Try.prog 33 := FnOK.mk Try.func33 rfl rfl
theorem ok23 : FnOK Try.prog 23 := FnOK.mk Try.func23 rfl rfl
theorem zr88 : tyZero Try.prog 88 = some (([.string ByteArray.empty] ++ ([.int .i64 0] ++ ([.int .i64 0] ++ [])))) := by rfl
theorem lay88 : ∀ g, Sim g (.st [(1, (eStr ByteArray.empty)), (1, (eI64 (0 : Int))), (1, (eI64 (0 : Int)))]) (([.string ByteArray.empty] ++ ([.int .i64 0] ++ ([.int .i64 0] ++ [])))) := fun g => (Sim.stCons (lay_fl rfl) rfl (Sim.stCons (lay_fl rfl) rfl (Sim.stCons (lay_fl rfl) rfl Sim.stNil)))
theorem ok26 : FnOK Try.prog 26 := FnOK.mk Try.func26 rfl rfl
theorem ok32 : FnOK Try.prog 32 := FnOK.mk Try.func32 rfl rfl
theorem ok97 : FnOK Try.prog 97 := FnOK.mk Try.func97 rfl rfl
theorem ok82 : FnOK Try.prog 82 := FnOK.mk Try.func82 rfl rfl
theorem ok61 : FnOK Try.prog 61 := FnOK.mk Try.func61 rfl rfl
theorem ok35 : FnOK Try.prog 35 := FnOK.mk Try.func35 rfl rfl
theorem ok25 : FnOK Try.prog 25 := FnOK.mk Try.func25 rfl rfl
theorem eqk43 (x y : S43) : EqOK Try.prog 2 43 (e43 x) (e43 y) (decide (x = y)) := (EqOK.struct (bs := [decide (x.f0 = y.f0), decide (x.f1 = y.f1), decide (x.f2 = y.f2), decide (x.f3 = y.f3)]) Try.underlying43 (by decide +kernel) ⟨⟨rfl, (eBool x.f0), (eBool y.f0), (At.cast (At.fld0 At.here) rfl), (At.cast (At.fld0 At.here) rfl), ag4, ag4, sz4, sz4, (EqOK.bool Try.underlying4)⟩, ⟨rfl, (eI64 x.f1), (eI64 y.f1), (At.cast (At.fldS (At.fld0 At.here)) rfl), (At.cast (At.fldS (At.fld0 At.here)) rfl), ag3, ag3, sz3, sz3, (EqOK.int Try.underlying3)⟩, ⟨rfl, (eI64 x.f2), (eI64 y.f2), (At.cast (At.fldS (At.fldS (At.fld0 At.here))) rfl), (At.cast (At.fldS (At.fldS (At.fld0 At.here))) rfl), ag3, ag3, sz3, sz3, (EqOK.int Try.underlying3)⟩, ⟨rfl, (eStr x.f3), (eStr y.f3), (At.cast (At.fldS (At.fldS (At.fldS (At.fld0 At.here)))) rfl), (At.cast (At.fldS (At.fldS (At.fldS (At.fld0 At.here)))) rfl), ag9, ag9, sz9, sz9, (EqOK.str Try.underlying9)⟩, trivial⟩).of (by cases x; cases y; simp)
theorem eg43 : Try.prog.eqGuardType Try.prog.depth 43 = false := by decide +kernel
theorem ok21 : FnOK Try.prog 21 := FnOK.mk Try.func21 rfl rfl
theorem ok22 : FnOK Try.prog 22 := FnOK.mk Try.func22 rfl rfl
theorem ok24 : FnOK Try.prog 24 := FnOK.mk Try.func24 rfl rfl
theorem ok27 : FnOK Try.prog 27 := FnOK.mk Try.func27 rfl rfl
theorem ok99 : FnOK Try.prog 99 := FnOK.mk Try.func99 rfl rfl
theorem ok89 : FnOK Try.prog 89 := FnOK.mk Try.func89 rfl rfl
theorem ok70 : FnOK Try.prog 70 := FnOK.mk Try.func70 rfl rfl
theorem ok63 : FnOK Try.prog 63 := FnOK.mk Try.func63 rfl rfl
theorem zr9 : tyZero Try.prog 9 = some ([.string ByteArray.empty]) := by rfl
theorem lay9 : ∀ g, Sim g (eStr ByteArray.empty) ([.string ByteArray.empty]) := fun g => (lay_fl rfl)
theorem by9 : tyBytes Try.prog 9 = some 16 := by rfl
theorem ok28 : FnOK Try.prog 28 := FnOK.mk Try.func28 rfl rfl
theorem ok29 : FnOK Try.prog 29 := FnOK.mk Try.func29 rfl rfl
theorem ok34 : FnOK Try.prog 34 := FnOK.mk Try.func34 rfl rfl
theorem ok36 : FnOK Try.prog 36 := FnOK.mk Try.func36 rfl rfl
theorem ok65 : FnOK Try.prog 65 := FnOK.mk Try.func65 rfl rfl
theorem ok37 : FnOK Try.prog 37 := FnOK.mk Try.func37 rfl rfl
theorem ok86 : FnOK Try.prog 86 := FnOK.mk Try.func86 rfl rfl
theorem zr94 : tyZero Try.prog 94 = some ((List.replicate 12 (.string ByteArray.empty))) := by rfl
theorem lay94 : ∀ g, Sim g (.ar 1 ((Vector.replicate 12 ByteArray.empty).toList.map eStr)) ((List.replicate 12 (.string ByteArray.empty))) := fun g => (lay_vec1 (lay_fl rfl))
theorem sz94 : tySize Try.prog 94 = some 12 := by rfl
theorem ok40 : FnOK Try.prog 40 := FnOK.mk Try.func40 rfl rfl
theorem ok88 : FnOK Try.prog 88 := FnOK.mk Try.func88 rfl rfl
theorem ag55 : tyAgg Try.prog 55 = some true := by rfl
theorem sz55 : tySize Try.prog 55 = some 3 := by rfl
theorem ok43 : FnOK Try.prog 43 := FnOK.mk Try.func43 rfl rfl
theorem zr55 : tyZero Try.prog 55 = some (([.int .i64 0] ++ ([.int .i64 0] ++ ([.string ByteArray.empty] ++ [])))) := by rfl
theorem lay55 : ∀ g, Sim g (.st [(1, (eI64 (0 : Int))), (1, (eI64 (0 : Int))), (1, (eStr ByteArray.empty))]) (([.int .i64 0] ++ ([.int .i64 0] ++ ([.string ByteArray.empty] ++ [])))) := fun g => (Sim.stCons (lay_fl rfl) rfl (Sim.stCons (lay_fl rfl) rfl (Sim.stCons (lay_fl rfl) rfl Sim.stNil)))
theorem ok67 : FnOK Try.prog 67 := FnOK.mk Try.func67 rfl rfl
theorem ok48 : FnOK Try.prog 48 := FnOK.mk Try.func48 rfl rfl
theorem ok69 : FnOK Try.prog 69 := FnOK.mk Try.func69 rfl rfl
theorem ok42 : FnOK Try.prog 42 := FnOK.mk Try.func42 rfl rfl
theorem ok47 : FnOK Try.prog 47 := FnOK.mk Try.func47 rfl rfl
theorem eqk55 (x y : S55) : EqOK Try.prog 2 55 (e55 x) (e55 y) (decide (x = y)) := (EqOK.struct (bs := [decide (x.f0 = y.f0), decide (x.f1 = y.f1), decide (x.f2 = y.f2)]) Try.underlying55 (by decide +kernel) ⟨⟨rfl, (eI64 x.f0), (eI64 y.f0), (At.cast (At.fld0 At.here) rfl), (At.cast (At.fld0 At.here) rfl), ag3, ag3, sz3, sz3, (EqOK.int Try.underlying3)⟩, ⟨rfl, (eI64 x.f1), (eI64 y.f1), (At.cast (At.fldS (At.fld0 At.here)) rfl), (At.cast (At.fldS (At.fld0 At.here)) rfl), ag3, ag3, sz3, sz3, (EqOK.int Try.underlying3)⟩, ⟨rfl, (eStr x.f2), (eStr y.f2), (At.cast (At.fldS (At.fldS (At.fld0 At.here))) rfl), (At.cast (At.fldS (At.fldS (At.fld0 At.here))) rfl), ag9, ag9, sz9, sz9, (EqOK.str Try.underlying9)⟩, trivial⟩).of (by cases x; cases y; simp)
theorem eg55 : Try.prog.eqGuardType Try.prog.depth 55 = false := by decide +kernel
theorem zr60 : tyZero Try.prog 60 = some (([.int .i64 0] ++ ([.int .i64 0] ++ ([.string ByteArray.empty] ++ [])))) := by rfl
theorem lay60 : ∀ g, Sim g (.st [(1, (eI64 (0 : Int))), (1, (eI64 (0 : Int))), (1, (eStr ByteArray.empty))]) (([.int .i64 0] ++ ([.int .i64 0] ++ ([.string ByteArray.empty] ++ [])))) := fun g => (Sim.stCons (lay_fl rfl) rfl (Sim.stCons (lay_fl rfl) rfl (Sim.stCons (lay_fl rfl) rfl Sim.stNil)))
theorem sz60 : tySize Try.prog 60 = some 3 := by rfl
theorem ag60 : tyAgg Try.prog 60 = some true := by rfl
theorem ok41 : FnOK Try.prog 41 := FnOK.mk Try.func41 rfl rfl
theorem ok44 : FnOK Try.prog 44 := FnOK.mk Try.func44 rfl rfl
theorem ok39 : FnOK Try.prog 39 := FnOK.mk Try.func39 rfl rfl
theorem ok45 : FnOK Try.prog 45 := FnOK.mk Try.func45 rfl rfl
theorem ok46 : FnOK Try.prog 46 := FnOK.mk Try.func46 rfl rfl
theorem ok49 : FnOK Try.prog 49 := FnOK.mk Try.func49 rfl rfl
theorem eqk60 (x y : S60) : EqOK Try.prog 2 60 (e60 x) (e60 y) (decide (x = y)) := (EqOK.struct (bs := [decide (x.f0 = y.f0), decide (x.f1 = y.f1), decide (x.f2 = y.f2)]) Try.underlying60 (by decide +kernel) ⟨⟨rfl, (eI64 x.f0), (eI64 y.f0), (At.cast (At.fld0 At.here) rfl), (At.cast (At.fld0 At.here) rfl), ag3, ag3, sz3, sz3, (EqOK.int Try.underlying3)⟩, ⟨rfl, (eI64 x.f1), (eI64 y.f1), (At.cast (At.fldS (At.fld0 At.here)) rfl), (At.cast (At.fldS (At.fld0 At.here)) rfl), ag3, ag3, sz3, sz3, (EqOK.int Try.underlying3)⟩, ⟨rfl, (eStr x.f2), (eStr y.f2), (At.cast (At.fldS (At.fldS (At.fld0 At.here))) rfl), (At.cast (At.fldS (At.fldS (At.fld0 At.here))) rfl), ag9, ag9, sz9, sz9, (EqOK.str Try.underlying9)⟩, trivial⟩).of (by cases x; cases y; simp)
theorem eg60 : Try.prog.eqGuardType Try.prog.depth 60 = false := by decide +kernel
theorem ok72 : FnOK Try.prog 72 := FnOK.mk Try.func72 rfl rfl
theorem by60 : tyBytes Try.prog 60 = some 32 := by rfl
theorem ok53 : FnOK Try.prog 53 := FnOK.mk Try.func53 rfl rfl
theorem ok54 : FnOK Try.prog 54 := FnOK.mk Try.func54 rfl rfl
end Go.Avl.T2
/- internal/stringslite.HasPrefix; printed by avmain.py. -/
namespace Go.Avl.T2
open Go Go.RowKit Go.Proofs Go.Avl
set_option linter.unusedVariables false
set_option maxRecDepth 100000
set_option maxHeartbeats 4000000
attribute [local irreducible] AW AO AQ Spec SpecH Calm

def internal_stringslite_HasPrefix (k : Nat) (p0 : ByteArray) (p1 : ByteArray) : Option Bool :=
  Option.bind (α := Bool) (if (p1.size : Int) ≤ (p0.size : Int) then if 0 ≤ (0 : Int) ∧ (0 : Int) ≤ (p1.size : Int) ∧ (p1.size : Int) ≤ (p0.size : Int) then some (decide ((p0.extract (0 : Int).toNat (p1.size : Int).toNat) = p1))
  else none
  else some (false)) fun b3 =>
  some (b3)
theorem internal_stringslite_HasPrefix_spec {k : Nat} {p0 : ByteArray} {p1 : ByteArray} {r : Bool} (h : internal_stringslite_HasPrefix k p0 p1 = some r) : Spec Try.prog 94 [(eStr p0), (eStr p1)] (eBool r) := by
  rw [internal_stringslite_HasPrefix.eq_1] at h
  refine Spec.intro (res := [.tmp 4]) Try.func94 rfl rfl rfl (Nat.le_of_ble_eq_true rfl) ?_
  refine AW.seq ?_
  refine AW.reg ?_
  refine AO.calm rfl 4 rfl (by decide) (eBool false) (Calm.assign rfl rfl) ?_
  refine AO.nil (ρ' := [(0, (eStr p0)), (1, (eStr p1))]) (H' := []) ⟨rfl, rfl, trivial⟩ (Sub.refl _) ?_
  refine AW.seq ?_
  obtain ⟨b3, hq4, h⟩ := of_bind h
  refine AW.regM [(4, (eBool b3))] [] ?_ ?_
  · refine AO.calm rfl 5 rfl (by decide) (eStr p0) (Calm.move rfl rfl) ?_
    refine AO.calm rfl 6 rfl (by decide) (eI64 (p0.size : Int)) (Calm.lenStr rfl rfl Try.underlying9) ?_
    refine AO.calm rfl 7 rfl (by decide) (eStr p1) (Calm.move rfl rfl) ?_
    refine AO.calm rfl 8 rfl (by decide) (eI64 (p1.size : Int)) (Calm.lenStr rfl rfl Try.underlying9) ?_
    refine AO.calm rfl 9 rfl (by decide) (eBool (decide ((p1.size : Int) ≤ (p0.size : Int)))) (Calm.int rfl rfl rfl rfl) ?_
    refine AO.calm rfl 10 rfl (by decide) (eBool (decide ((p1.size : Int) ≤ (p0.size : Int)))) (Calm.move rfl rfl) ?_
    by_cases hc5 : (p1.size : Int) ≤ (p0.size : Int)
    · have hq4 := (if_pos hc5).symm.trans hq4
      refine AO.calmG 5 true 10 rfl rfl (congrArg (fun b => some (AV.fl (Value.bool b))) (decide_eq_true hc5)) 11 rfl (by decide) (eStr p0) (Calm.move rfl rfl) ?_
      refine AO.calmG 5 true 10 rfl rfl (congrArg (fun b => some (AV.fl (Value.bool b))) (decide_eq_true hc5)) 12 rfl (by decide) (eStr p1) (Calm.move rfl rfl) ?_
      refine AO.calmG 5 true 10 rfl rfl (congrArg (fun b => some (AV.fl (Value.bool b))) (decide_eq_true hc5)) 13 rfl (by decide) (eI64 (p1.size : Int)) (Calm.lenStr rfl rfl Try.underlying9) ?_
      obtain ⟨hg6, hq4⟩ := of_guard hq4
      refine AO.calmG 5 true 10 rfl rfl (congrArg (fun b => some (AV.fl (Value.bool b))) (decide_eq_true hc5)) 14 rfl (by decide) (eStr (p0.extract (0 : Int).toNat (p1.size : Int).toNat)) (Calm.sliceS rfl rfl rfl rfl hg6 Try.underlying9) ?_
      refine AO.calmG 5 true 10 rfl rfl (congrArg (fun b => some (AV.fl (Value.bool b))) (decide_eq_true hc5)) 15 rfl (by decide) (eStr p1) (Calm.move rfl rfl) ?_
      refine AO.calmG 5 true 10 rfl rfl (congrArg (fun b => some (AV.fl (Value.bool b))) (decide_eq_true hc5)) 16 rfl (by decide) (eBool (decide ((p0.extract (0 : Int).toNat (p1.size : Int).toNat) = p1))) (Calm.str rfl rfl rfl rfl) ?_
      refine AO.calm rfl 17 rfl (by decide) (eBool (decide ((p0.extract (0 : Int).toNat (p1.size : Int).toNat) = p1))) (Calm.pickT rfl (congrArg (fun b => some (AV.fl (Value.bool b))) (decide_eq_true hc5)) rfl) ?_
      refine AO.calm rfl 4 rfl (by decide) (eBool (decide ((p0.extract (0 : Int).toNat (p1.size : Int).toNat) = p1))) (Calm.assign rfl rfl) ?_
      cases hq4
      refine AO.nilE ⟨rfl, rfl⟩ ?_ ?_
      · exact ⟨rfl, trivial⟩
      · exact (Sub.refl _)
    · have hq4 := (if_neg hc5).symm.trans hq4
      refine AO.skipG 5 false 10 rfl rfl (congrArg (fun b => some (AV.fl (Value.bool b))) (decide_eq_false hc5)) 11 rfl (by decide) ?_
      refine AO.skipG 5 false 10 rfl rfl (congrArg (fun b => some (AV.fl (Value.bool b))) (decide_eq_false hc5)) 12 rfl (by decide) ?_
      refine AO.skipG 5 false 10 rfl rfl (congrArg (fun b => some (AV.fl (Value.bool b))) (decide_eq_false hc5)) 13 rfl (by decide) ?_
      refine AO.skipG 5 false 10 rfl rfl (congrArg (fun b => some (AV.fl (Value.bool b))) (decide_eq_false hc5)) 14 rfl (by decide) ?_
      refine AO.skipG 5 false 10 rfl rfl (congrArg (fun b => some (AV.fl (Value.bool b))) (decide_eq_false hc5)) 15 rfl (by decide) ?_
      refine AO.skipG 5 false 10 rfl rfl (congrArg (fun b => some (AV.fl (Value.bool b))) (decide_eq_false hc5)) 16 rfl (by decide) ?_
      refine AO.calm rfl 17 rfl (by decide) (eBool false) (Calm.pickF rfl (congrArg (fun b => some (AV.fl (Value.bool b))) (decide_eq_false hc5)) rfl) ?_
      refine AO.calm rfl 4 rfl (by decide) (eBool false) (Calm.assign rfl rfl) ?_
      cases hq4
      refine AO.nilE ⟨rfl, rfl⟩ ?_ ?_
      · exact ⟨rfl, trivial⟩
      · exact (Sub.refl _)
  · refine AW.ret (ρ' := [(4, (eBool b3))]) (H' := []) ⟨rfl, trivial⟩ (Sub.refl _) ?_
    have hr := Option.some.inj h
    subst hr
    exact ⟨[(eBool b3)], ⟨rfl, rfl, trivial⟩, rfl⟩
end Go.Avl.T2
/- internal/stringslite.CutPrefix; printed by avmain.py. -/
namespace Go.Avl.T2
open Go Go.RowKit Go.Proofs Go.Avl
set_option linter.unusedVariables false
set_option maxRecDepth 100000
set_option maxHeartbeats 4000000
attribute [local irreducible] AW AO AQ Spec SpecH Calm

def internal_stringslite_CutPrefix (k : Nat) (p0 : ByteArray) (p1 : ByteArray) : Option (ByteArray × Bool) :=
  (internal_stringslite_HasPrefix k p0 p1).bind fun t3 =>
  if (!t3) = true then some (p0, false)
  else if 0 ≤ (p1.size : Int) ∧ (p1.size : Int) ≤ (p0.size : Int) ∧ (p0.size : Int) ≤ (p0.size : Int) then some ((p0.extract (p1.size : Int).toNat (p0.size : Int).toNat), true)
  else none
theorem internal_stringslite_CutPrefix_spec {k : Nat} {p0 : ByteArray} {p1 : ByteArray} {r : (ByteArray × Bool)} (h : internal_stringslite_CutPrefix k p0 p1 = some r) : Spec Try.prog 79 [(eStr p0), (eStr p1)] (.tup [(eStr r.1), (eBool r.2)]) := by
  rw [internal_stringslite_CutPrefix.eq_1] at h
  refine Spec.intro (res := [.tmp 4, .tmp 5]) Try.func79 rfl rfl rfl (Nat.le_of_ble_eq_true rfl) ?_
  refine AW.seq ?_
  refine AW.reg ?_
  refine AO.calm rfl 4 rfl (by decide) (eStr (ByteArray.mk #[])) (Calm.assign rfl rfl) ?_
  refine AO.calm rfl 5 rfl (by decide) (eBool false) (Calm.assign rfl rfl) ?_
  refine AO.nil (ρ' := [(0, (eStr p0)), (1, (eStr p1))]) (H' := []) ⟨rfl, rfl, trivial⟩ (Sub.refl _) ?_
  refine AW.seq ?_
  refine AW.seq ?_
  refine AW.reg ?_
  refine AO.calm rfl 6 rfl (by decide) (eStr p0) (Calm.move rfl rfl) ?_
  refine AO.calm rfl 7 rfl (by decide) (eStr p1) (Calm.move rfl rfl) ?_
  obtain ⟨t3, et3, h⟩ := of_bind h
  refine AO.callS [(eStr p0), (eStr p1)] (eBool t3) 8 rfl (by decide) ok94 rfl rfl rfl ⟨rfl, rfl, rfl, rfl, trivial⟩ (internal_stringslite_HasPrefix_spec et3) ?_
  refine AO.calm rfl 9 rfl (by decide) (eBool (!t3)) (Calm.not rfl rfl) ?_
  refine AO.nil (ρ' := [(0, (eStr p0)), (1, (eStr p1)), (9, (eBool (!t3)))]) (H' := []) ⟨rfl, rfl, rfl, trivial⟩ (Sub.refl _) ?_
  by_cases hc4 : (!t3) = true
  · have h := (if_pos hc4).symm.trans h
    refine AW.condT' (!t3) rfl hc4 ?_
    refine AW.seq ?_
    refine AW.reg ?_
    refine AO.calm rfl 10 rfl (by decide) (eStr p0) (Calm.move rfl rfl) ?_
    refine AO.calm rfl 4 rfl (by decide) (eStr p0) (Calm.assign rfl rfl) ?_
    refine AO.calm rfl 5 rfl (by decide) (eBool false) (Calm.assign rfl rfl) ?_
    refine AO.nil (ρ' := [(4, (eStr p0)), (5, (eBool false))]) (H' := []) ⟨rfl, rfl, trivial⟩ (Sub.refl _) ?_
    refine AW.ret (ρ' := [(4, (eStr p0)), (5, (eBool false))]) (H' := []) ⟨rfl, rfl, trivial⟩ (Sub.refl _) ?_
    have hr := Option.some.inj h
    subst hr
    exact ⟨[(eStr p0), (eBool false)], ⟨rfl, rfl, rfl, rfl, trivial⟩, rfl⟩
  · have h := (if_neg hc4).symm.trans h
    refine AW.condF' (!t3) rfl hc4 ?_
    refine AW.skip (ρ' := [(0, (eStr p0)), (1, (eStr p1))]) (H' := []) ⟨rfl, rfl, trivial⟩ (Sub.refl _) ?_
    refine AW.seq ?_
    refine AW.reg ?_
    refine AO.calm rfl 11 rfl (by decide) (eStr p0) (Calm.move rfl rfl) ?_
    refine AO.calm rfl 12 rfl (by decide) (eStr p1) (Calm.move rfl rfl) ?_
    refine AO.calm rfl 13 rfl (by decide) (eI64 (p1.size : Int)) (Calm.lenStr rfl rfl Try.underlying9) ?_
    obtain ⟨hg5, h⟩ := of_guard h
    refine AO.calm rfl 14 rfl (by decide) (eStr (p0.extract (p1.size : Int).toNat (p0.size : Int).toNat)) (Calm.sliceS rfl rfl rfl rfl hg5 Try.underlying9) ?_
    refine AO.calm rfl 4 rfl (by decide) (eStr (p0.extract (p1.size : Int).toNat (p0.size : Int).toNat)) (Calm.assign rfl rfl) ?_
    refine AO.calm rfl 5 rfl (by decide) (eBool true) (Calm.assign rfl rfl) ?_
    refine AO.nil (ρ' := [(4, (eStr (p0.extract (p1.size : Int).toNat (p0.size : Int).toNat))), (5, (eBool true))]) (H' := []) ⟨rfl, rfl, trivial⟩ (Sub.refl _) ?_
    refine AW.ret (ρ' := [(4, (eStr (p0.extract (p1.size : Int).toNat (p0.size : Int).toNat))), (5, (eBool true))]) (H' := []) ⟨rfl, rfl, trivial⟩ (Sub.refl _) ?_
    have hr := Option.some.inj h
    subst hr
    exact ⟨[(eStr (p0.extract (p1.size : Int).toNat (p0.size : Int).toNat)), (eBool true)], ⟨rfl, rfl, rfl, rfl, trivial⟩, rfl⟩
end Go.Avl.T2
/- strings.CutPrefix; printed by avmain.py. -/
namespace Go.Avl.T2
open Go Go.RowKit Go.Proofs Go.Avl
set_option linter.unusedVariables false
set_option maxRecDepth 100000
set_option maxHeartbeats 4000000
attribute [local irreducible] AW AO AQ Spec SpecH Calm

def strings_CutPrefix (k : Nat) (p0 : ByteArray) (p1 : ByteArray) : Option (ByteArray × Bool) :=
  (internal_stringslite_CutPrefix k p0 p1).bind fun t3 =>
  some (t3.1, t3.2)
theorem strings_CutPrefix_spec {k : Nat} {p0 : ByteArray} {p1 : ByteArray} {r : (ByteArray × Bool)} (h : strings_CutPrefix k p0 p1 = some r) : Spec Try.prog 58 [(eStr p0), (eStr p1)] (.tup [(eStr r.1), (eBool r.2)]) := by
  rw [strings_CutPrefix.eq_1] at h
  refine Spec.intro (res := [.tmp 4, .tmp 5]) Try.func58 rfl rfl rfl (Nat.le_of_ble_eq_true rfl) ?_
  refine AW.seq ?_
  refine AW.reg ?_
  refine AO.calm rfl 4 rfl (by decide) (eStr (ByteArray.mk #[])) (Calm.assign rfl rfl) ?_
  refine AO.calm rfl 5 rfl (by decide) (eBool false) (Calm.assign rfl rfl) ?_
  refine AO.nil (ρ' := [(0, (eStr p0)), (1, (eStr p1))]) (H' := []) ⟨rfl, rfl, trivial⟩ (Sub.refl _) ?_
  refine AW.seq ?_
  refine AW.reg ?_
  refine AO.calm rfl 6 rfl (by decide) (eStr p0) (Calm.move rfl rfl) ?_
  refine AO.calm rfl 7 rfl (by decide) (eStr p1) (Calm.move rfl rfl) ?_
  obtain ⟨t3, et3, h⟩ := of_bind h
  refine AO.callS [(eStr p0), (eStr p1)] (.tup [(eStr t3.1), (eBool t3.2)]) 8 rfl (by decide) ok79 rfl rfl rfl ⟨rfl, rfl, rfl, rfl, trivial⟩ (internal_stringslite_CutPrefix_spec et3) ?_
  refine AO.calm rfl 9 rfl (by decide) (eStr t3.1) (Calm.extract rfl rfl rfl) ?_
  refine AO.calm rfl 10 rfl (by decide) (eBool t3.2) (Calm.extract rfl rfl rfl) ?_
  refine AO.calm rfl 4 rfl (by decide) (eStr t3.1) (Calm.assign rfl rfl) ?_
  refine AO.calm rfl 5 rfl (by decide) (eBool t3.2) (Calm.assign rfl rfl) ?_
  refine AO.nil (ρ' := [(4, (eStr t3.1)), (5, (eBool t3.2))]) (H' := []) ⟨rfl, rfl, trivial⟩ (Sub.refl _) ?_
  refine AW.ret (ρ' := [(4, (eStr t3.1)), (5, (eBool t3.2))]) (H' := []) ⟨rfl, rfl, trivial⟩ (Sub.refl _) ?_
  have hr := Option.some.inj h
  subst hr
  exact ⟨[(eStr t3.1), (eBool t3.2)], ⟨rfl, rfl, rfl, rfl, trivial⟩, rfl⟩
end Go.Avl.T2
/- bosket/spot.Number; printed by avmain.py. -/
namespace Go.Avl.T2
open Go Go.RowKit Go.Proofs Go.Avl
set_option linter.unusedVariables false
set_option maxRecDepth 100000
set_option maxHeartbeats 4000000
attribute [local irreducible] AW AO AQ Spec SpecH Calm

def spot_Number_c0 (k : Nat) (t2 : (ByteArray × Bool)) (x11 : Int) : Option (Int × Bool) :=
  Option.bind (α := Bool) (if t2.2 = true then some (decide (x11 ≤ (9223372036854775808 : Int)))
  else some (false)) fun b12 =>
  if b12 = true then some ((w64 (IntKind.u64.wrap (0 - x11))), true)
  else Option.bind (α := Bool) (if (!t2.2) = true then some (decide (x11 < (9223372036854775808 : Int)))
  else some (false)) fun b16 =>
  if b16 = true then some ((w64 x11), true)
  else some ((0 : Int), false)
def spot_Number_l1 (k : Nat) (t2 : (ByteArray × Bool)) : Nat → Int → Int → Option (Int × Bool)
  | 0, _, _ => none
  | j + 1, x20, x21 =>
    if x21 < (t2.1.size : Int) then Option.bind (α := Bool) (if 0 ≤ x21 ∧ x21 < (t2.1.size : Int) then if (byteAt t2.1 x21) < (48 : Int) then some (true)
    else if 0 ≤ x21 ∧ x21 < (t2.1.size : Int) then some (decide ((57 : Int) < (byteAt t2.1 x21)))
    else none
    else none) fun b25 =>
    if b25 = true then some ((0 : Int), false)
    else if 0 ≤ x21 ∧ x21 < (t2.1.size : Int) then (some (u64 ((u64 (x20 * (10 : Int))) + (u64 (w8 ((byteAt t2.1 x21) - (48 : Int))))))).bind fun x32 =>
    (spot_Number_l1 k t2 j) x32 (w64 (x21 + (1 : Int)))
    else none
    else spot_Number_c0 k t2 x20
def spot_Number (k : Nat) (p0 : ByteArray) : Option (Int × Bool) :=
  (strings_CutPrefix k p0 (ByteArray.mk #[45])).bind fun t2 =>
  Option.bind (α := Bool) (if t2.1 = (ByteArray.mk #[]) then some (true)
  else if (19 : Int) < (t2.1.size : Int) then some (true)
  else if 0 ≤ (0 : Int) ∧ (0 : Int) < (t2.1.size : Int) then if (byteAt t2.1 (0 : Int)) = (48 : Int) then if t2.2 = true then some (true)
  else some (decide ((1 : Int) < (t2.1.size : Int)))
  else some (false)
  else none) fun b3 =>
  if b3 = true then some ((0 : Int), false)
  else spot_Number_l1 k t2 k (0 : Int) (0 : Int)
theorem spot_Number_spec {k : Nat} {p0 : ByteArray} {r : (Int × Bool)} (h : spot_Number k p0 = some r) : Spec Try.prog 16 [(eStr p0)] (.tup [(eI64 r.1), (eBool r.2)]) := by
  rw [spot_Number.eq_1] at h
  refine Spec.intro (res := [.tmp 2, .tmp 3]) Try.func16 rfl rfl rfl (Nat.le_of_ble_eq_true rfl) ?_
  refine AW.seq ?_
  refine AW.reg ?_
  refine AO.calm rfl 2 rfl (by decide) (eI64 (0 : Int)) (Calm.assign rfl rfl) ?_
  refine AO.calm rfl 3 rfl (by decide) (eBool false) (Calm.assign rfl rfl) ?_
  refine AO.nil (ρ' := [(0, (eStr p0))]) (H' := []) ⟨rfl, trivial⟩ (Sub.refl _) ?_
  refine AW.seq ?_
  refine AW.reg ?_
  refine AO.calm rfl 9 rfl (by decide) (eStr p0) (Calm.move rfl rfl) ?_
  obtain ⟨t2, et2, h⟩ := of_bind h
  refine AO.callS [(eStr p0), (eStr (ByteArray.mk #[45]))] (.tup [(eStr t2.1), (eBool t2.2)]) 10 rfl (by decide) ok58 rfl rfl rfl ⟨rfl, rfl, rfl, rfl, trivial⟩ (strings_CutPrefix_spec et2) ?_
  refine AO.calm rfl 8 rfl (by decide) (.tup [(eStr t2.1), (eBool t2.2)]) (Calm.move rfl rfl) ?_
  refine AO.calm rfl 11 rfl (by decide) (eStr t2.1) (Calm.extract rfl rfl rfl) ?_
  refine AO.calm rfl 12 rfl (by decide) (eBool t2.2) (Calm.extract rfl rfl rfl) ?_
  refine AO.calm rfl 4 rfl (by decide) (eStr t2.1) (Calm.assign rfl rfl) ?_
  refine AO.calm rfl 5 rfl (by decide) (eBool t2.2) (Calm.assign rfl rfl) ?_
  refine AO.nil (ρ' := [(4, (eStr t2.1)), (5, (eBool t2.2))]) (H' := []) ⟨rfl, rfl, trivial⟩ (Sub.refl _) ?_
  refine AW.seq ?_
  refine AW.reg ?_
  refine AO.calm rfl 6 rfl (by decide) (eU64 (0 : Int)) (Calm.assign rfl rfl) ?_
  refine AO.nil (ρ' := [(4, (eStr t2.1)), (5, (eBool t2.2)), (6, (eU64 (0 : Int)))]) (H' := []) ⟨rfl, rfl, rfl, trivial⟩ (Sub.refl _) ?_
  refine AW.seq ?_
  refine AW.seq ?_
  obtain ⟨b3, hq4, h⟩ := of_bind h
  refine AW.regM [(4, (eStr t2.1)), (5, (eBool t2.2)), (6, (eU64 (0 : Int))), (32, (eBool b3))] [] ?_ ?_
  · refine AO.calm rfl 13 rfl (by decide) (eStr t2.1) (Calm.move rfl rfl) ?_
    refine AO.calm rfl 14 rfl (by decide) (eBool (decide (t2.1 = (ByteArray.mk #[])))) (Calm.str rfl rfl rfl rfl) ?_
    refine AO.calm rfl 15 rfl (by decide) (eBool (decide (t2.1 = (ByteArray.mk #[])))) (Calm.move rfl rfl) ?_
    by_cases hc5 : t2.1 = (ByteArray.mk #[])
    · have hq4 := (if_pos hc5).symm.trans hq4
      refine AO.skipG 2 true 15 rfl rfl (congrArg (fun b => some (AV.fl (Value.bool b))) (decide_eq_true hc5)) 16 rfl (by decide) ?_
      refine AO.skipG 2 true 15 rfl rfl (congrArg (fun b => some (AV.fl (Value.bool b))) (decide_eq_true hc5)) 17 rfl (by decide) ?_
      refine AO.skipG 2 true 15 rfl rfl (congrArg (fun b => some (AV.fl (Value.bool b))) (decide_eq_true hc5)) 18 rfl (by decide) ?_
      refine AO.calm rfl 19 rfl (by decide) (eBool true) (Calm.pickT rfl (congrArg (fun b => some (AV.fl (Value.bool b))) (decide_eq_true hc5)) rfl) ?_
      refine AO.calm rfl 20 rfl (by decide) (eBool true) (Calm.move rfl rfl) ?_
      refine AO.skipG 7 true 20 rfl rfl rfl 21 rfl (by decide) ?_
      refine AO.skipG 7 true 20 rfl rfl rfl 22 rfl (by decide) ?_
      refine AO.skipG 7 true 20 rfl rfl rfl 23 rfl (by decide) ?_
      refine AO.skipG 7 true 20 rfl rfl rfl 24 rfl (by decide) ?_
      refine AO.skipU 11 true 24 rfl rfl rfl 25 rfl (by decide) ?_
      refine AO.skipU 11 true 24 rfl rfl rfl 26 rfl (by decide) ?_
      refine AO.skipU 13 false 26 rfl rfl rfl 27 rfl (by decide) ?_
      refine AO.skipU 13 false 26 rfl rfl rfl 28 rfl (by decide) ?_
      refine AO.skipU 13 false 26 rfl rfl rfl 29 rfl (by decide) ?_
      refine AO.skipU 11 true 24 rfl rfl rfl 30 rfl (by decide) ?_
      refine AO.skipG 7 true 20 rfl rfl rfl 31 rfl (by decide) ?_
      refine AO.calm rfl 32 rfl (by decide) (eBool true) (Calm.pickT rfl rfl rfl) ?_
      cases hq4
      refine AO.nilE ⟨rfl, rfl⟩ ?_ ?_
      · exact ⟨rfl, rfl, rfl, rfl, trivial⟩
      · exact (Sub.refl _)
    · have hq4 := (if_neg hc5).symm.trans hq4
      refine AO.calmG 2 false 15 rfl rfl (congrArg (fun b => some (AV.fl (Value.bool b))) (decide_eq_false hc5)) 16 rfl (by decide) (eStr t2.1) (Calm.move rfl rfl) ?_
      refine AO.calmG 2 false 15 rfl rfl (congrArg (fun b => some (AV.fl (Value.bool b))) (decide_eq_false hc5)) 17 rfl (by decide) (eI64 (t2.1.size : Int)) (Calm.lenStr rfl rfl Try.underlying9) ?_
      refine AO.calmG 2 false 15 rfl rfl (congrArg (fun b => some (AV.fl (Value.bool b))) (decide_eq_false hc5)) 18 rfl (by decide) (eBool (decide ((19 : Int) < (t2.1.size : Int)))) (Calm.int rfl rfl rfl rfl) ?_
      refine AO.calm rfl 19 rfl (by decide) (eBool (decide ((19 : Int) < (t2.1.size : Int)))) (Calm.pickF rfl (congrArg (fun b => some (AV.fl (Value.bool b))) (decide_eq_false hc5)) rfl) ?_
      refine AO.calm rfl 20 rfl (by decide) (eBool (decide ((19 : Int) < (t2.1.size : Int)))) (Calm.move rfl rfl) ?_
      by_cases hc6 : (19 : Int) < (t2.1.size : Int)
      · have hq4 := (if_pos hc6).symm.trans hq4
        refine AO.skipG 7 true 20 rfl rfl (congrArg (fun b => some (AV.fl (Value.bool b))) (decide_eq_true hc6)) 21 rfl (by decide) ?_
        refine AO.skipG 7 true 20 rfl rfl (congrArg (fun b => some (AV.fl (Value.bool b))) (decide_eq_true hc6)) 22 rfl (by decide) ?_
        refine AO.skipG 7 true 20 rfl rfl (congrArg (fun b => some (AV.fl (Value.bool b))) (decide_eq_true hc6)) 23 rfl (by decide) ?_
        refine AO.skipG 7 true 20 rfl rfl (congrArg (fun b => some (AV.fl (Value.bool b))) (decide_eq_true hc6)) 24 rfl (by decide) ?_
        refine AO.skipU 11 true 24 rfl rfl rfl 25 rfl (by decide) ?_
        refine AO.skipU 11 true 24 rfl rfl rfl 26 rfl (by decide) ?_
        refine AO.skipU 13 false 26 rfl rfl rfl 27 rfl (by decide) ?_
        refine AO.skipU 13 false 26 rfl rfl rfl 28 rfl (by decide) ?_
        refine AO.skipU 13 false 26 rfl rfl rfl 29 rfl (by decide) ?_
        refine AO.skipU 11 true 24 rfl rfl rfl 30 rfl (by decide) ?_
        refine AO.skipG 7 true 20 rfl rfl (congrArg (fun b => some (AV.fl (Value.bool b))) (decide_eq_true hc6)) 31 rfl (by decide) ?_
        refine AO.calm rfl 32 rfl (by decide) (eBool true) (Calm.pickT rfl (congrArg (fun b => some (AV.fl (Value.bool b))) (decide_eq_true hc6)) rfl) ?_
        cases hq4
        refine AO.nilE ⟨rfl, rfl⟩ ?_ ?_
        · exact ⟨rfl, rfl, rfl, rfl, trivial⟩
        · exact (Sub.refl _)
      · have hq4 := (if_neg hc6).symm.trans hq4
        refine AO.calmG 7 false 20 rfl rfl (congrArg (fun b => some (AV.fl (Value.bool b))) (decide_eq_false hc6)) 21 rfl (by decide) (eStr t2.1) (Calm.move rfl rfl) ?_
        obtain ⟨hg7, hq4⟩ := of_guard hq4
        refine AO.calmG 7 false 20 rfl rfl (congrArg (fun b => some (AV.fl (Value.bool b))) (decide_eq_false hc6)) 22 rfl (by decide) (eU8 (byteAt t2.1 (0 : Int))) (Calm.idxS rfl rfl rfl hg7 Try.underlying9) ?_
        refine AO.calmG 7 false 20 rfl rfl (congrArg (fun b => some (AV.fl (Value.bool b))) (decide_eq_false hc6)) 23 rfl (by decide) (eBool (decide ((byteAt t2.1 (0 : Int)) = (48 : Int)))) (Calm.int rfl rfl rfl rfl) ?_
        refine AO.calmG 7 false 20 rfl rfl (congrArg (fun b => some (AV.fl (Value.bool b))) (decide_eq_false hc6)) 24 rfl (by decide) (eBool (decide ((byteAt t2.1 (0 : Int)) = (48 : Int)))) (Calm.move rfl rfl) ?_
        by_cases hc8 : (byteAt t2.1 (0 : Int)) = (48 : Int)
        · have hq4 := (if_pos hc8).symm.trans hq4
          refine AO.calmG 11 true 24 rfl rfl (congrArg (fun b => some (AV.fl (Value.bool b))) (decide_eq_true hc8)) 25 rfl (by decide) (eBool t2.2) (Calm.move rfl rfl) ?_
          refine AO.calmG 11 true 24 rfl rfl (congrArg (fun b => some (AV.fl (Value.bool b))) (decide_eq_true hc8)) 26 rfl (by decide) (eBool t2.2) (Calm.move rfl rfl) ?_
          by_cases hc9 : t2.2 = true
          · have hq4 := (if_pos hc9).symm.trans hq4
            refine AO.skipG 13 true 26 rfl rfl (congrArg (fun b => some (AV.fl (Value.bool b))) hc9) 27 rfl (by decide) ?_
            refine AO.skipG 13 true 26 rfl rfl (congrArg (fun b => some (AV.fl (Value.bool b))) hc9) 28 rfl (by decide) ?_
            refine AO.skipG 13 true 26 rfl rfl (congrArg (fun b => some (AV.fl (Value.bool b))) hc9) 29 rfl (by decide) ?_
            refine AO.calmG 11 true 24 rfl rfl (congrArg (fun b => some (AV.fl (Value.bool b))) (decide_eq_true hc8)) 30 rfl (by decide) (eBool true) (Calm.pickT rfl (congrArg (fun b => some (AV.fl (Value.bool b))) hc9) rfl) ?_
            refine AO.calmG 7 false 20 rfl rfl (congrArg (fun b => some (AV.fl (Value.bool b))) (decide_eq_false hc6)) 31 rfl (by decide) (eBool true) (Calm.pickT rfl (congrArg (fun b => some (AV.fl (Value.bool b))) (decide_eq_true hc8)) rfl) ?_
            refine AO.calm rfl 32 rfl (by decide) (eBool true) (Calm.pickF rfl (congrArg (fun b => some (AV.fl (Value.bool b))) (decide_eq_false hc6)) rfl) ?_
            cases hq4
            refine AO.nilE ⟨rfl, rfl⟩ ?_ ?_
            · exact ⟨rfl, rfl, rfl, rfl, trivial⟩
            · exact (Sub.refl _)
          · have hq4 := (if_neg hc9).symm.trans hq4
            refine AO.calmG 13 false 26 rfl rfl (congrArg (fun b => some (AV.fl (Value.bool b))) (eq_false_of_ne_true hc9)) 27 rfl (by decide) (eStr t2.1) (Calm.move rfl rfl) ?_
            refine AO.calmG 13 false 26 rfl rfl (congrArg (fun b => some (AV.fl (Value.bool b))) (eq_false_of_ne_true hc9)) 28 rfl (by decide) (eI64 (t2.1.size : Int)) (Calm.lenStr rfl rfl Try.underlying9) ?_
            refine AO.calmG 13 false 26 rfl rfl (congrArg (fun b => some (AV.fl (Value.bool b))) (eq_false_of_ne_true hc9)) 29 rfl (by decide) (eBool (decide ((1 : Int) < (t2.1.size : Int)))) (Calm.int rfl rfl rfl rfl) ?_
            refine AO.calmG 11 true 24 rfl rfl (congrArg (fun b => some (AV.fl (Value.bool b))) (decide_eq_true hc8)) 30 rfl (by decide) (eBool (decide ((1 : Int) < (t2.1.size : Int)))) (Calm.pickF rfl (congrArg (fun b => some (AV.fl (Value.bool b))) (eq_false_of_ne_true hc9)) rfl) ?_
            refine AO.calmG 7 false 20 rfl rfl (congrArg (fun b => some (AV.fl (Value.bool b))) (decide_eq_false hc6)) 31 rfl (by decide) (eBool (decide ((1 : Int) < (t2.1.size : Int)))) (Calm.pickT rfl (congrArg (fun b => some (AV.fl (Value.bool b))) (decide_eq_true hc8)) rfl) ?_
            refine AO.calm rfl 32 rfl (by decide) (eBool (decide ((1 : Int) < (t2.1.size : Int)))) (Calm.pickF rfl (congrArg (fun b => some (AV.fl (Value.bool b))) (decide_eq_false hc6)) rfl) ?_
            cases hq4
            refine AO.nilE ⟨rfl, rfl⟩ ?_ ?_
            · exact ⟨rfl, rfl, rfl, rfl, trivial⟩
            · exact (Sub.refl _)
        · have hq4 := (if_neg hc8).symm.trans hq4
          refine AO.skipG 11 false 24 rfl rfl (congrArg (fun b => some (AV.fl (Value.bool b))) (decide_eq_false hc8)) 25 rfl (by decide) ?_
          refine AO.skipG 11 false 24 rfl rfl (congrArg (fun b => some (AV.fl (Value.bool b))) (decide_eq_false hc8)) 26 rfl (by decide) ?_
          refine AO.skipU 13 false 26 rfl rfl rfl 27 rfl (by decide) ?_
          refine AO.skipU 13 false 26 rfl rfl rfl 28 rfl (by decide) ?_
          refine AO.skipU 13 false 26 rfl rfl rfl 29 rfl (by decide) ?_
          refine AO.skipG 11 false 24 rfl rfl (congrArg (fun b => some (AV.fl (Value.bool b))) (decide_eq_false hc8)) 30 rfl (by decide) ?_
          refine AO.calmG 7 false 20 rfl rfl (congrArg (fun b => some (AV.fl (Value.bool b))) (decide_eq_false hc6)) 31 rfl (by decide) (eBool false) (Calm.pickF rfl (congrArg (fun b => some (AV.fl (Value.bool b))) (decide_eq_false hc8)) rfl) ?_
          refine AO.calm rfl 32 rfl (by decide) (eBool false) (Calm.pickF rfl (congrArg (fun b => some (AV.fl (Value.bool b))) (decide_eq_false hc6)) rfl) ?_
          cases hq4
          refine AO.nilE ⟨rfl, rfl⟩ ?_ ?_
          · exact ⟨rfl, rfl, rfl, rfl, trivial⟩
          · exact (Sub.refl _)
  · by_cases hc10 : b3 = true
    · have h := (if_pos hc10).symm.trans h
      refine AW.condT' b3 rfl hc10 ?_
      refine AW.seq ?_
      refine AW.reg ?_
      refine AO.calm rfl 2 rfl (by decide) (eI64 (0 : Int)) (Calm.assign rfl rfl) ?_
      refine AO.calm rfl 3 rfl (by decide) (eBool false) (Calm.assign rfl rfl) ?_
      refine AO.nil (ρ' := [(2, (eI64 (0 : Int))), (3, (eBool false))]) (H' := []) ⟨rfl, rfl, trivial⟩ (Sub.refl _) ?_
      refine AW.ret (ρ' := [(2, (eI64 (0 : Int))), (3, (eBool false))]) (H' := []) ⟨rfl, rfl, trivial⟩ (Sub.refl _) ?_
      have hr := Option.some.inj h
      subst hr
      exact ⟨[(eI64 (0 : Int)), (eBool false)], ⟨rfl, rfl, rfl, rfl, trivial⟩, rfl⟩
    · have h := (if_neg hc10).symm.trans h
      refine AW.condF' b3 rfl hc10 ?_
      refine AW.skip (ρ' := [(4, (eStr t2.1)), (5, (eBool t2.2)), (6, (eU64 (0 : Int)))]) (H' := []) ⟨rfl, rfl, rfl, trivial⟩ (Sub.refl _) ?_
      refine AW.seq_mid (fun ρ H => ∃ (x11 : Int), ρ = [(5, (eBool t2.2)), (6, (eU64 x11))] ∧ H = [] ∧ spot_Number_c0 k t2 x11 = some r) ?_ ?_
      · refine AW.seq ?_
        refine AW.reg ?_
        refine AO.calm rfl 33 rfl (by decide) (eStr t2.1) (Calm.move rfl rfl) ?_
        refine AO.calm rfl 34 rfl (by decide) (eI64 (t2.1.size : Int)) (Calm.lenStr rfl rfl Try.underlying9) ?_
        refine AO.calm rfl 35 rfl (by decide) (eI64 (0 : Int)) (Calm.move rfl rfl) ?_
        refine AO.nil (ρ' := [(4, (eStr t2.1)), (5, (eBool t2.2)), (6, (eU64 (0 : Int))), (34, (eI64 (t2.1.size : Int))), (35, (eI64 (0 : Int)))]) (H' := []) ⟨rfl, rfl, rfl, rfl, rfl, trivial⟩ (Sub.refl _) ?_
        refine AW.block ?_
        refine AW.weak (ρ' := [(4, (eStr t2.1)), (5, (eBool t2.2)), (6, (eU64 (0 : Int))), (34, (eI64 (t2.1.size : Int))), (35, (eI64 (0 : Int)))]) (H' := []) ⟨rfl, rfl, rfl, rfl, rfl, trivial⟩ (Sub.refl _) ?_
        refine AW.loop (fun kq ρ H => ∃ (x20 : Int) (x21 : Int), ρ = [(4, (eStr t2.1)), (5, (eBool t2.2)), (6, (eU64 x20)), (34, (eI64 (t2.1.size : Int))), (35, (eI64 x21))] ∧ H = [] ∧ spot_Number_l1 k t2 kq x20 x21 = some r) k ⟨(0 : Int), (0 : Int), rfl, rfl, h⟩ ?_
        rintro kq23 _ _ ⟨x20, x21, rfl, rfl, h⟩
        cases kq23 with
        | zero => rw [spot_Number_l1.eq_1] at h; cases h
        | succ kq23 =>
        rw [spot_Number_l1.eq_2] at h
        generalize hrec22 : spot_Number_l1 k t2 kq23 = rec22 at h
        refine AW.seq ?_
        refine AW.reg ?_
        refine AO.calm rfl 36 rfl (by decide) (eBool (decide (x21 < (t2.1.size : Int)))) (Calm.int rfl rfl rfl rfl) ?_
        refine AO.nil (ρ' := [(4, (eStr t2.1)), (5, (eBool t2.2)), (6, (eU64 x20)), (34, (eI64 (t2.1.size : Int))), (35, (eI64 x21)), (36, (eBool (decide (x21 < (t2.1.size : Int)))))]) (H' := []) ⟨rfl, rfl, rfl, rfl, rfl, rfl, trivial⟩ (Sub.refl _) ?_
        refine AW.seq ?_
        by_cases hc24 : x21 < (t2.1.size : Int)
        · have h := (if_pos hc24).symm.trans h
          refine AW.condP (x21 < (t2.1.size : Int)) rfl hc24 ?_
          refine AW.skip (ρ' := [(4, (eStr t2.1)), (5, (eBool t2.2)), (6, (eU64 x20)), (34, (eI64 (t2.1.size : Int))), (35, (eI64 x21))]) (H' := []) ⟨rfl, rfl, rfl, rfl, rfl, trivial⟩ (Sub.refl _) ?_
          refine AW.seq ?_
          refine AW.block ?_
          refine AW.seq ?_
          refine AW.reg ?_
          refine AO.calm rfl 37 rfl (by decide) (eI64 x21) (Calm.move rfl rfl) ?_
          refine AO.calm rfl 7 rfl (by decide) (eI64 x21) (Calm.assign rfl rfl) ?_
          refine AO.nil (ρ' := [(4, (eStr t2.1)), (5, (eBool t2.2)), (6, (eU64 x20)), (7, (eI64 x21)), (34, (eI64 (t2.1.size : Int))), (35, (eI64 x21))]) (H' := []) ⟨rfl, rfl, rfl, rfl, rfl, rfl, trivial⟩ (Sub.refl _) ?_
          refine AW.seq ?_
          refine AW.seq ?_
          obtain ⟨b25, hq26, h⟩ := of_bind h
          refine AW.regM [(4, (eStr t2.1)), (5, (eBool t2.2)), (6, (eU64 x20)), (7, (eI64 x21)), (34, (eI64 (t2.1.size : Int))), (35, (eI64 x21)), (47, (eBool b25))] [] ?_ ?_
          · refine AO.calm rfl 38 rfl (by decide) (eStr t2.1) (Calm.move rfl rfl) ?_
            refine AO.calm rfl 39 rfl (by decide) (eI64 x21) (Calm.move rfl rfl) ?_
            obtain ⟨hg27, hq26⟩ := of_guard hq26
            refine AO.calm rfl 40 rfl (by decide) (eU8 (byteAt t2.1 x21)) (Calm.idxS rfl rfl rfl hg27 Try.underlying9) ?_
            refine AO.calm rfl 41 rfl (by decide) (eBool (decide ((byteAt t2.1 x21) < (48 : Int)))) (Calm.int rfl rfl rfl rfl) ?_
            refine AO.calm rfl 42 rfl (by decide) (eBool (decide ((byteAt t2.1 x21) < (48 : Int)))) (Calm.move rfl rfl) ?_
            by_cases hc28 : (byteAt t2.1 x21) < (48 : Int)
            · have hq26 := (if_pos hc28).symm.trans hq26
              refine AO.skipG 4 true 42 rfl rfl (congrArg (fun b => some (AV.fl (Value.bool b))) (decide_eq_true hc28)) 43 rfl (by decide) ?_
              refine AO.skipG 4 true 42 rfl rfl (congrArg (fun b => some (AV.fl (Value.bool b))) (decide_eq_true hc28)) 44 rfl (by decide) ?_
              refine AO.skipG 4 true 42 rfl rfl (congrArg (fun b => some (AV.fl (Value.bool b))) (decide_eq_true hc28)) 45 rfl (by decide) ?_
              refine AO.skipG 4 true 42 rfl rfl (congrArg (fun b => some (AV.fl (Value.bool b))) (decide_eq_true hc28)) 46 rfl (by decide) ?_
              refine AO.calm rfl 47 rfl (by decide) (eBool true) (Calm.pickT rfl (congrArg (fun b => some (AV.fl (Value.bool b))) (decide_eq_true hc28)) rfl) ?_
              cases hq26
              refine AO.nilE ⟨rfl, rfl⟩ ?_ ?_
              · exact ⟨rfl, rfl, rfl, rfl, rfl, rfl, rfl, trivial⟩
              · exact (Sub.refl _)
            · have hq26 := (if_neg hc28).symm.trans hq26
              refine AO.calmG 4 false 42 rfl rfl (congrArg (fun b => some (AV.fl (Value.bool b))) (decide_eq_false hc28)) 43 rfl (by decide) (eStr t2.1) (Calm.move rfl rfl) ?_
              refine AO.calmG 4 false 42 rfl rfl (congrArg (fun b => some (AV.fl (Value.bool b))) (decide_eq_false hc28)) 44 rfl (by decide) (eI64 x21) (Calm.move rfl rfl) ?_
              obtain ⟨hg29, hq26⟩ := of_guard hq26
              refine AO.calmG 4 false 42 rfl rfl (congrArg (fun b => some (AV.fl (Value.bool b))) (decide_eq_false hc28)) 45 rfl (by decide) (eU8 (byteAt t2.1 x21)) (Calm.idxS rfl rfl rfl hg29 Try.underlying9) ?_
              refine AO.calmG 4 false 42 rfl rfl (congrArg (fun b => some (AV.fl (Value.bool b))) (decide_eq_false hc28)) 46 rfl (by decide) (eBool (decide ((57 : Int) < (byteAt t2.1 x21)))) (Calm.int rfl rfl rfl rfl) ?_
              refine AO.calm rfl 47 rfl (by decide) (eBool (decide ((57 : Int) < (byteAt t2.1 x21)))) (Calm.pickF rfl (congrArg (fun b => some (AV.fl (Value.bool b))) (decide_eq_false hc28)) rfl) ?_
              cases hq26
              refine AO.nilE ⟨rfl, rfl⟩ ?_ ?_
              · exact ⟨rfl, rfl, rfl, rfl, rfl, rfl, rfl, trivial⟩
              · exact (Sub.refl _)
          · by_cases hc30 : b25 = true
            · have h := (if_pos hc30).symm.trans h
              refine AW.condT' b25 rfl hc30 ?_
              refine AW.seq ?_
              refine AW.reg ?_
              refine AO.calm rfl 2 rfl (by decide) (eI64 (0 : Int)) (Calm.assign rfl rfl) ?_
              refine AO.calm rfl 3 rfl (by decide) (eBool false) (Calm.assign rfl rfl) ?_
              refine AO.nil (ρ' := [(2, (eI64 (0 : Int))), (3, (eBool false))]) (H' := []) ⟨rfl, rfl, trivial⟩ (Sub.refl _) ?_
              refine AW.ret (ρ' := [(2, (eI64 (0 : Int))), (3, (eBool false))]) (H' := []) ⟨rfl, rfl, trivial⟩ (Sub.refl _) ?_
              have hr := Option.some.inj h
              subst hr
              exact ⟨[(eI64 (0 : Int)), (eBool false)], ⟨rfl, rfl, rfl, rfl, trivial⟩, rfl⟩
            · have h := (if_neg hc30).symm.trans h
              refine AW.condF' b25 rfl hc30 ?_
              refine AW.skip (ρ' := [(4, (eStr t2.1)), (5, (eBool t2.2)), (6, (eU64 x20)), (7, (eI64 x21)), (34, (eI64 (t2.1.size : Int))), (35, (eI64 x21))]) (H' := []) ⟨rfl, rfl, rfl, rfl, rfl, rfl, trivial⟩ (Sub.refl _) ?_
              refine AW.reg ?_
              refine AO.calm rfl 48 rfl (by decide) (eU64 x20) (Calm.move rfl rfl) ?_
              refine AO.calm rfl 49 rfl (by decide) (eU64 (u64 (x20 * (10 : Int)))) (Calm.int rfl rfl rfl rfl) ?_
              refine AO.calm rfl 50 rfl (by decide) (eStr t2.1) (Calm.move rfl rfl) ?_
              refine AO.calm rfl 51 rfl (by decide) (eI64 x21) (Calm.move rfl rfl) ?_
              obtain ⟨hg31, h⟩ := of_guard h
              refine AO.calm rfl 52 rfl (by decide) (eU8 (byteAt t2.1 x21)) (Calm.idxS rfl rfl rfl hg31 Try.underlying9) ?_
              refine AO.calm rfl 53 rfl (by decide) (eU8 (w8 ((byteAt t2.1 x21) - (48 : Int)))) (Calm.int rfl rfl rfl rfl) ?_
              refine AO.calm rfl 54 rfl (by decide) (eU64 (u64 (w8 ((byteAt t2.1 x21) - (48 : Int))))) (Calm.conv rfl rfl Try.underlying5 Try.underlying83) ?_
              refine AO.calm rfl 55 rfl (by decide) (eU64 (u64 ((u64 (x20 * (10 : Int))) + (u64 (w8 ((byteAt t2.1 x21) - (48 : Int))))))) (Calm.int rfl rfl rfl rfl) ?_
              obtain ⟨x32, ex32, h⟩ := of_bind h
              refine AO.calm rfl 6 rfl (by decide) (eU64 x32) (Calm.assign rfl (congrArg (fun x => some (eU64 x)) (Option.some.inj ex32))) ?_
              refine AO.nil (ρ' := [(4, (eStr t2.1)), (5, (eBool t2.2)), (6, (eU64 x32)), (34, (eI64 (t2.1.size : Int))), (35, (eI64 x21))]) (H' := []) ⟨rfl, rfl, rfl, rfl, rfl, trivial⟩ (Sub.refl _) ?_
              refine AW.reg ?_
              refine AO.calm rfl 56 rfl (by decide) (eI64 (w64 (x21 + (1 : Int)))) (Calm.int rfl rfl rfl rfl) ?_
              refine AO.calm rfl 35 rfl (by decide) (eI64 (w64 (x21 + (1 : Int)))) (Calm.move rfl rfl) ?_
              refine AO.nil (ρ' := [(4, (eStr t2.1)), (5, (eBool t2.2)), (6, (eU64 x32)), (34, (eI64 (t2.1.size : Int))), (35, (eI64 (w64 (x21 + (1 : Int)))))]) (H' := []) ⟨rfl, rfl, rfl, rfl, rfl, trivial⟩ (Sub.refl _) ?_
              exact ⟨kq23, Nat.lt_succ_self _, x32, (w64 (x21 + (1 : Int))), rfl, rfl, by rw [hrec22]; exact h⟩
        · have h := (if_neg hc24).symm.trans h
          refine AW.condN (x21 < (t2.1.size : Int)) rfl hc24 ?_
          refine AW.exit (ρ' := [(5, (eBool t2.2)), (6, (eU64 x20))]) (H' := []) ⟨rfl, rfl, trivial⟩ (Sub.refl _) ?_
          exact ⟨x20, rfl, rfl, h⟩
      · rintro _ _ ⟨x11, rfl, rfl, h⟩
        rw [spot_Number_c0.eq_1] at h
        refine AW.seq ?_
        refine AW.block ?_
        refine AW.seq ?_
        obtain ⟨b12, hq13, h⟩ := of_bind h
        refine AW.regM [(5, (eBool t2.2)), (6, (eU64 x11)), (57, (eBool b12))] [] ?_ ?_
        · refine AO.calm rfl 58 rfl (by decide) (eBool t2.2) (Calm.move rfl rfl) ?_
          refine AO.calm rfl 59 rfl (by decide) (eBool t2.2) (Calm.move rfl rfl) ?_
          by_cases hc14 : t2.2 = true
          · have hq13 := (if_pos hc14).symm.trans hq13
            refine AO.calmG 1 true 59 rfl rfl (congrArg (fun b => some (AV.fl (Value.bool b))) hc14) 60 rfl (by decide) (eU64 x11) (Calm.move rfl rfl) ?_
            refine AO.calmG 1 true 59 rfl rfl (congrArg (fun b => some (AV.fl (Value.bool b))) hc14) 61 rfl (by decide) (eBool (decide (x11 ≤ (9223372036854775808 : Int)))) (Calm.int rfl rfl rfl rfl) ?_
            refine AO.calm rfl 62 rfl (by decide) (eBool (decide (x11 ≤ (9223372036854775808 : Int)))) (Calm.pickT rfl (congrArg (fun b => some (AV.fl (Value.bool b))) hc14) rfl) ?_
            refine AO.calm rfl 57 rfl (by decide) (eBool (decide (x11 ≤ (9223372036854775808 : Int)))) (Calm.assign rfl rfl) ?_
            cases hq13
            refine AO.nilE ⟨rfl, rfl⟩ ?_ ?_
            · exact ⟨rfl, rfl, rfl, trivial⟩
            · exact (Sub.refl _)
          · have hq13 := (if_neg hc14).symm.trans hq13
            refine AO.skipG 1 false 59 rfl rfl (congrArg (fun b => some (AV.fl (Value.bool b))) (eq_false_of_ne_true hc14)) 60 rfl (by decide) ?_
            refine AO.skipG 1 false 59 rfl rfl (congrArg (fun b => some (AV.fl (Value.bool b))) (eq_false_of_ne_true hc14)) 61 rfl (by decide) ?_
            refine AO.calm rfl 62 rfl (by decide) (eBool false) (Calm.pickF rfl (congrArg (fun b => some (AV.fl (Value.bool b))) (eq_false_of_ne_true hc14)) rfl) ?_
            refine AO.calm rfl 57 rfl (by decide) (eBool false) (Calm.assign rfl rfl) ?_
            cases hq13
            refine AO.nilE ⟨rfl, rfl⟩ ?_ ?_
            · exact ⟨rfl, rfl, rfl, trivial⟩
            · exact (Sub.refl _)
        · by_cases hc15 : b12 = true
          · have h := (if_pos hc15).symm.trans h
            refine AW.condT' b12 rfl hc15 ?_
            refine AW.seq ?_
            refine AW.reg ?_
            refine AO.calm rfl 63 rfl (by decide) (eU64 x11) (Calm.move rfl rfl) ?_
            refine AO.calm rfl 64 rfl (by decide) (eU64 (IntKind.u64.wrap (0 - x11))) (Calm.neg rfl rfl) ?_
            refine AO.calm rfl 65 rfl (by decide) (eI64 (w64 (IntKind.u64.wrap (0 - x11)))) (Calm.conv rfl rfl Try.underlying83 Try.underlying3) ?_
            refine AO.calm rfl 2 rfl (by decide) (eI64 (w64 (IntKind.u64.wrap (0 - x11)))) (Calm.assign rfl rfl) ?_
            refine AO.calm rfl 3 rfl (by decide) (eBool true) (Calm.assign rfl rfl) ?_
            refine AO.nil (ρ' := [(2, (eI64 (w64 (IntKind.u64.wrap (0 - x11))))), (3, (eBool true))]) (H' := []) ⟨rfl, rfl, trivial⟩ (Sub.refl _) ?_
            refine AW.ret (ρ' := [(2, (eI64 (w64 (IntKind.u64.wrap (0 - x11))))), (3, (eBool true))]) (H' := []) ⟨rfl, rfl, trivial⟩ (Sub.refl _) ?_
            have hr := Option.some.inj h
            subst hr
            exact ⟨[(eI64 (w64 (IntKind.u64.wrap (0 - x11)))), (eBool true)], ⟨rfl, rfl, rfl, rfl, trivial⟩, rfl⟩
          · have h := (if_neg hc15).symm.trans h
            refine AW.condF' b12 rfl hc15 ?_
            refine AW.seq ?_
            obtain ⟨b16, hq17, h⟩ := of_bind h
            refine AW.regM [(6, (eU64 x11)), (66, (eBool b16))] [] ?_ ?_
            · refine AO.calm rfl 67 rfl (by decide) (eBool t2.2) (Calm.move rfl rfl) ?_
              refine AO.calm rfl 68 rfl (by decide) (eBool (!t2.2)) (Calm.not rfl rfl) ?_
              refine AO.calm rfl 69 rfl (by decide) (eBool (!t2.2)) (Calm.move rfl rfl) ?_
              by_cases hc18 : (!t2.2) = true
              · have hq17 := (if_pos hc18).symm.trans hq17
                refine AO.calmG 2 true 69 rfl rfl (congrArg (fun b => some (AV.fl (Value.bool b))) hc18) 70 rfl (by decide) (eU64 x11) (Calm.move rfl rfl) ?_
                refine AO.calmG 2 true 69 rfl rfl (congrArg (fun b => some (AV.fl (Value.bool b))) hc18) 71 rfl (by decide) (eBool (decide (x11 < (9223372036854775808 : Int)))) (Calm.int rfl rfl rfl rfl) ?_
                refine AO.calm rfl 72 rfl (by decide) (eBool (decide (x11 < (9223372036854775808 : Int)))) (Calm.pickT rfl (congrArg (fun b => some (AV.fl (Value.bool b))) hc18) rfl) ?_
                refine AO.calm rfl 66 rfl (by decide) (eBool (decide (x11 < (9223372036854775808 : Int)))) (Calm.assign rfl rfl) ?_
                cases hq17
                refine AO.nilE ⟨rfl, rfl⟩ ?_ ?_
                · exact ⟨rfl, rfl, trivial⟩
                · exact (Sub.refl _)
              · have hq17 := (if_neg hc18).symm.trans hq17
                refine AO.skipG 2 false 69 rfl rfl (congrArg (fun b => some (AV.fl (Value.bool b))) (eq_false_of_ne_true hc18)) 70 rfl (by decide) ?_
                refine AO.skipG 2 false 69 rfl rfl (congrArg (fun b => some (AV.fl (Value.bool b))) (eq_false_of_ne_true hc18)) 71 rfl (by decide) ?_
                refine AO.calm rfl 72 rfl (by decide) (eBool false) (Calm.pickF rfl (congrArg (fun b => some (AV.fl (Value.bool b))) (eq_false_of_ne_true hc18)) rfl) ?_
                refine AO.calm rfl 66 rfl (by decide) (eBool false) (Calm.assign rfl rfl) ?_
                cases hq17
                refine AO.nilE ⟨rfl, rfl⟩ ?_ ?_
                · exact ⟨rfl, rfl, trivial⟩
                · exact (Sub.refl _)
            · by_cases hc19 : b16 = true
              · have h := (if_pos hc19).symm.trans h
                refine AW.condT' b16 rfl hc19 ?_
                refine AW.seq ?_
                refine AW.reg ?_
                refine AO.calm rfl 73 rfl (by decide) (eU64 x11) (Calm.move rfl rfl) ?_
                refine AO.calm rfl 74 rfl (by decide) (eI64 (w64 x11)) (Calm.conv rfl rfl Try.underlying83 Try.underlying3) ?_
                refine AO.calm rfl 2 rfl (by decide) (eI64 (w64 x11)) (Calm.assign rfl rfl) ?_
                refine AO.calm rfl 3 rfl (by decide) (eBool true) (Calm.assign rfl rfl) ?_
                refine AO.nil (ρ' := [(2, (eI64 (w64 x11))), (3, (eBool true))]) (H' := []) ⟨rfl, rfl, trivial⟩ (Sub.refl _) ?_
                refine AW.ret (ρ' := [(2, (eI64 (w64 x11))), (3, (eBool true))]) (H' := []) ⟨rfl, rfl, trivial⟩ (Sub.refl _) ?_
                have hr := Option.some.inj h
                subst hr
                exact ⟨[(eI64 (w64 x11)), (eBool true)], ⟨rfl, rfl, rfl, rfl, trivial⟩, rfl⟩
              · have h := (if_neg hc19).symm.trans h
                refine AW.condF' b16 rfl hc19 ?_
                refine AW.skip (ρ' := []) (H' := []) trivial (Sub.refl _) ?_
                refine AW.seq ?_
                refine AW.reg ?_
                refine AO.calm rfl 2 rfl (by decide) (eI64 (0 : Int)) (Calm.assign rfl rfl) ?_
                refine AO.calm rfl 3 rfl (by decide) (eBool false) (Calm.assign rfl rfl) ?_
                refine AO.nil (ρ' := [(2, (eI64 (0 : Int))), (3, (eBool false))]) (H' := []) ⟨rfl, rfl, trivial⟩ (Sub.refl _) ?_
                refine AW.ret (ρ' := [(2, (eI64 (0 : Int))), (3, (eBool false))]) (H' := []) ⟨rfl, rfl, trivial⟩ (Sub.refl _) ?_
                have hr := Option.some.inj h
                subst hr
                exact ⟨[(eI64 (0 : Int)), (eBool false)], ⟨rfl, rfl, rfl, rfl, trivial⟩, rfl⟩
end Go.Avl.T2
/- (*bosket/ast.reader).number; printed by avmain.py. -/
namespace Go.Avl.T2
open Go Go.RowKit Go.Proofs Go.Avl
set_option linter.unusedVariables false
set_option maxRecDepth 100000
set_option maxHeartbeats 4000000
attribute [local irreducible] AW AO AQ Spec SpecH Calm

def ast_reader_number_c0 (k : Nat) (p0 : S88) (x2 : Int) : Option (Int × Bool × S88) :=
  if 0 ≤ p0.f1 ∧ p0.f1 ≤ x2 ∧ x2 ≤ (p0.f0.size : Int) then (spot_Number k (p0.f0.extract p0.f1.toNat x2.toNat)).bind fun t4 =>
  some (t4.1, t4.2, (S88.mk p0.f0 x2 p0.f2))
  else none
def ast_reader_number_l1 (k : Nat) (p0 : S88) : Nat → Int → Option (Int × Bool × S88)
  | 0, _ => none
  | j + 1, x5 =>
    Option.bind (α := Bool) (if x5 < (p0.f0.size : Int) then if 0 ≤ x5 ∧ x5 < (p0.f0.size : Int) then if (byteAt p0.f0 x5) = (45 : Int) then some (true)
    else if 0 ≤ x5 ∧ x5 < (p0.f0.size : Int) then if (48 : Int) ≤ (byteAt p0.f0 x5) then if 0 ≤ x5 ∧ x5 < (p0.f0.size : Int) then some (decide ((byteAt p0.f0 x5) ≤ (57 : Int)))
    else none
    else some (false)
    else none
    else none
    else some (false)) fun b8 =>
    if b8 = true then (ast_reader_number_l1 k p0 j) (w64 (x5 + (1 : Int)))
    else ast_reader_number_c0 k p0 x5
def ast_reader_number (k : Nat) (p0 : S88) : Option (Int × Bool × S88) :=
  ast_reader_number_l1 k p0 k p0.f1
theorem ast_reader_number_spec {k : Nat} {p0 : S88} {r : (Int × Bool × S88)} (h : ast_reader_number k p0 = some r) {q0 : Nat} {T0 : Heap} : SpecH Try.prog 84 [(.ptr q0 0)] ((q0, .mem (e88 p0)) :: T0) (fun x H' => x = .tup [(eI64 r.1), (eBool r.2.1)] ∧ Sub ((q0, .mem (e88 r.2.2)) :: T0) H') := by
  rw [ast_reader_number.eq_1] at h
  refine SpecH.intro (res := [.tmp 2, .tmp 3]) Try.func84 rfl rfl rfl (Nat.le_of_ble_eq_true rfl) ?_
  refine AW.seq ?_
  refine AW.reg ?_
  refine AO.calm rfl 2 rfl (by decide) (eI64 (0 : Int)) (Calm.assign rfl rfl) ?_
  refine AO.calm rfl 3 rfl (by decide) (eBool false) (Calm.assign rfl rfl) ?_
  refine AO.nil (ρ' := [(0, (.ptr q0 0))]) (H' := ((q0, .mem (e88 p0)) :: T0)) ⟨rfl, trivial⟩ (Sub.refl _) ?_
  refine AW.seq ?_
  refine AW.reg ?_
  refine AO.calm rfl 5 rfl (by decide) (.ptr q0 0) (Calm.move rfl rfl) ?_
  refine AO.calm rfl 6 rfl (by decide) (.ptr q0 0) (Calm.nilCheck rfl rfl) ?_
  refine AO.calm rfl 7 rfl (by decide) (.ptr q0 1) (Calm.fldPtr rfl rfl Try.underlying88 rfl sz3 _ rfl) ?_
  refine AO.calm rfl 8 rfl (by decide) (eI64 p0.f1) (Calm.load 0 rfl rfl rfl (At.cast (At.fldS (At.fld0 At.here)) rfl) ag3 sz3) ?_
  refine AO.calm rfl 4 rfl (by decide) (eI64 p0.f1) (Calm.assign rfl rfl) ?_
  refine AO.nil (ρ' := [(0, (.ptr q0 0)), (4, (eI64 p0.f1))]) (H' := ((q0, .mem (e88 p0)) :: T0)) ⟨rfl, rfl, trivial⟩ (Sub.refl _) ?_
  refine AW.seq_mid (fun ρ H => ∃ (x2 : Int), ρ = [(0, (.ptr q0 0)), (4, (eI64 p0.f1))] ∧ H = ((q0, .mem (.st [(1, (eStr p0.f0)), (1, (eI64 x2)), (1, (eI64 p0.f2))])) :: T0) ∧ ast_reader_number_c0 k p0 x2 = some r) ?_ ?_
  · refine AW.block ?_
    refine AW.weak (ρ' := [(0, (.ptr q0 0)), (4, (eI64 p0.f1))]) (H' := ((q0, .mem (e88 p0)) :: T0)) ⟨rfl, rfl, trivial⟩ (Sub.refl _) ?_
    refine AW.loop (fun kq ρ H => ∃ (x5 : Int), ρ = [(0, (.ptr q0 0)), (4, (eI64 p0.f1))] ∧ H = ((q0, .mem (.st [(1, (eStr p0.f0)), (1, (eI64 x5)), (1, (eI64 p0.f2))])) :: T0) ∧ ast_reader_number_l1 k p0 kq x5 = some r) k ⟨p0.f1, rfl, rfl, h⟩ ?_
    rintro kq7 _ _ ⟨x5, rfl, rfl, h⟩
    cases kq7 with
    | zero => rw [ast_reader_number_l1.eq_1] at h; cases h
    | succ kq7 =>
    rw [ast_reader_number_l1.eq_2] at h
    generalize hrec6 : ast_reader_number_l1 k p0 kq7 = rec6 at h
    refine AW.seq ?_
    refine AW.seq ?_
    obtain ⟨b8, hq9, h⟩ := of_bind h
    refine AW.regQM (by rfl) (by decide +kernel) [(0, (.ptr q0 0)), (4, (eI64 p0.f1)), (54, (eBool b8))] ?_ ?_
    · refine AQ.calm rfl 9 rfl (by decide) (.ptr q0 0) (Calm.move rfl rfl) ?_
      refine AQ.calm rfl 10 rfl (by decide) (.ptr q0 0) (Calm.nilCheck rfl rfl) ?_
      refine AQ.calm rfl 11 rfl (by decide) (.ptr q0 1) (Calm.fldPtr rfl rfl Try.underlying88 rfl sz3 _ rfl) ?_
      refine AQ.calm rfl 12 rfl (by decide) (eI64 x5) (Calm.load 0 rfl rfl rfl (At.cast (At.fldS (At.fld0 At.here)) rfl) ag3 sz3) ?_
      refine AQ.calm rfl 13 rfl (by decide) (.ptr q0 0) (Calm.move rfl rfl) ?_
      refine AQ.calm rfl 14 rfl (by decide) (.ptr q0 0) (Calm.nilCheck rfl rfl) ?_
      refine AQ.calm rfl 15 rfl (by decide) (.ptr q0 0) (Calm.fldPtr rfl rfl Try.underlying88 rfl sz9 _ rfl) ?_
      refine AQ.calm rfl 16 rfl (by decide) (eStr p0.f0) (Calm.load 0 rfl rfl rfl (At.cast (At.fld0 At.here) rfl) ag9 sz9) ?_
      refine AQ.calm rfl 17 rfl (by decide) (eI64 (p0.f0.size : Int)) (Calm.lenStr rfl rfl Try.underlying9) ?_
      refine AQ.calm rfl 18 rfl (by decide) (eBool (decide (x5 < (p0.f0.size : Int)))) (Calm.int rfl rfl rfl rfl) ?_
      refine AQ.calm rfl 19 rfl (by decide) (eBool (decide (x5 < (p0.f0.size : Int)))) (Calm.move rfl rfl) ?_
      by_cases hc10 : x5 < (p0.f0.size : Int)
      · have hq9 := (if_pos hc10).symm.trans hq9
        refine AQ.calmG 10 true 19 rfl rfl (congrArg (fun b => some (AV.fl (Value.bool b))) (decide_eq_true hc10)) 20 rfl (by decide) (.ptr q0 0) (Calm.move rfl rfl) ?_
        refine AQ.calmG 10 true 19 rfl rfl (congrArg (fun b => some (AV.fl (Value.bool b))) (decide_eq_true hc10)) 21 rfl (by decide) (.ptr q0 0) (Calm.nilCheck rfl rfl) ?_
        refine AQ.calmG 10 true 19 rfl rfl (congrArg (fun b => some (AV.fl (Value.bool b))) (decide_eq_true hc10)) 22 rfl (by decide) (.ptr q0 0) (Calm.fldPtr rfl rfl Try.underlying88 rfl sz9 _ rfl) ?_
        refine AQ.calmG 10 true 19 rfl rfl (congrArg (fun b => some (AV.fl (Value.bool b))) (decide_eq_true hc10)) 23 rfl (by decide) (eStr p0.f0) (Calm.load 0 rfl rfl rfl (At.cast (At.fld0 At.here) rfl) ag9 sz9) ?_
        refine AQ.calmG 10 true 19 rfl rfl (congrArg (fun b => some (AV.fl (Value.bool b))) (decide_eq_true hc10)) 24 rfl (by decide) (.ptr q0 0) (Calm.move rfl rfl) ?_
        refine AQ.calmG 10 true 19 rfl rfl (congrArg (fun b => some (AV.fl (Value.bool b))) (decide_eq_true hc10)) 25 rfl (by decide) (.ptr q0 0) (Calm.nilCheck rfl rfl) ?_
        refine AQ.calmG 10 true 19 rfl rfl (congrArg (fun b => some (AV.fl (Value.bool b))) (decide_eq_true hc10)) 26 rfl (by decide) (.ptr q0 1) (Calm.fldPtr rfl rfl Try.underlying88 rfl sz3 _ rfl) ?_
        refine AQ.calmG 10 true 19 rfl rfl (congrArg (fun b => some (AV.fl (Value.bool b))) (decide_eq_true hc10)) 27 rfl (by decide) (eI64 x5) (Calm.load 0 rfl rfl rfl (At.cast (At.fldS (At.fld0 At.here)) rfl) ag3 sz3) ?_
        obtain ⟨hg11, hq9⟩ := of_guard hq9
        refine AQ.calmG 10 true 19 rfl rfl (congrArg (fun b => some (AV.fl (Value.bool b))) (decide_eq_true hc10)) 28 rfl (by decide) (eU8 (byteAt p0.f0 x5)) (Calm.idxS rfl rfl rfl hg11 Try.underlying9) ?_
        refine AQ.calmG 10 true 19 rfl rfl (congrArg (fun b => some (AV.fl (Value.bool b))) (decide_eq_true hc10)) 29 rfl (by decide) (eBool (decide ((byteAt p0.f0 x5) = (45 : Int)))) (Calm.int rfl rfl rfl rfl) ?_
        refine AQ.calmG 10 true 19 rfl rfl (congrArg (fun b => some (AV.fl (Value.bool b))) (decide_eq_true hc10)) 30 rfl (by decide) (eBool (decide ((byteAt p0.f0 x5) = (45 : Int)))) (Calm.move rfl rfl) ?_
        by_cases hc12 : (byteAt p0.f0 x5) = (45 : Int)
        · have hq9 := (if_pos hc12).symm.trans hq9
          refine AQ.skipG 21 true 30 rfl rfl (congrArg (fun b => some (AV.fl (Value.bool b))) (decide_eq_true hc12)) 31 rfl (by decide) ?_
          refine AQ.skipG 21 true 30 rfl rfl (congrArg (fun b => some (AV.fl (Value.bool b))) (decide_eq_true hc12)) 32 rfl (by decide) ?_
          refine AQ.skipG 21 true 30 rfl rfl (congrArg (fun b => some (AV.fl (Value.bool b))) (decide_eq_true hc12)) 33 rfl (by decide) ?_
          refine AQ.skipG 21 true 30 rfl rfl (congrArg (fun b => some (AV.fl (Value.bool b))) (decide_eq_true hc12)) 34 rfl (by decide) ?_
          refine AQ.skipG 21 true 30 rfl rfl (congrArg (fun b => some (AV.fl (Value.bool b))) (decide_eq_true hc12)) 35 rfl (by decide) ?_
          refine AQ.skipG 21 true 30 rfl rfl (congrArg (fun b => some (AV.fl (Value.bool b))) (decide_eq_true hc12)) 36 rfl (by decide) ?_
          refine AQ.skipG 21 true 30 rfl rfl (congrArg (fun b => some (AV.fl (Value.bool b))) (decide_eq_true hc12)) 37 rfl (by decide) ?_
          refine AQ.skipG 21 true 30 rfl rfl (congrArg (fun b => some (AV.fl (Value.bool b))) (decide_eq_true hc12)) 38 rfl (by decide) ?_
          refine AQ.skipG 21 true 30 rfl rfl (congrArg (fun b => some (AV.fl (Value.bool b))) (decide_eq_true hc12)) 39 rfl (by decide) ?_
          refine AQ.skipG 21 true 30 rfl rfl (congrArg (fun b => some (AV.fl (Value.bool b))) (decide_eq_true hc12)) 40 rfl (by decide) ?_
          refine AQ.skipG 21 true 30 rfl rfl (congrArg (fun b => some (AV.fl (Value.bool b))) (decide_eq_true hc12)) 41 rfl (by decide) ?_
          refine AQ.skipU 32 true 41 rfl rfl rfl 42 rfl (by decide) ?_
          refine AQ.skipU 32 true 41 rfl rfl rfl 43 rfl (by decide) ?_
          refine AQ.skipU 32 true 41 rfl rfl rfl 44 rfl (by decide) ?_
          refine AQ.skipU 32 true 41 rfl rfl rfl 45 rfl (by decide) ?_
          refine AQ.skipU 32 true 41 rfl rfl rfl 46 rfl (by decide) ?_
          refine AQ.skipU 32 true 41 rfl rfl rfl 47 rfl (by decide) ?_
          refine AQ.skipU 32 true 41 rfl rfl rfl 48 rfl (by decide) ?_
          refine AQ.skipU 32 true 41 rfl rfl rfl 49 rfl (by decide) ?_
          refine AQ.skipU 32 true 41 rfl rfl rfl 50 rfl (by decide) ?_
          refine AQ.skipU 32 true 41 rfl rfl rfl 51 rfl (by decide) ?_
          refine AQ.skipG 21 true 30 rfl rfl (congrArg (fun b => some (AV.fl (Value.bool b))) (decide_eq_true hc12)) 52 rfl (by decide) ?_
          refine AQ.calmG 10 true 19 rfl rfl (congrArg (fun b => some (AV.fl (Value.bool b))) (decide_eq_true hc10)) 53 rfl (by decide) (eBool true) (Calm.pickT rfl (congrArg (fun b => some (AV.fl (Value.bool b))) (decide_eq_true hc12)) rfl) ?_
          refine AQ.calm rfl 54 rfl (by decide) (eBool true) (Calm.pickT rfl (congrArg (fun b => some (AV.fl (Value.bool b))) (decide_eq_true hc10)) rfl) ?_
          cases hq9
          refine AQ.nilE rfl ?_
          exact ⟨rfl, rfl, rfl, trivial⟩
        · have hq9 := (if_neg hc12).symm.trans hq9
          refine AQ.calmG 21 false 30 rfl rfl (congrArg (fun b => some (AV.fl (Value.bool b))) (decide_eq_false hc12)) 31 rfl (by decide) (.ptr q0 0) (Calm.move rfl rfl) ?_
          refine AQ.calmG 21 false 30 rfl rfl (congrArg (fun b => some (AV.fl (Value.bool b))) (decide_eq_false hc12)) 32 rfl (by decide) (.ptr q0 0) (Calm.nilCheck rfl rfl) ?_
          refine AQ.calmG 21 false 30 rfl rfl (congrArg (fun b => some (AV.fl (Value.bool b))) (decide_eq_false hc12)) 33 rfl (by decide) (.ptr q0 0) (Calm.fldPtr rfl rfl Try.underlying88 rfl sz9 _ rfl) ?_
          refine AQ.calmG 21 false 30 rfl rfl (congrArg (fun b => some (AV.fl (Value.bool b))) (decide_eq_false hc12)) 34 rfl (by decide) (eStr p0.f0) (Calm.load 0 rfl rfl rfl (At.cast (At.fld0 At.here) rfl) ag9 sz9) ?_
          refine AQ.calmG 21 false 30 rfl rfl (congrArg (fun b => some (AV.fl (Value.bool b))) (decide_eq_false hc12)) 35 rfl (by decide) (.ptr q0 0) (Calm.move rfl rfl) ?_
          refine AQ.calmG 21 false 30 rfl rfl (congrArg (fun b => some (AV.fl (Value.bool b))) (decide_eq_false hc12)) 36 rfl (by decide) (.ptr q0 0) (Calm.nilCheck rfl rfl) ?_
          refine AQ.calmG 21 false 30 rfl rfl (congrArg (fun b => some (AV.fl (Value.bool b))) (decide_eq_false hc12)) 37 rfl (by decide) (.ptr q0 1) (Calm.fldPtr rfl rfl Try.underlying88 rfl sz3 _ rfl) ?_
          refine AQ.calmG 21 false 30 rfl rfl (congrArg (fun b => some (AV.fl (Value.bool b))) (decide_eq_false hc12)) 38 rfl (by decide) (eI64 x5) (Calm.load 0 rfl rfl rfl (At.cast (At.fldS (At.fld0 At.here)) rfl) ag3 sz3) ?_
          obtain ⟨hg13, hq9⟩ := of_guard hq9
          refine AQ.calmG 21 false 30 rfl rfl (congrArg (fun b => some (AV.fl (Value.bool b))) (decide_eq_false hc12)) 39 rfl (by decide) (eU8 (byteAt p0.f0 x5)) (Calm.idxS rfl rfl rfl hg13 Try.underlying9) ?_
          refine AQ.calmG 21 false 30 rfl rfl (congrArg (fun b => some (AV.fl (Value.bool b))) (decide_eq_false hc12)) 40 rfl (by decide) (eBool (decide ((48 : Int) ≤ (byteAt p0.f0 x5)))) (Calm.int rfl rfl rfl rfl) ?_
          refine AQ.calmG 21 false 30 rfl rfl (congrArg (fun b => some (AV.fl (Value.bool b))) (decide_eq_false hc12)) 41 rfl (by decide) (eBool (decide ((48 : Int) ≤ (byteAt p0.f0 x5)))) (Calm.move rfl rfl) ?_
          by_cases hc14 : (48 : Int) ≤ (byteAt p0.f0 x5)
          · have hq9 := (if_pos hc14).symm.trans hq9
            refine AQ.calmG 32 true 41 rfl rfl (congrArg (fun b => some (AV.fl (Value.bool b))) (decide_eq_true hc14)) 42 rfl (by decide) (.ptr q0 0) (Calm.move rfl rfl) ?_
            refine AQ.calmG 32 true 41 rfl rfl (congrArg (fun b => some (AV.fl (Value.bool b))) (decide_eq_true hc14)) 43 rfl (by decide) (.ptr q0 0) (Calm.nilCheck rfl rfl) ?_
            refine AQ.calmG 32 true 41 rfl rfl (congrArg (fun b => some (AV.fl (Value.bool b))) (decide_eq_true hc14)) 44 rfl (by decide) (.ptr q0 0) (Calm.fldPtr rfl rfl Try.underlying88 rfl sz9 _ rfl) ?_
            refine AQ.calmG 32 true 41 rfl rfl (congrArg (fun b => some (AV.fl (Value.bool b))) (decide_eq_true hc14)) 45 rfl (by decide) (eStr p0.f0) (Calm.load 0 rfl rfl rfl (At.cast (At.fld0 At.here) rfl) ag9 sz9) ?_
            refine AQ.calmG 32 true 41 rfl rfl (congrArg (fun b => some (AV.fl (Value.bool b))) (decide_eq_true hc14)) 46 rfl (by decide) (.ptr q0 0) (Calm.move rfl rfl) ?_
            refine AQ.calmG 32 true 41 rfl rfl (congrArg (fun b => some (AV.fl (Value.bool b))) (decide_eq_true hc14)) 47 rfl (by decide) (.ptr q0 0) (Calm.nilCheck rfl rfl) ?_
            refine AQ.calmG 32 true 41 rfl rfl (congrArg (fun b => some (AV.fl (Value.bool b))) (decide_eq_true hc14)) 48 rfl (by decide) (.ptr q0 1) (Calm.fldPtr rfl rfl Try.underlying88 rfl sz3 _ rfl) ?_
            refine AQ.calmG 32 true 41 rfl rfl (congrArg (fun b => some (AV.fl (Value.bool b))) (decide_eq_true hc14)) 49 rfl (by decide) (eI64 x5) (Calm.load 0 rfl rfl rfl (At.cast (At.fldS (At.fld0 At.here)) rfl) ag3 sz3) ?_
            obtain ⟨hg15, hq9⟩ := of_guard hq9
            refine AQ.calmG 32 true 41 rfl rfl (congrArg (fun b => some (AV.fl (Value.bool b))) (decide_eq_true hc14)) 50 rfl (by decide) (eU8 (byteAt p0.f0 x5)) (Calm.idxS rfl rfl rfl hg15 Try.underlying9) ?_
            refine AQ.calmG 32 true 41 rfl rfl (congrArg (fun b => some (AV.fl (Value.bool b))) (decide_eq_true hc14)) 51 rfl (by decide) (eBool (decide ((byteAt p0.f0 x5) ≤ (57 : Int)))) (Calm.int rfl rfl rfl rfl) ?_
            refine AQ.calmG 21 false 30 rfl rfl (congrArg (fun b => some (AV.fl (Value.bool b))) (decide_eq_false hc12)) 52 rfl (by decide) (eBool (decide ((byteAt p0.f0 x5) ≤ (57 : Int)))) (Calm.pickT rfl (congrArg (fun b => some (AV.fl (Value.bool b))) (decide_eq_true hc14)) rfl) ?_
            refine AQ.calmG 10 true 19 rfl rfl (congrArg (fun b => some (AV.fl (Value.bool b))) (decide_eq_true hc10)) 53 rfl (by decide) (eBool (decide ((byteAt p0.f0 x5) ≤ (57 : Int)))) (Calm.pickF rfl (congrArg (fun b => some (AV.fl (Value.bool b))) (decide_eq_false hc12)) rfl) ?_
            refine AQ.calm rfl 54 rfl (by decide) (eBool (decide ((byteAt p0.f0 x5) ≤ (57 : Int)))) (Calm.pickT rfl (congrArg (fun b => some (AV.fl (Value.bool b))) (decide_eq_true hc10)) rfl) ?_
            cases hq9
            refine AQ.nilE rfl ?_
            exact ⟨rfl, rfl, rfl, trivial⟩
          · have hq9 := (if_neg hc14).symm.trans hq9
            refine AQ.skipG 32 false 41 rfl rfl (congrArg (fun b => some (AV.fl (Value.bool b))) (decide_eq_false hc14)) 42 rfl (by decide) ?_
            refine AQ.skipG 32 false 41 rfl rfl (congrArg (fun b => some (AV.fl (Value.bool b))) (decide_eq_false hc14)) 43 rfl (by decide) ?_
            refine AQ.skipG 32 false 41 rfl rfl (congrArg (fun b => some (AV.fl (Value.bool b))) (decide_eq_false hc14)) 44 rfl (by decide) ?_
            refine AQ.skipG 32 false 41 rfl rfl (congrArg (fun b => some (AV.fl (Value.bool b))) (decide_eq_false hc14)) 45 rfl (by decide) ?_
            refine AQ.skipG 32 false 41 rfl rfl (congrArg (fun b => some (AV.fl (Value.bool b))) (decide_eq_false hc14)) 46 rfl (by decide) ?_
            refine AQ.skipG 32 false 41 rfl rfl (congrArg (fun b => some (AV.fl (Value.bool b))) (decide_eq_false hc14)) 47 rfl (by decide) ?_
            refine AQ.skipG 32 false 41 rfl rfl (congrArg (fun b => some (AV.fl (Value.bool b))) (decide_eq_false hc14)) 48 rfl (by decide) ?_
            refine AQ.skipG 32 false 41 rfl rfl (congrArg (fun b => some (AV.fl (Value.bool b))) (decide_eq_false hc14)) 49 rfl (by decide) ?_
            refine AQ.skipG 32 false 41 rfl rfl (congrArg (fun b => some (AV.fl (Value.bool b))) (decide_eq_false hc14)) 50 rfl (by decide) ?_
            refine AQ.skipG 32 false 41 rfl rfl (congrArg (fun b => some (AV.fl (Value.bool b))) (decide_eq_false hc14)) 51 rfl (by decide) ?_
            refine AQ.calmG 21 false 30 rfl rfl (congrArg (fun b => some (AV.fl (Value.bool b))) (decide_eq_false hc12)) 52 rfl (by decide) (eBool false) (Calm.pickF rfl (congrArg (fun b => some (AV.fl (Value.bool b))) (decide_eq_false hc14)) rfl) ?_
            refine AQ.calmG 10 true 19 rfl rfl (congrArg (fun b => some (AV.fl (Value.bool b))) (decide_eq_true hc10)) 53 rfl (by decide) (eBool false) (Calm.pickF rfl (congrArg (fun b => some (AV.fl (Value.bool b))) (decide_eq_false hc12)) rfl) ?_
            refine AQ.calm rfl 54 rfl (by decide) (eBool false) (Calm.pickT rfl (congrArg (fun b => some (AV.fl (Value.bool b))) (decide_eq_true hc10)) rfl) ?_
            cases hq9
            refine AQ.nilE rfl ?_
            exact ⟨rfl, rfl, rfl, trivial⟩
      · have hq9 := (if_neg hc10).symm.trans hq9
        refine AQ.skipG 10 false 19 rfl rfl (congrArg (fun b => some (AV.fl (Value.bool b))) (decide_eq_false hc10)) 20 rfl (by decide) ?_
        refine AQ.skipG 10 false 19 rfl rfl (congrArg (fun b => some (AV.fl (Value.bool b))) (decide_eq_false hc10)) 21 rfl (by decide) ?_
        refine AQ.skipG 10 false 19 rfl rfl (congrArg (fun b => some (AV.fl (Value.bool b))) (decide_eq_false hc10)) 22 rfl (by decide) ?_
        refine AQ.skipG 10 false 19 rfl rfl (congrArg (fun b => some (AV.fl (Value.bool b))) (decide_eq_false hc10)) 23 rfl (by decide) ?_
        refine AQ.skipG 10 false 19 rfl rfl (congrArg (fun b => some (AV.fl (Value.bool b))) (decide_eq_false hc10)) 24 rfl (by decide) ?_
        refine AQ.skipG 10 false 19 rfl rfl (congrArg (fun b => some (AV.fl (Value.bool b))) (decide_eq_false hc10)) 25 rfl (by decide) ?_
        refine AQ.skipG 10 false 19 rfl rfl (congrArg (fun b => some (AV.fl (Value.bool b))) (decide_eq_false hc10)) 26 rfl (by decide) ?_
        refine AQ.skipG 10 false 19 rfl rfl (congrArg (fun b => some (AV.fl (Value.bool b))) (decide_eq_false hc10)) 27 rfl (by decide) ?_
        refine AQ.skipG 10 false 19 rfl rfl (congrArg (fun b => some (AV.fl (Value.bool b))) (decide_eq_false hc10)) 28 rfl (by decide) ?_
        refine AQ.skipG 10 false 19 rfl rfl (congrArg (fun b => some (AV.fl (Value.bool b))) (decide_eq_false hc10)) 29 rfl (by decide) ?_
        refine AQ.skipG 10 false 19 rfl rfl (congrArg (fun b => some (AV.fl (Value.bool b))) (decide_eq_false hc10)) 30 rfl (by decide) ?_
        refine AQ.skipU 21 false 30 rfl rfl rfl 31 rfl (by decide) ?_
        refine AQ.skipU 21 false 30 rfl rfl rfl 32 rfl (by decide) ?_
        refine AQ.skipU 21 false 30 rfl rfl rfl 33 rfl (by decide) ?_
        refine AQ.skipU 21 false 30 rfl rfl rfl 34 rfl (by decide) ?_
        refine AQ.skipU 21 false 30 rfl rfl rfl 35 rfl (by decide) ?_
        refine AQ.skipU 21 false 30 rfl rfl rfl 36 rfl (by decide) ?_
        refine AQ.skipU 21 false 30 rfl rfl rfl 37 rfl (by decide) ?_
        refine AQ.skipU 21 false 30 rfl rfl rfl 38 rfl (by decide) ?_
        refine AQ.skipU 21 false 30 rfl rfl rfl 39 rfl (by decide) ?_
        refine AQ.skipU 21 false 30 rfl rfl rfl 40 rfl (by decide) ?_
        refine AQ.skipU 21 false 30 rfl rfl rfl 41 rfl (by decide) ?_
        refine AQ.skipU 32 true 41 rfl rfl rfl 42 rfl (by decide) ?_
        refine AQ.skipU 32 true 41 rfl rfl rfl 43 rfl (by decide) ?_
        refine AQ.skipU 32 true 41 rfl rfl rfl 44 rfl (by decide) ?_
        refine AQ.skipU 32 true 41 rfl rfl rfl 45 rfl (by decide) ?_
        refine AQ.skipU 32 true 41 rfl rfl rfl 46 rfl (by decide) ?_
        refine AQ.skipU 32 true 41 rfl rfl rfl 47 rfl (by decide) ?_
        refine AQ.skipU 32 true 41 rfl rfl rfl 48 rfl (by decide) ?_
        refine AQ.skipU 32 true 41 rfl rfl rfl 49 rfl (by decide) ?_
        refine AQ.skipU 32 true 41 rfl rfl rfl 50 rfl (by decide) ?_
        refine AQ.skipU 32 true 41 rfl rfl rfl 51 rfl (by decide) ?_
        refine AQ.skipU 21 false 30 rfl rfl rfl 52 rfl (by decide) ?_
        refine AQ.skipG 10 false 19 rfl rfl (congrArg (fun b => some (AV.fl (Value.bool b))) (decide_eq_false hc10)) 53 rfl (by decide) ?_
        refine AQ.calm rfl 54 rfl (by decide) (eBool false) (Calm.pickF rfl (congrArg (fun b => some (AV.fl (Value.bool b))) (decide_eq_false hc10)) rfl) ?_
        cases hq9
        refine AQ.nilE rfl ?_
        exact ⟨rfl, rfl, rfl, trivial⟩
    · by_cases hc16 : b8 = true
      · have h := (if_pos hc16).symm.trans h
        refine AW.condT' b8 rfl hc16 ?_
        refine AW.skip (ρ' := [(0, (.ptr q0 0)), (4, (eI64 p0.f1))]) (H' := ((q0, .mem (.st [(1, (eStr p0.f0)), (1, (eI64 x5)), (1, (eI64 p0.f2))])) :: T0)) ⟨rfl, rfl, trivial⟩ (Sub.refl _) ?_
        refine AW.block ?_
        refine AW.reg ?_
        refine AO.calm rfl 55 rfl (by decide) (.ptr q0 0) (Calm.move rfl rfl) ?_
        refine AO.calm rfl 56 rfl (by decide) (.ptr q0 0) (Calm.nilCheck rfl rfl) ?_
        refine AO.calm rfl 57 rfl (by decide) (.ptr q0 1) (Calm.fldPtr rfl rfl Try.underlying88 rfl sz3 _ rfl) ?_
        refine AO.calm rfl 58 rfl (by decide) (eI64 x5) (Calm.load 0 rfl rfl rfl (At.cast (At.fldS (At.fld0 At.here)) rfl) ag3 sz3) ?_
        refine AO.calm rfl 59 rfl (by decide) (eI64 (w64 (x5 + (1 : Int)))) (Calm.int rfl rfl rfl rfl) ?_
        refine AO.calm rfl 60 rfl (by decide) (.ptr q0 0) (Calm.nilCheck rfl rfl) ?_
        refine AO.calm rfl 61 rfl (by decide) (.ptr q0 1) (Calm.fldPtr rfl rfl Try.underlying88 rfl sz3 _ rfl) ?_
        refine AO.store (X' := (.st [(1, (eStr p0.f0)), (1, (eI64 (w64 (x5 + (1 : Int))))), (1, (eI64 p0.f2))])) 0 rfl rfl rfl rfl rfl rfl (Put.cast (Put.fldS (Put.fld0 Put.here)) rfl) rfl rfl sz3 rfl ?_
        refine AO.nil (ρ' := [(0, (.ptr q0 0)), (4, (eI64 p0.f1))]) (H' := ((q0, .mem (.st [(1, (eStr p0.f0)), (1, (eI64 (w64 (x5 + (1 : Int))))), (1, (eI64 p0.f2))])) :: T0)) ⟨rfl, rfl, trivial⟩ (Sub.refl _) ?_
        exact ⟨kq7, Nat.lt_succ_self _, (w64 (x5 + (1 : Int))), rfl, rfl, by rw [hrec6]; exact h⟩
      · have h := (if_neg hc16).symm.trans h
        refine AW.condF' b8 rfl hc16 ?_
        refine AW.exit (ρ' := [(0, (.ptr q0 0)), (4, (eI64 p0.f1))]) (H' := ((q0, .mem (.st [(1, (eStr p0.f0)), (1, (eI64 x5)), (1, (eI64 p0.f2))])) :: T0)) ⟨rfl, rfl, trivial⟩ (Sub.refl _) ?_
        exact ⟨x5, rfl, rfl, h⟩
  · rintro _ _ ⟨x2, rfl, rfl, h⟩
    rw [ast_reader_number_c0.eq_1] at h
    refine AW.seq ?_
    refine AW.regQ (by rfl) (by decide +kernel) ?_
    refine AQ.calm rfl 62 rfl (by decide) (.ptr q0 0) (Calm.move rfl rfl) ?_
    refine AQ.calm rfl 63 rfl (by decide) (.ptr q0 0) (Calm.nilCheck rfl rfl) ?_
    refine AQ.calm rfl 64 rfl (by decide) (.ptr q0 0) (Calm.fldPtr rfl rfl Try.underlying88 rfl sz9 _ rfl) ?_
    refine AQ.calm rfl 65 rfl (by decide) (eStr p0.f0) (Calm.load 0 rfl rfl rfl (At.cast (At.fld0 At.here) rfl) ag9 sz9) ?_
    refine AQ.calm rfl 66 rfl (by decide) (eI64 p0.f1) (Calm.move rfl rfl) ?_
    refine AQ.calm rfl 67 rfl (by decide) (.ptr q0 0) (Calm.move rfl rfl) ?_
    refine AQ.calm rfl 68 rfl (by decide) (.ptr q0 0) (Calm.nilCheck rfl rfl) ?_
    refine AQ.calm rfl 69 rfl (by decide) (.ptr q0 1) (Calm.fldPtr rfl rfl Try.underlying88 rfl sz3 _ rfl) ?_
    refine AQ.calm rfl 70 rfl (by decide) (eI64 x2) (Calm.load 0 rfl rfl rfl (At.cast (At.fldS (At.fld0 At.here)) rfl) ag3 sz3) ?_
    obtain ⟨hg3, h⟩ := of_guard h
    refine AQ.calm rfl 71 rfl (by decide) (eStr (p0.f0.extract p0.f1.toNat x2.toNat)) (Calm.sliceS rfl rfl rfl rfl hg3 Try.underlying9) ?_
    obtain ⟨t4, et4, h⟩ := of_bind h
    refine AQ.calm rfl 72 rfl (by decide) (.tup [(eI64 t4.1), (eBool t4.2)]) (Calm.call (args := [(eStr (p0.f0.extract p0.f1.toNat x2.toNat))]) rfl rfl ok16 ⟨rfl, rfl, trivial⟩ rfl (spot_Number_spec et4)) ?_
    refine AQ.calm rfl 73 rfl (by decide) (eI64 t4.1) (Calm.extract rfl rfl rfl) ?_
    refine AQ.calm rfl 74 rfl (by decide) (eBool t4.2) (Calm.extract rfl rfl rfl) ?_
    refine AQ.calm rfl 2 rfl (by decide) (eI64 t4.1) (Calm.assign rfl rfl) ?_
    refine AQ.calm rfl 3 rfl (by decide) (eBool t4.2) (Calm.assign rfl rfl) ?_
    refine AQ.nil (ρ' := [(2, (eI64 t4.1)), (3, (eBool t4.2))]) ⟨rfl, rfl, trivial⟩ ?_
    refine AW.ret (ρ' := [(2, (eI64 t4.1)), (3, (eBool t4.2))]) (H' := ((q0, .mem (.st [(1, (eStr p0.f0)), (1, (eI64 x2)), (1, (eI64 p0.f2))])) :: T0)) ⟨rfl, rfl, trivial⟩ (Sub.refl _) ?_
    have hr := Option.some.inj h
    subst hr
    exact ⟨[(eI64 t4.1), (eBool t4.2)], ⟨rfl, rfl, rfl, rfl, trivial⟩, rfl, (Sub.cons 0 rfl (Sub.refl _))⟩
end Go.Avl.T2
/- bosket/escape.value; printed by avmain.py. -/
namespace Go.Avl.T2
open Go Go.RowKit Go.Proofs Go.Avl
set_option linter.unusedVariables false
set_option maxRecDepth 100000
set_option maxHeartbeats 4000000
attribute [local irreducible] AW AO AQ Spec SpecH Calm

def escape_value (k : Nat) (p0 : Int) : Option Int :=
  Option.bind (α := Bool) (if (48 : Int) ≤ p0 then some (decide (p0 ≤ (57 : Int)))
  else some (false)) fun b2 =>
  if b2 = true then some ((w64 (w8 (p0 - (48 : Int)))))
  else Option.bind (α := Bool) (if (97 : Int) ≤ p0 then some (decide (p0 ≤ (102 : Int)))
  else some (false)) fun b6 =>
  if b6 = true then some ((w64 ((w64 (w8 (p0 - (97 : Int)))) + (10 : Int))))
  else some ((-1 : Int))
theorem escape_value_spec {k : Nat} {p0 : Int} {r : Int} (h : escape_value k p0 = some r) : Spec Try.prog 98 [(eU8 p0)] (eI64 r) := by
  rw [escape_value.eq_1] at h
  refine Spec.intro (res := [.tmp 2]) Try.func98 rfl rfl rfl (Nat.le_of_ble_eq_true rfl) ?_
  refine AW.seq ?_
  refine AW.reg ?_
  refine AO.calm rfl 2 rfl (by decide) (eI64 (0 : Int)) (Calm.assign rfl rfl) ?_
  refine AO.nil (ρ' := [(0, (eU8 p0))]) (H' := []) ⟨rfl, trivial⟩ (Sub.refl _) ?_
  refine AW.seq ?_
  refine AW.block ?_
  refine AW.seq ?_
  obtain ⟨b2, hq3, h⟩ := of_bind h
  refine AW.regM [(0, (eU8 p0)), (3, (eBool b2))] [] ?_ ?_
  · refine AO.calm rfl 4 rfl (by decide) (eU8 p0) (Calm.move rfl rfl) ?_
    refine AO.calm rfl 5 rfl (by decide) (eBool (decide ((48 : Int) ≤ p0))) (Calm.int rfl rfl rfl rfl) ?_
    refine AO.calm rfl 6 rfl (by decide) (eBool (decide ((48 : Int) ≤ p0))) (Calm.move rfl rfl) ?_
    by_cases hc4 : (48 : Int) ≤ p0
    · have hq3 := (if_pos hc4).symm.trans hq3
      refine AO.calmG 2 true 6 rfl rfl (congrArg (fun b => some (AV.fl (Value.bool b))) (decide_eq_true hc4)) 7 rfl (by decide) (eU8 p0) (Calm.move rfl rfl) ?_
      refine AO.calmG 2 true 6 rfl rfl (congrArg (fun b => some (AV.fl (Value.bool b))) (decide_eq_true hc4)) 8 rfl (by decide) (eBool (decide (p0 ≤ (57 : Int)))) (Calm.int rfl rfl rfl rfl) ?_
      refine AO.calm rfl 9 rfl (by decide) (eBool (decide (p0 ≤ (57 : Int)))) (Calm.pickT rfl (congrArg (fun b => some (AV.fl (Value.bool b))) (decide_eq_true hc4)) rfl) ?_
      refine AO.calm rfl 3 rfl (by decide) (eBool (decide (p0 ≤ (57 : Int)))) (Calm.assign rfl rfl) ?_
      cases hq3
      refine AO.nilE ⟨rfl, rfl⟩ ?_ ?_
      · exact ⟨rfl, rfl, trivial⟩
      · exact (Sub.refl _)
    · have hq3 := (if_neg hc4).symm.trans hq3
      refine AO.skipG 2 false 6 rfl rfl (congrArg (fun b => some (AV.fl (Value.bool b))) (decide_eq_false hc4)) 7 rfl (by decide) ?_
      refine AO.skipG 2 false 6 rfl rfl (congrArg (fun b => some (AV.fl (Value.bool b))) (decide_eq_false hc4)) 8 rfl (by decide) ?_
      refine AO.calm rfl 9 rfl (by decide) (eBool false) (Calm.pickF rfl (congrArg (fun b => some (AV.fl (Value.bool b))) (decide_eq_false hc4)) rfl) ?_
      refine AO.calm rfl 3 rfl (by decide) (eBool false) (Calm.assign rfl rfl) ?_
      cases hq3
      refine AO.nilE ⟨rfl, rfl⟩ ?_ ?_
      · exact ⟨rfl, rfl, trivial⟩
      · exact (Sub.refl _)
  · by_cases hc5 : b2 = true
    · have h := (if_pos hc5).symm.trans h
      refine AW.condT' b2 rfl hc5 ?_
      refine AW.seq ?_
      refine AW.reg ?_
      refine AO.calm rfl 10 rfl (by decide) (eU8 p0) (Calm.move rfl rfl) ?_
      refine AO.calm rfl 11 rfl (by decide) (eU8 (w8 (p0 - (48 : Int)))) (Calm.int rfl rfl rfl rfl) ?_
      refine AO.calm rfl 12 rfl (by decide) (eI64 (w64 (w8 (p0 - (48 : Int))))) (Calm.conv rfl rfl Try.underlying5 Try.underlying3) ?_
      refine AO.calm rfl 2 rfl (by decide) (eI64 (w64 (w8 (p0 - (48 : Int))))) (Calm.assign rfl rfl) ?_
      refine AO.nil (ρ' := [(2, (eI64 (w64 (w8 (p0 - (48 : Int))))))]) (H' := []) ⟨rfl, trivial⟩ (Sub.refl _) ?_
      refine AW.ret (ρ' := [(2, (eI64 (w64 (w8 (p0 - (48 : Int))))))]) (H' := []) ⟨rfl, trivial⟩ (Sub.refl _) ?_
      have hr := Option.some.inj h
      subst hr
      exact ⟨[(eI64 (w64 (w8 (p0 - (48 : Int)))))], ⟨rfl, rfl, trivial⟩, rfl⟩
    · have h := (if_neg hc5).symm.trans h
      refine AW.condF' b2 rfl hc5 ?_
      refine AW.seq ?_
      obtain ⟨b6, hq7, h⟩ := of_bind h
      refine AW.regM [(0, (eU8 p0)), (13, (eBool b6))] [] ?_ ?_
      · refine AO.calm rfl 14 rfl (by decide) (eU8 p0) (Calm.move rfl rfl) ?_
        refine AO.calm rfl 15 rfl (by decide) (eBool (decide ((97 : Int) ≤ p0))) (Calm.int rfl rfl rfl rfl) ?_
        refine AO.calm rfl 16 rfl (by decide) (eBool (decide ((97 : Int) ≤ p0))) (Calm.move rfl rfl) ?_
        by_cases hc8 : (97 : Int) ≤ p0
        · have hq7 := (if_pos hc8).symm.trans hq7
          refine AO.calmG 2 true 16 rfl rfl (congrArg (fun b => some (AV.fl (Value.bool b))) (decide_eq_true hc8)) 17 rfl (by decide) (eU8 p0) (Calm.move rfl rfl) ?_
          refine AO.calmG 2 true 16 rfl rfl (congrArg (fun b => some (AV.fl (Value.bool b))) (decide_eq_true hc8)) 18 rfl (by decide) (eBool (decide (p0 ≤ (102 : Int)))) (Calm.int rfl rfl rfl rfl) ?_
          refine AO.calm rfl 19 rfl (by decide) (eBool (decide (p0 ≤ (102 : Int)))) (Calm.pickT rfl (congrArg (fun b => some (AV.fl (Value.bool b))) (decide_eq_true hc8)) rfl) ?_
          refine AO.calm rfl 13 rfl (by decide) (eBool (decide (p0 ≤ (102 : Int)))) (Calm.assign rfl rfl) ?_
          cases hq7
          refine AO.nilE ⟨rfl, rfl⟩ ?_ ?_
          · exact ⟨rfl, rfl, trivial⟩
          · exact (Sub.refl _)
        · have hq7 := (if_neg hc8).symm.trans hq7
          refine AO.skipG 2 false 16 rfl rfl (congrArg (fun b => some (AV.fl (Value.bool b))) (decide_eq_false hc8)) 17 rfl (by decide) ?_
          refine AO.skipG 2 false 16 rfl rfl (congrArg (fun b => some (AV.fl (Value.bool b))) (decide_eq_false hc8)) 18 rfl (by decide) ?_
          refine AO.calm rfl 19 rfl (by decide) (eBool false) (Calm.pickF rfl (congrArg (fun b => some (AV.fl (Value.bool b))) (decide_eq_false hc8)) rfl) ?_
          refine AO.calm rfl 13 rfl (by decide) (eBool false) (Calm.assign rfl rfl) ?_
          cases hq7
          refine AO.nilE ⟨rfl, rfl⟩ ?_ ?_
          · exact ⟨rfl, rfl, trivial⟩
          · exact (Sub.refl _)
      · by_cases hc9 : b6 = true
        · have h := (if_pos hc9).symm.trans h
          refine AW.condT' b6 rfl hc9 ?_
          refine AW.seq ?_
          refine AW.reg ?_
          refine AO.calm rfl 20 rfl (by decide) (eU8 p0) (Calm.move rfl rfl) ?_
          refine AO.calm rfl 21 rfl (by decide) (eU8 (w8 (p0 - (97 : Int)))) (Calm.int rfl rfl rfl rfl) ?_
          refine AO.calm rfl 22 rfl (by decide) (eI64 (w64 (w8 (p0 - (97 : Int))))) (Calm.conv rfl rfl Try.underlying5 Try.underlying3) ?_
          refine AO.calm rfl 23 rfl (by decide) (eI64 (w64 ((w64 (w8 (p0 - (97 : Int)))) + (10 : Int)))) (Calm.int rfl rfl rfl rfl) ?_
          refine AO.calm rfl 2 rfl (by decide) (eI64 (w64 ((w64 (w8 (p0 - (97 : Int)))) + (10 : Int)))) (Calm.assign rfl rfl) ?_
          refine AO.nil (ρ' := [(2, (eI64 (w64 ((w64 (w8 (p0 - (97 : Int)))) + (10 : Int)))))]) (H' := []) ⟨rfl, trivial⟩ (Sub.refl _) ?_
          refine AW.ret (ρ' := [(2, (eI64 (w64 ((w64 (w8 (p0 - (97 : Int)))) + (10 : Int)))))]) (H' := []) ⟨rfl, trivial⟩ (Sub.refl _) ?_
          have hr := Option.some.inj h
          subst hr
          exact ⟨[(eI64 (w64 ((w64 (w8 (p0 - (97 : Int)))) + (10 : Int))))], ⟨rfl, rfl, trivial⟩, rfl⟩
        · have h := (if_neg hc9).symm.trans h
          refine AW.condF' b6 rfl hc9 ?_
          refine AW.skip (ρ' := []) (H' := []) trivial (Sub.refl _) ?_
          refine AW.seq ?_
          refine AW.reg ?_
          refine AO.calm rfl 2 rfl (by decide) (eI64 (-1 : Int)) (Calm.assign rfl rfl) ?_
          refine AO.nil (ρ' := [(2, (eI64 (-1 : Int)))]) (H' := []) ⟨rfl, trivial⟩ (Sub.refl _) ?_
          refine AW.ret (ρ' := [(2, (eI64 (-1 : Int)))]) (H' := []) ⟨rfl, trivial⟩ (Sub.refl _) ?_
          have hr := Option.some.inj h
          subst hr
          exact ⟨[(eI64 (-1 : Int))], ⟨rfl, rfl, trivial⟩, rfl⟩
end Go.Avl.T2
