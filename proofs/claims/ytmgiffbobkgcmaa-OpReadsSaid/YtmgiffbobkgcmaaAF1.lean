/- Parts: T2B, T2f78, T2f101, T2f91, T2f75, T2f55, T2f76, T2f56, T2f14, T2f80, T2f59, T2f20, T2f12, T2f94, T2f79, T2f58, T2f16. -/
import Derived.Test.YtmgiffbobkgcmaaAv3
import Derived.Test.YtmgiffbobkgcmaaProg
/- Types and facts; printed by avmain.py. -/
namespace Go.Avl.T2
open Go Go.RowKit Go.Proofs Go.Avl
set_option linter.unusedVariables false
set_option maxRecDepth 100000
set_option maxHeartbeats 4000000
structure S23 where
  f0 : Int
  f1 : Int
deriving Inhabited, DecidableEq
abbrev e23 (x : S23) : AV := .st [(1, (eI64 x.f0)), (1, (eI64 x.f1))]
structure S43 where
  f0 : Bool
  f1 : Int
  f2 : Int
  f3 : ByteArray
deriving Inhabited, DecidableEq
abbrev e43 (x : S43) : AV := .st [(1, (eBool x.f0)), (1, (eI64 x.f1)), (1, (eI64 x.f2)), (1, (eStr x.f3))]
abbrev e37 (l : List S43) : AV := .fz 4 (l.map e43)
abbrev e49 (l : List (List S43)) : AV := .fz 1 (l.map e37)
structure S88 where
  f0 : ByteArray
  f1 : Int
  f2 : Int
deriving Inhabited, DecidableEq
abbrev e88 (x : S88) : AV := .st [(1, (eStr x.f0)), (1, (eI64 x.f1)), (1, (eI64 x.f2))]
abbrev e45 (l : List ByteArray) : AV := .fz 1 (l.map eStr)
structure S55 where
  f0 : Int
  f1 : Int
  f2 : ByteArray
deriving Inhabited, DecidableEq
abbrev e55 (x : S55) : AV := .st [(1, (eI64 x.f0)), (1, (eI64 x.f1)), (1, (eStr x.f2))]
structure S60 where
  f0 : Int
  f1 : Int
  f2 : ByteArray
deriving Inhabited, DecidableEq
abbrev e60 (x : S60) : AV := .st [(1, (eI64 x.f0)), (1, (eI64 x.f1)), (1, (eStr x.f2))]
theorem xok93 : ExtOK Try.prog 93 Go.Extern.BytealgIndexByte.indexByte := ⟨_, Try.func93, by kernel_rfl, by kernel_rfl, by kernel_rfl, by kernel_rfl⟩
theorem ok78 : FnOK Try.prog 78 := FnOK.mk Try.func78 rfl rfl
theorem ok91 : FnOK Try.prog 91 := FnOK.mk Try.func91 rfl rfl
theorem xok74 : ExtOK Try.prog 74 Go.Extern.BytealgCount.count := ⟨_, Try.func74, by kernel_rfl, by kernel_rfl, by kernel_rfl, by kernel_rfl⟩
theorem ok75 : FnOK Try.prog 75 := FnOK.mk Try.func75 rfl rfl
theorem ok76 : FnOK Try.prog 76 := FnOK.mk Try.func76 rfl rfl
theorem zr23 : tyZero Try.prog 23 = some (([.int .i64 0] ++ ([.int .i64 0] ++ []))) := by rfl
theorem lay23 : ∀ g, Sim g (.st [(1, (eI64 (0 : Int))), (1, (eI64 (0 : Int)))]) (([.int .i64 0] ++ ([.int .i64 0] ++ []))) := fun g => (Sim.stCons (lay_fl rfl) rfl (Sim.stCons (lay_fl rfl) rfl Sim.stNil))
theorem ok55 : FnOK Try.prog 55 := FnOK.mk Try.func55 rfl rfl
theorem ok56 : FnOK Try.prog 56 := FnOK.mk Try.func56 rfl rfl
theorem sz23 : tySize Try.prog 23 = some 2 := by rfl
theorem ag23 : tyAgg Try.prog 23 = some true := by rfl
theorem sz5 : tySize Try.prog 5 = some 1 := by rfl
theorem zr5 : tyZero Try.prog 5 = some ([.int .u8 0]) := by rfl
theorem lay5 : ∀ g, Sim g (eU8 (0 : Int)) ([.int .u8 0]) := fun g => (lay_fl rfl)
theorem ok80 : FnOK Try.prog 80 := FnOK.mk Try.func80 rfl rfl
theorem sz3 : tySize Try.prog 3 = some 1 := by rfl
theorem ag3 : tyAgg Try.prog 3 = some false := by rfl
theorem ok59 : FnOK Try.prog 59 := FnOK.mk Try.func59 rfl rfl
theorem ok14 : FnOK Try.prog 14 := FnOK.mk Try.func14 rfl rfl
theorem ok20 : FnOK Try.prog 20 := FnOK.mk Try.func20 rfl rfl
theorem ok57 : FnOK Try.prog 57 := FnOK.mk Try.func57 rfl rfl
theorem ok12 : FnOK Try.prog 12 := FnOK.mk Try.func12 rfl rfl
theorem ok13 : FnOK Try.prog 13 := FnOK.mk Try.func13 rfl rfl
theorem ok15 : FnOK Try.prog 15 := FnOK.mk Try.func15 rfl rfl
theorem ok94 : FnOK Try.prog 94 := FnOK.mk Try.func94 rfl rfl
theorem ok79 : FnOK Try.prog 79 := FnOK.mk Try.func79 rfl rfl
theorem ok58 : FnOK Try.prog 58 := FnOK.mk Try.func58 rfl rfl
theorem ok19 : FnOK Try.prog 19 := FnOK.mk Try.func19 rfl rfl
theorem ok16 : FnOK Try.prog 16 := FnOK.mk Try.func16 rfl rfl
theorem ok17 : FnOK Try.prog 17 := FnOK.mk Try.func17 rfl rfl
theorem ok18 : FnOK Try.prog 18 := FnOK.mk Try.func18 rfl rfl
theorem sz37 : tySize Try.prog 37 = some 1 := by rfl
theorem ag37 : tyAgg Try.prog 37 = some false := by rfl
theorem ag43 : tyAgg Try.prog 43 = some true := by rfl
theorem sz43 : tySize Try.prog 43 = some 4 := by rfl
theorem zr43 : tyZero Try.prog 43 = some (([.bool false] ++ ([.int .i64 0] ++ ([.int .i64 0] ++ ([.string ByteArray.empty] ++ []))))) := by rfl
theorem lay43 : ∀ g, Sim g (.st [(1, (eBool false)), (1, (eI64 (0 : Int))), (1, (eI64 (0 : Int))), (1, (eStr ByteArray.empty))]) (([.bool false] ++ ([.int .i64 0] ++ ([.int .i64 0] ++ ([.string ByteArray.empty] ++ []))))) := fun g => (Sim.stCons (lay_fl rfl) rfl (Sim.stCons (lay_fl rfl) rfl (Sim.stCons (lay_fl rfl) rfl (Sim.stCons (lay_fl rfl) rfl Sim.stNil))))
theorem ok98 : FnOK Try.prog 98 := FnOK.mk Try.func98 rfl rfl
theorem ok87 : FnOK Try.prog 87 := FnOK.mk Try.func87 rfl rfl
theorem by5 : tyBytes Try.prog 5 = some 1 := by rfl
theorem sz4 : tySize Try.prog 4 = some 1 := by rfl
theorem ag4 : tyAgg Try.prog 4 = some false := by rfl
theorem ok31 : FnOK Try.prog 31 := FnOK.mk Try.func31 rfl rfl
theorem ok95 : FnOK Try.prog 95 := FnOK.mk Try.func95 rfl rfl
theorem ok96 : FnOK Try.prog 96 := FnOK.mk Try.func96 rfl rfl
theorem ok81 : FnOK Try.prog 81 := FnOK.mk Try.func81 rfl rfl
theorem ok30 : FnOK Try.prog 30 := FnOK.mk Try.func30 rfl rfl
theorem sz9 : tySize Try.prog 9 = some 1 := by rfl
theorem ag9 : tyAgg Try.prog 9 = some false := by rfl
theorem ok60 : FnOK Try.prog 60 := FnOK.mk Try.func60 rfl rfl
theorem ok33 : FnOK Try.prog 33 := FnOK.mk Try.func33 rfl rfl
theorem ok23 : FnOK Try.prog 23 := FnOK.mk Try.func23 rfl rfl
theorem zr88 : tyZero Try.prog 88 = some (([.string ByteArray.empty] ++ ([.int .i64 0] ++ ([.int .i64 0] ++ [])))) := by rfl
theorem lay88 : ∀ g, Sim g (.st [(1, (eStr ByteArray.empty)), (1, (eI64 (0 : Int))), (1, (eI64 (0 : Int)))]) (([.string ByteArray.empty] ++ ([.int .i64 0] ++ ([.int .i64 0] ++ [])))) := fun g => (Sim.stCons (lay_fl rfl) rfl (Sim.stCons (lay_fl rfl) rfl (Sim.stCons (lay_fl rfl) rfl Sim.stNil)))
theorem ok32 : FnOK Try.prog 32 := FnOK.mk Try.func32 rfl rfl
theorem ok97 : FnOK Try.prog 97 := FnOK.mk Try.func97 rfl rfl
theorem ok82 : FnOK Try.prog 82 := FnOK.mk Try.func82 rfl rfl
theorem zr37 : tyZero Try.prog 37 = some ([.slice none 0 0]) := by rfl
theorem lay37 : ∀ g, Sim g (.fl (.slice none 0 0)) ([.slice none 0 0]) := fun g => (lay_fl rfl)
theorem by37 : tyBytes Try.prog 37 = some 24 := by rfl
theorem ok61 : FnOK Try.prog 61 := FnOK.mk Try.func61 rfl rfl
theorem ok35 : FnOK Try.prog 35 := FnOK.mk Try.func35 rfl rfl
theorem ok25 : FnOK Try.prog 25 := FnOK.mk Try.func25 rfl rfl
theorem eqk43 (x y : S43) : EqOK Try.prog 2 43 (e43 x) (e43 y) (decide (x = y)) := (EqOK.struct (bs := [decide (x.f0 = y.f0), decide (x.f1 = y.f1), decide (x.f2 = y.f2), decide (x.f3 = y.f3)]) Try.underlying43 (by decide +kernel) ⟨⟨rfl, (eBool x.f0), (eBool y.f0), (At.cast (At.fld0 At.here) rfl), (At.cast (At.fld0 At.here) rfl), ag4, ag4, sz4, sz4, (EqOK.bool Try.underlying4)⟩, ⟨rfl, (eI64 x.f1), (eI64 y.f1), (At.cast (At.fldS (At.fld0 At.here)) rfl), (At.cast (At.fldS (At.fld0 At.here)) rfl), ag3, ag3, sz3, sz3, (EqOK.int Try.underlying3)⟩, ⟨rfl, (eI64 x.f2), (eI64 y.f2), (At.cast (At.fldS (At.fldS (At.fld0 At.here))) rfl), (At.cast (At.fldS (At.fldS (At.fld0 At.here))) rfl), ag3, ag3, sz3, sz3, (EqOK.int Try.underlying3)⟩, ⟨rfl, (eStr x.f3), (eStr y.f3), (At.cast (At.fldS (At.fldS (At.fldS (At.fld0 At.here)))) rfl), (At.cast (At.fldS (At.fldS (At.fldS (At.fld0 At.here)))) rfl), ag9, ag9, sz9, sz9, (EqOK.str Try.underlying9)⟩, trivial⟩).of (by cases x; cases y; simp)
theorem eg43 : Try.prog.eqGuardType Try.prog.depth 43 = false := by decide +kernel
theorem ok99 : FnOK Try.prog 99 := FnOK.mk Try.func99 rfl rfl
theorem ok89 : FnOK Try.prog 89 := FnOK.mk Try.func89 rfl rfl
theorem ok70 : FnOK Try.prog 70 := FnOK.mk Try.func70 rfl rfl
theorem ok63 : FnOK Try.prog 63 := FnOK.mk Try.func63 rfl rfl
theorem by43 : tyBytes Try.prog 43 = some 40 := by rfl
theorem ok24 : FnOK Try.prog 24 := FnOK.mk Try.func24 rfl rfl
theorem zr9 : tyZero Try.prog 9 = some ([.string ByteArray.empty]) := by rfl
theorem lay9 : ∀ g, Sim g (eStr ByteArray.empty) ([.string ByteArray.empty]) := fun g => (lay_fl rfl)
theorem by9 : tyBytes Try.prog 9 = some 16 := by rfl
theorem ok34 : FnOK Try.prog 34 := FnOK.mk Try.func34 rfl rfl
theorem ok36 : FnOK Try.prog 36 := FnOK.mk Try.func36 rfl rfl
theorem ok65 : FnOK Try.prog 65 := FnOK.mk Try.func65 rfl rfl
theorem ok86 : FnOK Try.prog 86 := FnOK.mk Try.func86 rfl rfl
theorem zr94 : tyZero Try.prog 94 = some ((List.replicate 12 (.string ByteArray.empty))) := by rfl
theorem lay94 : ∀ g, Sim g (.ar 1 ((Vector.replicate 12 ByteArray.empty).toList.map eStr)) ((List.replicate 12 (.string ByteArray.empty))) := fun g => (lay_vec1 (lay_fl rfl))
theorem sz94 : tySize Try.prog 94 = some 12 := by rfl
theorem ok40 : FnOK Try.prog 40 := FnOK.mk Try.func40 rfl rfl
theorem ok88 : FnOK Try.prog 88 := FnOK.mk Try.func88 rfl rfl
theorem ag55 : tyAgg Try.prog 55 = some true := by rfl
theorem sz55 : tySize Try.prog 55 = some 3 := by rfl
theorem ok43 : FnOK Try.prog 43 := FnOK.mk Try.func43 rfl rfl
theorem zr55 : tyZero Try.prog 55 = some (([.int .i64 0] ++ ([.int .i64 0] ++ ([.string ByteArray.empty] ++ [])))) := by rfl
theorem lay55 : ∀ g, Sim g (.st [(1, (eI64 (0 : Int))), (1, (eI64 (0 : Int))), (1, (eStr ByteArray.empty))]) (([.int .i64 0] ++ ([.int .i64 0] ++ ([.string ByteArray.empty] ++ [])))) := fun g => (Sim.stCons (lay_fl rfl) rfl (Sim.stCons (lay_fl rfl) rfl (Sim.stCons (lay_fl rfl) rfl Sim.stNil)))
theorem ok67 : FnOK Try.prog 67 := FnOK.mk Try.func67 rfl rfl
theorem ok48 : FnOK Try.prog 48 := FnOK.mk Try.func48 rfl rfl
theorem ok68 : FnOK Try.prog 68 := FnOK.mk Try.func68 rfl rfl
theorem ok69 : FnOK Try.prog 69 := FnOK.mk Try.func69 rfl rfl
theorem ok42 : FnOK Try.prog 42 := FnOK.mk Try.func42 rfl rfl
theorem ok47 : FnOK Try.prog 47 := FnOK.mk Try.func47 rfl rfl
theorem eqk55 (x y : S55) : EqOK Try.prog 2 55 (e55 x) (e55 y) (decide (x = y)) := (EqOK.struct (bs := [decide (x.f0 = y.f0), decide (x.f1 = y.f1), decide (x.f2 = y.f2)]) Try.underlying55 (by decide +kernel) ⟨⟨rfl, (eI64 x.f0), (eI64 y.f0), (At.cast (At.fld0 At.here) rfl), (At.cast (At.fld0 At.here) rfl), ag3, ag3, sz3, sz3, (EqOK.int Try.underlying3)⟩, ⟨rfl, (eI64 x.f1), (eI64 y.f1), (At.cast (At.fldS (At.fld0 At.here)) rfl), (At.cast (At.fldS (At.fld0 At.here)) rfl), ag3, ag3, sz3, sz3, (EqOK.int Try.underlying3)⟩, ⟨rfl, (eStr x.f2), (eStr y.f2), (At.cast (At.fldS (At.fldS (At.fld0 At.here))) rfl), (At.cast (At.fldS (At.fldS (At.fld0 At.here))) rfl), ag9, ag9, sz9, sz9, (EqOK.str Try.underlying9)⟩, trivial⟩).of (by cases x; cases y; simp)
theorem eg55 : Try.prog.eqGuardType Try.prog.depth 55 = false := by decide +kernel
theorem zr60 : tyZero Try.prog 60 = some (([.int .i64 0] ++ ([.int .i64 0] ++ ([.string ByteArray.empty] ++ [])))) := by rfl
theorem lay60 : ∀ g, Sim g (.st [(1, (eI64 (0 : Int))), (1, (eI64 (0 : Int))), (1, (eStr ByteArray.empty))]) (([.int .i64 0] ++ ([.int .i64 0] ++ ([.string ByteArray.empty] ++ [])))) := fun g => (Sim.stCons (lay_fl rfl) rfl (Sim.stCons (lay_fl rfl) rfl (Sim.stCons (lay_fl rfl) rfl Sim.stNil)))
theorem sz60 : tySize Try.prog 60 = some 3 := by rfl
theorem ag60 : tyAgg Try.prog 60 = some true := by rfl
theorem ok41 : FnOK Try.prog 41 := FnOK.mk Try.func41 rfl rfl
theorem ok44 : FnOK Try.prog 44 := FnOK.mk Try.func44 rfl rfl
theorem ok39 : FnOK Try.prog 39 := FnOK.mk Try.func39 rfl rfl
theorem ok45 : FnOK Try.prog 45 := FnOK.mk Try.func45 rfl rfl
theorem ok46 : FnOK Try.prog 46 := FnOK.mk Try.func46 rfl rfl
theorem ok49 : FnOK Try.prog 49 := FnOK.mk Try.func49 rfl rfl
theorem eqk60 (x y : S60) : EqOK Try.prog 2 60 (e60 x) (e60 y) (decide (x = y)) := (EqOK.struct (bs := [decide (x.f0 = y.f0), decide (x.f1 = y.f1), decide (x.f2 = y.f2)]) Try.underlying60 (by decide +kernel) ⟨⟨rfl, (eI64 x.f0), (eI64 y.f0), (At.cast (At.fld0 At.here) rfl), (At.cast (At.fld0 At.here) rfl), ag3, ag3, sz3, sz3, (EqOK.int Try.underlying3)⟩, ⟨rfl, (eI64 x.f1), (eI64 y.f1), (At.cast (At.fldS (At.fld0 At.here)) rfl), (At.cast (At.fldS (At.fld0 At.here)) rfl), ag3, ag3, sz3, sz3, (EqOK.int Try.underlying3)⟩, ⟨rfl, (eStr x.f2), (eStr y.f2), (At.cast (At.fldS (At.fldS (At.fld0 At.here))) rfl), (At.cast (At.fldS (At.fldS (At.fld0 At.here))) rfl), ag9, ag9, sz9, sz9, (EqOK.str Try.underlying9)⟩, trivial⟩).of (by cases x; cases y; simp)
theorem eg60 : Try.prog.eqGuardType Try.prog.depth 60 = false := by decide +kernel
theorem ok72 : FnOK Try.prog 72 := FnOK.mk Try.func72 rfl rfl
theorem by60 : tyBytes Try.prog 60 = some 32 := by rfl
theorem ok53 : FnOK Try.prog 53 := FnOK.mk Try.func53 rfl rfl
theorem ok54 : FnOK Try.prog 54 := FnOK.mk Try.func54 rfl rfl
end Go.Avl.T2
/- internal/stringslite.IndexByte; printed by avmain.py. -/
namespace Go.Avl.T2
open Go Go.RowKit Go.Proofs Go.Avl
set_option linter.unusedVariables false
set_option maxRecDepth 100000
set_option maxHeartbeats 4000000
attribute [local irreducible] AW AO AQ Spec SpecH Calm

def internal_stringslite_IndexByte (k : Nat) (p0 : ByteArray) (p1 : Int) : Option Int :=
  some ((idxByte p0 p1))
theorem internal_stringslite_IndexByte_spec {k : Nat} {p0 : ByteArray} {p1 : Int} {r : Int} (h : internal_stringslite_IndexByte k p0 p1 = some r) : Spec Try.prog 78 [(eStr p0), (eU8 p1)] (eI64 r) := by
  rw [internal_stringslite_IndexByte.eq_1] at h
  refine Spec.intro (res := [.tmp 4]) Try.func78 rfl rfl rfl (Nat.le_of_ble_eq_true rfl) ?_
  refine AW.seq ?_
  refine AW.reg ?_
  refine AO.calm rfl 4 rfl (by decide) (eI64 (0 : Int)) (Calm.assign rfl rfl) ?_
  refine AO.nil (ρ' := [(0, (eStr p0)), (1, (eU8 p1))]) (H' := []) ⟨rfl, rfl, trivial⟩ (Sub.refl _) ?_
  refine AW.seq ?_
  refine AW.reg ?_
  refine AO.calm rfl 5 rfl (by decide) (eStr p0) (Calm.move rfl rfl) ?_
  refine AO.calm rfl 6 rfl (by decide) (eU8 p1) (Calm.move rfl rfl) ?_
  refine AO.calm rfl 7 rfl (by decide) (eI64 (idxByte p0 p1)) (Calm.ext [(eStr p0), (eU8 p1)] [(.string p0), (.int .u8 p1)] rfl rfl xok93 ⟨rfl, rfl, rfl, rfl, trivial⟩ rfl (fun w => run_idxByte p0 p1 w)) ?_
  refine AO.calm rfl 4 rfl (by decide) (eI64 (idxByte p0 p1)) (Calm.assign rfl rfl) ?_
  refine AO.nil (ρ' := [(4, (eI64 (idxByte p0 p1)))]) (H' := []) ⟨rfl, trivial⟩ (Sub.refl _) ?_
  refine AW.ret (ρ' := [(4, (eI64 (idxByte p0 p1)))]) (H' := []) ⟨rfl, trivial⟩ (Sub.refl _) ?_
  have hr := Option.some.inj h
  subst hr
  exact ⟨[(eI64 (idxByte p0 p1))], ⟨rfl, rfl, trivial⟩, rfl⟩
end Go.Avl.T2
/- internal/bytealg.Cutover; printed by avmain.py. -/
namespace Go.Avl.T2
open Go Go.RowKit Go.Proofs Go.Avl
set_option linter.unusedVariables false
set_option maxRecDepth 100000
set_option maxHeartbeats 4000000
attribute [local irreducible] AW AO AQ Spec SpecH Calm

def internal_bytealg_Cutover (k : Nat) (p0 : Int) : Option Int :=
  some ((IntKind.i64.wrap ((w64 (p0 + (16 : Int))).tdiv (8 : Int))))
theorem internal_bytealg_Cutover_spec {k : Nat} {p0 : Int} {r : Int} (h : internal_bytealg_Cutover k p0 = some r) : Spec Try.prog 101 [(eI64 p0)] (eI64 r) := by
  rw [internal_bytealg_Cutover.eq_1] at h
  refine Spec.intro (res := [.tmp 2]) Try.func101 rfl rfl rfl (Nat.le_of_ble_eq_true rfl) ?_
  refine AW.seq ?_
  refine AW.reg ?_
  refine AO.calm rfl 2 rfl (by decide) (eI64 (0 : Int)) (Calm.assign rfl rfl) ?_
  refine AO.nil (ρ' := [(0, (eI64 p0))]) (H' := []) ⟨rfl, trivial⟩ (Sub.refl _) ?_
  refine AW.seq ?_
  refine AW.reg ?_
  refine AO.calm rfl 3 rfl (by decide) (eI64 p0) (Calm.move rfl rfl) ?_
  refine AO.calm rfl 4 rfl (by decide) (eI64 (w64 (p0 + (16 : Int)))) (Calm.int rfl rfl rfl rfl) ?_
  refine AO.calm rfl 5 rfl (by decide) (eI64 (IntKind.i64.wrap ((w64 (p0 + (16 : Int))).tdiv (8 : Int)))) (Calm.quo rfl rfl rfl (by decide)) ?_
  refine AO.calm rfl 2 rfl (by decide) (eI64 (IntKind.i64.wrap ((w64 (p0 + (16 : Int))).tdiv (8 : Int)))) (Calm.assign rfl rfl) ?_
  refine AO.nil (ρ' := [(2, (eI64 (IntKind.i64.wrap ((w64 (p0 + (16 : Int))).tdiv (8 : Int)))))]) (H' := []) ⟨rfl, trivial⟩ (Sub.refl _) ?_
  refine AW.ret (ρ' := [(2, (eI64 (IntKind.i64.wrap ((w64 (p0 + (16 : Int))).tdiv (8 : Int)))))]) (H' := []) ⟨rfl, trivial⟩ (Sub.refl _) ?_
  have hr := Option.some.inj h
  subst hr
  exact ⟨[(eI64 (IntKind.i64.wrap ((w64 (p0 + (16 : Int))).tdiv (8 : Int))))], ⟨rfl, rfl, trivial⟩, rfl⟩
end Go.Avl.T2
/- internal/stringslite.Index; printed by avmain.py. -/
namespace Go.Avl.T2
open Go Go.RowKit Go.Proofs Go.Avl
set_option linter.unusedVariables false
set_option maxRecDepth 100000
set_option maxHeartbeats 4000000
attribute [local irreducible] AW AO AQ Spec SpecH Calm

def internal_stringslite_Index (k : Nat) (p0 : ByteArray) (p1 : ByteArray) : Option Int :=
  Option.bind (α := Bool) (if (p1.size : Int) = (0 : Int) then some (true)
  else some (decide (p1 = p0))) fun b3 =>
  if b3 = true then some ((0 : Int))
  else if (p1.size : Int) = (1 : Int) then if 0 ≤ (0 : Int) ∧ (0 : Int) < (p1.size : Int) then (internal_stringslite_IndexByte k p0 (byteAt p1 (0 : Int))).bind fun t9 =>
  some (t9)
  else none
  else if (p0.size : Int) ≤ (p1.size : Int) then some ((-1 : Int))
  else none
theorem internal_stringslite_Index_spec {k : Nat} {p0 : ByteArray} {p1 : ByteArray} {r : Int} (h : internal_stringslite_Index k p0 p1 = some r) : Spec Try.prog 91 [(eStr p0), (eStr p1)] (eI64 r) := by
  rw [internal_stringslite_Index.eq_1] at h
  refine Spec.intro (res := [.tmp 4]) Try.func91 rfl rfl rfl (Nat.le_of_ble_eq_true rfl) ?_
  refine AW.seq ?_
  refine AW.reg ?_
  refine AO.calm rfl 4 rfl (by decide) (eI64 (0 : Int)) (Calm.assign rfl rfl) ?_
  refine AO.nil (ρ' := [(0, (eStr p0)), (1, (eStr p1))]) (H' := []) ⟨rfl, rfl, trivial⟩ (Sub.refl _) ?_
  refine AW.seq ?_
  refine AW.reg ?_
  refine AO.calm rfl 14 rfl (by decide) (eStr p1) (Calm.move rfl rfl) ?_
  refine AO.calm rfl 15 rfl (by decide) (eI64 (p1.size : Int)) (Calm.lenStr rfl rfl Try.underlying9) ?_
  refine AO.calm rfl 5 rfl (by decide) (eI64 (p1.size : Int)) (Calm.assign rfl rfl) ?_
  refine AO.nil (ρ' := [(0, (eStr p0)), (1, (eStr p1)), (5, (eI64 (p1.size : Int)))]) (H' := []) ⟨rfl, rfl, rfl, trivial⟩ (Sub.refl _) ?_
  refine AW.seq ?_
  refine AW.block ?_
  refine AW.seq ?_
  obtain ⟨b3, hq4, h⟩ := of_bind h
  refine AW.regM [(0, (eStr p0)), (1, (eStr p1)), (5, (eI64 (p1.size : Int))), (16, (eBool b3))] [] ?_ ?_
  · refine AO.calm rfl 17 rfl (by decide) (eI64 (p1.size : Int)) (Calm.move rfl rfl) ?_
    refine AO.calm rfl 18 rfl (by decide) (eBool (decide ((p1.size : Int) = (0 : Int)))) (Calm.int rfl rfl rfl rfl) ?_
    refine AO.calm rfl 19 rfl (by decide) (eBool (decide ((p1.size : Int) = (0 : Int)))) (Calm.move rfl rfl) ?_
    by_cases hc5 : (p1.size : Int) = (0 : Int)
    · have hq4 := (if_pos hc5).symm.trans hq4
      refine AO.skipG 2 true 19 rfl rfl (congrArg (fun b => some (AV.fl (Value.bool b))) (decide_eq_true hc5)) 20 rfl (by decide) ?_
      refine AO.skipG 2 true 19 rfl rfl (congrArg (fun b => some (AV.fl (Value.bool b))) (decide_eq_true hc5)) 21 rfl (by decide) ?_
      refine AO.skipG 2 true 19 rfl rfl (congrArg (fun b => some (AV.fl (Value.bool b))) (decide_eq_true hc5)) 22 rfl (by decide) ?_
      refine AO.calm rfl 23 rfl (by decide) (eBool true) (Calm.pickT rfl (congrArg (fun b => some (AV.fl (Value.bool b))) (decide_eq_true hc5)) rfl) ?_
      refine AO.calm rfl 16 rfl (by decide) (eBool true) (Calm.assign rfl rfl) ?_
      cases hq4
      refine AO.nilE ⟨rfl, rfl⟩ ?_ ?_
      · exact ⟨rfl, rfl, rfl, rfl, trivial⟩
      · exact (Sub.refl _)
    · have hq4 := (if_neg hc5).symm.trans hq4
      refine AO.calmG 2 false 19 rfl rfl (congrArg (fun b => some (AV.fl (Value.bool b))) (decide_eq_false hc5)) 20 rfl (by decide) (eStr p1) (Calm.move rfl rfl) ?_
      refine AO.calmG 2 false 19 rfl rfl (congrArg (fun b => some (AV.fl (Value.bool b))) (decide_eq_false hc5)) 21 rfl (by decide) (eStr p0) (Calm.move rfl rfl) ?_
      refine AO.calmG 2 false 19 rfl rfl (congrArg (fun b => some (AV.fl (Value.bool b))) (decide_eq_false hc5)) 22 rfl (by decide) (eBool (decide (p1 = p0))) (Calm.str rfl rfl rfl rfl) ?_
      refine AO.calm rfl 23 rfl (by decide) (eBool (decide (p1 = p0))) (Calm.pickF rfl (congrArg (fun b => some (AV.fl (Value.bool b))) (decide_eq_false hc5)) rfl) ?_
      refine AO.calm rfl 16 rfl (by decide) (eBool (decide (p1 = p0))) (Calm.assign rfl rfl) ?_
      cases hq4
      refine AO.nilE ⟨rfl, rfl⟩ ?_ ?_
      · exact ⟨rfl, rfl, rfl, rfl, trivial⟩
      · exact (Sub.refl _)
  · by_cases hc6 : b3 = true
    · have h := (if_pos hc6).symm.trans h
      refine AW.condT' b3 rfl hc6 ?_
      refine AW.seq ?_
      refine AW.reg ?_
      refine AO.calm rfl 4 rfl (by decide) (eI64 (0 : Int)) (Calm.assign rfl rfl) ?_
      refine AO.nil (ρ' := [(4, (eI64 (0 : Int)))]) (H' := []) ⟨rfl, trivial⟩ (Sub.refl _) ?_
      refine AW.ret (ρ' := [(4, (eI64 (0 : Int)))]) (H' := []) ⟨rfl, trivial⟩ (Sub.refl _) ?_
      have hr := Option.some.inj h
      subst hr
      exact ⟨[(eI64 (0 : Int))], ⟨rfl, rfl, trivial⟩, rfl⟩
    · have h := (if_neg hc6).symm.trans h
      refine AW.condF' b3 rfl hc6 ?_
      refine AW.seq ?_
      refine AW.reg ?_
      refine AO.calm rfl 25 rfl (by decide) (eI64 (p1.size : Int)) (Calm.move rfl rfl) ?_
      refine AO.calm rfl 26 rfl (by decide) (eBool (decide ((p1.size : Int) = (1 : Int)))) (Calm.int rfl rfl rfl rfl) ?_
      refine AO.calm rfl 24 rfl (by decide) (eBool (decide ((p1.size : Int) = (1 : Int)))) (Calm.assign rfl rfl) ?_
      refine AO.nil (ρ' := [(0, (eStr p0)), (1, (eStr p1)), (5, (eI64 (p1.size : Int))), (24, (eBool (decide ((p1.size : Int) = (1 : Int)))))]) (H' := []) ⟨rfl, rfl, rfl, rfl, trivial⟩ (Sub.refl _) ?_
      by_cases hc7 : (p1.size : Int) = (1 : Int)
      · have h := (if_pos hc7).symm.trans h
        refine AW.condP ((p1.size : Int) = (1 : Int)) rfl hc7 ?_
        refine AW.seq ?_
        refine AW.reg ?_
        refine AO.calm rfl 27 rfl (by decide) (eStr p0) (Calm.move rfl rfl) ?_
        refine AO.calm rfl 28 rfl (by decide) (eStr p1) (Calm.move rfl rfl) ?_
        obtain ⟨hg8, h⟩ := of_guard h
        refine AO.calm rfl 29 rfl (by decide) (eU8 (byteAt p1 (0 : Int))) (Calm.idxS rfl rfl rfl hg8 Try.underlying9) ?_
        obtain ⟨t9, et9, h⟩ := of_bind h
        refine AO.callS [(eStr p0), (eU8 (byteAt p1 (0 : Int)))] (eI64 t9) 30 rfl (by decide) ok78 rfl rfl rfl ⟨rfl, rfl, rfl, rfl, trivial⟩ (internal_stringslite_IndexByte_spec et9) ?_
        refine AO.calm rfl 4 rfl (by decide) (eI64 t9) (Calm.assign rfl rfl) ?_
        refine AO.nil (ρ' := [(4, (eI64 t9))]) (H' := []) ⟨rfl, trivial⟩ (Sub.refl _) ?_
        refine AW.ret (ρ' := [(4, (eI64 t9))]) (H' := []) ⟨rfl, trivial⟩ (Sub.refl _) ?_
        have hr := Option.some.inj h
        subst hr
        exact ⟨[(eI64 t9)], ⟨rfl, rfl, trivial⟩, rfl⟩
      · have h := (if_neg hc7).symm.trans h
        refine AW.condN ((p1.size : Int) = (1 : Int)) rfl hc7 ?_
        refine AW.seq ?_
        refine AW.reg ?_
        refine AO.calm rfl 32 rfl (by decide) (eI64 (p1.size : Int)) (Calm.move rfl rfl) ?_
        refine AO.calm rfl 33 rfl (by decide) (eStr p0) (Calm.move rfl rfl) ?_
        refine AO.calm rfl 34 rfl (by decide) (eI64 (p0.size : Int)) (Calm.lenStr rfl rfl Try.underlying9) ?_
        refine AO.calm rfl 35 rfl (by decide) (eBool (decide ((p0.size : Int) ≤ (p1.size : Int)))) (Calm.int rfl rfl rfl rfl) ?_
        refine AO.calm rfl 31 rfl (by decide) (eBool (decide ((p0.size : Int) ≤ (p1.size : Int)))) (Calm.assign rfl rfl) ?_
        refine AO.nil (ρ' := [(0, (eStr p0)), (1, (eStr p1)), (5, (eI64 (p1.size : Int))), (31, (eBool (decide ((p0.size : Int) ≤ (p1.size : Int)))))]) (H' := []) ⟨rfl, rfl, rfl, rfl, trivial⟩ (Sub.refl _) ?_
        by_cases hc10 : (p0.size : Int) ≤ (p1.size : Int)
        · have h := (if_pos hc10).symm.trans h
          refine AW.condP ((p0.size : Int) ≤ (p1.size : Int)) rfl hc10 ?_
          refine AW.seq ?_
          refine AW.reg ?_
          refine AO.calm rfl 4 rfl (by decide) (eI64 (-1 : Int)) (Calm.assign rfl rfl) ?_
          refine AO.nil (ρ' := [(4, (eI64 (-1 : Int)))]) (H' := []) ⟨rfl, trivial⟩ (Sub.refl _) ?_
          refine AW.ret (ρ' := [(4, (eI64 (-1 : Int)))]) (H' := []) ⟨rfl, trivial⟩ (Sub.refl _) ?_
          have hr := Option.some.inj h
          subst hr
          exact ⟨[(eI64 (-1 : Int))], ⟨rfl, rfl, trivial⟩, rfl⟩
        · have h := (if_neg hc10).symm.trans h
          cases h
end Go.Avl.T2
/- strings.Index; printed by avmain.py. -/
namespace Go.Avl.T2
open Go Go.RowKit Go.Proofs Go.Avl
set_option linter.unusedVariables false
set_option maxRecDepth 100000
set_option maxHeartbeats 4000000
attribute [local irreducible] AW AO AQ Spec SpecH Calm

def strings_Index (k : Nat) (p0 : ByteArray) (p1 : ByteArray) : Option Int :=
  (internal_stringslite_Index k p0 p1).bind fun t3 =>
  some (t3)
theorem strings_Index_spec {k : Nat} {p0 : ByteArray} {p1 : ByteArray} {r : Int} (h : strings_Index k p0 p1 = some r) : Spec Try.prog 75 [(eStr p0), (eStr p1)] (eI64 r) := by
  rw [strings_Index.eq_1] at h
  refine Spec.intro (res := [.tmp 4]) Try.func75 rfl rfl rfl (Nat.le_of_ble_eq_true rfl) ?_
  refine AW.seq ?_
  refine AW.reg ?_
  refine AO.calm rfl 4 rfl (by decide) (eI64 (0 : Int)) (Calm.assign rfl rfl) ?_
  refine AO.nil (ρ' := [(0, (eStr p0)), (1, (eStr p1))]) (H' := []) ⟨rfl, rfl, trivial⟩ (Sub.refl _) ?_
  refine AW.seq ?_
  refine AW.reg ?_
  refine AO.calm rfl 5 rfl (by decide) (eStr p0) (Calm.move rfl rfl) ?_
  refine AO.calm rfl 6 rfl (by decide) (eStr p1) (Calm.move rfl rfl) ?_
  obtain ⟨t3, et3, h⟩ := of_bind h
  refine AO.callS [(eStr p0), (eStr p1)] (eI64 t3) 7 rfl (by decide) ok91 rfl rfl rfl ⟨rfl, rfl, rfl, rfl, trivial⟩ (internal_stringslite_Index_spec et3) ?_
  refine AO.calm rfl 4 rfl (by decide) (eI64 t3) (Calm.assign rfl rfl) ?_
  refine AO.nil (ρ' := [(4, (eI64 t3))]) (H' := []) ⟨rfl, trivial⟩ (Sub.refl _) ?_
  refine AW.ret (ρ' := [(4, (eI64 t3))]) (H' := []) ⟨rfl, trivial⟩ (Sub.refl _) ?_
  have hr := Option.some.inj h
  subst hr
  exact ⟨[(eI64 t3)], ⟨rfl, rfl, trivial⟩, rfl⟩
end Go.Avl.T2
/- strings.Count; printed by avmain.py. -/
namespace Go.Avl.T2
open Go Go.RowKit Go.Proofs Go.Avl
set_option linter.unusedVariables false
set_option maxRecDepth 100000
set_option maxHeartbeats 4000000
attribute [local irreducible] AW AO AQ Spec SpecH Calm

def strings_Count_l0 (k : Nat) (p1 : ByteArray) : Nat → ByteArray → Int → Option Int
  | 0, _, _ => none
  | j + 1, x6, x7 =>
    (strings_Index k x6 p1).bind fun t10 =>
    if t10 = (-1 : Int) then some (x7)
    else if 0 ≤ (w64 (t10 + (p1.size : Int))) ∧ (w64 (t10 + (p1.size : Int))) ≤ (x6.size : Int) ∧ (x6.size : Int) ≤ (x6.size : Int) then (some (x6.extract (w64 (t10 + (p1.size : Int))).toNat (x6.size : Int).toNat)).bind fun x13 =>
    (strings_Count_l0 k p1 j) x13 (w64 (x7 + (1 : Int)))
    else none
def strings_Count (k : Nat) (p0 : ByteArray) (p1 : ByteArray) : Option Int :=
  if (p1.size : Int) = (0 : Int) then none
  else if (p1.size : Int) = (1 : Int) then if 0 ≤ (0 : Int) ∧ (0 : Int) < (p1.size : Int) then some ((cntByte p0 (byteAt p1 (0 : Int))))
  else none
  else strings_Count_l0 k p1 k p0 (0 : Int)
theorem strings_Count_spec {k : Nat} {p0 : ByteArray} {p1 : ByteArray} {r : Int} (h : strings_Count k p0 p1 = some r) : Spec Try.prog 55 [(eStr p0), (eStr p1)] (eI64 r) := by
  rw [strings_Count.eq_1] at h
  refine Spec.intro (res := [.tmp 4]) Try.func55 rfl rfl rfl (Nat.le_of_ble_eq_true rfl) ?_
  refine AW.seq ?_
  refine AW.reg ?_
  refine AO.calm rfl 4 rfl (by decide) (eI64 (0 : Int)) (Calm.assign rfl rfl) ?_
  refine AO.nil (ρ' := [(0, (eStr p0)), (1, (eStr p1))]) (H' := []) ⟨rfl, rfl, trivial⟩ (Sub.refl _) ?_
  refine AW.seq ?_
  refine AW.seq ?_
  refine AW.reg ?_
  refine AO.calm rfl 7 rfl (by decide) (eStr p1) (Calm.move rfl rfl) ?_
  refine AO.calm rfl 8 rfl (by decide) (eI64 (p1.size : Int)) (Calm.lenStr rfl rfl Try.underlying9) ?_
  refine AO.calm rfl 9 rfl (by decide) (eBool (decide ((p1.size : Int) = (0 : Int)))) (Calm.int rfl rfl rfl rfl) ?_
  refine AO.nil (ρ' := [(0, (eStr p0)), (1, (eStr p1)), (9, (eBool (decide ((p1.size : Int) = (0 : Int)))))]) (H' := []) ⟨rfl, rfl, rfl, trivial⟩ (Sub.refl _) ?_
  by_cases hc3 : (p1.size : Int) = (0 : Int)
  · have h := (if_pos hc3).symm.trans h
    cases h
  · have h := (if_neg hc3).symm.trans h
    refine AW.condN ((p1.size : Int) = (0 : Int)) rfl hc3 ?_
    refine AW.skip (ρ' := [(0, (eStr p0)), (1, (eStr p1))]) (H' := []) ⟨rfl, rfl, trivial⟩ (Sub.refl _) ?_
    refine AW.seq ?_
    refine AW.seq ?_
    refine AW.reg ?_
    refine AO.calm rfl 13 rfl (by decide) (eStr p1) (Calm.move rfl rfl) ?_
    refine AO.calm rfl 14 rfl (by decide) (eI64 (p1.size : Int)) (Calm.lenStr rfl rfl Try.underlying9) ?_
    refine AO.calm rfl 15 rfl (by decide) (eBool (decide ((p1.size : Int) = (1 : Int)))) (Calm.int rfl rfl rfl rfl) ?_
    refine AO.nil (ρ' := [(0, (eStr p0)), (1, (eStr p1)), (15, (eBool (decide ((p1.size : Int) = (1 : Int)))))]) (H' := []) ⟨rfl, rfl, rfl, trivial⟩ (Sub.refl _) ?_
    by_cases hc4 : (p1.size : Int) = (1 : Int)
    · have h := (if_pos hc4).symm.trans h
      refine AW.condP ((p1.size : Int) = (1 : Int)) rfl hc4 ?_
      refine AW.seq ?_
      refine AW.reg ?_
      refine AO.calm rfl 16 rfl (by decide) (eStr p0) (Calm.move rfl rfl) ?_
      refine AO.calm rfl 17 rfl (by decide) (eStr p1) (Calm.move rfl rfl) ?_
      obtain ⟨hg5, h⟩ := of_guard h
      refine AO.calm rfl 18 rfl (by decide) (eU8 (byteAt p1 (0 : Int))) (Calm.idxS rfl rfl rfl hg5 Try.underlying9) ?_
      refine AO.calm rfl 19 rfl (by decide) (eI64 (cntByte p0 (byteAt p1 (0 : Int)))) (Calm.ext [(eStr p0), (eU8 (byteAt p1 (0 : Int)))] [(.string p0), (.int .u8 (byteAt p1 (0 : Int)))] rfl rfl xok74 ⟨rfl, rfl, rfl, rfl, trivial⟩ rfl (fun w => run_cntByte p0 (byteAt p1 (0 : Int)) w)) ?_
      refine AO.calm rfl 4 rfl (by decide) (eI64 (cntByte p0 (byteAt p1 (0 : Int)))) (Calm.assign rfl rfl) ?_
      refine AO.nil (ρ' := [(4, (eI64 (cntByte p0 (byteAt p1 (0 : Int)))))]) (H' := []) ⟨rfl, trivial⟩ (Sub.refl _) ?_
      refine AW.ret (ρ' := [(4, (eI64 (cntByte p0 (byteAt p1 (0 : Int)))))]) (H' := []) ⟨rfl, trivial⟩ (Sub.refl _) ?_
      have hr := Option.some.inj h
      subst hr
      exact ⟨[(eI64 (cntByte p0 (byteAt p1 (0 : Int))))], ⟨rfl, rfl, trivial⟩, rfl⟩
    · have h := (if_neg hc4).symm.trans h
      refine AW.condN ((p1.size : Int) = (1 : Int)) rfl hc4 ?_
      refine AW.skip (ρ' := [(0, (eStr p0)), (1, (eStr p1))]) (H' := []) ⟨rfl, rfl, trivial⟩ (Sub.refl _) ?_
      refine AW.seq ?_
      refine AW.reg ?_
      refine AO.calm rfl 5 rfl (by decide) (eI64 (0 : Int)) (Calm.assign rfl rfl) ?_
      refine AO.nil (ρ' := [(0, (eStr p0)), (1, (eStr p1)), (5, (eI64 (0 : Int)))]) (H' := []) ⟨rfl, rfl, rfl, trivial⟩ (Sub.refl _) ?_
      refine AW.block ?_
      refine AW.weak (ρ' := [(0, (eStr p0)), (1, (eStr p1)), (5, (eI64 (0 : Int)))]) (H' := []) ⟨rfl, rfl, rfl, trivial⟩ (Sub.refl _) ?_
      refine AW.loop (fun kq ρ H => ∃ (x6 : ByteArray) (x7 : Int), ρ = [(0, (eStr x6)), (1, (eStr p1)), (5, (eI64 x7))] ∧ H = [] ∧ strings_Count_l0 k p1 kq x6 x7 = some r) k ⟨p0, (0 : Int), rfl, rfl, h⟩ ?_
      rintro kq9 _ _ ⟨x6, x7, rfl, rfl, h⟩
      cases kq9 with
      | zero => rw [strings_Count_l0.eq_1] at h; cases h
      | succ kq9 =>
      rw [strings_Count_l0.eq_2] at h
      generalize hrec8 : strings_Count_l0 k p1 kq9 = rec8 at h
      refine AW.block ?_
      refine AW.seq ?_
      refine AW.reg ?_
      refine AO.calm rfl 20 rfl (by decide) (eStr x6) (Calm.move rfl rfl) ?_
      refine AO.calm rfl 21 rfl (by decide) (eStr p1) (Calm.move rfl rfl) ?_
      obtain ⟨t10, et10, h⟩ := of_bind h
      refine AO.callS [(eStr x6), (eStr p1)] (eI64 t10) 22 rfl (by decide) ok75 rfl rfl rfl ⟨rfl, rfl, rfl, rfl, trivial⟩ (strings_Index_spec et10) ?_
      refine AO.calm rfl 6 rfl (by decide) (eI64 t10) (Calm.assign rfl rfl) ?_
      refine AO.nil (ρ' := [(0, (eStr x6)), (1, (eStr p1)), (5, (eI64 x7)), (6, (eI64 t10))]) (H' := []) ⟨rfl, rfl, rfl, rfl, trivial⟩ (Sub.refl _) ?_
      refine AW.seq ?_
      refine AW.seq ?_
      refine AW.reg ?_
      refine AO.calm rfl 23 rfl (by decide) (eI64 t10) (Calm.move rfl rfl) ?_
      refine AO.calm rfl 24 rfl (by decide) (eBool (decide (t10 = (-1 : Int)))) (Calm.int rfl rfl rfl rfl) ?_
      refine AO.nil (ρ' := [(0, (eStr x6)), (1, (eStr p1)), (5, (eI64 x7)), (6, (eI64 t10)), (24, (eBool (decide (t10 = (-1 : Int)))))]) (H' := []) ⟨rfl, rfl, rfl, rfl, rfl, trivial⟩ (Sub.refl _) ?_
      by_cases hc11 : t10 = (-1 : Int)
      · have h := (if_pos hc11).symm.trans h
        refine AW.condP (t10 = (-1 : Int)) rfl hc11 ?_
        refine AW.seq ?_
        refine AW.reg ?_
        refine AO.calm rfl 25 rfl (by decide) (eI64 x7) (Calm.move rfl rfl) ?_
        refine AO.calm rfl 4 rfl (by decide) (eI64 x7) (Calm.assign rfl rfl) ?_
        refine AO.nil (ρ' := [(4, (eI64 x7))]) (H' := []) ⟨rfl, trivial⟩ (Sub.refl _) ?_
        refine AW.ret (ρ' := [(4, (eI64 x7))]) (H' := []) ⟨rfl, trivial⟩ (Sub.refl _) ?_
        have hr := Option.some.inj h
        subst hr
        exact ⟨[(eI64 x7)], ⟨rfl, rfl, trivial⟩, rfl⟩
      · have h := (if_neg hc11).symm.trans h
        refine AW.condN (t10 = (-1 : Int)) rfl hc11 ?_
        refine AW.skip (ρ' := [(0, (eStr x6)), (1, (eStr p1)), (5, (eI64 x7)), (6, (eI64 t10))]) (H' := []) ⟨rfl, rfl, rfl, rfl, trivial⟩ (Sub.refl _) ?_
        refine AW.seq ?_
        refine AW.reg ?_
        refine AO.calm rfl 26 rfl (by decide) (eI64 x7) (Calm.move rfl rfl) ?_
        refine AO.calm rfl 27 rfl (by decide) (eI64 (w64 (x7 + (1 : Int)))) (Calm.int rfl rfl rfl rfl) ?_
        refine AO.calm rfl 5 rfl (by decide) (eI64 (w64 (x7 + (1 : Int)))) (Calm.assign rfl rfl) ?_
        refine AO.nil (ρ' := [(0, (eStr x6)), (1, (eStr p1)), (5, (eI64 (w64 (x7 + (1 : Int))))), (6, (eI64 t10))]) (H' := []) ⟨rfl, rfl, rfl, rfl, trivial⟩ (Sub.refl _) ?_
        refine AW.reg ?_
        refine AO.calm rfl 28 rfl (by decide) (eStr x6) (Calm.move rfl rfl) ?_
        refine AO.calm rfl 29 rfl (by decide) (eI64 t10) (Calm.move rfl rfl) ?_
        refine AO.calm rfl 30 rfl (by decide) (eStr p1) (Calm.move rfl rfl) ?_
        refine AO.calm rfl 31 rfl (by decide) (eI64 (p1.size : Int)) (Calm.lenStr rfl rfl Try.underlying9) ?_
        refine AO.calm rfl 32 rfl (by decide) (eI64 (w64 (t10 + (p1.size : Int)))) (Calm.int rfl rfl rfl rfl) ?_
        obtain ⟨hg12, h⟩ := of_guard h
        refine AO.calm rfl 33 rfl (by decide) (eStr (x6.extract (w64 (t10 + (p1.size : Int))).toNat (x6.size : Int).toNat)) (Calm.sliceS rfl rfl rfl rfl hg12 Try.underlying9) ?_
        obtain ⟨x13, ex13, h⟩ := of_bind h
        refine AO.calm rfl 0 rfl (by decide) (eStr x13) (Calm.assign rfl (congrArg (fun x => some (eStr x)) (Option.some.inj ex13))) ?_
        refine AO.nil (ρ' := [(0, (eStr x13)), (1, (eStr p1)), (5, (eI64 (w64 (x7 + (1 : Int)))))]) (H' := []) ⟨rfl, rfl, rfl, trivial⟩ (Sub.refl _) ?_
        exact ⟨kq9, Nat.lt_succ_self _, x13, (w64 (x7 + (1 : Int))), rfl, rfl, by rw [hrec8]; exact h⟩
end Go.Avl.T2
/- internal/bytealg.LastIndexByteString; printed by avmain.py. -/
namespace Go.Avl.T2
open Go Go.RowKit Go.Proofs Go.Avl
set_option linter.unusedVariables false
set_option maxRecDepth 100000
set_option maxHeartbeats 4000000
attribute [local irreducible] AW AO AQ Spec SpecH Calm

def internal_bytealg_LastIndexByteString_c0 (k : Nat) : Option Int :=
  some ((-1 : Int))
def internal_bytealg_LastIndexByteString_l1 (k : Nat) (p0 : ByteArray) (p1 : Int) : Nat → Int → Option Int
  | 0, _ => none
  | j + 1, x3 =>
    if (0 : Int) ≤ x3 then if 0 ≤ x3 ∧ x3 < (p0.size : Int) then if (byteAt p0 x3) = p1 then some (x3)
    else (internal_bytealg_LastIndexByteString_l1 k p0 p1 j) (w64 (x3 - (1 : Int)))
    else none
    else internal_bytealg_LastIndexByteString_c0 k
def internal_bytealg_LastIndexByteString (k : Nat) (p0 : ByteArray) (p1 : Int) : Option Int :=
  internal_bytealg_LastIndexByteString_l1 k p0 p1 k (w64 ((p0.size : Int) - (1 : Int)))
theorem internal_bytealg_LastIndexByteString_spec {k : Nat} {p0 : ByteArray} {p1 : Int} {r : Int} (h : internal_bytealg_LastIndexByteString k p0 p1 = some r) : Spec Try.prog 76 [(eStr p0), (eU8 p1)] (eI64 r) := by
  rw [internal_bytealg_LastIndexByteString.eq_1] at h
  refine Spec.intro (res := [.tmp 4]) Try.func76 rfl rfl rfl (Nat.le_of_ble_eq_true rfl) ?_
  refine AW.seq ?_
  refine AW.reg ?_
  refine AO.calm rfl 4 rfl (by decide) (eI64 (0 : Int)) (Calm.assign rfl rfl) ?_
  refine AO.nil (ρ' := [(0, (eStr p0)), (1, (eU8 p1))]) (H' := []) ⟨rfl, rfl, trivial⟩ (Sub.refl _) ?_
  refine AW.seq_mid (fun ρ H => ρ = [] ∧ H = [] ∧ internal_bytealg_LastIndexByteString_c0 k = some r) ?_ ?_
  · refine AW.seq ?_
    refine AW.reg ?_
    refine AO.calm rfl 6 rfl (by decide) (eStr p0) (Calm.move rfl rfl) ?_
    refine AO.calm rfl 7 rfl (by decide) (eI64 (p0.size : Int)) (Calm.lenStr rfl rfl Try.underlying9) ?_
    refine AO.calm rfl 8 rfl (by decide) (eI64 (w64 ((p0.size : Int) - (1 : Int)))) (Calm.int rfl rfl rfl rfl) ?_
    refine AO.calm rfl 5 rfl (by decide) (eI64 (w64 ((p0.size : Int) - (1 : Int)))) (Calm.assign rfl rfl) ?_
    refine AO.nil (ρ' := [(0, (eStr p0)), (1, (eU8 p1)), (5, (eI64 (w64 ((p0.size : Int) - (1 : Int)))))]) (H' := []) ⟨rfl, rfl, rfl, trivial⟩ (Sub.refl _) ?_
    refine AW.block ?_
    refine AW.weak (ρ' := [(0, (eStr p0)), (1, (eU8 p1)), (5, (eI64 (w64 ((p0.size : Int) - (1 : Int)))))]) (H' := []) ⟨rfl, rfl, rfl, trivial⟩ (Sub.refl _) ?_
    refine AW.loop (fun kq ρ H => ∃ (x3 : Int), ρ = [(0, (eStr p0)), (1, (eU8 p1)), (5, (eI64 x3))] ∧ H = [] ∧ internal_bytealg_LastIndexByteString_l1 k p0 p1 kq x3 = some r) k ⟨(w64 ((p0.size : Int) - (1 : Int))), rfl, rfl, h⟩ ?_
    rintro kq5 _ _ ⟨x3, rfl, rfl, h⟩
    cases kq5 with
    | zero => rw [internal_bytealg_LastIndexByteString_l1.eq_1] at h; cases h
    | succ kq5 =>
    rw [internal_bytealg_LastIndexByteString_l1.eq_2] at h
    generalize hrec4 : internal_bytealg_LastIndexByteString_l1 k p0 p1 kq5 = rec4 at h
    refine AW.seq ?_
    refine AW.seq ?_
    refine AW.reg ?_
    refine AO.calm rfl 9 rfl (by decide) (eI64 x3) (Calm.move rfl rfl) ?_
    refine AO.calm rfl 10 rfl (by decide) (eBool (decide ((0 : Int) ≤ x3))) (Calm.int rfl rfl rfl rfl) ?_
    refine AO.nil (ρ' := [(0, (eStr p0)), (1, (eU8 p1)), (5, (eI64 x3)), (10, (eBool (decide ((0 : Int) ≤ x3))))]) (H' := []) ⟨rfl, rfl, rfl, rfl, trivial⟩ (Sub.refl _) ?_
    by_cases hc6 : (0 : Int) ≤ x3
    · have h := (if_pos hc6).symm.trans h
      refine AW.condP ((0 : Int) ≤ x3) rfl hc6 ?_
      refine AW.skip (ρ' := [(0, (eStr p0)), (1, (eU8 p1)), (5, (eI64 x3))]) (H' := []) ⟨rfl, rfl, rfl, trivial⟩ (Sub.refl _) ?_
      refine AW.seq ?_
      refine AW.block ?_
      refine AW.seq ?_
      refine AW.reg ?_
      refine AO.calm rfl 13 rfl (by decide) (eStr p0) (Calm.move rfl rfl) ?_
      refine AO.calm rfl 14 rfl (by decide) (eI64 x3) (Calm.move rfl rfl) ?_
      obtain ⟨hg7, h⟩ := of_guard h
      refine AO.calm rfl 15 rfl (by decide) (eU8 (byteAt p0 x3)) (Calm.idxS rfl rfl rfl hg7 Try.underlying9) ?_
      refine AO.calm rfl 16 rfl (by decide) (eU8 p1) (Calm.move rfl rfl) ?_
      refine AO.calm rfl 17 rfl (by decide) (eBool (decide ((byteAt p0 x3) = p1))) (Calm.int rfl rfl rfl rfl) ?_
      refine AO.nil (ρ' := [(0, (eStr p0)), (1, (eU8 p1)), (5, (eI64 x3)), (17, (eBool (decide ((byteAt p0 x3) = p1))))]) (H' := []) ⟨rfl, rfl, rfl, rfl, trivial⟩ (Sub.refl _) ?_
      by_cases hc8 : (byteAt p0 x3) = p1
      · have h := (if_pos hc8).symm.trans h
        refine AW.condP ((byteAt p0 x3) = p1) rfl hc8 ?_
        refine AW.seq ?_
        refine AW.reg ?_
        refine AO.calm rfl 18 rfl (by decide) (eI64 x3) (Calm.move rfl rfl) ?_
        refine AO.calm rfl 4 rfl (by decide) (eI64 x3) (Calm.assign rfl rfl) ?_
        refine AO.nil (ρ' := [(4, (eI64 x3))]) (H' := []) ⟨rfl, trivial⟩ (Sub.refl _) ?_
        refine AW.ret (ρ' := [(4, (eI64 x3))]) (H' := []) ⟨rfl, trivial⟩ (Sub.refl _) ?_
        have hr := Option.some.inj h
        subst hr
        exact ⟨[(eI64 x3)], ⟨rfl, rfl, trivial⟩, rfl⟩
      · have h := (if_neg hc8).symm.trans h
        refine AW.condN ((byteAt p0 x3) = p1) rfl hc8 ?_
        refine AW.skip (ρ' := [(0, (eStr p0)), (1, (eU8 p1)), (5, (eI64 x3))]) (H' := []) ⟨rfl, rfl, rfl, trivial⟩ (Sub.refl _) ?_
        refine AW.reg ?_
        refine AO.calm rfl 11 rfl (by decide) (eI64 x3) (Calm.move rfl rfl) ?_
        refine AO.calm rfl 12 rfl (by decide) (eI64 (w64 (x3 - (1 : Int)))) (Calm.int rfl rfl rfl rfl) ?_
        refine AO.calm rfl 5 rfl (by decide) (eI64 (w64 (x3 - (1 : Int)))) (Calm.assign rfl rfl) ?_
        refine AO.nil (ρ' := [(0, (eStr p0)), (1, (eU8 p1)), (5, (eI64 (w64 (x3 - (1 : Int)))))]) (H' := []) ⟨rfl, rfl, rfl, trivial⟩ (Sub.refl _) ?_
        exact ⟨kq5, Nat.lt_succ_self _, (w64 (x3 - (1 : Int))), rfl, rfl, by rw [hrec4]; exact h⟩
    · have h := (if_neg hc6).symm.trans h
      refine AW.condN ((0 : Int) ≤ x3) rfl hc6 ?_
      refine AW.exit (ρ' := []) (H' := []) trivial (Sub.refl _) ?_
      exact ⟨rfl, rfl, h⟩
  · rintro _ _ ⟨rfl, rfl, h⟩
    rw [internal_bytealg_LastIndexByteString_c0.eq_1] at h
    refine AW.seq ?_
    refine AW.reg ?_
    refine AO.calm rfl 4 rfl (by decide) (eI64 (-1 : Int)) (Calm.assign rfl rfl) ?_
    refine AO.nil (ρ' := [(4, (eI64 (-1 : Int)))]) (H' := []) ⟨rfl, trivial⟩ (Sub.refl _) ?_
    refine AW.ret (ρ' := [(4, (eI64 (-1 : Int)))]) (H' := []) ⟨rfl, trivial⟩ (Sub.refl _) ?_
    have hr := Option.some.inj h
    subst hr
    exact ⟨[(eI64 (-1 : Int))], ⟨rfl, rfl, trivial⟩, rfl⟩
end Go.Avl.T2
/- strings.LastIndex; printed by avmain.py. -/
namespace Go.Avl.T2
open Go Go.RowKit Go.Proofs Go.Avl
set_option linter.unusedVariables false
set_option maxRecDepth 100000
set_option maxHeartbeats 4000000
attribute [local irreducible] AW AO AQ Spec SpecH Calm

def strings_LastIndex (k : Nat) (p0 : ByteArray) (p1 : ByteArray) : Option Int :=
  if (p1.size : Int) = (0 : Int) then some ((p0.size : Int))
  else if (p1.size : Int) = (1 : Int) then if 0 ≤ (0 : Int) ∧ (0 : Int) < (p1.size : Int) then (internal_bytealg_LastIndexByteString k p0 (byteAt p1 (0 : Int))).bind fun t6 =>
  some (t6)
  else none
  else if (p1.size : Int) = (p0.size : Int) then if p1 = p0 then some ((0 : Int))
  else some ((-1 : Int))
  else if (p0.size : Int) < (p1.size : Int) then some ((-1 : Int))
  else none
theorem strings_LastIndex_spec {k : Nat} {p0 : ByteArray} {p1 : ByteArray} {r : Int} (h : strings_LastIndex k p0 p1 = some r) : Spec Try.prog 56 [(eStr p0), (eStr p1)] (eI64 r) := by
  rw [strings_LastIndex.eq_1] at h
  refine Spec.intro (res := [.tmp 4]) Try.func56 rfl rfl rfl (Nat.le_of_ble_eq_true rfl) ?_
  refine AW.seq ?_
  refine AW.reg ?_
  refine AO.calm rfl 4 rfl (by decide) (eI64 (0 : Int)) (Calm.assign rfl rfl) ?_
  refine AO.nil (ρ' := [(0, (eStr p0)), (1, (eStr p1))]) (H' := []) ⟨rfl, rfl, trivial⟩ (Sub.refl _) ?_
  refine AW.seq ?_
  refine AW.reg ?_
  refine AO.calm rfl 6 rfl (by decide) (eStr p1) (Calm.move rfl rfl) ?_
  refine AO.calm rfl 7 rfl (by decide) (eI64 (p1.size : Int)) (Calm.lenStr rfl rfl Try.underlying9) ?_
  refine AO.calm rfl 5 rfl (by decide) (eI64 (p1.size : Int)) (Calm.assign rfl rfl) ?_
  refine AO.nil (ρ' := [(0, (eStr p0)), (1, (eStr p1)), (5, (eI64 (p1.size : Int)))]) (H' := []) ⟨rfl, rfl, rfl, trivial⟩ (Sub.refl _) ?_
  refine AW.seq ?_
  refine AW.block ?_
  refine AW.seq ?_
  refine AW.reg ?_
  refine AO.calm rfl 9 rfl (by decide) (eI64 (p1.size : Int)) (Calm.move rfl rfl) ?_
  refine AO.calm rfl 10 rfl (by decide) (eBool (decide ((p1.size : Int) = (0 : Int)))) (Calm.int rfl rfl rfl rfl) ?_
  refine AO.calm rfl 8 rfl (by decide) (eBool (decide ((p1.size : Int) = (0 : Int)))) (Calm.assign rfl rfl) ?_
  refine AO.nil (ρ' := [(0, (eStr p0)), (1, (eStr p1)), (5, (eI64 (p1.size : Int))), (8, (eBool (decide ((p1.size : Int) = (0 : Int)))))]) (H' := []) ⟨rfl, rfl, rfl, rfl, trivial⟩ (Sub.refl _) ?_
  by_cases hc3 : (p1.size : Int) = (0 : Int)
  · have h := (if_pos hc3).symm.trans h
    refine AW.condP ((p1.size : Int) = (0 : Int)) rfl hc3 ?_
    refine AW.seq ?_
    refine AW.reg ?_
    refine AO.calm rfl 11 rfl (by decide) (eStr p0) (Calm.move rfl rfl) ?_
    refine AO.calm rfl 12 rfl (by decide) (eI64 (p0.size : Int)) (Calm.lenStr rfl rfl Try.underlying9) ?_
    refine AO.calm rfl 4 rfl (by decide) (eI64 (p0.size : Int)) (Calm.assign rfl rfl) ?_
    refine AO.nil (ρ' := [(4, (eI64 (p0.size : Int)))]) (H' := []) ⟨rfl, trivial⟩ (Sub.refl _) ?_
    refine AW.ret (ρ' := [(4, (eI64 (p0.size : Int)))]) (H' := []) ⟨rfl, trivial⟩ (Sub.refl _) ?_
    have hr := Option.some.inj h
    subst hr
    exact ⟨[(eI64 (p0.size : Int))], ⟨rfl, rfl, trivial⟩, rfl⟩
  · have h := (if_neg hc3).symm.trans h
    refine AW.condN ((p1.size : Int) = (0 : Int)) rfl hc3 ?_
    refine AW.seq ?_
    refine AW.reg ?_
    refine AO.calm rfl 14 rfl (by decide) (eI64 (p1.size : Int)) (Calm.move rfl rfl) ?_
    refine AO.calm rfl 15 rfl (by decide) (eBool (decide ((p1.size : Int) = (1 : Int)))) (Calm.int rfl rfl rfl rfl) ?_
    refine AO.calm rfl 13 rfl (by decide) (eBool (decide ((p1.size : Int) = (1 : Int)))) (Calm.assign rfl rfl) ?_
    refine AO.nil (ρ' := [(0, (eStr p0)), (1, (eStr p1)), (5, (eI64 (p1.size : Int))), (13, (eBool (decide ((p1.size : Int) = (1 : Int)))))]) (H' := []) ⟨rfl, rfl, rfl, rfl, trivial⟩ (Sub.refl _) ?_
    by_cases hc4 : (p1.size : Int) = (1 : Int)
    · have h := (if_pos hc4).symm.trans h
      refine AW.condP ((p1.size : Int) = (1 : Int)) rfl hc4 ?_
      refine AW.seq ?_
      refine AW.reg ?_
      refine AO.calm rfl 16 rfl (by decide) (eStr p0) (Calm.move rfl rfl) ?_
      refine AO.calm rfl 17 rfl (by decide) (eStr p1) (Calm.move rfl rfl) ?_
      obtain ⟨hg5, h⟩ := of_guard h
      refine AO.calm rfl 18 rfl (by decide) (eU8 (byteAt p1 (0 : Int))) (Calm.idxS rfl rfl rfl hg5 Try.underlying9) ?_
      obtain ⟨t6, et6, h⟩ := of_bind h
      refine AO.callS [(eStr p0), (eU8 (byteAt p1 (0 : Int)))] (eI64 t6) 19 rfl (by decide) ok76 rfl rfl rfl ⟨rfl, rfl, rfl, rfl, trivial⟩ (internal_bytealg_LastIndexByteString_spec et6) ?_
      refine AO.calm rfl 4 rfl (by decide) (eI64 t6) (Calm.assign rfl rfl) ?_
      refine AO.nil (ρ' := [(4, (eI64 t6))]) (H' := []) ⟨rfl, trivial⟩ (Sub.refl _) ?_
      refine AW.ret (ρ' := [(4, (eI64 t6))]) (H' := []) ⟨rfl, trivial⟩ (Sub.refl _) ?_
      have hr := Option.some.inj h
      subst hr
      exact ⟨[(eI64 t6)], ⟨rfl, rfl, trivial⟩, rfl⟩
    · have h := (if_neg hc4).symm.trans h
      refine AW.condN ((p1.size : Int) = (1 : Int)) rfl hc4 ?_
      refine AW.seq ?_
      refine AW.reg ?_
      refine AO.calm rfl 21 rfl (by decide) (eI64 (p1.size : Int)) (Calm.move rfl rfl) ?_
      refine AO.calm rfl 22 rfl (by decide) (eStr p0) (Calm.move rfl rfl) ?_
      refine AO.calm rfl 23 rfl (by decide) (eI64 (p0.size : Int)) (Calm.lenStr rfl rfl Try.underlying9) ?_
      refine AO.calm rfl 24 rfl (by decide) (eBool (decide ((p1.size : Int) = (p0.size : Int)))) (Calm.int rfl rfl rfl rfl) ?_
      refine AO.calm rfl 20 rfl (by decide) (eBool (decide ((p1.size : Int) = (p0.size : Int)))) (Calm.assign rfl rfl) ?_
      refine AO.nil (ρ' := [(0, (eStr p0)), (1, (eStr p1)), (5, (eI64 (p1.size : Int))), (20, (eBool (decide ((p1.size : Int) = (p0.size : Int)))))]) (H' := []) ⟨rfl, rfl, rfl, rfl, trivial⟩ (Sub.refl _) ?_
      by_cases hc7 : (p1.size : Int) = (p0.size : Int)
      · have h := (if_pos hc7).symm.trans h
        refine AW.condP ((p1.size : Int) = (p0.size : Int)) rfl hc7 ?_
        refine AW.seq ?_
        refine AW.seq ?_
        refine AW.reg ?_
        refine AO.calm rfl 25 rfl (by decide) (eStr p1) (Calm.move rfl rfl) ?_
        refine AO.calm rfl 26 rfl (by decide) (eStr p0) (Calm.move rfl rfl) ?_
        refine AO.calm rfl 27 rfl (by decide) (eBool (decide (p1 = p0))) (Calm.str rfl rfl rfl rfl) ?_
        refine AO.nil (ρ' := [(27, (eBool (decide (p1 = p0))))]) (H' := []) ⟨rfl, trivial⟩ (Sub.refl _) ?_
        by_cases hc8 : p1 = p0
        · have h := (if_pos hc8).symm.trans h
          refine AW.condP (p1 = p0) rfl hc8 ?_
          refine AW.seq ?_
          refine AW.reg ?_
          refine AO.calm rfl 4 rfl (by decide) (eI64 (0 : Int)) (Calm.assign rfl rfl) ?_
          refine AO.nil (ρ' := [(4, (eI64 (0 : Int)))]) (H' := []) ⟨rfl, trivial⟩ (Sub.refl _) ?_
          refine AW.ret (ρ' := [(4, (eI64 (0 : Int)))]) (H' := []) ⟨rfl, trivial⟩ (Sub.refl _) ?_
          have hr := Option.some.inj h
          subst hr
          exact ⟨[(eI64 (0 : Int))], ⟨rfl, rfl, trivial⟩, rfl⟩
        · have h := (if_neg hc8).symm.trans h
          refine AW.condN (p1 = p0) rfl hc8 ?_
          refine AW.skip (ρ' := []) (H' := []) trivial (Sub.refl _) ?_
          refine AW.seq ?_
          refine AW.reg ?_
          refine AO.calm rfl 4 rfl (by decide) (eI64 (-1 : Int)) (Calm.assign rfl rfl) ?_
          refine AO.nil (ρ' := [(4, (eI64 (-1 : Int)))]) (H' := []) ⟨rfl, trivial⟩ (Sub.refl _) ?_
          refine AW.ret (ρ' := [(4, (eI64 (-1 : Int)))]) (H' := []) ⟨rfl, trivial⟩ (Sub.refl _) ?_
          have hr := Option.some.inj h
          subst hr
          exact ⟨[(eI64 (-1 : Int))], ⟨rfl, rfl, trivial⟩, rfl⟩
      · have h := (if_neg hc7).symm.trans h
        refine AW.condN ((p1.size : Int) = (p0.size : Int)) rfl hc7 ?_
        refine AW.seq ?_
        refine AW.reg ?_
        refine AO.calm rfl 29 rfl (by decide) (eI64 (p1.size : Int)) (Calm.move rfl rfl) ?_
        refine AO.calm rfl 30 rfl (by decide) (eStr p0) (Calm.move rfl rfl) ?_
        refine AO.calm rfl 31 rfl (by decide) (eI64 (p0.size : Int)) (Calm.lenStr rfl rfl Try.underlying9) ?_
        refine AO.calm rfl 32 rfl (by decide) (eBool (decide ((p0.size : Int) < (p1.size : Int)))) (Calm.int rfl rfl rfl rfl) ?_
        refine AO.calm rfl 28 rfl (by decide) (eBool (decide ((p0.size : Int) < (p1.size : Int)))) (Calm.assign rfl rfl) ?_
        refine AO.nil (ρ' := [(0, (eStr p0)), (1, (eStr p1)), (28, (eBool (decide ((p0.size : Int) < (p1.size : Int)))))]) (H' := []) ⟨rfl, rfl, rfl, trivial⟩ (Sub.refl _) ?_
        by_cases hc9 : (p0.size : Int) < (p1.size : Int)
        · have h := (if_pos hc9).symm.trans h
          refine AW.condP ((p0.size : Int) < (p1.size : Int)) rfl hc9 ?_
          refine AW.seq ?_
          refine AW.reg ?_
          refine AO.calm rfl 4 rfl (by decide) (eI64 (-1 : Int)) (Calm.assign rfl rfl) ?_
          refine AO.nil (ρ' := [(4, (eI64 (-1 : Int)))]) (H' := []) ⟨rfl, trivial⟩ (Sub.refl _) ?_
          refine AW.ret (ρ' := [(4, (eI64 (-1 : Int)))]) (H' := []) ⟨rfl, trivial⟩ (Sub.refl _) ?_
          have hr := Option.some.inj h
          subst hr
          exact ⟨[(eI64 (-1 : Int))], ⟨rfl, rfl, trivial⟩, rfl⟩
        · have h := (if_neg hc9).symm.trans h
          cases h
end Go.Avl.T2
/- bosket/spot.Of; printed by avmain.py. -/
namespace Go.Avl.T2
open Go Go.RowKit Go.Proofs Go.Avl
set_option linter.unusedVariables false
set_option maxRecDepth 100000
set_option maxHeartbeats 4000000
attribute [local irreducible] AW AO AQ Spec SpecH Calm

def spot_Of (k : Nat) (p0 : ByteArray) (p1 : Int) : Option S23 :=
  if 0 ≤ (0 : Int) ∧ (0 : Int) ≤ (min (max p1 (0 : Int)) (p0.size : Int)) ∧ (min (max p1 (0 : Int)) (p0.size : Int)) ≤ (p0.size : Int) then (strings_Count k (p0.extract (0 : Int).toNat (min (max p1 (0 : Int)) (p0.size : Int)).toNat) (ByteArray.mk #[10])).bind fun t5 =>
  if 0 ≤ (0 : Int) ∧ (0 : Int) ≤ (min (max p1 (0 : Int)) (p0.size : Int)) ∧ (min (max p1 (0 : Int)) (p0.size : Int)) ≤ (p0.size : Int) then (strings_LastIndex k (p0.extract (0 : Int).toNat (min (max p1 (0 : Int)) (p0.size : Int)).toNat) (ByteArray.mk #[10])).bind fun t7 =>
  some ((S23.mk (w64 (t5 + (1 : Int))) (w64 ((min (max p1 (0 : Int)) (p0.size : Int)) - t7))))
  else none
  else none
theorem spot_Of_spec {k : Nat} {p0 : ByteArray} {p1 : Int} {r : S23} (h : spot_Of k p0 p1 = some r) : Spec Try.prog 14 [(eStr p0), (eI64 p1)] (e23 r) := by
  rw [spot_Of.eq_1] at h
  refine Spec.intro (res := [.cell 4 23]) Try.func14 rfl rfl rfl (Nat.le_of_ble_eq_true rfl) ?_
  refine AW.seq ?_
  refine AW.reg ?_
  refine AO.alloc rfl 4 rfl (by decide) rfl zr23 lay23 fun n3 => ?_
  refine AO.nil (ρ' := [(0, (eStr p0)), (1, (eI64 p1)), (4, (.ptr n3 0))]) (H' := [(n3, .mem (.st [(1, (eI64 (0 : Int))), (1, (eI64 (0 : Int)))]))]) ⟨rfl, rfl, rfl, trivial⟩ (Sub.refl _) ?_
  refine AW.seq ?_
  refine AW.reg ?_
  refine AO.calm rfl 6 rfl (by decide) (eI64 p1) (Calm.move rfl rfl) ?_
  refine AO.calm rfl 7 rfl (by decide) (eI64 (max p1 (0 : Int))) (Calm.max2 rfl rfl rfl) ?_
  refine AO.calm rfl 8 rfl (by decide) (eStr p0) (Calm.move rfl rfl) ?_
  refine AO.calm rfl 9 rfl (by decide) (eI64 (p0.size : Int)) (Calm.lenStr rfl rfl Try.underlying9) ?_
  refine AO.calm rfl 10 rfl (by decide) (eI64 (min (max p1 (0 : Int)) (p0.size : Int))) (Calm.min2 rfl rfl rfl) ?_
  refine AO.calm rfl 1 rfl (by decide) (eI64 (min (max p1 (0 : Int)) (p0.size : Int))) (Calm.assign rfl rfl) ?_
  refine AO.nil (ρ' := [(0, (eStr p0)), (1, (eI64 (min (max p1 (0 : Int)) (p0.size : Int)))), (4, (.ptr n3 0))]) (H' := [(n3, .mem (.st [(1, (eI64 (0 : Int))), (1, (eI64 (0 : Int)))]))]) ⟨rfl, rfl, rfl, trivial⟩ (Sub.refl _) ?_
  refine AW.seq ?_
  refine AW.reg ?_
  refine AO.calm rfl 11 rfl (by decide) (eStr p0) (Calm.move rfl rfl) ?_
  refine AO.calm rfl 12 rfl (by decide) (eI64 (min (max p1 (0 : Int)) (p0.size : Int))) (Calm.move rfl rfl) ?_
  obtain ⟨hg4, h⟩ := of_guard h
  refine AO.calm rfl 13 rfl (by decide) (eStr (p0.extract (0 : Int).toNat (min (max p1 (0 : Int)) (p0.size : Int)).toNat)) (Calm.sliceS rfl rfl rfl rfl hg4 Try.underlying9) ?_
  obtain ⟨t5, et5, h⟩ := of_bind h
  refine AO.callS [(eStr (p0.extract (0 : Int).toNat (min (max p1 (0 : Int)) (p0.size : Int)).toNat)), (eStr (ByteArray.mk #[10]))] (eI64 t5) 14 rfl (by decide) ok55 rfl rfl rfl ⟨rfl, rfl, rfl, rfl, trivial⟩ (strings_Count_spec et5) ?_
  refine AO.calm rfl 5 rfl (by decide) (eI64 t5) (Calm.assign rfl rfl) ?_
  refine AO.nil (ρ' := [(0, (eStr p0)), (1, (eI64 (min (max p1 (0 : Int)) (p0.size : Int)))), (4, (.ptr n3 0)), (5, (eI64 t5))]) (H' := [(n3, .mem (.st [(1, (eI64 (0 : Int))), (1, (eI64 (0 : Int)))]))]) ⟨rfl, rfl, rfl, rfl, trivial⟩ (Sub.refl _) ?_
  refine AW.seq ?_
  refine AW.reg ?_
  refine AO.calm rfl 15 rfl (by decide) (eI64 t5) (Calm.move rfl rfl) ?_
  refine AO.calm rfl 16 rfl (by decide) (eI64 (w64 (t5 + (1 : Int)))) (Calm.int rfl rfl rfl rfl) ?_
  refine AO.calm rfl 17 rfl (by decide) (eI64 (min (max p1 (0 : Int)) (p0.size : Int))) (Calm.move rfl rfl) ?_
  refine AO.calm rfl 18 rfl (by decide) (eStr p0) (Calm.move rfl rfl) ?_
  refine AO.calm rfl 19 rfl (by decide) (eI64 (min (max p1 (0 : Int)) (p0.size : Int))) (Calm.move rfl rfl) ?_
  obtain ⟨hg6, h⟩ := of_guard h
  refine AO.calm rfl 20 rfl (by decide) (eStr (p0.extract (0 : Int).toNat (min (max p1 (0 : Int)) (p0.size : Int)).toNat)) (Calm.sliceS rfl rfl rfl rfl hg6 Try.underlying9) ?_
  obtain ⟨t7, et7, h⟩ := of_bind h
  refine AO.callS [(eStr (p0.extract (0 : Int).toNat (min (max p1 (0 : Int)) (p0.size : Int)).toNat)), (eStr (ByteArray.mk #[10]))] (eI64 t7) 21 rfl (by decide) ok56 rfl rfl rfl ⟨rfl, rfl, rfl, rfl, trivial⟩ (strings_LastIndex_spec et7) ?_
  refine AO.calm rfl 22 rfl (by decide) (eI64 (w64 ((min (max p1 (0 : Int)) (p0.size : Int)) - t7))) (Calm.int rfl rfl rfl rfl) ?_
  refine AO.calm rfl 23 rfl (by decide) (.st [(1, (eI64 (w64 (t5 + (1 : Int))))), (1, (eI64 (w64 ((min (max p1 (0 : Int)) (p0.size : Int)) - t7))))]) (Calm.build (qs := [(0, (eI64 (w64 (t5 + (1 : Int))))), (1, (eI64 (w64 ((min (max p1 (0 : Int)) (p0.size : Int)) - t7))))]) rfl ⟨rfl, rfl, rfl, rfl, rfl, rfl, trivial⟩ Try.underlying23 rfl zr23 lay23 (.cons rfl rfl rfl rfl (Put.cast (Put.fld0 Put.here) rfl) (.cons rfl rfl rfl rfl (Put.cast (Put.fldS (Put.fld0 Put.here)) rfl) .nil)) rfl) ?_
  refine AO.store (X' := (e23 (S23.mk (w64 (t5 + (1 : Int))) (w64 ((min (max p1 (0 : Int)) (p0.size : Int)) - t7))))) 0 rfl rfl rfl rfl rfl rfl (Put.cast Put.here rfl) rfl rfl sz23 rfl ?_
  refine AO.nil (ρ' := [(4, (.ptr n3 0))]) (H' := [(n3, .mem (e23 (S23.mk (w64 (t5 + (1 : Int))) (w64 ((min (max p1 (0 : Int)) (p0.size : Int)) - t7)))))]) ⟨rfl, trivial⟩ (Sub.refl _) ?_
  refine AW.ret (ρ' := [(4, (.ptr n3 0))]) (H' := [(n3, .mem (e23 (S23.mk (w64 (t5 + (1 : Int))) (w64 ((min (max p1 (0 : Int)) (p0.size : Int)) - t7)))))]) ⟨rfl, trivial⟩ (Sub.refl _) ?_
  have hr := Option.some.inj h
  subst hr
  exact ⟨[(e23 (S23.mk (w64 (t5 + (1 : Int))) (w64 ((min (max p1 (0 : Int)) (p0.size : Int)) - t7))))], ⟨⟨_, 0, rfl, rfl, ag23, sz23⟩, trivial⟩, rfl⟩
end Go.Avl.T2
/- bosket/spot.natural; printed by avmain.py. -/
namespace Go.Avl.T2
open Go Go.RowKit Go.Proofs Go.Avl
set_option linter.unusedVariables false
set_option maxRecDepth 100000
set_option maxHeartbeats 4000000
attribute [local irreducible] AW AO AQ Spec SpecH Calm

def spot_natural : Nat → Int → Option ByteArray
  | 0, _ => none
  | k + 1, p0 =>
    if p0 < (10 : Int) then some ((strOfNums ([(w8 (u64 ((48 : Int) + p0)))] : List Int)))
    else ((spot_natural k) (IntKind.u64.wrap (p0.tdiv (10 : Int)))).bind fun t4 =>
    if t4.size + (strOfNums ([(w8 (u64 ((48 : Int) + (p0.tmod (10 : Int)))))] : List Int)).size ≤ 9223372036854775807 then some ((t4 ++ (strOfNums ([(w8 (u64 ((48 : Int) + (p0.tmod (10 : Int)))))] : List Int))))
    else none
theorem spot_natural_spec' : ∀ (k : Nat) (p0 : Int) (r : ByteArray), spot_natural k p0 = some r → Spec Try.prog 80 [(eU64 p0)] (eStr r) := by
  intro k
  induction k with
  | zero => intro p0 r h; rw [spot_natural.eq_1] at h; cases h
  | succ k hself =>
  intro p0 r h
  rw [spot_natural.eq_2] at h
  generalize hs : spot_natural k = self at h hself
  refine Spec.intro (res := [.tmp 2]) Try.func80 rfl rfl rfl (Nat.le_of_ble_eq_true rfl) ?_
  refine AW.seq ?_
  refine AW.reg ?_
  refine AO.calm rfl 2 rfl (by decide) (eStr (ByteArray.mk #[])) (Calm.assign rfl rfl) ?_
  refine AO.nil (ρ' := [(0, (eU64 p0))]) (H' := []) ⟨rfl, trivial⟩ (Sub.refl _) ?_
  refine AW.seq ?_
  refine AW.seq ?_
  refine AW.reg ?_
  refine AO.calm rfl 3 rfl (by decide) (eU64 p0) (Calm.move rfl rfl) ?_
  refine AO.calm rfl 4 rfl (by decide) (eBool (decide (p0 < (10 : Int)))) (Calm.int rfl rfl rfl rfl) ?_
  refine AO.nil (ρ' := [(0, (eU64 p0)), (4, (eBool (decide (p0 < (10 : Int)))))]) (H' := []) ⟨rfl, rfl, trivial⟩ (Sub.refl _) ?_
  by_cases hc2 : p0 < (10 : Int)
  · have h := (if_pos hc2).symm.trans h
    refine AW.condP (p0 < (10 : Int)) rfl hc2 ?_
    refine AW.seq ?_
    refine AW.reg ?_
    refine AO.calm rfl 5 rfl (by decide) (eU64 p0) (Calm.move rfl rfl) ?_
    refine AO.calm rfl 6 rfl (by decide) (eU64 (u64 ((48 : Int) + p0))) (Calm.int rfl rfl rfl rfl) ?_
    refine AO.calm rfl 7 rfl (by decide) (eU8 (w8 (u64 ((48 : Int) + p0)))) (Calm.conv rfl rfl Try.underlying83 Try.underlying5) ?_
    refine AO.lit (Z := (eU8 (0 : Int))) (xs := (([(w8 (u64 ((48 : Int) + p0)))] : List Int).map eU8)) (qs := [(0, (eU8 (w8 (u64 ((48 : Int) + p0)))))]) rfl 8 rfl (by decide) rfl ⟨rfl, rfl, rfl, trivial⟩ Try.underlying84 sz5 zr5 lay5 rfl (by decide) (litOK (z := 1) [(eU8 (w8 (u64 ((48 : Int) + p0))))] rfl ⟨⟨rfl, rfl⟩, trivial⟩) rfl fun n3 => ?_
    refine AO.calm rfl 9 rfl (by decide) (eStr (strOfNums ([(w8 (u64 ((48 : Int) + p0)))] : List Int))) (Calm.strO 0 rfl rfl rfl Try.underlying84 Try.underlying9 Try.underlying5) ?_
    refine AO.calm rfl 2 rfl (by decide) (eStr (strOfNums ([(w8 (u64 ((48 : Int) + p0)))] : List Int))) (Calm.assign rfl rfl) ?_
    refine AO.nil (ρ' := [(2, (eStr (strOfNums ([(w8 (u64 ((48 : Int) + p0)))] : List Int))))]) (H' := []) ⟨rfl, trivial⟩ (Sub.nil _) ?_
    refine AW.ret (ρ' := [(2, (eStr (strOfNums ([(w8 (u64 ((48 : Int) + p0)))] : List Int))))]) (H' := []) ⟨rfl, trivial⟩ (Sub.refl _) ?_
    have hr := Option.some.inj h
    subst hr
    exact ⟨[(eStr (strOfNums ([(w8 (u64 ((48 : Int) + p0)))] : List Int)))], ⟨rfl, rfl, trivial⟩, rfl⟩
  · have h := (if_neg hc2).symm.trans h
    refine AW.condN (p0 < (10 : Int)) rfl hc2 ?_
    refine AW.skip (ρ' := [(0, (eU64 p0))]) (H' := []) ⟨rfl, trivial⟩ (Sub.refl _) ?_
    refine AW.seq ?_
    obtain ⟨t4, et4, h⟩ := of_bind h
    obtain ⟨hg6, h⟩ := of_guard h
    refine AW.regAny (by rfl) (by decide +kernel) [(eU64 p0), (eU64 (IntKind.u64.wrap (p0.tdiv (10 : Int)))), (eStr t4), (eU64 p0), (eU64 (p0.tmod (10 : Int))), (eU64 (u64 ((48 : Int) + (p0.tmod (10 : Int))))), (eU8 (w8 (u64 ((48 : Int) + (p0.tmod (10 : Int)))))), (.fz 1 (([(w8 (u64 ((48 : Int) + (p0.tmod (10 : Int)))))] : List Int).map eU8)), (eStr (strOfNums ([(w8 (u64 ((48 : Int) + (p0.tmod (10 : Int)))))] : List Int))), (eStr (t4 ++ (strOfNums ([(w8 (u64 ((48 : Int) + (p0.tmod (10 : Int)))))] : List Int)))), (eStr (t4 ++ (strOfNums ([(w8 (u64 ((48 : Int) + (p0.tmod (10 : Int)))))] : List Int))))] [(0, (eU64 p0))] ⟨rfl, trivial⟩ rfl ?_ [(2, (eStr (t4 ++ (strOfNums ([(w8 (u64 ((48 : Int) + (p0.tmod (10 : Int)))))] : List Int)))))] [] ⟨rfl, trivial⟩ (Sub.refl _) ?_
    · refine ⟨?_, ?_, ?_, ?_, ?_, ?_, ?_, ?_, ?_, ?_, ?_, trivial⟩
      · refine AO.weak (ρ' := [(0, (eU64 p0))]) (H' := []) ⟨rfl, trivial⟩ (Sub.refl _) ?_
        refine AO.calm rfl 10 rfl (by decide) (eU64 p0) (Calm.move rfl rfl) ?_
        exact AO.nilE (ρ' := [(10, (eU64 p0))]) (H' := []) ⟨⟨_, rfl, rfl⟩, Sub.refl _⟩ ⟨rfl, trivial⟩ (Sub.refl _)
      · refine AO.weak (ρ' := [(10, (eU64 p0))]) (H' := []) ⟨rfl, trivial⟩ (Sub.refl _) ?_
        refine AO.calm rfl 11 rfl (by decide) (eU64 (IntKind.u64.wrap (p0.tdiv (10 : Int)))) (Calm.quo rfl rfl rfl (by decide)) ?_
        exact AO.nilE (ρ' := [(11, (eU64 (IntKind.u64.wrap (p0.tdiv (10 : Int)))))]) (H' := []) ⟨⟨_, rfl, rfl⟩, Sub.refl _⟩ ⟨rfl, trivial⟩ (Sub.refl _)
      · refine AO.weak (ρ' := [(11, (eU64 (IntKind.u64.wrap (p0.tdiv (10 : Int)))))]) (H' := []) ⟨rfl, trivial⟩ (Sub.refl _) ?_
        refine AO.callS [(eU64 (IntKind.u64.wrap (p0.tdiv (10 : Int))))] (eStr t4) 12 rfl (by decide) ok80 rfl rfl rfl ⟨rfl, rfl, trivial⟩ (hself _ _ et4) ?_
        exact AO.nilE (ρ' := [(12, (eStr t4))]) (H' := []) ⟨⟨_, rfl, rfl⟩, Sub.refl _⟩ ⟨rfl, trivial⟩ (Sub.refl _)
      · refine AO.weak (ρ' := [(0, (eU64 p0))]) (H' := []) ⟨rfl, trivial⟩ (Sub.refl _) ?_
        refine AO.calm rfl 13 rfl (by decide) (eU64 p0) (Calm.move rfl rfl) ?_
        exact AO.nilE (ρ' := [(13, (eU64 p0))]) (H' := []) ⟨⟨_, rfl, rfl⟩, Sub.refl _⟩ ⟨rfl, trivial⟩ (Sub.refl _)
      · refine AO.weak (ρ' := [(13, (eU64 p0))]) (H' := []) ⟨rfl, trivial⟩ (Sub.refl _) ?_
        refine AO.calm rfl 14 rfl (by decide) (eU64 (p0.tmod (10 : Int))) (Calm.rem rfl rfl rfl (by decide)) ?_
        exact AO.nilE (ρ' := [(14, (eU64 (p0.tmod (10 : Int))))]) (H' := []) ⟨⟨_, rfl, rfl⟩, Sub.refl _⟩ ⟨rfl, trivial⟩ (Sub.refl _)
      · refine AO.weak (ρ' := [(14, (eU64 (p0.tmod (10 : Int))))]) (H' := []) ⟨rfl, trivial⟩ (Sub.refl _) ?_
        refine AO.calm rfl 15 rfl (by decide) (eU64 (u64 ((48 : Int) + (p0.tmod (10 : Int))))) (Calm.int rfl rfl rfl rfl) ?_
        exact AO.nilE (ρ' := [(15, (eU64 (u64 ((48 : Int) + (p0.tmod (10 : Int))))))]) (H' := []) ⟨⟨_, rfl, rfl⟩, Sub.refl _⟩ ⟨rfl, trivial⟩ (Sub.refl _)
      · refine AO.weak (ρ' := [(15, (eU64 (u64 ((48 : Int) + (p0.tmod (10 : Int))))))]) (H' := []) ⟨rfl, trivial⟩ (Sub.refl _) ?_
        refine AO.calm rfl 16 rfl (by decide) (eU8 (w8 (u64 ((48 : Int) + (p0.tmod (10 : Int)))))) (Calm.conv rfl rfl Try.underlying83 Try.underlying5) ?_
        exact AO.nilE (ρ' := [(16, (eU8 (w8 (u64 ((48 : Int) + (p0.tmod (10 : Int)))))))]) (H' := []) ⟨⟨_, rfl, rfl⟩, Sub.refl _⟩ ⟨rfl, trivial⟩ (Sub.refl _)
      · refine AO.weak (ρ' := [(16, (eU8 (w8 (u64 ((48 : Int) + (p0.tmod (10 : Int)))))))]) (H' := []) ⟨rfl, trivial⟩ (Sub.refl _) ?_
        refine AO.lit (Z := (eU8 (0 : Int))) (xs := (([(w8 (u64 ((48 : Int) + (p0.tmod (10 : Int)))))] : List Int).map eU8)) (qs := [(0, (eU8 (w8 (u64 ((48 : Int) + (p0.tmod (10 : Int)))))))]) rfl 17 rfl (by decide) rfl ⟨rfl, rfl, rfl, trivial⟩ Try.underlying84 sz5 zr5 lay5 rfl (by decide) (litOK (z := 1) [(eU8 (w8 (u64 ((48 : Int) + (p0.tmod (10 : Int))))))] rfl ⟨⟨rfl, rfl⟩, trivial⟩) rfl fun n5 => ?_
        refine AO.freezeS 0 [(17, (.fz 1 (([(w8 (u64 ((48 : Int) + (p0.tmod (10 : Int)))))] : List Int).map eU8)))] rfl ⟨fz_all rfl, trivial⟩ ?_
        exact AO.nilE (ρ' := [(17, (.fz 1 (([(w8 (u64 ((48 : Int) + (p0.tmod (10 : Int)))))] : List Int).map eU8)))]) (H' := []) ⟨⟨_, rfl, rfl⟩, Sub.refl _⟩ ⟨rfl, trivial⟩ (Sub.refl _)
      · refine AO.weak (ρ' := [(17, (.fz 1 (([(w8 (u64 ((48 : Int) + (p0.tmod (10 : Int)))))] : List Int).map eU8)))]) (H' := []) ⟨rfl, trivial⟩ (Sub.refl _) ?_
        refine AO.calm rfl 18 rfl (by decide) (eStr (strOfNums ([(w8 (u64 ((48 : Int) + (p0.tmod (10 : Int)))))] : List Int))) (Calm.strL rfl rfl Try.underlying84 Try.underlying9 Try.underlying5) ?_
        exact AO.nilE (ρ' := [(18, (eStr (strOfNums ([(w8 (u64 ((48 : Int) + (p0.tmod (10 : Int)))))] : List Int))))]) (H' := []) ⟨⟨_, rfl, rfl⟩, Sub.refl _⟩ ⟨rfl, trivial⟩ (Sub.refl _)
      · refine AO.weak (ρ' := [(12, (eStr t4)), (18, (eStr (strOfNums ([(w8 (u64 ((48 : Int) + (p0.tmod (10 : Int)))))] : List Int))))]) (H' := []) ⟨rfl, rfl, trivial⟩ (Sub.refl _) ?_
        refine AO.calm rfl 19 rfl (by decide) (eStr (t4 ++ (strOfNums ([(w8 (u64 ((48 : Int) + (p0.tmod (10 : Int)))))] : List Int)))) (Calm.cat rfl rfl rfl hg6) ?_
        exact AO.nilE (ρ' := [(19, (eStr (t4 ++ (strOfNums ([(w8 (u64 ((48 : Int) + (p0.tmod (10 : Int)))))] : List Int)))))]) (H' := []) ⟨⟨_, rfl, rfl⟩, Sub.refl _⟩ ⟨rfl, trivial⟩ (Sub.refl _)
      · refine AO.weak (ρ' := [(19, (eStr (t4 ++ (strOfNums ([(w8 (u64 ((48 : Int) + (p0.tmod (10 : Int)))))] : List Int)))))]) (H' := []) ⟨rfl, trivial⟩ (Sub.refl _) ?_
        refine AO.calm rfl 2 rfl (by decide) (eStr (t4 ++ (strOfNums ([(w8 (u64 ((48 : Int) + (p0.tmod (10 : Int)))))] : List Int)))) (Calm.assign rfl rfl) ?_
        exact AO.nilE (ρ' := [(2, (eStr (t4 ++ (strOfNums ([(w8 (u64 ((48 : Int) + (p0.tmod (10 : Int)))))] : List Int)))))]) (H' := []) ⟨⟨_, rfl, rfl⟩, Sub.refl _⟩ ⟨rfl, trivial⟩ (Sub.refl _)
    · refine AW.ret (ρ' := [(2, (eStr (t4 ++ (strOfNums ([(w8 (u64 ((48 : Int) + (p0.tmod (10 : Int)))))] : List Int)))))]) (H' := []) ⟨rfl, trivial⟩ (Sub.refl _) ?_
      have hr := Option.some.inj h
      subst hr
      exact ⟨[(eStr (t4 ++ (strOfNums ([(w8 (u64 ((48 : Int) + (p0.tmod (10 : Int)))))] : List Int))))], ⟨rfl, rfl, trivial⟩, rfl⟩
theorem spot_natural_spec {k : Nat} {p0 : Int} {r : ByteArray} (h : spot_natural k p0 = some r) : Spec Try.prog 80 [(eU64 p0)] (eStr r) := spot_natural_spec' k p0 r h
end Go.Avl.T2
/- bosket/spot.digits; printed by avmain.py. -/
namespace Go.Avl.T2
open Go Go.RowKit Go.Proofs Go.Avl
set_option linter.unusedVariables false
set_option maxRecDepth 100000
set_option maxHeartbeats 4000000
attribute [local irreducible] AW AO AQ Spec SpecH Calm

def spot_digits (k : Nat) (p0 : Int) : Option ByteArray :=
  if p0 < (0 : Int) then (spot_natural k (u64 (IntKind.i64.wrap (0 - p0)))).bind fun t3 =>
  if (ByteArray.mk #[45]).size + t3.size ≤ 9223372036854775807 then some (((ByteArray.mk #[45]) ++ t3))
  else none
  else (spot_natural k (u64 p0)).bind fun t5 =>
  some (t5)
theorem spot_digits_spec {k : Nat} {p0 : Int} {r : ByteArray} (h : spot_digits k p0 = some r) : Spec Try.prog 59 [(eI64 p0)] (eStr r) := by
  rw [spot_digits.eq_1] at h
  refine Spec.intro (res := [.tmp 2]) Try.func59 rfl rfl rfl (Nat.le_of_ble_eq_true rfl) ?_
  refine AW.seq ?_
  refine AW.reg ?_
  refine AO.calm rfl 2 rfl (by decide) (eStr (ByteArray.mk #[])) (Calm.assign rfl rfl) ?_
  refine AO.nil (ρ' := [(0, (eI64 p0))]) (H' := []) ⟨rfl, trivial⟩ (Sub.refl _) ?_
  refine AW.seq ?_
  refine AW.seq ?_
  refine AW.reg ?_
  refine AO.calm rfl 3 rfl (by decide) (eI64 p0) (Calm.move rfl rfl) ?_
  refine AO.calm rfl 4 rfl (by decide) (eBool (decide (p0 < (0 : Int)))) (Calm.int rfl rfl rfl rfl) ?_
  refine AO.nil (ρ' := [(0, (eI64 p0)), (4, (eBool (decide (p0 < (0 : Int)))))]) (H' := []) ⟨rfl, rfl, trivial⟩ (Sub.refl _) ?_
  by_cases hc2 : p0 < (0 : Int)
  · have h := (if_pos hc2).symm.trans h
    refine AW.condP (p0 < (0 : Int)) rfl hc2 ?_
    refine AW.seq ?_
    refine AW.reg ?_
    refine AO.calm rfl 5 rfl (by decide) (eI64 p0) (Calm.move rfl rfl) ?_
    refine AO.calm rfl 6 rfl (by decide) (eI64 (IntKind.i64.wrap (0 - p0))) (Calm.neg rfl rfl) ?_
    refine AO.calm rfl 7 rfl (by decide) (eU64 (u64 (IntKind.i64.wrap (0 - p0)))) (Calm.conv rfl rfl Try.underlying3 Try.underlying83) ?_
    obtain ⟨t3, et3, h⟩ := of_bind h
    refine AO.callS [(eU64 (u64 (IntKind.i64.wrap (0 - p0))))] (eStr t3) 8 rfl (by decide) ok80 rfl rfl rfl ⟨rfl, rfl, trivial⟩ (spot_natural_spec et3) ?_
    obtain ⟨hg4, h⟩ := of_guard h
    refine AO.calm rfl 9 rfl (by decide) (eStr ((ByteArray.mk #[45]) ++ t3)) (Calm.cat rfl rfl rfl hg4) ?_
    refine AO.calm rfl 2 rfl (by decide) (eStr ((ByteArray.mk #[45]) ++ t3)) (Calm.assign rfl rfl) ?_
    refine AO.nil (ρ' := [(2, (eStr ((ByteArray.mk #[45]) ++ t3)))]) (H' := []) ⟨rfl, trivial⟩ (Sub.refl _) ?_
    refine AW.ret (ρ' := [(2, (eStr ((ByteArray.mk #[45]) ++ t3)))]) (H' := []) ⟨rfl, trivial⟩ (Sub.refl _) ?_
    have hr := Option.some.inj h
    subst hr
    exact ⟨[(eStr ((ByteArray.mk #[45]) ++ t3))], ⟨rfl, rfl, trivial⟩, rfl⟩
  · have h := (if_neg hc2).symm.trans h
    refine AW.condN (p0 < (0 : Int)) rfl hc2 ?_
    refine AW.skip (ρ' := [(0, (eI64 p0))]) (H' := []) ⟨rfl, trivial⟩ (Sub.refl _) ?_
    refine AW.seq ?_
    refine AW.reg ?_
    refine AO.calm rfl 10 rfl (by decide) (eI64 p0) (Calm.move rfl rfl) ?_
    refine AO.calm rfl 11 rfl (by decide) (eU64 (u64 p0)) (Calm.conv rfl rfl Try.underlying3 Try.underlying83) ?_
    obtain ⟨t5, et5, h⟩ := of_bind h
    refine AO.callS [(eU64 (u64 p0))] (eStr t5) 12 rfl (by decide) ok80 rfl rfl rfl ⟨rfl, rfl, trivial⟩ (spot_natural_spec et5) ?_
    refine AO.calm rfl 2 rfl (by decide) (eStr t5) (Calm.assign rfl rfl) ?_
    refine AO.nil (ρ' := [(2, (eStr t5))]) (H' := []) ⟨rfl, trivial⟩ (Sub.refl _) ?_
    refine AW.ret (ρ' := [(2, (eStr t5))]) (H' := []) ⟨rfl, trivial⟩ (Sub.refl _) ?_
    have hr := Option.some.inj h
    subst hr
    exact ⟨[(eStr t5)], ⟨rfl, rfl, trivial⟩, rfl⟩
end Go.Avl.T2
/- bosket/spot.Show; printed by avmain.py. -/
namespace Go.Avl.T2
open Go Go.RowKit Go.Proofs Go.Avl
set_option linter.unusedVariables false
set_option maxRecDepth 100000
set_option maxHeartbeats 4000000
attribute [local irreducible] AW AO AQ Spec SpecH Calm

def spot_Show (k : Nat) (p0 : S23) : Option ByteArray :=
  (spot_digits k p0.f0).bind fun t3 =>
  if t3.size + (ByteArray.mk #[58]).size ≤ 9223372036854775807 then (spot_digits k p0.f1).bind fun t5 =>
  if (t3 ++ (ByteArray.mk #[58])).size + t5.size ≤ 9223372036854775807 then some (((t3 ++ (ByteArray.mk #[58])) ++ t5))
  else none
  else none
theorem spot_Show_spec {k : Nat} {p0 : S23} {r : ByteArray} (h : spot_Show k p0 = some r) : Spec Try.prog 20 [(e23 p0)] (eStr r) := by
  rw [spot_Show.eq_1] at h
  refine Spec.intro (res := [.tmp 2]) Try.func20 rfl rfl rfl (Nat.le_of_ble_eq_true rfl) ?_
  refine AW.seq ?_
  refine AW.reg ?_
  refine AO.box rfl 1 rfl (by decide) rfl rfl rfl fun n2 => ?_
  refine AO.calm rfl 2 rfl (by decide) (eStr (ByteArray.mk #[])) (Calm.assign rfl rfl) ?_
  refine AO.nil (ρ' := [(1, (.ptr n2 0))]) (H' := [(n2, .mem (e23 p0))]) ⟨rfl, trivial⟩ (Sub.refl _) ?_
  refine AW.seq ?_
  refine AW.regQ (by rfl) (by decide +kernel) ?_
  refine AQ.calm rfl 3 rfl (by decide) (.ptr n2 0) (Calm.fldPtr rfl rfl Try.underlying23 rfl sz3 _ rfl) ?_
  refine AQ.calm rfl 4 rfl (by decide) (eI64 p0.f0) (Calm.load 0 rfl rfl rfl (At.cast (At.fld0 At.here) rfl) ag3 sz3) ?_
  obtain ⟨t3, et3, h⟩ := of_bind h
  refine AQ.calm rfl 5 rfl (by decide) (eStr t3) (Calm.call (args := [(eI64 p0.f0)]) rfl rfl ok59 ⟨rfl, rfl, trivial⟩ rfl (spot_digits_spec et3)) ?_
  obtain ⟨hg4, h⟩ := of_guard h
  refine AQ.calm rfl 6 rfl (by decide) (eStr (t3 ++ (ByteArray.mk #[58]))) (Calm.cat rfl rfl rfl hg4) ?_
  refine AQ.calm rfl 7 rfl (by decide) (.ptr n2 1) (Calm.fldPtr rfl rfl Try.underlying23 rfl sz3 _ rfl) ?_
  refine AQ.calm rfl 8 rfl (by decide) (eI64 p0.f1) (Calm.load 0 rfl rfl rfl (At.cast (At.fldS (At.fld0 At.here)) rfl) ag3 sz3) ?_
  obtain ⟨t5, et5, h⟩ := of_bind h
  refine AQ.calm rfl 9 rfl (by decide) (eStr t5) (Calm.call (args := [(eI64 p0.f1)]) rfl rfl ok59 ⟨rfl, rfl, trivial⟩ rfl (spot_digits_spec et5)) ?_
  obtain ⟨hg6, h⟩ := of_guard h
  refine AQ.calm rfl 10 rfl (by decide) (eStr ((t3 ++ (ByteArray.mk #[58])) ++ t5)) (Calm.cat rfl rfl rfl hg6) ?_
  refine AQ.calm rfl 2 rfl (by decide) (eStr ((t3 ++ (ByteArray.mk #[58])) ++ t5)) (Calm.assign rfl rfl) ?_
  refine AQ.nil (ρ' := [(2, (eStr ((t3 ++ (ByteArray.mk #[58])) ++ t5)))]) ⟨rfl, trivial⟩ ?_
  refine AW.ret (ρ' := [(2, (eStr ((t3 ++ (ByteArray.mk #[58])) ++ t5)))]) (H' := []) ⟨rfl, trivial⟩ (Sub.nil _) ?_
  have hr := Option.some.inj h
  subst hr
  exact ⟨[(eStr ((t3 ++ (ByteArray.mk #[58])) ++ t5))], ⟨rfl, rfl, trivial⟩, rfl⟩
end Go.Avl.T2
/- bosket/bosketlaw13.awake; printed by avmain.py. -/
namespace Go.Avl.T2
open Go Go.RowKit Go.Proofs Go.Avl
set_option linter.unusedVariables false
set_option maxRecDepth 100000
set_option maxHeartbeats 4000000
attribute [local irreducible] AW AO AQ Spec SpecH Calm

def bosketlaw13_awake (k : Nat) : Option Bool :=
  (spot_Of k (ByteArray.mk #[97, 10, 98, 99]) (3 : Int)).bind fun t1 =>
  (spot_Show k t1).bind fun t2 =>
  some (decide (t2 = (ByteArray.mk #[50, 58, 50])))
theorem bosketlaw13_awake_spec {k : Nat}  {r : Bool} (h : bosketlaw13_awake k = some r) : Spec Try.prog 12 [] (eBool r) := by
  rw [bosketlaw13_awake.eq_1] at h
  refine Spec.intro (res := [.tmp 0]) Try.func12 rfl rfl rfl (Nat.le_of_ble_eq_true rfl) ?_
  refine AW.seq ?_
  refine AW.reg ?_
  refine AO.calm rfl 0 rfl (by decide) (eBool false) (Calm.assign rfl rfl) ?_
  refine AO.nil (ρ' := []) (H' := []) trivial (Sub.refl _) ?_
  refine AW.seq ?_
  refine AW.reg ?_
  obtain ⟨t1, et1, h⟩ := of_bind h
  refine AO.callS [(eStr (ByteArray.mk #[97, 10, 98, 99])), (eI64 (3 : Int))] (e23 t1) 1 rfl (by decide) ok14 rfl rfl rfl ⟨rfl, rfl, rfl, rfl, trivial⟩ (spot_Of_spec et1) ?_
  obtain ⟨t2, et2, h⟩ := of_bind h
  refine AO.callS [(e23 t1)] (eStr t2) 2 rfl (by decide) ok20 rfl rfl rfl ⟨rfl, rfl, trivial⟩ (spot_Show_spec et2) ?_
  refine AO.calm rfl 3 rfl (by decide) (eBool (decide (t2 = (ByteArray.mk #[50, 58, 50])))) (Calm.str rfl rfl rfl rfl) ?_
  refine AO.calm rfl 0 rfl (by decide) (eBool (decide (t2 = (ByteArray.mk #[50, 58, 50])))) (Calm.assign rfl rfl) ?_
  refine AO.nil (ρ' := [(0, (eBool (decide (t2 = (ByteArray.mk #[50, 58, 50])))))]) (H' := []) ⟨rfl, trivial⟩ (Sub.refl _) ?_
  refine AW.ret (ρ' := [(0, (eBool (decide (t2 = (ByteArray.mk #[50, 58, 50])))))]) (H' := []) ⟨rfl, trivial⟩ (Sub.refl _) ?_
  have hr := Option.some.inj h
  subst hr
  exact ⟨[(eBool (decide (t2 = (ByteArray.mk #[50, 58, 50]))))], ⟨rfl, rfl, trivial⟩, rfl⟩
end Go.Avl.T2
/- internal/stringslite.HasPrefix; printed by avmain.py. -/
namespace Go.Avl.T2
open Go Go.RowKit Go.Proofs Go.Avl
set_option linter.unusedVariables false
set_option maxRecDepth 100000
set_option maxHeartbeats 4000000
attribute [local irreducible] AW AO AQ Spec SpecH Calm

def internal_stringslite_HasPrefix (k : Nat) (p0 : ByteArray) (p1 : ByteArray) : Option Bool :=
  Option.bind (α := Bool) (if (p1.size : Int) ≤ (p0.size : Int) then if 0 ≤ (0 : Int) ∧ (0 : Int) ≤ (p1.size : Int) ∧ (p1.size : Int) ≤ (p0.size : Int) then some (decide ((p0.extract (0 : Int).toNat (p1.size : Int).toNat) = p1))
  else none
  else some (false)) fun b3 =>
  some (b3)
theorem internal_stringslite_HasPrefix_spec {k : Nat} {p0 : ByteArray} {p1 : ByteArray} {r : Bool} (h : internal_stringslite_HasPrefix k p0 p1 = some r) : Spec Try.prog 94 [(eStr p0), (eStr p1)] (eBool r) := by
  rw [internal_stringslite_HasPrefix.eq_1] at h
  refine Spec.intro (res := [.tmp 4]) Try.func94 rfl rfl rfl (Nat.le_of_ble_eq_true rfl) ?_
  refine AW.seq ?_
  refine AW.reg ?_
  refine AO.calm rfl 4 rfl (by decide) (eBool false) (Calm.assign rfl rfl) ?_
  refine AO.nil (ρ' := [(0, (eStr p0)), (1, (eStr p1))]) (H' := []) ⟨rfl, rfl, trivial⟩ (Sub.refl _) ?_
  refine AW.seq ?_
  obtain ⟨b3, hq4, h⟩ := of_bind h
  refine AW.regM [(4, (eBool b3))] [] ?_ ?_
  · refine AO.calm rfl 5 rfl (by decide) (eStr p0) (Calm.move rfl rfl) ?_
    refine AO.calm rfl 6 rfl (by decide) (eI64 (p0.size : Int)) (Calm.lenStr rfl rfl Try.underlying9) ?_
    refine AO.calm rfl 7 rfl (by decide) (eStr p1) (Calm.move rfl rfl) ?_
    refine AO.calm rfl 8 rfl (by decide) (eI64 (p1.size : Int)) (Calm.lenStr rfl rfl Try.underlying9) ?_
    refine AO.calm rfl 9 rfl (by decide) (eBool (decide ((p1.size : Int) ≤ (p0.size : Int)))) (Calm.int rfl rfl rfl rfl) ?_
    refine AO.calm rfl 10 rfl (by decide) (eBool (decide ((p1.size : Int) ≤ (p0.size : Int)))) (Calm.move rfl rfl) ?_
    by_cases hc5 : (p1.size : Int) ≤ (p0.size : Int)
    · have hq4 := (if_pos hc5).symm.trans hq4
      refine AO.calmG 5 true 10 rfl rfl (congrArg (fun b => some (AV.fl (Value.bool b))) (decide_eq_true hc5)) 11 rfl (by decide) (eStr p0) (Calm.move rfl rfl) ?_
      refine AO.calmG 5 true 10 rfl rfl (congrArg (fun b => some (AV.fl (Value.bool b))) (decide_eq_true hc5)) 12 rfl (by decide) (eStr p1) (Calm.move rfl rfl) ?_
      refine AO.calmG 5 true 10 rfl rfl (congrArg (fun b => some (AV.fl (Value.bool b))) (decide_eq_true hc5)) 13 rfl (by decide) (eI64 (p1.size : Int)) (Calm.lenStr rfl rfl Try.underlying9) ?_
      obtain ⟨hg6, hq4⟩ := of_guard hq4
      refine AO.calmG 5 true 10 rfl rfl (congrArg (fun b => some (AV.fl (Value.bool b))) (decide_eq_true hc5)) 14 rfl (by decide) (eStr (p0.extract (0 : Int).toNat (p1.size : Int).toNat)) (Calm.sliceS rfl rfl rfl rfl hg6 Try.underlying9) ?_
      refine AO.calmG 5 true 10 rfl rfl (congrArg (fun b => some (AV.fl (Value.bool b))) (decide_eq_true hc5)) 15 rfl (by decide) (eStr p1) (Calm.move rfl rfl) ?_
      refine AO.calmG 5 true 10 rfl rfl (congrArg (fun b => some (AV.fl (Value.bool b))) (decide_eq_true hc5)) 16 rfl (by decide) (eBool (decide ((p0.extract (0 : Int).toNat (p1.size : Int).toNat) = p1))) (Calm.str rfl rfl rfl rfl) ?_
      refine AO.calm rfl 17 rfl (by decide) (eBool (decide ((p0.extract (0 : Int).toNat (p1.size : Int).toNat) = p1))) (Calm.pickT rfl (congrArg (fun b => some (AV.fl (Value.bool b))) (decide_eq_true hc5)) rfl) ?_
      refine AO.calm rfl 4 rfl (by decide) (eBool (decide ((p0.extract (0 : Int).toNat (p1.size : Int).toNat) = p1))) (Calm.assign rfl rfl) ?_
      cases hq4
      refine AO.nilE ⟨rfl, rfl⟩ ?_ ?_
      · exact ⟨rfl, trivial⟩
      · exact (Sub.refl _)
    · have hq4 := (if_neg hc5).symm.trans hq4
      refine AO.skipG 5 false 10 rfl rfl (congrArg (fun b => some (AV.fl (Value.bool b))) (decide_eq_false hc5)) 11 rfl (by decide) ?_
      refine AO.skipG 5 false 10 rfl rfl (congrArg (fun b => some (AV.fl (Value.bool b))) (decide_eq_false hc5)) 12 rfl (by decide) ?_
      refine AO.skipG 5 false 10 rfl rfl (congrArg (fun b => some (AV.fl (Value.bool b))) (decide_eq_false hc5)) 13 rfl (by decide) ?_
      refine AO.skipG 5 false 10 rfl rfl (congrArg (fun b => some (AV.fl (Value.bool b))) (decide_eq_false hc5)) 14 rfl (by decide) ?_
      refine AO.skipG 5 false 10 rfl rfl (congrArg (fun b => some (AV.fl (Value.bool b))) (decide_eq_false hc5)) 15 rfl (by decide) ?_
      refine AO.skipG 5 false 10 rfl rfl (congrArg (fun b => some (AV.fl (Value.bool b))) (decide_eq_false hc5)) 16 rfl (by decide) ?_
      refine AO.calm rfl 17 rfl (by decide) (eBool false) (Calm.pickF rfl (congrArg (fun b => some (AV.fl (Value.bool b))) (decide_eq_false hc5)) rfl) ?_
      refine AO.calm rfl 4 rfl (by decide) (eBool false) (Calm.assign rfl rfl) ?_
      cases hq4
      refine AO.nilE ⟨rfl, rfl⟩ ?_ ?_
      · exact ⟨rfl, trivial⟩
      · exact (Sub.refl _)
  · refine AW.ret (ρ' := [(4, (eBool b3))]) (H' := []) ⟨rfl, trivial⟩ (Sub.refl _) ?_
    have hr := Option.some.inj h
    subst hr
    exact ⟨[(eBool b3)], ⟨rfl, rfl, trivial⟩, rfl⟩
end Go.Avl.T2
/- internal/stringslite.CutPrefix; printed by avmain.py. -/
namespace Go.Avl.T2
open Go Go.RowKit Go.Proofs Go.Avl
set_option linter.unusedVariables false
set_option maxRecDepth 100000
set_option maxHeartbeats 4000000
attribute [local irreducible] AW AO AQ Spec SpecH Calm

def internal_stringslite_CutPrefix (k : Nat) (p0 : ByteArray) (p1 : ByteArray) : Option (ByteArray × Bool) :=
  (internal_stringslite_HasPrefix k p0 p1).bind fun t3 =>
  if (!t3) = true then some (p0, false)
  else if 0 ≤ (p1.size : Int) ∧ (p1.size : Int) ≤ (p0.size : Int) ∧ (p0.size : Int) ≤ (p0.size : Int) then some ((p0.extract (p1.size : Int).toNat (p0.size : Int).toNat), true)
  else none
theorem internal_stringslite_CutPrefix_spec {k : Nat} {p0 : ByteArray} {p1 : ByteArray} {r : (ByteArray × Bool)} (h : internal_stringslite_CutPrefix k p0 p1 = some r) : Spec Try.prog 79 [(eStr p0), (eStr p1)] (.tup [(eStr r.1), (eBool r.2)]) := by
  rw [internal_stringslite_CutPrefix.eq_1] at h
  refine Spec.intro (res := [.tmp 4, .tmp 5]) Try.func79 rfl rfl rfl (Nat.le_of_ble_eq_true rfl) ?_
  refine AW.seq ?_
  refine AW.reg ?_
  refine AO.calm rfl 4 rfl (by decide) (eStr (ByteArray.mk #[])) (Calm.assign rfl rfl) ?_
  refine AO.calm rfl 5 rfl (by decide) (eBool false) (Calm.assign rfl rfl) ?_
  refine AO.nil (ρ' := [(0, (eStr p0)), (1, (eStr p1))]) (H' := []) ⟨rfl, rfl, trivial⟩ (Sub.refl _) ?_
  refine AW.seq ?_
  refine AW.seq ?_
  refine AW.reg ?_
  refine AO.calm rfl 6 rfl (by decide) (eStr p0) (Calm.move rfl rfl) ?_
  refine AO.calm rfl 7 rfl (by decide) (eStr p1) (Calm.move rfl rfl) ?_
  obtain ⟨t3, et3, h⟩ := of_bind h
  refine AO.callS [(eStr p0), (eStr p1)] (eBool t3) 8 rfl (by decide) ok94 rfl rfl rfl ⟨rfl, rfl, rfl, rfl, trivial⟩ (internal_stringslite_HasPrefix_spec et3) ?_
  refine AO.calm rfl 9 rfl (by decide) (eBool (!t3)) (Calm.not rfl rfl) ?_
  refine AO.nil (ρ' := [(0, (eStr p0)), (1, (eStr p1)), (9, (eBool (!t3)))]) (H' := []) ⟨rfl, rfl, rfl, trivial⟩ (Sub.refl _) ?_
  by_cases hc4 : (!t3) = true
  · have h := (if_pos hc4).symm.trans h
    refine AW.condT' (!t3) rfl hc4 ?_
    refine AW.seq ?_
    refine AW.reg ?_
    refine AO.calm rfl 10 rfl (by decide) (eStr p0) (Calm.move rfl rfl) ?_
    refine AO.calm rfl 4 rfl (by decide) (eStr p0) (Calm.assign rfl rfl) ?_
    refine AO.calm rfl 5 rfl (by decide) (eBool false) (Calm.assign rfl rfl) ?_
    refine AO.nil (ρ' := [(4, (eStr p0)), (5, (eBool false))]) (H' := []) ⟨rfl, rfl, trivial⟩ (Sub.refl _) ?_
    refine AW.ret (ρ' := [(4, (eStr p0)), (5, (eBool false))]) (H' := []) ⟨rfl, rfl, trivial⟩ (Sub.refl _) ?_
    have hr := Option.some.inj h
    subst hr
    exact ⟨[(eStr p0), (eBool false)], ⟨rfl, rfl, rfl, rfl, trivial⟩, rfl⟩
  · have h := (if_neg hc4).symm.trans h
    refine AW.condF' (!t3) rfl hc4 ?_
    refine AW.skip (ρ' := [(0, (eStr p0)), (1, (eStr p1))]) (H' := []) ⟨rfl, rfl, trivial⟩ (Sub.refl _) ?_
    refine AW.seq ?_
    refine AW.reg ?_
    refine AO.calm rfl 11 rfl (by decide) (eStr p0) (Calm.move rfl rfl) ?_
    refine AO.calm rfl 12 rfl (by decide) (eStr p1) (Calm.move rfl rfl) ?_
    refine AO.calm rfl 13 rfl (by decide) (eI64 (p1.size : Int)) (Calm.lenStr rfl rfl Try.underlying9) ?_
    obtain ⟨hg5, h⟩ := of_guard h
    refine AO.calm rfl 14 rfl (by decide) (eStr (p0.extract (p1.size : Int).toNat (p0.size : Int).toNat)) (Calm.sliceS rfl rfl rfl rfl hg5 Try.underlying9) ?_
    refine AO.calm rfl 4 rfl (by decide) (eStr (p0.extract (p1.size : Int).toNat (p0.size : Int).toNat)) (Calm.assign rfl rfl) ?_
    refine AO.calm rfl 5 rfl (by decide) (eBool true) (Calm.assign rfl rfl) ?_
    refine AO.nil (ρ' := [(4, (eStr (p0.extract (p1.size : Int).toNat (p0.size : Int).toNat))), (5, (eBool true))]) (H' := []) ⟨rfl, rfl, trivial⟩ (Sub.refl _) ?_
    refine AW.ret (ρ' := [(4, (eStr (p0.extract (p1.size : Int).toNat (p0.size : Int).toNat))), (5, (eBool true))]) (H' := []) ⟨rfl, rfl, trivial⟩ (Sub.refl _) ?_
    have hr := Option.some.inj h
    subst hr
    exact ⟨[(eStr (p0.extract (p1.size : Int).toNat (p0.size : Int).toNat)), (eBool true)], ⟨rfl, rfl, rfl, rfl, trivial⟩, rfl⟩
end Go.Avl.T2
/- strings.CutPrefix; printed by avmain.py. -/
namespace Go.Avl.T2
open Go Go.RowKit Go.Proofs Go.Avl
set_option linter.unusedVariables false
set_option maxRecDepth 100000
set_option maxHeartbeats 4000000
attribute [local irreducible] AW AO AQ Spec SpecH Calm

def strings_CutPrefix (k : Nat) (p0 : ByteArray) (p1 : ByteArray) : Option (ByteArray × Bool) :=
  (internal_stringslite_CutPrefix k p0 p1).bind fun t3 =>
  some (t3.1, t3.2)
theorem strings_CutPrefix_spec {k : Nat} {p0 : ByteArray} {p1 : ByteArray} {r : (ByteArray × Bool)} (h : strings_CutPrefix k p0 p1 = some r) : Spec Try.prog 58 [(eStr p0), (eStr p1)] (.tup [(eStr r.1), (eBool r.2)]) := by
  rw [strings_CutPrefix.eq_1] at h
  refine Spec.intro (res := [.tmp 4, .tmp 5]) Try.func58 rfl rfl rfl (Nat.le_of_ble_eq_true rfl) ?_
  refine AW.seq ?_
  refine AW.reg ?_
  refine AO.calm rfl 4 rfl (by decide) (eStr (ByteArray.mk #[])) (Calm.assign rfl rfl) ?_
  refine AO.calm rfl 5 rfl (by decide) (eBool false) (Calm.assign rfl rfl) ?_
  refine AO.nil (ρ' := [(0, (eStr p0)), (1, (eStr p1))]) (H' := []) ⟨rfl, rfl, trivial⟩ (Sub.refl _) ?_
  refine AW.seq ?_
  refine AW.reg ?_
  refine AO.calm rfl 6 rfl (by decide) (eStr p0) (Calm.move rfl rfl) ?_
  refine AO.calm rfl 7 rfl (by decide) (eStr p1) (Calm.move rfl rfl) ?_
  obtain ⟨t3, et3, h⟩ := of_bind h
  refine AO.callS [(eStr p0), (eStr p1)] (.tup [(eStr t3.1), (eBool t3.2)]) 8 rfl (by decide) ok79 rfl rfl rfl ⟨rfl, rfl, rfl, rfl, trivial⟩ (internal_stringslite_CutPrefix_spec et3) ?_
  refine AO.calm rfl 9 rfl (by decide) (eStr t3.1) (Calm.extract rfl rfl rfl) ?_
  refine AO.calm rfl 10 rfl (by decide) (eBool t3.2) (Calm.extract rfl rfl rfl) ?_
  refine AO.calm rfl 4 rfl (by decide) (eStr t3.1) (Calm.assign rfl rfl) ?_
  refine AO.calm rfl 5 rfl (by decide) (eBool t3.2) (Calm.assign rfl rfl) ?_
  refine AO.nil (ρ' := [(4, (eStr t3.1)), (5, (eBool t3.2))]) (H' := []) ⟨rfl, rfl, trivial⟩ (Sub.refl _) ?_
  refine AW.ret (ρ' := [(4, (eStr t3.1)), (5, (eBool t3.2))]) (H' := []) ⟨rfl, rfl, trivial⟩ (Sub.refl _) ?_
  have hr := Option.some.inj h
  subst hr
  exact ⟨[(eStr t3.1), (eBool t3.2)], ⟨rfl, rfl, rfl, rfl, trivial⟩, rfl⟩
end Go.Avl.T2
/- bosket/spot.Number; printed by avmain.py. -/
namespace Go.Avl.T2
open Go Go.RowKit Go.Proofs Go.Avl
set_option linter.unusedVariables false
set_option maxRecDepth 100000
set_option maxHeartbeats 4000000
attribute [local irreducible] AW AO AQ Spec SpecH Calm

def spot_Number_c0 (k : Nat) (t2 : (ByteArray × Bool)) (x11 : Int) : Option (Int × Bool) :=
  Option.bind (α := Bool) (if t2.2 = true then some (decide (x11 ≤ (9223372036854775808 : Int)))
  else some (false)) fun b12 =>
  if b12 = true then some ((w64 (IntKind.u64.wrap (0 - x11))), true)
  else Option.bind (α := Bool) (if (!t2.2) = true then some (decide (x11 < (9223372036854775808 : Int)))
  else some (false)) fun b16 =>
  if b16 = true then some ((w64 x11), true)
  else some ((0 : Int), false)
def spot_Number_l1 (k : Nat) (t2 : (ByteArray × Bool)) : Nat → Int → Int → Option (Int × Bool)
  | 0, _, _ => none
  | j + 1, x20, x21 =>
    if x21 < (t2.1.size : Int) then Option.bind (α := Bool) (if 0 ≤ x21 ∧ x21 < (t2.1.size : Int) then if (byteAt t2.1 x21) < (48 : Int) then some (true)
    else if 0 ≤ x21 ∧ x21 < (t2.1.size : Int) then some (decide ((57 : Int) < (byteAt t2.1 x21)))
    else none
    else none) fun b25 =>
    if b25 = true then some ((0 : Int), false)
    else if 0 ≤ x21 ∧ x21 < (t2.1.size : Int) then (some (u64 ((u64 (x20 * (10 : Int))) + (u64 (w8 ((byteAt t2.1 x21) - (48 : Int))))))).bind fun x32 =>
    (spot_Number_l1 k t2 j) x32 (w64 (x21 + (1 : Int)))
    else none
    else spot_Number_c0 k t2 x20
def spot_Number (k : Nat) (p0 : ByteArray) : Option (Int × Bool) :=
  (strings_CutPrefix k p0 (ByteArray.mk #[45])).bind fun t2 =>
  Option.bind (α := Bool) (if t2.1 = (ByteArray.mk #[]) then some (true)
  else if (19 : Int) < (t2.1.size : Int) then some (true)
  else if 0 ≤ (0 : Int) ∧ (0 : Int) < (t2.1.size : Int) then if (byteAt t2.1 (0 : Int)) = (48 : Int) then if t2.2 = true then some (true)
  else some (decide ((1 : Int) < (t2.1.size : Int)))
  else some (false)
  else none) fun b3 =>
  if b3 = true then some ((0 : Int), false)
  else spot_Number_l1 k t2 k (0 : Int) (0 : Int)
theorem spot_Number_spec {k : Nat} {p0 : ByteArray} {r : (Int × Bool)} (h : spot_Number k p0 = some r) : Spec Try.prog 16 [(eStr p0)] (.tup [(eI64 r.1), (eBool r.2)]) := by
  rw [spot_Number.eq_1] at h
  refine Spec.intro (res := [.tmp 2, .tmp 3]) Try.func16 rfl rfl rfl (Nat.le_of_ble_eq_true rfl) ?_
  refine AW.seq ?_
  refine AW.reg ?_
  refine AO.calm rfl 2 rfl (by decide) (eI64 (0 : Int)) (Calm.assign rfl rfl) ?_
  refine AO.calm rfl 3 rfl (by decide) (eBool false) (Calm.assign rfl rfl) ?_
  refine AO.nil (ρ' := [(0, (eStr p0))]) (H' := []) ⟨rfl, trivial⟩ (Sub.refl _) ?_
  refine AW.seq ?_
  refine AW.reg ?_
  refine AO.calm rfl 9 rfl (by decide) (eStr p0) (Calm.move rfl rfl) ?_
  obtain ⟨t2, et2, h⟩ := of_bind h
  refine AO.callS [(eStr p0), (eStr (ByteArray.mk #[45]))] (.tup [(eStr t2.1), (eBool t2.2)]) 10 rfl (by decide) ok58 rfl rfl rfl ⟨rfl, rfl, rfl, rfl, trivial⟩ (strings_CutPrefix_spec et2) ?_
  refine AO.calm rfl 8 rfl (by decide) (.tup [(eStr t2.1), (eBool t2.2)]) (Calm.move rfl rfl) ?_
  refine AO.calm rfl 11 rfl (by decide) (eStr t2.1) (Calm.extract rfl rfl rfl) ?_
  refine AO.calm rfl 12 rfl (by decide) (eBool t2.2) (Calm.extract rfl rfl rfl) ?_
  refine AO.calm rfl 4 rfl (by decide) (eStr t2.1) (Calm.assign rfl rfl) ?_
  refine AO.calm rfl 5 rfl (by decide) (eBool t2.2) (Calm.assign rfl rfl) ?_
  refine AO.nil (ρ' := [(4, (eStr t2.1)), (5, (eBool t2.2))]) (H' := []) ⟨rfl, rfl, trivial⟩ (Sub.refl _) ?_
  refine AW.seq ?_
  refine AW.reg ?_
  refine AO.calm rfl 6 rfl (by decide) (eU64 (0 : Int)) (Calm.assign rfl rfl) ?_
  refine AO.nil (ρ' := [(4, (eStr t2.1)), (5, (eBool t2.2)), (6, (eU64 (0 : Int)))]) (H' := []) ⟨rfl, rfl, rfl, trivial⟩ (Sub.refl _) ?_
  refine AW.seq ?_
  refine AW.seq ?_
  obtain ⟨b3, hq4, h⟩ := of_bind h
  refine AW.regM [(4, (eStr t2.1)), (5, (eBool t2.2)), (6, (eU64 (0 : Int))), (32, (eBool b3))] [] ?_ ?_
  · refine AO.calm rfl 13 rfl (by decide) (eStr t2.1) (Calm.move rfl rfl) ?_
    refine AO.calm rfl 14 rfl (by decide) (eBool (decide (t2.1 = (ByteArray.mk #[])))) (Calm.str rfl rfl rfl rfl) ?_
    refine AO.calm rfl 15 rfl (by decide) (eBool (decide (t2.1 = (ByteArray.mk #[])))) (Calm.move rfl rfl) ?_
    by_cases hc5 : t2.1 = (ByteArray.mk #[])
    · have hq4 := (if_pos hc5).symm.trans hq4
      refine AO.skipG 2 true 15 rfl rfl (congrArg (fun b => some (AV.fl (Value.bool b))) (decide_eq_true hc5)) 16 rfl (by decide) ?_
      refine AO.skipG 2 true 15 rfl rfl (congrArg (fun b => some (AV.fl (Value.bool b))) (decide_eq_true hc5)) 17 rfl (by decide) ?_
      refine AO.skipG 2 true 15 rfl rfl (congrArg (fun b => some (AV.fl (Value.bool b))) (decide_eq_true hc5)) 18 rfl (by decide) ?_
      refine AO.calm rfl 19 rfl (by decide) (eBool true) (Calm.pickT rfl (congrArg (fun b => some (AV.fl (Value.bool b))) (decide_eq_true hc5)) rfl) ?_
      refine AO.calm rfl 20 rfl (by decide) (eBool true) (Calm.move rfl rfl) ?_
      refine AO.skipG 7 true 20 rfl rfl rfl 21 rfl (by decide) ?_
      refine AO.skipG 7 true 20 rfl rfl rfl 22 rfl (by decide) ?_
      refine AO.skipG 7 true 20 rfl rfl rfl 23 rfl (by decide) ?_
      refine AO.skipG 7 true 20 rfl rfl rfl 24 rfl (by decide) ?_
      refine AO.skipU 11 true 24 rfl rfl rfl 25 rfl (by decide) ?_
      refine AO.skipU 11 true 24 rfl rfl rfl 26 rfl (by decide) ?_
      refine AO.skipU 13 false 26 rfl rfl rfl 27 rfl (by decide) ?_
      refine AO.skipU 13 false 26 rfl rfl rfl 28 rfl (by decide) ?_
      refine AO.skipU 13 false 26 rfl rfl rfl 29 rfl (by decide) ?_
      refine AO.skipU 11 true 24 rfl rfl rfl 30 rfl (by decide) ?_
      refine AO.skipG 7 true 20 rfl rfl rfl 31 rfl (by decide) ?_
      refine AO.calm rfl 32 rfl (by decide) (eBool true) (Calm.pickT rfl rfl rfl) ?_
      cases hq4
      refine AO.nilE ⟨rfl, rfl⟩ ?_ ?_
      · exact ⟨rfl, rfl, rfl, rfl, trivial⟩
      · exact (Sub.refl _)
    · have hq4 := (if_neg hc5).symm.trans hq4
      refine AO.calmG 2 false 15 rfl rfl (congrArg (fun b => some (AV.fl (Value.bool b))) (decide_eq_false hc5)) 16 rfl (by decide) (eStr t2.1) (Calm.move rfl rfl) ?_
      refine AO.calmG 2 false 15 rfl rfl (congrArg (fun b => some (AV.fl (Value.bool b))) (decide_eq_false hc5)) 17 rfl (by decide) (eI64 (t2.1.size : Int)) (Calm.lenStr rfl rfl Try.underlying9) ?_
      refine AO.calmG 2 false 15 rfl rfl (congrArg (fun b => some (AV.fl (Value.bool b))) (decide_eq_false hc5)) 18 rfl (by decide) (eBool (decide ((19 : Int) < (t2.1.size : Int)))) (Calm.int rfl rfl rfl rfl) ?_
      refine AO.calm rfl 19 rfl (by decide) (eBool (decide ((19 : Int) < (t2.1.size : Int)))) (Calm.pickF rfl (congrArg (fun b => some (AV.fl (Value.bool b))) (decide_eq_false hc5)) rfl) ?_
      refine AO.calm rfl 20 rfl (by decide) (eBool (decide ((19 : Int) < (t2.1.size : Int)))) (Calm.move rfl rfl) ?_
      by_cases hc6 : (19 : Int) < (t2.1.size : Int)
      · have hq4 := (if_pos hc6).symm.trans hq4
        refine AO.skipG 7 true 20 rfl rfl (congrArg (fun b => some (AV.fl (Value.bool b))) (decide_eq_true hc6)) 21 rfl (by decide) ?_
        refine AO.skipG 7 true 20 rfl rfl (congrArg (fun b => some (AV.fl (Value.bool b))) (decide_eq_true hc6)) 22 rfl (by decide) ?_
        refine AO.skipG 7 true 20 rfl rfl (congrArg (fun b => some (AV.fl (Value.bool b))) (decide_eq_true hc6)) 23 rfl (by decide) ?_
        refine AO.skipG 7 true 20 rfl rfl (congrArg (fun b => some (AV.fl (Value.bool b))) (decide_eq_true hc6)) 24 rfl (by decide) ?_
        refine AO.skipU 11 true 24 rfl rfl rfl 25 rfl (by decide) ?_
        refine AO.skipU 11 true 24 rfl rfl rfl 26 rfl (by decide) ?_
        refine AO.skipU 13 false 26 rfl rfl rfl 27 rfl (by decide) ?_
        refine AO.skipU 13 false 26 rfl rfl rfl 28 rfl (by decide) ?_
        refine AO.skipU 13 false 26 rfl rfl rfl 29 rfl (by decide) ?_
        refine AO.skipU 11 true 24 rfl rfl rfl 30 rfl (by decide) ?_
        refine AO.skipG 7 true 20 rfl rfl (congrArg (fun b => some (AV.fl (Value.bool b))) (decide_eq_true hc6)) 31 rfl (by decide) ?_
        refine AO.calm rfl 32 rfl (by decide) (eBool true) (Calm.pickT rfl (congrArg (fun b => some (AV.fl (Value.bool b))) (decide_eq_true hc6)) rfl) ?_
        cases hq4
        refine AO.nilE ⟨rfl, rfl⟩ ?_ ?_
        · exact ⟨rfl, rfl, rfl, rfl, trivial⟩
        · exact (Sub.refl _)
      · have hq4 := (if_neg hc6).symm.trans hq4
        refine AO.calmG 7 false 20 rfl rfl (congrArg (fun b => some (AV.fl (Value.bool b))) (decide_eq_false hc6)) 21 rfl (by decide) (eStr t2.1) (Calm.move rfl rfl) ?_
        obtain ⟨hg7, hq4⟩ := of_guard hq4
        refine AO.calmG 7 false 20 rfl rfl (congrArg (fun b => some (AV.fl (Value.bool b))) (decide_eq_false hc6)) 22 rfl (by decide) (eU8 (byteAt t2.1 (0 : Int))) (Calm.idxS rfl rfl rfl hg7 Try.underlying9) ?_
        refine AO.calmG 7 false 20 rfl rfl (congrArg (fun b => some (AV.fl (Value.bool b))) (decide_eq_false hc6)) 23 rfl (by decide) (eBool (decide ((byteAt t2.1 (0 : Int)) = (48 : Int)))) (Calm.int rfl rfl rfl rfl) ?_
        refine AO.calmG 7 false 20 rfl rfl (congrArg (fun b => some (AV.fl (Value.bool b))) (decide_eq_false hc6)) 24 rfl (by decide) (eBool (decide ((byteAt t2.1 (0 : Int)) = (48 : Int)))) (Calm.move rfl rfl) ?_
        by_cases hc8 : (byteAt t2.1 (0 : Int)) = (48 : Int)
        · have hq4 := (if_pos hc8).symm.trans hq4
          refine AO.calmG 11 true 24 rfl rfl (congrArg (fun b => some (AV.fl (Value.bool b))) (decide_eq_true hc8)) 25 rfl (by decide) (eBool t2.2) (Calm.move rfl rfl) ?_
          refine AO.calmG 11 true 24 rfl rfl (congrArg (fun b => some (AV.fl (Value.bool b))) (decide_eq_true hc8)) 26 rfl (by decide) (eBool t2.2) (Calm.move rfl rfl) ?_
          by_cases hc9 : t2.2 = true
          · have hq4 := (if_pos hc9).symm.trans hq4
            refine AO.skipG 13 true 26 rfl rfl (congrArg (fun b => some (AV.fl (Value.bool b))) hc9) 27 rfl (by decide) ?_
            refine AO.skipG 13 true 26 rfl rfl (congrArg (fun b => some (AV.fl (Value.bool b))) hc9) 28 rfl (by decide) ?_
            refine AO.skipG 13 true 26 rfl rfl (congrArg (fun b => some (AV.fl (Value.bool b))) hc9) 29 rfl (by decide) ?_
            refine AO.calmG 11 true 24 rfl rfl (congrArg (fun b => some (AV.fl (Value.bool b))) (decide_eq_true hc8)) 30 rfl (by decide) (eBool true) (Calm.pickT rfl (congrArg (fun b => some (AV.fl (Value.bool b))) hc9) rfl) ?_
            refine AO.calmG 7 false 20 rfl rfl (congrArg (fun b => some (AV.fl (Value.bool b))) (decide_eq_false hc6)) 31 rfl (by decide) (eBool true) (Calm.pickT rfl (congrArg (fun b => some (AV.fl (Value.bool b))) (decide_eq_true hc8)) rfl) ?_
            refine AO.calm rfl 32 rfl (by decide) (eBool true) (Calm.pickF rfl (congrArg (fun b => some (AV.fl (Value.bool b))) (decide_eq_false hc6)) rfl) ?_
            cases hq4
            refine AO.nilE ⟨rfl, rfl⟩ ?_ ?_
            · exact ⟨rfl, rfl, rfl, rfl, trivial⟩
            · exact (Sub.refl _)
          · have hq4 := (if_neg hc9).symm.trans hq4
            refine AO.calmG 13 false 26 rfl rfl (congrArg (fun b => some (AV.fl (Value.bool b))) (eq_false_of_ne_true hc9)) 27 rfl (by decide) (eStr t2.1) (Calm.move rfl rfl) ?_
            refine AO.calmG 13 false 26 rfl rfl (congrArg (fun b => some (AV.fl (Value.bool b))) (eq_false_of_ne_true hc9)) 28 rfl (by decide) (eI64 (t2.1.size : Int)) (Calm.lenStr rfl rfl Try.underlying9) ?_
            refine AO.calmG 13 false 26 rfl rfl (congrArg (fun b => some (AV.fl (Value.bool b))) (eq_false_of_ne_true hc9)) 29 rfl (by decide) (eBool (decide ((1 : Int) < (t2.1.size : Int)))) (Calm.int rfl rfl rfl rfl) ?_
            refine AO.calmG 11 true 24 rfl rfl (congrArg (fun b => some (AV.fl (Value.bool b))) (decide_eq_true hc8)) 30 rfl (by decide) (eBool (decide ((1 : Int) < (t2.1.size : Int)))) (Calm.pickF rfl (congrArg (fun b => some (AV.fl (Value.bool b))) (eq_false_of_ne_true hc9)) rfl) ?_
            refine AO.calmG 7 false 20 rfl rfl (congrArg (fun b => some (AV.fl (Value.bool b))) (decide_eq_false hc6)) 31 rfl (by decide) (eBool (decide ((1 : Int) < (t2.1.size : Int)))) (Calm.pickT rfl (congrArg (fun b => some (AV.fl (Value.bool b))) (decide_eq_true hc8)) rfl) ?_
            refine AO.calm rfl 32 rfl (by decide) (eBool (decide ((1 : Int) < (t2.1.size : Int)))) (Calm.pickF rfl (congrArg (fun b => some (AV.fl (Value.bool b))) (decide_eq_false hc6)) rfl) ?_
            cases hq4
            refine AO.nilE ⟨rfl, rfl⟩ ?_ ?_
            · exact ⟨rfl, rfl, rfl, rfl, trivial⟩
            · exact (Sub.refl _)
        · have hq4 := (if_neg hc8).symm.trans hq4
          refine AO.skipG 11 false 24 rfl rfl (congrArg (fun b => some (AV.fl (Value.bool b))) (decide_eq_false hc8)) 25 rfl (by decide) ?_
          refine AO.skipG 11 false 24 rfl rfl (congrArg (fun b => some (AV.fl (Value.bool b))) (decide_eq_false hc8)) 26 rfl (by decide) ?_
          refine AO.skipU 13 false 26 rfl rfl rfl 27 rfl (by decide) ?_
          refine AO.skipU 13 false 26 rfl rfl rfl 28 rfl (by decide) ?_
          refine AO.skipU 13 false 26 rfl rfl rfl 29 rfl (by decide) ?_
          refine AO.skipG 11 false 24 rfl rfl (congrArg (fun b => some (AV.fl (Value.bool b))) (decide_eq_false hc8)) 30 rfl (by decide) ?_
          refine AO.calmG 7 false 20 rfl rfl (congrArg (fun b => some (AV.fl (Value.bool b))) (decide_eq_false hc6)) 31 rfl (by decide) (eBool false) (Calm.pickF rfl (congrArg (fun b => some (AV.fl (Value.bool b))) (decide_eq_false hc8)) rfl) ?_
          refine AO.calm rfl 32 rfl (by decide) (eBool false) (Calm.pickF rfl (congrArg (fun b => some (AV.fl (Value.bool b))) (decide_eq_false hc6)) rfl) ?_
          cases hq4
          refine AO.nilE ⟨rfl, rfl⟩ ?_ ?_
          · exact ⟨rfl, rfl, rfl, rfl, trivial⟩
          · exact (Sub.refl _)
  · by_cases hc10 : b3 = true
    · have h := (if_pos hc10).symm.trans h
      refine AW.condT' b3 rfl hc10 ?_
      refine AW.seq ?_
      refine AW.reg ?_
      refine AO.calm rfl 2 rfl (by decide) (eI64 (0 : Int)) (Calm.assign rfl rfl) ?_
      refine AO.calm rfl 3 rfl (by decide) (eBool false) (Calm.assign rfl rfl) ?_
      refine AO.nil (ρ' := [(2, (eI64 (0 : Int))), (3, (eBool false))]) (H' := []) ⟨rfl, rfl, trivial⟩ (Sub.refl _) ?_
      refine AW.ret (ρ' := [(2, (eI64 (0 : Int))), (3, (eBool false))]) (H' := []) ⟨rfl, rfl, trivial⟩ (Sub.refl _) ?_
      have hr := Option.some.inj h
      subst hr
      exact ⟨[(eI64 (0 : Int)), (eBool false)], ⟨rfl, rfl, rfl, rfl, trivial⟩, rfl⟩
    · have h := (if_neg hc10).symm.trans h
      refine AW.condF' b3 rfl hc10 ?_
      refine AW.skip (ρ' := [(4, (eStr t2.1)), (5, (eBool t2.2)), (6, (eU64 (0 : Int)))]) (H' := []) ⟨rfl, rfl, rfl, trivial⟩ (Sub.refl _) ?_
      refine AW.seq_mid (fun ρ H => ∃ (x11 : Int), ρ = [(5, (eBool t2.2)), (6, (eU64 x11))] ∧ H = [] ∧ spot_Number_c0 k t2 x11 = some r) ?_ ?_
      · refine AW.seq ?_
        refine AW.reg ?_
        refine AO.calm rfl 33 rfl (by decide) (eStr t2.1) (Calm.move rfl rfl) ?_
        refine AO.calm rfl 34 rfl (by decide) (eI64 (t2.1.size : Int)) (Calm.lenStr rfl rfl Try.underlying9) ?_
        refine AO.calm rfl 35 rfl (by decide) (eI64 (0 : Int)) (Calm.move rfl rfl) ?_
        refine AO.nil (ρ' := [(4, (eStr t2.1)), (5, (eBool t2.2)), (6, (eU64 (0 : Int))), (34, (eI64 (t2.1.size : Int))), (35, (eI64 (0 : Int)))]) (H' := []) ⟨rfl, rfl, rfl, rfl, rfl, trivial⟩ (Sub.refl _) ?_
        refine AW.block ?_
        refine AW.weak (ρ' := [(4, (eStr t2.1)), (5, (eBool t2.2)), (6, (eU64 (0 : Int))), (34, (eI64 (t2.1.size : Int))), (35, (eI64 (0 : Int)))]) (H' := []) ⟨rfl, rfl, rfl, rfl, rfl, trivial⟩ (Sub.refl _) ?_
        refine AW.loop (fun kq ρ H => ∃ (x20 : Int) (x21 : Int), ρ = [(4, (eStr t2.1)), (5, (eBool t2.2)), (6, (eU64 x20)), (34, (eI64 (t2.1.size : Int))), (35, (eI64 x21))] ∧ H = [] ∧ spot_Number_l1 k t2 kq x20 x21 = some r) k ⟨(0 : Int), (0 : Int), rfl, rfl, h⟩ ?_
        rintro kq23 _ _ ⟨x20, x21, rfl, rfl, h⟩
        cases kq23 with
        | zero => rw [spot_Number_l1.eq_1] at h; cases h
        | succ kq23 =>
        rw [spot_Number_l1.eq_2] at h
        generalize hrec22 : spot_Number_l1 k t2 kq23 = rec22 at h
        refine AW.seq ?_
        refine AW.reg ?_
        refine AO.calm rfl 36 rfl (by decide) (eBool (decide (x21 < (t2.1.size : Int)))) (Calm.int rfl rfl rfl rfl) ?_
        refine AO.nil (ρ' := [(4, (eStr t2.1)), (5, (eBool t2.2)), (6, (eU64 x20)), (34, (eI64 (t2.1.size : Int))), (35, (eI64 x21)), (36, (eBool (decide (x21 < (t2.1.size : Int)))))]) (H' := []) ⟨rfl, rfl, rfl, rfl, rfl, rfl, trivial⟩ (Sub.refl _) ?_
        refine AW.seq ?_
        by_cases hc24 : x21 < (t2.1.size : Int)
        · have h := (if_pos hc24).symm.trans h
          refine AW.condP (x21 < (t2.1.size : Int)) rfl hc24 ?_
          refine AW.skip (ρ' := [(4, (eStr t2.1)), (5, (eBool t2.2)), (6, (eU64 x20)), (34, (eI64 (t2.1.size : Int))), (35, (eI64 x21))]) (H' := []) ⟨rfl, rfl, rfl, rfl, rfl, trivial⟩ (Sub.refl _) ?_
          refine AW.seq ?_
          refine AW.block ?_
          refine AW.seq ?_
          refine AW.reg ?_
          refine AO.calm rfl 37 rfl (by decide) (eI64 x21) (Calm.move rfl rfl) ?_
          refine AO.calm rfl 7 rfl (by decide) (eI64 x21) (Calm.assign rfl rfl) ?_
          refine AO.nil (ρ' := [(4, (eStr t2.1)), (5, (eBool t2.2)), (6, (eU64 x20)), (7, (eI64 x21)), (34, (eI64 (t2.1.size : Int))), (35, (eI64 x21))]) (H' := []) ⟨rfl, rfl, rfl, rfl, rfl, rfl, trivial⟩ (Sub.refl _) ?_
          refine AW.seq ?_
          refine AW.seq ?_
          obtain ⟨b25, hq26, h⟩ := of_bind h
          refine AW.regM [(4, (eStr t2.1)), (5, (eBool t2.2)), (6, (eU64 x20)), (7, (eI64 x21)), (34, (eI64 (t2.1.size : Int))), (35, (eI64 x21)), (47, (eBool b25))] [] ?_ ?_
          · refine AO.calm rfl 38 rfl (by decide) (eStr t2.1) (Calm.move rfl rfl) ?_
            refine AO.calm rfl 39 rfl (by decide) (eI64 x21) (Calm.move rfl rfl) ?_
            obtain ⟨hg27, hq26⟩ := of_guard hq26
            refine AO.calm rfl 40 rfl (by decide) (eU8 (byteAt t2.1 x21)) (Calm.idxS rfl rfl rfl hg27 Try.underlying9) ?_
            refine AO.calm rfl 41 rfl (by decide) (eBool (decide ((byteAt t2.1 x21) < (48 : Int)))) (Calm.int rfl rfl rfl rfl) ?_
            refine AO.calm rfl 42 rfl (by decide) (eBool (decide ((byteAt t2.1 x21) < (48 : Int)))) (Calm.move rfl rfl) ?_
            by_cases hc28 : (byteAt t2.1 x21) < (48 : Int)
            · have hq26 := (if_pos hc28).symm.trans hq26
              refine AO.skipG 4 true 42 rfl rfl (congrArg (fun b => some (AV.fl (Value.bool b))) (decide_eq_true hc28)) 43 rfl (by decide) ?_
              refine AO.skipG 4 true 42 rfl rfl (congrArg (fun b => some (AV.fl (Value.bool b))) (decide_eq_true hc28)) 44 rfl (by decide) ?_
              refine AO.skipG 4 true 42 rfl rfl (congrArg (fun b => some (AV.fl (Value.bool b))) (decide_eq_true hc28)) 45 rfl (by decide) ?_
              refine AO.skipG 4 true 42 rfl rfl (congrArg (fun b => some (AV.fl (Value.bool b))) (decide_eq_true hc28)) 46 rfl (by decide) ?_
              refine AO.calm rfl 47 rfl (by decide) (eBool true) (Calm.pickT rfl (congrArg (fun b => some (AV.fl (Value.bool b))) (decide_eq_true hc28)) rfl) ?_
              cases hq26
              refine AO.nilE ⟨rfl, rfl⟩ ?_ ?_
              · exact ⟨rfl, rfl, rfl, rfl, rfl, rfl, rfl, trivial⟩
              · exact (Sub.refl _)
            · have hq26 := (if_neg hc28).symm.trans hq26
              refine AO.calmG 4 false 42 rfl rfl (congrArg (fun b => some (AV.fl (Value.bool b))) (decide_eq_false hc28)) 43 rfl (by decide) (eStr t2.1) (Calm.move rfl rfl) ?_
              refine AO.calmG 4 false 42 rfl rfl (congrArg (fun b => some (AV.fl (Value.bool b))) (decide_eq_false hc28)) 44 rfl (by decide) (eI64 x21) (Calm.move rfl rfl) ?_
              obtain ⟨hg29, hq26⟩ := of_guard hq26
              refine AO.calmG 4 false 42 rfl rfl (congrArg (fun b => some (AV.fl (Value.bool b))) (decide_eq_false hc28)) 45 rfl (by decide) (eU8 (byteAt t2.1 x21)) (Calm.idxS rfl rfl rfl hg29 Try.underlying9) ?_
              refine AO.calmG 4 false 42 rfl rfl (congrArg (fun b => some (AV.fl (Value.bool b))) (decide_eq_false hc28)) 46 rfl (by decide) (eBool (decide ((57 : Int) < (byteAt t2.1 x21)))) (Calm.int rfl rfl rfl rfl) ?_
              refine AO.calm rfl 47 rfl (by decide) (eBool (decide ((57 : Int) < (byteAt t2.1 x21)))) (Calm.pickF rfl (congrArg (fun b => some (AV.fl (Value.bool b))) (decide_eq_false hc28)) rfl) ?_
              cases hq26
              refine AO.nilE ⟨rfl, rfl⟩ ?_ ?_
              · exact ⟨rfl, rfl, rfl, rfl, rfl, rfl, rfl, trivial⟩
              · exact (Sub.refl _)
          · by_cases hc30 : b25 = true
            · have h := (if_pos hc30).symm.trans h
              refine AW.condT' b25 rfl hc30 ?_
              refine AW.seq ?_
              refine AW.reg ?_
              refine AO.calm rfl 2 rfl (by decide) (eI64 (0 : Int)) (Calm.assign rfl rfl) ?_
              refine AO.calm rfl 3 rfl (by decide) (eBool false) (Calm.assign rfl rfl) ?_
              refine AO.nil (ρ' := [(2, (eI64 (0 : Int))), (3, (eBool false))]) (H' := []) ⟨rfl, rfl, trivial⟩ (Sub.refl _) ?_
              refine AW.ret (ρ' := [(2, (eI64 (0 : Int))), (3, (eBool false))]) (H' := []) ⟨rfl, rfl, trivial⟩ (Sub.refl _) ?_
              have hr := Option.some.inj h
              subst hr
              exact ⟨[(eI64 (0 : Int)), (eBool false)], ⟨rfl, rfl, rfl, rfl, trivial⟩, rfl⟩
            · have h := (if_neg hc30).symm.trans h
              refine AW.condF' b25 rfl hc30 ?_
              refine AW.skip (ρ' := [(4, (eStr t2.1)), (5, (eBool t2.2)), (6, (eU64 x20)), (7, (eI64 x21)), (34, (eI64 (t2.1.size : Int))), (35, (eI64 x21))]) (H' := []) ⟨rfl, rfl, rfl, rfl, rfl, rfl, trivial⟩ (Sub.refl _) ?_
              refine AW.reg ?_
              refine AO.calm rfl 48 rfl (by decide) (eU64 x20) (Calm.move rfl rfl) ?_
              refine AO.calm rfl 49 rfl (by decide) (eU64 (u64 (x20 * (10 : Int)))) (Calm.int rfl rfl rfl rfl) ?_
              refine AO.calm rfl 50 rfl (by decide) (eStr t2.1) (Calm.move rfl rfl) ?_
              refine AO.calm rfl 51 rfl (by decide) (eI64 x21) (Calm.move rfl rfl) ?_
              obtain ⟨hg31, h⟩ := of_guard h
              refine AO.calm rfl 52 rfl (by decide) (eU8 (byteAt t2.1 x21)) (Calm.idxS rfl rfl rfl hg31 Try.underlying9) ?_
              refine AO.calm rfl 53 rfl (by decide) (eU8 (w8 ((byteAt t2.1 x21) - (48 : Int)))) (Calm.int rfl rfl rfl rfl) ?_
              refine AO.calm rfl 54 rfl (by decide) (eU64 (u64 (w8 ((byteAt t2.1 x21) - (48 : Int))))) (Calm.conv rfl rfl Try.underlying5 Try.underlying83) ?_
              refine AO.calm rfl 55 rfl (by decide) (eU64 (u64 ((u64 (x20 * (10 : Int))) + (u64 (w8 ((byteAt t2.1 x21) - (48 : Int))))))) (Calm.int rfl rfl rfl rfl) ?_
              obtain ⟨x32, ex32, h⟩ := of_bind h
              refine AO.calm rfl 6 rfl (by decide) (eU64 x32) (Calm.assign rfl (congrArg (fun x => some (eU64 x)) (Option.some.inj ex32))) ?_
              refine AO.nil (ρ' := [(4, (eStr t2.1)), (5, (eBool t2.2)), (6, (eU64 x32)), (34, (eI64 (t2.1.size : Int))), (35, (eI64 x21))]) (H' := []) ⟨rfl, rfl, rfl, rfl, rfl, trivial⟩ (Sub.refl _) ?_
              refine AW.reg ?_
              refine AO.calm rfl 56 rfl (by decide) (eI64 (w64 (x21 + (1 : Int)))) (Calm.int rfl rfl rfl rfl) ?_
              refine AO.calm rfl 35 rfl (by decide) (eI64 (w64 (x21 + (1 : Int)))) (Calm.move rfl rfl) ?_
              refine AO.nil (ρ' := [(4, (eStr t2.1)), (5, (eBool t2.2)), (6, (eU64 x32)), (34, (eI64 (t2.1.size : Int))), (35, (eI64 (w64 (x21 + (1 : Int)))))]) (H' := []) ⟨rfl, rfl, rfl, rfl, rfl, trivial⟩ (Sub.refl _) ?_
              exact ⟨kq23, Nat.lt_succ_self _, x32, (w64 (x21 + (1 : Int))), rfl, rfl, by rw [hrec22]; exact h⟩
        · have h := (if_neg hc24).symm.trans h
          refine AW.condN (x21 < (t2.1.size : Int)) rfl hc24 ?_
          refine AW.exit (ρ' := [(5, (eBool t2.2)), (6, (eU64 x20))]) (H' := []) ⟨rfl, rfl, trivial⟩ (Sub.refl _) ?_
          exact ⟨x20, rfl, rfl, h⟩
      · rintro _ _ ⟨x11, rfl, rfl, h⟩
        rw [spot_Number_c0.eq_1] at h
        refine AW.seq ?_
        refine AW.block ?_
        refine AW.seq ?_
        obtain ⟨b12, hq13, h⟩ := of_bind h
        refine AW.regM [(5, (eBool t2.2)), (6, (eU64 x11)), (57, (eBool b12))] [] ?_ ?_
        · refine AO.calm rfl 58 rfl (by decide) (eBool t2.2) (Calm.move rfl rfl) ?_
          refine AO.calm rfl 59 rfl (by decide) (eBool t2.2) (Calm.move rfl rfl) ?_
          by_cases hc14 : t2.2 = true
          · have hq13 := (if_pos hc14).symm.trans hq13
            refine AO.calmG 1 true 59 rfl rfl (congrArg (fun b => some (AV.fl (Value.bool b))) hc14) 60 rfl (by decide) (eU64 x11) (Calm.move rfl rfl) ?_
            refine AO.calmG 1 true 59 rfl rfl (congrArg (fun b => some (AV.fl (Value.bool b))) hc14) 61 rfl (by decide) (eBool (decide (x11 ≤ (9223372036854775808 : Int)))) (Calm.int rfl rfl rfl rfl) ?_
            refine AO.calm rfl 62 rfl (by decide) (eBool (decide (x11 ≤ (9223372036854775808 : Int)))) (Calm.pickT rfl (congrArg (fun b => some (AV.fl (Value.bool b))) hc14) rfl) ?_
            refine AO.calm rfl 57 rfl (by decide) (eBool (decide (x11 ≤ (9223372036854775808 : Int)))) (Calm.assign rfl rfl) ?_
            cases hq13
            refine AO.nilE ⟨rfl, rfl⟩ ?_ ?_
            · exact ⟨rfl, rfl, rfl, trivial⟩
            · exact (Sub.refl _)
          · have hq13 := (if_neg hc14).symm.trans hq13
            refine AO.skipG 1 false 59 rfl rfl (congrArg (fun b => some (AV.fl (Value.bool b))) (eq_false_of_ne_true hc14)) 60 rfl (by decide) ?_
            refine AO.skipG 1 false 59 rfl rfl (congrArg (fun b => some (AV.fl (Value.bool b))) (eq_false_of_ne_true hc14)) 61 rfl (by decide) ?_
            refine AO.calm rfl 62 rfl (by decide) (eBool false) (Calm.pickF rfl (congrArg (fun b => some (AV.fl (Value.bool b))) (eq_false_of_ne_true hc14)) rfl) ?_
            refine AO.calm rfl 57 rfl (by decide) (eBool false) (Calm.assign rfl rfl) ?_
            cases hq13
            refine AO.nilE ⟨rfl, rfl⟩ ?_ ?_
            · exact ⟨rfl, rfl, rfl, trivial⟩
            · exact (Sub.refl _)
        · by_cases hc15 : b12 = true
          · have h := (if_pos hc15).symm.trans h
            refine AW.condT' b12 rfl hc15 ?_
            refine AW.seq ?_
            refine AW.reg ?_
            refine AO.calm rfl 63 rfl (by decide) (eU64 x11) (Calm.move rfl rfl) ?_
            refine AO.calm rfl 64 rfl (by decide) (eU64 (IntKind.u64.wrap (0 - x11))) (Calm.neg rfl rfl) ?_
            refine AO.calm rfl 65 rfl (by decide) (eI64 (w64 (IntKind.u64.wrap (0 - x11)))) (Calm.conv rfl rfl Try.underlying83 Try.underlying3) ?_
            refine AO.calm rfl 2 rfl (by decide) (eI64 (w64 (IntKind.u64.wrap (0 - x11)))) (Calm.assign rfl rfl) ?_
            refine AO.calm rfl 3 rfl (by decide) (eBool true) (Calm.assign rfl rfl) ?_
            refine AO.nil (ρ' := [(2, (eI64 (w64 (IntKind.u64.wrap (0 - x11))))), (3, (eBool true))]) (H' := []) ⟨rfl, rfl, trivial⟩ (Sub.refl _) ?_
            refine AW.ret (ρ' := [(2, (eI64 (w64 (IntKind.u64.wrap (0 - x11))))), (3, (eBool true))]) (H' := []) ⟨rfl, rfl, trivial⟩ (Sub.refl _) ?_
            have hr := Option.some.inj h
            subst hr
            exact ⟨[(eI64 (w64 (IntKind.u64.wrap (0 - x11)))), (eBool true)], ⟨rfl, rfl, rfl, rfl, trivial⟩, rfl⟩
          · have h := (if_neg hc15).symm.trans h
            refine AW.condF' b12 rfl hc15 ?_
            refine AW.seq ?_
            obtain ⟨b16, hq17, h⟩ := of_bind h
            refine AW.regM [(6, (eU64 x11)), (66, (eBool b16))] [] ?_ ?_
            · refine AO.calm rfl 67 rfl (by decide) (eBool t2.2) (Calm.move rfl rfl) ?_
              refine AO.calm rfl 68 rfl (by decide) (eBool (!t2.2)) (Calm.not rfl rfl) ?_
              refine AO.calm rfl 69 rfl (by decide) (eBool (!t2.2)) (Calm.move rfl rfl) ?_
              by_cases hc18 : (!t2.2) = true
              · have hq17 := (if_pos hc18).symm.trans hq17
                refine AO.calmG 2 true 69 rfl rfl (congrArg (fun b => some (AV.fl (Value.bool b))) hc18) 70 rfl (by decide) (eU64 x11) (Calm.move rfl rfl) ?_
                refine AO.calmG 2 true 69 rfl rfl (congrArg (fun b => some (AV.fl (Value.bool b))) hc18) 71 rfl (by decide) (eBool (decide (x11 < (9223372036854775808 : Int)))) (Calm.int rfl rfl rfl rfl) ?_
                refine AO.calm rfl 72 rfl (by decide) (eBool (decide (x11 < (9223372036854775808 : Int)))) (Calm.pickT rfl (congrArg (fun b => some (AV.fl (Value.bool b))) hc18) rfl) ?_
                refine AO.calm rfl 66 rfl (by decide) (eBool (decide (x11 < (9223372036854775808 : Int)))) (Calm.assign rfl rfl) ?_
                cases hq17
                refine AO.nilE ⟨rfl, rfl⟩ ?_ ?_
                · exact ⟨rfl, rfl, trivial⟩
                · exact (Sub.refl _)
              · have hq17 := (if_neg hc18).symm.trans hq17
                refine AO.skipG 2 false 69 rfl rfl (congrArg (fun b => some (AV.fl (Value.bool b))) (eq_false_of_ne_true hc18)) 70 rfl (by decide) ?_
                refine AO.skipG 2 false 69 rfl rfl (congrArg (fun b => some (AV.fl (Value.bool b))) (eq_false_of_ne_true hc18)) 71 rfl (by decide) ?_
                refine AO.calm rfl 72 rfl (by decide) (eBool false) (Calm.pickF rfl (congrArg (fun b => some (AV.fl (Value.bool b))) (eq_false_of_ne_true hc18)) rfl) ?_
                refine AO.calm rfl 66 rfl (by decide) (eBool false) (Calm.assign rfl rfl) ?_
                cases hq17
                refine AO.nilE ⟨rfl, rfl⟩ ?_ ?_
                · exact ⟨rfl, rfl, trivial⟩
                · exact (Sub.refl _)
            · by_cases hc19 : b16 = true
              · have h := (if_pos hc19).symm.trans h
                refine AW.condT' b16 rfl hc19 ?_
                refine AW.seq ?_
                refine AW.reg ?_
                refine AO.calm rfl 73 rfl (by decide) (eU64 x11) (Calm.move rfl rfl) ?_
                refine AO.calm rfl 74 rfl (by decide) (eI64 (w64 x11)) (Calm.conv rfl rfl Try.underlying83 Try.underlying3) ?_
                refine AO.calm rfl 2 rfl (by decide) (eI64 (w64 x11)) (Calm.assign rfl rfl) ?_
                refine AO.calm rfl 3 rfl (by decide) (eBool true) (Calm.assign rfl rfl) ?_
                refine AO.nil (ρ' := [(2, (eI64 (w64 x11))), (3, (eBool true))]) (H' := []) ⟨rfl, rfl, trivial⟩ (Sub.refl _) ?_
                refine AW.ret (ρ' := [(2, (eI64 (w64 x11))), (3, (eBool true))]) (H' := []) ⟨rfl, rfl, trivial⟩ (Sub.refl _) ?_
                have hr := Option.some.inj h
                subst hr
                exact ⟨[(eI64 (w64 x11)), (eBool true)], ⟨rfl, rfl, rfl, rfl, trivial⟩, rfl⟩
              · have h := (if_neg hc19).symm.trans h
                refine AW.condF' b16 rfl hc19 ?_
                refine AW.skip (ρ' := []) (H' := []) trivial (Sub.refl _) ?_
                refine AW.seq ?_
                refine AW.reg ?_
                refine AO.calm rfl 2 rfl (by decide) (eI64 (0 : Int)) (Calm.assign rfl rfl) ?_
                refine AO.calm rfl 3 rfl (by decide) (eBool false) (Calm.assign rfl rfl) ?_
                refine AO.nil (ρ' := [(2, (eI64 (0 : Int))), (3, (eBool false))]) (H' := []) ⟨rfl, rfl, trivial⟩ (Sub.refl _) ?_
                refine AW.ret (ρ' := [(2, (eI64 (0 : Int))), (3, (eBool false))]) (H' := []) ⟨rfl, rfl, trivial⟩ (Sub.refl _) ?_
                have hr := Option.some.inj h
                subst hr
                exact ⟨[(eI64 (0 : Int)), (eBool false)], ⟨rfl, rfl, rfl, rfl, trivial⟩, rfl⟩
end Go.Avl.T2
