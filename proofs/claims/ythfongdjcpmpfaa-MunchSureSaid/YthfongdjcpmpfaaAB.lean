/- Types and facts; printed by avmain.py. -/
import Derived.Test.YthfongdjcpmpfaaAv15
import Derived.Test.YthfongdjcpmpfaaProg
namespace Go.Avl.T1
open Go Go.RowKit Go.Proofs Go.Avl
set_option linter.unusedVariables false
set_option maxRecDepth 100000
set_option maxHeartbeats 4000000
abbrev e24 (l : List Int) : AV := .fz 1 (l.map eI64)
structure S26 where
  f0 : (Vector Int 256)
  f1 : (List (List Int))
  f2 : (List Int)
deriving Inhabited, DecidableEq
abbrev e26 (x : S26) : AV := .st [(256, (.ar 1 (x.f0.toList.map eU8))), (1, (.fz 1 (x.f1.map e24))), (1, (.fz 1 (x.f2.map eI64)))]
structure S61 where
  f0 : Int
  f1 : ByteArray
  f2 : Int
deriving Inhabited, DecidableEq
abbrev e61 (x : S61) : AV := .st [(1, (eI64 x.f0)), (1, (eStr x.f1)), (1, (eI64 x.f2))]
theorem zr26 : tyZero Try.prog 26 = some (((List.replicate 256 (.int .u8 0)) ++ ([.slice none 0 0] ++ ([.slice none 0 0] ++ [])))) := by rfl
theorem lay26 : ∀ g, Sim g (.st [(256, (.ar 1 ((Vector.replicate 256 (0 : Int)).toList.map eU8))), (1, (.fl (.slice none 0 0))), (1, (.fl (.slice none 0 0)))]) (((List.replicate 256 (.int .u8 0)) ++ ([.slice none 0 0] ++ ([.slice none 0 0] ++ [])))) := fun g => (Sim.stCons (lay_vec1 (lay_fl rfl)) rfl (Sim.stCons (lay_fl rfl) rfl (Sim.stCons (lay_fl rfl) rfl Sim.stNil)))
theorem sz22 : tySize Try.prog 22 = some 256 := by rfl
theorem sz5 : tySize Try.prog 5 = some 1 := by rfl
theorem sz3 : tySize Try.prog 3 = some 1 := by rfl
theorem zr3 : tyZero Try.prog 3 = some ([.int .i64 0]) := by rfl
theorem lay3 : ∀ g, Sim g (eI64 (0 : Int)) ([.int .i64 0]) := fun g => (lay_fl rfl)
theorem sz24 : tySize Try.prog 24 = some 1 := by rfl
theorem zr24 : tyZero Try.prog 24 = some ([.slice none 0 0]) := by rfl
theorem lay24 : ∀ g, Sim g (.fl (.slice none 0 0)) ([.slice none 0 0]) := fun g => (lay_fl rfl)
theorem sz23 : tySize Try.prog 23 = some 1 := by rfl
theorem ag26 : tyAgg Try.prog 26 = some true := by rfl
theorem sz26 : tySize Try.prog 26 = some 258 := by rfl
theorem ag23 : tyAgg Try.prog 23 = some false := by rfl
theorem ag5 : tyAgg Try.prog 5 = some false := by rfl
theorem ag24 : tyAgg Try.prog 24 = some false := by rfl
theorem ag3 : tyAgg Try.prog 3 = some false := by rfl
theorem ok55 : FnOK Try.prog 55 := FnOK.mk Try.func55 rfl rfl
theorem ok56 : FnOK Try.prog 56 := FnOK.mk Try.func56 rfl rfl
theorem ok15 : FnOK Try.prog 15 := FnOK.mk Try.func15 rfl rfl
theorem zr61 : tyZero Try.prog 61 = some (([.int .i64 0] ++ ([.string ByteArray.empty] ++ ([.int .i64 0] ++ [])))) := by rfl
theorem lay61 : ∀ g, Sim g (.st [(1, (eI64 (0 : Int))), (1, (eStr ByteArray.empty)), (1, (eI64 (0 : Int)))]) (([.int .i64 0] ++ ([.string ByteArray.empty] ++ ([.int .i64 0] ++ [])))) := fun g => (Sim.stCons (lay_fl rfl) rfl (Sim.stCons (lay_fl rfl) rfl (Sim.stCons (lay_fl rfl) rfl Sim.stNil)))
theorem sz61 : tySize Try.prog 61 = some 3 := by rfl
theorem by61 : tyBytes Try.prog 61 = some 32 := by rfl
theorem ok52 : FnOK Try.prog 52 := FnOK.mk Try.func52 rfl rfl
theorem ok32 : FnOK Try.prog 32 := FnOK.mk Try.func32 rfl rfl
theorem sz9 : tySize Try.prog 9 = some 1 := by rfl
theorem ag9 : tyAgg Try.prog 9 = some false := by rfl
theorem ag61 : tyAgg Try.prog 61 = some true := by rfl
theorem eqk61 (x y : S61) : EqOK Try.prog 2 61 (e61 x) (e61 y) (decide (x = y)) := (EqOK.struct (bs := [decide (x.f0 = y.f0), decide (x.f1 = y.f1), decide (x.f2 = y.f2)]) Try.underlying61 rfl ⟨⟨rfl, (eI64 x.f0), (eI64 y.f0), (At.cast (At.fld0 At.here) rfl), (At.cast (At.fld0 At.here) rfl), ag3, ag3, sz3, sz3, (EqOK.int Try.underlying3)⟩, ⟨rfl, (eStr x.f1), (eStr y.f1), (At.cast (At.fldS (At.fld0 At.here)) rfl), (At.cast (At.fldS (At.fld0 At.here)) rfl), ag9, ag9, sz9, sz9, (EqOK.str Try.underlying9)⟩, ⟨rfl, (eI64 x.f2), (eI64 y.f2), (At.cast (At.fldS (At.fldS (At.fld0 At.here))) rfl), (At.cast (At.fldS (At.fldS (At.fld0 At.here))) rfl), ag3, ag3, sz3, sz3, (EqOK.int Try.underlying3)⟩, trivial⟩).of (by cases x; cases y; simp)
theorem eg61 : Try.prog.eqGuardType Try.prog.depth 61 = false := by decide +kernel
theorem ok54 : FnOK Try.prog 54 := FnOK.mk Try.func54 rfl rfl
theorem ok53 : FnOK Try.prog 53 := FnOK.mk Try.func53 rfl rfl
theorem ok58 : FnOK Try.prog 58 := FnOK.mk Try.func58 rfl rfl
theorem ok19 : FnOK Try.prog 19 := FnOK.mk Try.func19 rfl rfl
theorem ok57 : FnOK Try.prog 57 := FnOK.mk Try.func57 rfl rfl
theorem ok12 : FnOK Try.prog 12 := FnOK.mk Try.func12 rfl rfl
theorem ok13 : FnOK Try.prog 13 := FnOK.mk Try.func13 rfl rfl
theorem ok14 : FnOK Try.prog 14 := FnOK.mk Try.func14 rfl rfl
theorem ok16 : FnOK Try.prog 16 := FnOK.mk Try.func16 rfl rfl
theorem ok17 : FnOK Try.prog 17 := FnOK.mk Try.func17 rfl rfl
theorem ok18 : FnOK Try.prog 18 := FnOK.mk Try.func18 rfl rfl
theorem by5 : tyBytes Try.prog 5 = some 1 := by rfl
theorem zr5 : tyZero Try.prog 5 = some ([.int .u8 0]) := by rfl
theorem ok33 : FnOK Try.prog 33 := FnOK.mk Try.func33 rfl rfl
theorem ok34 : FnOK Try.prog 34 := FnOK.mk Try.func34 rfl rfl
theorem ok35 : FnOK Try.prog 35 := FnOK.mk Try.func35 rfl rfl
theorem ok36 : FnOK Try.prog 36 := FnOK.mk Try.func36 rfl rfl
theorem ok40 : FnOK Try.prog 40 := FnOK.mk Try.func40 rfl rfl
theorem ok59 : FnOK Try.prog 59 := FnOK.mk Try.func59 rfl rfl
theorem ok60 : FnOK Try.prog 60 := FnOK.mk Try.func60 rfl rfl
theorem ok41 : FnOK Try.prog 41 := FnOK.mk Try.func41 rfl rfl
theorem ok38 : FnOK Try.prog 38 := FnOK.mk Try.func38 rfl rfl
theorem ok30 : FnOK Try.prog 30 := FnOK.mk Try.func30 rfl rfl
theorem zr9 : tyZero Try.prog 9 = some ([.string ByteArray.empty]) := by rfl
theorem lay9 : ∀ g, Sim g (eStr ByteArray.empty) ([.string ByteArray.empty]) := fun g => (lay_fl rfl)
theorem by9 : tyBytes Try.prog 9 = some 16 := by rfl
theorem ok61 : FnOK Try.prog 61 := FnOK.mk Try.func61 rfl rfl
theorem lay5 : ∀ g, Sim g (eU8 (0 : Int)) ([.int .u8 0]) := fun g => (lay_fl rfl)
theorem ok62 : FnOK Try.prog 62 := FnOK.mk Try.func62 rfl rfl
theorem ok43 : FnOK Try.prog 43 := FnOK.mk Try.func43 rfl rfl
theorem ok42 : FnOK Try.prog 42 := FnOK.mk Try.func42 rfl rfl
theorem ok63 : FnOK Try.prog 63 := FnOK.mk Try.func63 rfl rfl
theorem ok46 : FnOK Try.prog 46 := FnOK.mk Try.func46 rfl rfl
theorem ok44 : FnOK Try.prog 44 := FnOK.mk Try.func44 rfl rfl
theorem ok45 : FnOK Try.prog 45 := FnOK.mk Try.func45 rfl rfl
end Go.Avl.T1
