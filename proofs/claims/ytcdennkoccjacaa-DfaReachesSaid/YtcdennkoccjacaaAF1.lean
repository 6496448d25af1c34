/- Parts: T3B, T3f44, T3f46, T3f10, T3f11, T3f15. -/
import Derived.Test.YtcdennkoccjacaaAv4
import Derived.Test.YtcdennkoccjacaaProg
/- Types and facts; printed by avmain.py. -/
namespace Go.Avl.T3
open Go Go.RowKit Go.Proofs Go.Avl
set_option linter.unusedVariables false
set_option maxRecDepth 100000
set_option maxHeartbeats 4000000
structure S82 where
  f0 : Int
  f1 : (Vector Int 4)
deriving Inhabited, DecidableEq
abbrev e82 (x : S82) : AV := .st [(1, (eI64 x.f0)), (4, (.ar 1 (x.f1.toList.map eU64)))]
structure S35 where
  f0 : Int
  f1 : Int
  f2 : (Vector Int 4)
  f3 : Bool
deriving Inhabited, DecidableEq
abbrev e35 (x : S35) : AV := .st [(1, (eI64 x.f0)), (1, (eI64 x.f1)), (4, (.ar 1 (x.f2.toList.map eU64))), (1, (eBool x.f3))]
structure S24 where
  f0 : Int
  f1 : (List S35)
  f2 : Int
  f3 : Int
deriving Inhabited, DecidableEq
abbrev e24 (x : S24) : AV := .st [(1, (eI64 x.f0)), (1, (.fz 7 (x.f1.map e35))), (1, (eI64 x.f2)), (1, (eI64 x.f3))]
structure S106 where
  f0 : S24
deriving Inhabited, DecidableEq
abbrev e106 (x : S106) : AV := .st [(4, (e24 x.f0))]
structure S110 where
  f0 : Int
  f1 : Int
deriving Inhabited, DecidableEq
abbrev e110 (x : S110) : AV := .st [(1, (eI64 x.f0)), (1, (eI64 x.f1))]
abbrev e25 (l : List Bool) : AV := .fz 1 (l.map eBool)
abbrev e33 (v : Vector Int 4) : AV := .ar 1 (v.toList.map eU64)
abbrev e29 (l : List (Vector Int 4)) : AV := .fz 4 (l.map e33)
abbrev e43 (l : List Int) : AV := .fz 1 (l.map eI64)
structure S50 where
  f0 : (Vector Int 256)
  f1 : (List (List Int))
  f2 : (List Int)
deriving Inhabited, DecidableEq
abbrev e50 (x : S50) : AV := .st [(256, (.ar 1 (x.f0.toList.map eU8))), (1, (.fz 1 (x.f1.map e43))), (1, (.fz 1 (x.f2.map eI64)))]
abbrev e58 (l : List S82) : AV := .fz 5 (l.map e82)
abbrev e97 (l : List (List S82)) : AV := .fz 1 (l.map e58)
structure S62 where
  f0 : Bool
  f1 : (List S82)
deriving Inhabited, DecidableEq
abbrev e62 (x : S62) : AV := .st [(1, (eBool x.f0)), (1, (.fz 5 (x.f1.map e82)))]
structure S102 where
  f0 : (Vector Int 4)
  f1 : Bool
deriving Inhabited, DecidableEq
abbrev e102 (x : S102) : AV := .st [(4, (.ar 1 (x.f0.toList.map eU64))), (1, (eBool x.f1))]
theorem ag33 : tyAgg Try.prog 33 = some true := by rfl
theorem sz33 : tySize Try.prog 33 = some 4 := by rfl
theorem sz31 : tySize Try.prog 31 = some 1 := by rfl
theorem zr33 : tyZero Try.prog 33 = some ((List.replicate 4 (.int .u64 0))) := by rfl
theorem lay33 : ∀ g, Sim g (.ar 1 ((Vector.replicate 4 (0 : Int)).toList.map eU64)) ((List.replicate 4 (.int .u64 0))) := fun g => (lay_vec1 (lay_fl rfl))
theorem ag31 : tyAgg Try.prog 31 = some false := by rfl
theorem eqa33 (x y : (Vector Int 4)) : EqOK Try.prog 2 33 (.ar 1 (x.toList.map eU64)) (.ar 1 (y.toList.map eU64)) (decide (x = y)) := EqOK.vec (m := 1) Try.underlying33 (fun a b => EqOK.int Try.underlying31) (fun _ => ag31) (fun _ => sz31) (fun _ => rfl) (by rfl) ⟨_, rfl⟩ x y
theorem eg33 : Try.prog.eqGuardType Try.prog.depth 33 = false := by decide +kernel
theorem sz82 : tySize Try.prog 82 = some 5 := by rfl
theorem ag82 : tyAgg Try.prog 82 = some true := by rfl
theorem zr82 : tyZero Try.prog 82 = some (([.int .i64 0] ++ ((List.replicate 4 (.int .u64 0)) ++ []))) := by rfl
theorem lay82 : ∀ g, Sim g (.st [(1, (eI64 (0 : Int))), (4, (.ar 1 ((Vector.replicate 4 (0 : Int)).toList.map eU64)))]) (([.int .i64 0] ++ ((List.replicate 4 (.int .u64 0)) ++ []))) := fun g => (Sim.stCons (lay_fl rfl) rfl (Sim.stCons (lay_vec1 (lay_fl rfl)) rfl Sim.stNil))
theorem sz3 : tySize Try.prog 3 = some 1 := by rfl
theorem ag3 : tyAgg Try.prog 3 = some false := by rfl
theorem ok67 : FnOK Try.prog 67 := FnOK.mk Try.func67 rfl rfl
theorem ok68 : FnOK Try.prog 68 := FnOK.mk Try.func68 rfl rfl
theorem sz24 : tySize Try.prog 24 = some 4 := by rfl
theorem zr110 : tyZero Try.prog 110 = some (([.int .i64 0] ++ ([.int .i64 0] ++ []))) := by rfl
theorem lay110 : ∀ g, Sim g (.st [(1, (eI64 (0 : Int))), (1, (eI64 (0 : Int)))]) (([.int .i64 0] ++ ([.int .i64 0] ++ []))) := fun g => (Sim.stCons (lay_fl rfl) rfl (Sim.stCons (lay_fl rfl) rfl Sim.stNil))
theorem ok81 : FnOK Try.prog 81 := FnOK.mk Try.func81 rfl rfl
theorem sz110 : tySize Try.prog 110 = some 2 := by rfl
theorem ag110 : tyAgg Try.prog 110 = some true := by rfl
theorem sz22 : tySize Try.prog 22 = some 1 := by rfl
theorem ag22 : tyAgg Try.prog 22 = some false := by rfl
theorem zr35 : tyZero Try.prog 35 = some (([.int .i64 0] ++ ([.int .i64 0] ++ ((List.replicate 4 (.int .u64 0)) ++ ([.bool false] ++ []))))) := by rfl
theorem lay35 : ∀ g, Sim g (.st [(1, (eI64 (0 : Int))), (1, (eI64 (0 : Int))), (4, (.ar 1 ((Vector.replicate 4 (0 : Int)).toList.map eU64))), (1, (eBool false))]) (([.int .i64 0] ++ ([.int .i64 0] ++ ((List.replicate 4 (.int .u64 0)) ++ ([.bool false] ++ []))))) := fun g => (Sim.stCons (lay_fl rfl) rfl (Sim.stCons (lay_fl rfl) rfl (Sim.stCons (lay_vec1 (lay_fl rfl)) rfl (Sim.stCons (lay_fl rfl) rfl Sim.stNil))))
theorem sz35 : tySize Try.prog 35 = some 7 := by rfl
theorem by35 : tyBytes Try.prog 35 = some 56 := by rfl
theorem ok77 : FnOK Try.prog 77 := FnOK.mk Try.func77 rfl rfl
theorem ok78 : FnOK Try.prog 78 := FnOK.mk Try.func78 rfl rfl
theorem by110 : tyBytes Try.prog 110 = some 16 := by rfl
theorem zr24 : tyZero Try.prog 24 = some (([.int .i64 0] ++ ([.slice none 0 0] ++ ([.int .i64 0] ++ ([.int .i64 0] ++ []))))) := by rfl
theorem lay24 : ∀ g, Sim g (.st [(1, (eI64 (0 : Int))), (1, (.fl (.slice none 0 0))), (1, (eI64 (0 : Int))), (1, (eI64 (0 : Int)))]) (([.int .i64 0] ++ ([.slice none 0 0] ++ ([.int .i64 0] ++ ([.int .i64 0] ++ []))))) := fun g => (Sim.stCons (lay_fl rfl) rfl (Sim.stCons (lay_fl rfl) rfl (Sim.stCons (lay_fl rfl) rfl (Sim.stCons (lay_fl rfl) rfl Sim.stNil))))
theorem ok57 : FnOK Try.prog 57 := FnOK.mk Try.func57 rfl rfl
theorem ag24 : tyAgg Try.prog 24 = some true := by rfl
theorem zr106 : tyZero Try.prog 106 = some ((([.int .i64 0] ++ ([.slice none 0 0] ++ ([.int .i64 0] ++ ([.int .i64 0] ++ [])))) ++ [])) := by rfl
theorem lay106 : ∀ g, Sim g (.st [(4, (.st [(1, (eI64 (0 : Int))), (1, (.fl (.slice none 0 0))), (1, (eI64 (0 : Int))), (1, (eI64 (0 : Int)))]))]) ((([.int .i64 0] ++ ([.slice none 0 0] ++ ([.int .i64 0] ++ ([.int .i64 0] ++ [])))) ++ [])) := fun g => (Sim.stCons (Sim.stCons (lay_fl rfl) rfl (Sim.stCons (lay_fl rfl) rfl (Sim.stCons (lay_fl rfl) rfl (Sim.stCons (lay_fl rfl) rfl Sim.stNil)))) rfl Sim.stNil)
theorem ok65 : FnOK Try.prog 65 := FnOK.mk Try.func65 rfl rfl
theorem ag35 : tyAgg Try.prog 35 = some true := by rfl
theorem sz4 : tySize Try.prog 4 = some 1 := by rfl
theorem by4 : tyBytes Try.prog 4 = some 1 := by rfl
theorem zr4 : tyZero Try.prog 4 = some ([.bool false]) := by rfl
theorem lay4 : ∀ g, Sim g (eBool false) ([.bool false]) := fun g => (lay_fl rfl)
theorem ag4 : tyAgg Try.prog 4 = some false := by rfl
theorem ok46 : FnOK Try.prog 46 := FnOK.mk Try.func46 rfl rfl
theorem ok11 : FnOK Try.prog 11 := FnOK.mk Try.func11 rfl rfl
theorem ok15 : FnOK Try.prog 15 := FnOK.mk Try.func15 rfl rfl
theorem ok17 : FnOK Try.prog 17 := FnOK.mk Try.func17 rfl rfl
theorem ok45 : FnOK Try.prog 45 := FnOK.mk Try.func45 rfl rfl
theorem ok12 : FnOK Try.prog 12 := FnOK.mk Try.func12 rfl rfl
theorem by33 : tyBytes Try.prog 33 = some 32 := by rfl
theorem ok44 : FnOK Try.prog 44 := FnOK.mk Try.func44 rfl rfl
theorem ok16 : FnOK Try.prog 16 := FnOK.mk Try.func16 rfl rfl
theorem ok18 : FnOK Try.prog 18 := FnOK.mk Try.func18 rfl rfl
theorem ok9 : FnOK Try.prog 9 := FnOK.mk Try.func9 rfl rfl
theorem ok10 : FnOK Try.prog 10 := FnOK.mk Try.func10 rfl rfl
theorem ok13 : FnOK Try.prog 13 := FnOK.mk Try.func13 rfl rfl
theorem ok14 : FnOK Try.prog 14 := FnOK.mk Try.func14 rfl rfl
theorem ok19 : FnOK Try.prog 19 := FnOK.mk Try.func19 rfl rfl
theorem zr3 : tyZero Try.prog 3 = some ([.int .i64 0]) := by rfl
theorem lay3 : ∀ g, Sim g (eI64 (0 : Int)) ([.int .i64 0]) := fun g => (lay_fl rfl)
theorem by3 : tyBytes Try.prog 3 = some 8 := by rfl
theorem ok20 : FnOK Try.prog 20 := FnOK.mk Try.func20 rfl rfl
theorem ag47 : tyAgg Try.prog 47 = some true := by rfl
theorem sz47 : tySize Try.prog 47 = some 256 := by rfl
theorem sz5 : tySize Try.prog 5 = some 1 := by rfl
theorem ag5 : tyAgg Try.prog 5 = some false := by rfl
theorem sz48 : tySize Try.prog 48 = some 1 := by rfl
theorem ag48 : tyAgg Try.prog 48 = some false := by rfl
theorem sz43 : tySize Try.prog 43 = some 1 := by rfl
theorem ag43 : tyAgg Try.prog 43 = some false := by rfl
theorem ok52 : FnOK Try.prog 52 := FnOK.mk Try.func52 rfl rfl
theorem ok53 : FnOK Try.prog 53 := FnOK.mk Try.func53 rfl rfl
theorem ag50 : tyAgg Try.prog 50 = some true := by rfl
theorem sz50 : tySize Try.prog 50 = some 258 := by rfl
theorem ok66 : FnOK Try.prog 66 := FnOK.mk Try.func66 rfl rfl
theorem ok47 : FnOK Try.prog 47 := FnOK.mk Try.func47 rfl rfl
theorem ok50 : FnOK Try.prog 50 := FnOK.mk Try.func50 rfl rfl
theorem zr43 : tyZero Try.prog 43 = some ([.slice none 0 0]) := by rfl
theorem lay43 : ∀ g, Sim g (.fl (.slice none 0 0)) ([.slice none 0 0]) := fun g => (lay_fl rfl)
theorem zr50 : tyZero Try.prog 50 = some (((List.replicate 256 (.int .u8 0)) ++ ([.slice none 0 0] ++ ([.slice none 0 0] ++ [])))) := by rfl
theorem lay50 : ∀ g, Sim g (.st [(256, (.ar 1 ((Vector.replicate 256 (0 : Int)).toList.map eU8))), (1, (.fl (.slice none 0 0))), (1, (.fl (.slice none 0 0)))]) (((List.replicate 256 (.int .u8 0)) ++ ([.slice none 0 0] ++ ([.slice none 0 0] ++ [])))) := fun g => (Sim.stCons (lay_vec1 (lay_fl rfl)) rfl (Sim.stCons (lay_fl rfl) rfl (Sim.stCons (lay_fl rfl) rfl Sim.stNil)))
theorem ok27 : FnOK Try.prog 27 := FnOK.mk Try.func27 rfl rfl
theorem ok24 : FnOK Try.prog 24 := FnOK.mk Try.func24 rfl rfl
theorem ok49 : FnOK Try.prog 49 := FnOK.mk Try.func49 rfl rfl
theorem ok48 : FnOK Try.prog 48 := FnOK.mk Try.func48 rfl rfl
theorem ok37 : FnOK Try.prog 37 := FnOK.mk Try.func37 rfl rfl
theorem ok51 : FnOK Try.prog 51 := FnOK.mk Try.func51 rfl rfl
theorem by43 : tyBytes Try.prog 43 = some 24 := by rfl
theorem ok36 : FnOK Try.prog 36 := FnOK.mk Try.func36 rfl rfl
theorem ok38 : FnOK Try.prog 38 := FnOK.mk Try.func38 rfl rfl
theorem ok54 : FnOK Try.prog 54 := FnOK.mk Try.func54 rfl rfl
theorem eqa47 (x y : (Vector Int 256)) : EqOK Try.prog 2 47 (.ar 1 (x.toList.map eU8)) (.ar 1 (y.toList.map eU8)) (decide (x = y)) := EqOK.vec (m := 1) Try.underlying47 (fun a b => EqOK.int Try.underlying5) (fun _ => ag5) (fun _ => sz5) (fun _ => rfl) (by rfl) ⟨_, rfl⟩ x y
theorem eg47 : Try.prog.eqGuardType Try.prog.depth 47 = false := by decide +kernel
theorem ok55 : FnOK Try.prog 55 := FnOK.mk Try.func55 rfl rfl
theorem ok21 : FnOK Try.prog 21 := FnOK.mk Try.func21 rfl rfl
theorem ok22 : FnOK Try.prog 22 := FnOK.mk Try.func22 rfl rfl
theorem ok23 : FnOK Try.prog 23 := FnOK.mk Try.func23 rfl rfl
theorem ok26 : FnOK Try.prog 26 := FnOK.mk Try.func26 rfl rfl
theorem ok25 : FnOK Try.prog 25 := FnOK.mk Try.func25 rfl rfl
theorem ok28 : FnOK Try.prog 28 := FnOK.mk Try.func28 rfl rfl
theorem ok29 : FnOK Try.prog 29 := FnOK.mk Try.func29 rfl rfl
theorem by82 : tyBytes Try.prog 82 = some 40 := by rfl
theorem ok56 : FnOK Try.prog 56 := FnOK.mk Try.func56 rfl rfl
theorem sz58 : tySize Try.prog 58 = some 1 := by rfl
theorem zr58 : tyZero Try.prog 58 = some ([.slice none 0 0]) := by rfl
theorem lay58 : ∀ g, Sim g (.fl (.slice none 0 0)) ([.slice none 0 0]) := fun g => (lay_fl rfl)
theorem ok79 : FnOK Try.prog 79 := FnOK.mk Try.func79 rfl rfl
theorem ag58 : tyAgg Try.prog 58 = some false := by rfl
theorem zr62 : tyZero Try.prog 62 = some (([.bool false] ++ ([.slice none 0 0] ++ []))) := by rfl
theorem lay62 : ∀ g, Sim g (.st [(1, (eBool false)), (1, (.fl (.slice none 0 0)))]) (([.bool false] ++ ([.slice none 0 0] ++ []))) := fun g => (Sim.stCons (lay_fl rfl) rfl (Sim.stCons (lay_fl rfl) rfl Sim.stNil))
theorem sz62 : tySize Try.prog 62 = some 2 := by rfl
theorem ag62 : tyAgg Try.prog 62 = some true := by rfl
theorem ok72 : FnOK Try.prog 72 := FnOK.mk Try.func72 rfl rfl
theorem eqk82 (x y : S82) : EqOK Try.prog 3 82 (e82 x) (e82 y) (decide (x = y)) := (EqOK.struct (bs := [decide (x.f0 = y.f0), decide (x.f1 = y.f1)]) Try.underlying82 (by decide +kernel) ⟨⟨rfl, (eI64 x.f0), (eI64 y.f0), (At.cast (At.fld0 At.here) rfl), (At.cast (At.fld0 At.here) rfl), ag3, ag3, sz3, sz3, (EqOK.lift 1 (EqOK.int Try.underlying3))⟩, ⟨rfl, (.ar 1 (x.f1.toList.map eU64)), (.ar 1 (y.f1.toList.map eU64)), (At.cast (At.fldS (At.fld0 At.here)) rfl), (At.cast (At.fldS (At.fld0 At.here)) rfl), ag33, ag33, (by rw [sz33]; simp [AV.size]), (by rw [sz33]; simp [AV.size]), (eqa33 x.f1 y.f1)⟩, trivial⟩).of (by cases x; cases y; simp)
theorem eg82 : Try.prog.eqGuardType Try.prog.depth 82 = false := by decide +kernel
theorem ok82 : FnOK Try.prog 82 := FnOK.mk Try.func82 rfl rfl
theorem ok80 : FnOK Try.prog 80 := FnOK.mk Try.func80 rfl rfl
theorem ok69 : FnOK Try.prog 69 := FnOK.mk Try.func69 rfl rfl
theorem ok58 : FnOK Try.prog 58 := FnOK.mk Try.func58 rfl rfl
theorem ok70 : FnOK Try.prog 70 := FnOK.mk Try.func70 rfl rfl
theorem ok41 : FnOK Try.prog 41 := FnOK.mk Try.func41 rfl rfl
theorem ok71 : FnOK Try.prog 71 := FnOK.mk Try.func71 rfl rfl
theorem ok59 : FnOK Try.prog 59 := FnOK.mk Try.func59 rfl rfl
theorem ok75 : FnOK Try.prog 75 := FnOK.mk Try.func75 rfl rfl
theorem by58 : tyBytes Try.prog 58 = some 24 := by rfl
theorem ok62 : FnOK Try.prog 62 := FnOK.mk Try.func62 rfl rfl
theorem ok60 : FnOK Try.prog 60 := FnOK.mk Try.func60 rfl rfl
theorem ok73 : FnOK Try.prog 73 := FnOK.mk Try.func73 rfl rfl
theorem ok74 : FnOK Try.prog 74 := FnOK.mk Try.func74 rfl rfl
theorem ok43 : FnOK Try.prog 43 := FnOK.mk Try.func43 rfl rfl
theorem ok34 : FnOK Try.prog 34 := FnOK.mk Try.func34 rfl rfl
theorem ok33 : FnOK Try.prog 33 := FnOK.mk Try.func33 rfl rfl
theorem ok30 : FnOK Try.prog 30 := FnOK.mk Try.func30 rfl rfl
theorem sz9 : tySize Try.prog 9 = some 1 := by rfl
theorem ag9 : tyAgg Try.prog 9 = some false := by rfl
theorem ok31 : FnOK Try.prog 31 := FnOK.mk Try.func31 rfl rfl
theorem ok32 : FnOK Try.prog 32 := FnOK.mk Try.func32 rfl rfl
theorem ok61 : FnOK Try.prog 61 := FnOK.mk Try.func61 rfl rfl
theorem ok35 : FnOK Try.prog 35 := FnOK.mk Try.func35 rfl rfl
theorem ok39 : FnOK Try.prog 39 := FnOK.mk Try.func39 rfl rfl
theorem ok76 : FnOK Try.prog 76 := FnOK.mk Try.func76 rfl rfl
theorem ok40 : FnOK Try.prog 40 := FnOK.mk Try.func40 rfl rfl
theorem ok63 : FnOK Try.prog 63 := FnOK.mk Try.func63 rfl rfl
theorem zr102 : tyZero Try.prog 102 = some (((List.replicate 4 (.int .u64 0)) ++ ([.bool false] ++ []))) := by rfl
theorem lay102 : ∀ g, Sim g (.st [(4, (.ar 1 ((Vector.replicate 4 (0 : Int)).toList.map eU64))), (1, (eBool false))]) (((List.replicate 4 (.int .u64 0)) ++ ([.bool false] ++ []))) := fun g => (Sim.stCons (lay_vec1 (lay_fl rfl)) rfl (Sim.stCons (lay_fl rfl) rfl Sim.stNil))
theorem sz102 : tySize Try.prog 102 = some 5 := by rfl
theorem by102 : tyBytes Try.prog 102 = some 40 := by rfl
theorem ag102 : tyAgg Try.prog 102 = some true := by rfl
theorem ok64 : FnOK Try.prog 64 := FnOK.mk Try.func64 rfl rfl
theorem ok42 : FnOK Try.prog 42 := FnOK.mk Try.func42 rfl rfl
end Go.Avl.T3
/- bosket/bosketref02.Has; printed by avmain.py. -/
namespace Go.Avl.T3
open Go Go.RowKit Go.Proofs Go.Avl
set_option linter.unusedVariables false
set_option maxRecDepth 100000
set_option maxHeartbeats 4000000
attribute [local irreducible] AW AO AQ Spec SpecH Calm

def bosketref02_Has_c0 (k : Nat) (x5 : Int) : Option Bool :=
  some (decide ((x5.tmod (2 : Int)) = (1 : Int)))
def bosketref02_Has_l1 (k : Nat) (p1 : Int) : Nat → Int → Int → Option Bool
  | 0, _, _ => none
  | j + 1, x6, x7 =>
    if x7 < (p1.tmod (64 : Int)) then (bosketref02_Has_l1 k p1 j) (IntKind.u64.wrap (x6.tdiv (2 : Int))) (w64 (x7 + (1 : Int)))
    else bosketref02_Has_c0 k x6
def bosketref02_Has (k : Nat) (p0 : (Vector Int 4)) (p1 : Int) : Option Bool :=
  if 0 ≤ (IntKind.i64.wrap (p1.tdiv (64 : Int))) ∧ (IntKind.i64.wrap (p1.tdiv (64 : Int))) < (4 : Int) then bosketref02_Has_l1 k p1 k (vget p0 (IntKind.i64.wrap (p1.tdiv (64 : Int)))) (0 : Int)
  else none
theorem bosketref02_Has_spec {k : Nat} {p0 : (Vector Int 4)} {p1 : Int} {r : Bool} (h : bosketref02_Has k p0 p1 = some r) : Spec Try.prog 44 [(.ar 1 (p0.toList.map eU64)), (eI64 p1)] (eBool r) := by
  rw [bosketref02_Has.eq_1] at h
  refine Spec.intro (res := [.tmp 4]) Try.func44 rfl rfl rfl (Nat.le_of_ble_eq_true rfl) ?_
  refine AW.seq ?_
  refine AW.reg ?_
  refine AO.box rfl 2 rfl (by decide) rfl rfl rfl fun n3 => ?_
  refine AO.calm rfl 4 rfl (by decide) (eBool false) (Calm.assign rfl rfl) ?_
  refine AO.nil (ρ' := [(1, (eI64 p1)), (2, (.ptr n3 0))]) (H' := [(n3, (.mem (.ar 1 (p0.toList.map eU64))))]) ⟨rfl, rfl, trivial⟩ (Sub.refl _) ?_
  refine AW.seq ?_
  refine AW.reg ?_
  refine AO.calm rfl 7 rfl (by decide) (eI64 p1) (Calm.move rfl rfl) ?_
  refine AO.calm rfl 8 rfl (by decide) (eI64 (IntKind.i64.wrap (p1.tdiv (64 : Int)))) (Calm.quo rfl rfl rfl (by decide)) ?_
  obtain ⟨hg4, h⟩ := of_guard h
  refine AO.calm rfl 9 rfl (by decide) (.ptr n3 (0 + (IntKind.i64.wrap (p1.tdiv (64 : Int))).toNat * 1)) (Calm.idxP rfl rfl rfl hg4 Try.underlying33 sz31) ?_
  refine AO.calm rfl 10 rfl (by decide) (eU64 (vget p0 (IntKind.i64.wrap (p1.tdiv (64 : Int))))) (Calm.load 0 rfl rfl rfl (At.cast (At.vidx (IntKind.i64.wrap (p1.tdiv (64 : Int))) hg4.1 hg4.2 At.here) (by omega)) ag31 sz31) ?_
  refine AO.calm rfl 5 rfl (by decide) (eU64 (vget p0 (IntKind.i64.wrap (p1.tdiv (64 : Int))))) (Calm.assign rfl rfl) ?_
  refine AO.nil (ρ' := [(1, (eI64 p1)), (5, (eU64 (vget p0 (IntKind.i64.wrap (p1.tdiv (64 : Int))))))]) (H' := []) ⟨rfl, rfl, trivial⟩ (Sub.nil _) ?_
  refine AW.seq_mid (fun ρ H => ∃ (x5 : Int), ρ = [(5, (eU64 x5))] ∧ H = [] ∧ bosketref02_Has_c0 k x5 = some r) ?_ ?_
  · refine AW.seq ?_
    refine AW.reg ?_
    refine AO.calm rfl 6 rfl (by decide) (eI64 (0 : Int)) (Calm.assign rfl rfl) ?_
    refine AO.nil (ρ' := [(1, (eI64 p1)), (5, (eU64 (vget p0 (IntKind.i64.wrap (p1.tdiv (64 : Int)))))), (6, (eI64 (0 : Int)))]) (H' := []) ⟨rfl, rfl, rfl, trivial⟩ (Sub.refl _) ?_
    refine AW.block ?_
    refine AW.weak (ρ' := [(1, (eI64 p1)), (5, (eU64 (vget p0 (IntKind.i64.wrap (p1.tdiv (64 : Int)))))), (6, (eI64 (0 : Int)))]) (H' := []) ⟨rfl, rfl, rfl, trivial⟩ (Sub.refl _) ?_
    refine AW.loop (fun kq ρ H => ∃ (x6 : Int) (x7 : Int), ρ = [(1, (eI64 p1)), (5, (eU64 x6)), (6, (eI64 x7))] ∧ H = [] ∧ bosketref02_Has_l1 k p1 kq x6 x7 = some r) k ⟨(vget p0 (IntKind.i64.wrap (p1.tdiv (64 : Int)))), (0 : Int), rfl, rfl, h⟩ ?_
    rintro kq9 _ _ ⟨x6, x7, rfl, rfl, h⟩
    cases kq9 with
    | zero => rw [bosketref02_Has_l1.eq_1] at h; cases h
    | succ kq9 =>
    rw [bosketref02_Has_l1.eq_2] at h
    generalize hrec8 : bosketref02_Has_l1 k p1 kq9 = rec8 at h
    refine AW.seq ?_
    refine AW.seq ?_
    refine AW.reg ?_
    refine AO.calm rfl 11 rfl (by decide) (eI64 x7) (Calm.move rfl rfl) ?_
    refine AO.calm rfl 12 rfl (by decide) (eI64 p1) (Calm.move rfl rfl) ?_
    refine AO.calm rfl 13 rfl (by decide) (eI64 (p1.tmod (64 : Int))) (Calm.rem rfl rfl rfl (by decide)) ?_
    refine AO.calm rfl 14 rfl (by decide) (eBool (decide (x7 < (p1.tmod (64 : Int))))) (Calm.int rfl rfl rfl rfl) ?_
    refine AO.nil (ρ' := [(1, (eI64 p1)), (5, (eU64 x6)), (6, (eI64 x7)), (14, (eBool (decide (x7 < (p1.tmod (64 : Int))))))]) (H' := []) ⟨rfl, rfl, rfl, rfl, trivial⟩ (Sub.refl _) ?_
    by_cases hc10 : x7 < (p1.tmod (64 : Int))
    · have h := (if_pos hc10).symm.trans h
      refine AW.condP (x7 < (p1.tmod (64 : Int))) rfl hc10 ?_
      refine AW.skip (ρ' := [(1, (eI64 p1)), (5, (eU64 x6)), (6, (eI64 x7))]) (H' := []) ⟨rfl, rfl, rfl, trivial⟩ (Sub.refl _) ?_
      refine AW.seq ?_
      refine AW.block ?_
      refine AW.reg ?_
      refine AO.calm rfl 17 rfl (by decide) (eU64 x6) (Calm.move rfl rfl) ?_
      refine AO.calm rfl 18 rfl (by decide) (eU64 (IntKind.u64.wrap (x6.tdiv (2 : Int)))) (Calm.quo rfl rfl rfl (by decide)) ?_
      refine AO.calm rfl 5 rfl (by decide) (eU64 (IntKind.u64.wrap (x6.tdiv (2 : Int)))) (Calm.assign rfl rfl) ?_
      refine AO.nil (ρ' := [(1, (eI64 p1)), (5, (eU64 (IntKind.u64.wrap (x6.tdiv (2 : Int))))), (6, (eI64 x7))]) (H' := []) ⟨rfl, rfl, rfl, trivial⟩ (Sub.refl _) ?_
      refine AW.reg ?_
      refine AO.calm rfl 15 rfl (by decide) (eI64 x7) (Calm.move rfl rfl) ?_
      refine AO.calm rfl 16 rfl (by decide) (eI64 (w64 (x7 + (1 : Int)))) (Calm.int rfl rfl rfl rfl) ?_
      refine AO.calm rfl 6 rfl (by decide) (eI64 (w64 (x7 + (1 : Int)))) (Calm.assign rfl rfl) ?_
      refine AO.nil (ρ' := [(1, (eI64 p1)), (5, (eU64 (IntKind.u64.wrap (x6.tdiv (2 : Int))))), (6, (eI64 (w64 (x7 + (1 : Int)))))]) (H' := []) ⟨rfl, rfl, rfl, trivial⟩ (Sub.refl _) ?_
      exact ⟨kq9, Nat.lt_succ_self _, (IntKind.u64.wrap (x6.tdiv (2 : Int))), (w64 (x7 + (1 : Int))), rfl, rfl, by rw [hrec8]; exact h⟩
    · have h := (if_neg hc10).symm.trans h
      refine AW.condN (x7 < (p1.tmod (64 : Int))) rfl hc10 ?_
      refine AW.exit (ρ' := [(5, (eU64 x6))]) (H' := []) ⟨rfl, trivial⟩ (Sub.refl _) ?_
      exact ⟨x6, rfl, rfl, h⟩
  · rintro _ _ ⟨x5, rfl, rfl, h⟩
    rw [bosketref02_Has_c0.eq_1] at h
    refine AW.seq ?_
    refine AW.reg ?_
    refine AO.calm rfl 19 rfl (by decide) (eU64 x5) (Calm.move rfl rfl) ?_
    refine AO.calm rfl 20 rfl (by decide) (eU64 (x5.tmod (2 : Int))) (Calm.rem rfl rfl rfl (by decide)) ?_
    refine AO.calm rfl 21 rfl (by decide) (eBool (decide ((x5.tmod (2 : Int)) = (1 : Int)))) (Calm.int rfl rfl rfl rfl) ?_
    refine AO.calm rfl 4 rfl (by decide) (eBool (decide ((x5.tmod (2 : Int)) = (1 : Int)))) (Calm.assign rfl rfl) ?_
    refine AO.nil (ρ' := [(4, (eBool (decide ((x5.tmod (2 : Int)) = (1 : Int)))))]) (H' := []) ⟨rfl, trivial⟩ (Sub.refl _) ?_
    refine AW.ret (ρ' := [(4, (eBool (decide ((x5.tmod (2 : Int)) = (1 : Int)))))]) (H' := []) ⟨rfl, trivial⟩ (Sub.refl _) ?_
    have hr := Option.some.inj h
    subst hr
    exact ⟨[(eBool (decide ((x5.tmod (2 : Int)) = (1 : Int))))], ⟨rfl, rfl, trivial⟩, rfl⟩
end Go.Avl.T3
/- bosket/byteset.Has; printed by avmain.py. -/
namespace Go.Avl.T3
open Go Go.RowKit Go.Proofs Go.Avl
set_option linter.unusedVariables false
set_option maxRecDepth 100000
set_option maxHeartbeats 4000000
attribute [local irreducible] AW AO AQ Spec SpecH Calm

def byteset_Has (k : Nat) (p0 : (Vector Int 4)) (p1 : Int) : Option Bool :=
  if 0 ≤ (IntKind.u8.wrap (p1.tdiv (64 : Int))) ∧ (IntKind.u8.wrap (p1.tdiv (64 : Int))) < (4 : Int) then if 0 ≤ (p1.tmod (64 : Int)) then some (decide ((bits .and .u64 (Int.fdiv (vget p0 (IntKind.u8.wrap (p1.tdiv (64 : Int)))) (2 ^ (min (p1.tmod (64 : Int)).toNat IntKind.u64.bits))) (1 : Int)) = (1 : Int)))
  else none
  else none
theorem byteset_Has_spec {k : Nat} {p0 : (Vector Int 4)} {p1 : Int} {r : Bool} (h : byteset_Has k p0 p1 = some r) : Spec Try.prog 46 [(.ar 1 (p0.toList.map eU64)), (eU8 p1)] (eBool r) := by
  rw [byteset_Has.eq_1] at h
  refine Spec.intro (res := [.tmp 4]) Try.func46 rfl rfl rfl (Nat.le_of_ble_eq_true rfl) ?_
  refine AW.seq ?_
  refine AW.reg ?_
  refine AO.box rfl 2 rfl (by decide) rfl rfl rfl fun n3 => ?_
  refine AO.calm rfl 4 rfl (by decide) (eBool false) (Calm.assign rfl rfl) ?_
  refine AO.nil (ρ' := [(1, (eU8 p1)), (2, (.ptr n3 0))]) (H' := [(n3, (.mem (.ar 1 (p0.toList.map eU64))))]) ⟨rfl, rfl, trivial⟩ (Sub.refl _) ?_
  refine AW.seq ?_
  refine AW.reg ?_
  refine AO.calm rfl 5 rfl (by decide) (eU8 p1) (Calm.move rfl rfl) ?_
  refine AO.calm rfl 6 rfl (by decide) (eU8 (IntKind.u8.wrap (p1.tdiv (64 : Int)))) (Calm.quo rfl rfl rfl (by decide)) ?_
  obtain ⟨hg4, h⟩ := of_guard h
  refine AO.calm rfl 7 rfl (by decide) (.ptr n3 (0 + (IntKind.u8.wrap (p1.tdiv (64 : Int))).toNat * 1)) (Calm.idxP rfl rfl rfl hg4 Try.underlying33 sz31) ?_
  refine AO.calm rfl 8 rfl (by decide) (eU64 (vget p0 (IntKind.u8.wrap (p1.tdiv (64 : Int))))) (Calm.load 0 rfl rfl rfl (At.cast (At.vidx (IntKind.u8.wrap (p1.tdiv (64 : Int))) hg4.1 hg4.2 At.here) (by omega)) ag31 sz31) ?_
  refine AO.calm rfl 9 rfl (by decide) (eU8 p1) (Calm.move rfl rfl) ?_
  refine AO.calm rfl 10 rfl (by decide) (eU8 (p1.tmod (64 : Int))) (Calm.rem rfl rfl rfl (by decide)) ?_
  obtain ⟨hg5, h⟩ := of_guard h
  refine AO.calm rfl 11 rfl (by decide) (eU64 (Int.fdiv (vget p0 (IntKind.u8.wrap (p1.tdiv (64 : Int)))) (2 ^ (min (p1.tmod (64 : Int)).toNat IntKind.u64.bits)))) (Calm.shr rfl rfl rfl hg5) ?_
  refine AO.calm rfl 12 rfl (by decide) (eU64 (bits .and .u64 (Int.fdiv (vget p0 (IntKind.u8.wrap (p1.tdiv (64 : Int)))) (2 ^ (min (p1.tmod (64 : Int)).toNat IntKind.u64.bits))) (1 : Int))) (Calm.int rfl rfl rfl rfl) ?_
  refine AO.calm rfl 13 rfl (by decide) (eBool (decide ((bits .and .u64 (Int.fdiv (vget p0 (IntKind.u8.wrap (p1.tdiv (64 : Int)))) (2 ^ (min (p1.tmod (64 : Int)).toNat IntKind.u64.bits))) (1 : Int)) = (1 : Int)))) (Calm.int rfl rfl rfl rfl) ?_
  refine AO.calm rfl 4 rfl (by decide) (eBool (decide ((bits .and .u64 (Int.fdiv (vget p0 (IntKind.u8.wrap (p1.tdiv (64 : Int)))) (2 ^ (min (p1.tmod (64 : Int)).toNat IntKind.u64.bits))) (1 : Int)) = (1 : Int)))) (Calm.assign rfl rfl) ?_
  refine AO.nil (ρ' := [(4, (eBool (decide ((bits .and .u64 (Int.fdiv (vget p0 (IntKind.u8.wrap (p1.tdiv (64 : Int)))) (2 ^ (min (p1.tmod (64 : Int)).toNat IntKind.u64.bits))) (1 : Int)) = (1 : Int)))))]) (H' := []) ⟨rfl, trivial⟩ (Sub.nil _) ?_
  refine AW.ret (ρ' := [(4, (eBool (decide ((bits .and .u64 (Int.fdiv (vget p0 (IntKind.u8.wrap (p1.tdiv (64 : Int)))) (2 ^ (min (p1.tmod (64 : Int)).toNat IntKind.u64.bits))) (1 : Int)) = (1 : Int)))))]) (H' := []) ⟨rfl, trivial⟩ (Sub.refl _) ?_
  have hr := Option.some.inj h
  subst hr
  exact ⟨[(eBool (decide ((bits .and .u64 (Int.fdiv (vget p0 (IntKind.u8.wrap (p1.tdiv (64 : Int)))) (2 ^ (min (p1.tmod (64 : Int)).toNat IntKind.u64.bits))) (1 : Int)) = (1 : Int))))], ⟨rfl, rfl, trivial⟩, rfl⟩
end Go.Avl.T3
/- bosket/bosketref06.Right; printed by avmain.py. -/
namespace Go.Avl.T3
open Go Go.RowKit Go.Proofs Go.Avl
set_option linter.unusedVariables false
set_option maxRecDepth 100000
set_option maxHeartbeats 4000000
attribute [local irreducible] AW AO AQ Spec SpecH Calm

def bosketref06_Right_c0 (k : Nat) (b8 : Bool) : Option Bool :=
  some (b8)
def bosketref06_Right_l1 (k : Nat) (p0 : S24) : Nat → Bool → Int → Option Bool
  | 0, _, _ => none
  | j + 1, b9, x10 =>
    if x10 < (p0.f1.length : Int) then if 0 ≤ x10 ∧ x10 < (p0.f1.length : Int) then Option.bind (α := Bool) (if b9 = true then if (0 : Int) ≤ ((lget p0.f1 x10).f0) then if ((lget p0.f1 x10).f0) < p0.f0 then if (0 : Int) ≤ ((lget p0.f1 x10).f1) then some (decide (((lget p0.f1 x10).f1) < p0.f0))
    else some (false)
    else some (false)
    else some (false)
    else some (false)) fun b16 =>
    (bosketref06_Right_l1 k p0 j) b16 (w64 (x10 + (1 : Int)))
    else none
    else bosketref06_Right_c0 k b9
def bosketref06_Right (k : Nat) (p0 : S24) : Option Bool :=
  Option.bind (α := Bool) (if (0 : Int) ≤ p0.f2 then if p0.f2 < p0.f0 then if (0 : Int) ≤ p0.f3 then some (decide (p0.f3 < p0.f0))
  else some (false)
  else some (false)
  else some (false)) fun b3 =>
  bosketref06_Right_l1 k p0 k b3 (0 : Int)
theorem bosketref06_Right_spec {k : Nat} {p0 : S24} {r : Bool} (h : bosketref06_Right k p0 = some r) : Spec Try.prog 10 [(e24 p0)] (eBool r) := by
  rw [bosketref06_Right.eq_1] at h
  refine Spec.intro (res := [.tmp 2]) Try.func10 rfl rfl rfl (Nat.le_of_ble_eq_true rfl) ?_
  refine AW.seq ?_
  refine AW.reg ?_
  refine AO.box rfl 1 rfl (by decide) rfl rfl rfl fun n2 => ?_
  refine AO.calm rfl 2 rfl (by decide) (eBool false) (Calm.assign rfl rfl) ?_
  refine AO.nil (ρ' := [(1, (.ptr n2 0))]) (H' := [(n2, (.mem (e24 p0)))]) ⟨rfl, trivial⟩ (Sub.refl _) ?_
  refine AW.seq ?_
  obtain ⟨b3, hq4, h⟩ := of_bind h
  refine AW.regM [(1, (.ptr n2 0)), (3, (eBool b3))] [(n2, (.mem (e24 p0)))] ?_ ?_
  · refine AO.calm rfl 6 rfl (by decide) (.ptr n2 2) (Calm.fldPtr rfl rfl Try.underlying24 rfl sz3 _ rfl) ?_
    refine AO.calm rfl 7 rfl (by decide) (eI64 p0.f2) (Calm.load 0 rfl rfl rfl (At.cast (At.fldS (At.fldS (At.fld0 At.here))) rfl) ag3 sz3) ?_
    refine AO.calm rfl 8 rfl (by decide) (eBool (decide ((0 : Int) ≤ p0.f2))) (Calm.int rfl rfl rfl rfl) ?_
    refine AO.calm rfl 9 rfl (by decide) (eBool (decide ((0 : Int) ≤ p0.f2))) (Calm.move rfl rfl) ?_
    by_cases hc5 : (0 : Int) ≤ p0.f2
    · have hq4 := (if_pos hc5).symm.trans hq4
      refine AO.calmG 3 true 9 rfl rfl (congrArg (fun b => some (AV.fl (Value.bool b))) (decide_eq_true hc5)) 10 rfl (by decide) (.ptr n2 2) (Calm.fldPtr rfl rfl Try.underlying24 rfl sz3 _ rfl) ?_
      refine AO.calmG 3 true 9 rfl rfl (congrArg (fun b => some (AV.fl (Value.bool b))) (decide_eq_true hc5)) 11 rfl (by decide) (eI64 p0.f2) (Calm.load 0 rfl rfl rfl (At.cast (At.fldS (At.fldS (At.fld0 At.here))) rfl) ag3 sz3) ?_
      refine AO.calmG 3 true 9 rfl rfl (congrArg (fun b => some (AV.fl (Value.bool b))) (decide_eq_true hc5)) 12 rfl (by decide) (.ptr n2 0) (Calm.fldPtr rfl rfl Try.underlying24 rfl sz3 _ rfl) ?_
      refine AO.calmG 3 true 9 rfl rfl (congrArg (fun b => some (AV.fl (Value.bool b))) (decide_eq_true hc5)) 13 rfl (by decide) (eI64 p0.f0) (Calm.load 0 rfl rfl rfl (At.cast (At.fld0 At.here) rfl) ag3 sz3) ?_
      refine AO.calmG 3 true 9 rfl rfl (congrArg (fun b => some (AV.fl (Value.bool b))) (decide_eq_true hc5)) 14 rfl (by decide) (eBool (decide (p0.f2 < p0.f0))) (Calm.int rfl rfl rfl rfl) ?_
      refine AO.calm rfl 15 rfl (by decide) (eBool (decide (p0.f2 < p0.f0))) (Calm.pickT rfl (congrArg (fun b => some (AV.fl (Value.bool b))) (decide_eq_true hc5)) rfl) ?_
      refine AO.calm rfl 16 rfl (by decide) (eBool (decide (p0.f2 < p0.f0))) (Calm.move rfl rfl) ?_
      by_cases hc6 : p0.f2 < p0.f0
      · have hq4 := (if_pos hc6).symm.trans hq4
        refine AO.calmG 10 true 16 rfl rfl (congrArg (fun b => some (AV.fl (Value.bool b))) (decide_eq_true hc6)) 17 rfl (by decide) (.ptr n2 3) (Calm.fldPtr rfl rfl Try.underlying24 rfl sz3 _ rfl) ?_
        refine AO.calmG 10 true 16 rfl rfl (congrArg (fun b => some (AV.fl (Value.bool b))) (decide_eq_true hc6)) 18 rfl (by decide) (eI64 p0.f3) (Calm.load 0 rfl rfl rfl (At.cast (At.fldS (At.fldS (At.fldS (At.fld0 At.here)))) rfl) ag3 sz3) ?_
        refine AO.calmG 10 true 16 rfl rfl (congrArg (fun b => some (AV.fl (Value.bool b))) (decide_eq_true hc6)) 19 rfl (by decide) (eBool (decide ((0 : Int) ≤ p0.f3))) (Calm.int rfl rfl rfl rfl) ?_
        refine AO.calm rfl 20 rfl (by decide) (eBool (decide ((0 : Int) ≤ p0.f3))) (Calm.pickT rfl (congrArg (fun b => some (AV.fl (Value.bool b))) (decide_eq_true hc6)) rfl) ?_
        refine AO.calm rfl 21 rfl (by decide) (eBool (decide ((0 : Int) ≤ p0.f3))) (Calm.move rfl rfl) ?_
        by_cases hc7 : (0 : Int) ≤ p0.f3
        · have hq4 := (if_pos hc7).symm.trans hq4
          refine AO.calmG 15 true 21 rfl rfl (congrArg (fun b => some (AV.fl (Value.bool b))) (decide_eq_true hc7)) 22 rfl (by decide) (.ptr n2 3) (Calm.fldPtr rfl rfl Try.underlying24 rfl sz3 _ rfl) ?_
          refine AO.calmG 15 true 21 rfl rfl (congrArg (fun b => some (AV.fl (Value.bool b))) (decide_eq_true hc7)) 23 rfl (by decide) (eI64 p0.f3) (Calm.load 0 rfl rfl rfl (At.cast (At.fldS (At.fldS (At.fldS (At.fld0 At.here)))) rfl) ag3 sz3) ?_
          refine AO.calmG 15 true 21 rfl rfl (congrArg (fun b => some (AV.fl (Value.bool b))) (decide_eq_true hc7)) 24 rfl (by decide) (.ptr n2 0) (Calm.fldPtr rfl rfl Try.underlying24 rfl sz3 _ rfl) ?_
          refine AO.calmG 15 true 21 rfl rfl (congrArg (fun b => some (AV.fl (Value.bool b))) (decide_eq_true hc7)) 25 rfl (by decide) (eI64 p0.f0) (Calm.load 0 rfl rfl rfl (At.cast (At.fld0 At.here) rfl) ag3 sz3) ?_
          refine AO.calmG 15 true 21 rfl rfl (congrArg (fun b => some (AV.fl (Value.bool b))) (decide_eq_true hc7)) 26 rfl (by decide) (eBool (decide (p0.f3 < p0.f0))) (Calm.int rfl rfl rfl rfl) ?_
          refine AO.calm rfl 27 rfl (by decide) (eBool (decide (p0.f3 < p0.f0))) (Calm.pickT rfl (congrArg (fun b => some (AV.fl (Value.bool b))) (decide_eq_true hc7)) rfl) ?_
          refine AO.calm rfl 3 rfl (by decide) (eBool (decide (p0.f3 < p0.f0))) (Calm.assign rfl rfl) ?_
          cases hq4
          refine AO.nilE ⟨rfl, rfl⟩ ?_ ?_
          · exact ⟨rfl, rfl, trivial⟩
          · exact (Sub.refl _)
        · have hq4 := (if_neg hc7).symm.trans hq4
          refine AO.skipG 15 false 21 rfl rfl (congrArg (fun b => some (AV.fl (Value.bool b))) (decide_eq_false hc7)) 22 rfl (by decide) ?_
          refine AO.skipG 15 false 21 rfl rfl (congrArg (fun b => some (AV.fl (Value.bool b))) (decide_eq_false hc7)) 23 rfl (by decide) ?_
          refine AO.skipG 15 false 21 rfl rfl (congrArg (fun b => some (AV.fl (Value.bool b))) (decide_eq_false hc7)) 24 rfl (by decide) ?_
          refine AO.skipG 15 false 21 rfl rfl (congrArg (fun b => some (AV.fl (Value.bool b))) (decide_eq_false hc7)) 25 rfl (by decide) ?_
          refine AO.skipG 15 false 21 rfl rfl (congrArg (fun b => some (AV.fl (Value.bool b))) (decide_eq_false hc7)) 26 rfl (by decide) ?_
          refine AO.calm rfl 27 rfl (by decide) (eBool false) (Calm.pickF rfl (congrArg (fun b => some (AV.fl (Value.bool b))) (decide_eq_false hc7)) rfl) ?_
          refine AO.calm rfl 3 rfl (by decide) (eBool false) (Calm.assign rfl rfl) ?_
          cases hq4
          refine AO.nilE ⟨rfl, rfl⟩ ?_ ?_
          · exact ⟨rfl, rfl, trivial⟩
          · exact (Sub.refl _)
      · have hq4 := (if_neg hc6).symm.trans hq4
        refine AO.skipG 10 false 16 rfl rfl (congrArg (fun b => some (AV.fl (Value.bool b))) (decide_eq_false hc6)) 17 rfl (by decide) ?_
        refine AO.skipG 10 false 16 rfl rfl (congrArg (fun b => some (AV.fl (Value.bool b))) (decide_eq_false hc6)) 18 rfl (by decide) ?_
        refine AO.skipG 10 false 16 rfl rfl (congrArg (fun b => some (AV.fl (Value.bool b))) (decide_eq_false hc6)) 19 rfl (by decide) ?_
        refine AO.calm rfl 20 rfl (by decide) (eBool false) (Calm.pickF rfl (congrArg (fun b => some (AV.fl (Value.bool b))) (decide_eq_false hc6)) rfl) ?_
        refine AO.calm rfl 21 rfl (by decide) (eBool false) (Calm.move rfl rfl) ?_
        refine AO.skipG 15 false 21 rfl rfl rfl 22 rfl (by decide) ?_
        refine AO.skipG 15 false 21 rfl rfl rfl 23 rfl (by decide) ?_
        refine AO.skipG 15 false 21 rfl rfl rfl 24 rfl (by decide) ?_
        refine AO.skipG 15 false 21 rfl rfl rfl 25 rfl (by decide) ?_
        refine AO.skipG 15 false 21 rfl rfl rfl 26 rfl (by decide) ?_
        refine AO.calm rfl 27 rfl (by decide) (eBool false) (Calm.pickF rfl rfl rfl) ?_
        refine AO.calm rfl 3 rfl (by decide) (eBool false) (Calm.assign rfl rfl) ?_
        cases hq4
        refine AO.nilE ⟨rfl, rfl⟩ ?_ ?_
        · exact ⟨rfl, rfl, trivial⟩
        · exact (Sub.refl _)
    · have hq4 := (if_neg hc5).symm.trans hq4
      refine AO.skipG 3 false 9 rfl rfl (congrArg (fun b => some (AV.fl (Value.bool b))) (decide_eq_false hc5)) 10 rfl (by decide) ?_
      refine AO.skipG 3 false 9 rfl rfl (congrArg (fun b => some (AV.fl (Value.bool b))) (decide_eq_false hc5)) 11 rfl (by decide) ?_
      refine AO.skipG 3 false 9 rfl rfl (congrArg (fun b => some (AV.fl (Value.bool b))) (decide_eq_false hc5)) 12 rfl (by decide) ?_
      refine AO.skipG 3 false 9 rfl rfl (congrArg (fun b => some (AV.fl (Value.bool b))) (decide_eq_false hc5)) 13 rfl (by decide) ?_
      refine AO.skipG 3 false 9 rfl rfl (congrArg (fun b => some (AV.fl (Value.bool b))) (decide_eq_false hc5)) 14 rfl (by decide) ?_
      refine AO.calm rfl 15 rfl (by decide) (eBool false) (Calm.pickF rfl (congrArg (fun b => some (AV.fl (Value.bool b))) (decide_eq_false hc5)) rfl) ?_
      refine AO.calm rfl 16 rfl (by decide) (eBool false) (Calm.move rfl rfl) ?_
      refine AO.skipG 10 false 16 rfl rfl rfl 17 rfl (by decide) ?_
      refine AO.skipG 10 false 16 rfl rfl rfl 18 rfl (by decide) ?_
      refine AO.skipG 10 false 16 rfl rfl rfl 19 rfl (by decide) ?_
      refine AO.calm rfl 20 rfl (by decide) (eBool false) (Calm.pickF rfl rfl rfl) ?_
      refine AO.calm rfl 21 rfl (by decide) (eBool false) (Calm.move rfl rfl) ?_
      refine AO.skipG 15 false 21 rfl rfl rfl 22 rfl (by decide) ?_
      refine AO.skipG 15 false 21 rfl rfl rfl 23 rfl (by decide) ?_
      refine AO.skipG 15 false 21 rfl rfl rfl 24 rfl (by decide) ?_
      refine AO.skipG 15 false 21 rfl rfl rfl 25 rfl (by decide) ?_
      refine AO.skipG 15 false 21 rfl rfl rfl 26 rfl (by decide) ?_
      refine AO.calm rfl 27 rfl (by decide) (eBool false) (Calm.pickF rfl rfl rfl) ?_
      refine AO.calm rfl 3 rfl (by decide) (eBool false) (Calm.assign rfl rfl) ?_
      cases hq4
      refine AO.nilE ⟨rfl, rfl⟩ ?_ ?_
      · exact ⟨rfl, rfl, trivial⟩
      · exact (Sub.refl _)
  · refine AW.seq_mid (fun ρ H => ∃ (b8 : Bool), ρ = [(3, (eBool b8))] ∧ H = [] ∧ bosketref06_Right_c0 k b8 = some r) ?_ ?_
    · refine AW.seq ?_
      refine AW.reg ?_
      refine AO.calm rfl 4 rfl (by decide) (eI64 (0 : Int)) (Calm.assign rfl rfl) ?_
      refine AO.nil (ρ' := [(1, (.ptr n2 0)), (3, (eBool b3)), (4, (eI64 (0 : Int)))]) (H' := [(n2, (.mem (e24 p0)))]) ⟨rfl, rfl, rfl, trivial⟩ (Sub.refl _) ?_
      refine AW.block ?_
      refine AW.weak (ρ' := [(1, (.ptr n2 0)), (3, (eBool b3)), (4, (eI64 (0 : Int)))]) (H' := [(n2, (.mem (e24 p0)))]) ⟨rfl, rfl, rfl, trivial⟩ (Sub.refl _) ?_
      refine AW.loop (fun kq ρ H => ∃ (b9 : Bool) (x10 : Int), ρ = [(1, (.ptr n2 0)), (3, (eBool b9)), (4, (eI64 x10))] ∧ H = [(n2, (.mem (e24 p0)))] ∧ bosketref06_Right_l1 k p0 kq b9 x10 = some r) k ⟨b3, (0 : Int), rfl, rfl, h⟩ ?_
      rintro kq12 _ _ ⟨b9, x10, rfl, rfl, h⟩
      cases kq12 with
      | zero => rw [bosketref06_Right_l1.eq_1] at h; cases h
      | succ kq12 =>
      rw [bosketref06_Right_l1.eq_2] at h
      generalize hrec11 : bosketref06_Right_l1 k p0 kq12 = rec11 at h
      refine AW.seq ?_
      refine AW.seq ?_
      refine AW.reg ?_
      refine AO.calm rfl 28 rfl (by decide) (eI64 x10) (Calm.move rfl rfl) ?_
      refine AO.calm rfl 29 rfl (by decide) (.ptr n2 1) (Calm.fldPtr rfl rfl Try.underlying24 rfl sz22 _ rfl) ?_
      refine AO.calm rfl 30 rfl (by decide) (.fz 7 (p0.f1.map e35)) (Calm.load 0 rfl rfl rfl (At.cast (At.fldS (At.fld0 At.here)) rfl) ag22 sz22) ?_
      refine AO.calm rfl 31 rfl (by decide) (eI64 (p0.f1.length : Int)) (Calm.lenL rfl rfl Try.underlying22) ?_
      refine AO.calm rfl 32 rfl (by decide) (eBool (decide (x10 < (p0.f1.length : Int)))) (Calm.int rfl rfl rfl rfl) ?_
      refine AO.nil (ρ' := [(1, (.ptr n2 0)), (3, (eBool b9)), (4, (eI64 x10)), (32, (eBool (decide (x10 < (p0.f1.length : Int)))))]) (H' := [(n2, (.mem (e24 p0)))]) ⟨rfl, rfl, rfl, rfl, trivial⟩ (Sub.refl _) ?_
      by_cases hc13 : x10 < (p0.f1.length : Int)
      · have h := (if_pos hc13).symm.trans h
        refine AW.condP (x10 < (p0.f1.length : Int)) rfl hc13 ?_
        refine AW.skip (ρ' := [(1, (.ptr n2 0)), (3, (eBool b9)), (4, (eI64 x10))]) (H' := [(n2, (.mem (e24 p0)))]) ⟨rfl, rfl, rfl, trivial⟩ (Sub.refl _) ?_
        refine AW.seq ?_
        refine AW.block ?_
        refine AW.seq ?_
        refine AW.reg ?_
        refine AO.calm rfl 35 rfl (by decide) (.ptr n2 1) (Calm.fldPtr rfl rfl Try.underlying24 rfl sz22 _ rfl) ?_
        refine AO.calm rfl 36 rfl (by decide) (.fz 7 (p0.f1.map e35)) (Calm.load 0 rfl rfl rfl (At.cast (At.fldS (At.fld0 At.here)) rfl) ag22 sz22) ?_
        refine AO.calm rfl 37 rfl (by decide) (eI64 x10) (Calm.move rfl rfl) ?_
        obtain ⟨hg14, h⟩ := of_guard h
        refine AO.calm rfl 38 rfl (by decide) (.rp (e35 (lget p0.f1 x10))) (Calm.idxL (f := e35) rfl rfl rfl hg14 Try.underlying22 sz35) ?_
        refine AO.calm rfl 39 rfl (by decide) (e35 (lget p0.f1 x10)) (Calm.loadRp rfl rfl ag35 sz35) ?_
        refine AO.alloc rfl 5 rfl (by decide) rfl zr35 lay35 fun n15 => ?_
        refine AO.store (X' := (e35 (lget p0.f1 x10))) 0 rfl rfl rfl rfl rfl rfl (Put.cast Put.here rfl) rfl rfl sz35 rfl ?_
        refine AO.nil (ρ' := [(1, (.ptr n2 0)), (3, (eBool b9)), (4, (eI64 x10)), (5, (.ptr n15 0))]) (H' := [(n2, (.mem (e24 p0))), (n15, (.mem (e35 (lget p0.f1 x10))))]) ⟨rfl, rfl, rfl, rfl, trivial⟩ (Sub.cons 1 rfl (Sub.cons 0 rfl (Sub.nil _))) ?_
        obtain ⟨b16, hq17, h⟩ := of_bind h
        refine AW.regM [(1, (.ptr n2 0)), (3, (eBool b16)), (4, (eI64 x10))] [(n2, (.mem (e24 p0)))] ?_ ?_
        · refine AO.calm rfl 40 rfl (by decide) (eBool b9) (Calm.move rfl rfl) ?_
          refine AO.calm rfl 41 rfl (by decide) (eBool b9) (Calm.move rfl rfl) ?_
          by_cases hc18 : b9 = true
          · have hq17 := (if_pos hc18).symm.trans hq17
            refine AO.calmG 1 true 41 rfl rfl (congrArg (fun b => some (AV.fl (Value.bool b))) hc18) 42 rfl (by decide) (.ptr n15 0) (Calm.fldPtr rfl rfl Try.underlying35 rfl sz3 _ rfl) ?_
            refine AO.calmG 1 true 41 rfl rfl (congrArg (fun b => some (AV.fl (Value.bool b))) hc18) 43 rfl (by decide) (eI64 ((lget p0.f1 x10).f0)) (Calm.load 1 rfl rfl rfl (At.cast (At.fld0 At.here) rfl) ag3 sz3) ?_
            refine AO.calmG 1 true 41 rfl rfl (congrArg (fun b => some (AV.fl (Value.bool b))) hc18) 44 rfl (by decide) (eBool (decide ((0 : Int) ≤ ((lget p0.f1 x10).f0)))) (Calm.int rfl rfl rfl rfl) ?_
            refine AO.calm rfl 45 rfl (by decide) (eBool (decide ((0 : Int) ≤ ((lget p0.f1 x10).f0)))) (Calm.pickT rfl (congrArg (fun b => some (AV.fl (Value.bool b))) hc18) rfl) ?_
            refine AO.calm rfl 46 rfl (by decide) (eBool (decide ((0 : Int) ≤ ((lget p0.f1 x10).f0)))) (Calm.move rfl rfl) ?_
            by_cases hc19 : (0 : Int) ≤ ((lget p0.f1 x10).f0)
            · have hq17 := (if_pos hc19).symm.trans hq17
              refine AO.calmG 6 true 46 rfl rfl (congrArg (fun b => some (AV.fl (Value.bool b))) (decide_eq_true hc19)) 47 rfl (by decide) (.ptr n15 0) (Calm.fldPtr rfl rfl Try.underlying35 rfl sz3 _ rfl) ?_
              refine AO.calmG 6 true 46 rfl rfl (congrArg (fun b => some (AV.fl (Value.bool b))) (decide_eq_true hc19)) 48 rfl (by decide) (eI64 ((lget p0.f1 x10).f0)) (Calm.load 1 rfl rfl rfl (At.cast (At.fld0 At.here) rfl) ag3 sz3) ?_
              refine AO.calmG 6 true 46 rfl rfl (congrArg (fun b => some (AV.fl (Value.bool b))) (decide_eq_true hc19)) 49 rfl (by decide) (.ptr n2 0) (Calm.fldPtr rfl rfl Try.underlying24 rfl sz3 _ rfl) ?_
              refine AO.calmG 6 true 46 rfl rfl (congrArg (fun b => some (AV.fl (Value.bool b))) (decide_eq_true hc19)) 50 rfl (by decide) (eI64 p0.f0) (Calm.load 0 rfl rfl rfl (At.cast (At.fld0 At.here) rfl) ag3 sz3) ?_
              refine AO.calmG 6 true 46 rfl rfl (congrArg (fun b => some (AV.fl (Value.bool b))) (decide_eq_true hc19)) 51 rfl (by decide) (eBool (decide (((lget p0.f1 x10).f0) < p0.f0))) (Calm.int rfl rfl rfl rfl) ?_
              refine AO.calm rfl 52 rfl (by decide) (eBool (decide (((lget p0.f1 x10).f0) < p0.f0))) (Calm.pickT rfl (congrArg (fun b => some (AV.fl (Value.bool b))) (decide_eq_true hc19)) rfl) ?_
              refine AO.calm rfl 53 rfl (by decide) (eBool (decide (((lget p0.f1 x10).f0) < p0.f0))) (Calm.move rfl rfl) ?_
              by_cases hc20 : ((lget p0.f1 x10).f0) < p0.f0
              · have hq17 := (if_pos hc20).symm.trans hq17
                refine AO.calmG 13 true 53 rfl rfl (congrArg (fun b => some (AV.fl (Value.bool b))) (decide_eq_true hc20)) 54 rfl (by decide) (.ptr n15 1) (Calm.fldPtr rfl rfl Try.underlying35 rfl sz3 _ rfl) ?_
                refine AO.calmG 13 true 53 rfl rfl (congrArg (fun b => some (AV.fl (Value.bool b))) (decide_eq_true hc20)) 55 rfl (by decide) (eI64 ((lget p0.f1 x10).f1)) (Calm.load 1 rfl rfl rfl (At.cast (At.fldS (At.fld0 At.here)) rfl) ag3 sz3) ?_
                refine AO.calmG 13 true 53 rfl rfl (congrArg (fun b => some (AV.fl (Value.bool b))) (decide_eq_true hc20)) 56 rfl (by decide) (eBool (decide ((0 : Int) ≤ ((lget p0.f1 x10).f1)))) (Calm.int rfl rfl rfl rfl) ?_
                refine AO.calm rfl 57 rfl (by decide) (eBool (decide ((0 : Int) ≤ ((lget p0.f1 x10).f1)))) (Calm.pickT rfl (congrArg (fun b => some (AV.fl (Value.bool b))) (decide_eq_true hc20)) rfl) ?_
                refine AO.calm rfl 58 rfl (by decide) (eBool (decide ((0 : Int) ≤ ((lget p0.f1 x10).f1)))) (Calm.move rfl rfl) ?_
                by_cases hc21 : (0 : Int) ≤ ((lget p0.f1 x10).f1)
                · have hq17 := (if_pos hc21).symm.trans hq17
                  refine AO.calmG 18 true 58 rfl rfl (congrArg (fun b => some (AV.fl (Value.bool b))) (decide_eq_true hc21)) 59 rfl (by decide) (.ptr n15 1) (Calm.fldPtr rfl rfl Try.underlying35 rfl sz3 _ rfl) ?_
                  refine AO.calmG 18 true 58 rfl rfl (congrArg (fun b => some (AV.fl (Value.bool b))) (decide_eq_true hc21)) 60 rfl (by decide) (eI64 ((lget p0.f1 x10).f1)) (Calm.load 1 rfl rfl rfl (At.cast (At.fldS (At.fld0 At.here)) rfl) ag3 sz3) ?_
                  refine AO.calmG 18 true 58 rfl rfl (congrArg (fun b => some (AV.fl (Value.bool b))) (decide_eq_true hc21)) 61 rfl (by decide) (.ptr n2 0) (Calm.fldPtr rfl rfl Try.underlying24 rfl sz3 _ rfl) ?_
                  refine AO.calmG 18 true 58 rfl rfl (congrArg (fun b => some (AV.fl (Value.bool b))) (decide_eq_true hc21)) 62 rfl (by decide) (eI64 p0.f0) (Calm.load 0 rfl rfl rfl (At.cast (At.fld0 At.here) rfl) ag3 sz3) ?_
                  refine AO.calmG 18 true 58 rfl rfl (congrArg (fun b => some (AV.fl (Value.bool b))) (decide_eq_true hc21)) 63 rfl (by decide) (eBool (decide (((lget p0.f1 x10).f1) < p0.f0))) (Calm.int rfl rfl rfl rfl) ?_
                  refine AO.calm rfl 64 rfl (by decide) (eBool (decide (((lget p0.f1 x10).f1) < p0.f0))) (Calm.pickT rfl (congrArg (fun b => some (AV.fl (Value.bool b))) (decide_eq_true hc21)) rfl) ?_
                  refine AO.calm rfl 3 rfl (by decide) (eBool (decide (((lget p0.f1 x10).f1) < p0.f0))) (Calm.assign rfl rfl) ?_
                  cases hq17
                  refine AO.nilE ⟨rfl, rfl⟩ ?_ ?_
                  · exact ⟨rfl, rfl, rfl, trivial⟩
                  · exact (Sub.cons 0 rfl (Sub.nil _))
                · have hq17 := (if_neg hc21).symm.trans hq17
                  refine AO.skipG 18 false 58 rfl rfl (congrArg (fun b => some (AV.fl (Value.bool b))) (decide_eq_false hc21)) 59 rfl (by decide) ?_
                  refine AO.skipG 18 false 58 rfl rfl (congrArg (fun b => some (AV.fl (Value.bool b))) (decide_eq_false hc21)) 60 rfl (by decide) ?_
                  refine AO.skipG 18 false 58 rfl rfl (congrArg (fun b => some (AV.fl (Value.bool b))) (decide_eq_false hc21)) 61 rfl (by decide) ?_
                  refine AO.skipG 18 false 58 rfl rfl (congrArg (fun b => some (AV.fl (Value.bool b))) (decide_eq_false hc21)) 62 rfl (by decide) ?_
                  refine AO.skipG 18 false 58 rfl rfl (congrArg (fun b => some (AV.fl (Value.bool b))) (decide_eq_false hc21)) 63 rfl (by decide) ?_
                  refine AO.calm rfl 64 rfl (by decide) (eBool false) (Calm.pickF rfl (congrArg (fun b => some (AV.fl (Value.bool b))) (decide_eq_false hc21)) rfl) ?_
                  refine AO.calm rfl 3 rfl (by decide) (eBool false) (Calm.assign rfl rfl) ?_
                  cases hq17
                  refine AO.nilE ⟨rfl, rfl⟩ ?_ ?_
                  · exact ⟨rfl, rfl, rfl, trivial⟩
                  · exact (Sub.cons 0 rfl (Sub.nil _))
              · have hq17 := (if_neg hc20).symm.trans hq17
                refine AO.skipG 13 false 53 rfl rfl (congrArg (fun b => some (AV.fl (Value.bool b))) (decide_eq_false hc20)) 54 rfl (by decide) ?_
                refine AO.skipG 13 false 53 rfl rfl (congrArg (fun b => some (AV.fl (Value.bool b))) (decide_eq_false hc20)) 55 rfl (by decide) ?_
                refine AO.skipG 13 false 53 rfl rfl (congrArg (fun b => some (AV.fl (Value.bool b))) (decide_eq_false hc20)) 56 rfl (by decide) ?_
                refine AO.calm rfl 57 rfl (by decide) (eBool false) (Calm.pickF rfl (congrArg (fun b => some (AV.fl (Value.bool b))) (decide_eq_false hc20)) rfl) ?_
                refine AO.calm rfl 58 rfl (by decide) (eBool false) (Calm.move rfl rfl) ?_
                refine AO.skipG 18 false 58 rfl rfl rfl 59 rfl (by decide) ?_
                refine AO.skipG 18 false 58 rfl rfl rfl 60 rfl (by decide) ?_
                refine AO.skipG 18 false 58 rfl rfl rfl 61 rfl (by decide) ?_
                refine AO.skipG 18 false 58 rfl rfl rfl 62 rfl (by decide) ?_
                refine AO.skipG 18 false 58 rfl rfl rfl 63 rfl (by decide) ?_
                refine AO.calm rfl 64 rfl (by decide) (eBool false) (Calm.pickF rfl rfl rfl) ?_
                refine AO.calm rfl 3 rfl (by decide) (eBool false) (Calm.assign rfl rfl) ?_
                cases hq17
                refine AO.nilE ⟨rfl, rfl⟩ ?_ ?_
                · exact ⟨rfl, rfl, rfl, trivial⟩
                · exact (Sub.cons 0 rfl (Sub.nil _))
            · have hq17 := (if_neg hc19).symm.trans hq17
              refine AO.skipG 6 false 46 rfl rfl (congrArg (fun b => some (AV.fl (Value.bool b))) (decide_eq_false hc19)) 47 rfl (by decide) ?_
              refine AO.skipG 6 false 46 rfl rfl (congrArg (fun b => some (AV.fl (Value.bool b))) (decide_eq_false hc19)) 48 rfl (by decide) ?_
              refine AO.skipG 6 false 46 rfl rfl (congrArg (fun b => some (AV.fl (Value.bool b))) (decide_eq_false hc19)) 49 rfl (by decide) ?_
              refine AO.skipG 6 false 46 rfl rfl (congrArg (fun b => some (AV.fl (Value.bool b))) (decide_eq_false hc19)) 50 rfl (by decide) ?_
              refine AO.skipG 6 false 46 rfl rfl (congrArg (fun b => some (AV.fl (Value.bool b))) (decide_eq_false hc19)) 51 rfl (by decide) ?_
              refine AO.calm rfl 52 rfl (by decide) (eBool false) (Calm.pickF rfl (congrArg (fun b => some (AV.fl (Value.bool b))) (decide_eq_false hc19)) rfl) ?_
              refine AO.calm rfl 53 rfl (by decide) (eBool false) (Calm.move rfl rfl) ?_
              refine AO.skipG 13 false 53 rfl rfl rfl 54 rfl (by decide) ?_
              refine AO.skipG 13 false 53 rfl rfl rfl 55 rfl (by decide) ?_
              refine AO.skipG 13 false 53 rfl rfl rfl 56 rfl (by decide) ?_
              refine AO.calm rfl 57 rfl (by decide) (eBool false) (Calm.pickF rfl rfl rfl) ?_
              refine AO.calm rfl 58 rfl (by decide) (eBool false) (Calm.move rfl rfl) ?_
              refine AO.skipG 18 false 58 rfl rfl rfl 59 rfl (by decide) ?_
              refine AO.skipG 18 false 58 rfl rfl rfl 60 rfl (by decide) ?_
              refine AO.skipG 18 false 58 rfl rfl rfl 61 rfl (by decide) ?_
              refine AO.skipG 18 false 58 rfl rfl rfl 62 rfl (by decide) ?_
              refine AO.skipG 18 false 58 rfl rfl rfl 63 rfl (by decide) ?_
              refine AO.calm rfl 64 rfl (by decide) (eBool false) (Calm.pickF rfl rfl rfl) ?_
              refine AO.calm rfl 3 rfl (by decide) (eBool false) (Calm.assign rfl rfl) ?_
              cases hq17
              refine AO.nilE ⟨rfl, rfl⟩ ?_ ?_
              · exact ⟨rfl, rfl, rfl, trivial⟩
              · exact (Sub.cons 0 rfl (Sub.nil _))
          · have hq17 := (if_neg hc18).symm.trans hq17
            refine AO.skipG 1 false 41 rfl rfl (congrArg (fun b => some (AV.fl (Value.bool b))) (eq_false_of_ne_true hc18)) 42 rfl (by decide) ?_
            refine AO.skipG 1 false 41 rfl rfl (congrArg (fun b => some (AV.fl (Value.bool b))) (eq_false_of_ne_true hc18)) 43 rfl (by decide) ?_
            refine AO.skipG 1 false 41 rfl rfl (congrArg (fun b => some (AV.fl (Value.bool b))) (eq_false_of_ne_true hc18)) 44 rfl (by decide) ?_
            refine AO.calm rfl 45 rfl (by decide) (eBool false) (Calm.pickF rfl (congrArg (fun b => some (AV.fl (Value.bool b))) (eq_false_of_ne_true hc18)) rfl) ?_
            refine AO.calm rfl 46 rfl (by decide) (eBool false) (Calm.move rfl rfl) ?_
            refine AO.skipG 6 false 46 rfl rfl rfl 47 rfl (by decide) ?_
            refine AO.skipG 6 false 46 rfl rfl rfl 48 rfl (by decide) ?_
            refine AO.skipG 6 false 46 rfl rfl rfl 49 rfl (by decide) ?_
            refine AO.skipG 6 false 46 rfl rfl rfl 50 rfl (by decide) ?_
            refine AO.skipG 6 false 46 rfl rfl rfl 51 rfl (by decide) ?_
            refine AO.calm rfl 52 rfl (by decide) (eBool false) (Calm.pickF rfl rfl rfl) ?_
            refine AO.calm rfl 53 rfl (by decide) (eBool false) (Calm.move rfl rfl) ?_
            refine AO.skipG 13 false 53 rfl rfl rfl 54 rfl (by decide) ?_
            refine AO.skipG 13 false 53 rfl rfl rfl 55 rfl (by decide) ?_
            refine AO.skipG 13 false 53 rfl rfl rfl 56 rfl (by decide) ?_
            refine AO.calm rfl 57 rfl (by decide) (eBool false) (Calm.pickF rfl rfl rfl) ?_
            refine AO.calm rfl 58 rfl (by decide) (eBool false) (Calm.move rfl rfl) ?_
            refine AO.skipG 18 false 58 rfl rfl rfl 59 rfl (by decide) ?_
            refine AO.skipG 18 false 58 rfl rfl rfl 60 rfl (by decide) ?_
            refine AO.skipG 18 false 58 rfl rfl rfl 61 rfl (by decide) ?_
            refine AO.skipG 18 false 58 rfl rfl rfl 62 rfl (by decide) ?_
            refine AO.skipG 18 false 58 rfl rfl rfl 63 rfl (by decide) ?_
            refine AO.calm rfl 64 rfl (by decide) (eBool false) (Calm.pickF rfl rfl rfl) ?_
            refine AO.calm rfl 3 rfl (by decide) (eBool false) (Calm.assign rfl rfl) ?_
            cases hq17
            refine AO.nilE ⟨rfl, rfl⟩ ?_ ?_
            · exact ⟨rfl, rfl, rfl, trivial⟩
            · exact (Sub.cons 0 rfl (Sub.nil _))
        · refine AW.reg ?_
          refine AO.calm rfl 33 rfl (by decide) (eI64 x10) (Calm.move rfl rfl) ?_
          refine AO.calm rfl 34 rfl (by decide) (eI64 (w64 (x10 + (1 : Int)))) (Calm.int rfl rfl rfl rfl) ?_
          refine AO.calm rfl 4 rfl (by decide) (eI64 (w64 (x10 + (1 : Int)))) (Calm.assign rfl rfl) ?_
          refine AO.nil (ρ' := [(1, (.ptr n2 0)), (3, (eBool b16)), (4, (eI64 (w64 (x10 + (1 : Int)))))]) (H' := [(n2, (.mem (e24 p0)))]) ⟨rfl, rfl, rfl, trivial⟩ (Sub.refl _) ?_
          exact ⟨kq12, Nat.lt_succ_self _, b16, (w64 (x10 + (1 : Int))), rfl, rfl, by rw [hrec11]; exact h⟩
      · have h := (if_neg hc13).symm.trans h
        refine AW.condN (x10 < (p0.f1.length : Int)) rfl hc13 ?_
        refine AW.exit (ρ' := [(3, (eBool b9))]) (H' := []) ⟨rfl, trivial⟩ (Sub.nil _) ?_
        exact ⟨b9, rfl, rfl, h⟩
    · rintro _ _ ⟨b8, rfl, rfl, h⟩
      rw [bosketref06_Right_c0.eq_1] at h
      refine AW.seq ?_
      refine AW.reg ?_
      refine AO.calm rfl 65 rfl (by decide) (eBool b8) (Calm.move rfl rfl) ?_
      refine AO.calm rfl 2 rfl (by decide) (eBool b8) (Calm.assign rfl rfl) ?_
      refine AO.nil (ρ' := [(2, (eBool b8))]) (H' := []) ⟨rfl, trivial⟩ (Sub.refl _) ?_
      refine AW.ret (ρ' := [(2, (eBool b8))]) (H' := []) ⟨rfl, trivial⟩ (Sub.refl _) ?_
      have hr := Option.some.inj h
      subst hr
      exact ⟨[(eBool b8)], ⟨rfl, rfl, trivial⟩, rfl⟩
end Go.Avl.T3
/- bosket/nfa.Right; printed by avmain.py. -/
namespace Go.Avl.T3
open Go Go.RowKit Go.Proofs Go.Avl
set_option linter.unusedVariables false
set_option maxRecDepth 100000
set_option maxHeartbeats 4000000
attribute [local irreducible] AW AO AQ Spec SpecH Calm

def nfa_Right_c0 (k : Nat) : Option Bool :=
  some (true)
def nfa_Right_l1 (k : Nat) (p0 : S24) : Nat → Int → Option Bool
  | 0, _ => none
  | j + 1, x9 =>
    if x9 < (p0.f1.length : Int) then if 0 ≤ x9 ∧ x9 < (p0.f1.length : Int) then Option.bind (α := Bool) (if ((lget p0.f1 x9).f0) < (0 : Int) then some (true)
    else if p0.f0 ≤ ((lget p0.f1 x9).f0) then some (true)
    else if ((lget p0.f1 x9).f1) < (0 : Int) then some (true)
    else some (decide (p0.f0 ≤ ((lget p0.f1 x9).f1)))) fun b15 =>
    if b15 = true then some (false)
    else (nfa_Right_l1 k p0 j) (w64 (x9 + (1 : Int)))
    else none
    else nfa_Right_c0 k
def nfa_Right (k : Nat) (p0 : S24) : Option Bool :=
  Option.bind (α := Bool) (if p0.f2 < (0 : Int) then some (true)
  else if p0.f0 ≤ p0.f2 then some (true)
  else if p0.f3 < (0 : Int) then some (true)
  else some (decide (p0.f0 ≤ p0.f3))) fun b3 =>
  if b3 = true then some (false)
  else nfa_Right_l1 k p0 k (0 : Int)
theorem nfa_Right_spec {k : Nat} {p0 : S24} {r : Bool} (h : nfa_Right k p0 = some r) : Spec Try.prog 11 [(e24 p0)] (eBool r) := by
  rw [nfa_Right.eq_1] at h
  refine Spec.intro (res := [.tmp 2]) Try.func11 rfl rfl rfl (Nat.le_of_ble_eq_true rfl) ?_
  refine AW.seq ?_
  refine AW.reg ?_
  refine AO.box rfl 1 rfl (by decide) rfl rfl rfl fun n2 => ?_
  refine AO.calm rfl 2 rfl (by decide) (eBool false) (Calm.assign rfl rfl) ?_
  refine AO.nil (ρ' := [(1, (.ptr n2 0))]) (H' := [(n2, (.mem (e24 p0)))]) ⟨rfl, trivial⟩ (Sub.refl _) ?_
  refine AW.seq ?_
  refine AW.seq ?_
  obtain ⟨b3, hq4, h⟩ := of_bind h
  refine AW.regM [(1, (.ptr n2 0)), (26, (eBool b3))] [(n2, (.mem (e24 p0)))] ?_ ?_
  · refine AO.calm rfl 5 rfl (by decide) (.ptr n2 2) (Calm.fldPtr rfl rfl Try.underlying24 rfl sz3 _ rfl) ?_
    refine AO.calm rfl 6 rfl (by decide) (eI64 p0.f2) (Calm.load 0 rfl rfl rfl (At.cast (At.fldS (At.fldS (At.fld0 At.here))) rfl) ag3 sz3) ?_
    refine AO.calm rfl 7 rfl (by decide) (eBool (decide (p0.f2 < (0 : Int)))) (Calm.int rfl rfl rfl rfl) ?_
    refine AO.calm rfl 8 rfl (by decide) (eBool (decide (p0.f2 < (0 : Int)))) (Calm.move rfl rfl) ?_
    by_cases hc5 : p0.f2 < (0 : Int)
    · have hq4 := (if_pos hc5).symm.trans hq4
      refine AO.skipG 3 true 8 rfl rfl (congrArg (fun b => some (AV.fl (Value.bool b))) (decide_eq_true hc5)) 9 rfl (by decide) ?_
      refine AO.skipG 3 true 8 rfl rfl (congrArg (fun b => some (AV.fl (Value.bool b))) (decide_eq_true hc5)) 10 rfl (by decide) ?_
      refine AO.skipG 3 true 8 rfl rfl (congrArg (fun b => some (AV.fl (Value.bool b))) (decide_eq_true hc5)) 11 rfl (by decide) ?_
      refine AO.skipG 3 true 8 rfl rfl (congrArg (fun b => some (AV.fl (Value.bool b))) (decide_eq_true hc5)) 12 rfl (by decide) ?_
      refine AO.skipG 3 true 8 rfl rfl (congrArg (fun b => some (AV.fl (Value.bool b))) (decide_eq_true hc5)) 13 rfl (by decide) ?_
      refine AO.calm rfl 14 rfl (by decide) (eBool true) (Calm.pickT rfl (congrArg (fun b => some (AV.fl (Value.bool b))) (decide_eq_true hc5)) rfl) ?_
      refine AO.calm rfl 15 rfl (by decide) (eBool true) (Calm.move rfl rfl) ?_
      refine AO.skipG 10 true 15 rfl rfl rfl 16 rfl (by decide) ?_
      refine AO.skipG 10 true 15 rfl rfl rfl 17 rfl (by decide) ?_
      refine AO.skipG 10 true 15 rfl rfl rfl 18 rfl (by decide) ?_
      refine AO.calm rfl 19 rfl (by decide) (eBool true) (Calm.pickT rfl rfl rfl) ?_
      refine AO.calm rfl 20 rfl (by decide) (eBool true) (Calm.move rfl rfl) ?_
      refine AO.skipG 15 true 20 rfl rfl rfl 21 rfl (by decide) ?_
      refine AO.skipG 15 true 20 rfl rfl rfl 22 rfl (by decide) ?_
      refine AO.skipG 15 true 20 rfl rfl rfl 23 rfl (by decide) ?_
      refine AO.skipG 15 true 20 rfl rfl rfl 24 rfl (by decide) ?_
      refine AO.skipG 15 true 20 rfl rfl rfl 25 rfl (by decide) ?_
      refine AO.calm rfl 26 rfl (by decide) (eBool true) (Calm.pickT rfl rfl rfl) ?_
      cases hq4
      refine AO.nilE ⟨rfl, rfl⟩ ?_ ?_
      · exact ⟨rfl, rfl, trivial⟩
      · exact (Sub.refl _)
    · have hq4 := (if_neg hc5).symm.trans hq4
      refine AO.calmG 3 false 8 rfl rfl (congrArg (fun b => some (AV.fl (Value.bool b))) (decide_eq_false hc5)) 9 rfl (by decide) (.ptr n2 2) (Calm.fldPtr rfl rfl Try.underlying24 rfl sz3 _ rfl) ?_
      refine AO.calmG 3 false 8 rfl rfl (congrArg (fun b => some (AV.fl (Value.bool b))) (decide_eq_false hc5)) 10 rfl (by decide) (eI64 p0.f2) (Calm.load 0 rfl rfl rfl (At.cast (At.fldS (At.fldS (At.fld0 At.here))) rfl) ag3 sz3) ?_
      refine AO.calmG 3 false 8 rfl rfl (congrArg (fun b => some (AV.fl (Value.bool b))) (decide_eq_false hc5)) 11 rfl (by decide) (.ptr n2 0) (Calm.fldPtr rfl rfl Try.underlying24 rfl sz3 _ rfl) ?_
      refine AO.calmG 3 false 8 rfl rfl (congrArg (fun b => some (AV.fl (Value.bool b))) (decide_eq_false hc5)) 12 rfl (by decide) (eI64 p0.f0) (Calm.load 0 rfl rfl rfl (At.cast (At.fld0 At.here) rfl) ag3 sz3) ?_
      refine AO.calmG 3 false 8 rfl rfl (congrArg (fun b => some (AV.fl (Value.bool b))) (decide_eq_false hc5)) 13 rfl (by decide) (eBool (decide (p0.f0 ≤ p0.f2))) (Calm.int rfl rfl rfl rfl) ?_
      refine AO.calm rfl 14 rfl (by decide) (eBool (decide (p0.f0 ≤ p0.f2))) (Calm.pickF rfl (congrArg (fun b => some (AV.fl (Value.bool b))) (decide_eq_false hc5)) rfl) ?_
      refine AO.calm rfl 15 rfl (by decide) (eBool (decide (p0.f0 ≤ p0.f2))) (Calm.move rfl rfl) ?_
      by_cases hc6 : p0.f0 ≤ p0.f2
      · have hq4 := (if_pos hc6).symm.trans hq4
        refine AO.skipG 10 true 15 rfl rfl (congrArg (fun b => some (AV.fl (Value.bool b))) (decide_eq_true hc6)) 16 rfl (by decide) ?_
        refine AO.skipG 10 true 15 rfl rfl (congrArg (fun b => some (AV.fl (Value.bool b))) (decide_eq_true hc6)) 17 rfl (by decide) ?_
        refine AO.skipG 10 true 15 rfl rfl (congrArg (fun b => some (AV.fl (Value.bool b))) (decide_eq_true hc6)) 18 rfl (by decide) ?_
        refine AO.calm rfl 19 rfl (by decide) (eBool true) (Calm.pickT rfl (congrArg (fun b => some (AV.fl (Value.bool b))) (decide_eq_true hc6)) rfl) ?_
        refine AO.calm rfl 20 rfl (by decide) (eBool true) (Calm.move rfl rfl) ?_
        refine AO.skipG 15 true 20 rfl rfl rfl 21 rfl (by decide) ?_
        refine AO.skipG 15 true 20 rfl rfl rfl 22 rfl (by decide) ?_
        refine AO.skipG 15 true 20 rfl rfl rfl 23 rfl (by decide) ?_
        refine AO.skipG 15 true 20 rfl rfl rfl 24 rfl (by decide) ?_
        refine AO.skipG 15 true 20 rfl rfl rfl 25 rfl (by decide) ?_
        refine AO.calm rfl 26 rfl (by decide) (eBool true) (Calm.pickT rfl rfl rfl) ?_
        cases hq4
        refine AO.nilE ⟨rfl, rfl⟩ ?_ ?_
        · exact ⟨rfl, rfl, trivial⟩
        · exact (Sub.refl _)
      · have hq4 := (if_neg hc6).symm.trans hq4
        refine AO.calmG 10 false 15 rfl rfl (congrArg (fun b => some (AV.fl (Value.bool b))) (decide_eq_false hc6)) 16 rfl (by decide) (.ptr n2 3) (Calm.fldPtr rfl rfl Try.underlying24 rfl sz3 _ rfl) ?_
        refine AO.calmG 10 false 15 rfl rfl (congrArg (fun b => some (AV.fl (Value.bool b))) (decide_eq_false hc6)) 17 rfl (by decide) (eI64 p0.f3) (Calm.load 0 rfl rfl rfl (At.cast (At.fldS (At.fldS (At.fldS (At.fld0 At.here)))) rfl) ag3 sz3) ?_
        refine AO.calmG 10 false 15 rfl rfl (congrArg (fun b => some (AV.fl (Value.bool b))) (decide_eq_false hc6)) 18 rfl (by decide) (eBool (decide (p0.f3 < (0 : Int)))) (Calm.int rfl rfl rfl rfl) ?_
        refine AO.calm rfl 19 rfl (by decide) (eBool (decide (p0.f3 < (0 : Int)))) (Calm.pickF rfl (congrArg (fun b => some (AV.fl (Value.bool b))) (decide_eq_false hc6)) rfl) ?_
        refine AO.calm rfl 20 rfl (by decide) (eBool (decide (p0.f3 < (0 : Int)))) (Calm.move rfl rfl) ?_
        by_cases hc7 : p0.f3 < (0 : Int)
        · have hq4 := (if_pos hc7).symm.trans hq4
          refine AO.skipG 15 true 20 rfl rfl (congrArg (fun b => some (AV.fl (Value.bool b))) (decide_eq_true hc7)) 21 rfl (by decide) ?_
          refine AO.skipG 15 true 20 rfl rfl (congrArg (fun b => some (AV.fl (Value.bool b))) (decide_eq_true hc7)) 22 rfl (by decide) ?_
          refine AO.skipG 15 true 20 rfl rfl (congrArg (fun b => some (AV.fl (Value.bool b))) (decide_eq_true hc7)) 23 rfl (by decide) ?_
          refine AO.skipG 15 true 20 rfl rfl (congrArg (fun b => some (AV.fl (Value.bool b))) (decide_eq_true hc7)) 24 rfl (by decide) ?_
          refine AO.skipG 15 true 20 rfl rfl (congrArg (fun b => some (AV.fl (Value.bool b))) (decide_eq_true hc7)) 25 rfl (by decide) ?_
          refine AO.calm rfl 26 rfl (by decide) (eBool true) (Calm.pickT rfl (congrArg (fun b => some (AV.fl (Value.bool b))) (decide_eq_true hc7)) rfl) ?_
          cases hq4
          refine AO.nilE ⟨rfl, rfl⟩ ?_ ?_
          · exact ⟨rfl, rfl, trivial⟩
          · exact (Sub.refl _)
        · have hq4 := (if_neg hc7).symm.trans hq4
          refine AO.calmG 15 false 20 rfl rfl (congrArg (fun b => some (AV.fl (Value.bool b))) (decide_eq_false hc7)) 21 rfl (by decide) (.ptr n2 3) (Calm.fldPtr rfl rfl Try.underlying24 rfl sz3 _ rfl) ?_
          refine AO.calmG 15 false 20 rfl rfl (congrArg (fun b => some (AV.fl (Value.bool b))) (decide_eq_false hc7)) 22 rfl (by decide) (eI64 p0.f3) (Calm.load 0 rfl rfl rfl (At.cast (At.fldS (At.fldS (At.fldS (At.fld0 At.here)))) rfl) ag3 sz3) ?_
          refine AO.calmG 15 false 20 rfl rfl (congrArg (fun b => some (AV.fl (Value.bool b))) (decide_eq_false hc7)) 23 rfl (by decide) (.ptr n2 0) (Calm.fldPtr rfl rfl Try.underlying24 rfl sz3 _ rfl) ?_
          refine AO.calmG 15 false 20 rfl rfl (congrArg (fun b => some (AV.fl (Value.bool b))) (decide_eq_false hc7)) 24 rfl (by decide) (eI64 p0.f0) (Calm.load 0 rfl rfl rfl (At.cast (At.fld0 At.here) rfl) ag3 sz3) ?_
          refine AO.calmG 15 false 20 rfl rfl (congrArg (fun b => some (AV.fl (Value.bool b))) (decide_eq_false hc7)) 25 rfl (by decide) (eBool (decide (p0.f0 ≤ p0.f3))) (Calm.int rfl rfl rfl rfl) ?_
          refine AO.calm rfl 26 rfl (by decide) (eBool (decide (p0.f0 ≤ p0.f3))) (Calm.pickF rfl (congrArg (fun b => some (AV.fl (Value.bool b))) (decide_eq_false hc7)) rfl) ?_
          cases hq4
          refine AO.nilE ⟨rfl, rfl⟩ ?_ ?_
          · exact ⟨rfl, rfl, trivial⟩
          · exact (Sub.refl _)
  · by_cases hc8 : b3 = true
    · have h := (if_pos hc8).symm.trans h
      refine AW.condT' b3 rfl hc8 ?_
      refine AW.seq ?_
      refine AW.reg ?_
      refine AO.calm rfl 2 rfl (by decide) (eBool false) (Calm.assign rfl rfl) ?_
      refine AO.nil (ρ' := [(2, (eBool false))]) (H' := []) ⟨rfl, trivial⟩ (Sub.nil _) ?_
      refine AW.ret (ρ' := [(2, (eBool false))]) (H' := []) ⟨rfl, trivial⟩ (Sub.refl _) ?_
      have hr := Option.some.inj h
      subst hr
      exact ⟨[(eBool false)], ⟨rfl, rfl, trivial⟩, rfl⟩
    · have h := (if_neg hc8).symm.trans h
      refine AW.condF' b3 rfl hc8 ?_
      refine AW.skip (ρ' := [(1, (.ptr n2 0))]) (H' := [(n2, (.mem (e24 p0)))]) ⟨rfl, trivial⟩ (Sub.refl _) ?_
      refine AW.seq_mid (fun ρ H => ρ = [] ∧ H = [] ∧ nfa_Right_c0 k = some r) ?_ ?_
      · refine AW.seq ?_
        refine AW.reg ?_
        refine AO.calm rfl 27 rfl (by decide) (.ptr n2 1) (Calm.fldPtr rfl rfl Try.underlying24 rfl sz22 _ rfl) ?_
        refine AO.calm rfl 28 rfl (by decide) (.fz 7 (p0.f1.map e35)) (Calm.load 0 rfl rfl rfl (At.cast (At.fldS (At.fld0 At.here)) rfl) ag22 sz22) ?_
        refine AO.calm rfl 29 rfl (by decide) (eI64 (p0.f1.length : Int)) (Calm.lenL rfl rfl Try.underlying22) ?_
        refine AO.calm rfl 30 rfl (by decide) (eI64 (0 : Int)) (Calm.move rfl rfl) ?_
        refine AO.nil (ρ' := [(1, (.ptr n2 0)), (28, (.fz 7 (p0.f1.map e35))), (29, (eI64 (p0.f1.length : Int))), (30, (eI64 (0 : Int)))]) (H' := [(n2, (.mem (e24 p0)))]) ⟨rfl, rfl, rfl, rfl, trivial⟩ (Sub.refl _) ?_
        refine AW.block ?_
        refine AW.weak (ρ' := [(1, (.ptr n2 0)), (28, (.fz 7 (p0.f1.map e35))), (29, (eI64 (p0.f1.length : Int))), (30, (eI64 (0 : Int)))]) (H' := [(n2, (.mem (e24 p0)))]) ⟨rfl, rfl, rfl, rfl, trivial⟩ (Sub.refl _) ?_
        refine AW.loop (fun kq ρ H => ∃ (x9 : Int), ρ = [(1, (.ptr n2 0)), (28, (.fz 7 (p0.f1.map e35))), (29, (eI64 (p0.f1.length : Int))), (30, (eI64 x9))] ∧ H = [(n2, (.mem (e24 p0)))] ∧ nfa_Right_l1 k p0 kq x9 = some r) k ⟨(0 : Int), rfl, rfl, h⟩ ?_
        rintro kq11 _ _ ⟨x9, rfl, rfl, h⟩
        cases kq11 with
        | zero => rw [nfa_Right_l1.eq_1] at h; cases h
        | succ kq11 =>
        rw [nfa_Right_l1.eq_2] at h
        generalize hrec10 : nfa_Right_l1 k p0 kq11 = rec10 at h
        refine AW.seq ?_
        refine AW.reg ?_
        refine AO.calm rfl 31 rfl (by decide) (eBool (decide (x9 < (p0.f1.length : Int)))) (Calm.int rfl rfl rfl rfl) ?_
        refine AO.nil (ρ' := [(1, (.ptr n2 0)), (28, (.fz 7 (p0.f1.map e35))), (29, (eI64 (p0.f1.length : Int))), (30, (eI64 x9)), (31, (eBool (decide (x9 < (p0.f1.length : Int)))))]) (H' := [(n2, (.mem (e24 p0)))]) ⟨rfl, rfl, rfl, rfl, rfl, trivial⟩ (Sub.refl _) ?_
        refine AW.seq ?_
        by_cases hc12 : x9 < (p0.f1.length : Int)
        · have h := (if_pos hc12).symm.trans h
          refine AW.condP (x9 < (p0.f1.length : Int)) rfl hc12 ?_
          refine AW.skip (ρ' := [(1, (.ptr n2 0)), (28, (.fz 7 (p0.f1.map e35))), (29, (eI64 (p0.f1.length : Int))), (30, (eI64 x9))]) (H' := [(n2, (.mem (e24 p0)))]) ⟨rfl, rfl, rfl, rfl, trivial⟩ (Sub.refl _) ?_
          refine AW.seq ?_
          refine AW.block ?_
          refine AW.seq ?_
          refine AW.reg ?_
          obtain ⟨hg13, h⟩ := of_guard h
          refine AO.calm rfl 32 rfl (by decide) (.rp (e35 (lget p0.f1 x9))) (Calm.idxL (f := e35) rfl rfl rfl hg13 Try.underlying22 sz35) ?_
          refine AO.calm rfl 33 rfl (by decide) (e35 (lget p0.f1 x9)) (Calm.loadRp rfl rfl ag35 sz35) ?_
          refine AO.alloc rfl 4 rfl (by decide) rfl zr35 lay35 fun n14 => ?_
          refine AO.store (X' := (e35 (lget p0.f1 x9))) 0 rfl rfl rfl rfl rfl rfl (Put.cast Put.here rfl) rfl rfl sz35 rfl ?_
          refine AO.nil (ρ' := [(1, (.ptr n2 0)), (4, (.ptr n14 0)), (28, (.fz 7 (p0.f1.map e35))), (29, (eI64 (p0.f1.length : Int))), (30, (eI64 x9))]) (H' := [(n2, (.mem (e24 p0))), (n14, (.mem (e35 (lget p0.f1 x9))))]) ⟨rfl, rfl, rfl, rfl, rfl, trivial⟩ (Sub.cons 1 rfl (Sub.cons 0 rfl (Sub.nil _))) ?_
          refine AW.seq ?_
          obtain ⟨b15, hq16, h⟩ := of_bind h
          refine AW.regM [(1, (.ptr n2 0)), (28, (.fz 7 (p0.f1.map e35))), (29, (eI64 (p0.f1.length : Int))), (30, (eI64 x9)), (55, (eBool b15))] [(n2, (.mem (e24 p0)))] ?_ ?_
          · refine AO.calm rfl 34 rfl (by decide) (.ptr n14 0) (Calm.fldPtr rfl rfl Try.underlying35 rfl sz3 _ rfl) ?_
            refine AO.calm rfl 35 rfl (by decide) (eI64 ((lget p0.f1 x9).f0)) (Calm.load 1 rfl rfl rfl (At.cast (At.fld0 At.here) rfl) ag3 sz3) ?_
            refine AO.calm rfl 36 rfl (by decide) (eBool (decide (((lget p0.f1 x9).f0) < (0 : Int)))) (Calm.int rfl rfl rfl rfl) ?_
            refine AO.calm rfl 37 rfl (by decide) (eBool (decide (((lget p0.f1 x9).f0) < (0 : Int)))) (Calm.move rfl rfl) ?_
            by_cases hc17 : ((lget p0.f1 x9).f0) < (0 : Int)
            · have hq16 := (if_pos hc17).symm.trans hq16
              refine AO.skipG 3 true 37 rfl rfl (congrArg (fun b => some (AV.fl (Value.bool b))) (decide_eq_true hc17)) 38 rfl (by decide) ?_
              refine AO.skipG 3 true 37 rfl rfl (congrArg (fun b => some (AV.fl (Value.bool b))) (decide_eq_true hc17)) 39 rfl (by decide) ?_
              refine AO.skipG 3 true 37 rfl rfl (congrArg (fun b => some (AV.fl (Value.bool b))) (decide_eq_true hc17)) 40 rfl (by decide) ?_
              refine AO.skipG 3 true 37 rfl rfl (congrArg (fun b => some (AV.fl (Value.bool b))) (decide_eq_true hc17)) 41 rfl (by decide) ?_
              refine AO.skipG 3 true 37 rfl rfl (congrArg (fun b => some (AV.fl (Value.bool b))) (decide_eq_true hc17)) 42 rfl (by decide) ?_
              refine AO.calm rfl 43 rfl (by decide) (eBool true) (Calm.pickT rfl (congrArg (fun b => some (AV.fl (Value.bool b))) (decide_eq_true hc17)) rfl) ?_
              refine AO.calm rfl 44 rfl (by decide) (eBool true) (Calm.move rfl rfl) ?_
              refine AO.skipG 10 true 44 rfl rfl rfl 45 rfl (by decide) ?_
              refine AO.skipG 10 true 44 rfl rfl rfl 46 rfl (by decide) ?_
              refine AO.skipG 10 true 44 rfl rfl rfl 47 rfl (by decide) ?_
              refine AO.calm rfl 48 rfl (by decide) (eBool true) (Calm.pickT rfl rfl rfl) ?_
              refine AO.calm rfl 49 rfl (by decide) (eBool true) (Calm.move rfl rfl) ?_
              refine AO.skipG 15 true 49 rfl rfl rfl 50 rfl (by decide) ?_
              refine AO.skipG 15 true 49 rfl rfl rfl 51 rfl (by decide) ?_
              refine AO.skipG 15 true 49 rfl rfl rfl 52 rfl (by decide) ?_
              refine AO.skipG 15 true 49 rfl rfl rfl 53 rfl (by decide) ?_
              refine AO.skipG 15 true 49 rfl rfl rfl 54 rfl (by decide) ?_
              refine AO.calm rfl 55 rfl (by decide) (eBool true) (Calm.pickT rfl rfl rfl) ?_
              cases hq16
              refine AO.nilE ⟨rfl, rfl⟩ ?_ ?_
              · exact ⟨rfl, rfl, rfl, rfl, rfl, trivial⟩
              · exact (Sub.cons 0 rfl (Sub.nil _))
            · have hq16 := (if_neg hc17).symm.trans hq16
              refine AO.calmG 3 false 37 rfl rfl (congrArg (fun b => some (AV.fl (Value.bool b))) (decide_eq_false hc17)) 38 rfl (by decide) (.ptr n14 0) (Calm.fldPtr rfl rfl Try.underlying35 rfl sz3 _ rfl) ?_
              refine AO.calmG 3 false 37 rfl rfl (congrArg (fun b => some (AV.fl (Value.bool b))) (decide_eq_false hc17)) 39 rfl (by decide) (eI64 ((lget p0.f1 x9).f0)) (Calm.load 1 rfl rfl rfl (At.cast (At.fld0 At.here) rfl) ag3 sz3) ?_
              refine AO.calmG 3 false 37 rfl rfl (congrArg (fun b => some (AV.fl (Value.bool b))) (decide_eq_false hc17)) 40 rfl (by decide) (.ptr n2 0) (Calm.fldPtr rfl rfl Try.underlying24 rfl sz3 _ rfl) ?_
              refine AO.calmG 3 false 37 rfl rfl (congrArg (fun b => some (AV.fl (Value.bool b))) (decide_eq_false hc17)) 41 rfl (by decide) (eI64 p0.f0) (Calm.load 0 rfl rfl rfl (At.cast (At.fld0 At.here) rfl) ag3 sz3) ?_
              refine AO.calmG 3 false 37 rfl rfl (congrArg (fun b => some (AV.fl (Value.bool b))) (decide_eq_false hc17)) 42 rfl (by decide) (eBool (decide (p0.f0 ≤ ((lget p0.f1 x9).f0)))) (Calm.int rfl rfl rfl rfl) ?_
              refine AO.calm rfl 43 rfl (by decide) (eBool (decide (p0.f0 ≤ ((lget p0.f1 x9).f0)))) (Calm.pickF rfl (congrArg (fun b => some (AV.fl (Value.bool b))) (decide_eq_false hc17)) rfl) ?_
              refine AO.calm rfl 44 rfl (by decide) (eBool (decide (p0.f0 ≤ ((lget p0.f1 x9).f0)))) (Calm.move rfl rfl) ?_
              by_cases hc18 : p0.f0 ≤ ((lget p0.f1 x9).f0)
              · have hq16 := (if_pos hc18).symm.trans hq16
                refine AO.skipG 10 true 44 rfl rfl (congrArg (fun b => some (AV.fl (Value.bool b))) (decide_eq_true hc18)) 45 rfl (by decide) ?_
                refine AO.skipG 10 true 44 rfl rfl (congrArg (fun b => some (AV.fl (Value.bool b))) (decide_eq_true hc18)) 46 rfl (by decide) ?_
                refine AO.skipG 10 true 44 rfl rfl (congrArg (fun b => some (AV.fl (Value.bool b))) (decide_eq_true hc18)) 47 rfl (by decide) ?_
                refine AO.calm rfl 48 rfl (by decide) (eBool true) (Calm.pickT rfl (congrArg (fun b => some (AV.fl (Value.bool b))) (decide_eq_true hc18)) rfl) ?_
                refine AO.calm rfl 49 rfl (by decide) (eBool true) (Calm.move rfl rfl) ?_
                refine AO.skipG 15 true 49 rfl rfl rfl 50 rfl (by decide) ?_
                refine AO.skipG 15 true 49 rfl rfl rfl 51 rfl (by decide) ?_
                refine AO.skipG 15 true 49 rfl rfl rfl 52 rfl (by decide) ?_
                refine AO.skipG 15 true 49 rfl rfl rfl 53 rfl (by decide) ?_
                refine AO.skipG 15 true 49 rfl rfl rfl 54 rfl (by decide) ?_
                refine AO.calm rfl 55 rfl (by decide) (eBool true) (Calm.pickT rfl rfl rfl) ?_
                cases hq16
                refine AO.nilE ⟨rfl, rfl⟩ ?_ ?_
                · exact ⟨rfl, rfl, rfl, rfl, rfl, trivial⟩
                · exact (Sub.cons 0 rfl (Sub.nil _))
              · have hq16 := (if_neg hc18).symm.trans hq16
                refine AO.calmG 10 false 44 rfl rfl (congrArg (fun b => some (AV.fl (Value.bool b))) (decide_eq_false hc18)) 45 rfl (by decide) (.ptr n14 1) (Calm.fldPtr rfl rfl Try.underlying35 rfl sz3 _ rfl) ?_
                refine AO.calmG 10 false 44 rfl rfl (congrArg (fun b => some (AV.fl (Value.bool b))) (decide_eq_false hc18)) 46 rfl (by decide) (eI64 ((lget p0.f1 x9).f1)) (Calm.load 1 rfl rfl rfl (At.cast (At.fldS (At.fld0 At.here)) rfl) ag3 sz3) ?_
                refine AO.calmG 10 false 44 rfl rfl (congrArg (fun b => some (AV.fl (Value.bool b))) (decide_eq_false hc18)) 47 rfl (by decide) (eBool (decide (((lget p0.f1 x9).f1) < (0 : Int)))) (Calm.int rfl rfl rfl rfl) ?_
                refine AO.calm rfl 48 rfl (by decide) (eBool (decide (((lget p0.f1 x9).f1) < (0 : Int)))) (Calm.pickF rfl (congrArg (fun b => some (AV.fl (Value.bool b))) (decide_eq_false hc18)) rfl) ?_
                refine AO.calm rfl 49 rfl (by decide) (eBool (decide (((lget p0.f1 x9).f1) < (0 : Int)))) (Calm.move rfl rfl) ?_
                by_cases hc19 : ((lget p0.f1 x9).f1) < (0 : Int)
                · have hq16 := (if_pos hc19).symm.trans hq16
                  refine AO.skipG 15 true 49 rfl rfl (congrArg (fun b => some (AV.fl (Value.bool b))) (decide_eq_true hc19)) 50 rfl (by decide) ?_
                  refine AO.skipG 15 true 49 rfl rfl (congrArg (fun b => some (AV.fl (Value.bool b))) (decide_eq_true hc19)) 51 rfl (by decide) ?_
                  refine AO.skipG 15 true 49 rfl rfl (congrArg (fun b => some (AV.fl (Value.bool b))) (decide_eq_true hc19)) 52 rfl (by decide) ?_
                  refine AO.skipG 15 true 49 rfl rfl (congrArg (fun b => some (AV.fl (Value.bool b))) (decide_eq_true hc19)) 53 rfl (by decide) ?_
                  refine AO.skipG 15 true 49 rfl rfl (congrArg (fun b => some (AV.fl (Value.bool b))) (decide_eq_true hc19)) 54 rfl (by decide) ?_
                  refine AO.calm rfl 55 rfl (by decide) (eBool true) (Calm.pickT rfl (congrArg (fun b => some (AV.fl (Value.bool b))) (decide_eq_true hc19)) rfl) ?_
                  cases hq16
                  refine AO.nilE ⟨rfl, rfl⟩ ?_ ?_
                  · exact ⟨rfl, rfl, rfl, rfl, rfl, trivial⟩
                  · exact (Sub.cons 0 rfl (Sub.nil _))
                · have hq16 := (if_neg hc19).symm.trans hq16
                  refine AO.calmG 15 false 49 rfl rfl (congrArg (fun b => some (AV.fl (Value.bool b))) (decide_eq_false hc19)) 50 rfl (by decide) (.ptr n14 1) (Calm.fldPtr rfl rfl Try.underlying35 rfl sz3 _ rfl) ?_
                  refine AO.calmG 15 false 49 rfl rfl (congrArg (fun b => some (AV.fl (Value.bool b))) (decide_eq_false hc19)) 51 rfl (by decide) (eI64 ((lget p0.f1 x9).f1)) (Calm.load 1 rfl rfl rfl (At.cast (At.fldS (At.fld0 At.here)) rfl) ag3 sz3) ?_
                  refine AO.calmG 15 false 49 rfl rfl (congrArg (fun b => some (AV.fl (Value.bool b))) (decide_eq_false hc19)) 52 rfl (by decide) (.ptr n2 0) (Calm.fldPtr rfl rfl Try.underlying24 rfl sz3 _ rfl) ?_
                  refine AO.calmG 15 false 49 rfl rfl (congrArg (fun b => some (AV.fl (Value.bool b))) (decide_eq_false hc19)) 53 rfl (by decide) (eI64 p0.f0) (Calm.load 0 rfl rfl rfl (At.cast (At.fld0 At.here) rfl) ag3 sz3) ?_
                  refine AO.calmG 15 false 49 rfl rfl (congrArg (fun b => some (AV.fl (Value.bool b))) (decide_eq_false hc19)) 54 rfl (by decide) (eBool (decide (p0.f0 ≤ ((lget p0.f1 x9).f1)))) (Calm.int rfl rfl rfl rfl) ?_
                  refine AO.calm rfl 55 rfl (by decide) (eBool (decide (p0.f0 ≤ ((lget p0.f1 x9).f1)))) (Calm.pickF rfl (congrArg (fun b => some (AV.fl (Value.bool b))) (decide_eq_false hc19)) rfl) ?_
                  cases hq16
                  refine AO.nilE ⟨rfl, rfl⟩ ?_ ?_
                  · exact ⟨rfl, rfl, rfl, rfl, rfl, trivial⟩
                  · exact (Sub.cons 0 rfl (Sub.nil _))
          · by_cases hc20 : b15 = true
            · have h := (if_pos hc20).symm.trans h
              refine AW.condT' b15 rfl hc20 ?_
              refine AW.seq ?_
              refine AW.reg ?_
              refine AO.calm rfl 2 rfl (by decide) (eBool false) (Calm.assign rfl rfl) ?_
              refine AO.nil (ρ' := [(2, (eBool false))]) (H' := []) ⟨rfl, trivial⟩ (Sub.nil _) ?_
              refine AW.ret (ρ' := [(2, (eBool false))]) (H' := []) ⟨rfl, trivial⟩ (Sub.refl _) ?_
              have hr := Option.some.inj h
              subst hr
              exact ⟨[(eBool false)], ⟨rfl, rfl, trivial⟩, rfl⟩
            · have h := (if_neg hc20).symm.trans h
              refine AW.condF' b15 rfl hc20 ?_
              refine AW.skip (ρ' := [(1, (.ptr n2 0)), (28, (.fz 7 (p0.f1.map e35))), (29, (eI64 (p0.f1.length : Int))), (30, (eI64 x9))]) (H' := [(n2, (.mem (e24 p0)))]) ⟨rfl, rfl, rfl, rfl, trivial⟩ (Sub.refl _) ?_
              refine AW.reg ?_
              refine AO.calm rfl 56 rfl (by decide) (eI64 (w64 (x9 + (1 : Int)))) (Calm.int rfl rfl rfl rfl) ?_
              refine AO.calm rfl 30 rfl (by decide) (eI64 (w64 (x9 + (1 : Int)))) (Calm.move rfl rfl) ?_
              refine AO.nil (ρ' := [(1, (.ptr n2 0)), (28, (.fz 7 (p0.f1.map e35))), (29, (eI64 (p0.f1.length : Int))), (30, (eI64 (w64 (x9 + (1 : Int)))))]) (H' := [(n2, (.mem (e24 p0)))]) ⟨rfl, rfl, rfl, rfl, trivial⟩ (Sub.refl _) ?_
              exact ⟨kq11, Nat.lt_succ_self _, (w64 (x9 + (1 : Int))), rfl, rfl, by rw [hrec10]; exact h⟩
        · have h := (if_neg hc12).symm.trans h
          refine AW.condN (x9 < (p0.f1.length : Int)) rfl hc12 ?_
          refine AW.exit (ρ' := []) (H' := []) trivial (Sub.nil _) ?_
          exact ⟨rfl, rfl, h⟩
      · rintro _ _ ⟨rfl, rfl, h⟩
        rw [nfa_Right_c0.eq_1] at h
        refine AW.seq ?_
        refine AW.reg ?_
        refine AO.calm rfl 2 rfl (by decide) (eBool true) (Calm.assign rfl rfl) ?_
        refine AO.nil (ρ' := [(2, (eBool true))]) (H' := []) ⟨rfl, trivial⟩ (Sub.refl _) ?_
        refine AW.ret (ρ' := [(2, (eBool true))]) (H' := []) ⟨rfl, trivial⟩ (Sub.refl _) ?_
        have hr := Option.some.inj h
        subst hr
        exact ⟨[(eBool true)], ⟨rfl, rfl, trivial⟩, rfl⟩
end Go.Avl.T3
/- bosket/nfa.Close; printed by avmain.py. -/
namespace Go.Avl.T3
open Go Go.RowKit Go.Proofs Go.Avl
set_option linter.unusedVariables false
set_option maxRecDepth 100000
set_option maxHeartbeats 4000000
attribute [local irreducible] AW AO AQ Spec SpecH Calm

def nfa_Close_c0 (k : Nat) (x6 : (List Bool)) : Option (List Bool) :=
  some (x6)
def nfa_Close_c1 (k : Nat) (rec15 : ((List Bool) → Bool → Int → Option (List Bool))) (x14 : Int) (x18 : (List Bool)) (b19 : Bool) : Option (List Bool) :=
  rec15 x18 b19 (w64 (x14 + (1 : Int)))
def nfa_Close_l2 (k : Nat) (rec9 : ((List Bool) → Bool → Option (List Bool))) (p0 : S24) : Nat → (List Bool) → Bool → Int → Option (List Bool)
  | 0, _, _, _ => none
  | j + 1, x12, b13, x14 =>
    if x14 < (p0.f1.length : Int) then if 0 ≤ x14 ∧ x14 < (p0.f1.length : Int) then Option.bind (α := Bool) (if ((lget p0.f1 x14).f3) = true then if 0 ≤ ((lget p0.f1 x14).f0) ∧ ((lget p0.f1 x14).f0) < (x12.length : Int) then if (lget x12 ((lget p0.f1 x14).f0)) = true then if 0 ≤ ((lget p0.f1 x14).f1) ∧ ((lget p0.f1 x14).f1) < (x12.length : Int) then some (!(lget x12 ((lget p0.f1 x14).f1)))
    else none
    else some (false)
    else none
    else some (false)) fun b22 =>
    if b22 = true then if 0 ≤ ((lget p0.f1 x14).f1) ∧ ((lget p0.f1 x14).f1) < (x12.length : Int) then nfa_Close_c1 k (nfa_Close_l2 k rec9 p0 j) x14 (lset x12 ((lget p0.f1 x14).f1) true) true
    else none
    else nfa_Close_c1 k (nfa_Close_l2 k rec9 p0 j) x14 x12 b13
    else none
    else rec9 x12 b13
def nfa_Close_l3 (k : Nat) (p0 : S24) : Nat → (List Bool) → Bool → Option (List Bool)
  | 0, _, _ => none
  | j + 1, x7, b8 =>
    if b8 = true then nfa_Close_l2 k (nfa_Close_l3 k p0 j) p0 k x7 false (0 : Int)
    else nfa_Close_c0 k x7
def nfa_Close (k : Nat) (p0 : S24) (p1 : (List Bool)) : Option (List Bool) :=
  if 0 ≤ p0.f0 ∧ p0.f0 * (1 : Int) ≤ 140737488355328 ∧ p0.f0 ≤ 9223372036854775807 then nfa_Close_l3 k p0 k (lcopy (List.replicate p0.f0.toNat false) p1) true
  else none
theorem nfa_Close_spec {k : Nat} {p0 : S24} {p1 : (List Bool)} {r : (List Bool)} (h : nfa_Close k p0 p1 = some r) : Spec Try.prog 15 [(e24 p0), (.fz 1 (p1.map eBool))] (e25 r) := by
  rw [nfa_Close.eq_1] at h
  refine Spec.intro (res := [.tmp 4]) Try.func15 rfl rfl rfl (Nat.le_of_ble_eq_true rfl) ?_
  refine AW.seq ?_
  refine AW.reg ?_
  refine AO.box rfl 2 rfl (by decide) rfl rfl rfl fun n3 => ?_
  refine AO.calm rfl 4 rfl (by decide) (.fl (.slice none 0 0)) (Calm.assign rfl rfl) ?_
  refine AO.nil (ρ' := [(1, (.fz 1 (p1.map eBool))), (2, (.ptr n3 0))]) (H' := [(n3, (.mem (e24 p0)))]) ⟨rfl, rfl, trivial⟩ (Sub.refl _) ?_
  refine AW.seq ?_
  refine AW.reg ?_
  refine AO.calm rfl 9 rfl (by decide) (.ptr n3 0) (Calm.fldPtr rfl rfl Try.underlying24 rfl sz3 _ rfl) ?_
  refine AO.calm rfl 10 rfl (by decide) (eI64 p0.f0) (Calm.load 0 rfl rfl rfl (At.cast (At.fld0 At.here) rfl) ag3 sz3) ?_
  obtain ⟨hg5, h⟩ := of_guard h
  refine AO.makeL (f := eBool) false rfl 11 rfl (by decide) rfl rfl rfl Try.underlying25 sz4 by4 zr4 lay4 rfl hg5 fun n4 => ?_
  refine AO.calm rfl 5 rfl (by decide) (.own n4 0 (List.replicate p0.f0.toNat false).length) (Calm.assign rfl rfl) ?_
  refine AO.nil (ρ' := [(1, (.fz 1 (p1.map eBool))), (2, (.ptr n3 0)), (5, (.own n4 0 (List.replicate p0.f0.toNat false).length))]) (H' := [(n3, (.mem (e24 p0))), (n4, (.mem (.ar 1 ((List.replicate p0.f0.toNat false).map eBool))))]) ⟨rfl, rfl, rfl, trivial⟩ (Sub.cons 1 rfl (Sub.cons 0 rfl (Sub.nil _))) ?_
  refine AW.seq ?_
  refine AW.reg ?_
  refine AO.calm rfl 12 rfl (by decide) (.own n4 0 (List.replicate p0.f0.toNat false).length) (Calm.move rfl rfl) ?_
  refine AO.calm rfl 13 rfl (by decide) (.fz 1 (p1.map eBool)) (Calm.move rfl rfl) ?_
  refine AO.copyL (l := (List.replicate p0.f0.toNat false)) (m := p1) (f := eBool) 1 14 rfl (by decide) rfl rfl rfl rfl rfl Try.underlying25 sz4 ?_
  refine AO.coe 5 (y' := (.own n4 0 (lcopy (List.replicate p0.f0.toNat false) p1).length)) rfl (fun _ _ h => lcopy_own h) ?_
  refine AO.coe 12 (y' := (.own n4 0 (lcopy (List.replicate p0.f0.toNat false) p1).length)) rfl (fun _ _ h => lcopy_own h) ?_
  refine AO.nil (ρ' := [(2, (.ptr n3 0)), (5, (.own n4 0 (lcopy (List.replicate p0.f0.toNat false) p1).length))]) (H' := [(n3, (.mem (e24 p0))), (n4, (.mem (.ar 1 ((lcopy (List.replicate p0.f0.toNat false) p1).map eBool))))]) ⟨rfl, rfl, trivial⟩ (Sub.refl _) ?_
  refine AW.seq_mid (fun ρ H => ∃ (x6 : (List Bool)), ρ = [(5, (.own n4 0 x6.length))] ∧ H = [(n4, (.mem (.ar 1 (x6.map eBool))))] ∧ nfa_Close_c0 k x6 = some r) ?_ ?_
  · refine AW.seq ?_
    refine AW.reg ?_
    refine AO.calm rfl 6 rfl (by decide) (eBool true) (Calm.assign rfl rfl) ?_
    refine AO.nil (ρ' := [(2, (.ptr n3 0)), (5, (.own n4 0 (lcopy (List.replicate p0.f0.toNat false) p1).length)), (6, (eBool true))]) (H' := [(n3, (.mem (e24 p0))), (n4, (.mem (.ar 1 ((lcopy (List.replicate p0.f0.toNat false) p1).map eBool))))]) ⟨rfl, rfl, rfl, trivial⟩ (Sub.refl _) ?_
    refine AW.block ?_
    refine AW.weak (ρ' := [(2, (.ptr n3 0)), (5, (.own n4 0 (lcopy (List.replicate p0.f0.toNat false) p1).length)), (6, (eBool true))]) (H' := [(n3, (.mem (e24 p0))), (n4, (.mem (.ar 1 ((lcopy (List.replicate p0.f0.toNat false) p1).map eBool))))]) ⟨rfl, rfl, rfl, trivial⟩ (Sub.refl _) ?_
    refine AW.loop (fun kq ρ H => ∃ (x7 : (List Bool)) (b8 : Bool), ρ = [(2, (.ptr n3 0)), (5, (.own n4 0 x7.length)), (6, (eBool b8))] ∧ H = [(n3, (.mem (e24 p0))), (n4, (.mem (.ar 1 (x7.map eBool))))] ∧ nfa_Close_l3 k p0 kq x7 b8 = some r) k ⟨(lcopy (List.replicate p0.f0.toNat false) p1), true, rfl, rfl, h⟩ ?_
    rintro kq10 _ _ ⟨x7, b8, rfl, rfl, h⟩
    cases kq10 with
    | zero => rw [nfa_Close_l3.eq_1] at h; cases h
    | succ kq10 =>
    rw [nfa_Close_l3.eq_2] at h
    generalize hrec9 : nfa_Close_l3 k p0 kq10 = rec9 at h
    refine AW.seq ?_
    refine AW.seq ?_
    refine AW.reg ?_
    refine AO.calm rfl 15 rfl (by decide) (eBool b8) (Calm.move rfl rfl) ?_
    refine AO.nil (ρ' := [(2, (.ptr n3 0)), (5, (.own n4 0 x7.length)), (15, (eBool b8))]) (H' := [(n3, (.mem (e24 p0))), (n4, (.mem (.ar 1 (x7.map eBool))))]) ⟨rfl, rfl, rfl, trivial⟩ (Sub.refl _) ?_
    by_cases hc11 : b8 = true
    · have h := (if_pos hc11).symm.trans h
      refine AW.condT' b8 rfl hc11 ?_
      refine AW.skip (ρ' := [(2, (.ptr n3 0)), (5, (.own n4 0 x7.length))]) (H' := [(n3, (.mem (e24 p0))), (n4, (.mem (.ar 1 (x7.map eBool))))]) ⟨rfl, rfl, trivial⟩ (Sub.refl _) ?_
      refine AW.block ?_
      refine AW.seq ?_
      refine AW.reg ?_
      refine AO.calm rfl 6 rfl (by decide) (eBool false) (Calm.assign rfl rfl) ?_
      refine AO.nil (ρ' := [(2, (.ptr n3 0)), (5, (.own n4 0 x7.length)), (6, (eBool false))]) (H' := [(n3, (.mem (e24 p0))), (n4, (.mem (.ar 1 (x7.map eBool))))]) ⟨rfl, rfl, rfl, trivial⟩ (Sub.refl _) ?_
      refine AW.seq ?_
      refine AW.reg ?_
      refine AO.calm rfl 16 rfl (by decide) (.ptr n3 1) (Calm.fldPtr rfl rfl Try.underlying24 rfl sz22 _ rfl) ?_
      refine AO.calm rfl 17 rfl (by decide) (.fz 7 (p0.f1.map e35)) (Calm.load 0 rfl rfl rfl (At.cast (At.fldS (At.fld0 At.here)) rfl) ag22 sz22) ?_
      refine AO.calm rfl 18 rfl (by decide) (eI64 (p0.f1.length : Int)) (Calm.lenL rfl rfl Try.underlying22) ?_
      refine AO.calm rfl 19 rfl (by decide) (eI64 (0 : Int)) (Calm.move rfl rfl) ?_
      refine AO.nil (ρ' := [(2, (.ptr n3 0)), (5, (.own n4 0 x7.length)), (6, (eBool false)), (17, (.fz 7 (p0.f1.map e35))), (18, (eI64 (p0.f1.length : Int))), (19, (eI64 (0 : Int)))]) (H' := [(n3, (.mem (e24 p0))), (n4, (.mem (.ar 1 (x7.map eBool))))]) ⟨rfl, rfl, rfl, rfl, rfl, rfl, trivial⟩ (Sub.refl _) ?_
      refine AW.block ?_
      refine AW.weak (ρ' := [(2, (.ptr n3 0)), (5, (.own n4 0 x7.length)), (6, (eBool false)), (17, (.fz 7 (p0.f1.map e35))), (18, (eI64 (p0.f1.length : Int))), (19, (eI64 (0 : Int)))]) (H' := [(n3, (.mem (e24 p0))), (n4, (.mem (.ar 1 (x7.map eBool))))]) ⟨rfl, rfl, rfl, rfl, rfl, rfl, trivial⟩ (Sub.refl _) ?_
      refine AW.loop (fun kq ρ H => ∃ (x12 : (List Bool)) (b13 : Bool) (x14 : Int), ρ = [(2, (.ptr n3 0)), (5, (.own n4 0 x12.length)), (6, (eBool b13)), (17, (.fz 7 (p0.f1.map e35))), (18, (eI64 (p0.f1.length : Int))), (19, (eI64 x14))] ∧ H = [(n3, (.mem (e24 p0))), (n4, (.mem (.ar 1 (x12.map eBool))))] ∧ nfa_Close_l2 k rec9 p0 kq x12 b13 x14 = some r) k ⟨x7, false, (0 : Int), rfl, rfl, h⟩ ?_
      rintro kq16 _ _ ⟨x12, b13, x14, rfl, rfl, h⟩
      cases kq16 with
      | zero => rw [nfa_Close_l2.eq_1] at h; cases h
      | succ kq16 =>
      rw [nfa_Close_l2.eq_2] at h
      generalize hrec15 : nfa_Close_l2 k rec9 p0 kq16 = rec15 at h
      refine AW.seq ?_
      refine AW.reg ?_
      refine AO.calm rfl 20 rfl (by decide) (eBool (decide (x14 < (p0.f1.length : Int)))) (Calm.int rfl rfl rfl rfl) ?_
      refine AO.nil (ρ' := [(2, (.ptr n3 0)), (5, (.own n4 0 x12.length)), (6, (eBool b13)), (17, (.fz 7 (p0.f1.map e35))), (18, (eI64 (p0.f1.length : Int))), (19, (eI64 x14)), (20, (eBool (decide (x14 < (p0.f1.length : Int)))))]) (H' := [(n3, (.mem (e24 p0))), (n4, (.mem (.ar 1 (x12.map eBool))))]) ⟨rfl, rfl, rfl, rfl, rfl, rfl, rfl, trivial⟩ (Sub.refl _) ?_
      refine AW.seq ?_
      by_cases hc17 : x14 < (p0.f1.length : Int)
      · have h := (if_pos hc17).symm.trans h
        refine AW.condP (x14 < (p0.f1.length : Int)) rfl hc17 ?_
        refine AW.skip (ρ' := [(2, (.ptr n3 0)), (5, (.own n4 0 x12.length)), (6, (eBool b13)), (17, (.fz 7 (p0.f1.map e35))), (18, (eI64 (p0.f1.length : Int))), (19, (eI64 x14))]) (H' := [(n3, (.mem (e24 p0))), (n4, (.mem (.ar 1 (x12.map eBool))))]) ⟨rfl, rfl, rfl, rfl, rfl, rfl, trivial⟩ (Sub.refl _) ?_
        refine AW.seq_mid (fun ρ H => ∃ (x18 : (List Bool)) (b19 : Bool), ρ = [(2, (.ptr n3 0)), (5, (.own n4 0 x18.length)), (6, (eBool b19)), (17, (.fz 7 (p0.f1.map e35))), (18, (eI64 (p0.f1.length : Int))), (19, (eI64 x14))] ∧ H = [(n3, (.mem (e24 p0))), (n4, (.mem (.ar 1 (x18.map eBool))))] ∧ nfa_Close_c1 k rec15 x14 x18 b19 = some r) ?_ ?_
        · refine AW.block ?_
          refine AW.seq ?_
          refine AW.reg ?_
          obtain ⟨hg20, h⟩ := of_guard h
          refine AO.calm rfl 21 rfl (by decide) (.rp (e35 (lget p0.f1 x14))) (Calm.idxL (f := e35) rfl rfl rfl hg20 Try.underlying22 sz35) ?_
          refine AO.calm rfl 22 rfl (by decide) (e35 (lget p0.f1 x14)) (Calm.loadRp rfl rfl ag35 sz35) ?_
          refine AO.alloc rfl 8 rfl (by decide) rfl zr35 lay35 fun n21 => ?_
          refine AO.store (X' := (e35 (lget p0.f1 x14))) 0 rfl rfl rfl rfl rfl rfl (Put.cast Put.here rfl) rfl rfl sz35 rfl ?_
          refine AO.nil (ρ' := [(2, (.ptr n3 0)), (5, (.own n4 0 x12.length)), (6, (eBool b13)), (8, (.ptr n21 0)), (17, (.fz 7 (p0.f1.map e35))), (18, (eI64 (p0.f1.length : Int))), (19, (eI64 x14))]) (H' := [(n3, (.mem (e24 p0))), (n4, (.mem (.ar 1 (x12.map eBool)))), (n21, (.mem (e35 (lget p0.f1 x14))))]) ⟨rfl, rfl, rfl, rfl, rfl, rfl, rfl, trivial⟩ (Sub.cons 1 rfl (Sub.cons 1 rfl (Sub.cons 0 rfl (Sub.nil _)))) ?_
          refine AW.seq ?_
          obtain ⟨b22, hq23, h⟩ := of_bind h
          refine AW.regM [(2, (.ptr n3 0)), (5, (.own n4 0 x12.length)), (6, (eBool b13)), (8, (.ptr n21 0)), (17, (.fz 7 (p0.f1.map e35))), (18, (eI64 (p0.f1.length : Int))), (19, (eI64 x14)), (39, (eBool b22))] [(n3, (.mem (e24 p0))), (n4, (.mem (.ar 1 (x12.map eBool)))), (n21, (.mem (e35 (lget p0.f1 x14))))] ?_ ?_
          · refine AO.calm rfl 23 rfl (by decide) (.ptr n21 6) (Calm.fldPtr rfl rfl Try.underlying35 rfl sz4 _ rfl) ?_
            refine AO.calm rfl 24 rfl (by decide) (eBool ((lget p0.f1 x14).f3)) (Calm.load 2 rfl rfl rfl (At.cast (At.fldS (At.fldS (At.fldS (At.fld0 At.here)))) rfl) ag4 sz4) ?_
            refine AO.calm rfl 25 rfl (by decide) (eBool ((lget p0.f1 x14).f3)) (Calm.move rfl rfl) ?_
            by_cases hc24 : ((lget p0.f1 x14).f3) = true
            · have hq23 := (if_pos hc24).symm.trans hq23
              refine AO.calmG 2 true 25 rfl rfl (congrArg (fun b => some (AV.fl (Value.bool b))) hc24) 26 rfl (by decide) (.own n4 0 x12.length) (Calm.move rfl rfl) ?_
              refine AO.calmG 2 true 25 rfl rfl (congrArg (fun b => some (AV.fl (Value.bool b))) hc24) 27 rfl (by decide) (.ptr n21 0) (Calm.fldPtr rfl rfl Try.underlying35 rfl sz3 _ rfl) ?_
              refine AO.calmG 2 true 25 rfl rfl (congrArg (fun b => some (AV.fl (Value.bool b))) hc24) 28 rfl (by decide) (eI64 ((lget p0.f1 x14).f0)) (Calm.load 2 rfl rfl rfl (At.cast (At.fld0 At.here) rfl) ag3 sz3) ?_
              obtain ⟨hg25, hq23⟩ := of_guard hq23
              refine AO.calmG 2 true 25 rfl rfl (congrArg (fun b => some (AV.fl (Value.bool b))) hc24) 29 rfl (by decide) (.ptr n4 (((lget p0.f1 x14).f0).toNat * 1 + 0)) (Calm.idxO 1 rfl rfl rfl rfl hg25 Try.underlying25 sz4) ?_
              refine AO.calmG 2 true 25 rfl rfl (congrArg (fun b => some (AV.fl (Value.bool b))) hc24) 30 rfl (by decide) (eBool (lget x12 ((lget p0.f1 x14).f0))) (Calm.load 1 rfl rfl rfl (At.cast (At.lidx ((lget p0.f1 x14).f0) hg25.1 hg25.2 At.here) (by omega)) ag4 sz4) ?_
              refine AO.calm rfl 31 rfl (by decide) (eBool (lget x12 ((lget p0.f1 x14).f0))) (Calm.pickT rfl (congrArg (fun b => some (AV.fl (Value.bool b))) hc24) rfl) ?_
              refine AO.calm rfl 32 rfl (by decide) (eBool (lget x12 ((lget p0.f1 x14).f0))) (Calm.move rfl rfl) ?_
              by_cases hc26 : (lget x12 ((lget p0.f1 x14).f0)) = true
              · have hq23 := (if_pos hc26).symm.trans hq23
                refine AO.calmG 9 true 32 rfl rfl (congrArg (fun b => some (AV.fl (Value.bool b))) hc26) 33 rfl (by decide) (.own n4 0 x12.length) (Calm.move rfl rfl) ?_
                refine AO.calmG 9 true 32 rfl rfl (congrArg (fun b => some (AV.fl (Value.bool b))) hc26) 34 rfl (by decide) (.ptr n21 1) (Calm.fldPtr rfl rfl Try.underlying35 rfl sz3 _ rfl) ?_
                refine AO.calmG 9 true 32 rfl rfl (congrArg (fun b => some (AV.fl (Value.bool b))) hc26) 35 rfl (by decide) (eI64 ((lget p0.f1 x14).f1)) (Calm.load 2 rfl rfl rfl (At.cast (At.fldS (At.fld0 At.here)) rfl) ag3 sz3) ?_
                obtain ⟨hg27, hq23⟩ := of_guard hq23
                refine AO.calmG 9 true 32 rfl rfl (congrArg (fun b => some (AV.fl (Value.bool b))) hc26) 36 rfl (by decide) (.ptr n4 (((lget p0.f1 x14).f1).toNat * 1 + 0)) (Calm.idxO 1 rfl rfl rfl rfl hg27 Try.underlying25 sz4) ?_
                refine AO.calmG 9 true 32 rfl rfl (congrArg (fun b => some (AV.fl (Value.bool b))) hc26) 37 rfl (by decide) (eBool (lget x12 ((lget p0.f1 x14).f1))) (Calm.load 1 rfl rfl rfl (At.cast (At.lidx ((lget p0.f1 x14).f1) hg27.1 hg27.2 At.here) (by omega)) ag4 sz4) ?_
                refine AO.calmG 9 true 32 rfl rfl (congrArg (fun b => some (AV.fl (Value.bool b))) hc26) 38 rfl (by decide) (eBool (!(lget x12 ((lget p0.f1 x14).f1)))) (Calm.not rfl rfl) ?_
                refine AO.calm rfl 39 rfl (by decide) (eBool (!(lget x12 ((lget p0.f1 x14).f1)))) (Calm.pickT rfl (congrArg (fun b => some (AV.fl (Value.bool b))) hc26) rfl) ?_
                cases hq23
                refine AO.nilE ⟨rfl, rfl⟩ ?_ ?_
                · exact ⟨rfl, rfl, rfl, rfl, rfl, rfl, rfl, rfl, trivial⟩
                · exact (Sub.refl _)
              · have hq23 := (if_neg hc26).symm.trans hq23
                refine AO.skipG 9 false 32 rfl rfl (congrArg (fun b => some (AV.fl (Value.bool b))) (eq_false_of_ne_true hc26)) 33 rfl (by decide) ?_
                refine AO.skipG 9 false 32 rfl rfl (congrArg (fun b => some (AV.fl (Value.bool b))) (eq_false_of_ne_true hc26)) 34 rfl (by decide) ?_
                refine AO.skipG 9 false 32 rfl rfl (congrArg (fun b => some (AV.fl (Value.bool b))) (eq_false_of_ne_true hc26)) 35 rfl (by decide) ?_
                refine AO.skipG 9 false 32 rfl rfl (congrArg (fun b => some (AV.fl (Value.bool b))) (eq_false_of_ne_true hc26)) 36 rfl (by decide) ?_
                refine AO.skipG 9 false 32 rfl rfl (congrArg (fun b => some (AV.fl (Value.bool b))) (eq_false_of_ne_true hc26)) 37 rfl (by decide) ?_
                refine AO.skipG 9 false 32 rfl rfl (congrArg (fun b => some (AV.fl (Value.bool b))) (eq_false_of_ne_true hc26)) 38 rfl (by decide) ?_
                refine AO.calm rfl 39 rfl (by decide) (eBool false) (Calm.pickF rfl (congrArg (fun b => some (AV.fl (Value.bool b))) (eq_false_of_ne_true hc26)) rfl) ?_
                cases hq23
                refine AO.nilE ⟨rfl, rfl⟩ ?_ ?_
                · exact ⟨rfl, rfl, rfl, rfl, rfl, rfl, rfl, rfl, trivial⟩
                · exact (Sub.refl _)
            · have hq23 := (if_neg hc24).symm.trans hq23
              refine AO.skipG 2 false 25 rfl rfl (congrArg (fun b => some (AV.fl (Value.bool b))) (eq_false_of_ne_true hc24)) 26 rfl (by decide) ?_
              refine AO.skipG 2 false 25 rfl rfl (congrArg (fun b => some (AV.fl (Value.bool b))) (eq_false_of_ne_true hc24)) 27 rfl (by decide) ?_
              refine AO.skipG 2 false 25 rfl rfl (congrArg (fun b => some (AV.fl (Value.bool b))) (eq_false_of_ne_true hc24)) 28 rfl (by decide) ?_
              refine AO.skipG 2 false 25 rfl rfl (congrArg (fun b => some (AV.fl (Value.bool b))) (eq_false_of_ne_true hc24)) 29 rfl (by decide) ?_
              refine AO.skipG 2 false 25 rfl rfl (congrArg (fun b => some (AV.fl (Value.bool b))) (eq_false_of_ne_true hc24)) 30 rfl (by decide) ?_
              refine AO.calm rfl 31 rfl (by decide) (eBool false) (Calm.pickF rfl (congrArg (fun b => some (AV.fl (Value.bool b))) (eq_false_of_ne_true hc24)) rfl) ?_
              refine AO.calm rfl 32 rfl (by decide) (eBool false) (Calm.move rfl rfl) ?_
              refine AO.skipG 9 false 32 rfl rfl rfl 33 rfl (by decide) ?_
              refine AO.skipG 9 false 32 rfl rfl rfl 34 rfl (by decide) ?_
              refine AO.skipG 9 false 32 rfl rfl rfl 35 rfl (by decide) ?_
              refine AO.skipG 9 false 32 rfl rfl rfl 36 rfl (by decide) ?_
              refine AO.skipG 9 false 32 rfl rfl rfl 37 rfl (by decide) ?_
              refine AO.skipG 9 false 32 rfl rfl rfl 38 rfl (by decide) ?_
              refine AO.calm rfl 39 rfl (by decide) (eBool false) (Calm.pickF rfl rfl rfl) ?_
              cases hq23
              refine AO.nilE ⟨rfl, rfl⟩ ?_ ?_
              · exact ⟨rfl, rfl, rfl, rfl, rfl, rfl, rfl, rfl, trivial⟩
              · exact (Sub.refl _)
          · by_cases hc28 : b22 = true
            · have h := (if_pos hc28).symm.trans h
              refine AW.condT' b22 rfl hc28 ?_
              refine AW.reg ?_
              refine AO.calm rfl 40 rfl (by decide) (.own n4 0 x12.length) (Calm.move rfl rfl) ?_
              refine AO.calm rfl 41 rfl (by decide) (.ptr n21 1) (Calm.fldPtr rfl rfl Try.underlying35 rfl sz3 _ rfl) ?_
              refine AO.calm rfl 42 rfl (by decide) (eI64 ((lget p0.f1 x14).f1)) (Calm.load 2 rfl rfl rfl (At.cast (At.fldS (At.fld0 At.here)) rfl) ag3 sz3) ?_
              obtain ⟨hg29, h⟩ := of_guard h
              refine AO.calm rfl 43 rfl (by decide) (.ptr n4 (((lget p0.f1 x14).f1).toNat * 1 + 0)) (Calm.idxO 1 rfl rfl rfl rfl hg29 Try.underlying25 sz4) ?_
              refine AO.store (X' := (.ar 1 ((lset x12 ((lget p0.f1 x14).f1) true).map eBool))) 1 rfl rfl rfl rfl rfl rfl (Put.cast (Put.lidx ((lget p0.f1 x14).f1) true hg29.1 hg29.2 Put.here) (by omega)) rfl rfl sz4 rfl ?_
              refine AO.coe 5 (y' := (.own n4 0 (lset x12 ((lget p0.f1 x14).f1) true).length)) rfl (fun _ _ h => lset_own h) ?_
              refine AO.coe 40 (y' := (.own n4 0 (lset x12 ((lget p0.f1 x14).f1) true).length)) rfl (fun _ _ h => lset_own h) ?_
              refine AO.calm rfl 6 rfl (by decide) (eBool true) (Calm.assign rfl rfl) ?_
              refine AO.nil (ρ' := [(2, (.ptr n3 0)), (5, (.own n4 0 (lset x12 ((lget p0.f1 x14).f1) true).length)), (6, (eBool true)), (17, (.fz 7 (p0.f1.map e35))), (18, (eI64 (p0.f1.length : Int))), (19, (eI64 x14))]) (H' := [(n3, (.mem (e24 p0))), (n4, (.mem (.ar 1 ((lset x12 ((lget p0.f1 x14).f1) true).map eBool))))]) ⟨rfl, rfl, rfl, rfl, rfl, rfl, trivial⟩ (Sub.cons 0 rfl (Sub.cons 0 rfl (Sub.nil _))) ?_
              exact ⟨(lset x12 ((lget p0.f1 x14).f1) true), true, rfl, rfl, h⟩
            · have h := (if_neg hc28).symm.trans h
              refine AW.condF' b22 rfl hc28 ?_
              refine AW.skip (ρ' := [(2, (.ptr n3 0)), (5, (.own n4 0 x12.length)), (6, (eBool b13)), (17, (.fz 7 (p0.f1.map e35))), (18, (eI64 (p0.f1.length : Int))), (19, (eI64 x14))]) (H' := [(n3, (.mem (e24 p0))), (n4, (.mem (.ar 1 (x12.map eBool))))]) ⟨rfl, rfl, rfl, rfl, rfl, rfl, trivial⟩ (Sub.cons 0 rfl (Sub.cons 0 rfl (Sub.nil _))) ?_
              exact ⟨x12, b13, rfl, rfl, h⟩
        · rintro _ _ ⟨x18, b19, rfl, rfl, h⟩
          rw [nfa_Close_c1.eq_1] at h
          refine AW.reg ?_
          refine AO.calm rfl 44 rfl (by decide) (eI64 (w64 (x14 + (1 : Int)))) (Calm.int rfl rfl rfl rfl) ?_
          refine AO.calm rfl 19 rfl (by decide) (eI64 (w64 (x14 + (1 : Int)))) (Calm.move rfl rfl) ?_
          refine AO.nil (ρ' := [(2, (.ptr n3 0)), (5, (.own n4 0 x18.length)), (6, (eBool b19)), (17, (.fz 7 (p0.f1.map e35))), (18, (eI64 (p0.f1.length : Int))), (19, (eI64 (w64 (x14 + (1 : Int)))))]) (H' := [(n3, (.mem (e24 p0))), (n4, (.mem (.ar 1 (x18.map eBool))))]) ⟨rfl, rfl, rfl, rfl, rfl, rfl, trivial⟩ (Sub.refl _) ?_
          exact ⟨kq16, Nat.lt_succ_self _, x18, b19, (w64 (x14 + (1 : Int))), rfl, rfl, by rw [hrec15]; exact h⟩
      · have h := (if_neg hc17).symm.trans h
        refine AW.condN (x14 < (p0.f1.length : Int)) rfl hc17 ?_
        refine AW.exit (ρ' := [(2, (.ptr n3 0)), (5, (.own n4 0 x12.length)), (6, (eBool b13))]) (H' := [(n3, (.mem (e24 p0))), (n4, (.mem (.ar 1 (x12.map eBool))))]) ⟨rfl, rfl, rfl, trivial⟩ (Sub.refl _) ?_
        exact ⟨kq10, Nat.lt_succ_self _, x12, b13, rfl, rfl, by rw [hrec9]; exact h⟩
    · have h := (if_neg hc11).symm.trans h
      refine AW.condF' b8 rfl hc11 ?_
      refine AW.exit (ρ' := [(5, (.own n4 0 x7.length))]) (H' := [(n4, (.mem (.ar 1 (x7.map eBool))))]) ⟨rfl, trivial⟩ (Sub.cons 1 rfl (Sub.nil _)) ?_
      exact ⟨x7, rfl, rfl, h⟩
  · rintro _ _ ⟨x6, rfl, rfl, h⟩
    rw [nfa_Close_c0.eq_1] at h
    refine AW.seq ?_
    refine AW.reg ?_
    refine AO.calm rfl 45 rfl (by decide) (.own n4 0 x6.length) (Calm.move rfl rfl) ?_
    refine AO.calm rfl 4 rfl (by decide) (.own n4 0 x6.length) (Calm.assign rfl rfl) ?_
    refine AO.nil (ρ' := [(4, (.own n4 0 x6.length))]) (H' := [(n4, (.mem (.ar 1 (x6.map eBool))))]) ⟨rfl, trivial⟩ (Sub.refl _) ?_
    refine AW.freezeS 0 [(4, (.fz 1 (x6.map eBool)))] rfl ⟨fz_all rfl, trivial⟩ ?_
    refine AW.ret (ρ' := [(4, (.fz 1 (x6.map eBool)))]) (H' := []) ⟨rfl, trivial⟩ (Sub.refl _) ?_
    have hr := Option.some.inj h
    subst hr
    exact ⟨[(.fz 1 (x6.map eBool))], ⟨rfl, rfl, trivial⟩, rfl⟩
end Go.Avl.T3
