/- Parts: T2B, T2f19, T2f80, T2f59, T2f94, T2f79, T2f58, T2f16, T2f17, T2f95, T2f96, T2f81, T2f60, T2f97, T2f82, T2f61, T2f98. -/
import Derived.Test.YtmgiffbobkgcmaaAv2
import Derived.Test.YtmgiffbobkgcmaaProg
/- Types and facts; printed by avmain.py. -/
namespace Go.Avl.T2
open Go Go.RowKit Go.Proofs Go.Avl
set_option linter.unusedVariables false
set_option maxRecDepth 100000
set_option maxHeartbeats 4000000
structure S55 where
  f0 : Int
  f1 : Int
  f2 : ByteArray
deriving Inhabited, DecidableEq
abbrev e55 (x : S55) : AV := .st [(1, (eI64 x.f0)), (1, (eI64 x.f1)), (1, (eStr x.f2))]
structure S60 where
  f0 : Int
  f1 : Int
  f2 : ByteArray
deriving Inhabited, DecidableEq
abbrev e60 (x : S60) : AV := .st [(1, (eI64 x.f0)), (1, (eI64 x.f1)), (1, (eStr x.f2))]
theorem xok93 : ExtOK Try.prog 93 Go.Extern.BytealgIndexByte.indexByte := ⟨_, Try.func93, by kernel_rfl, by kernel_rfl, by kernel_rfl, by kernel_rfl⟩
theorem ok78 : FnOK Try.prog 78 := FnOK.mk Try.func78 rfl rfl
theorem ok91 : FnOK Try.prog 91 := FnOK.mk Try.func91 rfl rfl
theorem sz5 : tySize Try.prog 5 = some 1 := by rfl
theorem zr5 : tyZero Try.prog 5 = some ([.int .u8 0]) := by rfl
theorem lay5 : ∀ g, Sim g (eU8 (0 : Int)) ([.int .u8 0]) := fun g => (lay_fl rfl)
theorem ok80 : FnOK Try.prog 80 := FnOK.mk Try.func80 rfl rfl
theorem sz3 : tySize Try.prog 3 = some 1 := by rfl
theorem ag3 : tyAgg Try.prog 3 = some false := by rfl
theorem ok59 : FnOK Try.prog 59 := FnOK.mk Try.func59 rfl rfl
theorem ok94 : FnOK Try.prog 94 := FnOK.mk Try.func94 rfl rfl
theorem ok79 : FnOK Try.prog 79 := FnOK.mk Try.func79 rfl rfl
theorem ok58 : FnOK Try.prog 58 := FnOK.mk Try.func58 rfl rfl
theorem ok19 : FnOK Try.prog 19 := FnOK.mk Try.func19 rfl rfl
theorem ok16 : FnOK Try.prog 16 := FnOK.mk Try.func16 rfl rfl
theorem ok18 : FnOK Try.prog 18 := FnOK.mk Try.func18 rfl rfl
theorem ok86 : FnOK Try.prog 86 := FnOK.mk Try.func86 rfl rfl
theorem sz9 : tySize Try.prog 9 = some 1 := by rfl
theorem zr94 : tyZero Try.prog 94 = some ((List.replicate 12 (.string ByteArray.empty))) := by rfl
theorem lay94 : ∀ g, Sim g (.ar 1 ((Vector.replicate 12 ByteArray.empty).toList.map eStr)) ((List.replicate 12 (.string ByteArray.empty))) := fun g => (lay_vec1 (lay_fl rfl))
theorem sz94 : tySize Try.prog 94 = some 12 := by rfl
theorem ag9 : tyAgg Try.prog 9 = some false := by rfl
theorem ok40 : FnOK Try.prog 40 := FnOK.mk Try.func40 rfl rfl
theorem ok98 : FnOK Try.prog 98 := FnOK.mk Try.func98 rfl rfl
theorem ok87 : FnOK Try.prog 87 := FnOK.mk Try.func87 rfl rfl
theorem by5 : tyBytes Try.prog 5 = some 1 := by rfl
theorem ok88 : FnOK Try.prog 88 := FnOK.mk Try.func88 rfl rfl
theorem ok95 : FnOK Try.prog 95 := FnOK.mk Try.func95 rfl rfl
theorem ok96 : FnOK Try.prog 96 := FnOK.mk Try.func96 rfl rfl
theorem ok81 : FnOK Try.prog 81 := FnOK.mk Try.func81 rfl rfl
theorem ag55 : tyAgg Try.prog 55 = some true := by rfl
theorem sz55 : tySize Try.prog 55 = some 3 := by rfl
theorem ok43 : FnOK Try.prog 43 := FnOK.mk Try.func43 rfl rfl
theorem ok60 : FnOK Try.prog 60 := FnOK.mk Try.func60 rfl rfl
theorem zr55 : tyZero Try.prog 55 = some (([.int .i64 0] ++ ([.int .i64 0] ++ ([.string ByteArray.empty] ++ [])))) := by rfl
theorem lay55 : ∀ g, Sim g (.st [(1, (eI64 (0 : Int))), (1, (eI64 (0 : Int))), (1, (eStr ByteArray.empty))]) (([.int .i64 0] ++ ([.int .i64 0] ++ ([.string ByteArray.empty] ++ [])))) := fun g => (Sim.stCons (lay_fl rfl) rfl (Sim.stCons (lay_fl rfl) rfl (Sim.stCons (lay_fl rfl) rfl Sim.stNil)))
theorem ok67 : FnOK Try.prog 67 := FnOK.mk Try.func67 rfl rfl
theorem ok48 : FnOK Try.prog 48 := FnOK.mk Try.func48 rfl rfl
theorem ok68 : FnOK Try.prog 68 := FnOK.mk Try.func68 rfl rfl
theorem ok69 : FnOK Try.prog 69 := FnOK.mk Try.func69 rfl rfl
theorem ok42 : FnOK Try.prog 42 := FnOK.mk Try.func42 rfl rfl
theorem ok47 : FnOK Try.prog 47 := FnOK.mk Try.func47 rfl rfl
theorem eqk55 (x y : S55) : EqOK Try.prog 2 55 (e55 x) (e55 y) (decide (x = y)) := (EqOK.struct (bs := [decide (x.f0 = y.f0), decide (x.f1 = y.f1), decide (x.f2 = y.f2)]) Try.underlying55 (by decide +kernel) ⟨⟨rfl, (eI64 x.f0), (eI64 y.f0), (At.cast (At.fld0 At.here) rfl), (At.cast (At.fld0 At.here) rfl), ag3, ag3, sz3, sz3, (EqOK.int Try.underlying3)⟩, ⟨rfl, (eI64 x.f1), (eI64 y.f1), (At.cast (At.fldS (At.fld0 At.here)) rfl), (At.cast (At.fldS (At.fld0 At.here)) rfl), ag3, ag3, sz3, sz3, (EqOK.int Try.underlying3)⟩, ⟨rfl, (eStr x.f2), (eStr y.f2), (At.cast (At.fldS (At.fldS (At.fld0 At.here))) rfl), (At.cast (At.fldS (At.fldS (At.fld0 At.here))) rfl), ag9, ag9, sz9, sz9, (EqOK.str Try.underlying9)⟩, trivial⟩).of (by cases x; cases y; simp)
theorem eg55 : Try.prog.eqGuardType Try.prog.depth 55 = false := by decide +kernel
theorem zr9 : tyZero Try.prog 9 = some ([.string ByteArray.empty]) := by rfl
theorem lay9 : ∀ g, Sim g (eStr ByteArray.empty) ([.string ByteArray.empty]) := fun g => (lay_fl rfl)
theorem zr60 : tyZero Try.prog 60 = some (([.int .i64 0] ++ ([.int .i64 0] ++ ([.string ByteArray.empty] ++ [])))) := by rfl
theorem lay60 : ∀ g, Sim g (.st [(1, (eI64 (0 : Int))), (1, (eI64 (0 : Int))), (1, (eStr ByteArray.empty))]) (([.int .i64 0] ++ ([.int .i64 0] ++ ([.string ByteArray.empty] ++ [])))) := fun g => (Sim.stCons (lay_fl rfl) rfl (Sim.stCons (lay_fl rfl) rfl (Sim.stCons (lay_fl rfl) rfl Sim.stNil)))
theorem sz60 : tySize Try.prog 60 = some 3 := by rfl
theorem ag60 : tyAgg Try.prog 60 = some true := by rfl
theorem ok41 : FnOK Try.prog 41 := FnOK.mk Try.func41 rfl rfl
theorem ok97 : FnOK Try.prog 97 := FnOK.mk Try.func97 rfl rfl
theorem ok82 : FnOK Try.prog 82 := FnOK.mk Try.func82 rfl rfl
theorem ok44 : FnOK Try.prog 44 := FnOK.mk Try.func44 rfl rfl
theorem ok61 : FnOK Try.prog 61 := FnOK.mk Try.func61 rfl rfl
theorem ok39 : FnOK Try.prog 39 := FnOK.mk Try.func39 rfl rfl
theorem ok45 : FnOK Try.prog 45 := FnOK.mk Try.func45 rfl rfl
theorem ok46 : FnOK Try.prog 46 := FnOK.mk Try.func46 rfl rfl
theorem eqk60 (x y : S60) : EqOK Try.prog 2 60 (e60 x) (e60 y) (decide (x = y)) := (EqOK.struct (bs := [decide (x.f0 = y.f0), decide (x.f1 = y.f1), decide (x.f2 = y.f2)]) Try.underlying60 (by decide +kernel) ⟨⟨rfl, (eI64 x.f0), (eI64 y.f0), (At.cast (At.fld0 At.here) rfl), (At.cast (At.fld0 At.here) rfl), ag3, ag3, sz3, sz3, (EqOK.int Try.underlying3)⟩, ⟨rfl, (eI64 x.f1), (eI64 y.f1), (At.cast (At.fldS (At.fld0 At.here)) rfl), (At.cast (At.fldS (At.fld0 At.here)) rfl), ag3, ag3, sz3, sz3, (EqOK.int Try.underlying3)⟩, ⟨rfl, (eStr x.f2), (eStr y.f2), (At.cast (At.fldS (At.fldS (At.fld0 At.here))) rfl), (At.cast (At.fldS (At.fldS (At.fld0 At.here))) rfl), ag9, ag9, sz9, sz9, (EqOK.str Try.underlying9)⟩, trivial⟩).of (by cases x; cases y; simp)
theorem eg60 : Try.prog.eqGuardType Try.prog.depth 60 = false := by decide +kernel
theorem by60 : tyBytes Try.prog 60 = some 32 := by rfl
theorem ok50 : FnOK Try.prog 50 := FnOK.mk Try.func50 rfl rfl
theorem ok52 : FnOK Try.prog 52 := FnOK.mk Try.func52 rfl rfl
theorem ok53 : FnOK Try.prog 53 := FnOK.mk Try.func53 rfl rfl
theorem ok54 : FnOK Try.prog 54 := FnOK.mk Try.func54 rfl rfl
end Go.Avl.T2
/- bosket/bosketref13.Digits; printed by avmain.py. -/
namespace Go.Avl.T2
open Go Go.RowKit Go.Proofs Go.Avl
set_option linter.unusedVariables false
set_option maxRecDepth 100000
set_option maxHeartbeats 4000000
attribute [local irreducible] AW AO AQ Spec SpecH Calm

def bosketref13_Digits_c0 (k : Nat) (p0 : Int) (x3 : ByteArray) : Option ByteArray :=
  if p0 < (0 : Int) then if (ByteArray.mk #[45]).size + x3.size ≤ 9223372036854775807 then some (((ByteArray.mk #[45]) ++ x3))
  else none
  else some (x3)
def bosketref13_Digits_c1 (k : Nat) (rec8 : (Int → ByteArray → Option ByteArray)) (x6 : Int) (x7 : ByteArray) (x11 : Int) : Option ByteArray :=
  if (strOfNums ([(w8 (w64 ((48 : Int) + x11)))] : List Int)).size + x7.size ≤ 9223372036854775807 then (some ((strOfNums ([(w8 (w64 ((48 : Int) + x11)))] : List Int)) ++ x7)).bind fun x14 =>
  rec8 (IntKind.i64.wrap (x6.tdiv (10 : Int))) x14
  else none
def bosketref13_Digits_l2 (k : Nat) (p0 : Int) : Nat → Int → ByteArray → Option ByteArray
  | 0, _, _ => none
  | j + 1, x6, x7 =>
    if x6 ≠ (0 : Int) then if (x6.tmod (10 : Int)) < (0 : Int) then bosketref13_Digits_c1 k (bosketref13_Digits_l2 k p0 j) x6 x7 (IntKind.i64.wrap (0 - (x6.tmod (10 : Int))))
    else bosketref13_Digits_c1 k (bosketref13_Digits_l2 k p0 j) x6 x7 (x6.tmod (10 : Int))
    else bosketref13_Digits_c0 k p0 x7
def bosketref13_Digits (k : Nat) (p0 : Int) : Option ByteArray :=
  if p0 = (0 : Int) then some ((ByteArray.mk #[48]))
  else bosketref13_Digits_l2 k p0 k p0 (ByteArray.mk #[])
theorem bosketref13_Digits_spec {k : Nat} {p0 : Int} {r : ByteArray} (h : bosketref13_Digits k p0 = some r) : Spec Try.prog 19 [(eI64 p0)] (eStr r) := by
  rw [bosketref13_Digits.eq_1] at h
  refine Spec.intro (res := [.tmp 2]) Try.func19 rfl rfl rfl (Nat.le_of_ble_eq_true rfl) ?_
  refine AW.sr ?_
  refine AO.c (Calm.assign rfl rfl) ?_
  refine AO.nK [0] ?_
  refine AW.sr ?_
  refine AO.c (Calm.move rfl rfl) ?_
  refine AO.c (x := eBool (decide (p0 < (0 : Int)))) (Calm.int rfl rfl rfl rfl) ?_
  refine AO.c (Calm.assign rfl rfl) ?_
  refine AO.c (Calm.assign rfl rfl) ?_
  refine AO.nK [0, 3, 4] ?_
  refine AW.seq ?_
  refine AW.sr ?_
  refine AO.c (Calm.move rfl rfl) ?_
  refine AO.c (x := eBool (decide (p0 = (0 : Int)))) (Calm.int rfl rfl rfl rfl) ?_
  refine AO.nK [0, 3, 4, 9] ?_
  rcases of_ite h with ⟨hc2, h⟩ | ⟨hc2, h⟩
  ·refine AW.condP _ rfl hc2 ?_
   refine AW.sr ?_
   refine AO.c (Calm.assign rfl rfl) ?_
   refine AO.nK [2] ?_
   refine AW.rK [2] ?_
   have hr := Option.some.inj h
   subst hr
   exact ⟨[(eStr (ByteArray.mk #[48]))], ⟨rfl, rfl, trivial⟩, rfl⟩
  ·refine AW.condN _ rfl hc2 ?_
   refine AW.sK [0, 3, 4] ?_
   refine AW.seq_mid (fun ρ H => ∃ (x3 : ByteArray), ρ = [(3, (eStr x3)), (4, (eBool (decide (p0 < (0 : Int)))))] ∧ H = [] ∧ bosketref13_Digits_c0 k p0 x3 = some r) ?_ ?_
   ·refine AW.block ?_
    refine AW.wK [0, 3, 4] ?_
    refine AW.loop (fun kq ρ H => ∃ (x6 : Int) (x7 : ByteArray), ρ = [(0, (eI64 x6)), (3, (eStr x7)), (4, (eBool (decide (p0 < (0 : Int)))))] ∧ H = [] ∧ bosketref13_Digits_l2 k p0 kq x6 x7 = some r) k ⟨p0, (ByteArray.mk #[]), rfl, rfl, h⟩ ?_
    rintro kq9 _ _ ⟨x6, x7, rfl, rfl, h⟩
    cases kq9 with
    | zero => rw [bosketref13_Digits_l2.eq_1] at h; cases h
    | succ kq9 =>
    rw [bosketref13_Digits_l2.eq_2] at h
    generalize hrec8 : bosketref13_Digits_l2 k p0 kq9 = rec8 at h
    refine AW.seq ?_
    refine AW.sr ?_
    refine AO.c (Calm.move rfl rfl) ?_
    refine AO.c (x := eBool (decide (x6 ≠ (0 : Int)))) (Calm.int rfl rfl rfl rfl) ?_
    refine AO.nK [0, 3, 4, 11] ?_
    rcases of_ite h with ⟨hc10, h⟩ | ⟨hc10, h⟩
    ·refine AW.condP _ rfl hc10 ?_
     refine AW.sK [0, 3, 4] ?_
     refine AW.block ?_
     refine AW.sr ?_
     refine AO.c (Calm.move rfl rfl) ?_
     refine AO.c (x := eI64 (x6.tmod (10 : Int))) (Calm.rem rfl rfl rfl (by decide)) ?_
     refine AO.c (Calm.assign rfl rfl) ?_
     refine AO.nK [0, 3, 4, 5] ?_
     refine AW.seq_mid (fun ρ H => ∃ (x11 : Int), ρ = [(0, (eI64 x6)), (3, (eStr x7)), (4, (eBool (decide (p0 < (0 : Int))))), (5, (eI64 x11))] ∧ H = [] ∧ bosketref13_Digits_c1 k rec8 x6 x7 x11 = some r) ?_ ?_
     ·refine AW.sr ?_
      refine AO.c (Calm.move rfl rfl) ?_
      refine AO.c (x := eBool (decide ((x6.tmod (10 : Int)) < (0 : Int)))) (Calm.int rfl rfl rfl rfl) ?_
      refine AO.nK [0, 3, 4, 5, 15] ?_
      rcases of_ite h with ⟨hc15, h⟩ | ⟨hc15, h⟩
      ·refine AW.condP _ rfl hc15 ?_
       refine AW.reg ?_
       refine AO.c (Calm.move rfl rfl) ?_
       refine AO.c (x := eI64 (IntKind.i64.wrap (0 - (x6.tmod (10 : Int))))) (Calm.neg rfl rfl) ?_
       refine AO.c (Calm.assign rfl rfl) ?_
       refine AO.nK [0, 3, 4, 5] ?_
       exact ⟨(IntKind.i64.wrap (0 - (x6.tmod (10 : Int)))), rfl, rfl, h⟩
      ·refine AW.condN _ rfl hc15 ?_
       refine AW.sK [0, 3, 4, 5] ?_
       exact ⟨(x6.tmod (10 : Int)), rfl, rfl, h⟩
     ·rintro _ _ ⟨x11, rfl, rfl, h⟩
      rw [bosketref13_Digits_c1.eq_1] at h
      refine AW.sr ?_
      refine AO.c (Calm.move rfl rfl) ?_
      refine AO.c (x := eI64 (w64 ((48 : Int) + x11))) (Calm.int rfl rfl rfl rfl) ?_
      refine AO.c (x := eU8 (w8 (w64 ((48 : Int) + x11)))) (Calm.conv rfl rfl Try.underlying3 Try.underlying5) ?_
      refine AO.lit (Z := (eU8 (0 : Int))) (xs := (([(w8 (w64 ((48 : Int) + x11)))] : List Int).map eU8)) (qs := [(0, (eU8 (w8 (w64 ((48 : Int) + x11)))))]) rfl 21 rfl (by decide) rfl ⟨rfl, rfl, rfl, trivial⟩ Try.underlying84 sz5 zr5 lay5 rfl (by decide) (litOK (z := 1) [(eU8 (w8 (w64 ((48 : Int) + x11))))] rfl ⟨⟨rfl, rfl⟩, trivial⟩) rfl fun n12 => ?_
      refine AO.c (x := eStr (strOfNums ([(w8 (w64 ((48 : Int) + x11)))] : List Int))) (Calm.strO 0 rfl rfl rfl Try.underlying84 Try.underlying9 Try.underlying5) ?_
      refine AO.c (Calm.move rfl rfl) ?_
      obtain ⟨hg13, h⟩ := of_guard h
      refine AO.c (x := eStr ((strOfNums ([(w8 (w64 ((48 : Int) + x11)))] : List Int)) ++ x7)) (Calm.cat rfl rfl rfl hg13) ?_
      obtain ⟨x14, ex14, h⟩ := of_bind h
      refine AO.c (Calm.assign rfl (congrArg (fun x => some (eStr x)) (Option.some.inj ex14))) ?_
      refine AO.nH [0, 3, 4] (H' := []) (Sub.nil _) ?_
      refine AW.reg ?_
      refine AO.c (Calm.move rfl rfl) ?_
      refine AO.c (x := eI64 (IntKind.i64.wrap (x6.tdiv (10 : Int)))) (Calm.quo rfl rfl rfl (by decide)) ?_
      refine AO.c (Calm.assign rfl rfl) ?_
      refine AO.nK [0, 3, 4] ?_
      exact ⟨kq9, Nat.lt_succ_self _, (IntKind.i64.wrap (x6.tdiv (10 : Int))), x14, rfl, rfl, by rw [hrec8]; exact h⟩
    ·refine AW.condN _ rfl hc10 ?_
     refine AW.eK [3, 4] ?_
     exact ⟨x7, rfl, rfl, h⟩
   ·rintro _ _ ⟨x3, rfl, rfl, h⟩
    rw [bosketref13_Digits_c0.eq_1] at h
    refine AW.seq ?_
    refine AW.sr ?_
    refine AO.c (Calm.move rfl rfl) ?_
    refine AO.nK [3, 27] ?_
    rcases of_ite h with ⟨hc4, h⟩ | ⟨hc4, h⟩
    ·refine AW.condP _ rfl hc4 ?_
     refine AW.sr ?_
     refine AO.c (Calm.move rfl rfl) ?_
     obtain ⟨hg5, h⟩ := of_guard h
     refine AO.c (x := eStr ((ByteArray.mk #[45]) ++ x3)) (Calm.cat rfl rfl rfl hg5) ?_
     refine AO.c (Calm.assign rfl rfl) ?_
     refine AO.nK [2] ?_
     refine AW.rK [2] ?_
     have hr := Option.some.inj h
     subst hr
     exact ⟨[(eStr ((ByteArray.mk #[45]) ++ x3))], ⟨rfl, rfl, trivial⟩, rfl⟩
    ·refine AW.condN _ rfl hc4 ?_
     refine AW.sK [3] ?_
     refine AW.sr ?_
     refine AO.c (Calm.move rfl rfl) ?_
     refine AO.c (Calm.assign rfl rfl) ?_
     refine AO.nK [2] ?_
     refine AW.rK [2] ?_
     have hr := Option.some.inj h
     subst hr
     exact ⟨[(eStr x3)], ⟨rfl, rfl, trivial⟩, rfl⟩
end Go.Avl.T2
/- bosket/spot.natural; printed by avmain.py. -/
namespace Go.Avl.T2
open Go Go.RowKit Go.Proofs Go.Avl
set_option linter.unusedVariables false
set_option maxRecDepth 100000
set_option maxHeartbeats 4000000
attribute [local irreducible] AW AO AQ Spec SpecH Calm

def spot_natural_r (k : Nat) : Nat → Int → Option ByteArray
  | 0, _ => none
  | j + 1, p0 =>
    if p0 < (10 : Int) then some ((strOfNums ([(w8 (u64 ((48 : Int) + p0)))] : List Int)))
    else ((spot_natural_r k j) (IntKind.u64.wrap (p0.tdiv (10 : Int)))).bind fun t4 =>
    if t4.size + (strOfNums ([(w8 (u64 ((48 : Int) + (p0.tmod (10 : Int)))))] : List Int)).size ≤ 9223372036854775807 then some ((t4 ++ (strOfNums ([(w8 (u64 ((48 : Int) + (p0.tmod (10 : Int)))))] : List Int))))
    else none
def spot_natural (k : Nat) (p0 : Int) : Option ByteArray := spot_natural_r k k p0
theorem spot_natural_spec' (k : Nat) : ∀ (j : Nat) (p0 : Int) (r : ByteArray), spot_natural_r k j p0 = some r → Spec Try.prog 80 [(eU64 p0)] (eStr r) := by
  intro j
  induction j with
  | zero => intro p0 r h; rw [spot_natural_r.eq_1] at h; cases h
  | succ j hself =>
  intro p0 r h
  rw [spot_natural_r.eq_2] at h
  generalize hs : spot_natural_r k j = self at h hself
  refine Spec.intro (res := [.tmp 2]) Try.func80 rfl rfl rfl (Nat.le_of_ble_eq_true rfl) ?_
  refine AW.sr ?_
  refine AO.c (Calm.assign rfl rfl) ?_
  refine AO.nK [0] ?_
  refine AW.seq ?_
  refine AW.sr ?_
  refine AO.c (Calm.move rfl rfl) ?_
  refine AO.c (x := eBool (decide (p0 < (10 : Int)))) (Calm.int rfl rfl rfl rfl) ?_
  refine AO.nK [0, 4] ?_
  rcases of_ite h with ⟨hc2, h⟩ | ⟨hc2, h⟩
  ·refine AW.condP _ rfl hc2 ?_
   refine AW.sr ?_
   refine AO.c (Calm.move rfl rfl) ?_
   refine AO.c (x := eU64 (u64 ((48 : Int) + p0))) (Calm.int rfl rfl rfl rfl) ?_
   refine AO.c (x := eU8 (w8 (u64 ((48 : Int) + p0)))) (Calm.conv rfl rfl Try.underlying83 Try.underlying5) ?_
   refine AO.lit (Z := (eU8 (0 : Int))) (xs := (([(w8 (u64 ((48 : Int) + p0)))] : List Int).map eU8)) (qs := [(0, (eU8 (w8 (u64 ((48 : Int) + p0)))))]) rfl 8 rfl (by decide) rfl ⟨rfl, rfl, rfl, trivial⟩ Try.underlying84 sz5 zr5 lay5 rfl (by decide) (litOK (z := 1) [(eU8 (w8 (u64 ((48 : Int) + p0))))] rfl ⟨⟨rfl, rfl⟩, trivial⟩) rfl fun n3 => ?_
   refine AO.c (x := eStr (strOfNums ([(w8 (u64 ((48 : Int) + p0)))] : List Int))) (Calm.strO 0 rfl rfl rfl Try.underlying84 Try.underlying9 Try.underlying5) ?_
   refine AO.c (Calm.assign rfl rfl) ?_
   refine AO.nH [2] (H' := []) (Sub.nil _) ?_
   refine AW.rK [2] ?_
   have hr := Option.some.inj h
   subst hr
   exact ⟨[(eStr (strOfNums ([(w8 (u64 ((48 : Int) + p0)))] : List Int)))], ⟨rfl, rfl, trivial⟩, rfl⟩
  ·refine AW.condN _ rfl hc2 ?_
   refine AW.sK [0] ?_
   refine AW.seq ?_
   obtain ⟨t4, et4, h⟩ := of_bind h
   obtain ⟨hg6, h⟩ := of_guard h
   refine AW.regAny (by rfl) (by decide +kernel) [(eU64 p0), (eU64 (IntKind.u64.wrap (p0.tdiv (10 : Int)))), (eStr t4), (eU64 p0), (eU64 (p0.tmod (10 : Int))), (eU64 (u64 ((48 : Int) + (p0.tmod (10 : Int))))), (eU8 (w8 (u64 ((48 : Int) + (p0.tmod (10 : Int)))))), (.fz 1 (([(w8 (u64 ((48 : Int) + (p0.tmod (10 : Int)))))] : List Int).map eU8)), (eStr (strOfNums ([(w8 (u64 ((48 : Int) + (p0.tmod (10 : Int)))))] : List Int))), (eStr (t4 ++ (strOfNums ([(w8 (u64 ((48 : Int) + (p0.tmod (10 : Int)))))] : List Int)))), (eStr (t4 ++ (strOfNums ([(w8 (u64 ((48 : Int) + (p0.tmod (10 : Int)))))] : List Int))))] [(0, (eU64 p0))] ⟨rfl, trivial⟩ rfl ?_ [(2, (eStr (t4 ++ (strOfNums ([(w8 (u64 ((48 : Int) + (p0.tmod (10 : Int)))))] : List Int)))))] [] ⟨rfl, trivial⟩ (Sub.refl _) ?_
   ·refine ⟨?_, ?_, ?_, ?_, ?_, ?_, ?_, ?_, ?_, ?_, ?_, trivial⟩
    ·refine AO.wK [0] ?_
     refine AO.c (Calm.move rfl rfl) ?_
     exact AO.nE (d := 10) rfl ⟨⟨_, rfl, rfl⟩, Sub.refl _⟩
    ·refine AO.wK [10] ?_
     refine AO.c (x := eU64 (IntKind.u64.wrap (p0.tdiv (10 : Int)))) (Calm.quo rfl rfl rfl (by decide)) ?_
     exact AO.nE (d := 11) rfl ⟨⟨_, rfl, rfl⟩, Sub.refl _⟩
    ·refine AO.wK [11] ?_
     refine AO.callS [(eU64 (IntKind.u64.wrap (p0.tdiv (10 : Int))))] (eStr t4) 12 rfl (by decide) ok80 rfl rfl rfl ⟨rfl, rfl, trivial⟩ (hself _ _ et4) ?_
     exact AO.nE (d := 12) rfl ⟨⟨_, rfl, rfl⟩, Sub.refl _⟩
    ·refine AO.wK [0] ?_
     refine AO.c (Calm.move rfl rfl) ?_
     exact AO.nE (d := 13) rfl ⟨⟨_, rfl, rfl⟩, Sub.refl _⟩
    ·refine AO.wK [13] ?_
     refine AO.c (x := eU64 (p0.tmod (10 : Int))) (Calm.rem rfl rfl rfl (by decide)) ?_
     exact AO.nE (d := 14) rfl ⟨⟨_, rfl, rfl⟩, Sub.refl _⟩
    ·refine AO.wK [14] ?_
     refine AO.c (x := eU64 (u64 ((48 : Int) + (p0.tmod (10 : Int))))) (Calm.int rfl rfl rfl rfl) ?_
     exact AO.nE (d := 15) rfl ⟨⟨_, rfl, rfl⟩, Sub.refl _⟩
    ·refine AO.wK [15] ?_
     refine AO.c (x := eU8 (w8 (u64 ((48 : Int) + (p0.tmod (10 : Int)))))) (Calm.conv rfl rfl Try.underlying83 Try.underlying5) ?_
     exact AO.nE (d := 16) rfl ⟨⟨_, rfl, rfl⟩, Sub.refl _⟩
    ·refine AO.wK [16] ?_
     refine AO.lit (Z := (eU8 (0 : Int))) (xs := (([(w8 (u64 ((48 : Int) + (p0.tmod (10 : Int)))))] : List Int).map eU8)) (qs := [(0, (eU8 (w8 (u64 ((48 : Int) + (p0.tmod (10 : Int)))))))]) rfl 17 rfl (by decide) rfl ⟨rfl, rfl, rfl, trivial⟩ Try.underlying84 sz5 zr5 lay5 rfl (by decide) (litOK (z := 1) [(eU8 (w8 (u64 ((48 : Int) + (p0.tmod (10 : Int))))))] rfl ⟨⟨rfl, rfl⟩, trivial⟩) rfl fun n5 => ?_
     refine AO.freezeS 0 [(17, (.fz 1 (([(w8 (u64 ((48 : Int) + (p0.tmod (10 : Int)))))] : List Int).map eU8)))] rfl ⟨fz_all rfl, trivial⟩ ?_
     exact AO.nE (d := 17) rfl ⟨⟨_, rfl, rfl⟩, Sub.refl _⟩
    ·refine AO.wK [17] ?_
     refine AO.c (x := eStr (strOfNums ([(w8 (u64 ((48 : Int) + (p0.tmod (10 : Int)))))] : List Int))) (Calm.strL rfl rfl Try.underlying84 Try.underlying9 Try.underlying5) ?_
     exact AO.nE (d := 18) rfl ⟨⟨_, rfl, rfl⟩, Sub.refl _⟩
    ·refine AO.wK [12, 18] ?_
     refine AO.c (x := eStr (t4 ++ (strOfNums ([(w8 (u64 ((48 : Int) + (p0.tmod (10 : Int)))))] : List Int)))) (Calm.cat rfl rfl rfl hg6) ?_
     exact AO.nE (d := 19) rfl ⟨⟨_, rfl, rfl⟩, Sub.refl _⟩
    ·refine AO.wK [19] ?_
     refine AO.c (Calm.assign rfl rfl) ?_
     exact AO.nE (d := 2) rfl ⟨⟨_, rfl, rfl⟩, Sub.refl _⟩
   ·refine AW.rK [2] ?_
    have hr := Option.some.inj h
    subst hr
    exact ⟨[(eStr (t4 ++ (strOfNums ([(w8 (u64 ((48 : Int) + (p0.tmod (10 : Int)))))] : List Int))))], ⟨rfl, rfl, trivial⟩, rfl⟩
theorem spot_natural_spec {k : Nat} {p0 : Int} {r : ByteArray} (h : spot_natural k p0 = some r) : Spec Try.prog 80 [(eU64 p0)] (eStr r) := spot_natural_spec' k k p0 r h
end Go.Avl.T2
/- bosket/spot.digits; printed by avmain.py. -/
namespace Go.Avl.T2
open Go Go.RowKit Go.Proofs Go.Avl
set_option linter.unusedVariables false
set_option maxRecDepth 100000
set_option maxHeartbeats 4000000
attribute [local irreducible] AW AO AQ Spec SpecH Calm

def spot_digits (k : Nat) (p0 : Int) : Option ByteArray :=
  if p0 < (0 : Int) then (spot_natural k (u64 (IntKind.i64.wrap (0 - p0)))).bind fun t3 =>
  if (ByteArray.mk #[45]).size + t3.size ≤ 9223372036854775807 then some (((ByteArray.mk #[45]) ++ t3))
  else none
  else (spot_natural k (u64 p0)).bind fun t5 =>
  some (t5)
theorem spot_digits_spec {k : Nat} {p0 : Int} {r : ByteArray} (h : spot_digits k p0 = some r) : Spec Try.prog 59 [(eI64 p0)] (eStr r) := by
  rw [spot_digits.eq_1] at h
  refine Spec.intro (res := [.tmp 2]) Try.func59 rfl rfl rfl (Nat.le_of_ble_eq_true rfl) ?_
  refine AW.sr ?_
  refine AO.c (Calm.assign rfl rfl) ?_
  refine AO.nK [0] ?_
  refine AW.seq ?_
  refine AW.sr ?_
  refine AO.c (Calm.move rfl rfl) ?_
  refine AO.c (x := eBool (decide (p0 < (0 : Int)))) (Calm.int rfl rfl rfl rfl) ?_
  refine AO.nK [0, 4] ?_
  rcases of_ite h with ⟨hc2, h⟩ | ⟨hc2, h⟩
  ·refine AW.condP _ rfl hc2 ?_
   refine AW.sr ?_
   refine AO.c (Calm.move rfl rfl) ?_
   refine AO.c (x := eI64 (IntKind.i64.wrap (0 - p0))) (Calm.neg rfl rfl) ?_
   refine AO.c (x := eU64 (u64 (IntKind.i64.wrap (0 - p0)))) (Calm.conv rfl rfl Try.underlying3 Try.underlying83) ?_
   obtain ⟨t3, et3, h⟩ := of_bind h
   refine AO.callS [(eU64 (u64 (IntKind.i64.wrap (0 - p0))))] (eStr t3) 8 rfl (by decide) ok80 rfl rfl rfl ⟨rfl, rfl, trivial⟩ (spot_natural_spec et3) ?_
   obtain ⟨hg4, h⟩ := of_guard h
   refine AO.c (x := eStr ((ByteArray.mk #[45]) ++ t3)) (Calm.cat rfl rfl rfl hg4) ?_
   refine AO.c (Calm.assign rfl rfl) ?_
   refine AO.nK [2] ?_
   refine AW.rK [2] ?_
   have hr := Option.some.inj h
   subst hr
   exact ⟨[(eStr ((ByteArray.mk #[45]) ++ t3))], ⟨rfl, rfl, trivial⟩, rfl⟩
  ·refine AW.condN _ rfl hc2 ?_
   refine AW.sK [0] ?_
   refine AW.sr ?_
   refine AO.c (Calm.move rfl rfl) ?_
   refine AO.c (x := eU64 (u64 p0)) (Calm.conv rfl rfl Try.underlying3 Try.underlying83) ?_
   obtain ⟨t5, et5, h⟩ := of_bind h
   refine AO.callS [(eU64 (u64 p0))] (eStr t5) 12 rfl (by decide) ok80 rfl rfl rfl ⟨rfl, rfl, trivial⟩ (spot_natural_spec et5) ?_
   refine AO.c (Calm.assign rfl rfl) ?_
   refine AO.nK [2] ?_
   refine AW.rK [2] ?_
   have hr := Option.some.inj h
   subst hr
   exact ⟨[(eStr t5)], ⟨rfl, rfl, trivial⟩, rfl⟩
end Go.Avl.T2
/- internal/stringslite.HasPrefix; printed by avmain.py. -/
namespace Go.Avl.T2
open Go Go.RowKit Go.Proofs Go.Avl
set_option linter.unusedVariables false
set_option maxRecDepth 100000
set_option maxHeartbeats 4000000
attribute [local irreducible] AW AO AQ Spec SpecH Calm

def internal_stringslite_HasPrefix (k : Nat) (p0 : ByteArray) (p1 : ByteArray) : Option Bool :=
  Option.bind (α := Bool) (if (p1.size : Int) ≤ (p0.size : Int) then if 0 ≤ (0 : Int) ∧ (0 : Int) ≤ (p1.size : Int) ∧ (p1.size : Int) ≤ (p0.size : Int) then some (decide ((p0.extract (0 : Int).toNat (p1.size : Int).toNat) = p1))
  else none
  else some (false)) fun b3 =>
  some (b3)
theorem internal_stringslite_HasPrefix_spec {k : Nat} {p0 : ByteArray} {p1 : ByteArray} {r : Bool} (h : internal_stringslite_HasPrefix k p0 p1 = some r) : Spec Try.prog 94 [(eStr p0), (eStr p1)] (eBool r) := by
  rw [internal_stringslite_HasPrefix.eq_1] at h
  refine Spec.intro (res := [.tmp 4]) Try.func94 rfl rfl rfl (Nat.le_of_ble_eq_true rfl) ?_
  refine AW.sr ?_
  refine AO.c (Calm.assign rfl rfl) ?_
  refine AO.nK [0, 1] ?_
  refine AW.seq ?_
  obtain ⟨b3, hq4, h⟩ := of_bind h
  refine AW.regM [(4, (eBool b3))] [] ?_ ?_
  ·refine AO.c (Calm.move rfl rfl) ?_
   refine AO.c (Calm.lenStr rfl rfl Try.underlying9) ?_
   refine AO.c (Calm.move rfl rfl) ?_
   refine AO.c (Calm.lenStr rfl rfl Try.underlying9) ?_
   refine AO.c (x := eBool (decide ((p1.size : Int) ≤ (p0.size : Int)))) (Calm.int rfl rfl rfl rfl) ?_
   refine AO.c (Calm.move rfl rfl) ?_
   rcases of_ite hq4 with ⟨hc5, hq4⟩ | ⟨hc5, hq4⟩
   ·refine AO.cG rfl rfl (bD (decide_eq_true hc5)) (Calm.move rfl rfl) ?_
    refine AO.cG rfl rfl (bD (decide_eq_true hc5)) (Calm.move rfl rfl) ?_
    refine AO.cG rfl rfl (bD (decide_eq_true hc5)) (Calm.lenStr rfl rfl Try.underlying9) ?_
    obtain ⟨hg6, hq4⟩ := of_guard hq4
    refine AO.cG (x := eStr (p0.extract (0 : Int).toNat (p1.size : Int).toNat)) rfl rfl (bD (decide_eq_true hc5)) (Calm.sliceS rfl rfl rfl rfl hg6 Try.underlying9) ?_
    refine AO.cG rfl rfl (bD (decide_eq_true hc5)) (Calm.move rfl rfl) ?_
    refine AO.cG (x := eBool (decide ((p0.extract (0 : Int).toNat (p1.size : Int).toNat) = p1))) rfl rfl (bD (decide_eq_true hc5)) (Calm.str rfl rfl rfl rfl) ?_
    refine AO.c (Calm.pickT rfl (bD (decide_eq_true hc5)) rfl) ?_
    refine AO.c (Calm.assign rfl rfl) ?_
    cases hq4
    refine AO.nilE ⟨rfl, rfl⟩ ?_ ?_
    · exact ⟨rfl, trivial⟩
    · exact (Sub.refl _)
   ·refine AO.sT rfl rfl (bD (decide_eq_false hc5)) ?_
    refine AO.sT rfl rfl (bD (decide_eq_false hc5)) ?_
    refine AO.sT rfl rfl (bD (decide_eq_false hc5)) ?_
    refine AO.sT rfl rfl (bD (decide_eq_false hc5)) ?_
    refine AO.sT rfl rfl (bD (decide_eq_false hc5)) ?_
    refine AO.sT rfl rfl (bD (decide_eq_false hc5)) ?_
    refine AO.c (Calm.pickF rfl (bD (decide_eq_false hc5)) rfl) ?_
    refine AO.c (Calm.assign rfl rfl) ?_
    cases hq4
    refine AO.nilE ⟨rfl, rfl⟩ ?_ ?_
    · exact ⟨rfl, trivial⟩
    · exact (Sub.refl _)
  ·refine AW.rK [4] ?_
   have hr := Option.some.inj h
   subst hr
   exact ⟨[(eBool b3)], ⟨rfl, rfl, trivial⟩, rfl⟩
end Go.Avl.T2
/- internal/stringslite.CutPrefix; printed by avmain.py. -/
namespace Go.Avl.T2
open Go Go.RowKit Go.Proofs Go.Avl
set_option linter.unusedVariables false
set_option maxRecDepth 100000
set_option maxHeartbeats 4000000
attribute [local irreducible] AW AO AQ Spec SpecH Calm

def internal_stringslite_CutPrefix (k : Nat) (p0 : ByteArray) (p1 : ByteArray) : Option (ByteArray × Bool) :=
  (internal_stringslite_HasPrefix k p0 p1).bind fun t3 =>
  if (!t3) = true then some (p0, false)
  else if 0 ≤ (p1.size : Int) ∧ (p1.size : Int) ≤ (p0.size : Int) ∧ (p0.size : Int) ≤ (p0.size : Int) then some ((p0.extract (p1.size : Int).toNat (p0.size : Int).toNat), true)
  else none
theorem internal_stringslite_CutPrefix_spec {k : Nat} {p0 : ByteArray} {p1 : ByteArray} {r : (ByteArray × Bool)} (h : internal_stringslite_CutPrefix k p0 p1 = some r) : Spec Try.prog 79 [(eStr p0), (eStr p1)] (.tup [(eStr r.1), (eBool r.2)]) := by
  rw [internal_stringslite_CutPrefix.eq_1] at h
  refine Spec.intro (res := [.tmp 4, .tmp 5]) Try.func79 rfl rfl rfl (Nat.le_of_ble_eq_true rfl) ?_
  refine AW.sr ?_
  refine AO.c (Calm.assign rfl rfl) ?_
  refine AO.c (Calm.assign rfl rfl) ?_
  refine AO.nK [0, 1] ?_
  refine AW.seq ?_
  refine AW.sr ?_
  refine AO.c (Calm.move rfl rfl) ?_
  refine AO.c (Calm.move rfl rfl) ?_
  obtain ⟨t3, et3, h⟩ := of_bind h
  refine AO.callS [(eStr p0), (eStr p1)] (eBool t3) 8 rfl (by decide) ok94 rfl rfl rfl ⟨rfl, rfl, rfl, rfl, trivial⟩ (internal_stringslite_HasPrefix_spec et3) ?_
  refine AO.c (Calm.not rfl rfl) ?_
  refine AO.nK [0, 1, 9] ?_
  rcases of_ite h with ⟨hc4, h⟩ | ⟨hc4, h⟩
  ·refine AW.condT' _ rfl hc4 ?_
   refine AW.sr ?_
   refine AO.c (Calm.move rfl rfl) ?_
   refine AO.c (Calm.assign rfl rfl) ?_
   refine AO.c (Calm.assign rfl rfl) ?_
   refine AO.nK [4, 5] ?_
   refine AW.rK [4, 5] ?_
   have hr := Option.some.inj h
   subst hr
   exact ⟨[(eStr p0), (eBool false)], ⟨rfl, rfl, rfl, rfl, trivial⟩, rfl⟩
  ·refine AW.condF' _ rfl hc4 ?_
   refine AW.sK [0, 1] ?_
   refine AW.sr ?_
   refine AO.c (Calm.move rfl rfl) ?_
   refine AO.c (Calm.move rfl rfl) ?_
   refine AO.c (Calm.lenStr rfl rfl Try.underlying9) ?_
   obtain ⟨hg5, h⟩ := of_guard h
   refine AO.c (x := eStr (p0.extract (p1.size : Int).toNat (p0.size : Int).toNat)) (Calm.sliceS rfl rfl rfl rfl hg5 Try.underlying9) ?_
   refine AO.c (Calm.assign rfl rfl) ?_
   refine AO.c (Calm.assign rfl rfl) ?_
   refine AO.nK [4, 5] ?_
   refine AW.rK [4, 5] ?_
   have hr := Option.some.inj h
   subst hr
   exact ⟨[(eStr (p0.extract (p1.size : Int).toNat (p0.size : Int).toNat)), (eBool true)], ⟨rfl, rfl, rfl, rfl, trivial⟩, rfl⟩
end Go.Avl.T2
/- strings.CutPrefix; printed by avmain.py. -/
namespace Go.Avl.T2
open Go Go.RowKit Go.Proofs Go.Avl
set_option linter.unusedVariables false
set_option maxRecDepth 100000
set_option maxHeartbeats 4000000
attribute [local irreducible] AW AO AQ Spec SpecH Calm

def strings_CutPrefix (k : Nat) (p0 : ByteArray) (p1 : ByteArray) : Option (ByteArray × Bool) :=
  (internal_stringslite_CutPrefix k p0 p1).bind fun t3 =>
  some (t3.1, t3.2)
theorem strings_CutPrefix_spec {k : Nat} {p0 : ByteArray} {p1 : ByteArray} {r : (ByteArray × Bool)} (h : strings_CutPrefix k p0 p1 = some r) : Spec Try.prog 58 [(eStr p0), (eStr p1)] (.tup [(eStr r.1), (eBool r.2)]) := by
  rw [strings_CutPrefix.eq_1] at h
  refine Spec.intro (res := [.tmp 4, .tmp 5]) Try.func58 rfl rfl rfl (Nat.le_of_ble_eq_true rfl) ?_
  refine AW.sr ?_
  refine AO.c (Calm.assign rfl rfl) ?_
  refine AO.c (Calm.assign rfl rfl) ?_
  refine AO.nK [0, 1] ?_
  refine AW.sr ?_
  refine AO.c (Calm.move rfl rfl) ?_
  refine AO.c (Calm.move rfl rfl) ?_
  obtain ⟨t3, et3, h⟩ := of_bind h
  refine AO.callS [(eStr p0), (eStr p1)] (.tup [(eStr t3.1), (eBool t3.2)]) 8 rfl (by decide) ok79 rfl rfl rfl ⟨rfl, rfl, rfl, rfl, trivial⟩ (internal_stringslite_CutPrefix_spec et3) ?_
  refine AO.c (Calm.extract rfl rfl rfl) ?_
  refine AO.c (Calm.extract rfl rfl rfl) ?_
  refine AO.c (Calm.assign rfl rfl) ?_
  refine AO.c (Calm.assign rfl rfl) ?_
  refine AO.nK [4, 5] ?_
  refine AW.rK [4, 5] ?_
  have hr := Option.some.inj h
  subst hr
  exact ⟨[(eStr t3.1), (eBool t3.2)], ⟨rfl, rfl, rfl, rfl, trivial⟩, rfl⟩
end Go.Avl.T2
/- bosket/spot.Number; printed by avmain.py. -/
namespace Go.Avl.T2
open Go Go.RowKit Go.Proofs Go.Avl
set_option linter.unusedVariables false
set_option maxRecDepth 100000
set_option maxHeartbeats 4000000
attribute [local irreducible] AW AO AQ Spec SpecH Calm

def spot_Number_c0 (k : Nat) (t2 : (ByteArray × Bool)) (x11 : Int) : Option (Int × Bool) :=
  Option.bind (α := Bool) (if t2.2 = true then some (decide (x11 ≤ (9223372036854775808 : Int)))
  else some (false)) fun b12 =>
  if b12 = true then some ((w64 (IntKind.u64.wrap (0 - x11))), true)
  else Option.bind (α := Bool) (if (!t2.2) = true then some (decide (x11 < (9223372036854775808 : Int)))
  else some (false)) fun b16 =>
  if b16 = true then some ((w64 x11), true)
  else some ((0 : Int), false)
def spot_Number_l1 (k : Nat) (t2 : (ByteArray × Bool)) : Nat → Int → Int → Option (Int × Bool)
  | 0, _, _ => none
  | j + 1, x20, x21 =>
    if x21 < (t2.1.size : Int) then Option.bind (α := Bool) (if 0 ≤ x21 ∧ x21 < (t2.1.size : Int) then if (byteAt t2.1 x21) < (48 : Int) then some (true)
    else if 0 ≤ x21 ∧ x21 < (t2.1.size : Int) then some (decide ((57 : Int) < (byteAt t2.1 x21)))
    else none
    else none) fun b25 =>
    if b25 = true then some ((0 : Int), false)
    else if 0 ≤ x21 ∧ x21 < (t2.1.size : Int) then (some (u64 ((u64 (x20 * (10 : Int))) + (u64 (w8 ((byteAt t2.1 x21) - (48 : Int))))))).bind fun x32 =>
    (spot_Number_l1 k t2 j) x32 (w64 (x21 + (1 : Int)))
    else none
    else spot_Number_c0 k t2 x20
def spot_Number (k : Nat) (p0 : ByteArray) : Option (Int × Bool) :=
  (strings_CutPrefix k p0 (ByteArray.mk #[45])).bind fun t2 =>
  Option.bind (α := Bool) (if t2.1 = (ByteArray.mk #[]) then some (true)
  else if (19 : Int) < (t2.1.size : Int) then some (true)
  else if 0 ≤ (0 : Int) ∧ (0 : Int) < (t2.1.size : Int) then if (byteAt t2.1 (0 : Int)) = (48 : Int) then if t2.2 = true then some (true)
  else some (decide ((1 : Int) < (t2.1.size : Int)))
  else some (false)
  else none) fun b3 =>
  if b3 = true then some ((0 : Int), false)
  else spot_Number_l1 k t2 k (0 : Int) (0 : Int)
theorem spot_Number_spec {k : Nat} {p0 : ByteArray} {r : (Int × Bool)} (h : spot_Number k p0 = some r) : Spec Try.prog 16 [(eStr p0)] (.tup [(eI64 r.1), (eBool r.2)]) := by
  rw [spot_Number.eq_1] at h
  refine Spec.intro (res := [.tmp 2, .tmp 3]) Try.func16 rfl rfl rfl (Nat.le_of_ble_eq_true rfl) ?_
  refine AW.sr ?_
  refine AO.c (Calm.assign rfl rfl) ?_
  refine AO.c (Calm.assign rfl rfl) ?_
  refine AO.nK [0] ?_
  refine AW.sr ?_
  refine AO.c (Calm.move rfl rfl) ?_
  obtain ⟨t2, et2, h⟩ := of_bind h
  refine AO.callS [(eStr p0), (eStr (ByteArray.mk #[45]))] (.tup [(eStr t2.1), (eBool t2.2)]) 10 rfl (by decide) ok58 rfl rfl rfl ⟨rfl, rfl, rfl, rfl, trivial⟩ (strings_CutPrefix_spec et2) ?_
  refine AO.c (Calm.move rfl rfl) ?_
  refine AO.c (Calm.extract rfl rfl rfl) ?_
  refine AO.c (Calm.extract rfl rfl rfl) ?_
  refine AO.c (Calm.assign rfl rfl) ?_
  refine AO.c (Calm.assign rfl rfl) ?_
  refine AO.nK [4, 5] ?_
  refine AW.sr ?_
  refine AO.c (Calm.assign rfl rfl) ?_
  refine AO.nK [4, 5, 6] ?_
  refine AW.seq ?_
  refine AW.seq ?_
  obtain ⟨b3, hq4, h⟩ := of_bind h
  refine AW.regM [(4, (eStr t2.1)), (5, (eBool t2.2)), (6, (eU64 (0 : Int))), (32, (eBool b3))] [] ?_ ?_
  ·refine AO.c (Calm.move rfl rfl) ?_
   refine AO.c (x := eBool (decide (t2.1 = (ByteArray.mk #[])))) (Calm.str rfl rfl rfl rfl) ?_
   refine AO.c (Calm.move rfl rfl) ?_
   rcases of_ite hq4 with ⟨hc5, hq4⟩ | ⟨hc5, hq4⟩
   ·refine AO.sF rfl rfl (bD (decide_eq_true hc5)) ?_
    refine AO.sF rfl rfl (bD (decide_eq_true hc5)) ?_
    refine AO.sF rfl rfl (bD (decide_eq_true hc5)) ?_
    refine AO.c (Calm.pickT rfl (bD (decide_eq_true hc5)) rfl) ?_
    refine AO.c (Calm.move rfl rfl) ?_
    refine AO.sF rfl rfl rfl ?_
    refine AO.sF rfl rfl rfl ?_
    refine AO.sF rfl rfl rfl ?_
    refine AO.sF rfl rfl rfl ?_
    refine AO.sU rfl rfl rfl ?_
    refine AO.sU rfl rfl rfl ?_
    refine AO.sU rfl rfl rfl ?_
    refine AO.sU rfl rfl rfl ?_
    refine AO.sU rfl rfl rfl ?_
    refine AO.sU rfl rfl rfl ?_
    refine AO.sF rfl rfl rfl ?_
    refine AO.c (Calm.pickT rfl rfl rfl) ?_
    cases hq4
    refine AO.nilE ⟨rfl, rfl⟩ ?_ ?_
    · exact ⟨rfl, rfl, rfl, rfl, trivial⟩
    · exact (Sub.refl _)
   ·refine AO.cG rfl rfl (bD (decide_eq_false hc5)) (Calm.move rfl rfl) ?_
    refine AO.cG rfl rfl (bD (decide_eq_false hc5)) (Calm.lenStr rfl rfl Try.underlying9) ?_
    refine AO.cG (x := eBool (decide ((19 : Int) < (t2.1.size : Int)))) rfl rfl (bD (decide_eq_false hc5)) (Calm.int rfl rfl rfl rfl) ?_
    refine AO.c (Calm.pickF rfl (bD (decide_eq_false hc5)) rfl) ?_
    refine AO.c (Calm.move rfl rfl) ?_
    rcases of_ite hq4 with ⟨hc6, hq4⟩ | ⟨hc6, hq4⟩
    ·refine AO.sF rfl rfl (bD (decide_eq_true hc6)) ?_
     refine AO.sF rfl rfl (bD (decide_eq_true hc6)) ?_
     refine AO.sF rfl rfl (bD (decide_eq_true hc6)) ?_
     refine AO.sF rfl rfl (bD (decide_eq_true hc6)) ?_
     refine AO.sU rfl rfl rfl ?_
     refine AO.sU rfl rfl rfl ?_
     refine AO.sU rfl rfl rfl ?_
     refine AO.sU rfl rfl rfl ?_
     refine AO.sU rfl rfl rfl ?_
     refine AO.sU rfl rfl rfl ?_
     refine AO.sF rfl rfl (bD (decide_eq_true hc6)) ?_
     refine AO.c (Calm.pickT rfl (bD (decide_eq_true hc6)) rfl) ?_
     cases hq4
     refine AO.nilE ⟨rfl, rfl⟩ ?_ ?_
     · exact ⟨rfl, rfl, rfl, rfl, trivial⟩
     · exact (Sub.refl _)
    ·refine AO.cG rfl rfl (bD (decide_eq_false hc6)) (Calm.move rfl rfl) ?_
     obtain ⟨hg7, hq4⟩ := of_guard hq4
     refine AO.cG (x := eU8 (byteAt t2.1 (0 : Int))) rfl rfl (bD (decide_eq_false hc6)) (Calm.idxS rfl rfl rfl hg7 Try.underlying9) ?_
     refine AO.cG (x := eBool (decide ((byteAt t2.1 (0 : Int)) = (48 : Int)))) rfl rfl (bD (decide_eq_false hc6)) (Calm.int rfl rfl rfl rfl) ?_
     refine AO.cG rfl rfl (bD (decide_eq_false hc6)) (Calm.move rfl rfl) ?_
     rcases of_ite hq4 with ⟨hc8, hq4⟩ | ⟨hc8, hq4⟩
     ·refine AO.cG rfl rfl (bD (decide_eq_true hc8)) (Calm.move rfl rfl) ?_
      refine AO.cG rfl rfl (bD (decide_eq_true hc8)) (Calm.move rfl rfl) ?_
      rcases of_ite hq4 with ⟨hc9, hq4⟩ | ⟨hc9, hq4⟩
      ·refine AO.sF rfl rfl (bD hc9) ?_
       refine AO.sF rfl rfl (bD hc9) ?_
       refine AO.sF rfl rfl (bD hc9) ?_
       refine AO.cG rfl rfl (bD (decide_eq_true hc8)) (Calm.pickT rfl (bD hc9) rfl) ?_
       refine AO.cG rfl rfl (bD (decide_eq_false hc6)) (Calm.pickT rfl (bD (decide_eq_true hc8)) rfl) ?_
       refine AO.c (Calm.pickF rfl (bD (decide_eq_false hc6)) rfl) ?_
       cases hq4
       refine AO.nilE ⟨rfl, rfl⟩ ?_ ?_
       · exact ⟨rfl, rfl, rfl, rfl, trivial⟩
       · exact (Sub.refl _)
      ·refine AO.cG rfl rfl (bD (eq_false_of_ne_true hc9)) (Calm.move rfl rfl) ?_
       refine AO.cG rfl rfl (bD (eq_false_of_ne_true hc9)) (Calm.lenStr rfl rfl Try.underlying9) ?_
       refine AO.cG (x := eBool (decide ((1 : Int) < (t2.1.size : Int)))) rfl rfl (bD (eq_false_of_ne_true hc9)) (Calm.int rfl rfl rfl rfl) ?_
       refine AO.cG rfl rfl (bD (decide_eq_true hc8)) (Calm.pickF rfl (bD (eq_false_of_ne_true hc9)) rfl) ?_
       refine AO.cG rfl rfl (bD (decide_eq_false hc6)) (Calm.pickT rfl (bD (decide_eq_true hc8)) rfl) ?_
       refine AO.c (Calm.pickF rfl (bD (decide_eq_false hc6)) rfl) ?_
       cases hq4
       refine AO.nilE ⟨rfl, rfl⟩ ?_ ?_
       · exact ⟨rfl, rfl, rfl, rfl, trivial⟩
       · exact (Sub.refl _)
     ·refine AO.sT rfl rfl (bD (decide_eq_false hc8)) ?_
      refine AO.sT rfl rfl (bD (decide_eq_false hc8)) ?_
      refine AO.sU rfl rfl rfl ?_
      refine AO.sU rfl rfl rfl ?_
      refine AO.sU rfl rfl rfl ?_
      refine AO.sT rfl rfl (bD (decide_eq_false hc8)) ?_
      refine AO.cG rfl rfl (bD (decide_eq_false hc6)) (Calm.pickF rfl (bD (decide_eq_false hc8)) rfl) ?_
      refine AO.c (Calm.pickF rfl (bD (decide_eq_false hc6)) rfl) ?_
      cases hq4
      refine AO.nilE ⟨rfl, rfl⟩ ?_ ?_
      · exact ⟨rfl, rfl, rfl, rfl, trivial⟩
      · exact (Sub.refl _)
  ·rcases of_ite h with ⟨hc10, h⟩ | ⟨hc10, h⟩
   ·refine AW.condT' _ rfl hc10 ?_
    refine AW.sr ?_
    refine AO.c (Calm.assign rfl rfl) ?_
    refine AO.c (Calm.assign rfl rfl) ?_
    refine AO.nK [2, 3] ?_
    refine AW.rK [2, 3] ?_
    have hr := Option.some.inj h
    subst hr
    exact ⟨[(eI64 (0 : Int)), (eBool false)], ⟨rfl, rfl, rfl, rfl, trivial⟩, rfl⟩
   ·refine AW.condF' _ rfl hc10 ?_
    refine AW.sK [4, 5, 6] ?_
    refine AW.seq_mid (fun ρ H => ∃ (x11 : Int), ρ = [(5, (eBool t2.2)), (6, (eU64 x11))] ∧ H = [] ∧ spot_Number_c0 k t2 x11 = some r) ?_ ?_
    ·refine AW.sr ?_
     refine AO.c (Calm.move rfl rfl) ?_
     refine AO.c (Calm.lenStr rfl rfl Try.underlying9) ?_
     refine AO.c (Calm.move rfl rfl) ?_
     refine AO.nK [4, 5, 6, 34, 35] ?_
     refine AW.block ?_
     refine AW.wK [4, 5, 6, 34, 35] ?_
     refine AW.loop (fun kq ρ H => ∃ (x20 : Int) (x21 : Int), ρ = [(4, (eStr t2.1)), (5, (eBool t2.2)), (6, (eU64 x20)), (34, (eI64 (t2.1.size : Int))), (35, (eI64 x21))] ∧ H = [] ∧ spot_Number_l1 k t2 kq x20 x21 = some r) k ⟨(0 : Int), (0 : Int), rfl, rfl, h⟩ ?_
     rintro kq23 _ _ ⟨x20, x21, rfl, rfl, h⟩
     cases kq23 with
     | zero => rw [spot_Number_l1.eq_1] at h; cases h
     | succ kq23 =>
     rw [spot_Number_l1.eq_2] at h
     generalize hrec22 : spot_Number_l1 k t2 kq23 = rec22 at h
     refine AW.sr ?_
     refine AO.c (x := eBool (decide (x21 < (t2.1.size : Int)))) (Calm.int rfl rfl rfl rfl) ?_
     refine AO.nK [4, 5, 6, 34, 35, 36] ?_
     refine AW.seq ?_
     rcases of_ite h with ⟨hc24, h⟩ | ⟨hc24, h⟩
     ·refine AW.condP _ rfl hc24 ?_
      refine AW.sK [4, 5, 6, 34, 35] ?_
      refine AW.seq ?_
      refine AW.block ?_
      refine AW.sr ?_
      refine AO.c (Calm.move rfl rfl) ?_
      refine AO.c (Calm.assign rfl rfl) ?_
      refine AO.nK [4, 5, 6, 7, 34, 35] ?_
      refine AW.seq ?_
      refine AW.seq ?_
      obtain ⟨b25, hq26, h⟩ := of_bind h
      refine AW.regM [(4, (eStr t2.1)), (5, (eBool t2.2)), (6, (eU64 x20)), (7, (eI64 x21)), (34, (eI64 (t2.1.size : Int))), (35, (eI64 x21)), (47, (eBool b25))] [] ?_ ?_
      ·refine AO.c (Calm.move rfl rfl) ?_
       refine AO.c (Calm.move rfl rfl) ?_
       obtain ⟨hg27, hq26⟩ := of_guard hq26
       refine AO.c (x := eU8 (byteAt t2.1 x21)) (Calm.idxS rfl rfl rfl hg27 Try.underlying9) ?_
       refine AO.c (x := eBool (decide ((byteAt t2.1 x21) < (48 : Int)))) (Calm.int rfl rfl rfl rfl) ?_
       refine AO.c (Calm.move rfl rfl) ?_
       rcases of_ite hq26 with ⟨hc28, hq26⟩ | ⟨hc28, hq26⟩
       ·refine AO.sF rfl rfl (bD (decide_eq_true hc28)) ?_
        refine AO.sF rfl rfl (bD (decide_eq_true hc28)) ?_
        refine AO.sF rfl rfl (bD (decide_eq_true hc28)) ?_
        refine AO.sF rfl rfl (bD (decide_eq_true hc28)) ?_
        refine AO.c (Calm.pickT rfl (bD (decide_eq_true hc28)) rfl) ?_
        cases hq26
        refine AO.nilE ⟨rfl, rfl⟩ ?_ ?_
        · exact ⟨rfl, rfl, rfl, rfl, rfl, rfl, rfl, trivial⟩
        · exact (Sub.refl _)
       ·refine AO.cG rfl rfl (bD (decide_eq_false hc28)) (Calm.move rfl rfl) ?_
        refine AO.cG rfl rfl (bD (decide_eq_false hc28)) (Calm.move rfl rfl) ?_
        obtain ⟨hg29, hq26⟩ := of_guard hq26
        refine AO.cG (x := eU8 (byteAt t2.1 x21)) rfl rfl (bD (decide_eq_false hc28)) (Calm.idxS rfl rfl rfl hg29 Try.underlying9) ?_
        refine AO.cG (x := eBool (decide ((57 : Int) < (byteAt t2.1 x21)))) rfl rfl (bD (decide_eq_false hc28)) (Calm.int rfl rfl rfl rfl) ?_
        refine AO.c (Calm.pickF rfl (bD (decide_eq_false hc28)) rfl) ?_
        cases hq26
        refine AO.nilE ⟨rfl, rfl⟩ ?_ ?_
        · exact ⟨rfl, rfl, rfl, rfl, rfl, rfl, rfl, trivial⟩
        · exact (Sub.refl _)
      ·rcases of_ite h with ⟨hc30, h⟩ | ⟨hc30, h⟩
       ·refine AW.condT' _ rfl hc30 ?_
        refine AW.sr ?_
        refine AO.c (Calm.assign rfl rfl) ?_
        refine AO.c (Calm.assign rfl rfl) ?_
        refine AO.nK [2, 3] ?_
        refine AW.rK [2, 3] ?_
        have hr := Option.some.inj h
        subst hr
        exact ⟨[(eI64 (0 : Int)), (eBool false)], ⟨rfl, rfl, rfl, rfl, trivial⟩, rfl⟩
       ·refine AW.condF' _ rfl hc30 ?_
        refine AW.sK [4, 5, 6, 7, 34, 35] ?_
        refine AW.reg ?_
        refine AO.c (Calm.move rfl rfl) ?_
        refine AO.c (x := eU64 (u64 (x20 * (10 : Int)))) (Calm.int rfl rfl rfl rfl) ?_
        refine AO.c (Calm.move rfl rfl) ?_
        refine AO.c (Calm.move rfl rfl) ?_
        obtain ⟨hg31, h⟩ := of_guard h
        refine AO.c (x := eU8 (byteAt t2.1 x21)) (Calm.idxS rfl rfl rfl hg31 Try.underlying9) ?_
        refine AO.c (x := eU8 (w8 ((byteAt t2.1 x21) - (48 : Int)))) (Calm.int rfl rfl rfl rfl) ?_
        refine AO.c (x := eU64 (u64 (w8 ((byteAt t2.1 x21) - (48 : Int))))) (Calm.conv rfl rfl Try.underlying5 Try.underlying83) ?_
        refine AO.c (x := eU64 (u64 ((u64 (x20 * (10 : Int))) + (u64 (w8 ((byteAt t2.1 x21) - (48 : Int))))))) (Calm.int rfl rfl rfl rfl) ?_
        obtain ⟨x32, ex32, h⟩ := of_bind h
        refine AO.c (Calm.assign rfl (congrArg (fun x => some (eU64 x)) (Option.some.inj ex32))) ?_
        refine AO.nK [4, 5, 6, 34, 35] ?_
        refine AW.reg ?_
        refine AO.c (x := eI64 (w64 (x21 + (1 : Int)))) (Calm.int rfl rfl rfl rfl) ?_
        refine AO.c (Calm.move rfl rfl) ?_
        refine AO.nK [4, 5, 6, 34, 35] ?_
        exact ⟨kq23, Nat.lt_succ_self _, x32, (w64 (x21 + (1 : Int))), rfl, rfl, by rw [hrec22]; exact h⟩
     ·refine AW.condN _ rfl hc24 ?_
      refine AW.eK [5, 6] ?_
      exact ⟨x20, rfl, rfl, h⟩
    ·rintro _ _ ⟨x11, rfl, rfl, h⟩
     rw [spot_Number_c0.eq_1] at h
     refine AW.seq ?_
     refine AW.block ?_
     refine AW.seq ?_
     obtain ⟨b12, hq13, h⟩ := of_bind h
     refine AW.regM [(5, (eBool t2.2)), (6, (eU64 x11)), (57, (eBool b12))] [] ?_ ?_
     ·refine AO.c (Calm.move rfl rfl) ?_
      refine AO.c (Calm.move rfl rfl) ?_
      rcases of_ite hq13 with ⟨hc14, hq13⟩ | ⟨hc14, hq13⟩
      ·refine AO.cG rfl rfl (bD hc14) (Calm.move rfl rfl) ?_
       refine AO.cG (x := eBool (decide (x11 ≤ (9223372036854775808 : Int)))) rfl rfl (bD hc14) (Calm.int rfl rfl rfl rfl) ?_
       refine AO.c (Calm.pickT rfl (bD hc14) rfl) ?_
       refine AO.c (Calm.assign rfl rfl) ?_
       cases hq13
       refine AO.nilE ⟨rfl, rfl⟩ ?_ ?_
       · exact ⟨rfl, rfl, rfl, trivial⟩
       · exact (Sub.refl _)
      ·refine AO.sT rfl rfl (bD (eq_false_of_ne_true hc14)) ?_
       refine AO.sT rfl rfl (bD (eq_false_of_ne_true hc14)) ?_
       refine AO.c (Calm.pickF rfl (bD (eq_false_of_ne_true hc14)) rfl) ?_
       refine AO.c (Calm.assign rfl rfl) ?_
       cases hq13
       refine AO.nilE ⟨rfl, rfl⟩ ?_ ?_
       · exact ⟨rfl, rfl, rfl, trivial⟩
       · exact (Sub.refl _)
     ·rcases of_ite h with ⟨hc15, h⟩ | ⟨hc15, h⟩
      ·refine AW.condT' _ rfl hc15 ?_
       refine AW.sr ?_
       refine AO.c (Calm.move rfl rfl) ?_
       refine AO.c (x := eU64 (IntKind.u64.wrap (0 - x11))) (Calm.neg rfl rfl) ?_
       refine AO.c (x := eI64 (w64 (IntKind.u64.wrap (0 - x11)))) (Calm.conv rfl rfl Try.underlying83 Try.underlying3) ?_
       refine AO.c (Calm.assign rfl rfl) ?_
       refine AO.c (Calm.assign rfl rfl) ?_
       refine AO.nK [2, 3] ?_
       refine AW.rK [2, 3] ?_
       have hr := Option.some.inj h
       subst hr
       exact ⟨[(eI64 (w64 (IntKind.u64.wrap (0 - x11)))), (eBool true)], ⟨rfl, rfl, rfl, rfl, trivial⟩, rfl⟩
      ·refine AW.condF' _ rfl hc15 ?_
       refine AW.seq ?_
       obtain ⟨b16, hq17, h⟩ := of_bind h
       refine AW.regM [(6, (eU64 x11)), (66, (eBool b16))] [] ?_ ?_
       ·refine AO.c (Calm.move rfl rfl) ?_
        refine AO.c (Calm.not rfl rfl) ?_
        refine AO.c (Calm.move rfl rfl) ?_
        rcases of_ite hq17 with ⟨hc18, hq17⟩ | ⟨hc18, hq17⟩
        ·refine AO.cG rfl rfl (bD hc18) (Calm.move rfl rfl) ?_
         refine AO.cG (x := eBool (decide (x11 < (9223372036854775808 : Int)))) rfl rfl (bD hc18) (Calm.int rfl rfl rfl rfl) ?_
         refine AO.c (Calm.pickT rfl (bD hc18) rfl) ?_
         refine AO.c (Calm.assign rfl rfl) ?_
         cases hq17
         refine AO.nilE ⟨rfl, rfl⟩ ?_ ?_
         · exact ⟨rfl, rfl, trivial⟩
         · exact (Sub.refl _)
        ·refine AO.sT rfl rfl (bD (eq_false_of_ne_true hc18)) ?_
         refine AO.sT rfl rfl (bD (eq_false_of_ne_true hc18)) ?_
         refine AO.c (Calm.pickF rfl (bD (eq_false_of_ne_true hc18)) rfl) ?_
         refine AO.c (Calm.assign rfl rfl) ?_
         cases hq17
         refine AO.nilE ⟨rfl, rfl⟩ ?_ ?_
         · exact ⟨rfl, rfl, trivial⟩
         · exact (Sub.refl _)
       ·rcases of_ite h with ⟨hc19, h⟩ | ⟨hc19, h⟩
        ·refine AW.condT' _ rfl hc19 ?_
         refine AW.sr ?_
         refine AO.c (Calm.move rfl rfl) ?_
         refine AO.c (x := eI64 (w64 x11)) (Calm.conv rfl rfl Try.underlying83 Try.underlying3) ?_
         refine AO.c (Calm.assign rfl rfl) ?_
         refine AO.c (Calm.assign rfl rfl) ?_
         refine AO.nK [2, 3] ?_
         refine AW.rK [2, 3] ?_
         have hr := Option.some.inj h
         subst hr
         exact ⟨[(eI64 (w64 x11)), (eBool true)], ⟨rfl, rfl, rfl, rfl, trivial⟩, rfl⟩
        ·refine AW.condF' _ rfl hc19 ?_
         refine AW.sK [] ?_
         refine AW.sr ?_
         refine AO.c (Calm.assign rfl rfl) ?_
         refine AO.c (Calm.assign rfl rfl) ?_
         refine AO.nK [2, 3] ?_
         refine AW.rK [2, 3] ?_
         have hr := Option.some.inj h
         subst hr
         exact ⟨[(eI64 (0 : Int)), (eBool false)], ⟨rfl, rfl, rfl, rfl, trivial⟩, rfl⟩
end Go.Avl.T2
/- bosket/bosketref13.Number; printed by avmain.py. -/
namespace Go.Avl.T2
open Go Go.RowKit Go.Proofs Go.Avl
set_option linter.unusedVariables false
set_option maxRecDepth 100000
set_option maxHeartbeats 4000000
attribute [local irreducible] AW AO AQ Spec SpecH Calm

end Go.Avl.T2
/- bosket/escape.letter; printed by avmain.py. -/
namespace Go.Avl.T2
open Go Go.RowKit Go.Proofs Go.Avl
set_option linter.unusedVariables false
set_option maxRecDepth 100000
set_option maxHeartbeats 4000000
attribute [local irreducible] AW AO AQ Spec SpecH Calm

def escape_letter (k : Nat) (p0 : Int) : Option Int :=
  if p0 = (10 : Int) then some ((110 : Int))
  else if p0 = (9 : Int) then some ((116 : Int))
  else if p0 = (13 : Int) then some ((114 : Int))
  else some ((0 : Int))
theorem escape_letter_spec {k : Nat} {p0 : Int} {r : Int} (h : escape_letter k p0 = some r) : Spec Try.prog 95 [(eU8 p0)] (eU8 r) := by
  rw [escape_letter.eq_1] at h
  refine Spec.intro (res := [.tmp 2]) Try.func95 rfl rfl rfl (Nat.le_of_ble_eq_true rfl) ?_
  refine AW.sr ?_
  refine AO.c (Calm.assign rfl rfl) ?_
  refine AO.nK [0] ?_
  refine AW.seq ?_
  refine AW.sr ?_
  refine AO.c (Calm.move rfl rfl) ?_
  refine AO.nK [3] ?_
  refine AW.block ?_
  refine AW.sr ?_
  refine AO.c (x := eBool (decide (p0 = (10 : Int)))) (Calm.int rfl rfl rfl rfl) ?_
  refine AO.c (Calm.assign rfl rfl) ?_
  refine AO.nK [3, 4] ?_
  rcases of_ite h with ⟨hc2, h⟩ | ⟨hc2, h⟩
  ·refine AW.condP _ rfl hc2 ?_
   refine AW.sr ?_
   refine AO.c (Calm.assign rfl rfl) ?_
   refine AO.nK [2] ?_
   refine AW.rK [2] ?_
   have hr := Option.some.inj h
   subst hr
   exact ⟨[(eU8 (110 : Int))], ⟨rfl, rfl, trivial⟩, rfl⟩
  ·refine AW.condN _ rfl hc2 ?_
   refine AW.sr ?_
   refine AO.c (x := eBool (decide (p0 = (9 : Int)))) (Calm.int rfl rfl rfl rfl) ?_
   refine AO.c (Calm.assign rfl rfl) ?_
   refine AO.nK [3, 6] ?_
   rcases of_ite h with ⟨hc3, h⟩ | ⟨hc3, h⟩
   ·refine AW.condP _ rfl hc3 ?_
    refine AW.sr ?_
    refine AO.c (Calm.assign rfl rfl) ?_
    refine AO.nK [2] ?_
    refine AW.rK [2] ?_
    have hr := Option.some.inj h
    subst hr
    exact ⟨[(eU8 (116 : Int))], ⟨rfl, rfl, trivial⟩, rfl⟩
   ·refine AW.condN _ rfl hc3 ?_
    refine AW.sr ?_
    refine AO.c (x := eBool (decide (p0 = (13 : Int)))) (Calm.int rfl rfl rfl rfl) ?_
    refine AO.c (Calm.assign rfl rfl) ?_
    refine AO.nK [8] ?_
    rcases of_ite h with ⟨hc4, h⟩ | ⟨hc4, h⟩
    ·refine AW.condP _ rfl hc4 ?_
     refine AW.sr ?_
     refine AO.c (Calm.assign rfl rfl) ?_
     refine AO.nK [2] ?_
     refine AW.rK [2] ?_
     have hr := Option.some.inj h
     subst hr
     exact ⟨[(eU8 (114 : Int))], ⟨rfl, rfl, trivial⟩, rfl⟩
    ·refine AW.condN _ rfl hc4 ?_
     refine AW.sK [] ?_
     refine AW.sr ?_
     refine AO.c (Calm.assign rfl rfl) ?_
     refine AO.nK [2] ?_
     refine AW.rK [2] ?_
     have hr := Option.some.inj h
     subst hr
     exact ⟨[(eU8 (0 : Int))], ⟨rfl, rfl, trivial⟩, rfl⟩
end Go.Avl.T2
/- bosket/escape.digit; printed by avmain.py. -/
namespace Go.Avl.T2
open Go Go.RowKit Go.Proofs Go.Avl
set_option linter.unusedVariables false
set_option maxRecDepth 100000
set_option maxHeartbeats 4000000
attribute [local irreducible] AW AO AQ Spec SpecH Calm

def escape_digit (k : Nat) (p0 : Int) : Option Int :=
  if p0 < (10 : Int) then some ((w8 ((48 : Int) + p0)))
  else some ((w8 ((w8 ((97 : Int) + p0)) - (10 : Int))))
theorem escape_digit_spec {k : Nat} {p0 : Int} {r : Int} (h : escape_digit k p0 = some r) : Spec Try.prog 96 [(eU8 p0)] (eU8 r) := by
  rw [escape_digit.eq_1] at h
  refine Spec.intro (res := [.tmp 2]) Try.func96 rfl rfl rfl (Nat.le_of_ble_eq_true rfl) ?_
  refine AW.sr ?_
  refine AO.c (Calm.assign rfl rfl) ?_
  refine AO.nK [0] ?_
  refine AW.seq ?_
  refine AW.sr ?_
  refine AO.c (Calm.move rfl rfl) ?_
  refine AO.c (x := eBool (decide (p0 < (10 : Int)))) (Calm.int rfl rfl rfl rfl) ?_
  refine AO.nK [0, 4] ?_
  rcases of_ite h with ⟨hc2, h⟩ | ⟨hc2, h⟩
  ·refine AW.condP _ rfl hc2 ?_
   refine AW.sr ?_
   refine AO.c (Calm.move rfl rfl) ?_
   refine AO.c (x := eU8 (w8 ((48 : Int) + p0))) (Calm.int rfl rfl rfl rfl) ?_
   refine AO.c (Calm.assign rfl rfl) ?_
   refine AO.nK [2] ?_
   refine AW.rK [2] ?_
   have hr := Option.some.inj h
   subst hr
   exact ⟨[(eU8 (w8 ((48 : Int) + p0)))], ⟨rfl, rfl, trivial⟩, rfl⟩
  ·refine AW.condN _ rfl hc2 ?_
   refine AW.sK [0] ?_
   refine AW.sr ?_
   refine AO.c (Calm.move rfl rfl) ?_
   refine AO.c (x := eU8 (w8 ((97 : Int) + p0))) (Calm.int rfl rfl rfl rfl) ?_
   refine AO.c (x := eU8 (w8 ((w8 ((97 : Int) + p0)) - (10 : Int)))) (Calm.int rfl rfl rfl rfl) ?_
   refine AO.c (Calm.assign rfl rfl) ?_
   refine AO.nK [2] ?_
   refine AW.rK [2] ?_
   have hr := Option.some.inj h
   subst hr
   exact ⟨[(eU8 (w8 ((w8 ((97 : Int) + p0)) - (10 : Int))))], ⟨rfl, rfl, trivial⟩, rfl⟩
end Go.Avl.T2
/- bosket/escape.Byte; printed by avmain.py. -/
namespace Go.Avl.T2
open Go Go.RowKit Go.Proofs Go.Avl
set_option linter.unusedVariables false
set_option maxRecDepth 100000
set_option maxHeartbeats 4000000
attribute [local irreducible] AW AO AQ Spec SpecH Calm

def escape_Byte_c0 (k : Nat) (p0 : Int) : Option ByteArray :=
  some ((strOfNums ([p0] : List Int)))
def escape_Byte_l1 (k : Nat) (p0 : Int) (p1 : ByteArray) : Nat → Int → Option ByteArray
  | 0, _ => none
  | j + 1, x15 =>
    if x15 < (p1.size : Int) then if 0 ≤ x15 ∧ x15 < (p1.size : Int) then if (byteAt p1 x15) = p0 then some ((strOfNums ([(92 : Int), p0] : List Int)))
    else (escape_Byte_l1 k p0 p1 j) (w64 (x15 + (1 : Int)))
    else none
    else escape_Byte_c0 k p0
def escape_Byte (k : Nat) (p0 : Int) (p1 : ByteArray) : Option ByteArray :=
  (escape_letter k p0).bind fun t3 =>
  if t3 ≠ (0 : Int) then some ((strOfNums ([(92 : Int), t3] : List Int)))
  else Option.bind (α := Bool) (if p0 < (32 : Int) then some (true)
  else some (decide ((126 : Int) < p0))) fun b6 =>
  if b6 = true then (escape_digit k (Int.fdiv p0 (2 ^ (min (4 : Int).toNat IntKind.u8.bits)))).bind fun t10 =>
  (escape_digit k (bits .and .u8 p0 (15 : Int))).bind fun t11 =>
  some ((strOfNums ([(92 : Int), (120 : Int), t10, t11] : List Int)))
  else if p0 = (92 : Int) then some ((ByteArray.mk #[92, 92]))
  else escape_Byte_l1 k p0 p1 k (0 : Int)
theorem escape_Byte_spec {k : Nat} {p0 : Int} {p1 : ByteArray} {r : ByteArray} (h : escape_Byte k p0 p1 = some r) : Spec Try.prog 81 [(eU8 p0), (eStr p1)] (eStr r) := by
  rw [escape_Byte.eq_1] at h
  refine Spec.intro (res := [.tmp 4]) Try.func81 rfl rfl rfl (Nat.le_of_ble_eq_true rfl) ?_
  refine AW.sr ?_
  refine AO.c (Calm.assign rfl rfl) ?_
  refine AO.nK [0, 1] ?_
  refine AW.seq ?_
  refine AW.sr ?_
  refine AO.c (Calm.move rfl rfl) ?_
  obtain ⟨t3, et3, h⟩ := of_bind h
  refine AO.callS [(eU8 p0)] (eU8 t3) 8 rfl (by decide) ok95 rfl rfl rfl ⟨rfl, rfl, trivial⟩ (escape_letter_spec et3) ?_
  refine AO.c (Calm.assign rfl rfl) ?_
  refine AO.nK [0, 1, 5] ?_
  refine AW.sr ?_
  refine AO.c (Calm.move rfl rfl) ?_
  refine AO.c (x := eBool (decide (t3 ≠ (0 : Int)))) (Calm.int rfl rfl rfl rfl) ?_
  refine AO.nK [0, 1, 5, 10] ?_
  rcases of_ite h with ⟨hc4, h⟩ | ⟨hc4, h⟩
  ·refine AW.condP _ rfl hc4 ?_
   refine AW.sr ?_
   refine AO.c (Calm.move rfl rfl) ?_
   refine AO.lit (Z := (eU8 (0 : Int))) (xs := (([(92 : Int), t3] : List Int).map eU8)) (qs := [(0, (eU8 (92 : Int))), (1, (eU8 t3))]) rfl 12 rfl (by decide) rfl ⟨rfl, rfl, rfl, rfl, rfl, rfl, trivial⟩ Try.underlying84 sz5 zr5 lay5 rfl (by decide) (litOK (z := 1) [(eU8 (92 : Int)), (eU8 t3)] rfl ⟨⟨rfl, rfl⟩, ⟨rfl, rfl⟩, trivial⟩) rfl fun n5 => ?_
   refine AO.c (x := eStr (strOfNums ([(92 : Int), t3] : List Int))) (Calm.strO 0 rfl rfl rfl Try.underlying84 Try.underlying9 Try.underlying5) ?_
   refine AO.c (Calm.assign rfl rfl) ?_
   refine AO.nH [4] (H' := []) (Sub.nil _) ?_
   refine AW.rK [4] ?_
   have hr := Option.some.inj h
   subst hr
   exact ⟨[(eStr (strOfNums ([(92 : Int), t3] : List Int)))], ⟨rfl, rfl, trivial⟩, rfl⟩
  ·refine AW.condN _ rfl hc4 ?_
   refine AW.sK [0, 1] ?_
   refine AW.seq ?_
   refine AW.seq ?_
   obtain ⟨b6, hq7, h⟩ := of_bind h
   refine AW.regM [(0, (eU8 p0)), (1, (eStr p1)), (19, (eBool b6))] [] ?_ ?_
   ·refine AO.c (Calm.move rfl rfl) ?_
    refine AO.c (x := eBool (decide (p0 < (32 : Int)))) (Calm.int rfl rfl rfl rfl) ?_
    refine AO.c (Calm.move rfl rfl) ?_
    rcases of_ite hq7 with ⟨hc8, hq7⟩ | ⟨hc8, hq7⟩
    ·refine AO.sF rfl rfl (bD (decide_eq_true hc8)) ?_
     refine AO.sF rfl rfl (bD (decide_eq_true hc8)) ?_
     refine AO.c (Calm.pickT rfl (bD (decide_eq_true hc8)) rfl) ?_
     cases hq7
     refine AO.nilE ⟨rfl, rfl⟩ ?_ ?_
     · exact ⟨rfl, rfl, rfl, trivial⟩
     · exact (Sub.refl _)
    ·refine AO.cG rfl rfl (bD (decide_eq_false hc8)) (Calm.move rfl rfl) ?_
     refine AO.cG (x := eBool (decide ((126 : Int) < p0))) rfl rfl (bD (decide_eq_false hc8)) (Calm.int rfl rfl rfl rfl) ?_
     refine AO.c (Calm.pickF rfl (bD (decide_eq_false hc8)) rfl) ?_
     cases hq7
     refine AO.nilE ⟨rfl, rfl⟩ ?_ ?_
     · exact ⟨rfl, rfl, rfl, trivial⟩
     · exact (Sub.refl _)
   ·rcases of_ite h with ⟨hc9, h⟩ | ⟨hc9, h⟩
    ·refine AW.condT' _ rfl hc9 ?_
     refine AW.sr ?_
     refine AO.c (Calm.move rfl rfl) ?_
     refine AO.c (x := eU8 (Int.fdiv p0 (2 ^ (min (4 : Int).toNat IntKind.u8.bits)))) (Calm.shr rfl rfl rfl (by decide)) ?_
     obtain ⟨t10, et10, h⟩ := of_bind h
     refine AO.callS [(eU8 (Int.fdiv p0 (2 ^ (min (4 : Int).toNat IntKind.u8.bits))))] (eU8 t10) 22 rfl (by decide) ok96 rfl rfl rfl ⟨rfl, rfl, trivial⟩ (escape_digit_spec et10) ?_
     refine AO.c (Calm.move rfl rfl) ?_
     refine AO.c (x := eU8 (bits .and .u8 p0 (15 : Int))) (Calm.int rfl rfl rfl rfl) ?_
     obtain ⟨t11, et11, h⟩ := of_bind h
     refine AO.callS [(eU8 (bits .and .u8 p0 (15 : Int)))] (eU8 t11) 25 rfl (by decide) ok96 rfl rfl rfl ⟨rfl, rfl, trivial⟩ (escape_digit_spec et11) ?_
     refine AO.lit (Z := (eU8 (0 : Int))) (xs := (([(92 : Int), (120 : Int), t10, t11] : List Int).map eU8)) (qs := [(0, (eU8 (92 : Int))), (1, (eU8 (120 : Int))), (2, (eU8 t10)), (3, (eU8 t11))]) rfl 26 rfl (by decide) rfl ⟨rfl, rfl, rfl, rfl, rfl, rfl, rfl, rfl, rfl, rfl, rfl, rfl, trivial⟩ Try.underlying84 sz5 zr5 lay5 rfl (by decide) (litOK (z := 1) [(eU8 (92 : Int)), (eU8 (120 : Int)), (eU8 t10), (eU8 t11)] rfl ⟨⟨rfl, rfl⟩, ⟨rfl, rfl⟩, ⟨rfl, rfl⟩, ⟨rfl, rfl⟩, trivial⟩) rfl fun n12 => ?_
     refine AO.c (x := eStr (strOfNums ([(92 : Int), (120 : Int), t10, t11] : List Int))) (Calm.strO 0 rfl rfl rfl Try.underlying84 Try.underlying9 Try.underlying5) ?_
     refine AO.c (Calm.assign rfl rfl) ?_
     refine AO.nH [4] (H' := []) (Sub.nil _) ?_
     refine AW.rK [4] ?_
     have hr := Option.some.inj h
     subst hr
     exact ⟨[(eStr (strOfNums ([(92 : Int), (120 : Int), t10, t11] : List Int)))], ⟨rfl, rfl, trivial⟩, rfl⟩
    ·refine AW.condF' _ rfl hc9 ?_
     refine AW.sK [0, 1] ?_
     refine AW.seq ?_
     refine AW.sr ?_
     refine AO.c (Calm.move rfl rfl) ?_
     refine AO.c (x := eBool (decide (p0 = (92 : Int)))) (Calm.int rfl rfl rfl rfl) ?_
     refine AO.nK [0, 1, 29] ?_
     rcases of_ite h with ⟨hc13, h⟩ | ⟨hc13, h⟩
     ·refine AW.condP _ rfl hc13 ?_
      refine AW.sr ?_
      refine AO.c (Calm.assign rfl rfl) ?_
      refine AO.nK [4] ?_
      refine AW.rK [4] ?_
      have hr := Option.some.inj h
      subst hr
      exact ⟨[(eStr (ByteArray.mk #[92, 92]))], ⟨rfl, rfl, trivial⟩, rfl⟩
     ·refine AW.condN _ rfl hc13 ?_
      refine AW.sK [0, 1] ?_
      refine AW.seq_mid (fun ρ H => ρ = [(0, (eU8 p0))] ∧ H = [] ∧ escape_Byte_c0 k p0 = some r) ?_ ?_
      ·refine AW.sr ?_
       refine AO.c (Calm.move rfl rfl) ?_
       refine AO.c (Calm.lenStr rfl rfl Try.underlying9) ?_
       refine AO.c (Calm.move rfl rfl) ?_
       refine AO.nK [0, 1, 31, 32] ?_
       refine AW.block ?_
       refine AW.wK [0, 1, 31, 32] ?_
       refine AW.loop (fun kq ρ H => ∃ (x15 : Int), ρ = [(0, (eU8 p0)), (1, (eStr p1)), (31, (eI64 (p1.size : Int))), (32, (eI64 x15))] ∧ H = [] ∧ escape_Byte_l1 k p0 p1 kq x15 = some r) k ⟨(0 : Int), rfl, rfl, h⟩ ?_
       rintro kq17 _ _ ⟨x15, rfl, rfl, h⟩
       cases kq17 with
       | zero => rw [escape_Byte_l1.eq_1] at h; cases h
       | succ kq17 =>
       rw [escape_Byte_l1.eq_2] at h
       generalize hrec16 : escape_Byte_l1 k p0 p1 kq17 = rec16 at h
       refine AW.sr ?_
       refine AO.c (x := eBool (decide (x15 < (p1.size : Int)))) (Calm.int rfl rfl rfl rfl) ?_
       refine AO.nK [0, 1, 31, 32, 33] ?_
       refine AW.seq ?_
       rcases of_ite h with ⟨hc18, h⟩ | ⟨hc18, h⟩
       ·refine AW.condP _ rfl hc18 ?_
        refine AW.sK [0, 1, 31, 32] ?_
        refine AW.seq ?_
        refine AW.block ?_
        refine AW.sr ?_
        refine AO.c (Calm.move rfl rfl) ?_
        refine AO.c (Calm.assign rfl rfl) ?_
        refine AO.nK [0, 1, 6, 31, 32] ?_
        refine AW.sr ?_
        refine AO.c (Calm.move rfl rfl) ?_
        refine AO.c (Calm.move rfl rfl) ?_
        obtain ⟨hg19, h⟩ := of_guard h
        refine AO.c (x := eU8 (byteAt p1 x15)) (Calm.idxS rfl rfl rfl hg19 Try.underlying9) ?_
        refine AO.c (Calm.move rfl rfl) ?_
        refine AO.c (x := eBool (decide ((byteAt p1 x15) = p0))) (Calm.int rfl rfl rfl rfl) ?_
        refine AO.nK [0, 1, 31, 32, 39] ?_
        rcases of_ite h with ⟨hc20, h⟩ | ⟨hc20, h⟩
        ·refine AW.condP _ rfl hc20 ?_
         refine AW.sr ?_
         refine AO.c (Calm.move rfl rfl) ?_
         refine AO.lit (Z := (eU8 (0 : Int))) (xs := (([(92 : Int), p0] : List Int).map eU8)) (qs := [(0, (eU8 (92 : Int))), (1, (eU8 p0))]) rfl 41 rfl (by decide) rfl ⟨rfl, rfl, rfl, rfl, rfl, rfl, trivial⟩ Try.underlying84 sz5 zr5 lay5 rfl (by decide) (litOK (z := 1) [(eU8 (92 : Int)), (eU8 p0)] rfl ⟨⟨rfl, rfl⟩, ⟨rfl, rfl⟩, trivial⟩) rfl fun n21 => ?_
         refine AO.c (x := eStr (strOfNums ([(92 : Int), p0] : List Int))) (Calm.strO 0 rfl rfl rfl Try.underlying84 Try.underlying9 Try.underlying5) ?_
         refine AO.c (Calm.assign rfl rfl) ?_
         refine AO.nH [4] (H' := []) (Sub.nil _) ?_
         refine AW.rK [4] ?_
         have hr := Option.some.inj h
         subst hr
         exact ⟨[(eStr (strOfNums ([(92 : Int), p0] : List Int)))], ⟨rfl, rfl, trivial⟩, rfl⟩
        ·refine AW.condN _ rfl hc20 ?_
         refine AW.sK [0, 1, 31, 32] ?_
         refine AW.reg ?_
         refine AO.c (x := eI64 (w64 (x15 + (1 : Int)))) (Calm.int rfl rfl rfl rfl) ?_
         refine AO.c (Calm.move rfl rfl) ?_
         refine AO.nK [0, 1, 31, 32] ?_
         exact ⟨kq17, Nat.lt_succ_self _, (w64 (x15 + (1 : Int))), rfl, rfl, by rw [hrec16]; exact h⟩
       ·refine AW.condN _ rfl hc18 ?_
        refine AW.eK [0] ?_
        exact ⟨rfl, rfl, h⟩
      ·rintro _ _ ⟨rfl, rfl, h⟩
       rw [escape_Byte_c0.eq_1] at h
       refine AW.sr ?_
       refine AO.c (Calm.move rfl rfl) ?_
       refine AO.lit (Z := (eU8 (0 : Int))) (xs := (([p0] : List Int).map eU8)) (qs := [(0, (eU8 p0))]) rfl 45 rfl (by decide) rfl ⟨rfl, rfl, rfl, trivial⟩ Try.underlying84 sz5 zr5 lay5 rfl (by decide) (litOK (z := 1) [(eU8 p0)] rfl ⟨⟨rfl, rfl⟩, trivial⟩) rfl fun n14 => ?_
       refine AO.c (x := eStr (strOfNums ([p0] : List Int))) (Calm.strO 0 rfl rfl rfl Try.underlying84 Try.underlying9 Try.underlying5) ?_
       refine AO.c (Calm.assign rfl rfl) ?_
       refine AO.nH [4] (H' := []) (Sub.nil _) ?_
       refine AW.rK [4] ?_
       have hr := Option.some.inj h
       subst hr
       exact ⟨[(eStr (strOfNums ([p0] : List Int)))], ⟨rfl, rfl, trivial⟩, rfl⟩
end Go.Avl.T2
/- bosket/escape.Quote; printed by avmain.py. -/
namespace Go.Avl.T2
open Go Go.RowKit Go.Proofs Go.Avl
set_option linter.unusedVariables false
set_option maxRecDepth 100000
set_option maxHeartbeats 4000000
attribute [local irreducible] AW AO AQ Spec SpecH Calm

def escape_Quote_c0 (k : Nat) (p1 : Int) (x4 : ByteArray) : Option ByteArray :=
  if x4.size + (strOfNums ([p1] : List Int)).size ≤ 9223372036854775807 then some ((x4 ++ (strOfNums ([p1] : List Int))))
  else none
def escape_Quote_l1 (k : Nat) (p0 : ByteArray) (p1 : Int) : Nat → ByteArray → Int → Option ByteArray
  | 0, _, _ => none
  | j + 1, x7, x8 =>
    if x8 < (p0.size : Int) then if 0 ≤ x8 ∧ x8 < (p0.size : Int) then (escape_Byte k (byteAt p0 x8) (strOfNums ([p1] : List Int))).bind fun t14 =>
    if x7.size + t14.size ≤ 9223372036854775807 then (escape_Quote_l1 k p0 p1 j) (x7 ++ t14) (w64 (x8 + (1 : Int)))
    else none
    else none
    else escape_Quote_c0 k p1 x7
def escape_Quote (k : Nat) (p0 : ByteArray) (p1 : Int) : Option ByteArray :=
  escape_Quote_l1 k p0 p1 k (strOfNums ([p1] : List Int)) (0 : Int)
theorem escape_Quote_spec {k : Nat} {p0 : ByteArray} {p1 : Int} {r : ByteArray} (h : escape_Quote k p0 p1 = some r) : Spec Try.prog 60 [(eStr p0), (eU8 p1)] (eStr r) := by
  rw [escape_Quote.eq_1] at h
  refine Spec.intro (res := [.tmp 4]) Try.func60 rfl rfl rfl (Nat.le_of_ble_eq_true rfl) ?_
  refine AW.sr ?_
  refine AO.c (Calm.assign rfl rfl) ?_
  refine AO.nK [0, 1] ?_
  refine AW.sr ?_
  refine AO.c (Calm.move rfl rfl) ?_
  refine AO.lit (Z := (eU8 (0 : Int))) (xs := (([p1] : List Int).map eU8)) (qs := [(0, (eU8 p1))]) rfl 8 rfl (by decide) rfl ⟨rfl, rfl, rfl, trivial⟩ Try.underlying84 sz5 zr5 lay5 rfl (by decide) (litOK (z := 1) [(eU8 p1)] rfl ⟨⟨rfl, rfl⟩, trivial⟩) rfl fun n3 => ?_
  refine AO.c (x := eStr (strOfNums ([p1] : List Int))) (Calm.strO 0 rfl rfl rfl Try.underlying84 Try.underlying9 Try.underlying5) ?_
  refine AO.c (Calm.assign rfl rfl) ?_
  refine AO.nH [0, 1, 5] (H' := []) (Sub.nil _) ?_
  refine AW.seq_mid (fun ρ H => ∃ (x4 : ByteArray), ρ = [(1, (eU8 p1)), (5, (eStr x4))] ∧ H = [] ∧ escape_Quote_c0 k p1 x4 = some r) ?_ ?_
  ·refine AW.sr ?_
   refine AO.c (Calm.move rfl rfl) ?_
   refine AO.c (Calm.lenStr rfl rfl Try.underlying9) ?_
   refine AO.c (Calm.move rfl rfl) ?_
   refine AO.nK [0, 1, 5, 11, 12] ?_
   refine AW.block ?_
   refine AW.wK [0, 1, 5, 11, 12] ?_
   refine AW.loop (fun kq ρ H => ∃ (x7 : ByteArray) (x8 : Int), ρ = [(0, (eStr p0)), (1, (eU8 p1)), (5, (eStr x7)), (11, (eI64 (p0.size : Int))), (12, (eI64 x8))] ∧ H = [] ∧ escape_Quote_l1 k p0 p1 kq x7 x8 = some r) k ⟨(strOfNums ([p1] : List Int)), (0 : Int), rfl, rfl, h⟩ ?_
   rintro kq10 _ _ ⟨x7, x8, rfl, rfl, h⟩
   cases kq10 with
   | zero => rw [escape_Quote_l1.eq_1] at h; cases h
   | succ kq10 =>
   rw [escape_Quote_l1.eq_2] at h
   generalize hrec9 : escape_Quote_l1 k p0 p1 kq10 = rec9 at h
   refine AW.sr ?_
   refine AO.c (x := eBool (decide (x8 < (p0.size : Int)))) (Calm.int rfl rfl rfl rfl) ?_
   refine AO.nK [0, 1, 5, 11, 12, 13] ?_
   refine AW.seq ?_
   rcases of_ite h with ⟨hc11, h⟩ | ⟨hc11, h⟩
   ·refine AW.condP _ rfl hc11 ?_
    refine AW.sK [0, 1, 5, 11, 12] ?_
    refine AW.seq ?_
    refine AW.block ?_
    refine AW.sr ?_
    refine AO.c (Calm.move rfl rfl) ?_
    refine AO.c (Calm.assign rfl rfl) ?_
    refine AO.nK [0, 1, 5, 6, 11, 12] ?_
    obtain ⟨hg12, h⟩ := of_guard h
    obtain ⟨t14, et14, h⟩ := of_bind h
    obtain ⟨hg15, h⟩ := of_guard h
    refine AW.regAny (by rfl) (by decide +kernel) [(eStr x7), (eStr p0), (eI64 x8), (eU8 (byteAt p0 x8)), (eU8 p1), (.fz 1 (([p1] : List Int).map eU8)), (eStr (strOfNums ([p1] : List Int))), (eStr t14), (eStr (x7 ++ t14)), (eStr (x7 ++ t14))] [(0, (eStr p0)), (1, (eU8 p1)), (5, (eStr x7)), (6, (eI64 x8)), (11, (eI64 (p0.size : Int))), (12, (eI64 x8))] ⟨rfl, rfl, rfl, rfl, rfl, rfl, trivial⟩ rfl ?_ [(0, (eStr p0)), (1, (eU8 p1)), (5, (eStr (x7 ++ t14))), (11, (eI64 (p0.size : Int))), (12, (eI64 x8))] [] ⟨rfl, rfl, rfl, rfl, rfl, trivial⟩ (Sub.refl _) ?_
    ·refine ⟨?_, ?_, ?_, ?_, ?_, ?_, ?_, ?_, ?_, ?_, trivial⟩
     ·refine AO.wK [5] ?_
      refine AO.c (Calm.move rfl rfl) ?_
      exact AO.nE (d := 15) rfl ⟨⟨_, rfl, rfl⟩, Sub.refl _⟩
     ·refine AO.wK [0] ?_
      refine AO.c (Calm.move rfl rfl) ?_
      exact AO.nE (d := 16) rfl ⟨⟨_, rfl, rfl⟩, Sub.refl _⟩
     ·refine AO.wK [6] ?_
      refine AO.c (Calm.move rfl rfl) ?_
      exact AO.nE (d := 17) rfl ⟨⟨_, rfl, rfl⟩, Sub.refl _⟩
     ·refine AO.wK [16, 17] ?_
      refine AO.c (x := eU8 (byteAt p0 x8)) (Calm.idxS rfl rfl rfl hg12 Try.underlying9) ?_
      exact AO.nE (d := 18) rfl ⟨⟨_, rfl, rfl⟩, Sub.refl _⟩
     ·refine AO.wK [1] ?_
      refine AO.c (Calm.move rfl rfl) ?_
      exact AO.nE (d := 19) rfl ⟨⟨_, rfl, rfl⟩, Sub.refl _⟩
     ·refine AO.wK [19] ?_
      refine AO.lit (Z := (eU8 (0 : Int))) (xs := (([p1] : List Int).map eU8)) (qs := [(0, (eU8 p1))]) rfl 20 rfl (by decide) rfl ⟨rfl, rfl, rfl, trivial⟩ Try.underlying84 sz5 zr5 lay5 rfl (by decide) (litOK (z := 1) [(eU8 p1)] rfl ⟨⟨rfl, rfl⟩, trivial⟩) rfl fun n13 => ?_
      refine AO.freezeS 0 [(20, (.fz 1 (([p1] : List Int).map eU8)))] rfl ⟨fz_all rfl, trivial⟩ ?_
      exact AO.nE (d := 20) rfl ⟨⟨_, rfl, rfl⟩, Sub.refl _⟩
     ·refine AO.wK [20] ?_
      refine AO.c (x := eStr (strOfNums ([p1] : List Int))) (Calm.strL rfl rfl Try.underlying84 Try.underlying9 Try.underlying5) ?_
      exact AO.nE (d := 21) rfl ⟨⟨_, rfl, rfl⟩, Sub.refl _⟩
     ·refine AO.wK [18, 21] ?_
      refine AO.callS [(eU8 (byteAt p0 x8)), (eStr (strOfNums ([p1] : List Int)))] (eStr t14) 22 rfl (by decide) ok81 rfl rfl rfl ⟨rfl, rfl, rfl, rfl, trivial⟩ (escape_Byte_spec et14) ?_
      exact AO.nE (d := 22) rfl ⟨⟨_, rfl, rfl⟩, Sub.refl _⟩
     ·refine AO.wK [15, 22] ?_
      refine AO.c (x := eStr (x7 ++ t14)) (Calm.cat rfl rfl rfl hg15) ?_
      exact AO.nE (d := 23) rfl ⟨⟨_, rfl, rfl⟩, Sub.refl _⟩
     ·refine AO.wK [23] ?_
      refine AO.c (Calm.assign rfl rfl) ?_
      exact AO.nE (d := 5) rfl ⟨⟨_, rfl, rfl⟩, Sub.refl _⟩
    ·refine AW.reg ?_
     refine AO.c (x := eI64 (w64 (x8 + (1 : Int)))) (Calm.int rfl rfl rfl rfl) ?_
     refine AO.c (Calm.move rfl rfl) ?_
     refine AO.nK [0, 1, 5, 11, 12] ?_
     exact ⟨kq10, Nat.lt_succ_self _, (x7 ++ t14), (w64 (x8 + (1 : Int))), rfl, rfl, by rw [hrec9]; exact h⟩
   ·refine AW.condN _ rfl hc11 ?_
    refine AW.eK [1, 5] ?_
    exact ⟨x7, rfl, rfl, h⟩
  ·rintro _ _ ⟨x4, rfl, rfl, h⟩
   rw [escape_Quote_c0.eq_1] at h
   refine AW.sr ?_
   refine AO.c (Calm.move rfl rfl) ?_
   refine AO.c (Calm.move rfl rfl) ?_
   refine AO.lit (Z := (eU8 (0 : Int))) (xs := (([p1] : List Int).map eU8)) (qs := [(0, (eU8 p1))]) rfl 27 rfl (by decide) rfl ⟨rfl, rfl, rfl, trivial⟩ Try.underlying84 sz5 zr5 lay5 rfl (by decide) (litOK (z := 1) [(eU8 p1)] rfl ⟨⟨rfl, rfl⟩, trivial⟩) rfl fun n5 => ?_
   refine AO.c (x := eStr (strOfNums ([p1] : List Int))) (Calm.strO 0 rfl rfl rfl Try.underlying84 Try.underlying9 Try.underlying5) ?_
   obtain ⟨hg6, h⟩ := of_guard h
   refine AO.c (x := eStr (x4 ++ (strOfNums ([p1] : List Int)))) (Calm.cat rfl rfl rfl hg6) ?_
   refine AO.c (Calm.assign rfl rfl) ?_
   refine AO.nH [4] (H' := []) (Sub.nil _) ?_
   refine AW.rK [4] ?_
   have hr := Option.some.inj h
   subst hr
   exact ⟨[(eStr (x4 ++ (strOfNums ([p1] : List Int))))], ⟨rfl, rfl, trivial⟩, rfl⟩
end Go.Avl.T2
/- bosket/bosketref03.in; printed by avmain.py. -/
namespace Go.Avl.T2
open Go Go.RowKit Go.Proofs Go.Avl
set_option linter.unusedVariables false
set_option maxRecDepth 100000
set_option maxHeartbeats 4000000
attribute [local irreducible] AW AO AQ Spec SpecH Calm

def bosketref03_in_c0 (k : Nat) : Option Bool :=
  some (false)
def bosketref03_in_l1 (k : Nat) (p0 : ByteArray) (p1 : Int) : Nat → Int → Option Bool
  | 0, _ => none
  | j + 1, x3 =>
    if x3 < (p0.size : Int) then if 0 ≤ x3 ∧ x3 < (p0.size : Int) then if (byteAt p0 x3) = p1 then some (true)
    else (bosketref03_in_l1 k p0 p1 j) (w64 (x3 + (1 : Int)))
    else none
    else bosketref03_in_c0 k
def bosketref03_in (k : Nat) (p0 : ByteArray) (p1 : Int) : Option Bool :=
  bosketref03_in_l1 k p0 p1 k (0 : Int)
theorem bosketref03_in_spec {k : Nat} {p0 : ByteArray} {p1 : Int} {r : Bool} (h : bosketref03_in k p0 p1 = some r) : Spec Try.prog 97 [(eStr p0), (eU8 p1)] (eBool r) := by
  rw [bosketref03_in.eq_1] at h
  refine Spec.intro (res := [.tmp 4]) Try.func97 rfl rfl rfl (Nat.le_of_ble_eq_true rfl) ?_
  refine AW.sr ?_
  refine AO.c (Calm.assign rfl rfl) ?_
  refine AO.nK [0, 1] ?_
  refine AW.seq_mid (fun ρ H => ρ = [] ∧ H = [] ∧ bosketref03_in_c0 k = some r) ?_ ?_
  ·refine AW.sr ?_
   refine AO.c (Calm.assign rfl rfl) ?_
   refine AO.nK [0, 1, 5] ?_
   refine AW.block ?_
   refine AW.wK [0, 1, 5] ?_
   refine AW.loop (fun kq ρ H => ∃ (x3 : Int), ρ = [(0, (eStr p0)), (1, (eU8 p1)), (5, (eI64 x3))] ∧ H = [] ∧ bosketref03_in_l1 k p0 p1 kq x3 = some r) k ⟨(0 : Int), rfl, rfl, h⟩ ?_
   rintro kq5 _ _ ⟨x3, rfl, rfl, h⟩
   cases kq5 with
   | zero => rw [bosketref03_in_l1.eq_1] at h; cases h
   | succ kq5 =>
   rw [bosketref03_in_l1.eq_2] at h
   generalize hrec4 : bosketref03_in_l1 k p0 p1 kq5 = rec4 at h
   refine AW.seq ?_
   refine AW.sr ?_
   refine AO.c (Calm.move rfl rfl) ?_
   refine AO.c (Calm.move rfl rfl) ?_
   refine AO.c (Calm.lenStr rfl rfl Try.underlying9) ?_
   refine AO.c (x := eBool (decide (x3 < (p0.size : Int)))) (Calm.int rfl rfl rfl rfl) ?_
   refine AO.nK [0, 1, 5, 9] ?_
   rcases of_ite h with ⟨hc6, h⟩ | ⟨hc6, h⟩
   ·refine AW.condP _ rfl hc6 ?_
    refine AW.sK [0, 1, 5] ?_
    refine AW.seq ?_
    refine AW.block ?_
    refine AW.sr ?_
    refine AO.c (Calm.move rfl rfl) ?_
    refine AO.c (Calm.move rfl rfl) ?_
    obtain ⟨hg7, h⟩ := of_guard h
    refine AO.c (x := eU8 (byteAt p0 x3)) (Calm.idxS rfl rfl rfl hg7 Try.underlying9) ?_
    refine AO.c (Calm.move rfl rfl) ?_
    refine AO.c (x := eBool (decide ((byteAt p0 x3) = p1))) (Calm.int rfl rfl rfl rfl) ?_
    refine AO.nK [0, 1, 5, 16] ?_
    rcases of_ite h with ⟨hc8, h⟩ | ⟨hc8, h⟩
    ·refine AW.condP _ rfl hc8 ?_
     refine AW.sr ?_
     refine AO.c (Calm.assign rfl rfl) ?_
     refine AO.nK [4] ?_
     refine AW.rK [4] ?_
     have hr := Option.some.inj h
     subst hr
     exact ⟨[(eBool true)], ⟨rfl, rfl, trivial⟩, rfl⟩
    ·refine AW.condN _ rfl hc8 ?_
     refine AW.sK [0, 1, 5] ?_
     refine AW.reg ?_
     refine AO.c (Calm.move rfl rfl) ?_
     refine AO.c (x := eI64 (w64 (x3 + (1 : Int)))) (Calm.int rfl rfl rfl rfl) ?_
     refine AO.c (Calm.assign rfl rfl) ?_
     refine AO.nK [0, 1, 5] ?_
     exact ⟨kq5, Nat.lt_succ_self _, (w64 (x3 + (1 : Int))), rfl, rfl, by rw [hrec4]; exact h⟩
   ·refine AW.condN _ rfl hc6 ?_
    refine AW.eK [] ?_
    exact ⟨rfl, rfl, h⟩
  ·rintro _ _ ⟨rfl, rfl, h⟩
   rw [bosketref03_in_c0.eq_1] at h
   refine AW.sr ?_
   refine AO.c (Calm.assign rfl rfl) ?_
   refine AO.nK [4] ?_
   refine AW.rK [4] ?_
   have hr := Option.some.inj h
   subst hr
   exact ⟨[(eBool false)], ⟨rfl, rfl, trivial⟩, rfl⟩
end Go.Avl.T2
/- bosket/bosketref03.Byte; printed by avmain.py. -/
namespace Go.Avl.T2
open Go Go.RowKit Go.Proofs Go.Avl
set_option linter.unusedVariables false
set_option maxRecDepth 100000
set_option maxHeartbeats 4000000
attribute [local irreducible] AW AO AQ Spec SpecH Calm

def bosketref03_Byte (k : Nat) (p0 : Int) (p1 : ByteArray) : Option ByteArray :=
  (some (ByteArray.mk #[48, 49, 50, 51, 52, 53, 54, 55, 56, 57, 97, 98, 99, 100, 101, 102])).bind fun x3 =>
  if p0 = (10 : Int) then some ((ByteArray.mk #[92, 110]))
  else if p0 = (9 : Int) then some ((ByteArray.mk #[92, 116]))
  else if p0 = (13 : Int) then some ((ByteArray.mk #[92, 114]))
  else Option.bind (α := Bool) (if p0 < (32 : Int) then some (true)
  else some (decide ((126 : Int) < p0))) fun b7 =>
  if b7 = true then if 0 ≤ (IntKind.u8.wrap (p0.tdiv (16 : Int))) ∧ (IntKind.u8.wrap (p0.tdiv (16 : Int))) ≤ (w8 ((IntKind.u8.wrap (p0.tdiv (16 : Int))) + (1 : Int))) ∧ (w8 ((IntKind.u8.wrap (p0.tdiv (16 : Int))) + (1 : Int))) ≤ (x3.size : Int) then if (ByteArray.mk #[92, 120]).size + (x3.extract (IntKind.u8.wrap (p0.tdiv (16 : Int))).toNat (w8 ((IntKind.u8.wrap (p0.tdiv (16 : Int))) + (1 : Int))).toNat).size ≤ 9223372036854775807 then if 0 ≤ (p0.tmod (16 : Int)) ∧ (p0.tmod (16 : Int)) ≤ (w8 ((p0.tmod (16 : Int)) + (1 : Int))) ∧ (w8 ((p0.tmod (16 : Int)) + (1 : Int))) ≤ (x3.size : Int) then if ((ByteArray.mk #[92, 120]) ++ (x3.extract (IntKind.u8.wrap (p0.tdiv (16 : Int))).toNat (w8 ((IntKind.u8.wrap (p0.tdiv (16 : Int))) + (1 : Int))).toNat)).size + (x3.extract (p0.tmod (16 : Int)).toNat (w8 ((p0.tmod (16 : Int)) + (1 : Int))).toNat).size ≤ 9223372036854775807 then some ((((ByteArray.mk #[92, 120]) ++ (x3.extract (IntKind.u8.wrap (p0.tdiv (16 : Int))).toNat (w8 ((IntKind.u8.wrap (p0.tdiv (16 : Int))) + (1 : Int))).toNat)) ++ (x3.extract (p0.tmod (16 : Int)).toNat (w8 ((p0.tmod (16 : Int)) + (1 : Int))).toNat)))
  else none
  else none
  else none
  else none
  else Option.bind (α := Bool) (if p0 = (92 : Int) then some (true)
  else (bosketref03_in k p1 p0).bind fun t18 =>
  some (t18)) fun b15 =>
  if b15 = true then if (ByteArray.mk #[92]).size + (strOfNums ([p0] : List Int)).size ≤ 9223372036854775807 then some (((ByteArray.mk #[92]) ++ (strOfNums ([p0] : List Int))))
  else none
  else some ((strOfNums ([p0] : List Int)))
theorem bosketref03_Byte_spec {k : Nat} {p0 : Int} {p1 : ByteArray} {r : ByteArray} (h : bosketref03_Byte k p0 p1 = some r) : Spec Try.prog 82 [(eU8 p0), (eStr p1)] (eStr r) := by
  rw [bosketref03_Byte.eq_1] at h
  refine Spec.intro (res := [.tmp 4]) Try.func82 rfl rfl rfl (Nat.le_of_ble_eq_true rfl) ?_
  refine AW.sr ?_
  refine AO.c (Calm.assign rfl rfl) ?_
  refine AO.nK [0, 1] ?_
  refine AW.sr ?_
  obtain ⟨x3, ex3, h⟩ := of_bind h
  refine AO.c (Calm.assign rfl (congrArg (fun x => some (eStr x)) (Option.some.inj ex3))) ?_
  refine AO.nK [0, 1, 5] ?_
  refine AW.seq ?_
  refine AW.block ?_
  refine AW.sr ?_
  refine AO.c (Calm.move rfl rfl) ?_
  refine AO.c (x := eBool (decide (p0 = (10 : Int)))) (Calm.int rfl rfl rfl rfl) ?_
  refine AO.c (Calm.assign rfl rfl) ?_
  refine AO.nK [0, 1, 5, 6] ?_
  rcases of_ite h with ⟨hc4, h⟩ | ⟨hc4, h⟩
  ·refine AW.condP _ rfl hc4 ?_
   refine AW.sr ?_
   refine AO.c (Calm.assign rfl rfl) ?_
   refine AO.nK [4] ?_
   refine AW.rK [4] ?_
   have hr := Option.some.inj h
   subst hr
   exact ⟨[(eStr (ByteArray.mk #[92, 110]))], ⟨rfl, rfl, trivial⟩, rfl⟩
  ·refine AW.condN _ rfl hc4 ?_
   refine AW.sr ?_
   refine AO.c (Calm.move rfl rfl) ?_
   refine AO.c (x := eBool (decide (p0 = (9 : Int)))) (Calm.int rfl rfl rfl rfl) ?_
   refine AO.c (Calm.assign rfl rfl) ?_
   refine AO.nK [0, 1, 5, 9] ?_
   rcases of_ite h with ⟨hc5, h⟩ | ⟨hc5, h⟩
   ·refine AW.condP _ rfl hc5 ?_
    refine AW.sr ?_
    refine AO.c (Calm.assign rfl rfl) ?_
    refine AO.nK [4] ?_
    refine AW.rK [4] ?_
    have hr := Option.some.inj h
    subst hr
    exact ⟨[(eStr (ByteArray.mk #[92, 116]))], ⟨rfl, rfl, trivial⟩, rfl⟩
   ·refine AW.condN _ rfl hc5 ?_
    refine AW.sr ?_
    refine AO.c (Calm.move rfl rfl) ?_
    refine AO.c (x := eBool (decide (p0 = (13 : Int)))) (Calm.int rfl rfl rfl rfl) ?_
    refine AO.c (Calm.assign rfl rfl) ?_
    refine AO.nK [0, 1, 5, 12] ?_
    rcases of_ite h with ⟨hc6, h⟩ | ⟨hc6, h⟩
    ·refine AW.condP _ rfl hc6 ?_
     refine AW.sr ?_
     refine AO.c (Calm.assign rfl rfl) ?_
     refine AO.nK [4] ?_
     refine AW.rK [4] ?_
     have hr := Option.some.inj h
     subst hr
     exact ⟨[(eStr (ByteArray.mk #[92, 114]))], ⟨rfl, rfl, trivial⟩, rfl⟩
    ·refine AW.condN _ rfl hc6 ?_
     refine AW.seq ?_
     obtain ⟨b7, hq8, h⟩ := of_bind h
     refine AW.regM [(0, (eU8 p0)), (1, (eStr p1)), (5, (eStr x3)), (15, (eBool b7))] [] ?_ ?_
     ·refine AO.c (Calm.move rfl rfl) ?_
      refine AO.c (x := eBool (decide (p0 < (32 : Int)))) (Calm.int rfl rfl rfl rfl) ?_
      refine AO.c (Calm.move rfl rfl) ?_
      rcases of_ite hq8 with ⟨hc9, hq8⟩ | ⟨hc9, hq8⟩
      ·refine AO.sF rfl rfl (bD (decide_eq_true hc9)) ?_
       refine AO.sF rfl rfl (bD (decide_eq_true hc9)) ?_
       refine AO.c (Calm.pickT rfl (bD (decide_eq_true hc9)) rfl) ?_
       refine AO.c (Calm.assign rfl rfl) ?_
       cases hq8
       refine AO.nilE ⟨rfl, rfl⟩ ?_ ?_
       · exact ⟨rfl, rfl, rfl, rfl, trivial⟩
       · exact (Sub.refl _)
      ·refine AO.cG rfl rfl (bD (decide_eq_false hc9)) (Calm.move rfl rfl) ?_
       refine AO.cG (x := eBool (decide ((126 : Int) < p0))) rfl rfl (bD (decide_eq_false hc9)) (Calm.int rfl rfl rfl rfl) ?_
       refine AO.c (Calm.pickF rfl (bD (decide_eq_false hc9)) rfl) ?_
       refine AO.c (Calm.assign rfl rfl) ?_
       cases hq8
       refine AO.nilE ⟨rfl, rfl⟩ ?_ ?_
       · exact ⟨rfl, rfl, rfl, rfl, trivial⟩
       · exact (Sub.refl _)
     ·rcases of_ite h with ⟨hc10, h⟩ | ⟨hc10, h⟩
      ·refine AW.condT' _ rfl hc10 ?_
       refine AW.seq ?_
       refine AW.regQ (by rfl) (by decide +kernel) ?_
       refine AQ.c (Calm.move rfl rfl) ?_
       refine AQ.c (Calm.move rfl rfl) ?_
       refine AQ.c (x := eU8 (IntKind.u8.wrap (p0.tdiv (16 : Int)))) (Calm.quo rfl rfl rfl (by decide)) ?_
       refine AQ.c (Calm.move rfl rfl) ?_
       refine AQ.c (x := eU8 (IntKind.u8.wrap (p0.tdiv (16 : Int)))) (Calm.quo rfl rfl rfl (by decide)) ?_
       refine AQ.c (x := eU8 (w8 ((IntKind.u8.wrap (p0.tdiv (16 : Int))) + (1 : Int)))) (Calm.int rfl rfl rfl rfl) ?_
       obtain ⟨hg11, h⟩ := of_guard h
       refine AQ.c (x := eStr (x3.extract (IntKind.u8.wrap (p0.tdiv (16 : Int))).toNat (w8 ((IntKind.u8.wrap (p0.tdiv (16 : Int))) + (1 : Int))).toNat)) (Calm.sliceS rfl rfl rfl rfl hg11 Try.underlying9) ?_
       obtain ⟨hg12, h⟩ := of_guard h
       refine AQ.c (x := eStr ((ByteArray.mk #[92, 120]) ++ (x3.extract (IntKind.u8.wrap (p0.tdiv (16 : Int))).toNat (w8 ((IntKind.u8.wrap (p0.tdiv (16 : Int))) + (1 : Int))).toNat))) (Calm.cat rfl rfl rfl hg12) ?_
       refine AQ.c (Calm.move rfl rfl) ?_
       refine AQ.c (Calm.move rfl rfl) ?_
       refine AQ.c (x := eU8 (p0.tmod (16 : Int))) (Calm.rem rfl rfl rfl (by decide)) ?_
       refine AQ.c (Calm.move rfl rfl) ?_
       refine AQ.c (x := eU8 (p0.tmod (16 : Int))) (Calm.rem rfl rfl rfl (by decide)) ?_
       refine AQ.c (x := eU8 (w8 ((p0.tmod (16 : Int)) + (1 : Int)))) (Calm.int rfl rfl rfl rfl) ?_
       obtain ⟨hg13, h⟩ := of_guard h
       refine AQ.c (x := eStr (x3.extract (p0.tmod (16 : Int)).toNat (w8 ((p0.tmod (16 : Int)) + (1 : Int))).toNat)) (Calm.sliceS rfl rfl rfl rfl hg13 Try.underlying9) ?_
       obtain ⟨hg14, h⟩ := of_guard h
       refine AQ.c (x := eStr (((ByteArray.mk #[92, 120]) ++ (x3.extract (IntKind.u8.wrap (p0.tdiv (16 : Int))).toNat (w8 ((IntKind.u8.wrap (p0.tdiv (16 : Int))) + (1 : Int))).toNat)) ++ (x3.extract (p0.tmod (16 : Int)).toNat (w8 ((p0.tmod (16 : Int)) + (1 : Int))).toNat))) (Calm.cat rfl rfl rfl hg14) ?_
       refine AQ.c (Calm.assign rfl rfl) ?_
       refine AQ.nK [4] ?_
       refine AW.rK [4] ?_
       have hr := Option.some.inj h
       subst hr
       exact ⟨[(eStr (((ByteArray.mk #[92, 120]) ++ (x3.extract (IntKind.u8.wrap (p0.tdiv (16 : Int))).toNat (w8 ((IntKind.u8.wrap (p0.tdiv (16 : Int))) + (1 : Int))).toNat)) ++ (x3.extract (p0.tmod (16 : Int)).toNat (w8 ((p0.tmod (16 : Int)) + (1 : Int))).toNat)))], ⟨rfl, rfl, trivial⟩, rfl⟩
      ·refine AW.condF' _ rfl hc10 ?_
       refine AW.seq ?_
       obtain ⟨b15, hq16, h⟩ := of_bind h
       refine AW.regM [(0, (eU8 p0)), (38, (eBool b15))] [] ?_ ?_
       ·refine AO.c (Calm.move rfl rfl) ?_
        refine AO.c (x := eBool (decide (p0 = (92 : Int)))) (Calm.int rfl rfl rfl rfl) ?_
        refine AO.c (Calm.move rfl rfl) ?_
        rcases of_ite hq16 with ⟨hc17, hq16⟩ | ⟨hc17, hq16⟩
        ·refine AO.sF rfl rfl (bD (decide_eq_true hc17)) ?_
         refine AO.sF rfl rfl (bD (decide_eq_true hc17)) ?_
         refine AO.sF rfl rfl (bD (decide_eq_true hc17)) ?_
         refine AO.c (Calm.pickT rfl (bD (decide_eq_true hc17)) rfl) ?_
         refine AO.c (Calm.assign rfl rfl) ?_
         cases hq16
         refine AO.nilE ⟨rfl, rfl⟩ ?_ ?_
         · exact ⟨rfl, rfl, trivial⟩
         · exact (Sub.refl _)
        ·refine AO.cG rfl rfl (bD (decide_eq_false hc17)) (Calm.move rfl rfl) ?_
         refine AO.cG rfl rfl (bD (decide_eq_false hc17)) (Calm.move rfl rfl) ?_
         obtain ⟨t18, et18, hq16⟩ := of_bind hq16
         refine AO.callG 2 false 41 [(eStr p1), (eU8 p0)] (eBool t18) 44 rfl (by decide) ok97 rfl rfl (bD (decide_eq_false hc17)) rfl rfl ⟨rfl, rfl, rfl, rfl, trivial⟩ (bosketref03_in_spec et18) ?_
         refine AO.c (Calm.pickF rfl (bD (decide_eq_false hc17)) rfl) ?_
         refine AO.c (Calm.assign rfl rfl) ?_
         cases hq16
         refine AO.nilE ⟨rfl, rfl⟩ ?_ ?_
         · exact ⟨rfl, rfl, trivial⟩
         · exact (Sub.refl _)
       ·rcases of_ite h with ⟨hc19, h⟩ | ⟨hc19, h⟩
        ·refine AW.condT' _ rfl hc19 ?_
         refine AW.sr ?_
         refine AO.c (Calm.move rfl rfl) ?_
         refine AO.lit (Z := (eU8 (0 : Int))) (xs := (([p0] : List Int).map eU8)) (qs := [(0, (eU8 p0))]) rfl 47 rfl (by decide) rfl ⟨rfl, rfl, rfl, trivial⟩ Try.underlying84 sz5 zr5 lay5 rfl (by decide) (litOK (z := 1) [(eU8 p0)] rfl ⟨⟨rfl, rfl⟩, trivial⟩) rfl fun n20 => ?_
         refine AO.c (x := eStr (strOfNums ([p0] : List Int))) (Calm.strO 0 rfl rfl rfl Try.underlying84 Try.underlying9 Try.underlying5) ?_
         obtain ⟨hg21, h⟩ := of_guard h
         refine AO.c (x := eStr ((ByteArray.mk #[92]) ++ (strOfNums ([p0] : List Int)))) (Calm.cat rfl rfl rfl hg21) ?_
         refine AO.c (Calm.assign rfl rfl) ?_
         refine AO.nH [4] (H' := []) (Sub.nil _) ?_
         refine AW.rK [4] ?_
         have hr := Option.some.inj h
         subst hr
         exact ⟨[(eStr ((ByteArray.mk #[92]) ++ (strOfNums ([p0] : List Int))))], ⟨rfl, rfl, trivial⟩, rfl⟩
        ·refine AW.condF' _ rfl hc19 ?_
         refine AW.sK [0] ?_
         refine AW.sr ?_
         refine AO.c (Calm.move rfl rfl) ?_
         refine AO.lit (Z := (eU8 (0 : Int))) (xs := (([p0] : List Int).map eU8)) (qs := [(0, (eU8 p0))]) rfl 51 rfl (by decide) rfl ⟨rfl, rfl, rfl, trivial⟩ Try.underlying84 sz5 zr5 lay5 rfl (by decide) (litOK (z := 1) [(eU8 p0)] rfl ⟨⟨rfl, rfl⟩, trivial⟩) rfl fun n22 => ?_
         refine AO.c (x := eStr (strOfNums ([p0] : List Int))) (Calm.strO 0 rfl rfl rfl Try.underlying84 Try.underlying9 Try.underlying5) ?_
         refine AO.c (Calm.assign rfl rfl) ?_
         refine AO.nH [4] (H' := []) (Sub.nil _) ?_
         refine AW.rK [4] ?_
         have hr := Option.some.inj h
         subst hr
         exact ⟨[(eStr (strOfNums ([p0] : List Int)))], ⟨rfl, rfl, trivial⟩, rfl⟩
end Go.Avl.T2
/- bosket/bosketref03.Quote; printed by avmain.py. -/
namespace Go.Avl.T2
open Go Go.RowKit Go.Proofs Go.Avl
set_option linter.unusedVariables false
set_option maxRecDepth 100000
set_option maxHeartbeats 4000000
attribute [local irreducible] AW AO AQ Spec SpecH Calm

def bosketref03_Quote_c0 (k : Nat) (p1 : Int) (x4 : ByteArray) : Option ByteArray :=
  if x4.size + (strOfNums ([p1] : List Int)).size ≤ 9223372036854775807 then some ((x4 ++ (strOfNums ([p1] : List Int))))
  else none
def bosketref03_Quote_l1 (k : Nat) (p0 : ByteArray) (p1 : Int) : Nat → ByteArray → Int → Option ByteArray
  | 0, _, _ => none
  | j + 1, x7, x8 =>
    if x8 < (p0.size : Int) then if 0 ≤ x8 ∧ x8 < (p0.size : Int) then (bosketref03_Byte k (byteAt p0 x8) (strOfNums ([p1] : List Int))).bind fun t14 =>
    if x7.size + t14.size ≤ 9223372036854775807 then (bosketref03_Quote_l1 k p0 p1 j) (x7 ++ t14) (w64 (x8 + (1 : Int)))
    else none
    else none
    else bosketref03_Quote_c0 k p1 x7
def bosketref03_Quote (k : Nat) (p0 : ByteArray) (p1 : Int) : Option ByteArray :=
  bosketref03_Quote_l1 k p0 p1 k (strOfNums ([p1] : List Int)) (0 : Int)
theorem bosketref03_Quote_spec {k : Nat} {p0 : ByteArray} {p1 : Int} {r : ByteArray} (h : bosketref03_Quote k p0 p1 = some r) : Spec Try.prog 61 [(eStr p0), (eU8 p1)] (eStr r) := by
  rw [bosketref03_Quote.eq_1] at h
  refine Spec.intro (res := [.tmp 4]) Try.func61 rfl rfl rfl (Nat.le_of_ble_eq_true rfl) ?_
  refine AW.sr ?_
  refine AO.c (Calm.assign rfl rfl) ?_
  refine AO.nK [0, 1] ?_
  refine AW.sr ?_
  refine AO.c (Calm.move rfl rfl) ?_
  refine AO.lit (Z := (eU8 (0 : Int))) (xs := (([p1] : List Int).map eU8)) (qs := [(0, (eU8 p1))]) rfl 8 rfl (by decide) rfl ⟨rfl, rfl, rfl, trivial⟩ Try.underlying84 sz5 zr5 lay5 rfl (by decide) (litOK (z := 1) [(eU8 p1)] rfl ⟨⟨rfl, rfl⟩, trivial⟩) rfl fun n3 => ?_
  refine AO.c (x := eStr (strOfNums ([p1] : List Int))) (Calm.strO 0 rfl rfl rfl Try.underlying84 Try.underlying9 Try.underlying5) ?_
  refine AO.c (Calm.assign rfl rfl) ?_
  refine AO.nH [0, 1, 5] (H' := []) (Sub.nil _) ?_
  refine AW.seq_mid (fun ρ H => ∃ (x4 : ByteArray), ρ = [(1, (eU8 p1)), (5, (eStr x4))] ∧ H = [] ∧ bosketref03_Quote_c0 k p1 x4 = some r) ?_ ?_
  ·refine AW.sr ?_
   refine AO.c (Calm.assign rfl rfl) ?_
   refine AO.nK [0, 1, 5, 6] ?_
   refine AW.block ?_
   refine AW.wK [0, 1, 5, 6] ?_
   refine AW.loop (fun kq ρ H => ∃ (x7 : ByteArray) (x8 : Int), ρ = [(0, (eStr p0)), (1, (eU8 p1)), (5, (eStr x7)), (6, (eI64 x8))] ∧ H = [] ∧ bosketref03_Quote_l1 k p0 p1 kq x7 x8 = some r) k ⟨(strOfNums ([p1] : List Int)), (0 : Int), rfl, rfl, h⟩ ?_
   rintro kq10 _ _ ⟨x7, x8, rfl, rfl, h⟩
   cases kq10 with
   | zero => rw [bosketref03_Quote_l1.eq_1] at h; cases h
   | succ kq10 =>
   rw [bosketref03_Quote_l1.eq_2] at h
   generalize hrec9 : bosketref03_Quote_l1 k p0 p1 kq10 = rec9 at h
   refine AW.seq ?_
   refine AW.sr ?_
   refine AO.c (Calm.move rfl rfl) ?_
   refine AO.c (Calm.move rfl rfl) ?_
   refine AO.c (Calm.lenStr rfl rfl Try.underlying9) ?_
   refine AO.c (x := eBool (decide (x8 < (p0.size : Int)))) (Calm.int rfl rfl rfl rfl) ?_
   refine AO.nK [0, 1, 5, 6, 13] ?_
   rcases of_ite h with ⟨hc11, h⟩ | ⟨hc11, h⟩
   ·refine AW.condP _ rfl hc11 ?_
    refine AW.sK [0, 1, 5, 6] ?_
    refine AW.seq ?_
    refine AW.block ?_
    obtain ⟨hg12, h⟩ := of_guard h
    obtain ⟨t14, et14, h⟩ := of_bind h
    obtain ⟨hg15, h⟩ := of_guard h
    refine AW.regAny (by rfl) (by decide +kernel) [(eStr x7), (eStr p0), (eI64 x8), (eU8 (byteAt p0 x8)), (eU8 p1), (.fz 1 (([p1] : List Int).map eU8)), (eStr (strOfNums ([p1] : List Int))), (eStr t14), (eStr (x7 ++ t14)), (eStr (x7 ++ t14))] [(0, (eStr p0)), (1, (eU8 p1)), (5, (eStr x7)), (6, (eI64 x8))] ⟨rfl, rfl, rfl, rfl, trivial⟩ rfl ?_ [(0, (eStr p0)), (1, (eU8 p1)), (5, (eStr (x7 ++ t14))), (6, (eI64 x8))] [] ⟨rfl, rfl, rfl, rfl, trivial⟩ (Sub.refl _) ?_
    ·refine ⟨?_, ?_, ?_, ?_, ?_, ?_, ?_, ?_, ?_, ?_, trivial⟩
     ·refine AO.wK [5] ?_
      refine AO.c (Calm.move rfl rfl) ?_
      exact AO.nE (d := 16) rfl ⟨⟨_, rfl, rfl⟩, Sub.refl _⟩
     ·refine AO.wK [0] ?_
      refine AO.c (Calm.move rfl rfl) ?_
      exact AO.nE (d := 17) rfl ⟨⟨_, rfl, rfl⟩, Sub.refl _⟩
     ·refine AO.wK [6] ?_
      refine AO.c (Calm.move rfl rfl) ?_
      exact AO.nE (d := 18) rfl ⟨⟨_, rfl, rfl⟩, Sub.refl _⟩
     ·refine AO.wK [17, 18] ?_
      refine AO.c (x := eU8 (byteAt p0 x8)) (Calm.idxS rfl rfl rfl hg12 Try.underlying9) ?_
      exact AO.nE (d := 19) rfl ⟨⟨_, rfl, rfl⟩, Sub.refl _⟩
     ·refine AO.wK [1] ?_
      refine AO.c (Calm.move rfl rfl) ?_
      exact AO.nE (d := 20) rfl ⟨⟨_, rfl, rfl⟩, Sub.refl _⟩
     ·refine AO.wK [20] ?_
      refine AO.lit (Z := (eU8 (0 : Int))) (xs := (([p1] : List Int).map eU8)) (qs := [(0, (eU8 p1))]) rfl 21 rfl (by decide) rfl ⟨rfl, rfl, rfl, trivial⟩ Try.underlying84 sz5 zr5 lay5 rfl (by decide) (litOK (z := 1) [(eU8 p1)] rfl ⟨⟨rfl, rfl⟩, trivial⟩) rfl fun n13 => ?_
      refine AO.freezeS 0 [(21, (.fz 1 (([p1] : List Int).map eU8)))] rfl ⟨fz_all rfl, trivial⟩ ?_
      exact AO.nE (d := 21) rfl ⟨⟨_, rfl, rfl⟩, Sub.refl _⟩
     ·refine AO.wK [21] ?_
      refine AO.c (x := eStr (strOfNums ([p1] : List Int))) (Calm.strL rfl rfl Try.underlying84 Try.underlying9 Try.underlying5) ?_
      exact AO.nE (d := 22) rfl ⟨⟨_, rfl, rfl⟩, Sub.refl _⟩
     ·refine AO.wK [19, 22] ?_
      refine AO.callS [(eU8 (byteAt p0 x8)), (eStr (strOfNums ([p1] : List Int)))] (eStr t14) 23 rfl (by decide) ok82 rfl rfl rfl ⟨rfl, rfl, rfl, rfl, trivial⟩ (bosketref03_Byte_spec et14) ?_
      exact AO.nE (d := 23) rfl ⟨⟨_, rfl, rfl⟩, Sub.refl _⟩
     ·refine AO.wK [16, 23] ?_
      refine AO.c (x := eStr (x7 ++ t14)) (Calm.cat rfl rfl rfl hg15) ?_
      exact AO.nE (d := 24) rfl ⟨⟨_, rfl, rfl⟩, Sub.refl _⟩
     ·refine AO.wK [24] ?_
      refine AO.c (Calm.assign rfl rfl) ?_
      exact AO.nE (d := 5) rfl ⟨⟨_, rfl, rfl⟩, Sub.refl _⟩
    ·refine AW.reg ?_
     refine AO.c (Calm.move rfl rfl) ?_
     refine AO.c (x := eI64 (w64 (x8 + (1 : Int)))) (Calm.int rfl rfl rfl rfl) ?_
     refine AO.c (Calm.assign rfl rfl) ?_
     refine AO.nK [0, 1, 5, 6] ?_
     exact ⟨kq10, Nat.lt_succ_self _, (x7 ++ t14), (w64 (x8 + (1 : Int))), rfl, rfl, by rw [hrec9]; exact h⟩
   ·refine AW.condN _ rfl hc11 ?_
    refine AW.eK [1, 5] ?_
    exact ⟨x7, rfl, rfl, h⟩
  ·rintro _ _ ⟨x4, rfl, rfl, h⟩
   rw [bosketref03_Quote_c0.eq_1] at h
   refine AW.sr ?_
   refine AO.c (Calm.move rfl rfl) ?_
   refine AO.c (Calm.move rfl rfl) ?_
   refine AO.lit (Z := (eU8 (0 : Int))) (xs := (([p1] : List Int).map eU8)) (qs := [(0, (eU8 p1))]) rfl 27 rfl (by decide) rfl ⟨rfl, rfl, rfl, trivial⟩ Try.underlying84 sz5 zr5 lay5 rfl (by decide) (litOK (z := 1) [(eU8 p1)] rfl ⟨⟨rfl, rfl⟩, trivial⟩) rfl fun n5 => ?_
   refine AO.c (x := eStr (strOfNums ([p1] : List Int))) (Calm.strO 0 rfl rfl rfl Try.underlying84 Try.underlying9 Try.underlying5) ?_
   obtain ⟨hg6, h⟩ := of_guard h
   refine AO.c (x := eStr (x4 ++ (strOfNums ([p1] : List Int)))) (Calm.cat rfl rfl rfl hg6) ?_
   refine AO.c (Calm.assign rfl rfl) ?_
   refine AO.nH [4] (H' := []) (Sub.nil _) ?_
   refine AW.rK [4] ?_
   have hr := Option.some.inj h
   subst hr
   exact ⟨[(eStr (x4 ++ (strOfNums ([p1] : List Int))))], ⟨rfl, rfl, trivial⟩, rfl⟩
end Go.Avl.T2
/- bosket/escape.value; printed by avmain.py. -/
namespace Go.Avl.T2
open Go Go.RowKit Go.Proofs Go.Avl
set_option linter.unusedVariables false
set_option maxRecDepth 100000
set_option maxHeartbeats 4000000
attribute [local irreducible] AW AO AQ Spec SpecH Calm

def escape_value (k : Nat) (p0 : Int) : Option Int :=
  Option.bind (α := Bool) (if (48 : Int) ≤ p0 then some (decide (p0 ≤ (57 : Int)))
  else some (false)) fun b2 =>
  if b2 = true then some ((w64 (w8 (p0 - (48 : Int)))))
  else Option.bind (α := Bool) (if (97 : Int) ≤ p0 then some (decide (p0 ≤ (102 : Int)))
  else some (false)) fun b6 =>
  if b6 = true then some ((w64 ((w64 (w8 (p0 - (97 : Int)))) + (10 : Int))))
  else some ((-1 : Int))
theorem escape_value_spec {k : Nat} {p0 : Int} {r : Int} (h : escape_value k p0 = some r) : Spec Try.prog 98 [(eU8 p0)] (eI64 r) := by
  rw [escape_value.eq_1] at h
  refine Spec.intro (res := [.tmp 2]) Try.func98 rfl rfl rfl (Nat.le_of_ble_eq_true rfl) ?_
  refine AW.sr ?_
  refine AO.c (Calm.assign rfl rfl) ?_
  refine AO.nK [0] ?_
  refine AW.seq ?_
  refine AW.block ?_
  refine AW.seq ?_
  obtain ⟨b2, hq3, h⟩ := of_bind h
  refine AW.regM [(0, (eU8 p0)), (3, (eBool b2))] [] ?_ ?_
  ·refine AO.c (Calm.move rfl rfl) ?_
   refine AO.c (x := eBool (decide ((48 : Int) ≤ p0))) (Calm.int rfl rfl rfl rfl) ?_
   refine AO.c (Calm.move rfl rfl) ?_
   rcases of_ite hq3 with ⟨hc4, hq3⟩ | ⟨hc4, hq3⟩
   ·refine AO.cG rfl rfl (bD (decide_eq_true hc4)) (Calm.move rfl rfl) ?_
    refine AO.cG (x := eBool (decide (p0 ≤ (57 : Int)))) rfl rfl (bD (decide_eq_true hc4)) (Calm.int rfl rfl rfl rfl) ?_
    refine AO.c (Calm.pickT rfl (bD (decide_eq_true hc4)) rfl) ?_
    refine AO.c (Calm.assign rfl rfl) ?_
    cases hq3
    refine AO.nilE ⟨rfl, rfl⟩ ?_ ?_
    · exact ⟨rfl, rfl, trivial⟩
    · exact (Sub.refl _)
   ·refine AO.sT rfl rfl (bD (decide_eq_false hc4)) ?_
    refine AO.sT rfl rfl (bD (decide_eq_false hc4)) ?_
    refine AO.c (Calm.pickF rfl (bD (decide_eq_false hc4)) rfl) ?_
    refine AO.c (Calm.assign rfl rfl) ?_
    cases hq3
    refine AO.nilE ⟨rfl, rfl⟩ ?_ ?_
    · exact ⟨rfl, rfl, trivial⟩
    · exact (Sub.refl _)
  ·rcases of_ite h with ⟨hc5, h⟩ | ⟨hc5, h⟩
   ·refine AW.condT' _ rfl hc5 ?_
    refine AW.sr ?_
    refine AO.c (Calm.move rfl rfl) ?_
    refine AO.c (x := eU8 (w8 (p0 - (48 : Int)))) (Calm.int rfl rfl rfl rfl) ?_
    refine AO.c (x := eI64 (w64 (w8 (p0 - (48 : Int))))) (Calm.conv rfl rfl Try.underlying5 Try.underlying3) ?_
    refine AO.c (Calm.assign rfl rfl) ?_
    refine AO.nK [2] ?_
    refine AW.rK [2] ?_
    have hr := Option.some.inj h
    subst hr
    exact ⟨[(eI64 (w64 (w8 (p0 - (48 : Int)))))], ⟨rfl, rfl, trivial⟩, rfl⟩
   ·refine AW.condF' _ rfl hc5 ?_
    refine AW.seq ?_
    obtain ⟨b6, hq7, h⟩ := of_bind h
    refine AW.regM [(0, (eU8 p0)), (13, (eBool b6))] [] ?_ ?_
    ·refine AO.c (Calm.move rfl rfl) ?_
     refine AO.c (x := eBool (decide ((97 : Int) ≤ p0))) (Calm.int rfl rfl rfl rfl) ?_
     refine AO.c (Calm.move rfl rfl) ?_
     rcases of_ite hq7 with ⟨hc8, hq7⟩ | ⟨hc8, hq7⟩
     ·refine AO.cG rfl rfl (bD (decide_eq_true hc8)) (Calm.move rfl rfl) ?_
      refine AO.cG (x := eBool (decide (p0 ≤ (102 : Int)))) rfl rfl (bD (decide_eq_true hc8)) (Calm.int rfl rfl rfl rfl) ?_
      refine AO.c (Calm.pickT rfl (bD (decide_eq_true hc8)) rfl) ?_
      refine AO.c (Calm.assign rfl rfl) ?_
      cases hq7
      refine AO.nilE ⟨rfl, rfl⟩ ?_ ?_
      · exact ⟨rfl, rfl, trivial⟩
      · exact (Sub.refl _)
     ·refine AO.sT rfl rfl (bD (decide_eq_false hc8)) ?_
      refine AO.sT rfl rfl (bD (decide_eq_false hc8)) ?_
      refine AO.c (Calm.pickF rfl (bD (decide_eq_false hc8)) rfl) ?_
      refine AO.c (Calm.assign rfl rfl) ?_
      cases hq7
      refine AO.nilE ⟨rfl, rfl⟩ ?_ ?_
      · exact ⟨rfl, rfl, trivial⟩
      · exact (Sub.refl _)
    ·rcases of_ite h with ⟨hc9, h⟩ | ⟨hc9, h⟩
     ·refine AW.condT' _ rfl hc9 ?_
      refine AW.sr ?_
      refine AO.c (Calm.move rfl rfl) ?_
      refine AO.c (x := eU8 (w8 (p0 - (97 : Int)))) (Calm.int rfl rfl rfl rfl) ?_
      refine AO.c (x := eI64 (w64 (w8 (p0 - (97 : Int))))) (Calm.conv rfl rfl Try.underlying5 Try.underlying3) ?_
      refine AO.c (x := eI64 (w64 ((w64 (w8 (p0 - (97 : Int)))) + (10 : Int)))) (Calm.int rfl rfl rfl rfl) ?_
      refine AO.c (Calm.assign rfl rfl) ?_
      refine AO.nK [2] ?_
      refine AW.rK [2] ?_
      have hr := Option.some.inj h
      subst hr
      exact ⟨[(eI64 (w64 ((w64 (w8 (p0 - (97 : Int)))) + (10 : Int))))], ⟨rfl, rfl, trivial⟩, rfl⟩
     ·refine AW.condF' _ rfl hc9 ?_
      refine AW.sK [] ?_
      refine AW.sr ?_
      refine AO.c (Calm.assign rfl rfl) ?_
      refine AO.nK [2] ?_
      refine AW.rK [2] ?_
      have hr := Option.some.inj h
      subst hr
      exact ⟨[(eI64 (-1 : Int))], ⟨rfl, rfl, trivial⟩, rfl⟩
end Go.Avl.T2
