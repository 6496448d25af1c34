/- Parts: TFB, TFf27, TFf29, TFf24, TFf19, TFf13, TFf21, TFf15, TFf11, TFf20, TFf14, TFf10, TFf4, TFf5, TFf16, TFf12, TFf6, TFf7, TFf8, TFf9, TFf3. -/
import Derived.Test.YtmgiffbobkgcmaaDoorAv2
import Derived.Test.YtmgiffbobkgcmaaDoorProg
import Derived.Tactics
import Derived.Tactics2
import Derived.Laws.RangeString
import Derived.Laws.RangeAny
import Derived.Laws.Closers25
import Derived.Laws.Closers25b
import Derived.Scope
import Derived.FnLit
import Derived.LoopTactic
/- Types and facts; printed by avmain.py. -/
namespace Go.Avl.TF
open Go Go.RowKit Go.Proofs Go.Avl
set_option linter.unusedVariables false
set_option maxRecDepth 100000
set_option maxHeartbeats 4000000
structure S31 where
  f0 : Int
  f1 : Int
deriving Inhabited, DecidableEq
abbrev e31 (x : S31) : AV := .st [(1, (eI64 x.f0)), (1, (eI64 x.f1))]
abbrev e23 (l : List ByteArray) : AV := .fz 1 (l.map eStr)
theorem xok32 : ExtOK Tryd.prog 32 Go.Extern.BytealgIndexByte.indexByte := ⟨_, Tryd.func32, by kernel_rfl, by kernel_rfl, by kernel_rfl, by kernel_rfl⟩
theorem ok27 : FnOK Tryd.prog 27 := FnOK.mk Tryd.func27 rfl rfl
theorem ok24 : FnOK Tryd.prog 24 := FnOK.mk Tryd.func24 rfl rfl
theorem xok18 : ExtOK Tryd.prog 18 Go.Extern.BytealgCount.count := ⟨_, Tryd.func18, by kernel_rfl, by kernel_rfl, by kernel_rfl, by kernel_rfl⟩
theorem ok19 : FnOK Tryd.prog 19 := FnOK.mk Tryd.func19 rfl rfl
theorem ok21 : FnOK Tryd.prog 21 := FnOK.mk Tryd.func21 rfl rfl
theorem zr31 : tyZero Tryd.prog 31 = some (([.int .i64 0] ++ ([.int .i64 0] ++ []))) := by rfl
theorem lay31 : ∀ g, Sim g (.st [(1, (eI64 (0 : Int))), (1, (eI64 (0 : Int)))]) (([.int .i64 0] ++ ([.int .i64 0] ++ []))) := fun g => (Sim.stCons (lay_fl rfl) rfl (Sim.stCons (lay_fl rfl) rfl Sim.stNil))
theorem ok13 : FnOK Tryd.prog 13 := FnOK.mk Tryd.func13 rfl rfl
theorem ok15 : FnOK Tryd.prog 15 := FnOK.mk Tryd.func15 rfl rfl
theorem sz31 : tySize Tryd.prog 31 = some 2 := by rfl
theorem ag31 : tyAgg Tryd.prog 31 = some true := by rfl
theorem sz5 : tySize Tryd.prog 5 = some 1 := by rfl
theorem zr5 : tyZero Tryd.prog 5 = some ([.int .u8 0]) := by rfl
theorem lay5 : ∀ g, Sim g (eU8 (0 : Int)) ([.int .u8 0]) := fun g => (lay_fl rfl)
theorem ok20 : FnOK Tryd.prog 20 := FnOK.mk Tryd.func20 rfl rfl
theorem sz3 : tySize Tryd.prog 3 = some 1 := by rfl
theorem ag3 : tyAgg Tryd.prog 3 = some false := by rfl
theorem ok14 : FnOK Tryd.prog 14 := FnOK.mk Tryd.func14 rfl rfl
theorem ok11 : FnOK Tryd.prog 11 := FnOK.mk Tryd.func11 rfl rfl
theorem ok10 : FnOK Tryd.prog 10 := FnOK.mk Tryd.func10 rfl rfl
theorem sz9 : tySize Tryd.prog 9 = some 1 := by rfl
theorem zr9 : tyZero Tryd.prog 9 = some ([.string ByteArray.empty]) := by rfl
theorem lay9 : ∀ g, Sim g (eStr ByteArray.empty) ([.string ByteArray.empty]) := fun g => (lay_fl rfl)
theorem by9 : tyBytes Tryd.prog 9 = some 16 := by rfl
theorem ok16 : FnOK Tryd.prog 16 := FnOK.mk Tryd.func16 rfl rfl
theorem ok12 : FnOK Tryd.prog 12 := FnOK.mk Tryd.func12 rfl rfl
theorem ag9 : tyAgg Tryd.prog 9 = some false := by rfl
theorem ok4 : FnOK Tryd.prog 4 := FnOK.mk Tryd.func4 rfl rfl
theorem ok5 : FnOK Tryd.prog 5 := FnOK.mk Tryd.func5 rfl rfl
theorem ok6 : FnOK Tryd.prog 6 := FnOK.mk Tryd.func6 rfl rfl
theorem ok7 : FnOK Tryd.prog 7 := FnOK.mk Tryd.func7 rfl rfl
theorem ok8 : FnOK Tryd.prog 8 := FnOK.mk Tryd.func8 rfl rfl
theorem ok9 : FnOK Tryd.prog 9 := FnOK.mk Tryd.func9 rfl rfl
end Go.Avl.TF
/- internal/stringslite.IndexByte; printed by avmain.py. -/
namespace Go.Avl.TF
open Go Go.RowKit Go.Proofs Go.Avl
set_option linter.unusedVariables false
set_option maxRecDepth 100000
set_option maxHeartbeats 4000000
attribute [local irreducible] AW AO AQ Spec SpecH Calm

def internal_stringslite_IndexByte (k : Nat) (p0 : ByteArray) (p1 : Int) : Option Int :=
  some ((idxByte p0 p1))
theorem internal_stringslite_IndexByte_spec {k : Nat} {p0 : ByteArray} {p1 : Int} {r : Int} (h : internal_stringslite_IndexByte k p0 p1 = some r) : Spec Tryd.prog 27 [(eStr p0), (eU8 p1)] (eI64 r) := by
  rw [internal_stringslite_IndexByte.eq_1] at h
  refine Spec.intro (res := [.tmp 4]) Tryd.func27 rfl rfl rfl (Nat.le_of_ble_eq_true rfl) ?_
  refine AW.sr ?_
  refine AO.c (Calm.assign rfl rfl) ?_
  refine AO.nK [0, 1] ?_
  refine AW.sr ?_
  refine AO.c (Calm.move rfl rfl) ?_
  refine AO.c (Calm.move rfl rfl) ?_
  refine AO.c (x := eI64 (idxByte p0 p1)) (Calm.ext [(eStr p0), (eU8 p1)] [(.string p0), (.int .u8 p1)] rfl rfl xok32 ⟨rfl, rfl, rfl, rfl, trivial⟩ rfl (fun w => run_idxByte p0 p1 w)) ?_
  refine AO.c (Calm.assign rfl rfl) ?_
  refine AO.nK [4] ?_
  refine AW.rK [4] ?_
  have hr := Option.some.inj h
  subst hr
  exact ⟨[(eI64 (idxByte p0 p1))], ⟨rfl, rfl, trivial⟩, rfl⟩
end Go.Avl.TF
/- internal/bytealg.Cutover; printed by avmain.py. -/
namespace Go.Avl.TF
open Go Go.RowKit Go.Proofs Go.Avl
set_option linter.unusedVariables false
set_option maxRecDepth 100000
set_option maxHeartbeats 4000000
attribute [local irreducible] AW AO AQ Spec SpecH Calm

end Go.Avl.TF
/- internal/stringslite.Index; printed by avmain.py. -/
namespace Go.Avl.TF
open Go Go.RowKit Go.Proofs Go.Avl
set_option linter.unusedVariables false
set_option maxRecDepth 100000
set_option maxHeartbeats 4000000
attribute [local irreducible] AW AO AQ Spec SpecH Calm

def internal_stringslite_Index (k : Nat) (p0 : ByteArray) (p1 : ByteArray) : Option Int :=
  Option.bind (α := Bool) (if (p1.size : Int) = (0 : Int) then some (true)
  else some (decide (p1 = p0))) fun b3 =>
  if b3 = true then some ((0 : Int))
  else if (p1.size : Int) = (1 : Int) then if 0 ≤ (0 : Int) ∧ (0 : Int) < (p1.size : Int) then (internal_stringslite_IndexByte k p0 (byteAt p1 (0 : Int))).bind fun t9 =>
  some (t9)
  else none
  else if (p0.size : Int) ≤ (p1.size : Int) then some ((-1 : Int))
  else none
theorem internal_stringslite_Index_spec {k : Nat} {p0 : ByteArray} {p1 : ByteArray} {r : Int} (h : internal_stringslite_Index k p0 p1 = some r) : Spec Tryd.prog 24 [(eStr p0), (eStr p1)] (eI64 r) := by
  rw [internal_stringslite_Index.eq_1] at h
  refine Spec.intro (res := [.tmp 4]) Tryd.func24 rfl rfl rfl (Nat.le_of_ble_eq_true rfl) ?_
  refine AW.sr ?_
  refine AO.c (Calm.assign rfl rfl) ?_
  refine AO.nK [0, 1] ?_
  refine AW.sr ?_
  refine AO.c (Calm.move rfl rfl) ?_
  refine AO.c (Calm.lenStr rfl rfl Tryd.underlying9) ?_
  refine AO.c (Calm.assign rfl rfl) ?_
  refine AO.nK [0, 1, 5] ?_
  refine AW.seq ?_
  refine AW.block ?_
  refine AW.seq ?_
  obtain ⟨b3, hq4, h⟩ := of_bind h
  refine AW.regM [(0, (eStr p0)), (1, (eStr p1)), (5, (eI64 (p1.size : Int))), (16, (eBool b3))] [] ?_ ?_
  ·refine AO.c (Calm.move rfl rfl) ?_
   refine AO.c (x := eBool (decide ((p1.size : Int) = (0 : Int)))) (Calm.int rfl rfl rfl rfl) ?_
   refine AO.c (Calm.move rfl rfl) ?_
   rcases of_ite hq4 with ⟨hc5, hq4⟩ | ⟨hc5, hq4⟩
   ·refine AO.sF rfl rfl (bD (decide_eq_true hc5)) ?_
    refine AO.sF rfl rfl (bD (decide_eq_true hc5)) ?_
    refine AO.sF rfl rfl (bD (decide_eq_true hc5)) ?_
    refine AO.c (Calm.pickT rfl (bD (decide_eq_true hc5)) rfl) ?_
    refine AO.c (Calm.assign rfl rfl) ?_
    cases hq4
    refine AO.nilE ⟨rfl, rfl⟩ ?_ ?_
    · exact ⟨rfl, rfl, rfl, rfl, trivial⟩
    · exact (Sub.refl _)
   ·refine AO.cG rfl rfl (bD (decide_eq_false hc5)) (Calm.move rfl rfl) ?_
    refine AO.cG rfl rfl (bD (decide_eq_false hc5)) (Calm.move rfl rfl) ?_
    refine AO.cG (x := eBool (decide (p1 = p0))) rfl rfl (bD (decide_eq_false hc5)) (Calm.str rfl rfl rfl rfl) ?_
    refine AO.c (Calm.pickF rfl (bD (decide_eq_false hc5)) rfl) ?_
    refine AO.c (Calm.assign rfl rfl) ?_
    cases hq4
    refine AO.nilE ⟨rfl, rfl⟩ ?_ ?_
    · exact ⟨rfl, rfl, rfl, rfl, trivial⟩
    · exact (Sub.refl _)
  ·rcases of_ite h with ⟨hc6, h⟩ | ⟨hc6, h⟩
   ·refine AW.condT' _ rfl hc6 ?_
    refine AW.sr ?_
    refine AO.c (Calm.assign rfl rfl) ?_
    refine AO.nK [4] ?_
    refine AW.rK [4] ?_
    have hr := Option.some.inj h
    subst hr
    exact ⟨[(eI64 (0 : Int))], ⟨rfl, rfl, trivial⟩, rfl⟩
   ·refine AW.condF' _ rfl hc6 ?_
    refine AW.sr ?_
    refine AO.c (Calm.move rfl rfl) ?_
    refine AO.c (x := eBool (decide ((p1.size : Int) = (1 : Int)))) (Calm.int rfl rfl rfl rfl) ?_
    refine AO.c (Calm.assign rfl rfl) ?_
    refine AO.nK [0, 1, 5, 24] ?_
    rcases of_ite h with ⟨hc7, h⟩ | ⟨hc7, h⟩
    ·refine AW.condP _ rfl hc7 ?_
     refine AW.sr ?_
     refine AO.c (Calm.move rfl rfl) ?_
     refine AO.c (Calm.move rfl rfl) ?_
     obtain ⟨hg8, h⟩ := of_guard h
     refine AO.c (x := eU8 (byteAt p1 (0 : Int))) (Calm.idxS rfl rfl rfl hg8 Tryd.underlying9) ?_
     obtain ⟨t9, et9, h⟩ := of_bind h
     refine AO.callS [(eStr p0), (eU8 (byteAt p1 (0 : Int)))] (eI64 t9) 30 rfl (by decide) ok27 rfl rfl rfl ⟨rfl, rfl, rfl, rfl, trivial⟩ (internal_stringslite_IndexByte_spec et9) ?_
     refine AO.c (Calm.assign rfl rfl) ?_
     refine AO.nK [4] ?_
     refine AW.rK [4] ?_
     have hr := Option.some.inj h
     subst hr
     exact ⟨[(eI64 t9)], ⟨rfl, rfl, trivial⟩, rfl⟩
    ·refine AW.condN _ rfl hc7 ?_
     refine AW.sr ?_
     refine AO.c (Calm.move rfl rfl) ?_
     refine AO.c (Calm.move rfl rfl) ?_
     refine AO.c (Calm.lenStr rfl rfl Tryd.underlying9) ?_
     refine AO.c (x := eBool (decide ((p0.size : Int) ≤ (p1.size : Int)))) (Calm.int rfl rfl rfl rfl) ?_
     refine AO.c (Calm.assign rfl rfl) ?_
     refine AO.nK [0, 1, 5, 31] ?_
     rcases of_ite h with ⟨hc10, h⟩ | ⟨hc10, h⟩
     ·refine AW.condP _ rfl hc10 ?_
      refine AW.sr ?_
      refine AO.c (Calm.assign rfl rfl) ?_
      refine AO.nK [4] ?_
      refine AW.rK [4] ?_
      have hr := Option.some.inj h
      subst hr
      exact ⟨[(eI64 (-1 : Int))], ⟨rfl, rfl, trivial⟩, rfl⟩
     ·cases h
end Go.Avl.TF
/- strings.Index; printed by avmain.py. -/
namespace Go.Avl.TF
open Go Go.RowKit Go.Proofs Go.Avl
set_option linter.unusedVariables false
set_option maxRecDepth 100000
set_option maxHeartbeats 4000000
attribute [local irreducible] AW AO AQ Spec SpecH Calm

def strings_Index (k : Nat) (p0 : ByteArray) (p1 : ByteArray) : Option Int :=
  (internal_stringslite_Index k p0 p1).bind fun t3 =>
  some (t3)
theorem strings_Index_spec {k : Nat} {p0 : ByteArray} {p1 : ByteArray} {r : Int} (h : strings_Index k p0 p1 = some r) : Spec Tryd.prog 19 [(eStr p0), (eStr p1)] (eI64 r) := by
  rw [strings_Index.eq_1] at h
  refine Spec.intro (res := [.tmp 4]) Tryd.func19 rfl rfl rfl (Nat.le_of_ble_eq_true rfl) ?_
  refine AW.sr ?_
  refine AO.c (Calm.assign rfl rfl) ?_
  refine AO.nK [0, 1] ?_
  refine AW.sr ?_
  refine AO.c (Calm.move rfl rfl) ?_
  refine AO.c (Calm.move rfl rfl) ?_
  obtain ⟨t3, et3, h⟩ := of_bind h
  refine AO.callS [(eStr p0), (eStr p1)] (eI64 t3) 7 rfl (by decide) ok24 rfl rfl rfl ⟨rfl, rfl, rfl, rfl, trivial⟩ (internal_stringslite_Index_spec et3) ?_
  refine AO.c (Calm.assign rfl rfl) ?_
  refine AO.nK [4] ?_
  refine AW.rK [4] ?_
  have hr := Option.some.inj h
  subst hr
  exact ⟨[(eI64 t3)], ⟨rfl, rfl, trivial⟩, rfl⟩
end Go.Avl.TF
/- strings.Count; printed by avmain.py. -/
namespace Go.Avl.TF
open Go Go.RowKit Go.Proofs Go.Avl
set_option linter.unusedVariables false
set_option maxRecDepth 100000
set_option maxHeartbeats 4000000
attribute [local irreducible] AW AO AQ Spec SpecH Calm

def strings_Count_l0 (k : Nat) (p1 : ByteArray) : Nat → ByteArray → Int → Option Int
  | 0, _, _ => none
  | j + 1, x6, x7 =>
    (strings_Index k x6 p1).bind fun t10 =>
    if t10 = (-1 : Int) then some (x7)
    else if 0 ≤ (w64 (t10 + (p1.size : Int))) ∧ (w64 (t10 + (p1.size : Int))) ≤ (x6.size : Int) ∧ (x6.size : Int) ≤ (x6.size : Int) then (some (x6.extract (w64 (t10 + (p1.size : Int))).toNat (x6.size : Int).toNat)).bind fun x13 =>
    (strings_Count_l0 k p1 j) x13 (w64 (x7 + (1 : Int)))
    else none
def strings_Count (k : Nat) (p0 : ByteArray) (p1 : ByteArray) : Option Int :=
  if (p1.size : Int) = (0 : Int) then none
  else if (p1.size : Int) = (1 : Int) then if 0 ≤ (0 : Int) ∧ (0 : Int) < (p1.size : Int) then some ((cntByte p0 (byteAt p1 (0 : Int))))
  else none
  else strings_Count_l0 k p1 k p0 (0 : Int)
theorem strings_Count_spec {k : Nat} {p0 : ByteArray} {p1 : ByteArray} {r : Int} (h : strings_Count k p0 p1 = some r) : Spec Tryd.prog 13 [(eStr p0), (eStr p1)] (eI64 r) := by
  rw [strings_Count.eq_1] at h
  refine Spec.intro (res := [.tmp 4]) Tryd.func13 rfl rfl rfl (Nat.le_of_ble_eq_true rfl) ?_
  refine AW.sr ?_
  refine AO.c (Calm.assign rfl rfl) ?_
  refine AO.nK [0, 1] ?_
  refine AW.seq ?_
  refine AW.sr ?_
  refine AO.c (Calm.move rfl rfl) ?_
  refine AO.c (Calm.lenStr rfl rfl Tryd.underlying9) ?_
  refine AO.c (x := eBool (decide ((p1.size : Int) = (0 : Int)))) (Calm.int rfl rfl rfl rfl) ?_
  refine AO.nK [0, 1, 9] ?_
  rcases of_ite h with ⟨hc3, h⟩ | ⟨hc3, h⟩
  ·cases h
  ·refine AW.condN _ rfl hc3 ?_
   refine AW.sK [0, 1] ?_
   refine AW.seq ?_
   refine AW.sr ?_
   refine AO.c (Calm.move rfl rfl) ?_
   refine AO.c (Calm.lenStr rfl rfl Tryd.underlying9) ?_
   refine AO.c (x := eBool (decide ((p1.size : Int) = (1 : Int)))) (Calm.int rfl rfl rfl rfl) ?_
   refine AO.nK [0, 1, 15] ?_
   rcases of_ite h with ⟨hc4, h⟩ | ⟨hc4, h⟩
   ·refine AW.condP _ rfl hc4 ?_
    refine AW.sr ?_
    refine AO.c (Calm.move rfl rfl) ?_
    refine AO.c (Calm.move rfl rfl) ?_
    obtain ⟨hg5, h⟩ := of_guard h
    refine AO.c (x := eU8 (byteAt p1 (0 : Int))) (Calm.idxS rfl rfl rfl hg5 Tryd.underlying9) ?_
    refine AO.c (x := eI64 (cntByte p0 (byteAt p1 (0 : Int)))) (Calm.ext [(eStr p0), (eU8 (byteAt p1 (0 : Int)))] [(.string p0), (.int .u8 (byteAt p1 (0 : Int)))] rfl rfl xok18 ⟨rfl, rfl, rfl, rfl, trivial⟩ rfl (fun w => run_cntByte p0 (byteAt p1 (0 : Int)) w)) ?_
    refine AO.c (Calm.assign rfl rfl) ?_
    refine AO.nK [4] ?_
    refine AW.rK [4] ?_
    have hr := Option.some.inj h
    subst hr
    exact ⟨[(eI64 (cntByte p0 (byteAt p1 (0 : Int))))], ⟨rfl, rfl, trivial⟩, rfl⟩
   ·refine AW.condN _ rfl hc4 ?_
    refine AW.sK [0, 1] ?_
    refine AW.sr ?_
    refine AO.c (Calm.assign rfl rfl) ?_
    refine AO.nK [0, 1, 5] ?_
    refine AW.block ?_
    refine AW.wK [0, 1, 5] ?_
    refine AW.loop (fun kq ρ H => ∃ (x6 : ByteArray) (x7 : Int), ρ = [(0, (eStr x6)), (1, (eStr p1)), (5, (eI64 x7))] ∧ H = [] ∧ strings_Count_l0 k p1 kq x6 x7 = some r) k ⟨p0, (0 : Int), rfl, rfl, h⟩ ?_
    rintro kq9 _ _ ⟨x6, x7, rfl, rfl, h⟩
    cases kq9 with
    | zero => rw [strings_Count_l0.eq_1] at h; cases h
    | succ kq9 =>
    rw [strings_Count_l0.eq_2] at h
    generalize hrec8 : strings_Count_l0 k p1 kq9 = rec8 at h
    refine AW.block ?_
    refine AW.sr ?_
    refine AO.c (Calm.move rfl rfl) ?_
    refine AO.c (Calm.move rfl rfl) ?_
    obtain ⟨t10, et10, h⟩ := of_bind h
    refine AO.callS [(eStr x6), (eStr p1)] (eI64 t10) 22 rfl (by decide) ok19 rfl rfl rfl ⟨rfl, rfl, rfl, rfl, trivial⟩ (strings_Index_spec et10) ?_
    refine AO.c (Calm.assign rfl rfl) ?_
    refine AO.nK [0, 1, 5, 6] ?_
    refine AW.seq ?_
    refine AW.sr ?_
    refine AO.c (Calm.move rfl rfl) ?_
    refine AO.c (x := eBool (decide (t10 = (-1 : Int)))) (Calm.int rfl rfl rfl rfl) ?_
    refine AO.nK [0, 1, 5, 6, 24] ?_
    rcases of_ite h with ⟨hc11, h⟩ | ⟨hc11, h⟩
    ·refine AW.condP _ rfl hc11 ?_
     refine AW.sr ?_
     refine AO.c (Calm.move rfl rfl) ?_
     refine AO.c (Calm.assign rfl rfl) ?_
     refine AO.nK [4] ?_
     refine AW.rK [4] ?_
     have hr := Option.some.inj h
     subst hr
     exact ⟨[(eI64 x7)], ⟨rfl, rfl, trivial⟩, rfl⟩
    ·refine AW.condN _ rfl hc11 ?_
     refine AW.sK [0, 1, 5, 6] ?_
     refine AW.sr ?_
     refine AO.c (Calm.move rfl rfl) ?_
     refine AO.c (x := eI64 (w64 (x7 + (1 : Int)))) (Calm.int rfl rfl rfl rfl) ?_
     refine AO.c (Calm.assign rfl rfl) ?_
     refine AO.nK [0, 1, 5, 6] ?_
     refine AW.reg ?_
     refine AO.c (Calm.move rfl rfl) ?_
     refine AO.c (Calm.move rfl rfl) ?_
     refine AO.c (Calm.move rfl rfl) ?_
     refine AO.c (Calm.lenStr rfl rfl Tryd.underlying9) ?_
     refine AO.c (x := eI64 (w64 (t10 + (p1.size : Int)))) (Calm.int rfl rfl rfl rfl) ?_
     obtain ⟨hg12, h⟩ := of_guard h
     refine AO.c (x := eStr (x6.extract (w64 (t10 + (p1.size : Int))).toNat (x6.size : Int).toNat)) (Calm.sliceS rfl rfl rfl rfl hg12 Tryd.underlying9) ?_
     obtain ⟨x13, ex13, h⟩ := of_bind h
     refine AO.c (Calm.assign rfl (congrArg (fun x => some (eStr x)) (Option.some.inj ex13))) ?_
     refine AO.nK [0, 1, 5] ?_
     exact ⟨kq9, Nat.lt_succ_self _, x13, (w64 (x7 + (1 : Int))), rfl, rfl, by rw [hrec8]; exact h⟩
end Go.Avl.TF
/- internal/bytealg.LastIndexByteString; printed by avmain.py. -/
namespace Go.Avl.TF
open Go Go.RowKit Go.Proofs Go.Avl
set_option linter.unusedVariables false
set_option maxRecDepth 100000
set_option maxHeartbeats 4000000
attribute [local irreducible] AW AO AQ Spec SpecH Calm

def internal_bytealg_LastIndexByteString_c0 (k : Nat) : Option Int :=
  some ((-1 : Int))
def internal_bytealg_LastIndexByteString_l1 (k : Nat) (p0 : ByteArray) (p1 : Int) : Nat → Int → Option Int
  | 0, _ => none
  | j + 1, x3 =>
    if (0 : Int) ≤ x3 then if 0 ≤ x3 ∧ x3 < (p0.size : Int) then if (byteAt p0 x3) = p1 then some (x3)
    else (internal_bytealg_LastIndexByteString_l1 k p0 p1 j) (w64 (x3 - (1 : Int)))
    else none
    else internal_bytealg_LastIndexByteString_c0 k
def internal_bytealg_LastIndexByteString (k : Nat) (p0 : ByteArray) (p1 : Int) : Option Int :=
  internal_bytealg_LastIndexByteString_l1 k p0 p1 k (w64 ((p0.size : Int) - (1 : Int)))
theorem internal_bytealg_LastIndexByteString_spec {k : Nat} {p0 : ByteArray} {p1 : Int} {r : Int} (h : internal_bytealg_LastIndexByteString k p0 p1 = some r) : Spec Tryd.prog 21 [(eStr p0), (eU8 p1)] (eI64 r) := by
  rw [internal_bytealg_LastIndexByteString.eq_1] at h
  refine Spec.intro (res := [.tmp 4]) Tryd.func21 rfl rfl rfl (Nat.le_of_ble_eq_true rfl) ?_
  refine AW.sr ?_
  refine AO.c (Calm.assign rfl rfl) ?_
  refine AO.nK [0, 1] ?_
  refine AW.seq_mid (fun ρ H => ρ = [] ∧ H = [] ∧ internal_bytealg_LastIndexByteString_c0 k = some r) ?_ ?_
  ·refine AW.sr ?_
   refine AO.c (Calm.move rfl rfl) ?_
   refine AO.c (Calm.lenStr rfl rfl Tryd.underlying9) ?_
   refine AO.c (x := eI64 (w64 ((p0.size : Int) - (1 : Int)))) (Calm.int rfl rfl rfl rfl) ?_
   refine AO.c (Calm.assign rfl rfl) ?_
   refine AO.nK [0, 1, 5] ?_
   refine AW.block ?_
   refine AW.wK [0, 1, 5] ?_
   refine AW.loop (fun kq ρ H => ∃ (x3 : Int), ρ = [(0, (eStr p0)), (1, (eU8 p1)), (5, (eI64 x3))] ∧ H = [] ∧ internal_bytealg_LastIndexByteString_l1 k p0 p1 kq x3 = some r) k ⟨(w64 ((p0.size : Int) - (1 : Int))), rfl, rfl, h⟩ ?_
   rintro kq5 _ _ ⟨x3, rfl, rfl, h⟩
   cases kq5 with
   | zero => rw [internal_bytealg_LastIndexByteString_l1.eq_1] at h; cases h
   | succ kq5 =>
   rw [internal_bytealg_LastIndexByteString_l1.eq_2] at h
   generalize hrec4 : internal_bytealg_LastIndexByteString_l1 k p0 p1 kq5 = rec4 at h
   refine AW.seq ?_
   refine AW.sr ?_
   refine AO.c (Calm.move rfl rfl) ?_
   refine AO.c (x := eBool (decide ((0 : Int) ≤ x3))) (Calm.int rfl rfl rfl rfl) ?_
   refine AO.nK [0, 1, 5, 10] ?_
   rcases of_ite h with ⟨hc6, h⟩ | ⟨hc6, h⟩
   ·refine AW.condP _ rfl hc6 ?_
    refine AW.sK [0, 1, 5] ?_
    refine AW.seq ?_
    refine AW.block ?_
    refine AW.sr ?_
    refine AO.c (Calm.move rfl rfl) ?_
    refine AO.c (Calm.move rfl rfl) ?_
    obtain ⟨hg7, h⟩ := of_guard h
    refine AO.c (x := eU8 (byteAt p0 x3)) (Calm.idxS rfl rfl rfl hg7 Tryd.underlying9) ?_
    refine AO.c (Calm.move rfl rfl) ?_
    refine AO.c (x := eBool (decide ((byteAt p0 x3) = p1))) (Calm.int rfl rfl rfl rfl) ?_
    refine AO.nK [0, 1, 5, 17] ?_
    rcases of_ite h with ⟨hc8, h⟩ | ⟨hc8, h⟩
    ·refine AW.condP _ rfl hc8 ?_
     refine AW.sr ?_
     refine AO.c (Calm.move rfl rfl) ?_
     refine AO.c (Calm.assign rfl rfl) ?_
     refine AO.nK [4] ?_
     refine AW.rK [4] ?_
     have hr := Option.some.inj h
     subst hr
     exact ⟨[(eI64 x3)], ⟨rfl, rfl, trivial⟩, rfl⟩
    ·refine AW.condN _ rfl hc8 ?_
     refine AW.sK [0, 1, 5] ?_
     refine AW.reg ?_
     refine AO.c (Calm.move rfl rfl) ?_
     refine AO.c (x := eI64 (w64 (x3 - (1 : Int)))) (Calm.int rfl rfl rfl rfl) ?_
     refine AO.c (Calm.assign rfl rfl) ?_
     refine AO.nK [0, 1, 5] ?_
     exact ⟨kq5, Nat.lt_succ_self _, (w64 (x3 - (1 : Int))), rfl, rfl, by rw [hrec4]; exact h⟩
   ·refine AW.condN _ rfl hc6 ?_
    refine AW.eK [] ?_
    exact ⟨rfl, rfl, h⟩
  ·rintro _ _ ⟨rfl, rfl, h⟩
   rw [internal_bytealg_LastIndexByteString_c0.eq_1] at h
   refine AW.sr ?_
   refine AO.c (Calm.assign rfl rfl) ?_
   refine AO.nK [4] ?_
   refine AW.rK [4] ?_
   have hr := Option.some.inj h
   subst hr
   exact ⟨[(eI64 (-1 : Int))], ⟨rfl, rfl, trivial⟩, rfl⟩
end Go.Avl.TF
/- strings.LastIndex; printed by avmain.py. -/
namespace Go.Avl.TF
open Go Go.RowKit Go.Proofs Go.Avl
set_option linter.unusedVariables false
set_option maxRecDepth 100000
set_option maxHeartbeats 4000000
attribute [local irreducible] AW AO AQ Spec SpecH Calm

def strings_LastIndex (k : Nat) (p0 : ByteArray) (p1 : ByteArray) : Option Int :=
  if (p1.size : Int) = (0 : Int) then some ((p0.size : Int))
  else if (p1.size : Int) = (1 : Int) then if 0 ≤ (0 : Int) ∧ (0 : Int) < (p1.size : Int) then (internal_bytealg_LastIndexByteString k p0 (byteAt p1 (0 : Int))).bind fun t6 =>
  some (t6)
  else none
  else if (p1.size : Int) = (p0.size : Int) then if p1 = p0 then some ((0 : Int))
  else some ((-1 : Int))
  else if (p0.size : Int) < (p1.size : Int) then some ((-1 : Int))
  else none
theorem strings_LastIndex_spec {k : Nat} {p0 : ByteArray} {p1 : ByteArray} {r : Int} (h : strings_LastIndex k p0 p1 = some r) : Spec Tryd.prog 15 [(eStr p0), (eStr p1)] (eI64 r) := by
  rw [strings_LastIndex.eq_1] at h
  refine Spec.intro (res := [.tmp 4]) Tryd.func15 rfl rfl rfl (Nat.le_of_ble_eq_true rfl) ?_
  refine AW.sr ?_
  refine AO.c (Calm.assign rfl rfl) ?_
  refine AO.nK [0, 1] ?_
  refine AW.sr ?_
  refine AO.c (Calm.move rfl rfl) ?_
  refine AO.c (Calm.lenStr rfl rfl Tryd.underlying9) ?_
  refine AO.c (Calm.assign rfl rfl) ?_
  refine AO.nK [0, 1, 5] ?_
  refine AW.seq ?_
  refine AW.block ?_
  refine AW.sr ?_
  refine AO.c (Calm.move rfl rfl) ?_
  refine AO.c (x := eBool (decide ((p1.size : Int) = (0 : Int)))) (Calm.int rfl rfl rfl rfl) ?_
  refine AO.c (Calm.assign rfl rfl) ?_
  refine AO.nK [0, 1, 5, 8] ?_
  rcases of_ite h with ⟨hc3, h⟩ | ⟨hc3, h⟩
  ·refine AW.condP _ rfl hc3 ?_
   refine AW.sr ?_
   refine AO.c (Calm.move rfl rfl) ?_
   refine AO.c (Calm.lenStr rfl rfl Tryd.underlying9) ?_
   refine AO.c (Calm.assign rfl rfl) ?_
   refine AO.nK [4] ?_
   refine AW.rK [4] ?_
   have hr := Option.some.inj h
   subst hr
   exact ⟨[(eI64 (p0.size : Int))], ⟨rfl, rfl, trivial⟩, rfl⟩
  ·refine AW.condN _ rfl hc3 ?_
   refine AW.sr ?_
   refine AO.c (Calm.move rfl rfl) ?_
   refine AO.c (x := eBool (decide ((p1.size : Int) = (1 : Int)))) (Calm.int rfl rfl rfl rfl) ?_
   refine AO.c (Calm.assign rfl rfl) ?_
   refine AO.nK [0, 1, 5, 13] ?_
   rcases of_ite h with ⟨hc4, h⟩ | ⟨hc4, h⟩
   ·refine AW.condP _ rfl hc4 ?_
    refine AW.sr ?_
    refine AO.c (Calm.move rfl rfl) ?_
    refine AO.c (Calm.move rfl rfl) ?_
    obtain ⟨hg5, h⟩ := of_guard h
    refine AO.c (x := eU8 (byteAt p1 (0 : Int))) (Calm.idxS rfl rfl rfl hg5 Tryd.underlying9) ?_
    obtain ⟨t6, et6, h⟩ := of_bind h
    refine AO.callS [(eStr p0), (eU8 (byteAt p1 (0 : Int)))] (eI64 t6) 19 rfl (by decide) ok21 rfl rfl rfl ⟨rfl, rfl, rfl, rfl, trivial⟩ (internal_bytealg_LastIndexByteString_spec et6) ?_
    refine AO.c (Calm.assign rfl rfl) ?_
    refine AO.nK [4] ?_
    refine AW.rK [4] ?_
    have hr := Option.some.inj h
    subst hr
    exact ⟨[(eI64 t6)], ⟨rfl, rfl, trivial⟩, rfl⟩
   ·refine AW.condN _ rfl hc4 ?_
    refine AW.sr ?_
    refine AO.c (Calm.move rfl rfl) ?_
    refine AO.c (Calm.move rfl rfl) ?_
    refine AO.c (Calm.lenStr rfl rfl Tryd.underlying9) ?_
    refine AO.c (x := eBool (decide ((p1.size : Int) = (p0.size : Int)))) (Calm.int rfl rfl rfl rfl) ?_
    refine AO.c (Calm.assign rfl rfl) ?_
    refine AO.nK [0, 1, 5, 20] ?_
    rcases of_ite h with ⟨hc7, h⟩ | ⟨hc7, h⟩
    ·refine AW.condP _ rfl hc7 ?_
     refine AW.seq ?_
     refine AW.sr ?_
     refine AO.c (Calm.move rfl rfl) ?_
     refine AO.c (Calm.move rfl rfl) ?_
     refine AO.c (x := eBool (decide (p1 = p0))) (Calm.str rfl rfl rfl rfl) ?_
     refine AO.nK [27] ?_
     rcases of_ite h with ⟨hc8, h⟩ | ⟨hc8, h⟩
     ·refine AW.condP _ rfl hc8 ?_
      refine AW.sr ?_
      refine AO.c (Calm.assign rfl rfl) ?_
      refine AO.nK [4] ?_
      refine AW.rK [4] ?_
      have hr := Option.some.inj h
      subst hr
      exact ⟨[(eI64 (0 : Int))], ⟨rfl, rfl, trivial⟩, rfl⟩
     ·refine AW.condN _ rfl hc8 ?_
      refine AW.sK [] ?_
      refine AW.sr ?_
      refine AO.c (Calm.assign rfl rfl) ?_
      refine AO.nK [4] ?_
      refine AW.rK [4] ?_
      have hr := Option.some.inj h
      subst hr
      exact ⟨[(eI64 (-1 : Int))], ⟨rfl, rfl, trivial⟩, rfl⟩
    ·refine AW.condN _ rfl hc7 ?_
     refine AW.sr ?_
     refine AO.c (Calm.move rfl rfl) ?_
     refine AO.c (Calm.move rfl rfl) ?_
     refine AO.c (Calm.lenStr rfl rfl Tryd.underlying9) ?_
     refine AO.c (x := eBool (decide ((p0.size : Int) < (p1.size : Int)))) (Calm.int rfl rfl rfl rfl) ?_
     refine AO.c (Calm.assign rfl rfl) ?_
     refine AO.nK [0, 1, 28] ?_
     rcases of_ite h with ⟨hc9, h⟩ | ⟨hc9, h⟩
     ·refine AW.condP _ rfl hc9 ?_
      refine AW.sr ?_
      refine AO.c (Calm.assign rfl rfl) ?_
      refine AO.nK [4] ?_
      refine AW.rK [4] ?_
      have hr := Option.some.inj h
      subst hr
      exact ⟨[(eI64 (-1 : Int))], ⟨rfl, rfl, trivial⟩, rfl⟩
     ·cases h
end Go.Avl.TF
/- bosket/spot.Of; printed by avmain.py. -/
namespace Go.Avl.TF
open Go Go.RowKit Go.Proofs Go.Avl
set_option linter.unusedVariables false
set_option maxRecDepth 100000
set_option maxHeartbeats 4000000
attribute [local irreducible] AW AO AQ Spec SpecH Calm

def spot_Of (k : Nat) (p0 : ByteArray) (p1 : Int) : Option S31 :=
  if 0 ≤ (0 : Int) ∧ (0 : Int) ≤ (min (max p1 (0 : Int)) (p0.size : Int)) ∧ (min (max p1 (0 : Int)) (p0.size : Int)) ≤ (p0.size : Int) then (strings_Count k (p0.extract (0 : Int).toNat (min (max p1 (0 : Int)) (p0.size : Int)).toNat) (ByteArray.mk #[10])).bind fun t5 =>
  if 0 ≤ (0 : Int) ∧ (0 : Int) ≤ (min (max p1 (0 : Int)) (p0.size : Int)) ∧ (min (max p1 (0 : Int)) (p0.size : Int)) ≤ (p0.size : Int) then (strings_LastIndex k (p0.extract (0 : Int).toNat (min (max p1 (0 : Int)) (p0.size : Int)).toNat) (ByteArray.mk #[10])).bind fun t7 =>
  some ((S31.mk (w64 (t5 + (1 : Int))) (w64 ((min (max p1 (0 : Int)) (p0.size : Int)) - t7))))
  else none
  else none
theorem spot_Of_spec {k : Nat} {p0 : ByteArray} {p1 : Int} {r : S31} (h : spot_Of k p0 p1 = some r) : Spec Tryd.prog 11 [(eStr p0), (eI64 p1)] (e31 r) := by
  rw [spot_Of.eq_1] at h
  refine Spec.intro (res := [.cell 4 31]) Tryd.func11 rfl rfl rfl (Nat.le_of_ble_eq_true rfl) ?_
  refine AW.sr ?_
  refine AO.alloc rfl 4 rfl (by decide) rfl zr31 lay31 fun n3 => ?_
  refine AO.nK [0, 1, 4] ?_
  refine AW.sr ?_
  refine AO.c (Calm.move rfl rfl) ?_
  refine AO.c (x := eI64 (max p1 (0 : Int))) (Calm.max2 rfl rfl rfl) ?_
  refine AO.c (Calm.move rfl rfl) ?_
  refine AO.c (Calm.lenStr rfl rfl Tryd.underlying9) ?_
  refine AO.c (x := eI64 (min (max p1 (0 : Int)) (p0.size : Int))) (Calm.min2 rfl rfl rfl) ?_
  refine AO.c (Calm.assign rfl rfl) ?_
  refine AO.nK [0, 1, 4] ?_
  refine AW.sr ?_
  refine AO.c (Calm.move rfl rfl) ?_
  refine AO.c (Calm.move rfl rfl) ?_
  obtain ⟨hg4, h⟩ := of_guard h
  refine AO.c (x := eStr (p0.extract (0 : Int).toNat (min (max p1 (0 : Int)) (p0.size : Int)).toNat)) (Calm.sliceS rfl rfl rfl rfl hg4 Tryd.underlying9) ?_
  obtain ⟨t5, et5, h⟩ := of_bind h
  refine AO.callS [(eStr (p0.extract (0 : Int).toNat (min (max p1 (0 : Int)) (p0.size : Int)).toNat)), (eStr (ByteArray.mk #[10]))] (eI64 t5) 14 rfl (by decide) ok13 rfl rfl rfl ⟨rfl, rfl, rfl, rfl, trivial⟩ (strings_Count_spec et5) ?_
  refine AO.c (Calm.assign rfl rfl) ?_
  refine AO.nK [0, 1, 4, 5] ?_
  refine AW.sr ?_
  refine AO.c (Calm.move rfl rfl) ?_
  refine AO.c (x := eI64 (w64 (t5 + (1 : Int)))) (Calm.int rfl rfl rfl rfl) ?_
  refine AO.c (Calm.move rfl rfl) ?_
  refine AO.c (Calm.move rfl rfl) ?_
  refine AO.c (Calm.move rfl rfl) ?_
  obtain ⟨hg6, h⟩ := of_guard h
  refine AO.c (x := eStr (p0.extract (0 : Int).toNat (min (max p1 (0 : Int)) (p0.size : Int)).toNat)) (Calm.sliceS rfl rfl rfl rfl hg6 Tryd.underlying9) ?_
  obtain ⟨t7, et7, h⟩ := of_bind h
  refine AO.callS [(eStr (p0.extract (0 : Int).toNat (min (max p1 (0 : Int)) (p0.size : Int)).toNat)), (eStr (ByteArray.mk #[10]))] (eI64 t7) 21 rfl (by decide) ok15 rfl rfl rfl ⟨rfl, rfl, rfl, rfl, trivial⟩ (strings_LastIndex_spec et7) ?_
  refine AO.c (x := eI64 (w64 ((min (max p1 (0 : Int)) (p0.size : Int)) - t7))) (Calm.int rfl rfl rfl rfl) ?_
  refine AO.c (x := .st [(1, (eI64 (w64 (t5 + (1 : Int))))), (1, (eI64 (w64 ((min (max p1 (0 : Int)) (p0.size : Int)) - t7))))]) (Calm.build (qs := [(0, (eI64 (w64 (t5 + (1 : Int))))), (1, (eI64 (w64 ((min (max p1 (0 : Int)) (p0.size : Int)) - t7))))]) rfl ⟨rfl, rfl, rfl, rfl, rfl, rfl, trivial⟩ Tryd.underlying31 rfl zr31 lay31 (.cons rfl rfl rfl rfl (Put.cast (Put.fld0 Put.here) rfl) (.cons rfl rfl rfl rfl (Put.cast (Put.fldS (Put.fld0 Put.here)) rfl) .nil)) rfl) ?_
  refine AO.store (X' := (e31 (S31.mk (w64 (t5 + (1 : Int))) (w64 ((min (max p1 (0 : Int)) (p0.size : Int)) - t7))))) 0 rfl rfl rfl rfl rfl rfl (Put.cast Put.here rfl) rfl rfl sz31 rfl ?_
  refine AO.nK [4] ?_
  refine AW.rK [4] ?_
  have hr := Option.some.inj h
  subst hr
  exact ⟨[(e31 (S31.mk (w64 (t5 + (1 : Int))) (w64 ((min (max p1 (0 : Int)) (p0.size : Int)) - t7))))], ⟨⟨_, 0, rfl, rfl, ag31, sz31⟩, trivial⟩, rfl⟩
end Go.Avl.TF
/- bosket/spot.natural; printed by avmain.py. -/
namespace Go.Avl.TF
open Go Go.RowKit Go.Proofs Go.Avl
set_option linter.unusedVariables false
set_option maxRecDepth 100000
set_option maxHeartbeats 4000000
attribute [local irreducible] AW AO AQ Spec SpecH Calm

def spot_natural_r (k : Nat) : Nat → Int → Option ByteArray
  | 0, _ => none
  | j + 1, p0 =>
    if p0 < (10 : Int) then some ((strOfNums ([(w8 (u64 ((48 : Int) + p0)))] : List Int)))
    else ((spot_natural_r k j) (IntKind.u64.wrap (p0.tdiv (10 : Int)))).bind fun t4 =>
    if t4.size + (strOfNums ([(w8 (u64 ((48 : Int) + (p0.tmod (10 : Int)))))] : List Int)).size ≤ 9223372036854775807 then some ((t4 ++ (strOfNums ([(w8 (u64 ((48 : Int) + (p0.tmod (10 : Int)))))] : List Int))))
    else none
def spot_natural (k : Nat) (p0 : Int) : Option ByteArray := spot_natural_r k k p0
theorem spot_natural_spec' (k : Nat) : ∀ (j : Nat) (p0 : Int) (r : ByteArray), spot_natural_r k j p0 = some r → Spec Tryd.prog 20 [(eU64 p0)] (eStr r) := by
  intro j
  induction j with
  | zero => intro p0 r h; rw [spot_natural_r.eq_1] at h; cases h
  | succ j hself =>
  intro p0 r h
  rw [spot_natural_r.eq_2] at h
  generalize hs : spot_natural_r k j = self at h hself
  refine Spec.intro (res := [.tmp 2]) Tryd.func20 rfl rfl rfl (Nat.le_of_ble_eq_true rfl) ?_
  refine AW.sr ?_
  refine AO.c (Calm.assign rfl rfl) ?_
  refine AO.nK [0] ?_
  refine AW.seq ?_
  refine AW.sr ?_
  refine AO.c (Calm.move rfl rfl) ?_
  refine AO.c (x := eBool (decide (p0 < (10 : Int)))) (Calm.int rfl rfl rfl rfl) ?_
  refine AO.nK [0, 4] ?_
  rcases of_ite h with ⟨hc2, h⟩ | ⟨hc2, h⟩
  ·refine AW.condP _ rfl hc2 ?_
   refine AW.sr ?_
   refine AO.c (Calm.move rfl rfl) ?_
   refine AO.c (x := eU64 (u64 ((48 : Int) + p0))) (Calm.int rfl rfl rfl rfl) ?_
   refine AO.c (x := eU8 (w8 (u64 ((48 : Int) + p0)))) (Calm.conv rfl rfl Tryd.underlying39 Tryd.underlying5) ?_
   refine AO.lit (Z := (eU8 (0 : Int))) (xs := (([(w8 (u64 ((48 : Int) + p0)))] : List Int).map eU8)) (qs := [(0, (eU8 (w8 (u64 ((48 : Int) + p0)))))]) rfl 8 rfl (by decide) rfl ⟨rfl, rfl, rfl, trivial⟩ Tryd.underlying41 sz5 zr5 lay5 rfl (by decide) (litOK (z := 1) [(eU8 (w8 (u64 ((48 : Int) + p0))))] rfl ⟨⟨rfl, rfl⟩, trivial⟩) rfl fun n3 => ?_
   refine AO.c (x := eStr (strOfNums ([(w8 (u64 ((48 : Int) + p0)))] : List Int))) (Calm.strO 0 rfl rfl rfl Tryd.underlying41 Tryd.underlying9 Tryd.underlying5) ?_
   refine AO.c (Calm.assign rfl rfl) ?_
   refine AO.nH [2] (H' := []) (Sub.nil _) ?_
   refine AW.rK [2] ?_
   have hr := Option.some.inj h
   subst hr
   exact ⟨[(eStr (strOfNums ([(w8 (u64 ((48 : Int) + p0)))] : List Int)))], ⟨rfl, rfl, trivial⟩, rfl⟩
  ·refine AW.condN _ rfl hc2 ?_
   refine AW.sK [0] ?_
   refine AW.seq ?_
   obtain ⟨t4, et4, h⟩ := of_bind h
   obtain ⟨hg6, h⟩ := of_guard h
   refine AW.regAny (by rfl) (by decide +kernel) [(eU64 p0), (eU64 (IntKind.u64.wrap (p0.tdiv (10 : Int)))), (eStr t4), (eU64 p0), (eU64 (p0.tmod (10 : Int))), (eU64 (u64 ((48 : Int) + (p0.tmod (10 : Int))))), (eU8 (w8 (u64 ((48 : Int) + (p0.tmod (10 : Int)))))), (.fz 1 (([(w8 (u64 ((48 : Int) + (p0.tmod (10 : Int)))))] : List Int).map eU8)), (eStr (strOfNums ([(w8 (u64 ((48 : Int) + (p0.tmod (10 : Int)))))] : List Int))), (eStr (t4 ++ (strOfNums ([(w8 (u64 ((48 : Int) + (p0.tmod (10 : Int)))))] : List Int)))), (eStr (t4 ++ (strOfNums ([(w8 (u64 ((48 : Int) + (p0.tmod (10 : Int)))))] : List Int))))] [(0, (eU64 p0))] ⟨rfl, trivial⟩ rfl ?_ [(2, (eStr (t4 ++ (strOfNums ([(w8 (u64 ((48 : Int) + (p0.tmod (10 : Int)))))] : List Int)))))] [] ⟨rfl, trivial⟩ (Sub.refl _) ?_
   ·refine ⟨?_, ?_, ?_, ?_, ?_, ?_, ?_, ?_, ?_, ?_, ?_, trivial⟩
    ·refine AO.wK [0] ?_
     refine AO.c (Calm.move rfl rfl) ?_
     exact AO.nE (d := 10) rfl ⟨⟨_, rfl, rfl⟩, Sub.refl _⟩
    ·refine AO.wK [10] ?_
     refine AO.c (x := eU64 (IntKind.u64.wrap (p0.tdiv (10 : Int)))) (Calm.quo rfl rfl rfl (by decide)) ?_
     exact AO.nE (d := 11) rfl ⟨⟨_, rfl, rfl⟩, Sub.refl _⟩
    ·refine AO.wK [11] ?_
     refine AO.callS [(eU64 (IntKind.u64.wrap (p0.tdiv (10 : Int))))] (eStr t4) 12 rfl (by decide) ok20 rfl rfl rfl ⟨rfl, rfl, trivial⟩ (hself _ _ et4) ?_
     exact AO.nE (d := 12) rfl ⟨⟨_, rfl, rfl⟩, Sub.refl _⟩
    ·refine AO.wK [0] ?_
     refine AO.c (Calm.move rfl rfl) ?_
     exact AO.nE (d := 13) rfl ⟨⟨_, rfl, rfl⟩, Sub.refl _⟩
    ·refine AO.wK [13] ?_
     refine AO.c (x := eU64 (p0.tmod (10 : Int))) (Calm.rem rfl rfl rfl (by decide)) ?_
     exact AO.nE (d := 14) rfl ⟨⟨_, rfl, rfl⟩, Sub.refl _⟩
    ·refine AO.wK [14] ?_
     refine AO.c (x := eU64 (u64 ((48 : Int) + (p0.tmod (10 : Int))))) (Calm.int rfl rfl rfl rfl) ?_
     exact AO.nE (d := 15) rfl ⟨⟨_, rfl, rfl⟩, Sub.refl _⟩
    ·refine AO.wK [15] ?_
     refine AO.c (x := eU8 (w8 (u64 ((48 : Int) + (p0.tmod (10 : Int)))))) (Calm.conv rfl rfl Tryd.underlying39 Tryd.underlying5) ?_
     exact AO.nE (d := 16) rfl ⟨⟨_, rfl, rfl⟩, Sub.refl _⟩
    ·refine AO.wK [16] ?_
     refine AO.lit (Z := (eU8 (0 : Int))) (xs := (([(w8 (u64 ((48 : Int) + (p0.tmod (10 : Int)))))] : List Int).map eU8)) (qs := [(0, (eU8 (w8 (u64 ((48 : Int) + (p0.tmod (10 : Int)))))))]) rfl 17 rfl (by decide) rfl ⟨rfl, rfl, rfl, trivial⟩ Tryd.underlying41 sz5 zr5 lay5 rfl (by decide) (litOK (z := 1) [(eU8 (w8 (u64 ((48 : Int) + (p0.tmod (10 : Int))))))] rfl ⟨⟨rfl, rfl⟩, trivial⟩) rfl fun n5 => ?_
     refine AO.freezeS 0 [(17, (.fz 1 (([(w8 (u64 ((48 : Int) + (p0.tmod (10 : Int)))))] : List Int).map eU8)))] rfl ⟨fz_all rfl, trivial⟩ ?_
     exact AO.nE (d := 17) rfl ⟨⟨_, rfl, rfl⟩, Sub.refl _⟩
    ·refine AO.wK [17] ?_
     refine AO.c (x := eStr (strOfNums ([(w8 (u64 ((48 : Int) + (p0.tmod (10 : Int)))))] : List Int))) (Calm.strL rfl rfl Tryd.underlying41 Tryd.underlying9 Tryd.underlying5) ?_
     exact AO.nE (d := 18) rfl ⟨⟨_, rfl, rfl⟩, Sub.refl _⟩
    ·refine AO.wK [12, 18] ?_
     refine AO.c (x := eStr (t4 ++ (strOfNums ([(w8 (u64 ((48 : Int) + (p0.tmod (10 : Int)))))] : List Int)))) (Calm.cat rfl rfl rfl hg6) ?_
     exact AO.nE (d := 19) rfl ⟨⟨_, rfl, rfl⟩, Sub.refl _⟩
    ·refine AO.wK [19] ?_
     refine AO.c (Calm.assign rfl rfl) ?_
     exact AO.nE (d := 2) rfl ⟨⟨_, rfl, rfl⟩, Sub.refl _⟩
   ·refine AW.rK [2] ?_
    have hr := Option.some.inj h
    subst hr
    exact ⟨[(eStr (t4 ++ (strOfNums ([(w8 (u64 ((48 : Int) + (p0.tmod (10 : Int)))))] : List Int))))], ⟨rfl, rfl, trivial⟩, rfl⟩
theorem spot_natural_spec {k : Nat} {p0 : Int} {r : ByteArray} (h : spot_natural k p0 = some r) : Spec Tryd.prog 20 [(eU64 p0)] (eStr r) := spot_natural_spec' k k p0 r h
end Go.Avl.TF
/- bosket/spot.digits; printed by avmain.py. -/
namespace Go.Avl.TF
open Go Go.RowKit Go.Proofs Go.Avl
set_option linter.unusedVariables false
set_option maxRecDepth 100000
set_option maxHeartbeats 4000000
attribute [local irreducible] AW AO AQ Spec SpecH Calm

def spot_digits (k : Nat) (p0 : Int) : Option ByteArray :=
  if p0 < (0 : Int) then (spot_natural k (u64 (IntKind.i64.wrap (0 - p0)))).bind fun t3 =>
  if (ByteArray.mk #[45]).size + t3.size ≤ 9223372036854775807 then some (((ByteArray.mk #[45]) ++ t3))
  else none
  else (spot_natural k (u64 p0)).bind fun t5 =>
  some (t5)
theorem spot_digits_spec {k : Nat} {p0 : Int} {r : ByteArray} (h : spot_digits k p0 = some r) : Spec Tryd.prog 14 [(eI64 p0)] (eStr r) := by
  rw [spot_digits.eq_1] at h
  refine Spec.intro (res := [.tmp 2]) Tryd.func14 rfl rfl rfl (Nat.le_of_ble_eq_true rfl) ?_
  refine AW.sr ?_
  refine AO.c (Calm.assign rfl rfl) ?_
  refine AO.nK [0] ?_
  refine AW.seq ?_
  refine AW.sr ?_
  refine AO.c (Calm.move rfl rfl) ?_
  refine AO.c (x := eBool (decide (p0 < (0 : Int)))) (Calm.int rfl rfl rfl rfl) ?_
  refine AO.nK [0, 4] ?_
  rcases of_ite h with ⟨hc2, h⟩ | ⟨hc2, h⟩
  ·refine AW.condP _ rfl hc2 ?_
   refine AW.sr ?_
   refine AO.c (Calm.move rfl rfl) ?_
   refine AO.c (x := eI64 (IntKind.i64.wrap (0 - p0))) (Calm.neg rfl rfl) ?_
   refine AO.c (x := eU64 (u64 (IntKind.i64.wrap (0 - p0)))) (Calm.conv rfl rfl Tryd.underlying3 Tryd.underlying39) ?_
   obtain ⟨t3, et3, h⟩ := of_bind h
   refine AO.callS [(eU64 (u64 (IntKind.i64.wrap (0 - p0))))] (eStr t3) 8 rfl (by decide) ok20 rfl rfl rfl ⟨rfl, rfl, trivial⟩ (spot_natural_spec et3) ?_
   obtain ⟨hg4, h⟩ := of_guard h
   refine AO.c (x := eStr ((ByteArray.mk #[45]) ++ t3)) (Calm.cat rfl rfl rfl hg4) ?_
   refine AO.c (Calm.assign rfl rfl) ?_
   refine AO.nK [2] ?_
   refine AW.rK [2] ?_
   have hr := Option.some.inj h
   subst hr
   exact ⟨[(eStr ((ByteArray.mk #[45]) ++ t3))], ⟨rfl, rfl, trivial⟩, rfl⟩
  ·refine AW.condN _ rfl hc2 ?_
   refine AW.sK [0] ?_
   refine AW.sr ?_
   refine AO.c (Calm.move rfl rfl) ?_
   refine AO.c (x := eU64 (u64 p0)) (Calm.conv rfl rfl Tryd.underlying3 Tryd.underlying39) ?_
   obtain ⟨t5, et5, h⟩ := of_bind h
   refine AO.callS [(eU64 (u64 p0))] (eStr t5) 12 rfl (by decide) ok20 rfl rfl rfl ⟨rfl, rfl, trivial⟩ (spot_natural_spec et5) ?_
   refine AO.c (Calm.assign rfl rfl) ?_
   refine AO.nK [2] ?_
   refine AW.rK [2] ?_
   have hr := Option.some.inj h
   subst hr
   exact ⟨[(eStr t5)], ⟨rfl, rfl, trivial⟩, rfl⟩
end Go.Avl.TF
/- bosket/spot.Show; printed by avmain.py. -/
namespace Go.Avl.TF
open Go Go.RowKit Go.Proofs Go.Avl
set_option linter.unusedVariables false
set_option maxRecDepth 100000
set_option maxHeartbeats 4000000
attribute [local irreducible] AW AO AQ Spec SpecH Calm

def spot_Show (k : Nat) (p0 : S31) : Option ByteArray :=
  (spot_digits k p0.f0).bind fun t3 =>
  if t3.size + (ByteArray.mk #[58]).size ≤ 9223372036854775807 then (spot_digits k p0.f1).bind fun t5 =>
  if (t3 ++ (ByteArray.mk #[58])).size + t5.size ≤ 9223372036854775807 then some (((t3 ++ (ByteArray.mk #[58])) ++ t5))
  else none
  else none
theorem spot_Show_spec {k : Nat} {p0 : S31} {r : ByteArray} (h : spot_Show k p0 = some r) : Spec Tryd.prog 10 [(e31 p0)] (eStr r) := by
  rw [spot_Show.eq_1] at h
  refine Spec.intro (res := [.tmp 2]) Tryd.func10 rfl rfl rfl (Nat.le_of_ble_eq_true rfl) ?_
  refine AW.sr ?_
  refine AO.box rfl 1 rfl (by decide) rfl rfl rfl fun n2 => ?_
  refine AO.c (Calm.assign rfl rfl) ?_
  refine AO.nK [1] ?_
  refine AW.seq ?_
  refine AW.regQ (by rfl) (by decide +kernel) ?_
  refine AQ.c (x := .ptr n2 0) (Calm.fldPtr rfl rfl Tryd.underlying31 rfl sz3 _ rfl) ?_
  refine AQ.c (Calm.load 0 rfl rfl rfl (At.cast (At.fld0 At.here) rfl) ag3 sz3) ?_
  obtain ⟨t3, et3, h⟩ := of_bind h
  refine AQ.c (Calm.call (args := [(eI64 p0.f0)]) rfl rfl ok14 ⟨rfl, rfl, trivial⟩ rfl (spot_digits_spec et3)) ?_
  obtain ⟨hg4, h⟩ := of_guard h
  refine AQ.c (x := eStr (t3 ++ (ByteArray.mk #[58]))) (Calm.cat rfl rfl rfl hg4) ?_
  refine AQ.c (x := .ptr n2 1) (Calm.fldPtr rfl rfl Tryd.underlying31 rfl sz3 _ rfl) ?_
  refine AQ.c (Calm.load 0 rfl rfl rfl (At.cast (At.fldS (At.fld0 At.here)) rfl) ag3 sz3) ?_
  obtain ⟨t5, et5, h⟩ := of_bind h
  refine AQ.c (Calm.call (args := [(eI64 p0.f1)]) rfl rfl ok14 ⟨rfl, rfl, trivial⟩ rfl (spot_digits_spec et5)) ?_
  obtain ⟨hg6, h⟩ := of_guard h
  refine AQ.c (x := eStr ((t3 ++ (ByteArray.mk #[58])) ++ t5)) (Calm.cat rfl rfl rfl hg6) ?_
  refine AQ.c (Calm.assign rfl rfl) ?_
  refine AQ.nK [2] ?_
  refine AW.rH [2] (H' := []) (Sub.nil _) ?_
  have hr := Option.some.inj h
  subst hr
  exact ⟨[(eStr ((t3 ++ (ByteArray.mk #[58])) ++ t5))], ⟨rfl, rfl, trivial⟩, rfl⟩
end Go.Avl.TF
/- bosket/bosketlaw13.awake; printed by avmain.py. -/
namespace Go.Avl.TF
open Go Go.RowKit Go.Proofs Go.Avl
set_option linter.unusedVariables false
set_option maxRecDepth 100000
set_option maxHeartbeats 4000000
attribute [local irreducible] AW AO AQ Spec SpecH Calm

def bosketlaw13_awake (k : Nat) : Option Bool :=
  (spot_Of k (ByteArray.mk #[97, 10, 98, 99]) (3 : Int)).bind fun t1 =>
  (spot_Show k t1).bind fun t2 =>
  some (decide (t2 = (ByteArray.mk #[50, 58, 50])))
theorem bosketlaw13_awake_spec {k : Nat}  {r : Bool} (h : bosketlaw13_awake k = some r) : Spec Tryd.prog 4 [] (eBool r) := by
  rw [bosketlaw13_awake.eq_1] at h
  refine Spec.intro (res := [.tmp 0]) Tryd.func4 rfl rfl rfl (Nat.le_of_ble_eq_true rfl) ?_
  refine AW.sr ?_
  refine AO.c (Calm.assign rfl rfl) ?_
  refine AO.nK [] ?_
  refine AW.sr ?_
  obtain ⟨t1, et1, h⟩ := of_bind h
  refine AO.callS [(eStr (ByteArray.mk #[97, 10, 98, 99])), (eI64 (3 : Int))] (e31 t1) 1 rfl (by decide) ok11 rfl rfl rfl ⟨rfl, rfl, rfl, rfl, trivial⟩ (spot_Of_spec et1) ?_
  obtain ⟨t2, et2, h⟩ := of_bind h
  refine AO.callS [(e31 t1)] (eStr t2) 2 rfl (by decide) ok10 rfl rfl rfl ⟨rfl, rfl, trivial⟩ (spot_Show_spec et2) ?_
  refine AO.c (x := eBool (decide (t2 = (ByteArray.mk #[50, 58, 50])))) (Calm.str rfl rfl rfl rfl) ?_
  refine AO.c (Calm.assign rfl rfl) ?_
  refine AO.nK [0] ?_
  refine AW.rK [0] ?_
  have hr := Option.some.inj h
  subst hr
  exact ⟨[(eBool (decide (t2 = (ByteArray.mk #[50, 58, 50]))))], ⟨rfl, rfl, trivial⟩, rfl⟩
end Go.Avl.TF
/- bosket/bosketref13.Lines; printed by avmain.py. -/
namespace Go.Avl.TF
open Go Go.RowKit Go.Proofs Go.Avl
set_option linter.unusedVariables false
set_option maxRecDepth 100000
set_option maxHeartbeats 4000000
attribute [local irreducible] AW AO AQ Spec SpecH Calm

def bosketref13_Lines_c0 (k : Nat) (p0 : ByteArray) (x3 : (List ByteArray)) (x4 : Int) : Option (List ByteArray) :=
  if 0 ≤ x4 ∧ x4 ≤ (p0.size : Int) ∧ (p0.size : Int) ≤ (p0.size : Int) then if (x3 ++ ([(p0.extract x4.toNat (p0.size : Int).toNat)] : List ByteArray)).length * 16 ≤ 140737488355328 then some ((x3 ++ ([(p0.extract x4.toNat (p0.size : Int).toNat)] : List ByteArray)))
  else none
  else none
def bosketref13_Lines_c1 (k : Nat) (rec13 : ((List ByteArray) → Int → Int → Option (List ByteArray))) (x12 : Int) (x17 : (List ByteArray)) (x18 : Int) : Option (List ByteArray) :=
  rec13 x17 x18 (w64 (x12 + (1 : Int)))
def bosketref13_Lines_l2 (k : Nat) (p0 : ByteArray) : Nat → (List ByteArray) → Int → Int → Option (List ByteArray)
  | 0, _, _, _ => none
  | j + 1, x10, x11, x12 =>
    if x12 < (p0.size : Int) then if 0 ≤ x12 ∧ x12 < (p0.size : Int) then if (byteAt p0 x12) = (10 : Int) then if 0 ≤ x11 ∧ x11 ≤ x12 ∧ x12 ≤ (p0.size : Int) then if (x10 ++ ([(p0.extract x11.toNat x12.toNat)] : List ByteArray)).length * 16 ≤ 140737488355328 then bosketref13_Lines_c1 k (bosketref13_Lines_l2 k p0 j) x12 (x10 ++ ([(p0.extract x11.toNat x12.toNat)] : List ByteArray)) (w64 (x12 + (1 : Int)))
    else none
    else none
    else bosketref13_Lines_c1 k (bosketref13_Lines_l2 k p0 j) x12 x10 x11
    else none
    else bosketref13_Lines_c0 k p0 x10 x11
def bosketref13_Lines (k : Nat) (p0 : ByteArray) : Option (List ByteArray) :=
  bosketref13_Lines_l2 k p0 k ([] : List ByteArray) (0 : Int) (0 : Int)
theorem bosketref13_Lines_spec {k : Nat} {p0 : ByteArray} {r : (List ByteArray)} (h : bosketref13_Lines k p0 = some r) : Spec Tryd.prog 5 [(eStr p0)] (e23 r) := by
  rw [bosketref13_Lines.eq_1] at h
  refine Spec.intro (res := [.tmp 2]) Tryd.func5 rfl rfl rfl (Nat.le_of_ble_eq_true rfl) ?_
  refine AW.sr ?_
  refine AO.c (Calm.assign rfl rfl) ?_
  refine AO.nK [0] ?_
  refine AW.sr ?_
  refine AO.c (Calm.assign rfl rfl) ?_
  refine AO.nK [0, 3] ?_
  refine AW.sr ?_
  refine AO.c (Calm.assign rfl rfl) ?_
  refine AO.nK [0, 3, 4] ?_
  refine AW.seq_mid (fun ρ H => ∃ (n2 : Nat) (x3 : (List ByteArray)) (x4 : Int), ρ = [(0, (eStr p0)), (3, (.own n2 0 x3.length)), (4, (eI64 x4))] ∧ H = [(n2, (.mem (.ar 1 (x3.map eStr))))] ∧ bosketref13_Lines_c0 k p0 x3 x4 = some r) ?_ ?_
  ·refine AW.sr ?_
   refine AO.c (Calm.assign rfl rfl) ?_
   refine AO.nK [0, 3, 4, 5] ?_
   refine AW.block ?_
   refine AW.nilOwn 3 1 rfl fun n25 => ?_
   refine AW.wK [0, 3, 4, 5] ?_
   refine AW.loop (fun kq ρ H => ∃ (n9 : Nat) (x10 : (List ByteArray)) (x11 : Int) (x12 : Int), ρ = [(0, (eStr p0)), (3, (.own n9 0 x10.length)), (4, (eI64 x11)), (5, (eI64 x12))] ∧ H = [(n9, (.mem (.ar 1 (x10.map eStr))))] ∧ bosketref13_Lines_l2 k p0 kq x10 x11 x12 = some r) k ⟨n25, ([] : List ByteArray), (0 : Int), (0 : Int), rfl, rfl, h⟩ ?_
   rintro kq14 _ _ ⟨n9, x10, x11, x12, rfl, rfl, h⟩
   cases kq14 with
   | zero => rw [bosketref13_Lines_l2.eq_1] at h; cases h
   | succ kq14 =>
   rw [bosketref13_Lines_l2.eq_2] at h
   generalize hrec13 : bosketref13_Lines_l2 k p0 kq14 = rec13 at h
   refine AW.seq ?_
   refine AW.sr ?_
   refine AO.c (Calm.move rfl rfl) ?_
   refine AO.c (Calm.move rfl rfl) ?_
   refine AO.c (Calm.lenStr rfl rfl Tryd.underlying9) ?_
   refine AO.c (x := eBool (decide (x12 < (p0.size : Int)))) (Calm.int rfl rfl rfl rfl) ?_
   refine AO.nK [0, 3, 4, 5, 9] ?_
   rcases of_ite h with ⟨hc15, h⟩ | ⟨hc15, h⟩
   ·refine AW.condP _ rfl hc15 ?_
    refine AW.sK [0, 3, 4, 5] ?_
    refine AW.seq_mid (fun ρ H => ∃ (n16 : Nat) (x17 : (List ByteArray)) (x18 : Int), ρ = [(0, (eStr p0)), (3, (.own n16 0 x17.length)), (4, (eI64 x18)), (5, (eI64 x12))] ∧ H = [(n16, (.mem (.ar 1 (x17.map eStr))))] ∧ bosketref13_Lines_c1 k rec13 x12 x17 x18 = some r) ?_ ?_
    ·refine AW.block ?_
     refine AW.sr ?_
     refine AO.c (Calm.move rfl rfl) ?_
     refine AO.c (Calm.move rfl rfl) ?_
     obtain ⟨hg19, h⟩ := of_guard h
     refine AO.c (x := eU8 (byteAt p0 x12)) (Calm.idxS rfl rfl rfl hg19 Tryd.underlying9) ?_
     refine AO.c (x := eBool (decide ((byteAt p0 x12) = (10 : Int)))) (Calm.int rfl rfl rfl rfl) ?_
     refine AO.nK [0, 3, 4, 5, 15] ?_
     rcases of_ite h with ⟨hc20, h⟩ | ⟨hc20, h⟩
     ·refine AW.condP _ rfl hc20 ?_
      refine AW.sr ?_
      refine AO.c (Calm.move rfl rfl) ?_
      refine AO.c (Calm.move rfl rfl) ?_
      refine AO.c (Calm.move rfl rfl) ?_
      refine AO.c (Calm.move rfl rfl) ?_
      obtain ⟨hg21, h⟩ := of_guard h
      refine AO.c (x := eStr (p0.extract x11.toNat x12.toNat)) (Calm.sliceS rfl rfl rfl rfl hg21 Tryd.underlying9) ?_
      refine AO.lit (Z := (eStr ByteArray.empty)) (xs := (([(p0.extract x11.toNat x12.toNat)] : List ByteArray).map eStr)) (qs := [(0, (eStr (p0.extract x11.toNat x12.toNat)))]) rfl 21 rfl (by decide) rfl ⟨rfl, rfl, rfl, trivial⟩ Tryd.underlying23 sz9 zr9 lay9 rfl (by decide) (litOK (z := 1) [(eStr (p0.extract x11.toNat x12.toNat))] rfl ⟨⟨rfl, rfl⟩, trivial⟩) rfl fun n22 => ?_
      obtain ⟨hg24, h⟩ := of_guard h
      refine AO.appendL (l := x10) (m := ([(p0.extract x11.toNat x12.toNat)] : List ByteArray)) 1 22 rfl (by decide) rfl rfl rfl rfl rfl (Src.ownL (f := eStr) (l := ([(p0.extract x11.toNat x12.toNat)] : List ByteArray)) 0 rfl) Tryd.underlying23 Tryd.underlying23 sz9 by9 zr9 rfl hg24 (by decide) fun n23 => ?_
      refine AO.c (Calm.assign rfl rfl) ?_
      refine AO.nH [0, 3, 5] (H' := [(n23, (.mem (.ar 1 ((x10 ++ ([(p0.extract x11.toNat x12.toNat)] : List ByteArray)).map eStr))))]) (Sub.cons 1 rfl (Sub.nil _)) ?_
      refine AW.reg ?_
      refine AO.c (Calm.move rfl rfl) ?_
      refine AO.c (x := eI64 (w64 (x12 + (1 : Int)))) (Calm.int rfl rfl rfl rfl) ?_
      refine AO.c (Calm.assign rfl rfl) ?_
      refine AO.nK [0, 3, 4, 5] ?_
      exact ⟨n23, (x10 ++ ([(p0.extract x11.toNat x12.toNat)] : List ByteArray)), (w64 (x12 + (1 : Int))), rfl, rfl, h⟩
     ·refine AW.condN _ rfl hc20 ?_
      refine AW.sK [0, 3, 4, 5] ?_
      exact ⟨n9, x10, x11, rfl, rfl, h⟩
    ·rintro _ _ ⟨n16, x17, x18, rfl, rfl, h⟩
     rw [bosketref13_Lines_c1.eq_1] at h
     refine AW.reg ?_
     refine AO.c (Calm.move rfl rfl) ?_
     refine AO.c (x := eI64 (w64 (x12 + (1 : Int)))) (Calm.int rfl rfl rfl rfl) ?_
     refine AO.c (Calm.assign rfl rfl) ?_
     refine AO.nK [0, 3, 4, 5] ?_
     exact ⟨kq14, Nat.lt_succ_self _, n16, x17, x18, (w64 (x12 + (1 : Int))), rfl, rfl, by rw [hrec13]; exact h⟩
   ·refine AW.condN _ rfl hc15 ?_
    refine AW.eK [0, 3, 4] ?_
    exact ⟨n9, x10, x11, rfl, rfl, h⟩
  ·rintro _ _ ⟨n2, x3, x4, rfl, rfl, h⟩
   rw [bosketref13_Lines_c0.eq_1] at h
   refine AW.sr ?_
   refine AO.c (Calm.move rfl rfl) ?_
   refine AO.c (Calm.move rfl rfl) ?_
   refine AO.c (Calm.move rfl rfl) ?_
   obtain ⟨hg5, h⟩ := of_guard h
   refine AO.c (x := eStr (p0.extract x4.toNat (p0.size : Int).toNat)) (Calm.sliceS rfl rfl rfl rfl hg5 Tryd.underlying9) ?_
   refine AO.lit (Z := (eStr ByteArray.empty)) (xs := (([(p0.extract x4.toNat (p0.size : Int).toNat)] : List ByteArray).map eStr)) (qs := [(0, (eStr (p0.extract x4.toNat (p0.size : Int).toNat)))]) rfl 29 rfl (by decide) rfl ⟨rfl, rfl, rfl, trivial⟩ Tryd.underlying23 sz9 zr9 lay9 rfl (by decide) (litOK (z := 1) [(eStr (p0.extract x4.toNat (p0.size : Int).toNat))] rfl ⟨⟨rfl, rfl⟩, trivial⟩) rfl fun n6 => ?_
   obtain ⟨hg8, h⟩ := of_guard h
   refine AO.appendL (l := x3) (m := ([(p0.extract x4.toNat (p0.size : Int).toNat)] : List ByteArray)) 1 30 rfl (by decide) rfl rfl rfl rfl rfl (Src.ownL (f := eStr) (l := ([(p0.extract x4.toNat (p0.size : Int).toNat)] : List ByteArray)) 0 rfl) Tryd.underlying23 Tryd.underlying23 sz9 by9 zr9 rfl hg8 (by decide) fun n7 => ?_
   refine AO.c (Calm.assign rfl rfl) ?_
   refine AO.nH [2] (H' := [(n7, (.mem (.ar 1 ((x3 ++ ([(p0.extract x4.toNat (p0.size : Int).toNat)] : List ByteArray)).map eStr))))]) (Sub.cons 1 rfl (Sub.nil _)) ?_
   refine AW.freezeS 0 [(2, (.fz 1 ((x3 ++ ([(p0.extract x4.toNat (p0.size : Int).toNat)] : List ByteArray)).map eStr)))] rfl ⟨fz_all rfl, trivial⟩ ?_
   refine AW.rK [2] ?_
   have hr := Option.some.inj h
   subst hr
   exact ⟨[(.fz 1 ((x3 ++ ([(p0.extract x4.toNat (p0.size : Int).toNat)] : List ByteArray)).map eStr))], ⟨rfl, rfl, trivial⟩, rfl⟩
end Go.Avl.TF
/- strings.genSplit; printed by avmain.py. -/
namespace Go.Avl.TF
open Go Go.RowKit Go.Proofs Go.Avl
set_option linter.unusedVariables false
set_option maxRecDepth 100000
set_option maxHeartbeats 4000000
attribute [local irreducible] AW AO AQ Spec SpecH Calm

def strings_genSplit_c0 (k : Nat) (x11 : ByteArray) (x12 : (List ByteArray)) (x13 : Int) : Option (List ByteArray) :=
  if 0 ≤ x13 ∧ x13 < (x12.length : Int) then if 0 ≤ (0 : Int) ∧ (0 : Int) ≤ (w64 (x13 + (1 : Int))) ∧ (w64 (x13 + (1 : Int))) ≤ ((lset x12 x13 x11).length : Int) then some ((lcut (lset x12 x13 x11) (0 : Int) (w64 (x13 + (1 : Int)))))
  else none
  else none
def strings_genSplit_l1 (k : Nat) (p1 : ByteArray) (p2 : Int) (x10 : Int) : Nat → ByteArray → (List ByteArray) → Int → Option (List ByteArray)
  | 0, _, _, _ => none
  | j + 1, x16, x17, x18 =>
    if x18 < x10 then (strings_Index k x16 p1).bind fun t22 =>
    if t22 < (0 : Int) then strings_genSplit_c0 k x16 x17 x18
    else if 0 ≤ (0 : Int) ∧ (0 : Int) ≤ (w64 (t22 + p2)) ∧ (w64 (t22 + p2)) ≤ (x16.size : Int) then if 0 ≤ x18 ∧ x18 < (x17.length : Int) then if 0 ≤ (w64 (t22 + (p1.size : Int))) ∧ (w64 (t22 + (p1.size : Int))) ≤ (x16.size : Int) ∧ (x16.size : Int) ≤ (x16.size : Int) then (some (x16.extract (w64 (t22 + (p1.size : Int))).toNat (x16.size : Int).toNat)).bind fun x27 =>
    (strings_genSplit_l1 k p1 p2 x10 j) x27 (lset x17 x18 (x16.extract (0 : Int).toNat (w64 (t22 + p2)).toNat)) (w64 (x18 + (1 : Int)))
    else none
    else none
    else none
    else strings_genSplit_c0 k x16 x17 x18
def strings_genSplit_c2 (k : Nat) (p0 : ByteArray) (p1 : ByteArray) (p2 : Int) (x7 : Int) : Option (List ByteArray) :=
  if 0 ≤ (min x7 (w64 ((p0.size : Int) + (1 : Int)))) ∧ (min x7 (w64 ((p0.size : Int) + (1 : Int)))) * (16 : Int) ≤ 140737488355328 ∧ (min x7 (w64 ((p0.size : Int) + (1 : Int)))) ≤ 9223372036854775807 then (some (w64 ((min x7 (w64 ((p0.size : Int) + (1 : Int)))) - (1 : Int)))).bind fun x10 =>
  strings_genSplit_l1 k p1 p2 x10 k p0 (List.replicate (min x7 (w64 ((p0.size : Int) + (1 : Int)))).toNat ByteArray.empty) (0 : Int)
  else none
def strings_genSplit (k : Nat) (p0 : ByteArray) (p1 : ByteArray) (p2 : Int) (p3 : Int) : Option (List ByteArray) :=
  if p3 = (0 : Int) then some ([])
  else if p1 = (ByteArray.mk #[]) then none
  else if p3 < (0 : Int) then (strings_Count k p0 p1).bind fun t29 =>
  strings_genSplit_c2 k p0 p1 p2 (w64 (t29 + (1 : Int)))
  else strings_genSplit_c2 k p0 p1 p2 p3
theorem strings_genSplit_spec {k : Nat} {p0 : ByteArray} {p1 : ByteArray} {p2 : Int} {p3 : Int} {r : (List ByteArray)} (h : strings_genSplit k p0 p1 p2 p3 = some r) : Spec Tryd.prog 16 [(eStr p0), (eStr p1), (eI64 p2), (eI64 p3)] (e23 r) := by
  rw [strings_genSplit.eq_1] at h
  refine Spec.intro (res := [.tmp 8]) Tryd.func16 rfl rfl rfl (Nat.le_of_ble_eq_true rfl) ?_
  refine AW.sr ?_
  refine AO.c (Calm.assign rfl rfl) ?_
  refine AO.nK [0, 1, 2, 3] ?_
  refine AW.seq ?_
  refine AW.sr ?_
  refine AO.c (Calm.move rfl rfl) ?_
  refine AO.c (x := eBool (decide (p3 = (0 : Int)))) (Calm.int rfl rfl rfl rfl) ?_
  refine AO.nK [0, 1, 2, 3, 13] ?_
  rcases of_ite h with ⟨hc5, h⟩ | ⟨hc5, h⟩
  ·refine AW.condP _ rfl hc5 ?_
   refine AW.sr ?_
   refine AO.c (Calm.assign rfl rfl) ?_
   refine AO.nK [8] ?_
   refine AW.coeC 8 (y' := (.fz 1 (([] : List ByteArray).map eStr))) rfl Coe.nil ?_
   refine AW.rK [8] ?_
   have hr := Option.some.inj h
   subst hr
   exact ⟨[(.fz 1 (([] : List ByteArray).map eStr))], ⟨rfl, rfl, trivial⟩, rfl⟩
  ·refine AW.condN _ rfl hc5 ?_
   refine AW.sK [0, 1, 2, 3] ?_
   refine AW.seq ?_
   refine AW.sr ?_
   refine AO.c (Calm.move rfl rfl) ?_
   refine AO.c (x := eBool (decide (p1 = (ByteArray.mk #[])))) (Calm.str rfl rfl rfl rfl) ?_
   refine AO.nK [0, 1, 2, 3, 15] ?_
   rcases of_ite h with ⟨hc6, h⟩ | ⟨hc6, h⟩
   ·cases h
   ·refine AW.condN _ rfl hc6 ?_
    refine AW.sK [0, 1, 2, 3] ?_
    refine AW.seq_mid (fun ρ H => ∃ (x7 : Int), ρ = [(0, (eStr p0)), (1, (eStr p1)), (2, (eI64 p2)), (3, (eI64 x7))] ∧ H = [] ∧ strings_genSplit_c2 k p0 p1 p2 x7 = some r) ?_ ?_
    ·refine AW.sr ?_
     refine AO.c (Calm.move rfl rfl) ?_
     refine AO.c (x := eBool (decide (p3 < (0 : Int)))) (Calm.int rfl rfl rfl rfl) ?_
     refine AO.nK [0, 1, 2, 3, 20] ?_
     rcases of_ite h with ⟨hc28, h⟩ | ⟨hc28, h⟩
     ·refine AW.condP _ rfl hc28 ?_
      refine AW.reg ?_
      refine AO.c (Calm.move rfl rfl) ?_
      refine AO.c (Calm.move rfl rfl) ?_
      obtain ⟨t29, et29, h⟩ := of_bind h
      refine AO.callS [(eStr p0), (eStr p1)] (eI64 t29) 23 rfl (by decide) ok13 rfl rfl rfl ⟨rfl, rfl, rfl, rfl, trivial⟩ (strings_Count_spec et29) ?_
      refine AO.c (x := eI64 (w64 (t29 + (1 : Int)))) (Calm.int rfl rfl rfl rfl) ?_
      refine AO.c (Calm.assign rfl rfl) ?_
      refine AO.nK [0, 1, 2, 3] ?_
      exact ⟨(w64 (t29 + (1 : Int))), rfl, rfl, h⟩
     ·refine AW.condN _ rfl hc28 ?_
      refine AW.sK [0, 1, 2, 3] ?_
      exact ⟨p3, rfl, rfl, h⟩
    ·rintro _ _ ⟨x7, rfl, rfl, h⟩
     rw [strings_genSplit_c2.eq_1] at h
     refine AW.sr ?_
     refine AO.c (Calm.move rfl rfl) ?_
     refine AO.c (Calm.move rfl rfl) ?_
     refine AO.c (Calm.lenStr rfl rfl Tryd.underlying9) ?_
     refine AO.c (x := eI64 (w64 ((p0.size : Int) + (1 : Int)))) (Calm.int rfl rfl rfl rfl) ?_
     refine AO.c (x := eI64 (min x7 (w64 ((p0.size : Int) + (1 : Int))))) (Calm.min2 rfl rfl rfl) ?_
     refine AO.c (Calm.assign rfl rfl) ?_
     refine AO.nK [0, 1, 2, 3] ?_
     refine AW.sr ?_
     refine AO.c (Calm.move rfl rfl) ?_
     obtain ⟨hg9, h⟩ := of_guard h
     refine AO.makeL (f := eStr) ByteArray.empty rfl 31 rfl (by decide) rfl rfl rfl Tryd.underlying23 sz9 by9 zr9 lay9 rfl hg9 fun n8 => ?_
     refine AO.c (Calm.assign rfl rfl) ?_
     refine AO.nK [0, 1, 2, 3, 9] ?_
     refine AW.sr ?_
     refine AO.c (Calm.move rfl rfl) ?_
     refine AO.c (x := eI64 (w64 ((min x7 (w64 ((p0.size : Int) + (1 : Int)))) - (1 : Int)))) (Calm.int rfl rfl rfl rfl) ?_
     obtain ⟨x10, ex10, h⟩ := of_bind h
     refine AO.c (Calm.assign rfl (congrArg (fun x => some (eI64 x)) (Option.some.inj ex10))) ?_
     refine AO.nK [0, 1, 2, 3, 9] ?_
     refine AW.sr ?_
     refine AO.c (Calm.assign rfl rfl) ?_
     refine AO.nK [0, 1, 2, 3, 9, 10] ?_
     refine AW.seq_mid (fun ρ H => ∃ (x11 : ByteArray) (x12 : (List ByteArray)) (x13 : Int), ρ = [(0, (eStr x11)), (9, (.own n8 0 x12.length)), (10, (eI64 x13))] ∧ H = [(n8, (.mem (.ar 1 (x12.map eStr))))] ∧ strings_genSplit_c0 k x11 x12 x13 = some r) ?_ ?_
     ·refine AW.block ?_
      refine AW.wK [0, 1, 2, 3, 9, 10] ?_
      refine AW.loop (fun kq ρ H => ∃ (x16 : ByteArray) (x17 : (List ByteArray)) (x18 : Int), ρ = [(0, (eStr x16)), (1, (eStr p1)), (2, (eI64 p2)), (3, (eI64 x10)), (9, (.own n8 0 x17.length)), (10, (eI64 x18))] ∧ H = [(n8, (.mem (.ar 1 (x17.map eStr))))] ∧ strings_genSplit_l1 k p1 p2 x10 kq x16 x17 x18 = some r) k ⟨p0, (List.replicate (min x7 (w64 ((p0.size : Int) + (1 : Int)))).toNat ByteArray.empty), (0 : Int), rfl, rfl, h⟩ ?_
      rintro kq20 _ _ ⟨x16, x17, x18, rfl, rfl, h⟩
      cases kq20 with
      | zero => rw [strings_genSplit_l1.eq_1] at h; cases h
      | succ kq20 =>
      rw [strings_genSplit_l1.eq_2] at h
      generalize hrec19 : strings_genSplit_l1 k p1 p2 x10 kq20 = rec19 at h
      refine AW.seq ?_
      refine AW.sr ?_
      refine AO.c (Calm.move rfl rfl) ?_
      refine AO.c (Calm.move rfl rfl) ?_
      refine AO.c (x := eBool (decide (x18 < x10))) (Calm.int rfl rfl rfl rfl) ?_
      refine AO.nK [0, 1, 2, 3, 9, 10, 36] ?_
      rcases of_ite h with ⟨hc21, h⟩ | ⟨hc21, h⟩
      ·refine AW.condP _ rfl hc21 ?_
       refine AW.sK [0, 1, 2, 3, 9, 10] ?_
       refine AW.block ?_
       refine AW.sr ?_
       refine AO.c (Calm.move rfl rfl) ?_
       refine AO.c (Calm.move rfl rfl) ?_
       obtain ⟨t22, et22, h⟩ := of_bind h
       refine AO.callS [(eStr x16), (eStr p1)] (eI64 t22) 39 rfl (by decide) ok19 rfl rfl rfl ⟨rfl, rfl, rfl, rfl, trivial⟩ (strings_Index_spec et22) ?_
       refine AO.c (Calm.assign rfl rfl) ?_
       refine AO.nK [0, 1, 2, 3, 9, 10, 11] ?_
       refine AW.seq ?_
       refine AW.sr ?_
       refine AO.c (Calm.move rfl rfl) ?_
       refine AO.c (x := eBool (decide (t22 < (0 : Int)))) (Calm.int rfl rfl rfl rfl) ?_
       refine AO.nK [0, 1, 2, 3, 9, 10, 11, 41] ?_
       rcases of_ite h with ⟨hc23, h⟩ | ⟨hc23, h⟩
       ·refine AW.condP _ rfl hc23 ?_
        refine AW.eK [0, 9, 10] ?_
        exact ⟨x16, x17, x18, rfl, rfl, h⟩
       ·refine AW.condN _ rfl hc23 ?_
        refine AW.sK [0, 1, 2, 3, 9, 10, 11] ?_
        refine AW.sr ?_
        refine AO.c (Calm.move rfl rfl) ?_
        refine AO.c (Calm.move rfl rfl) ?_
        refine AO.c (Calm.move rfl rfl) ?_
        refine AO.c (Calm.move rfl rfl) ?_
        refine AO.c (Calm.move rfl rfl) ?_
        refine AO.c (x := eI64 (w64 (t22 + p2))) (Calm.int rfl rfl rfl rfl) ?_
        obtain ⟨hg24, h⟩ := of_guard h
        refine AO.c (x := eStr (x16.extract (0 : Int).toNat (w64 (t22 + p2)).toNat)) (Calm.sliceS rfl rfl rfl rfl hg24 Tryd.underlying9) ?_
        obtain ⟨hg25, h⟩ := of_guard h
        refine AO.c (Calm.idxO 0 rfl rfl rfl rfl hg25 Tryd.underlying23 sz9) ?_
        refine AO.store (X' := (.ar 1 ((lset x17 x18 (x16.extract (0 : Int).toNat (w64 (t22 + p2)).toNat)).map eStr))) 0 rfl rfl rfl rfl rfl rfl (Put.cast (Put.lidx x18 (x16.extract (0 : Int).toNat (w64 (t22 + p2)).toNat) hg25.1 hg25.2 Put.here) (by omega)) rfl rfl sz9 rfl ?_
        refine AO.coe 9 (y' := (.own n8 0 (lset x17 x18 (x16.extract (0 : Int).toNat (w64 (t22 + p2)).toNat)).length)) rfl (fun _ _ h => lset_own h) ?_
        refine AO.coe 42 (y' := (.own n8 0 (lset x17 x18 (x16.extract (0 : Int).toNat (w64 (t22 + p2)).toNat)).length)) rfl (fun _ _ h => lset_own h) ?_
        refine AO.nK [0, 1, 2, 3, 9, 10, 11] ?_
        refine AW.sr ?_
        refine AO.c (Calm.move rfl rfl) ?_
        refine AO.c (Calm.move rfl rfl) ?_
        refine AO.c (Calm.move rfl rfl) ?_
        refine AO.c (Calm.lenStr rfl rfl Tryd.underlying9) ?_
        refine AO.c (x := eI64 (w64 (t22 + (p1.size : Int)))) (Calm.int rfl rfl rfl rfl) ?_
        obtain ⟨hg26, h⟩ := of_guard h
        refine AO.c (x := eStr (x16.extract (w64 (t22 + (p1.size : Int))).toNat (x16.size : Int).toNat)) (Calm.sliceS rfl rfl rfl rfl hg26 Tryd.underlying9) ?_
        obtain ⟨x27, ex27, h⟩ := of_bind h
        refine AO.c (Calm.assign rfl (congrArg (fun x => some (eStr x)) (Option.some.inj ex27))) ?_
        refine AO.nK [0, 1, 2, 3, 9, 10] ?_
        refine AW.reg ?_
        refine AO.c (Calm.move rfl rfl) ?_
        refine AO.c (x := eI64 (w64 (x18 + (1 : Int)))) (Calm.int rfl rfl rfl rfl) ?_
        refine AO.c (Calm.assign rfl rfl) ?_
        refine AO.nK [0, 1, 2, 3, 9, 10] ?_
        exact ⟨kq20, Nat.lt_succ_self _, x27, (lset x17 x18 (x16.extract (0 : Int).toNat (w64 (t22 + p2)).toNat)), (w64 (x18 + (1 : Int))), rfl, rfl, by rw [hrec19]; exact h⟩
      ·refine AW.condN _ rfl hc21 ?_
       refine AW.eK [0, 9, 10] ?_
       exact ⟨x16, x17, x18, rfl, rfl, h⟩
     ·rintro _ _ ⟨x11, x12, x13, rfl, rfl, h⟩
      rw [strings_genSplit_c0.eq_1] at h
      refine AW.sr ?_
      refine AO.c (Calm.move rfl rfl) ?_
      refine AO.c (Calm.move rfl rfl) ?_
      refine AO.c (Calm.move rfl rfl) ?_
      obtain ⟨hg14, h⟩ := of_guard h
      refine AO.c (Calm.idxO 0 rfl rfl rfl rfl hg14 Tryd.underlying23 sz9) ?_
      refine AO.store (X' := (.ar 1 ((lset x12 x13 x11).map eStr))) 0 rfl rfl rfl rfl rfl rfl (Put.cast (Put.lidx x13 x11 hg14.1 hg14.2 Put.here) (by omega)) rfl rfl sz9 rfl ?_
      refine AO.coe 9 (y' := (.own n8 0 (lset x12 x13 x11).length)) rfl (fun _ _ h => lset_own h) ?_
      refine AO.coe 58 (y' := (.own n8 0 (lset x12 x13 x11).length)) rfl (fun _ _ h => lset_own h) ?_
      refine AO.nK [9, 10] ?_
      refine AW.sr ?_
      refine AO.c (Calm.move rfl rfl) ?_
      refine AO.c (Calm.move rfl rfl) ?_
      refine AO.c (x := eI64 (w64 (x13 + (1 : Int)))) (Calm.int rfl rfl rfl rfl) ?_
      obtain ⟨hg15, h⟩ := of_guard h
      refine AO.freezeS 0 [(9, (.fz 1 ((lset x12 x13 x11).map eStr))), (62, (.fz 1 ((lset x12 x13 x11).map eStr)))] rfl ⟨fz_all rfl, fz_all rfl, trivial⟩ ?_
      refine AO.c (x := .fz 1 ((lcut (lset x12 x13 x11) (0 : Int) (w64 (x13 + (1 : Int)))).map eStr)) (Calm.sliceL rfl rfl rfl rfl hg15 Tryd.underlying23 sz9) ?_
      refine AO.c (Calm.assign rfl rfl) ?_
      refine AO.nK [8] ?_
      refine AW.rK [8] ?_
      have hr := Option.some.inj h
      subst hr
      exact ⟨[(.fz 1 ((lcut (lset x12 x13 x11) (0 : Int) (w64 (x13 + (1 : Int)))).map eStr))], ⟨rfl, rfl, trivial⟩, rfl⟩
end Go.Avl.TF
/- strings.Split; printed by avmain.py. -/
namespace Go.Avl.TF
open Go Go.RowKit Go.Proofs Go.Avl
set_option linter.unusedVariables false
set_option maxRecDepth 100000
set_option maxHeartbeats 4000000
attribute [local irreducible] AW AO AQ Spec SpecH Calm

def strings_Split (k : Nat) (p0 : ByteArray) (p1 : ByteArray) : Option (List ByteArray) :=
  (strings_genSplit k p0 p1 (0 : Int) (-1 : Int)).bind fun t3 =>
  some (t3)
theorem strings_Split_spec {k : Nat} {p0 : ByteArray} {p1 : ByteArray} {r : (List ByteArray)} (h : strings_Split k p0 p1 = some r) : Spec Tryd.prog 12 [(eStr p0), (eStr p1)] (e23 r) := by
  rw [strings_Split.eq_1] at h
  refine Spec.intro (res := [.tmp 4]) Tryd.func12 rfl rfl rfl (Nat.le_of_ble_eq_true rfl) ?_
  refine AW.sr ?_
  refine AO.c (Calm.assign rfl rfl) ?_
  refine AO.nK [0, 1] ?_
  refine AW.sr ?_
  refine AO.c (Calm.move rfl rfl) ?_
  refine AO.c (Calm.move rfl rfl) ?_
  obtain ⟨t3, et3, h⟩ := of_bind h
  refine AO.callS [(eStr p0), (eStr p1), (eI64 (0 : Int)), (eI64 (-1 : Int))] (.fz 1 (t3.map eStr)) 7 rfl (by decide) ok16 rfl rfl rfl ⟨rfl, rfl, rfl, rfl, rfl, rfl, rfl, rfl, trivial⟩ (strings_genSplit_spec et3) ?_
  refine AO.c (Calm.assign rfl rfl) ?_
  refine AO.nK [4] ?_
  refine AW.rK [4] ?_
  have hr := Option.some.inj h
  subst hr
  exact ⟨[(.fz 1 (t3.map eStr))], ⟨rfl, rfl, trivial⟩, rfl⟩
end Go.Avl.TF
/- bosket/spot.Line; printed by avmain.py. -/
namespace Go.Avl.TF
open Go Go.RowKit Go.Proofs Go.Avl
set_option linter.unusedVariables false
set_option maxRecDepth 100000
set_option maxHeartbeats 4000000
attribute [local irreducible] AW AO AQ Spec SpecH Calm

def spot_Line (k : Nat) (p0 : ByteArray) (p1 : Int) : Option (ByteArray × Bool) :=
  (strings_Split k p0 (ByteArray.mk #[10])).bind fun t3 =>
  Option.bind (α := Bool) (if p1 < (1 : Int) then some (true)
  else some (decide ((t3.length : Int) < p1))) fun b4 =>
  if b4 = true then some ((ByteArray.mk #[]), false)
  else if 0 ≤ (w64 (p1 - (1 : Int))) ∧ (w64 (p1 - (1 : Int))) < (t3.length : Int) then some ((lget t3 (w64 (p1 - (1 : Int)))), true)
  else none
theorem spot_Line_spec {k : Nat} {p0 : ByteArray} {p1 : Int} {r : (ByteArray × Bool)} (h : spot_Line k p0 p1 = some r) : Spec Tryd.prog 6 [(eStr p0), (eI64 p1)] (.tup [(eStr r.1), (eBool r.2)]) := by
  rw [spot_Line.eq_1] at h
  refine Spec.intro (res := [.tmp 4, .tmp 5]) Tryd.func6 rfl rfl rfl (Nat.le_of_ble_eq_true rfl) ?_
  refine AW.sr ?_
  refine AO.c (Calm.assign rfl rfl) ?_
  refine AO.c (Calm.assign rfl rfl) ?_
  refine AO.nK [0, 1] ?_
  refine AW.sr ?_
  refine AO.c (Calm.move rfl rfl) ?_
  obtain ⟨t3, et3, h⟩ := of_bind h
  refine AO.callS [(eStr p0), (eStr (ByteArray.mk #[10]))] (.fz 1 (t3.map eStr)) 8 rfl (by decide) ok12 rfl rfl rfl ⟨rfl, rfl, rfl, rfl, trivial⟩ (strings_Split_spec et3) ?_
  refine AO.c (Calm.assign rfl rfl) ?_
  refine AO.nK [1, 6] ?_
  refine AW.seq ?_
  refine AW.seq ?_
  obtain ⟨b4, hq5, h⟩ := of_bind h
  refine AW.regM [(1, (eI64 p1)), (6, (.fz 1 (t3.map eStr))), (16, (eBool b4))] [] ?_ ?_
  ·refine AO.c (Calm.move rfl rfl) ?_
   refine AO.c (x := eBool (decide (p1 < (1 : Int)))) (Calm.int rfl rfl rfl rfl) ?_
   refine AO.c (Calm.move rfl rfl) ?_
   rcases of_ite hq5 with ⟨hc6, hq5⟩ | ⟨hc6, hq5⟩
   ·refine AO.sF rfl rfl (bD (decide_eq_true hc6)) ?_
    refine AO.sF rfl rfl (bD (decide_eq_true hc6)) ?_
    refine AO.sF rfl rfl (bD (decide_eq_true hc6)) ?_
    refine AO.sF rfl rfl (bD (decide_eq_true hc6)) ?_
    refine AO.c (Calm.pickT rfl (bD (decide_eq_true hc6)) rfl) ?_
    cases hq5
    refine AO.nilE ⟨rfl, rfl⟩ ?_ ?_
    · exact ⟨rfl, rfl, rfl, trivial⟩
    · exact (Sub.refl _)
   ·refine AO.cG rfl rfl (bD (decide_eq_false hc6)) (Calm.move rfl rfl) ?_
    refine AO.cG rfl rfl (bD (decide_eq_false hc6)) (Calm.move rfl rfl) ?_
    refine AO.cG rfl rfl (bD (decide_eq_false hc6)) (Calm.lenL rfl rfl Tryd.underlying23) ?_
    refine AO.cG (x := eBool (decide ((t3.length : Int) < p1))) rfl rfl (bD (decide_eq_false hc6)) (Calm.int rfl rfl rfl rfl) ?_
    refine AO.c (Calm.pickF rfl (bD (decide_eq_false hc6)) rfl) ?_
    cases hq5
    refine AO.nilE ⟨rfl, rfl⟩ ?_ ?_
    · exact ⟨rfl, rfl, rfl, trivial⟩
    · exact (Sub.refl _)
  ·rcases of_ite h with ⟨hc7, h⟩ | ⟨hc7, h⟩
   ·refine AW.condT' _ rfl hc7 ?_
    refine AW.sr ?_
    refine AO.c (Calm.assign rfl rfl) ?_
    refine AO.c (Calm.assign rfl rfl) ?_
    refine AO.nK [4, 5] ?_
    refine AW.rK [4, 5] ?_
    have hr := Option.some.inj h
    subst hr
    exact ⟨[(eStr (ByteArray.mk #[])), (eBool false)], ⟨rfl, rfl, rfl, rfl, trivial⟩, rfl⟩
   ·refine AW.condF' _ rfl hc7 ?_
    refine AW.sK [1, 6] ?_
    refine AW.sr ?_
    refine AO.c (Calm.move rfl rfl) ?_
    refine AO.c (Calm.move rfl rfl) ?_
    refine AO.c (x := eI64 (w64 (p1 - (1 : Int)))) (Calm.int rfl rfl rfl rfl) ?_
    obtain ⟨hg8, h⟩ := of_guard h
    refine AO.c (Calm.idxL (f := eStr) rfl rfl rfl hg8 Tryd.underlying23 sz9) ?_
    refine AO.c (Calm.loadRp rfl rfl ag9 sz9) ?_
    refine AO.c (Calm.assign rfl rfl) ?_
    refine AO.c (Calm.assign rfl rfl) ?_
    refine AO.nK [4, 5] ?_
    refine AW.rK [4, 5] ?_
    have hr := Option.some.inj h
    subst hr
    exact ⟨[(eStr (lget t3 (w64 (p1 - (1 : Int))))), (eBool true)], ⟨rfl, rfl, rfl, rfl, trivial⟩, rfl⟩
end Go.Avl.TF
/- bosket/spot.Lines; printed by avmain.py. -/
namespace Go.Avl.TF
open Go Go.RowKit Go.Proofs Go.Avl
set_option linter.unusedVariables false
set_option maxRecDepth 100000
set_option maxHeartbeats 4000000
attribute [local irreducible] AW AO AQ Spec SpecH Calm

def spot_Lines (k : Nat) (p0 : ByteArray) : Option Int :=
  (strings_Count k p0 (ByteArray.mk #[10])).bind fun t2 =>
  some ((w64 (t2 + (1 : Int))))
theorem spot_Lines_spec {k : Nat} {p0 : ByteArray} {r : Int} (h : spot_Lines k p0 = some r) : Spec Tryd.prog 7 [(eStr p0)] (eI64 r) := by
  rw [spot_Lines.eq_1] at h
  refine Spec.intro (res := [.tmp 2]) Tryd.func7 rfl rfl rfl (Nat.le_of_ble_eq_true rfl) ?_
  refine AW.sr ?_
  refine AO.c (Calm.assign rfl rfl) ?_
  refine AO.nK [0] ?_
  refine AW.sr ?_
  refine AO.c (Calm.move rfl rfl) ?_
  obtain ⟨t2, et2, h⟩ := of_bind h
  refine AO.callS [(eStr p0), (eStr (ByteArray.mk #[10]))] (eI64 t2) 4 rfl (by decide) ok13 rfl rfl rfl ⟨rfl, rfl, rfl, rfl, trivial⟩ (strings_Count_spec et2) ?_
  refine AO.c (x := eI64 (w64 (t2 + (1 : Int)))) (Calm.int rfl rfl rfl rfl) ?_
  refine AO.c (Calm.assign rfl rfl) ?_
  refine AO.nK [2] ?_
  refine AW.rK [2] ?_
  have hr := Option.some.inj h
  subst hr
  exact ⟨[(eI64 (w64 (t2 + (1 : Int))))], ⟨rfl, rfl, trivial⟩, rfl⟩
end Go.Avl.TF
/- bosket/spot.Width; printed by avmain.py. -/
namespace Go.Avl.TF
open Go Go.RowKit Go.Proofs Go.Avl
set_option linter.unusedVariables false
set_option maxRecDepth 100000
set_option maxHeartbeats 4000000
attribute [local irreducible] AW AO AQ Spec SpecH Calm

def spot_Width_c0 (k : Nat) (x2 : Int) : Option Int :=
  some (x2)
def spot_Width_l1 (k : Nat) (t3 : (List ByteArray)) : Nat → Int → Int → Option Int
  | 0, _, _ => none
  | j + 1, x4, x5 =>
    if x5 < (t3.length : Int) then if 0 ≤ x5 ∧ x5 < (t3.length : Int) then (spot_Width_l1 k t3 j) (max x4 ((lget t3 x5).size : Int)) (w64 (x5 + (1 : Int)))
    else none
    else spot_Width_c0 k x4
def spot_Width (k : Nat) (p0 : ByteArray) : Option Int :=
  (strings_Split k p0 (ByteArray.mk #[10])).bind fun t3 =>
  spot_Width_l1 k t3 k (0 : Int) (0 : Int)
theorem spot_Width_spec {k : Nat} {p0 : ByteArray} {r : Int} (h : spot_Width k p0 = some r) : Spec Tryd.prog 8 [(eStr p0)] (eI64 r) := by
  rw [spot_Width.eq_1] at h
  refine Spec.intro (res := [.tmp 2]) Tryd.func8 rfl rfl rfl (Nat.le_of_ble_eq_true rfl) ?_
  refine AW.sr ?_
  refine AO.c (Calm.assign rfl rfl) ?_
  refine AO.nK [0] ?_
  refine AW.sr ?_
  refine AO.c (Calm.assign rfl rfl) ?_
  refine AO.nK [0, 3] ?_
  refine AW.seq_mid (fun ρ H => ∃ (x2 : Int), ρ = [(3, (eI64 x2))] ∧ H = [] ∧ spot_Width_c0 k x2 = some r) ?_ ?_
  ·refine AW.sr ?_
   refine AO.c (Calm.move rfl rfl) ?_
   obtain ⟨t3, et3, h⟩ := of_bind h
   refine AO.callS [(eStr p0), (eStr (ByteArray.mk #[10]))] (.fz 1 (t3.map eStr)) 7 rfl (by decide) ok12 rfl rfl rfl ⟨rfl, rfl, rfl, rfl, trivial⟩ (strings_Split_spec et3) ?_
   refine AO.c (Calm.lenL rfl rfl Tryd.underlying23) ?_
   refine AO.c (Calm.move rfl rfl) ?_
   refine AO.nK [3, 7, 8, 9] ?_
   refine AW.block ?_
   refine AW.wK [3, 7, 8, 9] ?_
   refine AW.loop (fun kq ρ H => ∃ (x4 : Int) (x5 : Int), ρ = [(3, (eI64 x4)), (7, (.fz 1 (t3.map eStr))), (8, (eI64 (t3.length : Int))), (9, (eI64 x5))] ∧ H = [] ∧ spot_Width_l1 k t3 kq x4 x5 = some r) k ⟨(0 : Int), (0 : Int), rfl, rfl, h⟩ ?_
   rintro kq7 _ _ ⟨x4, x5, rfl, rfl, h⟩
   cases kq7 with
   | zero => rw [spot_Width_l1.eq_1] at h; cases h
   | succ kq7 =>
   rw [spot_Width_l1.eq_2] at h
   generalize hrec6 : spot_Width_l1 k t3 kq7 = rec6 at h
   refine AW.sr ?_
   refine AO.c (x := eBool (decide (x5 < (t3.length : Int)))) (Calm.int rfl rfl rfl rfl) ?_
   refine AO.nK [3, 7, 8, 9, 10] ?_
   refine AW.seq ?_
   rcases of_ite h with ⟨hc8, h⟩ | ⟨hc8, h⟩
   ·refine AW.condP _ rfl hc8 ?_
    refine AW.sK [3, 7, 8, 9] ?_
    refine AW.seq ?_
    refine AW.block ?_
    refine AW.sr ?_
    obtain ⟨hg9, h⟩ := of_guard h
    refine AO.c (Calm.idxL (f := eStr) rfl rfl rfl hg9 Tryd.underlying23 sz9) ?_
    refine AO.c (Calm.loadRp rfl rfl ag9 sz9) ?_
    refine AO.c (Calm.assign rfl rfl) ?_
    refine AO.nK [3, 5, 7, 8, 9] ?_
    refine AW.reg ?_
    refine AO.c (Calm.move rfl rfl) ?_
    refine AO.c (Calm.move rfl rfl) ?_
    refine AO.c (Calm.lenStr rfl rfl Tryd.underlying9) ?_
    refine AO.c (x := eI64 (max x4 ((lget t3 x5).size : Int))) (Calm.max2 rfl rfl rfl) ?_
    refine AO.c (Calm.assign rfl rfl) ?_
    refine AO.nK [3, 7, 8, 9] ?_
    refine AW.reg ?_
    refine AO.c (x := eI64 (w64 (x5 + (1 : Int)))) (Calm.int rfl rfl rfl rfl) ?_
    refine AO.c (Calm.move rfl rfl) ?_
    refine AO.nK [3, 7, 8, 9] ?_
    exact ⟨kq7, Nat.lt_succ_self _, (max x4 ((lget t3 x5).size : Int)), (w64 (x5 + (1 : Int))), rfl, rfl, by rw [hrec6]; exact h⟩
   ·refine AW.condN _ rfl hc8 ?_
    refine AW.eK [3] ?_
    exact ⟨x4, rfl, rfl, h⟩
  ·rintro _ _ ⟨x2, rfl, rfl, h⟩
   rw [spot_Width_c0.eq_1] at h
   refine AW.sr ?_
   refine AO.c (Calm.move rfl rfl) ?_
   refine AO.c (Calm.assign rfl rfl) ?_
   refine AO.nK [2] ?_
   refine AW.rK [2] ?_
   have hr := Option.some.inj h
   subst hr
   exact ⟨[(eI64 x2)], ⟨rfl, rfl, trivial⟩, rfl⟩
end Go.Avl.TF
/- spot.Indent, by hand: a range over a string. -/
namespace Go.Avl.TF
open Go Go.RowKit Go.Proofs Go.Avl
set_option linter.unusedVariables false
set_option maxHeartbeats 4000000
def indF (s : ByteArray) : Nat → Nat → Nat
  | 0, pos => s.size
  | b + 1, pos => if h : pos < s.size then (if (s[pos]'h).toNat = 32 then indF s b (pos + 1) else pos) else s.size
def spot_Indent (k : Nat) (p0 : ByteArray) : Option Int := some (indF p0 p0.size 0 : Nat)
theorem dec32 (s : ByteArray) (pos : Nat) (h : pos < s.size) : ((Utf8.decode s pos).1 = 32 ↔ (s[pos]'h).toNat = 32) ∧ ((s[pos]'h).toNat = 32 → (Utf8.decode s pos).2 = 1) := by
  by_cases ha : (s[pos]'h).toNat < 128
  · rw [decode_ascii s pos h ha]; exact ⟨Iff.rfl, fun _ => rfl⟩
  · have := (decode_high s pos h (by omega)).1
    exact ⟨⟨fun e => by omega, fun e => by omega⟩, fun e => by omega⟩
set_option maxRecDepth 1000000 in
theorem indent_walk (s : ByteArray) (w : World) :
    Calls Tryd.prog 9 #[.string s] w fun e w' => e = .returned (.int .i64 (indF s s.size 0 : Nat)) ∧ ∃ pos, w' = w.iter s pos := by
  go_enter Tryd.func9, Tryd.ntmps9
  go_wp2
  go_loopw [3, 4] (fun n m w' => ∃ (pos b : Nat), w' = w.iter s pos ∧ indF s b pos = indF s s.size 0 ∧ s.size ≤ pos + b) (fun _ _ w' => s.size - w'.iterPos w.heap.size)
  case atStart => exact ⟨0, s.size, rfl, rfl, by omega⟩
  case round =>
    obtain ⟨pos, b, rfl, hc, hb⟩ := hrel
    by_cases hp : pos < s.size
    · have hnx : ∀ ty, (Instr.next (.pointer (some ⟨w.heap.size, 0, none⟩)) true ty).run Tryd.prog (w.iter s pos) = _ := fun ty => run_next_any w s pos ty hp
      obtain ⟨d1, d2⟩ := dec32 s pos hp
      by_cases hc32 : (s[pos]'hp).toNat = 32
      · have e1 := d1.2 hc32
        have e2 := d2 hc32
        rw [e1, e2] at hnx
        go_wp2
        go_roundw
        case rel =>
          cases b with
          | zero => omega
          | succ b =>
            refine ⟨pos + 1, b, rfl, ?_, by omega⟩
            rw [← hc]
            simp [indF, hp, hc32]
        case measure =>
          simp
          omega
      · have e1 : ¬ (Utf8.decode s pos).1 = 32 := fun e => hc32 (d1.1 e)
        go_wp2
        go_ret
        have e : indF s b pos = pos := by
          cases b with
          | zero => omega
          | succ b => simp [indF, hp, hc32]
        rw [← hc, e]
        exact ⟨rfl, _, rfl⟩
    · have hnx : ∀ ty, (Instr.next (.pointer (some ⟨w.heap.size, 0, none⟩)) true ty).run Tryd.prog (w.iter s pos) = _ := fun ty => run_next_end w s pos ty hp
      go_wp2
      go_ret
      have e : indF s b pos = s.size := by
        cases b with
        | zero => rfl
        | succ b => simp [indF, hp]
      rw [← hc, e]
      exact ⟨rfl, _, rfl⟩
theorem spot_Indent_spec {k : Nat} {p0 : ByteArray} {r : Int} (h : spot_Indent k p0 = some r) : Spec Tryd.prog 9 [(eStr p0)] (eI64 r) := by
  have hr := Option.some.inj h
  subst hr
  intro g cargs w hc hro _
  cases hc with
  | @cons _ v _ vs h1 h2 =>
    cases h2
    have hv : v = .string p0 := h1
    subst hv
    refine (indent_walk p0 w).mono ?_
    rintro e w' ⟨rfl, pos, rfl⟩
    have hb : Below w.heap.size w (w.iter p0 pos) := (Below.refl _ w).alloc (Nat.le_refl _) _
    refine ⟨_, g, rfl, .refl g, rfl, fun b o y hy => ?_, fun b o y _ hy => hy, hb⟩
    exact ro_below hro hb b o y hy
end Go.Avl.TF
/- bosket/bosketlaw13.SpotLines; printed by avmain.py. -/
namespace Go.Avl.TF
open Go Go.RowKit Go.Proofs Go.Avl
set_option linter.unusedVariables false
set_option maxRecDepth 100000
set_option maxHeartbeats 4000000
attribute [local irreducible] AW AO AQ Spec SpecH Calm

def bosketlaw13_SpotLines_c0 (k : Nat) (p0 : ByteArray) (t6 : (List ByteArray)) (x7 : Int) (b9 : Bool) (x10 : Int) : Option Bool :=
  Option.bind (α := Bool) (if b9 = true then (spot_Lines k p0).bind fun t14 =>
  if t14 = (t6.length : Int) then (spot_Width k p0).bind fun t16 =>
  if t16 = x7 then (spot_Indent k p0).bind fun t18 =>
  some (decide (t18 = x10))
  else some (false)
  else some (false)
  else some (false)) fun b11 =>
  some (b11)
def bosketlaw13_SpotLines_l1 (k : Nat) (p0 : ByteArray) (t6 : (List ByteArray)) (x7 : Int) (b9 : Bool) : Nat → Int → Option Bool
  | 0, _ => none
  | j + 1, x19 =>
    Option.bind (α := Bool) (if x19 < (p0.size : Int) then if 0 ≤ x19 ∧ x19 < (p0.size : Int) then some (decide ((byteAt p0 x19) = (32 : Int)))
    else none
    else some (false)) fun b22 =>
    if b22 = true then (bosketlaw13_SpotLines_l1 k p0 t6 x7 b9 j) (w64 (x19 + (1 : Int)))
    else bosketlaw13_SpotLines_c0 k p0 t6 x7 b9 x19
def bosketlaw13_SpotLines_c2 (k : Nat) (p0 : ByteArray) (t6 : (List ByteArray)) (x7 : Int) (b9 : Bool) : Option Bool :=
  bosketlaw13_SpotLines_l1 k p0 t6 x7 b9 k (0 : Int)
def bosketlaw13_SpotLines_c3 (k : Nat) (p0 : ByteArray) (p1 : Int) (t6 : (List ByteArray)) (x7 : Int) : Option Bool :=
  (spot_Line k p0 p1).bind fun t8 =>
  Option.bind (α := Bool) (if p1 < (1 : Int) then some (true)
  else some (decide ((t6.length : Int) < p1))) fun b27 =>
  if b27 = true then Option.bind (α := Bool) (if (!t8.2) = true then some (decide (t8.1 = (ByteArray.mk #[])))
  else some (false)) fun b31 =>
  bosketlaw13_SpotLines_c2 k p0 t6 x7 b31
  else Option.bind (α := Bool) (if t8.2 = true then if 0 ≤ (w64 (p1 - (1 : Int))) ∧ (w64 (p1 - (1 : Int))) < (t6.length : Int) then some (decide (t8.1 = (lget t6 (w64 (p1 - (1 : Int))))))
  else none
  else some (false)) fun b34 =>
  bosketlaw13_SpotLines_c2 k p0 t6 x7 b34
def bosketlaw13_SpotLines_l4 (k : Nat) (p0 : ByteArray) (p1 : Int) (t6 : (List ByteArray)) : Nat → Int → Int → Option Bool
  | 0, _, _ => none
  | j + 1, x38, x39 =>
    if x39 < (t6.length : Int) then if 0 ≤ x39 ∧ x39 < (t6.length : Int) then (bosketlaw13_SpotLines_l4 k p0 p1 t6 j) (max x38 ((lget t6 x39).size : Int)) (w64 (x39 + (1 : Int)))
    else none
    else bosketlaw13_SpotLines_c3 k p0 p1 t6 x38
def bosketlaw13_SpotLines (k : Nat) (p0 : ByteArray) (p1 : Int) : Option Bool :=
  (bosketlaw13_awake k).bind fun t3 =>
  if (!t3) = true then some (false)
  else if (300 : Int) < (p0.size : Int) then some (true)
  else (bosketref13_Lines k p0).bind fun t6 =>
  bosketlaw13_SpotLines_l4 k p0 p1 t6 k (0 : Int) (0 : Int)
theorem bosketlaw13_SpotLines_spec {k : Nat} {p0 : ByteArray} {p1 : Int} {r : Bool} (h : bosketlaw13_SpotLines k p0 p1 = some r) : Spec Tryd.prog 3 [(eStr p0), (eI64 p1)] (eBool r) := by
  rw [bosketlaw13_SpotLines.eq_1] at h
  refine Spec.intro (res := [.tmp 4]) Tryd.func3 rfl rfl rfl (Nat.le_of_ble_eq_true rfl) ?_
  refine AW.sr ?_
  refine AO.c (Calm.assign rfl rfl) ?_
  refine AO.nK [0, 1] ?_
  refine AW.seq ?_
  refine AW.sr ?_
  obtain ⟨t3, et3, h⟩ := of_bind h
  refine AO.callS [] (eBool t3) 11 rfl (by decide) ok4 rfl rfl rfl trivial (bosketlaw13_awake_spec et3) ?_
  refine AO.c (Calm.not rfl rfl) ?_
  refine AO.nK [0, 1, 12] ?_
  rcases of_ite h with ⟨hc4, h⟩ | ⟨hc4, h⟩
  ·refine AW.condT' _ rfl hc4 ?_
   refine AW.sr ?_
   refine AO.c (Calm.assign rfl rfl) ?_
   refine AO.nK [4] ?_
   refine AW.rK [4] ?_
   have hr := Option.some.inj h
   subst hr
   exact ⟨[(eBool false)], ⟨rfl, rfl, trivial⟩, rfl⟩
  ·refine AW.condF' _ rfl hc4 ?_
   refine AW.sK [0, 1] ?_
   refine AW.seq ?_
   refine AW.sr ?_
   refine AO.c (Calm.move rfl rfl) ?_
   refine AO.c (Calm.lenStr rfl rfl Tryd.underlying9) ?_
   refine AO.c (x := eBool (decide ((300 : Int) < (p0.size : Int)))) (Calm.int rfl rfl rfl rfl) ?_
   refine AO.nK [0, 1, 15] ?_
   rcases of_ite h with ⟨hc5, h⟩ | ⟨hc5, h⟩
   ·refine AW.condP _ rfl hc5 ?_
    refine AW.sr ?_
    refine AO.c (Calm.assign rfl rfl) ?_
    refine AO.nK [4] ?_
    refine AW.rK [4] ?_
    have hr := Option.some.inj h
    subst hr
    exact ⟨[(eBool true)], ⟨rfl, rfl, trivial⟩, rfl⟩
   ·refine AW.condN _ rfl hc5 ?_
    refine AW.sK [0, 1] ?_
    refine AW.sr ?_
    refine AO.c (Calm.move rfl rfl) ?_
    obtain ⟨t6, et6, h⟩ := of_bind h
    refine AO.callS [(eStr p0)] (.fz 1 (t6.map eStr)) 17 rfl (by decide) ok5 rfl rfl rfl ⟨rfl, rfl, trivial⟩ (bosketref13_Lines_spec et6) ?_
    refine AO.c (Calm.assign rfl rfl) ?_
    refine AO.nK [0, 1, 5] ?_
    refine AW.sr ?_
    refine AO.c (Calm.assign rfl rfl) ?_
    refine AO.nK [0, 1, 5, 6] ?_
    refine AW.seq_mid (fun ρ H => ∃ (x7 : Int), ρ = [(0, (eStr p0)), (1, (eI64 p1)), (5, (.fz 1 (t6.map eStr))), (6, (eI64 x7))] ∧ H = [] ∧ bosketlaw13_SpotLines_c3 k p0 p1 t6 x7 = some r) ?_ ?_
    ·refine AW.sr ?_
     refine AO.c (Calm.assign rfl rfl) ?_
     refine AO.nK [0, 1, 5, 6, 7] ?_
     refine AW.block ?_
     refine AW.wK [0, 1, 5, 6, 7] ?_
     refine AW.loop (fun kq ρ H => ∃ (x38 : Int) (x39 : Int), ρ = [(0, (eStr p0)), (1, (eI64 p1)), (5, (.fz 1 (t6.map eStr))), (6, (eI64 x38)), (7, (eI64 x39))] ∧ H = [] ∧ bosketlaw13_SpotLines_l4 k p0 p1 t6 kq x38 x39 = some r) k ⟨(0 : Int), (0 : Int), rfl, rfl, h⟩ ?_
     rintro kq41 _ _ ⟨x38, x39, rfl, rfl, h⟩
     cases kq41 with
     | zero => rw [bosketlaw13_SpotLines_l4.eq_1] at h; cases h
     | succ kq41 =>
     rw [bosketlaw13_SpotLines_l4.eq_2] at h
     generalize hrec40 : bosketlaw13_SpotLines_l4 k p0 p1 t6 kq41 = rec40 at h
     refine AW.seq ?_
     refine AW.sr ?_
     refine AO.c (Calm.move rfl rfl) ?_
     refine AO.c (Calm.move rfl rfl) ?_
     refine AO.c (Calm.lenL rfl rfl Tryd.underlying23) ?_
     refine AO.c (x := eBool (decide (x39 < (t6.length : Int)))) (Calm.int rfl rfl rfl rfl) ?_
     refine AO.nK [0, 1, 5, 6, 7, 21] ?_
     rcases of_ite h with ⟨hc42, h⟩ | ⟨hc42, h⟩
     ·refine AW.condP _ rfl hc42 ?_
      refine AW.sK [0, 1, 5, 6, 7] ?_
      refine AW.seq ?_
      refine AW.block ?_
      refine AW.reg ?_
      refine AO.c (Calm.move rfl rfl) ?_
      refine AO.c (Calm.move rfl rfl) ?_
      refine AO.c (Calm.move rfl rfl) ?_
      obtain ⟨hg43, h⟩ := of_guard h
      refine AO.c (Calm.idxL (f := eStr) rfl rfl rfl hg43 Tryd.underlying23 sz9) ?_
      refine AO.c (Calm.loadRp rfl rfl ag9 sz9) ?_
      refine AO.c (Calm.lenStr rfl rfl Tryd.underlying9) ?_
      refine AO.c (x := eI64 (max x38 ((lget t6 x39).size : Int))) (Calm.max2 rfl rfl rfl) ?_
      refine AO.c (Calm.assign rfl rfl) ?_
      refine AO.nK [0, 1, 5, 6, 7] ?_
      refine AW.reg ?_
      refine AO.c (Calm.move rfl rfl) ?_
      refine AO.c (x := eI64 (w64 (x39 + (1 : Int)))) (Calm.int rfl rfl rfl rfl) ?_
      refine AO.c (Calm.assign rfl rfl) ?_
      refine AO.nK [0, 1, 5, 6, 7] ?_
      exact ⟨kq41, Nat.lt_succ_self _, (max x38 ((lget t6 x39).size : Int)), (w64 (x39 + (1 : Int))), rfl, rfl, by rw [hrec40]; exact h⟩
     ·refine AW.condN _ rfl hc42 ?_
      refine AW.eK [0, 1, 5, 6] ?_
      exact ⟨x38, rfl, rfl, h⟩
    ·rintro _ _ ⟨x7, rfl, rfl, h⟩
     rw [bosketlaw13_SpotLines_c3.eq_1] at h
     refine AW.sr ?_
     refine AO.c (Calm.move rfl rfl) ?_
     refine AO.c (Calm.move rfl rfl) ?_
     obtain ⟨t8, et8, h⟩ := of_bind h
     refine AO.callS [(eStr p0), (eI64 p1)] (.tup [(eStr t8.1), (eBool t8.2)]) 34 rfl (by decide) ok6 rfl rfl rfl ⟨rfl, rfl, rfl, rfl, trivial⟩ (spot_Line_spec et8) ?_
     refine AO.c (Calm.move rfl rfl) ?_
     refine AO.c (Calm.extract rfl rfl rfl) ?_
     refine AO.c (Calm.extract rfl rfl rfl) ?_
     refine AO.c (Calm.assign rfl rfl) ?_
     refine AO.c (Calm.assign rfl rfl) ?_
     refine AO.nK [0, 1, 5, 6, 8, 9] ?_
     refine AW.seq_mid (fun ρ H => ∃ (b9 : Bool), ρ = [(0, (eStr p0)), (5, (.fz 1 (t6.map eStr))), (6, (eI64 x7)), (9, (eBool b9))] ∧ H = [] ∧ bosketlaw13_SpotLines_c2 k p0 t6 x7 b9 = some r) ?_ ?_
     ·refine AW.seq ?_
      obtain ⟨b27, hq28, h⟩ := of_bind h
      refine AW.regM [(0, (eStr p0)), (1, (eI64 p1)), (5, (.fz 1 (t6.map eStr))), (6, (eI64 x7)), (8, (eStr t8.1)), (9, (eBool t8.2)), (44, (eBool b27))] [] ?_ ?_
      ·refine AO.c (Calm.move rfl rfl) ?_
       refine AO.c (x := eBool (decide (p1 < (1 : Int)))) (Calm.int rfl rfl rfl rfl) ?_
       refine AO.c (Calm.move rfl rfl) ?_
       rcases of_ite hq28 with ⟨hc29, hq28⟩ | ⟨hc29, hq28⟩
       ·refine AO.sF rfl rfl (bD (decide_eq_true hc29)) ?_
        refine AO.sF rfl rfl (bD (decide_eq_true hc29)) ?_
        refine AO.sF rfl rfl (bD (decide_eq_true hc29)) ?_
        refine AO.sF rfl rfl (bD (decide_eq_true hc29)) ?_
        refine AO.c (Calm.pickT rfl (bD (decide_eq_true hc29)) rfl) ?_
        cases hq28
        refine AO.nilE ⟨rfl, rfl⟩ ?_ ?_
        · exact ⟨rfl, rfl, rfl, rfl, rfl, rfl, rfl, trivial⟩
        · exact (Sub.refl _)
       ·refine AO.cG rfl rfl (bD (decide_eq_false hc29)) (Calm.move rfl rfl) ?_
        refine AO.cG rfl rfl (bD (decide_eq_false hc29)) (Calm.move rfl rfl) ?_
        refine AO.cG rfl rfl (bD (decide_eq_false hc29)) (Calm.lenL rfl rfl Tryd.underlying23) ?_
        refine AO.cG (x := eBool (decide ((t6.length : Int) < p1))) rfl rfl (bD (decide_eq_false hc29)) (Calm.int rfl rfl rfl rfl) ?_
        refine AO.c (Calm.pickF rfl (bD (decide_eq_false hc29)) rfl) ?_
        cases hq28
        refine AO.nilE ⟨rfl, rfl⟩ ?_ ?_
        · exact ⟨rfl, rfl, rfl, rfl, rfl, rfl, rfl, trivial⟩
        · exact (Sub.refl _)
      ·rcases of_ite h with ⟨hc30, h⟩ | ⟨hc30, h⟩
       ·refine AW.condT' _ rfl hc30 ?_
        obtain ⟨b31, hq32, h⟩ := of_bind h
        refine AW.regM [(0, (eStr p0)), (5, (.fz 1 (t6.map eStr))), (6, (eI64 x7)), (9, (eBool b31))] [] ?_ ?_
        ·refine AO.c (Calm.move rfl rfl) ?_
         refine AO.c (Calm.not rfl rfl) ?_
         refine AO.c (Calm.move rfl rfl) ?_
         rcases of_ite hq32 with ⟨hc33, hq32⟩ | ⟨hc33, hq32⟩
         ·refine AO.cG rfl rfl (bD hc33) (Calm.move rfl rfl) ?_
          refine AO.cG (x := eBool (decide (t8.1 = (ByteArray.mk #[])))) rfl rfl (bD hc33) (Calm.str rfl rfl rfl rfl) ?_
          refine AO.c (Calm.pickT rfl (bD hc33) rfl) ?_
          refine AO.c (Calm.assign rfl rfl) ?_
          cases hq32
          refine AO.nilE ⟨rfl, rfl⟩ ?_ ?_
          · exact ⟨rfl, rfl, rfl, rfl, trivial⟩
          · exact (Sub.refl _)
         ·refine AO.sT rfl rfl (bD (eq_false_of_ne_true hc33)) ?_
          refine AO.sT rfl rfl (bD (eq_false_of_ne_true hc33)) ?_
          refine AO.c (Calm.pickF rfl (bD (eq_false_of_ne_true hc33)) rfl) ?_
          refine AO.c (Calm.assign rfl rfl) ?_
          cases hq32
          refine AO.nilE ⟨rfl, rfl⟩ ?_ ?_
          · exact ⟨rfl, rfl, rfl, rfl, trivial⟩
          · exact (Sub.refl _)
        ·exact ⟨b31, rfl, rfl, h⟩
       ·refine AW.condF' _ rfl hc30 ?_
        obtain ⟨b34, hq35, h⟩ := of_bind h
        refine AW.regM [(0, (eStr p0)), (5, (.fz 1 (t6.map eStr))), (6, (eI64 x7)), (9, (eBool b34))] [] ?_ ?_
        ·refine AO.c (Calm.move rfl rfl) ?_
         refine AO.c (Calm.move rfl rfl) ?_
         rcases of_ite hq35 with ⟨hc36, hq35⟩ | ⟨hc36, hq35⟩
         ·refine AO.cG rfl rfl (bD hc36) (Calm.move rfl rfl) ?_
          refine AO.cG rfl rfl (bD hc36) (Calm.move rfl rfl) ?_
          refine AO.cG rfl rfl (bD hc36) (Calm.move rfl rfl) ?_
          refine AO.cG (x := eI64 (w64 (p1 - (1 : Int)))) rfl rfl (bD hc36) (Calm.int rfl rfl rfl rfl) ?_
          obtain ⟨hg37, hq35⟩ := of_guard hq35
          refine AO.cG rfl rfl (bD hc36) (Calm.idxL (f := eStr) rfl rfl rfl hg37 Tryd.underlying23 sz9) ?_
          refine AO.cG rfl rfl (bD hc36) (Calm.loadRp rfl rfl ag9 sz9) ?_
          refine AO.cG (x := eBool (decide (t8.1 = (lget t6 (w64 (p1 - (1 : Int))))))) rfl rfl (bD hc36) (Calm.str rfl rfl rfl rfl) ?_
          refine AO.c (Calm.pickT rfl (bD hc36) rfl) ?_
          refine AO.c (Calm.assign rfl rfl) ?_
          cases hq35
          refine AO.nilE ⟨rfl, rfl⟩ ?_ ?_
          · exact ⟨rfl, rfl, rfl, rfl, trivial⟩
          · exact (Sub.refl _)
         ·refine AO.sT rfl rfl (bD (eq_false_of_ne_true hc36)) ?_
          refine AO.sT rfl rfl (bD (eq_false_of_ne_true hc36)) ?_
          refine AO.sT rfl rfl (bD (eq_false_of_ne_true hc36)) ?_
          refine AO.sT rfl rfl (bD (eq_false_of_ne_true hc36)) ?_
          refine AO.sT rfl rfl (bD (eq_false_of_ne_true hc36)) ?_
          refine AO.sT rfl rfl (bD (eq_false_of_ne_true hc36)) ?_
          refine AO.sT rfl rfl (bD (eq_false_of_ne_true hc36)) ?_
          refine AO.c (Calm.pickF rfl (bD (eq_false_of_ne_true hc36)) rfl) ?_
          refine AO.c (Calm.assign rfl rfl) ?_
          cases hq35
          refine AO.nilE ⟨rfl, rfl⟩ ?_ ?_
          · exact ⟨rfl, rfl, rfl, rfl, trivial⟩
          · exact (Sub.refl _)
        ·exact ⟨b34, rfl, rfl, h⟩
     ·rintro _ _ ⟨b9, rfl, rfl, h⟩
      rw [bosketlaw13_SpotLines_c2.eq_1] at h
      refine AW.sr ?_
      refine AO.c (Calm.assign rfl rfl) ?_
      refine AO.nK [0, 5, 6, 9, 10] ?_
      refine AW.seq_mid (fun ρ H => ∃ (x10 : Int), ρ = [(0, (eStr p0)), (5, (.fz 1 (t6.map eStr))), (6, (eI64 x7)), (9, (eBool b9)), (10, (eI64 x10))] ∧ H = [] ∧ bosketlaw13_SpotLines_c0 k p0 t6 x7 b9 x10 = some r) ?_ ?_
      ·refine AW.block ?_
       refine AW.wK [0, 5, 6, 9, 10] ?_
       refine AW.loop (fun kq ρ H => ∃ (x19 : Int), ρ = [(0, (eStr p0)), (5, (.fz 1 (t6.map eStr))), (6, (eI64 x7)), (9, (eBool b9)), (10, (eI64 x19))] ∧ H = [] ∧ bosketlaw13_SpotLines_l1 k p0 t6 x7 b9 kq x19 = some r) k ⟨(0 : Int), rfl, rfl, h⟩ ?_
       rintro kq21 _ _ ⟨x19, rfl, rfl, h⟩
       cases kq21 with
       | zero => rw [bosketlaw13_SpotLines_l1.eq_1] at h; cases h
       | succ kq21 =>
       rw [bosketlaw13_SpotLines_l1.eq_2] at h
       generalize hrec20 : bosketlaw13_SpotLines_l1 k p0 t6 x7 b9 kq21 = rec20 at h
       refine AW.seq ?_
       refine AW.seq ?_
       obtain ⟨b22, hq23, h⟩ := of_bind h
       refine AW.regM [(0, (eStr p0)), (5, (.fz 1 (t6.map eStr))), (6, (eI64 x7)), (9, (eBool b9)), (10, (eI64 x19)), (70, (eBool b22))] [] ?_ ?_
       ·refine AO.c (Calm.move rfl rfl) ?_
        refine AO.c (Calm.move rfl rfl) ?_
        refine AO.c (Calm.lenStr rfl rfl Tryd.underlying9) ?_
        refine AO.c (x := eBool (decide (x19 < (p0.size : Int)))) (Calm.int rfl rfl rfl rfl) ?_
        refine AO.c (Calm.move rfl rfl) ?_
        rcases of_ite hq23 with ⟨hc24, hq23⟩ | ⟨hc24, hq23⟩
        ·refine AO.cG rfl rfl (bD (decide_eq_true hc24)) (Calm.move rfl rfl) ?_
         refine AO.cG rfl rfl (bD (decide_eq_true hc24)) (Calm.move rfl rfl) ?_
         obtain ⟨hg25, hq23⟩ := of_guard hq23
         refine AO.cG (x := eU8 (byteAt p0 x19)) rfl rfl (bD (decide_eq_true hc24)) (Calm.idxS rfl rfl rfl hg25 Tryd.underlying9) ?_
         refine AO.cG (x := eBool (decide ((byteAt p0 x19) = (32 : Int)))) rfl rfl (bD (decide_eq_true hc24)) (Calm.int rfl rfl rfl rfl) ?_
         refine AO.c (Calm.pickT rfl (bD (decide_eq_true hc24)) rfl) ?_
         cases hq23
         refine AO.nilE ⟨rfl, rfl⟩ ?_ ?_
         · exact ⟨rfl, rfl, rfl, rfl, rfl, rfl, trivial⟩
         · exact (Sub.refl _)
        ·refine AO.sT rfl rfl (bD (decide_eq_false hc24)) ?_
         refine AO.sT rfl rfl (bD (decide_eq_false hc24)) ?_
         refine AO.sT rfl rfl (bD (decide_eq_false hc24)) ?_
         refine AO.sT rfl rfl (bD (decide_eq_false hc24)) ?_
         refine AO.c (Calm.pickF rfl (bD (decide_eq_false hc24)) rfl) ?_
         cases hq23
         refine AO.nilE ⟨rfl, rfl⟩ ?_ ?_
         · exact ⟨rfl, rfl, rfl, rfl, rfl, rfl, trivial⟩
         · exact (Sub.refl _)
       ·rcases of_ite h with ⟨hc26, h⟩ | ⟨hc26, h⟩
        ·refine AW.condT' _ rfl hc26 ?_
         refine AW.sK [0, 5, 6, 9, 10] ?_
         refine AW.block ?_
         refine AW.reg ?_
         refine AO.c (Calm.move rfl rfl) ?_
         refine AO.c (x := eI64 (w64 (x19 + (1 : Int)))) (Calm.int rfl rfl rfl rfl) ?_
         refine AO.c (Calm.assign rfl rfl) ?_
         refine AO.nK [0, 5, 6, 9, 10] ?_
         exact ⟨kq21, Nat.lt_succ_self _, (w64 (x19 + (1 : Int))), rfl, rfl, by rw [hrec20]; exact h⟩
        ·refine AW.condF' _ rfl hc26 ?_
         refine AW.eK [0, 5, 6, 9, 10] ?_
         exact ⟨x19, rfl, rfl, h⟩
      ·rintro _ _ ⟨x10, rfl, rfl, h⟩
       rw [bosketlaw13_SpotLines_c0.eq_1] at h
       refine AW.seq ?_
       obtain ⟨b11, hq12, h⟩ := of_bind h
       refine AW.regM [(4, (eBool b11))] [] ?_ ?_
       ·refine AO.c (Calm.move rfl rfl) ?_
        refine AO.c (Calm.move rfl rfl) ?_
        rcases of_ite hq12 with ⟨hc13, hq12⟩ | ⟨hc13, hq12⟩
        ·refine AO.cG rfl rfl (bD hc13) (Calm.move rfl rfl) ?_
         obtain ⟨t14, et14, hq12⟩ := of_bind hq12
         refine AO.callG 1 true 74 [(eStr p0)] (eI64 t14) 76 rfl (by decide) ok7 rfl rfl (bD hc13) rfl rfl ⟨rfl, rfl, trivial⟩ (spot_Lines_spec et14) ?_
         refine AO.cG rfl rfl (bD hc13) (Calm.move rfl rfl) ?_
         refine AO.cG rfl rfl (bD hc13) (Calm.lenL rfl rfl Tryd.underlying23) ?_
         refine AO.cG (x := eBool (decide (t14 = (t6.length : Int)))) rfl rfl (bD hc13) (Calm.int rfl rfl rfl rfl) ?_
         refine AO.c (Calm.pickT rfl (bD hc13) rfl) ?_
         refine AO.c (Calm.move rfl rfl) ?_
         rcases of_ite hq12 with ⟨hc15, hq12⟩ | ⟨hc15, hq12⟩
         ·refine AO.cG rfl rfl (bD (decide_eq_true hc15)) (Calm.move rfl rfl) ?_
          obtain ⟨t16, et16, hq12⟩ := of_bind hq12
          refine AO.callG 8 true 81 [(eStr p0)] (eI64 t16) 83 rfl (by decide) ok8 rfl rfl (bD (decide_eq_true hc15)) rfl rfl ⟨rfl, rfl, trivial⟩ (spot_Width_spec et16) ?_
          refine AO.cG rfl rfl (bD (decide_eq_true hc15)) (Calm.move rfl rfl) ?_
          refine AO.cG (x := eBool (decide (t16 = x7))) rfl rfl (bD (decide_eq_true hc15)) (Calm.int rfl rfl rfl rfl) ?_
          refine AO.c (Calm.pickT rfl (bD (decide_eq_true hc15)) rfl) ?_
          refine AO.c (Calm.move rfl rfl) ?_
          rcases of_ite hq12 with ⟨hc17, hq12⟩ | ⟨hc17, hq12⟩
          ·refine AO.cG rfl rfl (bD (decide_eq_true hc17)) (Calm.move rfl rfl) ?_
           obtain ⟨t18, et18, hq12⟩ := of_bind hq12
           refine AO.callG 14 true 87 [(eStr p0)] (eI64 t18) 89 rfl (by decide) ok9 rfl rfl (bD (decide_eq_true hc17)) rfl rfl ⟨rfl, rfl, trivial⟩ (spot_Indent_spec et18) ?_
           refine AO.cG rfl rfl (bD (decide_eq_true hc17)) (Calm.move rfl rfl) ?_
           refine AO.cG (x := eBool (decide (t18 = x10))) rfl rfl (bD (decide_eq_true hc17)) (Calm.int rfl rfl rfl rfl) ?_
           refine AO.c (Calm.pickT rfl (bD (decide_eq_true hc17)) rfl) ?_
           refine AO.c (Calm.assign rfl rfl) ?_
           cases hq12
           refine AO.nilE ⟨rfl, rfl⟩ ?_ ?_
           · exact ⟨rfl, trivial⟩
           · exact (Sub.refl _)
          ·refine AO.sT rfl rfl (bD (decide_eq_false hc17)) ?_
           refine AO.sT rfl rfl (bD (decide_eq_false hc17)) ?_
           refine AO.sT rfl rfl (bD (decide_eq_false hc17)) ?_
           refine AO.sT rfl rfl (bD (decide_eq_false hc17)) ?_
           refine AO.c (Calm.pickF rfl (bD (decide_eq_false hc17)) rfl) ?_
           refine AO.c (Calm.assign rfl rfl) ?_
           cases hq12
           refine AO.nilE ⟨rfl, rfl⟩ ?_ ?_
           · exact ⟨rfl, trivial⟩
           · exact (Sub.refl _)
         ·refine AO.sT rfl rfl (bD (decide_eq_false hc15)) ?_
          refine AO.sT rfl rfl (bD (decide_eq_false hc15)) ?_
          refine AO.sT rfl rfl (bD (decide_eq_false hc15)) ?_
          refine AO.sT rfl rfl (bD (decide_eq_false hc15)) ?_
          refine AO.c (Calm.pickF rfl (bD (decide_eq_false hc15)) rfl) ?_
          refine AO.c (Calm.move rfl rfl) ?_
          refine AO.sT rfl rfl rfl ?_
          refine AO.sT rfl rfl rfl ?_
          refine AO.sT rfl rfl rfl ?_
          refine AO.sT rfl rfl rfl ?_
          refine AO.c (Calm.pickF rfl rfl rfl) ?_
          refine AO.c (Calm.assign rfl rfl) ?_
          cases hq12
          refine AO.nilE ⟨rfl, rfl⟩ ?_ ?_
          · exact ⟨rfl, trivial⟩
          · exact (Sub.refl _)
        ·refine AO.sT rfl rfl (bD (eq_false_of_ne_true hc13)) ?_
         refine AO.sT rfl rfl (bD (eq_false_of_ne_true hc13)) ?_
         refine AO.sT rfl rfl (bD (eq_false_of_ne_true hc13)) ?_
         refine AO.sT rfl rfl (bD (eq_false_of_ne_true hc13)) ?_
         refine AO.sT rfl rfl (bD (eq_false_of_ne_true hc13)) ?_
         refine AO.c (Calm.pickF rfl (bD (eq_false_of_ne_true hc13)) rfl) ?_
         refine AO.c (Calm.move rfl rfl) ?_
         refine AO.sT rfl rfl rfl ?_
         refine AO.sT rfl rfl rfl ?_
         refine AO.sT rfl rfl rfl ?_
         refine AO.sT rfl rfl rfl ?_
         refine AO.c (Calm.pickF rfl rfl rfl) ?_
         refine AO.c (Calm.move rfl rfl) ?_
         refine AO.sT rfl rfl rfl ?_
         refine AO.sT rfl rfl rfl ?_
         refine AO.sT rfl rfl rfl ?_
         refine AO.sT rfl rfl rfl ?_
         refine AO.c (Calm.pickF rfl rfl rfl) ?_
         refine AO.c (Calm.assign rfl rfl) ?_
         cases hq12
         refine AO.nilE ⟨rfl, rfl⟩ ?_ ?_
         · exact ⟨rfl, trivial⟩
         · exact (Sub.refl _)
       ·refine AW.rK [4] ?_
        have hr := Option.some.inj h
        subst hr
        exact ⟨[(eBool b11)], ⟨rfl, rfl, trivial⟩, rfl⟩
end Go.Avl.TF
