/- Parts: T5f25, T5f41, T5f73, T5f70, T5f35, T5f19, T5f8, T5f56, T5f82, T5f79, T5f48, T5f17, T5f14, T5f47, T5f29, T5f51, T5f53, T5f52, T5f54, T5f21, T5f49, T5f16, T5f18, T5f20, T5f55, T5f80, T5f100, T5f81, T5f97, T5f84, T5f96, T5f72, T5f38, T5f71, T5f37, T5f101, T5f83, T5f36. -/
import Derived.Test.YtoaomnfenofglaaAF1
import Derived.Test.YtoaomnfenofglaaAF3
import Derived.Test.YtoaomnfenofglaaAv3
import Derived.Test.YtoaomnfenofglaaAF2
/- bosket/bosketref08.Right; printed by avmain.py. -/
namespace Go.Avl.T5
open Go Go.RowKit Go.Proofs Go.Avl
set_option linter.unusedVariables false
set_option maxRecDepth 100000
set_option maxHeartbeats 4000000
attribute [local irreducible] AW AO AQ Spec SpecH Calm

def bosketref08_Right_c0 (k : Nat) : Option Bool :=
  some (true)
def bosketref08_Right_c1 (k : Nat) (rec11 : (Int → Option Bool)) (x10 : Int) : Option Bool :=
  rec11 (w64 (x10 + (1 : Int)))
def bosketref08_Right_l2 (k : Nat) (rec11 : (Int → Option Bool)) (p0 : S30) (x10 : Int) : Nat → Int → Option Bool
  | 0, _ => none
  | j + 1, x23 =>
    if 0 ≤ x10 ∧ x10 < (p0.f1.length : Int) then if x23 < ((lget p0.f1 x10).length : Int) then Option.bind (α := Bool) (if 0 ≤ x10 ∧ x10 < (p0.f1.length : Int) then if 0 ≤ x23 ∧ x23 < ((lget p0.f1 x10).length : Int) then if (lget (lget p0.f1 x10) x23) < (-1 : Int) then some (true)
    else if 0 ≤ x10 ∧ x10 < (p0.f1.length : Int) then if 0 ≤ x23 ∧ x23 < ((lget p0.f1 x10).length : Int) then some (decide ((p0.f1.length : Int) ≤ (lget (lget p0.f1 x10) x23)))
    else none
    else none
    else none
    else none) fun b28 =>
    if b28 = true then some (false)
    else (bosketref08_Right_l2 k rec11 p0 x10 j) (w64 (x23 + (1 : Int)))
    else bosketref08_Right_c1 k rec11 x10
    else none
def bosketref08_Right_l3 (k : Nat) (p0 : S30) : Nat → Int → Option Bool
  | 0, _ => none
  | j + 1, x10 =>
    if x10 < (p0.f1.length : Int) then Option.bind (α := Bool) (if 0 ≤ x10 ∧ x10 < (p0.f1.length : Int) then (bosketref08_classes k p0).bind fun t17 =>
    if ((lget p0.f1 x10).length : Int) ≠ t17 then some (true)
    else if 0 ≤ x10 ∧ x10 < (p0.f2.length : Int) then if (lget p0.f2 x10) < (-1 : Int) then some (true)
    else if 0 ≤ x10 ∧ x10 < (p0.f2.length : Int) then some (decide ((32768 : Int) ≤ (lget p0.f2 x10)))
    else none
    else none
    else none) fun b14 =>
    if b14 = true then some (false)
    else bosketref08_Right_l2 k (bosketref08_Right_l3 k p0 j) p0 x10 k (0 : Int)
    else bosketref08_Right_c0 k
def bosketref08_Right (k : Nat) (p0 : S30) : Option Bool :=
  Option.bind (α := Bool) (if (p0.f1.length : Int) < (1 : Int) then some (true)
  else if (32768 : Int) < (p0.f1.length : Int) then some (true)
  else if (p0.f2.length : Int) ≠ (p0.f1.length : Int) then some (true)
  else (bosketref08_gapless k p0).bind fun t8 =>
  some (!t8)) fun b3 =>
  if b3 = true then some (false)
  else bosketref08_Right_l3 k p0 k (0 : Int)
theorem bosketref08_Right_spec {k : Nat} {p0 : S30} {r : Bool} (h : bosketref08_Right k p0 = some r) : Spec Try.prog 25 [(e30 p0)] (eBool r) := by
  rw [bosketref08_Right.eq_1] at h
  refine Spec.intro (res := [.tmp 2]) Try.func25 rfl rfl rfl (Nat.le_of_ble_eq_true rfl) ?_
  refine AW.sr ?_
  refine AO.box rfl 1 rfl (by decide) rfl rfl rfl fun n2 => ?_
  refine AO.c (Calm.assign rfl rfl) ?_
  refine AO.nK [1] ?_
  refine AW.sr ?_
  refine AO.c (x := .ptr n2 256) (Calm.fldPtr rfl rfl Try.underlying30 rfl sz28 _ rfl) ?_
  refine AO.c (Calm.load 0 rfl rfl rfl (At.cast (At.fldS (At.fld0 At.here)) rfl) ag28 sz28) ?_
  refine AO.c (Calm.lenL rfl rfl Try.underlying28) ?_
  refine AO.c (Calm.assign rfl rfl) ?_
  refine AO.nK [1, 3] ?_
  refine AW.seq ?_
  refine AW.seq ?_
  obtain ⟨b3, hq4, h⟩ := of_bind h
  refine AW.regM [(1, (.ptr n2 0)), (3, (eI64 (p0.f1.length : Int))), (26, (eBool b3))] [(n2, (.mem (e30 p0)))] ?_ ?_
  ·refine AO.c (Calm.move rfl rfl) ?_
   refine AO.c (x := eBool (decide ((p0.f1.length : Int) < (1 : Int)))) (Calm.int rfl rfl rfl rfl) ?_
   refine AO.c (Calm.move rfl rfl) ?_
   rcases of_ite hq4 with ⟨hc5, hq4⟩ | ⟨hc5, hq4⟩
   ·refine AO.sF rfl rfl (bD (decide_eq_true hc5)) ?_
    refine AO.sF rfl rfl (bD (decide_eq_true hc5)) ?_
    refine AO.c (Calm.pickT rfl (bD (decide_eq_true hc5)) rfl) ?_
    refine AO.c (Calm.move rfl rfl) ?_
    refine AO.sF rfl rfl rfl ?_
    refine AO.sF rfl rfl rfl ?_
    refine AO.sF rfl rfl rfl ?_
    refine AO.sF rfl rfl rfl ?_
    refine AO.sF rfl rfl rfl ?_
    refine AO.c (Calm.pickT rfl rfl rfl) ?_
    refine AO.c (Calm.move rfl rfl) ?_
    refine AO.sF rfl rfl rfl ?_
    refine AO.sF rfl rfl rfl ?_
    refine AO.sF rfl rfl rfl ?_
    refine AO.c (Calm.pickT rfl rfl rfl) ?_
    cases hq4
    refine AO.nilE ⟨rfl, rfl⟩ ?_ ?_
    · exact ⟨rfl, rfl, rfl, trivial⟩
    · exact (Sub.refl _)
   ·refine AO.cG rfl rfl (bD (decide_eq_false hc5)) (Calm.move rfl rfl) ?_
    refine AO.cG (x := eBool (decide ((32768 : Int) < (p0.f1.length : Int)))) rfl rfl (bD (decide_eq_false hc5)) (Calm.int rfl rfl rfl rfl) ?_
    refine AO.c (Calm.pickF rfl (bD (decide_eq_false hc5)) rfl) ?_
    refine AO.c (Calm.move rfl rfl) ?_
    rcases of_ite hq4 with ⟨hc6, hq4⟩ | ⟨hc6, hq4⟩
    ·refine AO.sF rfl rfl (bD (decide_eq_true hc6)) ?_
     refine AO.sF rfl rfl (bD (decide_eq_true hc6)) ?_
     refine AO.sF rfl rfl (bD (decide_eq_true hc6)) ?_
     refine AO.sF rfl rfl (bD (decide_eq_true hc6)) ?_
     refine AO.sF rfl rfl (bD (decide_eq_true hc6)) ?_
     refine AO.c (Calm.pickT rfl (bD (decide_eq_true hc6)) rfl) ?_
     refine AO.c (Calm.move rfl rfl) ?_
     refine AO.sF rfl rfl rfl ?_
     refine AO.sF rfl rfl rfl ?_
     refine AO.sF rfl rfl rfl ?_
     refine AO.c (Calm.pickT rfl rfl rfl) ?_
     cases hq4
     refine AO.nilE ⟨rfl, rfl⟩ ?_ ?_
     · exact ⟨rfl, rfl, rfl, trivial⟩
     · exact (Sub.refl _)
    ·refine AO.cG (x := .ptr n2 257) rfl rfl (bD (decide_eq_false hc6)) (Calm.fldPtr rfl rfl Try.underlying30 rfl sz25 _ rfl) ?_
     refine AO.cG rfl rfl (bD (decide_eq_false hc6)) (Calm.load 0 rfl rfl rfl (At.cast (At.fldS (At.fldS (At.fld0 At.here))) rfl) ag25 sz25) ?_
     refine AO.cG rfl rfl (bD (decide_eq_false hc6)) (Calm.lenL rfl rfl Try.underlying25) ?_
     refine AO.cG rfl rfl (bD (decide_eq_false hc6)) (Calm.move rfl rfl) ?_
     refine AO.cG (x := eBool (decide ((p0.f2.length : Int) ≠ (p0.f1.length : Int)))) rfl rfl (bD (decide_eq_false hc6)) (Calm.int rfl rfl rfl rfl) ?_
     refine AO.c (Calm.pickF rfl (bD (decide_eq_false hc6)) rfl) ?_
     refine AO.c (Calm.move rfl rfl) ?_
     rcases of_ite hq4 with ⟨hc7, hq4⟩ | ⟨hc7, hq4⟩
     ·refine AO.sF rfl rfl (bD (decide_eq_true hc7)) ?_
      refine AO.sF rfl rfl (bD (decide_eq_true hc7)) ?_
      refine AO.sF rfl rfl (bD (decide_eq_true hc7)) ?_
      refine AO.c (Calm.pickT rfl (bD (decide_eq_true hc7)) rfl) ?_
      cases hq4
      refine AO.nilE ⟨rfl, rfl⟩ ?_ ?_
      · exact ⟨rfl, rfl, rfl, trivial⟩
      · exact (Sub.refl _)
     ·refine AO.cG rfl rfl (bD (decide_eq_false hc7)) (Calm.load 0 rfl rfl rfl (At.cast At.here rfl) ag30 sz30) ?_
      obtain ⟨t8, et8, hq4⟩ := of_bind hq4
      refine AO.callG 13 false 22 [(e30 p0)] (eBool t8) 24 rfl (by decide) ok59 rfl rfl (bD (decide_eq_false hc7)) rfl rfl ⟨rfl, rfl, trivial⟩ (bosketref08_gapless_spec et8) ?_
      refine AO.cG rfl rfl (bD (decide_eq_false hc7)) (Calm.not rfl rfl) ?_
      refine AO.c (Calm.pickF rfl (bD (decide_eq_false hc7)) rfl) ?_
      cases hq4
      refine AO.nilE ⟨rfl, rfl⟩ ?_ ?_
      · exact ⟨rfl, rfl, rfl, trivial⟩
      · exact (Sub.refl _)
  ·rcases of_ite h with ⟨hc9, h⟩ | ⟨hc9, h⟩
   ·refine AW.condT' _ rfl hc9 ?_
    refine AW.sr ?_
    refine AO.c (Calm.assign rfl rfl) ?_
    refine AO.nH [2] (H' := []) (Sub.nil _) ?_
    refine AW.rK [2] ?_
    have hr := Option.some.inj h
    subst hr
    exact ⟨[(eBool false)], ⟨rfl, rfl, trivial⟩, rfl⟩
   ·refine AW.condF' _ rfl hc9 ?_
    refine AW.sK [1, 3] ?_
    refine AW.seq_mid (fun ρ H => ρ = [] ∧ H = [] ∧ bosketref08_Right_c0 k = some r) ?_ ?_
    ·refine AW.sr ?_
     refine AO.c (Calm.assign rfl rfl) ?_
     refine AO.nK [1, 3, 4] ?_
     refine AW.block ?_
     refine AW.wK [1, 3, 4] ?_
     refine AW.loop (fun kq ρ H => ∃ (x10 : Int), ρ = [(1, (.ptr n2 0)), (3, (eI64 (p0.f1.length : Int))), (4, (eI64 x10))] ∧ H = [(n2, (.mem (e30 p0)))] ∧ bosketref08_Right_l3 k p0 kq x10 = some r) k ⟨(0 : Int), rfl, rfl, h⟩ ?_
     rintro kq12 _ _ ⟨x10, rfl, rfl, h⟩
     cases kq12 with
     | zero => rw [bosketref08_Right_l3.eq_1] at h; cases h
     | succ kq12 =>
     rw [bosketref08_Right_l3.eq_2] at h
     generalize hrec11 : bosketref08_Right_l3 k p0 kq12 = rec11 at h
     refine AW.seq ?_
     refine AW.sr ?_
     refine AO.c (Calm.move rfl rfl) ?_
     refine AO.c (Calm.move rfl rfl) ?_
     refine AO.c (x := eBool (decide (x10 < (p0.f1.length : Int)))) (Calm.int rfl rfl rfl rfl) ?_
     refine AO.nK [1, 3, 4, 29] ?_
     rcases of_ite h with ⟨hc13, h⟩ | ⟨hc13, h⟩
     ·refine AW.condP _ rfl hc13 ?_
      refine AW.sK [1, 3, 4] ?_
      refine AW.seq_mid (fun ρ H => ρ = [(1, (.ptr n2 0)), (3, (eI64 (p0.f1.length : Int))), (4, (eI64 x10))] ∧ H = [(n2, (.mem (e30 p0)))] ∧ bosketref08_Right_c1 k rec11 x10 = some r) ?_ ?_
      ·refine AW.block ?_
       refine AW.seq ?_
       refine AW.seq ?_
       obtain ⟨b14, hq15, h⟩ := of_bind h
       refine AW.regQM (by rfl) (by decide +kernel) [(1, (.ptr n2 0)), (3, (eI64 (p0.f1.length : Int))), (4, (eI64 x10)), (56, (eBool b14))] ?_ ?_
       ·refine AQ.c (x := .ptr n2 256) (Calm.fldPtr rfl rfl Try.underlying30 rfl sz28 _ rfl) ?_
        refine AQ.c (Calm.load 0 rfl rfl rfl (At.cast (At.fldS (At.fld0 At.here)) rfl) ag28 sz28) ?_
        refine AQ.c (Calm.move rfl rfl) ?_
        obtain ⟨hg16, hq15⟩ := of_guard hq15
        refine AQ.c (Calm.idxL (f := e25) rfl rfl rfl hg16 Try.underlying28 sz25) ?_
        refine AQ.c (Calm.loadRp rfl rfl ag25 sz25) ?_
        refine AQ.c (Calm.lenL rfl rfl Try.underlying25) ?_
        refine AQ.c (Calm.load 0 rfl rfl rfl (At.cast At.here rfl) ag30 sz30) ?_
        obtain ⟨t17, et17, hq15⟩ := of_bind hq15
        refine AQ.c (Calm.call (args := [(e30 p0)]) rfl rfl ok60 ⟨rfl, rfl, trivial⟩ rfl (bosketref08_classes_spec et17)) ?_
        refine AQ.c (x := eBool (decide (((lget p0.f1 x10).length : Int) ≠ t17))) (Calm.int rfl rfl rfl rfl) ?_
        refine AQ.c (Calm.move rfl rfl) ?_
        rcases of_ite hq15 with ⟨hc18, hq15⟩ | ⟨hc18, hq15⟩
        ·refine AQ.sF rfl rfl (bD (decide_eq_true hc18)) ?_
         refine AQ.sF rfl rfl (bD (decide_eq_true hc18)) ?_
         refine AQ.sF rfl rfl (bD (decide_eq_true hc18)) ?_
         refine AQ.sF rfl rfl (bD (decide_eq_true hc18)) ?_
         refine AQ.sF rfl rfl (bD (decide_eq_true hc18)) ?_
         refine AQ.sF rfl rfl (bD (decide_eq_true hc18)) ?_
         refine AQ.c (Calm.pickT rfl (bD (decide_eq_true hc18)) rfl) ?_
         refine AQ.c (Calm.move rfl rfl) ?_
         refine AQ.sF rfl rfl rfl ?_
         refine AQ.sF rfl rfl rfl ?_
         refine AQ.sF rfl rfl rfl ?_
         refine AQ.sF rfl rfl rfl ?_
         refine AQ.sF rfl rfl rfl ?_
         refine AQ.sF rfl rfl rfl ?_
         refine AQ.c (Calm.pickT rfl rfl rfl) ?_
         cases hq15
         refine AQ.nilE rfl ?_
         exact ⟨rfl, rfl, rfl, rfl, trivial⟩
        ·refine AQ.cG (x := .ptr n2 257) rfl rfl (bD (decide_eq_false hc18)) (Calm.fldPtr rfl rfl Try.underlying30 rfl sz25 _ rfl) ?_
         refine AQ.cG rfl rfl (bD (decide_eq_false hc18)) (Calm.load 0 rfl rfl rfl (At.cast (At.fldS (At.fldS (At.fld0 At.here))) rfl) ag25 sz25) ?_
         refine AQ.cG rfl rfl (bD (decide_eq_false hc18)) (Calm.move rfl rfl) ?_
         obtain ⟨hg19, hq15⟩ := of_guard hq15
         refine AQ.cG rfl rfl (bD (decide_eq_false hc18)) (Calm.idxL (f := eI64) rfl rfl rfl hg19 Try.underlying25 sz3) ?_
         refine AQ.cG rfl rfl (bD (decide_eq_false hc18)) (Calm.loadRp rfl rfl ag3 sz3) ?_
         refine AQ.cG (x := eBool (decide ((lget p0.f2 x10) < (-1 : Int)))) rfl rfl (bD (decide_eq_false hc18)) (Calm.int rfl rfl rfl rfl) ?_
         refine AQ.c (Calm.pickF rfl (bD (decide_eq_false hc18)) rfl) ?_
         refine AQ.c (Calm.move rfl rfl) ?_
         rcases of_ite hq15 with ⟨hc20, hq15⟩ | ⟨hc20, hq15⟩
         ·refine AQ.sF rfl rfl (bD (decide_eq_true hc20)) ?_
          refine AQ.sF rfl rfl (bD (decide_eq_true hc20)) ?_
          refine AQ.sF rfl rfl (bD (decide_eq_true hc20)) ?_
          refine AQ.sF rfl rfl (bD (decide_eq_true hc20)) ?_
          refine AQ.sF rfl rfl (bD (decide_eq_true hc20)) ?_
          refine AQ.sF rfl rfl (bD (decide_eq_true hc20)) ?_
          refine AQ.c (Calm.pickT rfl (bD (decide_eq_true hc20)) rfl) ?_
          cases hq15
          refine AQ.nilE rfl ?_
          exact ⟨rfl, rfl, rfl, rfl, trivial⟩
         ·refine AQ.cG (x := .ptr n2 257) rfl rfl (bD (decide_eq_false hc20)) (Calm.fldPtr rfl rfl Try.underlying30 rfl sz25 _ rfl) ?_
          refine AQ.cG rfl rfl (bD (decide_eq_false hc20)) (Calm.load 0 rfl rfl rfl (At.cast (At.fldS (At.fldS (At.fld0 At.here))) rfl) ag25 sz25) ?_
          refine AQ.cG rfl rfl (bD (decide_eq_false hc20)) (Calm.move rfl rfl) ?_
          obtain ⟨hg21, hq15⟩ := of_guard hq15
          refine AQ.cG rfl rfl (bD (decide_eq_false hc20)) (Calm.idxL (f := eI64) rfl rfl rfl hg21 Try.underlying25 sz3) ?_
          refine AQ.cG rfl rfl (bD (decide_eq_false hc20)) (Calm.loadRp rfl rfl ag3 sz3) ?_
          refine AQ.cG (x := eBool (decide ((32768 : Int) ≤ (lget p0.f2 x10)))) rfl rfl (bD (decide_eq_false hc20)) (Calm.int rfl rfl rfl rfl) ?_
          refine AQ.c (Calm.pickF rfl (bD (decide_eq_false hc20)) rfl) ?_
          cases hq15
          refine AQ.nilE rfl ?_
          exact ⟨rfl, rfl, rfl, rfl, trivial⟩
       ·rcases of_ite h with ⟨hc22, h⟩ | ⟨hc22, h⟩
        ·refine AW.condT' _ rfl hc22 ?_
         refine AW.sr ?_
         refine AO.c (Calm.assign rfl rfl) ?_
         refine AO.nH [2] (H' := []) (Sub.nil _) ?_
         refine AW.rK [2] ?_
         have hr := Option.some.inj h
         subst hr
         exact ⟨[(eBool false)], ⟨rfl, rfl, trivial⟩, rfl⟩
        ·refine AW.condF' _ rfl hc22 ?_
         refine AW.sK [1, 3, 4] ?_
         refine AW.sr ?_
         refine AO.c (Calm.assign rfl rfl) ?_
         refine AO.nK [1, 3, 4, 5] ?_
         refine AW.block ?_
         refine AW.wK [1, 3, 4, 5] ?_
         refine AW.loop (fun kq ρ H => ∃ (x23 : Int), ρ = [(1, (.ptr n2 0)), (3, (eI64 (p0.f1.length : Int))), (4, (eI64 x10)), (5, (eI64 x23))] ∧ H = [(n2, (.mem (e30 p0)))] ∧ bosketref08_Right_l2 k rec11 p0 x10 kq x23 = some r) k ⟨(0 : Int), rfl, rfl, h⟩ ?_
         rintro kq25 _ _ ⟨x23, rfl, rfl, h⟩
         cases kq25 with
         | zero => rw [bosketref08_Right_l2.eq_1] at h; cases h
         | succ kq25 =>
         rw [bosketref08_Right_l2.eq_2] at h
         generalize hrec24 : bosketref08_Right_l2 k rec11 p0 x10 kq25 = rec24 at h
         refine AW.seq ?_
         refine AW.sr ?_
         refine AO.c (Calm.move rfl rfl) ?_
         refine AO.c (x := .ptr n2 256) (Calm.fldPtr rfl rfl Try.underlying30 rfl sz28 _ rfl) ?_
         refine AO.c (Calm.load 0 rfl rfl rfl (At.cast (At.fldS (At.fld0 At.here)) rfl) ag28 sz28) ?_
         refine AO.c (Calm.move rfl rfl) ?_
         obtain ⟨hg26, h⟩ := of_guard h
         refine AO.c (Calm.idxL (f := e25) rfl rfl rfl hg26 Try.underlying28 sz25) ?_
         refine AO.c (Calm.loadRp rfl rfl ag25 sz25) ?_
         refine AO.c (Calm.lenL rfl rfl Try.underlying25) ?_
         refine AO.c (x := eBool (decide (x23 < ((lget p0.f1 x10).length : Int)))) (Calm.int rfl rfl rfl rfl) ?_
         refine AO.nK [1, 3, 4, 5, 64] ?_
         rcases of_ite h with ⟨hc27, h⟩ | ⟨hc27, h⟩
         ·refine AW.condP _ rfl hc27 ?_
          refine AW.sK [1, 3, 4, 5] ?_
          refine AW.seq ?_
          refine AW.block ?_
          refine AW.seq ?_
          obtain ⟨b28, hq29, h⟩ := of_bind h
          refine AW.regM [(1, (.ptr n2 0)), (3, (eI64 (p0.f1.length : Int))), (4, (eI64 x10)), (5, (eI64 x23)), (87, (eBool b28))] [(n2, (.mem (e30 p0)))] ?_ ?_
          ·refine AO.c (x := .ptr n2 256) (Calm.fldPtr rfl rfl Try.underlying30 rfl sz28 _ rfl) ?_
           refine AO.c (Calm.load 0 rfl rfl rfl (At.cast (At.fldS (At.fld0 At.here)) rfl) ag28 sz28) ?_
           refine AO.c (Calm.move rfl rfl) ?_
           obtain ⟨hg30, hq29⟩ := of_guard hq29
           refine AO.c (Calm.idxL (f := e25) rfl rfl rfl hg30 Try.underlying28 sz25) ?_
           refine AO.c (Calm.loadRp rfl rfl ag25 sz25) ?_
           refine AO.c (Calm.move rfl rfl) ?_
           obtain ⟨hg31, hq29⟩ := of_guard hq29
           refine AO.c (Calm.idxL (f := eI64) rfl rfl rfl hg31 Try.underlying25 sz3) ?_
           refine AO.c (Calm.loadRp rfl rfl ag3 sz3) ?_
           refine AO.c (x := eBool (decide ((lget (lget p0.f1 x10) x23) < (-1 : Int)))) (Calm.int rfl rfl rfl rfl) ?_
           refine AO.c (Calm.move rfl rfl) ?_
           rcases of_ite hq29 with ⟨hc32, hq29⟩ | ⟨hc32, hq29⟩
           ·refine AO.sF rfl rfl (bD (decide_eq_true hc32)) ?_
            refine AO.sF rfl rfl (bD (decide_eq_true hc32)) ?_
            refine AO.sF rfl rfl (bD (decide_eq_true hc32)) ?_
            refine AO.sF rfl rfl (bD (decide_eq_true hc32)) ?_
            refine AO.sF rfl rfl (bD (decide_eq_true hc32)) ?_
            refine AO.sF rfl rfl (bD (decide_eq_true hc32)) ?_
            refine AO.sF rfl rfl (bD (decide_eq_true hc32)) ?_
            refine AO.sF rfl rfl (bD (decide_eq_true hc32)) ?_
            refine AO.sF rfl rfl (bD (decide_eq_true hc32)) ?_
            refine AO.sF rfl rfl (bD (decide_eq_true hc32)) ?_
            refine AO.c (Calm.pickT rfl (bD (decide_eq_true hc32)) rfl) ?_
            cases hq29
            refine AO.nilE ⟨rfl, rfl⟩ ?_ ?_
            · exact ⟨rfl, rfl, rfl, rfl, rfl, trivial⟩
            · exact (Sub.refl _)
           ·refine AO.cG (x := .ptr n2 256) rfl rfl (bD (decide_eq_false hc32)) (Calm.fldPtr rfl rfl Try.underlying30 rfl sz28 _ rfl) ?_
            refine AO.cG rfl rfl (bD (decide_eq_false hc32)) (Calm.load 0 rfl rfl rfl (At.cast (At.fldS (At.fld0 At.here)) rfl) ag28 sz28) ?_
            refine AO.cG rfl rfl (bD (decide_eq_false hc32)) (Calm.move rfl rfl) ?_
            obtain ⟨hg33, hq29⟩ := of_guard hq29
            refine AO.cG rfl rfl (bD (decide_eq_false hc32)) (Calm.idxL (f := e25) rfl rfl rfl hg33 Try.underlying28 sz25) ?_
            refine AO.cG rfl rfl (bD (decide_eq_false hc32)) (Calm.loadRp rfl rfl ag25 sz25) ?_
            refine AO.cG rfl rfl (bD (decide_eq_false hc32)) (Calm.move rfl rfl) ?_
            obtain ⟨hg34, hq29⟩ := of_guard hq29
            refine AO.cG rfl rfl (bD (decide_eq_false hc32)) (Calm.idxL (f := eI64) rfl rfl rfl hg34 Try.underlying25 sz3) ?_
            refine AO.cG rfl rfl (bD (decide_eq_false hc32)) (Calm.loadRp rfl rfl ag3 sz3) ?_
            refine AO.cG rfl rfl (bD (decide_eq_false hc32)) (Calm.move rfl rfl) ?_
            refine AO.cG (x := eBool (decide ((p0.f1.length : Int) ≤ (lget (lget p0.f1 x10) x23)))) rfl rfl (bD (decide_eq_false hc32)) (Calm.int rfl rfl rfl rfl) ?_
            refine AO.c (Calm.pickF rfl (bD (decide_eq_false hc32)) rfl) ?_
            cases hq29
            refine AO.nilE ⟨rfl, rfl⟩ ?_ ?_
            · exact ⟨rfl, rfl, rfl, rfl, rfl, trivial⟩
            · exact (Sub.refl _)
          ·rcases of_ite h with ⟨hc35, h⟩ | ⟨hc35, h⟩
           ·refine AW.condT' _ rfl hc35 ?_
            refine AW.sr ?_
            refine AO.c (Calm.assign rfl rfl) ?_
            refine AO.nH [2] (H' := []) (Sub.nil _) ?_
            refine AW.rK [2] ?_
            have hr := Option.some.inj h
            subst hr
            exact ⟨[(eBool false)], ⟨rfl, rfl, trivial⟩, rfl⟩
           ·refine AW.condF' _ rfl hc35 ?_
            refine AW.sK [1, 3, 4, 5] ?_
            refine AW.reg ?_
            refine AO.c (Calm.move rfl rfl) ?_
            refine AO.c (x := eI64 (w64 (x23 + (1 : Int)))) (Calm.int rfl rfl rfl rfl) ?_
            refine AO.c (Calm.assign rfl rfl) ?_
            refine AO.nK [1, 3, 4, 5] ?_
            exact ⟨kq25, Nat.lt_succ_self _, (w64 (x23 + (1 : Int))), rfl, rfl, by rw [hrec24]; exact h⟩
         ·refine AW.condN _ rfl hc27 ?_
          refine AW.eK [1, 3, 4] ?_
          exact ⟨rfl, rfl, h⟩
      ·rintro _ _ ⟨rfl, rfl, h⟩
       rw [bosketref08_Right_c1.eq_1] at h
       refine AW.reg ?_
       refine AO.c (Calm.move rfl rfl) ?_
       refine AO.c (x := eI64 (w64 (x10 + (1 : Int)))) (Calm.int rfl rfl rfl rfl) ?_
       refine AO.c (Calm.assign rfl rfl) ?_
       refine AO.nK [1, 3, 4] ?_
       exact ⟨kq12, Nat.lt_succ_self _, (w64 (x10 + (1 : Int))), rfl, rfl, by rw [hrec11]; exact h⟩
     ·refine AW.condN _ rfl hc13 ?_
      refine AW.eH [] (H' := []) (Sub.nil _) ?_
      exact ⟨rfl, rfl, h⟩
    ·rintro _ _ ⟨rfl, rfl, h⟩
     rw [bosketref08_Right_c0.eq_1] at h
     refine AW.sr ?_
     refine AO.c (Calm.assign rfl rfl) ?_
     refine AO.nK [2] ?_
     refine AW.rK [2] ?_
     have hr := Option.some.inj h
     subst hr
     exact ⟨[(eBool true)], ⟨rfl, rfl, trivial⟩, rfl⟩
end Go.Avl.T5
/- bosket/bosketref08.Mark; printed by avmain.py. -/
namespace Go.Avl.T5
open Go Go.RowKit Go.Proofs Go.Avl
set_option linter.unusedVariables false
set_option maxRecDepth 100000
set_option maxHeartbeats 4000000
attribute [local irreducible] AW AO AQ Spec SpecH Calm

def bosketref08_Mark (k : Nat) (p0 : S30) (p1 : Int) : Option Int :=
  Option.bind (α := Bool) (if p1 < (0 : Int) then some (true)
  else some (decide ((p0.f2.length : Int) ≤ p1))) fun b4 =>
  if b4 = true then some ((-1 : Int))
  else if 0 ≤ p1 ∧ p1 < (p0.f2.length : Int) then some ((lget p0.f2 p1))
  else none
theorem bosketref08_Mark_spec {k : Nat} {p0 : S30} {p1 : Int} {r : Int} (h : bosketref08_Mark k p0 p1 = some r) : Spec Try.prog 41 [(e30 p0), (eI64 p1)] (eI64 r) := by
  rw [bosketref08_Mark.eq_1] at h
  refine Spec.intro (res := [.tmp 4]) Try.func41 rfl rfl rfl (Nat.le_of_ble_eq_true rfl) ?_
  refine AW.sr ?_
  refine AO.box rfl 2 rfl (by decide) rfl rfl rfl fun n3 => ?_
  refine AO.c (Calm.assign rfl rfl) ?_
  refine AO.nK [1, 2] ?_
  refine AW.seq ?_
  refine AW.seq ?_
  obtain ⟨b4, hq5, h⟩ := of_bind h
  refine AW.regM [(1, (eI64 p1)), (2, (.ptr n3 0)), (13, (eBool b4))] [(n3, (.mem (e30 p0)))] ?_ ?_
  ·refine AO.c (Calm.move rfl rfl) ?_
   refine AO.c (x := eBool (decide (p1 < (0 : Int)))) (Calm.int rfl rfl rfl rfl) ?_
   refine AO.c (Calm.move rfl rfl) ?_
   rcases of_ite hq5 with ⟨hc6, hq5⟩ | ⟨hc6, hq5⟩
   ·refine AO.sF rfl rfl (bD (decide_eq_true hc6)) ?_
    refine AO.sF rfl rfl (bD (decide_eq_true hc6)) ?_
    refine AO.sF rfl rfl (bD (decide_eq_true hc6)) ?_
    refine AO.sF rfl rfl (bD (decide_eq_true hc6)) ?_
    refine AO.sF rfl rfl (bD (decide_eq_true hc6)) ?_
    refine AO.c (Calm.pickT rfl (bD (decide_eq_true hc6)) rfl) ?_
    cases hq5
    refine AO.nilE ⟨rfl, rfl⟩ ?_ ?_
    · exact ⟨rfl, rfl, rfl, trivial⟩
    · exact (Sub.refl _)
   ·refine AO.cG rfl rfl (bD (decide_eq_false hc6)) (Calm.move rfl rfl) ?_
    refine AO.cG (x := .ptr n3 257) rfl rfl (bD (decide_eq_false hc6)) (Calm.fldPtr rfl rfl Try.underlying30 rfl sz25 _ rfl) ?_
    refine AO.cG rfl rfl (bD (decide_eq_false hc6)) (Calm.load 0 rfl rfl rfl (At.cast (At.fldS (At.fldS (At.fld0 At.here))) rfl) ag25 sz25) ?_
    refine AO.cG rfl rfl (bD (decide_eq_false hc6)) (Calm.lenL rfl rfl Try.underlying25) ?_
    refine AO.cG (x := eBool (decide ((p0.f2.length : Int) ≤ p1))) rfl rfl (bD (decide_eq_false hc6)) (Calm.int rfl rfl rfl rfl) ?_
    refine AO.c (Calm.pickF rfl (bD (decide_eq_false hc6)) rfl) ?_
    cases hq5
    refine AO.nilE ⟨rfl, rfl⟩ ?_ ?_
    · exact ⟨rfl, rfl, rfl, trivial⟩
    · exact (Sub.refl _)
  ·rcases of_ite h with ⟨hc7, h⟩ | ⟨hc7, h⟩
   ·refine AW.condT' _ rfl hc7 ?_
    refine AW.sr ?_
    refine AO.c (Calm.assign rfl rfl) ?_
    refine AO.nH [4] (H' := []) (Sub.nil _) ?_
    refine AW.rK [4] ?_
    have hr := Option.some.inj h
    subst hr
    exact ⟨[(eI64 (-1 : Int))], ⟨rfl, rfl, trivial⟩, rfl⟩
   ·refine AW.condF' _ rfl hc7 ?_
    refine AW.sK [1, 2] ?_
    refine AW.sr ?_
    refine AO.c (x := .ptr n3 257) (Calm.fldPtr rfl rfl Try.underlying30 rfl sz25 _ rfl) ?_
    refine AO.c (Calm.load 0 rfl rfl rfl (At.cast (At.fldS (At.fldS (At.fld0 At.here))) rfl) ag25 sz25) ?_
    refine AO.c (Calm.move rfl rfl) ?_
    obtain ⟨hg8, h⟩ := of_guard h
    refine AO.c (Calm.idxL (f := eI64) rfl rfl rfl hg8 Try.underlying25 sz3) ?_
    refine AO.c (Calm.loadRp rfl rfl ag3 sz3) ?_
    refine AO.c (Calm.assign rfl rfl) ?_
    refine AO.nH [4] (H' := []) (Sub.nil _) ?_
    refine AW.rK [4] ?_
    have hr := Option.some.inj h
    subst hr
    exact ⟨[(eI64 (lget p0.f2 p1))], ⟨rfl, rfl, trivial⟩, rfl⟩
end Go.Avl.T5
/- bosket/bosketref09.to; printed by avmain.py. -/
namespace Go.Avl.T5
open Go Go.RowKit Go.Proofs Go.Avl
set_option linter.unusedVariables false
set_option maxRecDepth 100000
set_option maxHeartbeats 4000000
attribute [local irreducible] AW AO AQ Spec SpecH Calm

def bosketref09_to (k : Nat) (p0 : S30) (p1 : Int) (p2 : Int) : Option Int :=
  Option.bind (α := Bool) (if (p0.f1.length : Int) ≤ p1 then some (true)
  else if 0 ≤ p1 ∧ p1 < (p0.f1.length : Int) then if 0 ≤ p2 ∧ p2 < ((lget p0.f1 p1).length : Int) then some (decide ((lget (lget p0.f1 p1) p2) < (0 : Int)))
  else none
  else none) fun b5 =>
  if b5 = true then some ((p0.f1.length : Int))
  else if 0 ≤ p1 ∧ p1 < (p0.f1.length : Int) then if 0 ≤ p2 ∧ p2 < ((lget p0.f1 p1).length : Int) then some ((lget (lget p0.f1 p1) p2))
  else none
  else none
theorem bosketref09_to_spec {k : Nat} {p0 : S30} {p1 : Int} {p2 : Int} {r : Int} (h : bosketref09_to k p0 p1 p2 = some r) : Spec Try.prog 73 [(e30 p0), (eI64 p1), (eI64 p2)] (eI64 r) := by
  rw [bosketref09_to.eq_1] at h
  refine Spec.intro (res := [.tmp 6]) Try.func73 rfl rfl rfl (Nat.le_of_ble_eq_true rfl) ?_
  refine AW.sr ?_
  refine AO.box rfl 3 rfl (by decide) rfl rfl rfl fun n4 => ?_
  refine AO.c (Calm.assign rfl rfl) ?_
  refine AO.nK [1, 2, 3] ?_
  refine AW.seq ?_
  refine AW.seq ?_
  obtain ⟨b5, hq6, h⟩ := of_bind h
  refine AW.regM [(1, (eI64 p1)), (2, (eI64 p2)), (3, (.ptr n4 0)), (22, (eBool b5))] [(n4, (.mem (e30 p0)))] ?_ ?_
  ·refine AO.c (Calm.move rfl rfl) ?_
   refine AO.c (x := .ptr n4 256) (Calm.fldPtr rfl rfl Try.underlying30 rfl sz28 _ rfl) ?_
   refine AO.c (Calm.load 0 rfl rfl rfl (At.cast (At.fldS (At.fld0 At.here)) rfl) ag28 sz28) ?_
   refine AO.c (Calm.lenL rfl rfl Try.underlying28) ?_
   refine AO.c (x := eBool (decide ((p0.f1.length : Int) ≤ p1))) (Calm.int rfl rfl rfl rfl) ?_
   refine AO.c (Calm.move rfl rfl) ?_
   rcases of_ite hq6 with ⟨hc7, hq6⟩ | ⟨hc7, hq6⟩
   ·refine AO.sF rfl rfl (bD (decide_eq_true hc7)) ?_
    refine AO.sF rfl rfl (bD (decide_eq_true hc7)) ?_
    refine AO.sF rfl rfl (bD (decide_eq_true hc7)) ?_
    refine AO.sF rfl rfl (bD (decide_eq_true hc7)) ?_
    refine AO.sF rfl rfl (bD (decide_eq_true hc7)) ?_
    refine AO.sF rfl rfl (bD (decide_eq_true hc7)) ?_
    refine AO.sF rfl rfl (bD (decide_eq_true hc7)) ?_
    refine AO.sF rfl rfl (bD (decide_eq_true hc7)) ?_
    refine AO.sF rfl rfl (bD (decide_eq_true hc7)) ?_
    refine AO.c (Calm.pickT rfl (bD (decide_eq_true hc7)) rfl) ?_
    cases hq6
    refine AO.nilE ⟨rfl, rfl⟩ ?_ ?_
    · exact ⟨rfl, rfl, rfl, rfl, trivial⟩
    · exact (Sub.refl _)
   ·refine AO.cG (x := .ptr n4 256) rfl rfl (bD (decide_eq_false hc7)) (Calm.fldPtr rfl rfl Try.underlying30 rfl sz28 _ rfl) ?_
    refine AO.cG rfl rfl (bD (decide_eq_false hc7)) (Calm.load 0 rfl rfl rfl (At.cast (At.fldS (At.fld0 At.here)) rfl) ag28 sz28) ?_
    refine AO.cG rfl rfl (bD (decide_eq_false hc7)) (Calm.move rfl rfl) ?_
    obtain ⟨hg8, hq6⟩ := of_guard hq6
    refine AO.cG rfl rfl (bD (decide_eq_false hc7)) (Calm.idxL (f := e25) rfl rfl rfl hg8 Try.underlying28 sz25) ?_
    refine AO.cG rfl rfl (bD (decide_eq_false hc7)) (Calm.loadRp rfl rfl ag25 sz25) ?_
    refine AO.cG rfl rfl (bD (decide_eq_false hc7)) (Calm.move rfl rfl) ?_
    obtain ⟨hg9, hq6⟩ := of_guard hq6
    refine AO.cG rfl rfl (bD (decide_eq_false hc7)) (Calm.idxL (f := eI64) rfl rfl rfl hg9 Try.underlying25 sz3) ?_
    refine AO.cG rfl rfl (bD (decide_eq_false hc7)) (Calm.loadRp rfl rfl ag3 sz3) ?_
    refine AO.cG (x := eBool (decide ((lget (lget p0.f1 p1) p2) < (0 : Int)))) rfl rfl (bD (decide_eq_false hc7)) (Calm.int rfl rfl rfl rfl) ?_
    refine AO.c (Calm.pickF rfl (bD (decide_eq_false hc7)) rfl) ?_
    cases hq6
    refine AO.nilE ⟨rfl, rfl⟩ ?_ ?_
    · exact ⟨rfl, rfl, rfl, rfl, trivial⟩
    · exact (Sub.refl _)
  ·rcases of_ite h with ⟨hc10, h⟩ | ⟨hc10, h⟩
   ·refine AW.condT' _ rfl hc10 ?_
    refine AW.sr ?_
    refine AO.c (x := .ptr n4 256) (Calm.fldPtr rfl rfl Try.underlying30 rfl sz28 _ rfl) ?_
    refine AO.c (Calm.load 0 rfl rfl rfl (At.cast (At.fldS (At.fld0 At.here)) rfl) ag28 sz28) ?_
    refine AO.c (Calm.lenL rfl rfl Try.underlying28) ?_
    refine AO.c (Calm.assign rfl rfl) ?_
    refine AO.nH [6] (H' := []) (Sub.nil _) ?_
    refine AW.rK [6] ?_
    have hr := Option.some.inj h
    subst hr
    exact ⟨[(eI64 (p0.f1.length : Int))], ⟨rfl, rfl, trivial⟩, rfl⟩
   ·refine AW.condF' _ rfl hc10 ?_
    refine AW.sK [1, 2, 3] ?_
    refine AW.sr ?_
    refine AO.c (x := .ptr n4 256) (Calm.fldPtr rfl rfl Try.underlying30 rfl sz28 _ rfl) ?_
    refine AO.c (Calm.load 0 rfl rfl rfl (At.cast (At.fldS (At.fld0 At.here)) rfl) ag28 sz28) ?_
    refine AO.c (Calm.move rfl rfl) ?_
    obtain ⟨hg11, h⟩ := of_guard h
    refine AO.c (Calm.idxL (f := e25) rfl rfl rfl hg11 Try.underlying28 sz25) ?_
    refine AO.c (Calm.loadRp rfl rfl ag25 sz25) ?_
    refine AO.c (Calm.move rfl rfl) ?_
    obtain ⟨hg12, h⟩ := of_guard h
    refine AO.c (Calm.idxL (f := eI64) rfl rfl rfl hg12 Try.underlying25 sz3) ?_
    refine AO.c (Calm.loadRp rfl rfl ag3 sz3) ?_
    refine AO.c (Calm.assign rfl rfl) ?_
    refine AO.nH [6] (H' := []) (Sub.nil _) ?_
    refine AW.rK [6] ?_
    have hr := Option.some.inj h
    subst hr
    exact ⟨[(eI64 (lget (lget p0.f1 p1) p2))], ⟨rfl, rfl, trivial⟩, rfl⟩
end Go.Avl.T5
/- bosket/bosketref09.Apart; printed by avmain.py. -/
namespace Go.Avl.T5
open Go Go.RowKit Go.Proofs Go.Avl
set_option linter.unusedVariables false
set_option maxRecDepth 100000
set_option maxHeartbeats 4000000
attribute [local irreducible] AW AO AQ Spec SpecH Calm

def bosketref09_Apart_c0 (k : Nat) (x6 : (List (List Bool))) : Option (List (List Bool)) :=
  some (x6)
def bosketref09_Apart_c1 (k : Nat) (rec11 : ((List (List Bool)) → Int → Option (List (List Bool)))) (x10 : Int) (x14 : (List (List Bool))) : Option (List (List Bool)) :=
  rec11 x14 (w64 (x10 + (1 : Int)))
def bosketref09_Apart_c2 (k : Nat) (rec19 : ((List (List Bool)) → Int → Option (List (List Bool)))) (x18 : Int) (x22 : (List (List Bool))) : Option (List (List Bool)) :=
  rec19 x22 (w64 (x18 + (1 : Int)))
def bosketref09_Apart_c3 (k : Nat) (rec27 : ((List (List Bool)) → Int → Option (List (List Bool)))) (x26 : Int) (x30 : (List (List Bool))) : Option (List (List Bool)) :=
  rec27 x30 (w64 (x26 + (1 : Int)))
def bosketref09_Apart_l4 (k : Nat) (rec27 : ((List (List Bool)) → Int → Option (List (List Bool)))) (p0 : S30) (x18 : Int) (x26 : Int) : Nat → (List (List Bool)) → Int → Option (List (List Bool))
  | 0, _, _ => none
  | j + 1, x32, x34 =>
    Option.bind (α := Bool) (if 0 ≤ (0 : Int) ∧ (0 : Int) < (p0.f1.length : Int) then if x34 < ((lget p0.f1 (0 : Int)).length : Int) then if 0 ≤ x18 ∧ x18 < (x32.length : Int) then if 0 ≤ x26 ∧ x26 < ((lget x32 x18).length : Int) then some (!(lget (lget x32 x18) x26))
    else none
    else none
    else some (false)
    else none) fun b37 =>
    if b37 = true then if 0 ≤ x18 ∧ x18 < (x32.length : Int) then (bosketref09_to k p0 x18 x34).bind fun t45 =>
    if 0 ≤ t45 ∧ t45 < (x32.length : Int) then (bosketref09_to k p0 x26 x34).bind fun t47 =>
    if 0 ≤ t47 ∧ t47 < ((lget x32 t45).length : Int) then if 0 ≤ x26 ∧ x26 < ((lget x32 x18).length : Int) then (bosketref09_Apart_l4 k rec27 p0 x18 x26 j) (lset x32 x18 (lset (lget x32 x18) x26 (lget (lget x32 t45) t47))) (w64 (x34 + (1 : Int)))
    else none
    else none
    else none
    else none
    else bosketref09_Apart_c3 k rec27 x26 x32
def bosketref09_Apart_l5 (k : Nat) (rec19 : ((List (List Bool)) → Int → Option (List (List Bool)))) (p0 : S30) (x18 : Int) : Nat → (List (List Bool)) → Int → Option (List (List Bool))
  | 0, _, _ => none
  | j + 1, x24, x26 =>
    if x26 < (w64 ((p0.f1.length : Int) + (1 : Int))) then bosketref09_Apart_l4 k (bosketref09_Apart_l5 k rec19 p0 x18 j) p0 x18 x26 k x24 (0 : Int)
    else bosketref09_Apart_c2 k rec19 x18 x24
def bosketref09_Apart_l6 (k : Nat) (rec11 : ((List (List Bool)) → Int → Option (List (List Bool)))) (p0 : S30) (x10 : Int) : Nat → (List (List Bool)) → Int → Option (List (List Bool))
  | 0, _, _ => none
  | j + 1, x16, x18 =>
    if x18 < (w64 ((p0.f1.length : Int) + (1 : Int))) then bosketref09_Apart_l5 k (bosketref09_Apart_l6 k rec11 p0 x10 j) p0 x18 k x16 (0 : Int)
    else bosketref09_Apart_c1 k rec11 x10 x16
def bosketref09_Apart_l7 (k : Nat) (p0 : S30) : Nat → (List (List Bool)) → Int → Option (List (List Bool))
  | 0, _, _ => none
  | j + 1, x8, x10 =>
    if x10 < (w64 ((p0.f1.length : Int) + (1 : Int))) then bosketref09_Apart_l6 k (bosketref09_Apart_l7 k p0 j) p0 x10 k x8 (0 : Int)
    else bosketref09_Apart_c0 k x8
def bosketref09_Apart_c8 (k : Nat) (p0 : S30) (x4 : (List (List Bool))) : Option (List (List Bool)) :=
  bosketref09_Apart_l7 k p0 k x4 (0 : Int)
def bosketref09_Apart_c9 (k : Nat) (rec54 : ((List (List Bool)) → Int → Option (List (List Bool)))) (x53 : Int) (x58 : (List (List Bool))) : Option (List (List Bool)) :=
  rec54 x58 (w64 (x53 + (1 : Int)))
def bosketref09_Apart_c10 (k : Nat) (rec54 : ((List (List Bool)) → Int → Option (List (List Bool)))) (x51 : (List (List Bool))) (x53 : Int) (x62 : (List Bool)) : Option (List (List Bool)) :=
  if (x51 ++ [x62]).length * 24 ≤ 140737488355328 then bosketref09_Apart_c9 k rec54 x53 (x51 ++ [x62])
  else none
def bosketref09_Apart_l11 (k : Nat) (rec54 : ((List (List Bool)) → Int → Option (List (List Bool)))) (p0 : S30) (x51 : (List (List Bool))) (x53 : Int) : Nat → (List Bool) → Int → Option (List (List Bool))
  | 0, _, _ => none
  | j + 1, x66, x67 =>
    if x67 < (w64 ((p0.f1.length : Int) + (1 : Int))) then (bosketref08_Mark k p0 x53).bind fun t71 =>
    (bosketref08_Mark k p0 x67).bind fun t72 =>
    if 0 ≤ x67 ∧ x67 < (x66.length : Int) then (bosketref09_Apart_l11 k rec54 p0 x51 x53 j) (lset x66 x67 (decide (t71 ≠ t72))) (w64 (x67 + (1 : Int)))
    else none
    else bosketref09_Apart_c10 k rec54 x51 x53 x66
def bosketref09_Apart_l12 (k : Nat) (p0 : S30) : Nat → (List (List Bool)) → Int → Option (List (List Bool))
  | 0, _, _ => none
  | j + 1, x51, x53 =>
    if x53 < (w64 ((p0.f1.length : Int) + (1 : Int))) then if 0 ≤ (w64 ((p0.f1.length : Int) + (1 : Int))) ∧ (w64 ((p0.f1.length : Int) + (1 : Int))) * (1 : Int) ≤ 140737488355328 ∧ (w64 ((p0.f1.length : Int) + (1 : Int))) ≤ 9223372036854775807 then bosketref09_Apart_l11 k (bosketref09_Apart_l12 k p0 j) p0 x51 x53 k (List.replicate (w64 ((p0.f1.length : Int) + (1 : Int))).toNat false) (0 : Int)
    else none
    else bosketref09_Apart_c8 k p0 x51
def bosketref09_Apart (k : Nat) (p0 : S30) : Option (List (List Bool)) :=
  bosketref09_Apart_l12 k p0 k ([] : List (List Bool)) (0 : Int)
theorem bosketref09_Apart_spec {k : Nat} {p0 : S30} {r : (List (List Bool))} (h : bosketref09_Apart k p0 = some r) : Spec Try.prog 70 [(e30 p0)] (e78 r) := by
  rw [bosketref09_Apart.eq_1] at h
  refine Spec.intro (res := [.tmp 2]) Try.func70 rfl rfl rfl (Nat.le_of_ble_eq_true rfl) ?_
  refine AW.sr ?_
  refine AO.box rfl 1 rfl (by decide) rfl rfl rfl fun n2 => ?_
  refine AO.c (Calm.assign rfl rfl) ?_
  refine AO.nK [1] ?_
  refine AW.sr ?_
  refine AO.c (x := .ptr n2 256) (Calm.fldPtr rfl rfl Try.underlying30 rfl sz28 _ rfl) ?_
  refine AO.c (Calm.load 0 rfl rfl rfl (At.cast (At.fldS (At.fld0 At.here)) rfl) ag28 sz28) ?_
  refine AO.c (Calm.lenL rfl rfl Try.underlying28) ?_
  refine AO.c (x := eI64 (w64 ((p0.f1.length : Int) + (1 : Int)))) (Calm.int rfl rfl rfl rfl) ?_
  refine AO.c (Calm.assign rfl rfl) ?_
  refine AO.nK [1, 3] ?_
  refine AW.sr ?_
  refine AO.c (Calm.assign rfl rfl) ?_
  refine AO.nK [1, 3, 4] ?_
  refine AW.seq_mid (fun ρ H => ∃ (n3 : Nat) (ns5 : (Nat → Nat)) (x4 : (List (List Bool))), ρ = [(1, (.ptr n2 0)), (3, (eI64 (w64 ((p0.f1.length : Int) + (1 : Int))))), (4, (.own n3 0 x4.length))] ∧ H = ((n2, (.mem (e30 p0))) :: (n3, (.mem (.ar 1 (ownsF ns5 0 x4)))) :: (famF 1 eBool ns5 0 x4 ++ [])) ∧ bosketref09_Apart_c8 k p0 x4 = some r) ?_ ?_
  ·refine AW.sr ?_
   refine AO.c (Calm.assign rfl rfl) ?_
   refine AO.nK [1, 3, 4, 5] ?_
   refine AW.block ?_
   refine AW.nilOwn 4 1 rfl fun n74 => ?_
   refine AW.heq (H' := ((n74, (.mem (.ar 1 (ownsF (fun _ => 0) 0 ([] : List (List Bool)))))) :: (n2, (.mem (e30 p0))) :: (famF 1 eBool (fun _ => 0) 0 ([] : List (List Bool)) ++ []))) rfl ?_
   refine AW.wH [1, 3, 4, 5] (H' := ((n2, (.mem (e30 p0))) :: (n74, (.mem (.ar 1 (ownsF (fun _ => 0) 0 ([] : List (List Bool)))))) :: (famF 1 eBool (fun _ => 0) 0 ([] : List (List Bool)) ++ []))) (Sub.cons 1 rfl (Sub.cons 0 rfl (Sub.refl _))) ?_
   refine AW.loop (fun kq ρ H => ∃ (n50 : Nat) (ns52 : (Nat → Nat)) (x51 : (List (List Bool))) (x53 : Int), ρ = [(1, (.ptr n2 0)), (3, (eI64 (w64 ((p0.f1.length : Int) + (1 : Int))))), (4, (.own n50 0 x51.length)), (5, (eI64 x53))] ∧ H = ((n2, (.mem (e30 p0))) :: (n50, (.mem (.ar 1 (ownsF ns52 0 x51)))) :: (famF 1 eBool ns52 0 x51 ++ [])) ∧ bosketref09_Apart_l12 k p0 kq x51 x53 = some r) k ⟨n74, (fun _ => 0), ([] : List (List Bool)), (0 : Int), rfl, rfl, h⟩ ?_
   rintro kq55 _ _ ⟨n50, ns52, x51, x53, rfl, rfl, h⟩
   cases kq55 with
   | zero => rw [bosketref09_Apart_l12.eq_1] at h; cases h
   | succ kq55 =>
   rw [bosketref09_Apart_l12.eq_2] at h
   generalize hrec54 : bosketref09_Apart_l12 k p0 kq55 = rec54 at h
   refine AW.seq ?_
   refine AW.sr ?_
   refine AO.c (Calm.move rfl rfl) ?_
   refine AO.c (Calm.move rfl rfl) ?_
   refine AO.c (x := eBool (decide (x53 < (w64 ((p0.f1.length : Int) + (1 : Int)))))) (Calm.int rfl rfl rfl rfl) ?_
   refine AO.nK [1, 3, 4, 5, 18] ?_
   rcases of_ite h with ⟨hc56, h⟩ | ⟨hc56, h⟩
   ·refine AW.condP _ rfl hc56 ?_
    refine AW.sK [1, 3, 4, 5] ?_
    refine AW.seq_mid (fun ρ H => ∃ (n57 : Nat) (ns59 : (Nat → Nat)) (x58 : (List (List Bool))), ρ = [(1, (.ptr n2 0)), (3, (eI64 (w64 ((p0.f1.length : Int) + (1 : Int))))), (4, (.own n57 0 x58.length)), (5, (eI64 x53))] ∧ H = ((n2, (.mem (e30 p0))) :: (n57, (.mem (.ar 1 (ownsF ns59 0 x58)))) :: (famF 1 eBool ns59 0 x58 ++ [])) ∧ bosketref09_Apart_c9 k rec54 x53 x58 = some r) ?_ ?_
    ·refine AW.block ?_
     refine AW.sr ?_
     refine AO.c (Calm.move rfl rfl) ?_
     obtain ⟨hg61, h⟩ := of_guard h
     refine AO.makeL (f := eBool) false rfl 22 rfl (by decide) rfl rfl rfl Try.underlying49 sz4 by4 zr4 lay4 rfl hg61 fun n60 => ?_
     refine AO.c (Calm.assign rfl rfl) ?_
     refine AO.nH [1, 3, 4, 5, 6] (H' := ((n2, (.mem (e30 p0))) :: (n50, (.mem (.ar 1 (ownsF ns52 0 x51)))) :: (n60, (.mem (.ar 1 ((List.replicate (w64 ((p0.f1.length : Int) + (1 : Int))).toNat false).map eBool)))) :: (famF 1 eBool ns52 0 x51 ++ []))) (Sub.cons 1 rfl (Sub.cons 1 rfl (Sub.cons 0 rfl (Sub.refl _)))) ?_
     refine AW.seq_mid (fun ρ H => ∃ (x62 : (List Bool)), ρ = [(1, (.ptr n2 0)), (3, (eI64 (w64 ((p0.f1.length : Int) + (1 : Int))))), (4, (.own n50 0 x51.length)), (5, (eI64 x53)), (6, (.own n60 0 x62.length))] ∧ H = ((n2, (.mem (e30 p0))) :: (n50, (.mem (.ar 1 (ownsF ns52 0 x51)))) :: (n60, (.mem (.ar 1 (x62.map eBool)))) :: (famF 1 eBool ns52 0 x51 ++ [])) ∧ bosketref09_Apart_c10 k rec54 x51 x53 x62 = some r) ?_ ?_
     ·refine AW.sr ?_
      refine AO.c (Calm.assign rfl rfl) ?_
      refine AO.nK [1, 3, 4, 5, 6, 7] ?_
      refine AW.block ?_
      refine AW.wK [1, 3, 4, 5, 6, 7] ?_
      refine AW.loop (fun kq ρ H => ∃ (x66 : (List Bool)) (x67 : Int), ρ = [(1, (.ptr n2 0)), (3, (eI64 (w64 ((p0.f1.length : Int) + (1 : Int))))), (4, (.own n50 0 x51.length)), (5, (eI64 x53)), (6, (.own n60 0 x66.length)), (7, (eI64 x67))] ∧ H = ((n2, (.mem (e30 p0))) :: (n50, (.mem (.ar 1 (ownsF ns52 0 x51)))) :: (n60, (.mem (.ar 1 (x66.map eBool)))) :: (famF 1 eBool ns52 0 x51 ++ [])) ∧ bosketref09_Apart_l11 k rec54 p0 x51 x53 kq x66 x67 = some r) k ⟨(List.replicate (w64 ((p0.f1.length : Int) + (1 : Int))).toNat false), (0 : Int), rfl, rfl, h⟩ ?_
      rintro kq69 _ _ ⟨x66, x67, rfl, rfl, h⟩
      cases kq69 with
      | zero => rw [bosketref09_Apart_l11.eq_1] at h; cases h
      | succ kq69 =>
      rw [bosketref09_Apart_l11.eq_2] at h
      generalize hrec68 : bosketref09_Apart_l11 k rec54 p0 x51 x53 kq69 = rec68 at h
      refine AW.seq ?_
      refine AW.sr ?_
      refine AO.c (Calm.move rfl rfl) ?_
      refine AO.c (Calm.move rfl rfl) ?_
      refine AO.c (x := eBool (decide (x67 < (w64 ((p0.f1.length : Int) + (1 : Int)))))) (Calm.int rfl rfl rfl rfl) ?_
      refine AO.nK [1, 3, 4, 5, 6, 7, 25] ?_
      rcases of_ite h with ⟨hc70, h⟩ | ⟨hc70, h⟩
      ·refine AW.condP _ rfl hc70 ?_
       refine AW.sK [1, 3, 4, 5, 6, 7] ?_
       refine AW.seq ?_
       refine AW.block ?_
       obtain ⟨t71, et71, h⟩ := of_bind h
       obtain ⟨t72, et72, h⟩ := of_bind h
       obtain ⟨hg73, h⟩ := of_guard h
       refine AW.regAnyL rfl rfl (by rfl) (by decide +kernel) (by decide +kernel) [(.own n60 0 x66.length), (eI64 x67), (e30 p0), (eI64 x53), (eI64 t71), (e30 p0), (eI64 x67), (eI64 t72), (eBool (decide (t71 ≠ t72))), (.ptr n60 (x67.toNat * 1 + 0))] [(1, (.ptr n2 0)), (3, (eI64 (w64 ((p0.f1.length : Int) + (1 : Int))))), (4, (.own n50 0 x51.length)), (5, (eI64 x53)), (6, (.own n60 0 x66.length)), (7, (eI64 x67))] ⟨rfl, rfl, rfl, rfl, rfl, rfl, trivial⟩ rfl ?_ [(1, (.ptr n2 0)), (3, (eI64 (w64 ((p0.f1.length : Int) + (1 : Int))))), (4, (.own n50 0 x51.length)), (5, (eI64 x53)), (6, (.own n60 0 x66.length)), (7, (eI64 x67)), (36, (eBool (decide (t71 ≠ t72)))), (37, (.ptr n60 (x67.toNat * 1 + 0)))] ⟨rfl, rfl, rfl, rfl, rfl, rfl, rfl, rfl, trivial⟩ ?_
       ·refine ⟨?_, ?_, ?_, ?_, ?_, ?_, ?_, ?_, ?_, ?_, trivial⟩
        ·refine AO.wK [6] ?_
         refine AO.c (Calm.move rfl rfl) ?_
         exact AO.nE (d := 28) rfl ⟨⟨_, rfl, rfl⟩, Sub.refl _⟩
        ·refine AO.wK [7] ?_
         refine AO.c (Calm.move rfl rfl) ?_
         exact AO.nE (d := 29) rfl ⟨⟨_, rfl, rfl⟩, Sub.refl _⟩
        ·refine AO.wK [1] ?_
         refine AO.c (Calm.load 0 rfl rfl rfl (At.cast At.here rfl) ag30 sz30) ?_
         exact AO.nE (d := 30) rfl ⟨⟨_, rfl, rfl⟩, Sub.refl _⟩
        ·refine AO.wK [5] ?_
         refine AO.c (Calm.move rfl rfl) ?_
         exact AO.nE (d := 31) rfl ⟨⟨_, rfl, rfl⟩, Sub.refl _⟩
        ·refine AO.wK [30, 31] ?_
         refine AO.callS [(e30 p0), (eI64 x53)] (eI64 t71) 32 rfl (by decide) ok41 rfl rfl rfl ⟨rfl, rfl, rfl, rfl, trivial⟩ (bosketref08_Mark_spec et71) ?_
         exact AO.nE (d := 32) rfl ⟨⟨_, rfl, rfl⟩, Sub.refl _⟩
        ·refine AO.wK [1] ?_
         refine AO.c (Calm.load 0 rfl rfl rfl (At.cast At.here rfl) ag30 sz30) ?_
         exact AO.nE (d := 33) rfl ⟨⟨_, rfl, rfl⟩, Sub.refl _⟩
        ·refine AO.wK [7] ?_
         refine AO.c (Calm.move rfl rfl) ?_
         exact AO.nE (d := 34) rfl ⟨⟨_, rfl, rfl⟩, Sub.refl _⟩
        ·refine AO.wK [33, 34] ?_
         refine AO.callS [(e30 p0), (eI64 x67)] (eI64 t72) 35 rfl (by decide) ok41 rfl rfl rfl ⟨rfl, rfl, rfl, rfl, trivial⟩ (bosketref08_Mark_spec et72) ?_
         exact AO.nE (d := 35) rfl ⟨⟨_, rfl, rfl⟩, Sub.refl _⟩
        ·refine AO.wK [32, 35] ?_
         refine AO.c (x := eBool (decide (t71 ≠ t72))) (Calm.int rfl rfl rfl rfl) ?_
         exact AO.nE (d := 36) rfl ⟨⟨_, rfl, rfl⟩, Sub.refl _⟩
        ·refine AO.wK [28, 29] ?_
         refine AO.c (Calm.idxO 2 rfl rfl rfl rfl hg73 Try.underlying49 sz4) ?_
         exact AO.nE (d := 37) rfl ⟨⟨_, rfl, rfl⟩, Sub.refl _⟩
       ·refine AO.store (X' := (.ar 1 ((lset x66 x67 (decide (t71 ≠ t72))).map eBool))) 2 rfl rfl rfl rfl rfl rfl (Put.cast (Put.lidx x67 (decide (t71 ≠ t72)) hg73.1 hg73.2 Put.here) (by omega)) rfl rfl sz4 rfl ?_
        refine AO.coe 6 (y' := (.own n60 0 (lset x66 x67 (decide (t71 ≠ t72))).length)) rfl (fun _ _ h => lset_own h) ?_
        refine AO.nK [1, 3, 4, 5, 6, 7] ?_
        refine AW.reg ?_
        refine AO.c (Calm.move rfl rfl) ?_
        refine AO.c (x := eI64 (w64 (x67 + (1 : Int)))) (Calm.int rfl rfl rfl rfl) ?_
        refine AO.c (Calm.assign rfl rfl) ?_
        refine AO.nK [1, 3, 4, 5, 6, 7] ?_
        exact ⟨kq69, Nat.lt_succ_self _, (lset x66 x67 (decide (t71 ≠ t72))), (w64 (x67 + (1 : Int))), rfl, rfl, by rw [hrec68]; exact h⟩
      ·refine AW.condN _ rfl hc70 ?_
       refine AW.eK [1, 3, 4, 5, 6] ?_
       exact ⟨x66, rfl, rfl, h⟩
     ·rintro _ _ ⟨x62, rfl, rfl, h⟩
      rw [bosketref09_Apart_c10.eq_1] at h
      refine AW.reg ?_
      refine AO.c (Calm.move rfl rfl) ?_
      refine AO.c (Calm.move rfl rfl) ?_
      refine AO.lit (Z := (.fl (.slice none 0 0))) (xs := [(.own n60 0 x62.length)]) (qs := [(0, (.own n60 0 x62.length))]) rfl 40 rfl (by decide) rfl ⟨rfl, rfl, rfl, trivial⟩ Try.underlying78 sz49 zr49 lay49 rfl (by decide) (litOK (z := 1) [(.own n60 0 x62.length)] rfl ⟨⟨rfl, rfl⟩, trivial⟩) rfl fun n63 => ?_
      obtain ⟨hg65, h⟩ := of_guard h
      refine AO.appendF (ns := ns52) (x := x51) (m := n60) (r := x62) 2 0 41 rfl (by decide) rfl rfl rfl rfl rfl rfl Try.underlying78 Try.underlying78 sz49 by49 zr49 rfl hg65 (by decide) fun n64 => ?_
      refine AO.wH [1, 3, 5, 41] (H' := ((n2, (.mem (e30 p0))) :: (n64, (.mem (.ar 1 (ownsF (updN ns52 x51.length n60) 0 (x51 ++ [x62]))))) :: (famF 1 eBool (updN ns52 x51.length n60) 0 (x51 ++ [x62]) ++ []))) (Sub.cons 1 rfl (Sub.cons 1 rfl ((famSub 1 eBool ns52 x51 n60 x62 _).trans (Sub.cons 1 rfl (Sub.drop (Sub.refl _)))))) ?_
      refine AO.c (Calm.assign rfl rfl) ?_
      refine AO.nK [1, 3, 4, 5] ?_
      exact ⟨n64, (updN ns52 x51.length n60), (x51 ++ [x62]), rfl, rfl, h⟩
    ·rintro _ _ ⟨n57, ns59, x58, rfl, rfl, h⟩
     rw [bosketref09_Apart_c9.eq_1] at h
     refine AW.reg ?_
     refine AO.c (Calm.move rfl rfl) ?_
     refine AO.c (x := eI64 (w64 (x53 + (1 : Int)))) (Calm.int rfl rfl rfl rfl) ?_
     refine AO.c (Calm.assign rfl rfl) ?_
     refine AO.nK [1, 3, 4, 5] ?_
     exact ⟨kq55, Nat.lt_succ_self _, n57, ns59, x58, (w64 (x53 + (1 : Int))), rfl, rfl, by rw [hrec54]; exact h⟩
   ·refine AW.condN _ rfl hc56 ?_
    refine AW.eK [1, 3, 4] ?_
    exact ⟨n50, ns52, x51, rfl, rfl, h⟩
  ·rintro _ _ ⟨n3, ns5, x4, rfl, rfl, h⟩
   rw [bosketref09_Apart_c8.eq_1] at h
   refine AW.seq_mid (fun ρ H => ∃ (ns7 : (Nat → Nat)) (x6 : (List (List Bool))), ρ = [(4, (.own n3 0 x6.length))] ∧ H = ((n3, (.mem (.ar 1 (ownsF ns7 0 x6)))) :: (famF 1 eBool ns7 0 x6 ++ [])) ∧ bosketref09_Apart_c0 k x6 = some r) ?_ ?_
   ·refine AW.sr ?_
    refine AO.c (Calm.assign rfl rfl) ?_
    refine AO.nK [1, 3, 4, 8] ?_
    refine AW.block ?_
    refine AW.wK [1, 3, 4, 8] ?_
    refine AW.loop (fun kq ρ H => ∃ (ns9 : (Nat → Nat)) (x8 : (List (List Bool))) (x10 : Int), ρ = [(1, (.ptr n2 0)), (3, (eI64 (w64 ((p0.f1.length : Int) + (1 : Int))))), (4, (.own n3 0 x8.length)), (8, (eI64 x10))] ∧ H = ((n2, (.mem (e30 p0))) :: (n3, (.mem (.ar 1 (ownsF ns9 0 x8)))) :: (famF 1 eBool ns9 0 x8 ++ [])) ∧ bosketref09_Apart_l7 k p0 kq x8 x10 = some r) k ⟨ns5, x4, (0 : Int), rfl, rfl, h⟩ ?_
    rintro kq12 _ _ ⟨ns9, x8, x10, rfl, rfl, h⟩
    cases kq12 with
    | zero => rw [bosketref09_Apart_l7.eq_1] at h; cases h
    | succ kq12 =>
    rw [bosketref09_Apart_l7.eq_2] at h
    generalize hrec11 : bosketref09_Apart_l7 k p0 kq12 = rec11 at h
    refine AW.seq ?_
    refine AW.sr ?_
    refine AO.c (Calm.move rfl rfl) ?_
    refine AO.c (Calm.move rfl rfl) ?_
    refine AO.c (x := eBool (decide (x10 < (w64 ((p0.f1.length : Int) + (1 : Int)))))) (Calm.int rfl rfl rfl rfl) ?_
    refine AO.nK [1, 3, 4, 8, 44] ?_
    rcases of_ite h with ⟨hc13, h⟩ | ⟨hc13, h⟩
    ·refine AW.condP _ rfl hc13 ?_
     refine AW.sK [1, 3, 4, 8] ?_
     refine AW.seq_mid (fun ρ H => ∃ (ns15 : (Nat → Nat)) (x14 : (List (List Bool))), ρ = [(1, (.ptr n2 0)), (3, (eI64 (w64 ((p0.f1.length : Int) + (1 : Int))))), (4, (.own n3 0 x14.length)), (8, (eI64 x10))] ∧ H = ((n2, (.mem (e30 p0))) :: (n3, (.mem (.ar 1 (ownsF ns15 0 x14)))) :: (famF 1 eBool ns15 0 x14 ++ [])) ∧ bosketref09_Apart_c1 k rec11 x10 x14 = some r) ?_ ?_
     ·refine AW.block ?_
      refine AW.sr ?_
      refine AO.c (Calm.assign rfl rfl) ?_
      refine AO.nK [1, 3, 4, 8, 9] ?_
      refine AW.block ?_
      refine AW.wK [1, 3, 4, 8, 9] ?_
      refine AW.loop (fun kq ρ H => ∃ (ns17 : (Nat → Nat)) (x16 : (List (List Bool))) (x18 : Int), ρ = [(1, (.ptr n2 0)), (3, (eI64 (w64 ((p0.f1.length : Int) + (1 : Int))))), (4, (.own n3 0 x16.length)), (8, (eI64 x10)), (9, (eI64 x18))] ∧ H = ((n2, (.mem (e30 p0))) :: (n3, (.mem (.ar 1 (ownsF ns17 0 x16)))) :: (famF 1 eBool ns17 0 x16 ++ [])) ∧ bosketref09_Apart_l6 k rec11 p0 x10 kq x16 x18 = some r) k ⟨ns9, x8, (0 : Int), rfl, rfl, h⟩ ?_
      rintro kq20 _ _ ⟨ns17, x16, x18, rfl, rfl, h⟩
      cases kq20 with
      | zero => rw [bosketref09_Apart_l6.eq_1] at h; cases h
      | succ kq20 =>
      rw [bosketref09_Apart_l6.eq_2] at h
      generalize hrec19 : bosketref09_Apart_l6 k rec11 p0 x10 kq20 = rec19 at h
      refine AW.seq ?_
      refine AW.sr ?_
      refine AO.c (Calm.move rfl rfl) ?_
      refine AO.c (Calm.move rfl rfl) ?_
      refine AO.c (x := eBool (decide (x18 < (w64 ((p0.f1.length : Int) + (1 : Int)))))) (Calm.int rfl rfl rfl rfl) ?_
      refine AO.nK [1, 3, 4, 8, 9, 49] ?_
      rcases of_ite h with ⟨hc21, h⟩ | ⟨hc21, h⟩
      ·refine AW.condP _ rfl hc21 ?_
       refine AW.sK [1, 3, 4, 8, 9] ?_
       refine AW.seq_mid (fun ρ H => ∃ (ns23 : (Nat → Nat)) (x22 : (List (List Bool))), ρ = [(1, (.ptr n2 0)), (3, (eI64 (w64 ((p0.f1.length : Int) + (1 : Int))))), (4, (.own n3 0 x22.length)), (8, (eI64 x10)), (9, (eI64 x18))] ∧ H = ((n2, (.mem (e30 p0))) :: (n3, (.mem (.ar 1 (ownsF ns23 0 x22)))) :: (famF 1 eBool ns23 0 x22 ++ [])) ∧ bosketref09_Apart_c2 k rec19 x18 x22 = some r) ?_ ?_
       ·refine AW.block ?_
        refine AW.sr ?_
        refine AO.c (Calm.assign rfl rfl) ?_
        refine AO.nK [1, 3, 4, 8, 9, 10] ?_
        refine AW.block ?_
        refine AW.wK [1, 3, 4, 8, 9, 10] ?_
        refine AW.loop (fun kq ρ H => ∃ (ns25 : (Nat → Nat)) (x24 : (List (List Bool))) (x26 : Int), ρ = [(1, (.ptr n2 0)), (3, (eI64 (w64 ((p0.f1.length : Int) + (1 : Int))))), (4, (.own n3 0 x24.length)), (8, (eI64 x10)), (9, (eI64 x18)), (10, (eI64 x26))] ∧ H = ((n2, (.mem (e30 p0))) :: (n3, (.mem (.ar 1 (ownsF ns25 0 x24)))) :: (famF 1 eBool ns25 0 x24 ++ [])) ∧ bosketref09_Apart_l5 k rec19 p0 x18 kq x24 x26 = some r) k ⟨ns17, x16, (0 : Int), rfl, rfl, h⟩ ?_
        rintro kq28 _ _ ⟨ns25, x24, x26, rfl, rfl, h⟩
        cases kq28 with
        | zero => rw [bosketref09_Apart_l5.eq_1] at h; cases h
        | succ kq28 =>
        rw [bosketref09_Apart_l5.eq_2] at h
        generalize hrec27 : bosketref09_Apart_l5 k rec19 p0 x18 kq28 = rec27 at h
        refine AW.seq ?_
        refine AW.sr ?_
        refine AO.c (Calm.move rfl rfl) ?_
        refine AO.c (Calm.move rfl rfl) ?_
        refine AO.c (x := eBool (decide (x26 < (w64 ((p0.f1.length : Int) + (1 : Int)))))) (Calm.int rfl rfl rfl rfl) ?_
        refine AO.nK [1, 3, 4, 8, 9, 10, 54] ?_
        rcases of_ite h with ⟨hc29, h⟩ | ⟨hc29, h⟩
        ·refine AW.condP _ rfl hc29 ?_
         refine AW.sK [1, 3, 4, 8, 9, 10] ?_
         refine AW.seq_mid (fun ρ H => ∃ (ns31 : (Nat → Nat)) (x30 : (List (List Bool))), ρ = [(1, (.ptr n2 0)), (3, (eI64 (w64 ((p0.f1.length : Int) + (1 : Int))))), (4, (.own n3 0 x30.length)), (8, (eI64 x10)), (9, (eI64 x18)), (10, (eI64 x26))] ∧ H = ((n2, (.mem (e30 p0))) :: (n3, (.mem (.ar 1 (ownsF ns31 0 x30)))) :: (famF 1 eBool ns31 0 x30 ++ [])) ∧ bosketref09_Apart_c3 k rec27 x26 x30 = some r) ?_ ?_
         ·refine AW.block ?_
          refine AW.sr ?_
          refine AO.c (Calm.assign rfl rfl) ?_
          refine AO.nK [1, 3, 4, 8, 9, 10, 11] ?_
          refine AW.block ?_
          refine AW.wK [1, 3, 4, 8, 9, 10, 11] ?_
          refine AW.loop (fun kq ρ H => ∃ (ns33 : (Nat → Nat)) (x32 : (List (List Bool))) (x34 : Int), ρ = [(1, (.ptr n2 0)), (3, (eI64 (w64 ((p0.f1.length : Int) + (1 : Int))))), (4, (.own n3 0 x32.length)), (8, (eI64 x10)), (9, (eI64 x18)), (10, (eI64 x26)), (11, (eI64 x34))] ∧ H = ((n2, (.mem (e30 p0))) :: (n3, (.mem (.ar 1 (ownsF ns33 0 x32)))) :: (famF 1 eBool ns33 0 x32 ++ [])) ∧ bosketref09_Apart_l4 k rec27 p0 x18 x26 kq x32 x34 = some r) k ⟨ns25, x24, (0 : Int), rfl, rfl, h⟩ ?_
          rintro kq36 _ _ ⟨ns33, x32, x34, rfl, rfl, h⟩
          cases kq36 with
          | zero => rw [bosketref09_Apart_l4.eq_1] at h; cases h
          | succ kq36 =>
          rw [bosketref09_Apart_l4.eq_2] at h
          generalize hrec35 : bosketref09_Apart_l4 k rec27 p0 x18 x26 kq36 = rec35 at h
          refine AW.seq ?_
          refine AW.seq ?_
          obtain ⟨b37, hq38, h⟩ := of_bind h
          refine AW.regM [(1, (.ptr n2 0)), (3, (eI64 (w64 ((p0.f1.length : Int) + (1 : Int))))), (4, (.own n3 0 x32.length)), (8, (eI64 x10)), (9, (eI64 x18)), (10, (eI64 x26)), (11, (eI64 x34)), (73, (eBool b37))] ((n2, (.mem (e30 p0))) :: (n3, (.mem (.ar 1 (ownsF ns33 0 x32)))) :: (famF 1 eBool ns33 0 x32 ++ [])) ?_ ?_
          ·refine AO.c (Calm.move rfl rfl) ?_
           refine AO.c (x := .ptr n2 256) (Calm.fldPtr rfl rfl Try.underlying30 rfl sz28 _ rfl) ?_
           refine AO.c (Calm.load 0 rfl rfl rfl (At.cast (At.fldS (At.fld0 At.here)) rfl) ag28 sz28) ?_
           obtain ⟨hg39, hq38⟩ := of_guard hq38
           refine AO.c (Calm.idxL (f := e25) rfl rfl rfl hg39 Try.underlying28 sz25) ?_
           refine AO.c (Calm.loadRp rfl rfl ag25 sz25) ?_
           refine AO.c (Calm.lenL rfl rfl Try.underlying25) ?_
           refine AO.c (x := eBool (decide (x34 < ((lget p0.f1 (0 : Int)).length : Int)))) (Calm.int rfl rfl rfl rfl) ?_
           refine AO.c (Calm.move rfl rfl) ?_
           rcases of_ite hq38 with ⟨hc40, hq38⟩ | ⟨hc40, hq38⟩
           ·refine AO.cG rfl rfl (bD (decide_eq_true hc40)) (Calm.move rfl rfl) ?_
            refine AO.cG rfl rfl (bD (decide_eq_true hc40)) (Calm.move rfl rfl) ?_
            obtain ⟨hg41, hq38⟩ := of_guard hq38
            refine AO.cG (x := .ptr n3 (x18.toNat * 1 + 0)) rfl rfl (bD (decide_eq_true hc40)) (Calm.idxF 1 rfl rfl rfl rfl hg41 Try.underlying78 sz49) ?_
            refine AO.cG rfl rfl (bD (decide_eq_true hc40)) (Calm.load 1 rfl rfl rfl (At.cast (At.ownF hg41) rfl) ag49 sz49) ?_
            refine AO.cG rfl rfl (bD (decide_eq_true hc40)) (Calm.move rfl rfl) ?_
            obtain ⟨hg42, hq38⟩ := of_guard hq38
            refine AO.cG rfl rfl (bD (decide_eq_true hc40)) (Calm.idxO (f := eBool) (l := lget x32 x18) (x18.toNat + 2) rfl rfl rfl (consAt (consAt (famAt hg41))) hg42 Try.underlying49 sz4) ?_
            refine AO.cG rfl rfl (bD (decide_eq_true hc40)) (Calm.load (x18.toNat + 2) rfl rfl (consAt (consAt (famAt hg41))) (At.cast (At.lidx x26 hg42.1 hg42.2 At.here) rfl) ag4 sz4) ?_
            refine AO.cG rfl rfl (bD (decide_eq_true hc40)) (Calm.not rfl rfl) ?_
            refine AO.c (Calm.pickT rfl (bD (decide_eq_true hc40)) rfl) ?_
            cases hq38
            refine AO.nilE ⟨rfl, rfl⟩ ?_ ?_
            · exact ⟨rfl, rfl, rfl, rfl, rfl, rfl, rfl, rfl, trivial⟩
            · exact (Sub.refl _)
           ·refine AO.sT rfl rfl (bD (decide_eq_false hc40)) ?_
            refine AO.sT rfl rfl (bD (decide_eq_false hc40)) ?_
            refine AO.sT rfl rfl (bD (decide_eq_false hc40)) ?_
            refine AO.sT rfl rfl (bD (decide_eq_false hc40)) ?_
            refine AO.sT rfl rfl (bD (decide_eq_false hc40)) ?_
            refine AO.sT rfl rfl (bD (decide_eq_false hc40)) ?_
            refine AO.sT rfl rfl (bD (decide_eq_false hc40)) ?_
            refine AO.sT rfl rfl (bD (decide_eq_false hc40)) ?_
            refine AO.c (Calm.pickF rfl (bD (decide_eq_false hc40)) rfl) ?_
            cases hq38
            refine AO.nilE ⟨rfl, rfl⟩ ?_ ?_
            · exact ⟨rfl, rfl, rfl, rfl, rfl, rfl, rfl, rfl, trivial⟩
            · exact (Sub.refl _)
          ·rcases of_ite h with ⟨hc43, h⟩ | ⟨hc43, h⟩
           ·refine AW.condT' _ rfl hc43 ?_
            refine AW.sK [1, 3, 4, 8, 9, 10, 11] ?_
            refine AW.seq ?_
            refine AW.block ?_
            obtain ⟨hg44, h⟩ := of_guard h
            obtain ⟨t45, et45, h⟩ := of_bind h
            obtain ⟨hg46, h⟩ := of_guard h
            obtain ⟨t47, et47, h⟩ := of_bind h
            obtain ⟨hg48, h⟩ := of_guard h
            obtain ⟨hg49, h⟩ := of_guard h
            refine AW.regAnyL rfl rfl (by rfl) (by decide +kernel) (by decide +kernel) [(.own n3 0 x32.length), (eI64 x18), (.ptr n3 (x18.toNat * 1 + 0)), (.own (ns33 x18.toNat) 0 (lget x32 x18).length), (eI64 x26), (.own n3 0 x32.length), (e30 p0), (eI64 x18), (eI64 x34), (eI64 t45), (.ptr n3 (t45.toNat * 1 + 0)), (.own (ns33 t45.toNat) 0 (lget x32 t45).length), (e30 p0), (eI64 x26), (eI64 x34), (eI64 t47), (.ptr (ns33 t45.toNat) (t47.toNat * 1 + 0)), (eBool (lget (lget x32 t45) t47)), (.ptr (ns33 x18.toNat) (x26.toNat * 1 + 0))] [(1, (.ptr n2 0)), (3, (eI64 (w64 ((p0.f1.length : Int) + (1 : Int))))), (4, (.own n3 0 x32.length)), (8, (eI64 x10)), (9, (eI64 x18)), (10, (eI64 x26)), (11, (eI64 x34))] ⟨rfl, rfl, rfl, rfl, rfl, rfl, rfl, trivial⟩ rfl ?_ [(1, (.ptr n2 0)), (3, (eI64 (w64 ((p0.f1.length : Int) + (1 : Int))))), (4, (.own n3 0 x32.length)), (8, (eI64 x10)), (9, (eI64 x18)), (10, (eI64 x26)), (11, (eI64 x34)), (93, (eBool (lget (lget x32 t45) t47))), (94, (.ptr (ns33 x18.toNat) (x26.toNat * 1 + 0)))] ⟨rfl, rfl, rfl, rfl, rfl, rfl, rfl, rfl, rfl, trivial⟩ ?_
            ·refine ⟨?_, ?_, ?_, ?_, ?_, ?_, ?_, ?_, ?_, ?_, ?_, ?_, ?_, ?_, ?_, ?_, ?_, ?_, ?_, trivial⟩
             ·refine AO.wK [4] ?_
              refine AO.c (Calm.move rfl rfl) ?_
              exact AO.nE (d := 76) rfl ⟨⟨_, rfl, rfl⟩, Sub.refl _⟩
             ·refine AO.wK [9] ?_
              refine AO.c (Calm.move rfl rfl) ?_
              exact AO.nE (d := 77) rfl ⟨⟨_, rfl, rfl⟩, Sub.refl _⟩
             ·refine AO.wK [76, 77] ?_
              refine AO.c (x := .ptr n3 (x18.toNat * 1 + 0)) (Calm.idxF 1 rfl rfl rfl rfl hg44 Try.underlying78 sz49) ?_
              exact AO.nE (d := 78) rfl ⟨⟨_, rfl, rfl⟩, Sub.refl _⟩
             ·refine AO.wK [78] ?_
              refine AO.c (Calm.load 1 rfl rfl rfl (At.cast (At.ownF hg44) rfl) ag49 sz49) ?_
              exact AO.nE (d := 79) rfl ⟨⟨_, rfl, rfl⟩, Sub.refl _⟩
             ·refine AO.wK [10] ?_
              refine AO.c (Calm.move rfl rfl) ?_
              exact AO.nE (d := 80) rfl ⟨⟨_, rfl, rfl⟩, Sub.refl _⟩
             ·refine AO.wK [4] ?_
              refine AO.c (Calm.move rfl rfl) ?_
              exact AO.nE (d := 81) rfl ⟨⟨_, rfl, rfl⟩, Sub.refl _⟩
             ·refine AO.wK [1] ?_
              refine AO.c (Calm.load 0 rfl rfl rfl (At.cast At.here rfl) ag30 sz30) ?_
              exact AO.nE (d := 82) rfl ⟨⟨_, rfl, rfl⟩, Sub.refl _⟩
             ·refine AO.wK [9] ?_
              refine AO.c (Calm.move rfl rfl) ?_
              exact AO.nE (d := 83) rfl ⟨⟨_, rfl, rfl⟩, Sub.refl _⟩
             ·refine AO.wK [11] ?_
              refine AO.c (Calm.move rfl rfl) ?_
              exact AO.nE (d := 84) rfl ⟨⟨_, rfl, rfl⟩, Sub.refl _⟩
             ·refine AO.wK [82, 83, 84] ?_
              refine AO.callS [(e30 p0), (eI64 x18), (eI64 x34)] (eI64 t45) 85 rfl (by decide) ok73 rfl rfl rfl ⟨rfl, rfl, rfl, rfl, rfl, rfl, trivial⟩ (bosketref09_to_spec et45) ?_
              exact AO.nE (d := 85) rfl ⟨⟨_, rfl, rfl⟩, Sub.refl _⟩
             ·refine AO.wK [81, 85] ?_
              refine AO.c (x := .ptr n3 (t45.toNat * 1 + 0)) (Calm.idxF 1 rfl rfl rfl rfl hg46 Try.underlying78 sz49) ?_
              exact AO.nE (d := 86) rfl ⟨⟨_, rfl, rfl⟩, Sub.refl _⟩
             ·refine AO.wK [86] ?_
              refine AO.c (Calm.load 1 rfl rfl rfl (At.cast (At.ownF hg46) rfl) ag49 sz49) ?_
              exact AO.nE (d := 87) rfl ⟨⟨_, rfl, rfl⟩, Sub.refl _⟩
             ·refine AO.wK [1] ?_
              refine AO.c (Calm.load 0 rfl rfl rfl (At.cast At.here rfl) ag30 sz30) ?_
              exact AO.nE (d := 88) rfl ⟨⟨_, rfl, rfl⟩, Sub.refl _⟩
             ·refine AO.wK [10] ?_
              refine AO.c (Calm.move rfl rfl) ?_
              exact AO.nE (d := 89) rfl ⟨⟨_, rfl, rfl⟩, Sub.refl _⟩
             ·refine AO.wK [11] ?_
              refine AO.c (Calm.move rfl rfl) ?_
              exact AO.nE (d := 90) rfl ⟨⟨_, rfl, rfl⟩, Sub.refl _⟩
             ·refine AO.wK [88, 89, 90] ?_
              refine AO.callS [(e30 p0), (eI64 x26), (eI64 x34)] (eI64 t47) 91 rfl (by decide) ok73 rfl rfl rfl ⟨rfl, rfl, rfl, rfl, rfl, rfl, trivial⟩ (bosketref09_to_spec et47) ?_
              exact AO.nE (d := 91) rfl ⟨⟨_, rfl, rfl⟩, Sub.refl _⟩
             ·refine AO.wK [87, 91] ?_
              refine AO.c (Calm.idxO (f := eBool) (l := lget x32 t45) (t45.toNat + 2) rfl rfl rfl (consAt (consAt (famAt hg46))) hg48 Try.underlying49 sz4) ?_
              exact AO.nE (d := 92) rfl ⟨⟨_, rfl, rfl⟩, Sub.refl _⟩
             ·refine AO.wK [92] ?_
              refine AO.c (Calm.load (t45.toNat + 2) rfl rfl (consAt (consAt (famAt hg46))) (At.cast (At.lidx t47 hg48.1 hg48.2 At.here) rfl) ag4 sz4) ?_
              exact AO.nE (d := 93) rfl ⟨⟨_, rfl, rfl⟩, Sub.refl _⟩
             ·refine AO.wK [79, 80] ?_
              refine AO.c (Calm.idxO (f := eBool) (l := lget x32 x18) (x18.toNat + 2) rfl rfl rfl (consAt (consAt (famAt hg44))) hg49 Try.underlying49 sz4) ?_
              exact AO.nE (d := 94) rfl ⟨⟨_, rfl, rfl⟩, Sub.refl _⟩
            ·refine AO.store (X' := .ar 1 ((lset (lget x32 x18) x26 (lget (lget x32 t45) t47)).map eBool)) (x18.toNat + 2) rfl rfl rfl rfl rfl (consAt (consAt (famAt hg44))) (Put.cast (Put.lidx x26 (lget (lget x32 t45) t47) hg49.1 hg49.2 Put.here) rfl) rfl rfl sz4 rfl ?_
             refine AO.heq (H' := ((n2, (.mem (e30 p0))) :: (n3, (.mem (.ar 1 (ownsF ns33 0 x32)))) :: (famF 1 eBool ns33 0 (lset x32 x18 (lset (lget x32 x18) x26 (lget (lget x32 t45) t47))) ++ []))) ((consEq (consEq (famSet hg44)))) ?_
             refine AO.heq (H' := ((n2, (.mem (e30 p0))) :: (n3, (.mem (.ar 1 (ownsF ns33 0 (lset x32 x18 (lset (lget x32 x18) x26 (lget (lget x32 t45) t47))))))) :: (famF 1 eBool ns33 0 (lset x32 x18 (lset (lget x32 x18) x26 (lget (lget x32 t45) t47))) ++ []))) (by rw [ownSet hg44 (by simp [lset])]) ?_
             refine AO.coe 4 (y' := (.own n3 0 (lset x32 x18 (lset (lget x32 x18) x26 (lget (lget x32 t45) t47))).length)) rfl (fun _ _ h => own_len (by simp [lset]) h) ?_
             refine AO.nK [1, 3, 4, 8, 9, 10, 11] ?_
             refine AW.reg ?_
             refine AO.c (Calm.move rfl rfl) ?_
             refine AO.c (x := eI64 (w64 (x34 + (1 : Int)))) (Calm.int rfl rfl rfl rfl) ?_
             refine AO.c (Calm.assign rfl rfl) ?_
             refine AO.nK [1, 3, 4, 8, 9, 10, 11] ?_
             exact ⟨kq36, Nat.lt_succ_self _, ns33, (lset x32 x18 (lset (lget x32 x18) x26 (lget (lget x32 t45) t47))), (w64 (x34 + (1 : Int))), rfl, rfl, by rw [hrec35]; exact h⟩
           ·refine AW.condF' _ rfl hc43 ?_
            refine AW.eK [1, 3, 4, 8, 9, 10] ?_
            exact ⟨ns33, x32, rfl, rfl, h⟩
         ·rintro _ _ ⟨ns31, x30, rfl, rfl, h⟩
          rw [bosketref09_Apart_c3.eq_1] at h
          refine AW.reg ?_
          refine AO.c (Calm.move rfl rfl) ?_
          refine AO.c (x := eI64 (w64 (x26 + (1 : Int)))) (Calm.int rfl rfl rfl rfl) ?_
          refine AO.c (Calm.assign rfl rfl) ?_
          refine AO.nK [1, 3, 4, 8, 9, 10] ?_
          exact ⟨kq28, Nat.lt_succ_self _, ns31, x30, (w64 (x26 + (1 : Int))), rfl, rfl, by rw [hrec27]; exact h⟩
        ·refine AW.condN _ rfl hc29 ?_
         refine AW.eK [1, 3, 4, 8, 9] ?_
         exact ⟨ns25, x24, rfl, rfl, h⟩
       ·rintro _ _ ⟨ns23, x22, rfl, rfl, h⟩
        rw [bosketref09_Apart_c2.eq_1] at h
        refine AW.reg ?_
        refine AO.c (Calm.move rfl rfl) ?_
        refine AO.c (x := eI64 (w64 (x18 + (1 : Int)))) (Calm.int rfl rfl rfl rfl) ?_
        refine AO.c (Calm.assign rfl rfl) ?_
        refine AO.nK [1, 3, 4, 8, 9] ?_
        exact ⟨kq20, Nat.lt_succ_self _, ns23, x22, (w64 (x18 + (1 : Int))), rfl, rfl, by rw [hrec19]; exact h⟩
      ·refine AW.condN _ rfl hc21 ?_
       refine AW.eK [1, 3, 4, 8] ?_
       exact ⟨ns17, x16, rfl, rfl, h⟩
     ·rintro _ _ ⟨ns15, x14, rfl, rfl, h⟩
      rw [bosketref09_Apart_c1.eq_1] at h
      refine AW.reg ?_
      refine AO.c (Calm.move rfl rfl) ?_
      refine AO.c (x := eI64 (w64 (x10 + (1 : Int)))) (Calm.int rfl rfl rfl rfl) ?_
      refine AO.c (Calm.assign rfl rfl) ?_
      refine AO.nK [1, 3, 4, 8] ?_
      exact ⟨kq12, Nat.lt_succ_self _, ns15, x14, (w64 (x10 + (1 : Int))), rfl, rfl, by rw [hrec11]; exact h⟩
    ·refine AW.condN _ rfl hc13 ?_
     refine AW.eH [4] (H' := ((n3, (.mem (.ar 1 (ownsF ns9 0 x8)))) :: (famF 1 eBool ns9 0 x8 ++ []))) (Sub.cons 1 rfl (Sub.drop (Sub.refl _))) ?_
     exact ⟨ns9, x8, rfl, rfl, h⟩
   ·rintro _ _ ⟨ns7, x6, rfl, rfl, h⟩
    rw [bosketref09_Apart_c0.eq_1] at h
    refine AW.sr ?_
    refine AO.c (Calm.move rfl rfl) ?_
    refine AO.c (Calm.assign rfl rfl) ?_
    refine AO.nK [2] ?_
    refine AW.wH [2] (H' := ((n3, (.mem (.ar 1 (ownsF ns7 0 x6)))) :: (famF 1 eBool ns7 0 x6 ++ []))) (Sub.cons 0 rfl (Sub.refl _)) ?_
    refine AW.famFz0 ?_
    refine AW.freezeS 0 [(2, (.fz 1 (x6.map e49)))] rfl ⟨fz_all rfl, trivial⟩ ?_
    refine AW.rK [2] ?_
    have hr := Option.some.inj h
    subst hr
    exact ⟨[(.fz 1 (x6.map e49))], ⟨rfl, rfl, trivial⟩, rfl⟩
end Go.Avl.T5
/- bosket/bosketref09.Blocks; printed by avmain.py. -/
namespace Go.Avl.T5
open Go Go.RowKit Go.Proofs Go.Avl
set_option linter.unusedVariables false
set_option maxRecDepth 100000
set_option maxHeartbeats 4000000
attribute [local irreducible] AW AO AQ Spec SpecH Calm

def bosketref09_Blocks_c0 (k : Nat) (x5 : (List Int)) : Option (List Int) :=
  some (x5)
def bosketref09_Blocks_c1 (k : Nat) (rec10 : ((List Int) → Int → Int → Option (List Int))) (x9 : Int) (x14 : (List Int)) (x15 : Int) : Option (List Int) :=
  rec10 x14 x15 (w64 (x9 + (1 : Int)))
def bosketref09_Blocks_c2 (k : Nat) (rec10 : ((List Int) → Int → Int → Option (List Int))) (x7 : (List Int)) (x9 : Int) (x17 : Int) (x18 : Int) : Option (List Int) :=
  if (x7 ++ ([x18] : List Int)).length * 8 ≤ 140737488355328 then bosketref09_Blocks_c1 k rec10 x9 (x7 ++ ([x18] : List Int)) x17
  else none
def bosketref09_Blocks_c3 (k : Nat) (rec10 : ((List Int) → Int → Int → Option (List Int))) (x7 : (List Int)) (x8 : Int) (x9 : Int) (x16 : Int) : Option (List Int) :=
  if x16 < (0 : Int) then bosketref09_Blocks_c2 k rec10 x7 x9 (w64 (x8 + (1 : Int))) x8
  else bosketref09_Blocks_c2 k rec10 x7 x9 x8 x16
def bosketref09_Blocks_c4 (k : Nat) (rec25 : (Int → Int → Option (List Int))) (x24 : Int) (x31 : Int) : Option (List Int) :=
  rec25 x31 (w64 (x24 + (1 : Int)))
def bosketref09_Blocks_l5 (k : Nat) (rec10 : ((List Int) → Int → Int → Option (List Int))) (t3 : (List (List Bool))) (x7 : (List Int)) (x8 : Int) (x9 : Int) : Nat → Int → Int → Option (List Int)
  | 0, _, _ => none
  | j + 1, x23, x24 =>
    Option.bind (α := Bool) (if x24 < x9 then some (decide (x23 < (0 : Int)))
    else some (false)) fun b27 =>
    if b27 = true then if 0 ≤ x9 ∧ x9 < (t3.length : Int) then if 0 ≤ x24 ∧ x24 < ((lget t3 x9).length : Int) then if (!(lget (lget t3 x9) x24)) = true then if 0 ≤ x24 ∧ x24 < (x7.length : Int) then bosketref09_Blocks_c4 k (bosketref09_Blocks_l5 k rec10 t3 x7 x8 x9 j) x24 (lget x7 x24)
    else none
    else bosketref09_Blocks_c4 k (bosketref09_Blocks_l5 k rec10 t3 x7 x8 x9 j) x24 x23
    else none
    else none
    else bosketref09_Blocks_c3 k rec10 x7 x8 x9 x23
def bosketref09_Blocks_l6 (k : Nat) (p0 : S30) (t3 : (List (List Bool))) : Nat → (List Int) → Int → Int → Option (List Int)
  | 0, _, _, _ => none
  | j + 1, x7, x8, x9 =>
    if x9 < (p0.f1.length : Int) then bosketref09_Blocks_l5 k (bosketref09_Blocks_l6 k p0 t3 j) t3 x7 x8 x9 k (-1 : Int) (0 : Int)
    else bosketref09_Blocks_c0 k x7
def bosketref09_Blocks (k : Nat) (p0 : S30) : Option (List Int) :=
  (bosketref09_Apart k p0).bind fun t3 =>
  bosketref09_Blocks_l6 k p0 t3 k ([] : List Int) (0 : Int) (0 : Int)
theorem bosketref09_Blocks_spec {k : Nat} {p0 : S30} {r : (List Int)} (h : bosketref09_Blocks k p0 = some r) : Spec Try.prog 35 [(e30 p0)] (e25 r) := by
  rw [bosketref09_Blocks.eq_1] at h
  refine Spec.intro (res := [.tmp 2]) Try.func35 rfl rfl rfl (Nat.le_of_ble_eq_true rfl) ?_
  refine AW.sr ?_
  refine AO.box rfl 1 rfl (by decide) rfl rfl rfl fun n2 => ?_
  refine AO.c (Calm.assign rfl rfl) ?_
  refine AO.nK [1] ?_
  refine AW.sr ?_
  refine AO.c (Calm.load 0 rfl rfl rfl (At.cast At.here rfl) ag30 sz30) ?_
  obtain ⟨t3, et3, h⟩ := of_bind h
  refine AO.callS [(e30 p0)] (.fz 1 (t3.map e49)) 10 rfl (by decide) ok70 rfl rfl rfl ⟨rfl, rfl, trivial⟩ (bosketref09_Apart_spec et3) ?_
  refine AO.c (Calm.assign rfl rfl) ?_
  refine AO.nK [1, 3] ?_
  refine AW.sr ?_
  refine AO.c (Calm.assign rfl rfl) ?_
  refine AO.nK [1, 3, 4] ?_
  refine AW.sr ?_
  refine AO.c (Calm.assign rfl rfl) ?_
  refine AO.nK [1, 3, 4, 5] ?_
  refine AW.seq_mid (fun ρ H => ∃ (n4 : Nat) (x5 : (List Int)), ρ = [(4, (.own n4 0 x5.length))] ∧ H = [(n4, (.mem (.ar 1 (x5.map eI64))))] ∧ bosketref09_Blocks_c0 k x5 = some r) ?_ ?_
  ·refine AW.sr ?_
   refine AO.c (Calm.assign rfl rfl) ?_
   refine AO.nK [1, 3, 4, 5, 6] ?_
   refine AW.block ?_
   refine AW.nilOwn 4 1 rfl fun n36 => ?_
   refine AW.wH [1, 3, 4, 5, 6] (H' := [(n2, (.mem (e30 p0))), (n36, (.mem (.ar 1 (([] : List Int).map eI64))))]) (Sub.cons 1 rfl (Sub.cons 0 rfl (Sub.nil _))) ?_
   refine AW.loop (fun kq ρ H => ∃ (n6 : Nat) (x7 : (List Int)) (x8 : Int) (x9 : Int), ρ = [(1, (.ptr n2 0)), (3, (.fz 1 (t3.map e49))), (4, (.own n6 0 x7.length)), (5, (eI64 x8)), (6, (eI64 x9))] ∧ H = [(n2, (.mem (e30 p0))), (n6, (.mem (.ar 1 (x7.map eI64))))] ∧ bosketref09_Blocks_l6 k p0 t3 kq x7 x8 x9 = some r) k ⟨n36, ([] : List Int), (0 : Int), (0 : Int), rfl, rfl, h⟩ ?_
   rintro kq11 _ _ ⟨n6, x7, x8, x9, rfl, rfl, h⟩
   cases kq11 with
   | zero => rw [bosketref09_Blocks_l6.eq_1] at h; cases h
   | succ kq11 =>
   rw [bosketref09_Blocks_l6.eq_2] at h
   generalize hrec10 : bosketref09_Blocks_l6 k p0 t3 kq11 = rec10 at h
   refine AW.seq ?_
   refine AW.sr ?_
   refine AO.c (Calm.move rfl rfl) ?_
   refine AO.c (x := .ptr n2 256) (Calm.fldPtr rfl rfl Try.underlying30 rfl sz28 _ rfl) ?_
   refine AO.c (Calm.load 0 rfl rfl rfl (At.cast (At.fldS (At.fld0 At.here)) rfl) ag28 sz28) ?_
   refine AO.c (Calm.lenL rfl rfl Try.underlying28) ?_
   refine AO.c (x := eBool (decide (x9 < (p0.f1.length : Int)))) (Calm.int rfl rfl rfl rfl) ?_
   refine AO.nK [1, 3, 4, 5, 6, 15] ?_
   rcases of_ite h with ⟨hc12, h⟩ | ⟨hc12, h⟩
   ·refine AW.condP _ rfl hc12 ?_
    refine AW.sK [1, 3, 4, 5, 6] ?_
    refine AW.seq_mid (fun ρ H => ∃ (n13 : Nat) (x14 : (List Int)) (x15 : Int), ρ = [(1, (.ptr n2 0)), (3, (.fz 1 (t3.map e49))), (4, (.own n13 0 x14.length)), (5, (eI64 x15)), (6, (eI64 x9))] ∧ H = [(n2, (.mem (e30 p0))), (n13, (.mem (.ar 1 (x14.map eI64))))] ∧ bosketref09_Blocks_c1 k rec10 x9 x14 x15 = some r) ?_ ?_
    ·refine AW.block ?_
     refine AW.sr ?_
     refine AO.c (Calm.assign rfl rfl) ?_
     refine AO.nK [1, 3, 4, 5, 6, 7] ?_
     refine AW.seq_mid (fun ρ H => ∃ (x16 : Int), ρ = [(1, (.ptr n2 0)), (3, (.fz 1 (t3.map e49))), (4, (.own n6 0 x7.length)), (5, (eI64 x8)), (6, (eI64 x9)), (7, (eI64 x16))] ∧ H = [(n2, (.mem (e30 p0))), (n6, (.mem (.ar 1 (x7.map eI64))))] ∧ bosketref09_Blocks_c3 k rec10 x7 x8 x9 x16 = some r) ?_ ?_
     ·refine AW.sr ?_
      refine AO.c (Calm.assign rfl rfl) ?_
      refine AO.nK [1, 3, 4, 5, 6, 7, 8] ?_
      refine AW.block ?_
      refine AW.wK [1, 3, 4, 5, 6, 7, 8] ?_
      refine AW.loop (fun kq ρ H => ∃ (x23 : Int) (x24 : Int), ρ = [(1, (.ptr n2 0)), (3, (.fz 1 (t3.map e49))), (4, (.own n6 0 x7.length)), (5, (eI64 x8)), (6, (eI64 x9)), (7, (eI64 x23)), (8, (eI64 x24))] ∧ H = [(n2, (.mem (e30 p0))), (n6, (.mem (.ar 1 (x7.map eI64))))] ∧ bosketref09_Blocks_l5 k rec10 t3 x7 x8 x9 kq x23 x24 = some r) k ⟨(-1 : Int), (0 : Int), rfl, rfl, h⟩ ?_
      rintro kq26 _ _ ⟨x23, x24, rfl, rfl, h⟩
      cases kq26 with
      | zero => rw [bosketref09_Blocks_l5.eq_1] at h; cases h
      | succ kq26 =>
      rw [bosketref09_Blocks_l5.eq_2] at h
      generalize hrec25 : bosketref09_Blocks_l5 k rec10 t3 x7 x8 x9 kq26 = rec25 at h
      refine AW.seq ?_
      refine AW.seq ?_
      obtain ⟨b27, hq28, h⟩ := of_bind h
      refine AW.regM [(1, (.ptr n2 0)), (3, (.fz 1 (t3.map e49))), (4, (.own n6 0 x7.length)), (5, (eI64 x8)), (6, (eI64 x9)), (7, (eI64 x23)), (8, (eI64 x24)), (24, (eBool b27))] [(n2, (.mem (e30 p0))), (n6, (.mem (.ar 1 (x7.map eI64))))] ?_ ?_
      ·refine AO.c (Calm.move rfl rfl) ?_
       refine AO.c (Calm.move rfl rfl) ?_
       refine AO.c (x := eBool (decide (x24 < x9))) (Calm.int rfl rfl rfl rfl) ?_
       refine AO.c (Calm.move rfl rfl) ?_
       rcases of_ite hq28 with ⟨hc29, hq28⟩ | ⟨hc29, hq28⟩
       ·refine AO.cG rfl rfl (bD (decide_eq_true hc29)) (Calm.move rfl rfl) ?_
        refine AO.cG (x := eBool (decide (x23 < (0 : Int)))) rfl rfl (bD (decide_eq_true hc29)) (Calm.int rfl rfl rfl rfl) ?_
        refine AO.c (Calm.pickT rfl (bD (decide_eq_true hc29)) rfl) ?_
        cases hq28
        refine AO.nilE ⟨rfl, rfl⟩ ?_ ?_
        · exact ⟨rfl, rfl, rfl, rfl, rfl, rfl, rfl, rfl, trivial⟩
        · exact (Sub.refl _)
       ·refine AO.sT rfl rfl (bD (decide_eq_false hc29)) ?_
        refine AO.sT rfl rfl (bD (decide_eq_false hc29)) ?_
        refine AO.c (Calm.pickF rfl (bD (decide_eq_false hc29)) rfl) ?_
        cases hq28
        refine AO.nilE ⟨rfl, rfl⟩ ?_ ?_
        · exact ⟨rfl, rfl, rfl, rfl, rfl, rfl, rfl, rfl, trivial⟩
        · exact (Sub.refl _)
      ·rcases of_ite h with ⟨hc30, h⟩ | ⟨hc30, h⟩
       ·refine AW.condT' _ rfl hc30 ?_
        refine AW.sK [1, 3, 4, 5, 6, 7, 8] ?_
        refine AW.seq_mid (fun ρ H => ∃ (x31 : Int), ρ = [(1, (.ptr n2 0)), (3, (.fz 1 (t3.map e49))), (4, (.own n6 0 x7.length)), (5, (eI64 x8)), (6, (eI64 x9)), (7, (eI64 x31)), (8, (eI64 x24))] ∧ H = [(n2, (.mem (e30 p0))), (n6, (.mem (.ar 1 (x7.map eI64))))] ∧ bosketref09_Blocks_c4 k rec25 x24 x31 = some r) ?_ ?_
        ·refine AW.block ?_
         refine AW.sr ?_
         refine AO.c (Calm.move rfl rfl) ?_
         refine AO.c (Calm.move rfl rfl) ?_
         obtain ⟨hg32, h⟩ := of_guard h
         refine AO.c (Calm.idxL (f := e49) rfl rfl rfl hg32 Try.underlying78 sz49) ?_
         refine AO.c (Calm.loadRp rfl rfl ag49 sz49) ?_
         refine AO.c (Calm.move rfl rfl) ?_
         obtain ⟨hg33, h⟩ := of_guard h
         refine AO.c (Calm.idxL (f := eBool) rfl rfl rfl hg33 Try.underlying49 sz4) ?_
         refine AO.c (Calm.loadRp rfl rfl ag4 sz4) ?_
         refine AO.c (Calm.not rfl rfl) ?_
         refine AO.nK [1, 3, 4, 5, 6, 7, 8, 34] ?_
         rcases of_ite h with ⟨hc34, h⟩ | ⟨hc34, h⟩
         ·refine AW.condT' _ rfl hc34 ?_
          refine AW.reg ?_
          refine AO.c (Calm.move rfl rfl) ?_
          refine AO.c (Calm.move rfl rfl) ?_
          obtain ⟨hg35, h⟩ := of_guard h
          refine AO.c (Calm.idxO 1 rfl rfl rfl rfl hg35 Try.underlying25 sz3) ?_
          refine AO.c (Calm.load 1 rfl rfl rfl (At.cast (At.lidx x24 hg35.1 hg35.2 At.here) (by omega)) ag3 sz3) ?_
          refine AO.c (Calm.assign rfl rfl) ?_
          refine AO.nK [1, 3, 4, 5, 6, 7, 8] ?_
          exact ⟨(lget x7 x24), rfl, rfl, h⟩
         ·refine AW.condF' _ rfl hc34 ?_
          refine AW.sK [1, 3, 4, 5, 6, 7, 8] ?_
          exact ⟨x23, rfl, rfl, h⟩
        ·rintro _ _ ⟨x31, rfl, rfl, h⟩
         rw [bosketref09_Blocks_c4.eq_1] at h
         refine AW.reg ?_
         refine AO.c (Calm.move rfl rfl) ?_
         refine AO.c (x := eI64 (w64 (x24 + (1 : Int)))) (Calm.int rfl rfl rfl rfl) ?_
         refine AO.c (Calm.assign rfl rfl) ?_
         refine AO.nK [1, 3, 4, 5, 6, 7, 8] ?_
         exact ⟨kq26, Nat.lt_succ_self _, x31, (w64 (x24 + (1 : Int))), rfl, rfl, by rw [hrec25]; exact h⟩
       ·refine AW.condF' _ rfl hc30 ?_
        refine AW.eK [1, 3, 4, 5, 6, 7] ?_
        exact ⟨x23, rfl, rfl, h⟩
     ·rintro _ _ ⟨x16, rfl, rfl, h⟩
      rw [bosketref09_Blocks_c3.eq_1] at h
      refine AW.seq_mid (fun ρ H => ∃ (x17 : Int) (x18 : Int), ρ = [(1, (.ptr n2 0)), (3, (.fz 1 (t3.map e49))), (4, (.own n6 0 x7.length)), (5, (eI64 x17)), (6, (eI64 x9)), (7, (eI64 x18))] ∧ H = [(n2, (.mem (e30 p0))), (n6, (.mem (.ar 1 (x7.map eI64))))] ∧ bosketref09_Blocks_c2 k rec10 x7 x9 x17 x18 = some r) ?_ ?_
      ·refine AW.sr ?_
       refine AO.c (Calm.move rfl rfl) ?_
       refine AO.c (x := eBool (decide (x16 < (0 : Int)))) (Calm.int rfl rfl rfl rfl) ?_
       refine AO.nK [1, 3, 4, 5, 6, 7, 40] ?_
       rcases of_ite h with ⟨hc22, h⟩ | ⟨hc22, h⟩
       ·refine AW.condP _ rfl hc22 ?_
        refine AW.sr ?_
        refine AO.c (Calm.move rfl rfl) ?_
        refine AO.c (Calm.assign rfl rfl) ?_
        refine AO.nK [1, 3, 4, 5, 6, 7] ?_
        refine AW.reg ?_
        refine AO.c (Calm.move rfl rfl) ?_
        refine AO.c (x := eI64 (w64 (x8 + (1 : Int)))) (Calm.int rfl rfl rfl rfl) ?_
        refine AO.c (Calm.assign rfl rfl) ?_
        refine AO.nK [1, 3, 4, 5, 6, 7] ?_
        exact ⟨(w64 (x8 + (1 : Int))), x8, rfl, rfl, h⟩
       ·refine AW.condN _ rfl hc22 ?_
        refine AW.sK [1, 3, 4, 5, 6, 7] ?_
        exact ⟨x8, x16, rfl, rfl, h⟩
      ·rintro _ _ ⟨x17, x18, rfl, rfl, h⟩
       rw [bosketref09_Blocks_c2.eq_1] at h
       refine AW.reg ?_
       refine AO.c (Calm.move rfl rfl) ?_
       refine AO.c (Calm.move rfl rfl) ?_
       refine AO.lit (Z := (eI64 (0 : Int))) (xs := (([x18] : List Int).map eI64)) (qs := [(0, (eI64 x18))]) rfl 46 rfl (by decide) rfl ⟨rfl, rfl, rfl, trivial⟩ Try.underlying25 sz3 zr3 lay3 rfl (by decide) (litOK (z := 1) [(eI64 x18)] rfl ⟨⟨rfl, rfl⟩, trivial⟩) rfl fun n19 => ?_
       obtain ⟨hg21, h⟩ := of_guard h
       refine AO.appendL (l := x7) (m := ([x18] : List Int)) 2 47 rfl (by decide) rfl rfl rfl rfl rfl (Src.ownL (f := eI64) (l := ([x18] : List Int)) 0 rfl) Try.underlying25 Try.underlying25 sz3 by3 zr3 rfl hg21 (by decide) fun n20 => ?_
       refine AO.c (Calm.assign rfl rfl) ?_
       refine AO.nH [1, 3, 4, 5, 6] (H' := [(n2, (.mem (e30 p0))), (n20, (.mem (.ar 1 ((x7 ++ ([x18] : List Int)).map eI64))))]) (Sub.cons 1 rfl (Sub.cons 1 rfl (Sub.nil _))) ?_
       exact ⟨n20, (x7 ++ ([x18] : List Int)), x17, rfl, rfl, h⟩
    ·rintro _ _ ⟨n13, x14, x15, rfl, rfl, h⟩
     rw [bosketref09_Blocks_c1.eq_1] at h
     refine AW.reg ?_
     refine AO.c (Calm.move rfl rfl) ?_
     refine AO.c (x := eI64 (w64 (x9 + (1 : Int)))) (Calm.int rfl rfl rfl rfl) ?_
     refine AO.c (Calm.assign rfl rfl) ?_
     refine AO.nK [1, 3, 4, 5, 6] ?_
     exact ⟨kq11, Nat.lt_succ_self _, n13, x14, x15, (w64 (x9 + (1 : Int))), rfl, rfl, by rw [hrec10]; exact h⟩
   ·refine AW.condN _ rfl hc12 ?_
    refine AW.eH [4] (H' := [(n6, (.mem (.ar 1 (x7.map eI64))))]) (Sub.cons 1 rfl (Sub.nil _)) ?_
    exact ⟨n6, x7, rfl, rfl, h⟩
  ·rintro _ _ ⟨n4, x5, rfl, rfl, h⟩
   rw [bosketref09_Blocks_c0.eq_1] at h
   refine AW.sr ?_
   refine AO.c (Calm.move rfl rfl) ?_
   refine AO.c (Calm.assign rfl rfl) ?_
   refine AO.nK [2] ?_
   refine AW.freezeS 0 [(2, (.fz 1 (x5.map eI64)))] rfl ⟨fz_all rfl, trivial⟩ ?_
   refine AW.rK [2] ?_
   have hr := Option.some.inj h
   subst hr
   exact ⟨[(.fz 1 (x5.map eI64))], ⟨rfl, rfl, trivial⟩, rfl⟩
end Go.Avl.T5
/- bosket/bosketref01.Same; printed by avmain.py. -/
namespace Go.Avl.T5
open Go Go.RowKit Go.Proofs Go.Avl
set_option linter.unusedVariables false
set_option maxRecDepth 100000
set_option maxHeartbeats 4000000
attribute [local irreducible] AW AO AQ Spec SpecH Calm

def bosketref01_Same_c0 (k : Nat) : Option Bool :=
  some (true)
def bosketref01_Same_l1 (k : Nat) (p0 : (List Int)) (p1 : (List Int)) : Nat → Int → Option Bool
  | 0, _ => none
  | j + 1, x4 =>
    if x4 < (p0.length : Int) then if 0 ≤ x4 ∧ x4 < (p0.length : Int) then if 0 ≤ x4 ∧ x4 < (p1.length : Int) then if (lget p0 x4) ≠ (lget p1 x4) then some (false)
    else (bosketref01_Same_l1 k p0 p1 j) (w64 (x4 + (1 : Int)))
    else none
    else none
    else bosketref01_Same_c0 k
def bosketref01_Same (k : Nat) (p0 : (List Int)) (p1 : (List Int)) : Option Bool :=
  if (p0.length : Int) ≠ (p1.length : Int) then some (false)
  else bosketref01_Same_l1 k p0 p1 k (0 : Int)
theorem bosketref01_Same_spec {k : Nat} {p0 : (List Int)} {p1 : (List Int)} {r : Bool} (h : bosketref01_Same k p0 p1 = some r) : Spec Try.prog 19 [(.fz 1 (p0.map eI64)), (.fz 1 (p1.map eI64))] (eBool r) := by
  rw [bosketref01_Same.eq_1] at h
  refine Spec.intro (res := [.tmp 4]) Try.func19 rfl rfl rfl (Nat.le_of_ble_eq_true rfl) ?_
  refine AW.sr ?_
  refine AO.c (Calm.assign rfl rfl) ?_
  refine AO.nK [0, 1] ?_
  refine AW.seq ?_
  refine AW.sr ?_
  refine AO.c (Calm.move rfl rfl) ?_
  refine AO.c (Calm.lenL rfl rfl Try.underlying25) ?_
  refine AO.c (Calm.move rfl rfl) ?_
  refine AO.c (Calm.lenL rfl rfl Try.underlying25) ?_
  refine AO.c (x := eBool (decide ((p0.length : Int) ≠ (p1.length : Int)))) (Calm.int rfl rfl rfl rfl) ?_
  refine AO.nK [0, 1, 10] ?_
  rcases of_ite h with ⟨hc3, h⟩ | ⟨hc3, h⟩
  ·refine AW.condP _ rfl hc3 ?_
   refine AW.sr ?_
   refine AO.c (Calm.assign rfl rfl) ?_
   refine AO.nK [4] ?_
   refine AW.rK [4] ?_
   have hr := Option.some.inj h
   subst hr
   exact ⟨[(eBool false)], ⟨rfl, rfl, trivial⟩, rfl⟩
  ·refine AW.condN _ rfl hc3 ?_
   refine AW.sK [0, 1] ?_
   refine AW.seq_mid (fun ρ H => ρ = [] ∧ H = [] ∧ bosketref01_Same_c0 k = some r) ?_ ?_
   ·refine AW.sr ?_
    refine AO.c (Calm.assign rfl rfl) ?_
    refine AO.nK [0, 1, 5] ?_
    refine AW.block ?_
    refine AW.wK [0, 1, 5] ?_
    refine AW.loop (fun kq ρ H => ∃ (x4 : Int), ρ = [(0, (.fz 1 (p0.map eI64))), (1, (.fz 1 (p1.map eI64))), (5, (eI64 x4))] ∧ H = [] ∧ bosketref01_Same_l1 k p0 p1 kq x4 = some r) k ⟨(0 : Int), rfl, rfl, h⟩ ?_
    rintro kq6 _ _ ⟨x4, rfl, rfl, h⟩
    cases kq6 with
    | zero => rw [bosketref01_Same_l1.eq_1] at h; cases h
    | succ kq6 =>
    rw [bosketref01_Same_l1.eq_2] at h
    generalize hrec5 : bosketref01_Same_l1 k p0 p1 kq6 = rec5 at h
    refine AW.seq ?_
    refine AW.sr ?_
    refine AO.c (Calm.move rfl rfl) ?_
    refine AO.c (Calm.move rfl rfl) ?_
    refine AO.c (Calm.lenL rfl rfl Try.underlying25) ?_
    refine AO.c (x := eBool (decide (x4 < (p0.length : Int)))) (Calm.int rfl rfl rfl rfl) ?_
    refine AO.nK [0, 1, 5, 14] ?_
    rcases of_ite h with ⟨hc7, h⟩ | ⟨hc7, h⟩
    ·refine AW.condP _ rfl hc7 ?_
     refine AW.sK [0, 1, 5] ?_
     refine AW.seq ?_
     refine AW.block ?_
     refine AW.seq ?_
     refine AW.regQ (by rfl) (by decide +kernel) ?_
     refine AQ.c (Calm.move rfl rfl) ?_
     refine AQ.c (Calm.move rfl rfl) ?_
     obtain ⟨hg8, h⟩ := of_guard h
     refine AQ.c (Calm.idxL (f := eI64) rfl rfl rfl hg8 Try.underlying25 sz3) ?_
     refine AQ.c (Calm.loadRp rfl rfl ag3 sz3) ?_
     refine AQ.c (Calm.move rfl rfl) ?_
     refine AQ.c (Calm.move rfl rfl) ?_
     obtain ⟨hg9, h⟩ := of_guard h
     refine AQ.c (Calm.idxL (f := eI64) rfl rfl rfl hg9 Try.underlying25 sz3) ?_
     refine AQ.c (Calm.loadRp rfl rfl ag3 sz3) ?_
     refine AQ.c (x := eBool (decide ((lget p0 x4) ≠ (lget p1 x4)))) (Calm.int rfl rfl rfl rfl) ?_
     refine AQ.nK [0, 1, 5, 25] ?_
     rcases of_ite h with ⟨hc10, h⟩ | ⟨hc10, h⟩
     ·refine AW.condP _ rfl hc10 ?_
      refine AW.sr ?_
      refine AO.c (Calm.assign rfl rfl) ?_
      refine AO.nK [4] ?_
      refine AW.rK [4] ?_
      have hr := Option.some.inj h
      subst hr
      exact ⟨[(eBool false)], ⟨rfl, rfl, trivial⟩, rfl⟩
     ·refine AW.condN _ rfl hc10 ?_
      refine AW.sK [0, 1, 5] ?_
      refine AW.reg ?_
      refine AO.c (Calm.move rfl rfl) ?_
      refine AO.c (x := eI64 (w64 (x4 + (1 : Int)))) (Calm.int rfl rfl rfl rfl) ?_
      refine AO.c (Calm.assign rfl rfl) ?_
      refine AO.nK [0, 1, 5] ?_
      exact ⟨kq6, Nat.lt_succ_self _, (w64 (x4 + (1 : Int))), rfl, rfl, by rw [hrec5]; exact h⟩
    ·refine AW.condN _ rfl hc7 ?_
     refine AW.eK [] ?_
     exact ⟨rfl, rfl, h⟩
   ·rintro _ _ ⟨rfl, rfl, h⟩
    rw [bosketref01_Same_c0.eq_1] at h
    refine AW.sr ?_
    refine AO.c (Calm.assign rfl rfl) ?_
    refine AO.nK [4] ?_
    refine AW.rK [4] ?_
    have hr := Option.some.inj h
    subst hr
    exact ⟨[(eBool true)], ⟨rfl, rfl, trivial⟩, rfl⟩
end Go.Avl.T5
/- bosket/bosketlaw09.MiniBlocks; printed by avmain.py. -/
namespace Go.Avl.T5
open Go Go.RowKit Go.Proofs Go.Avl
set_option linter.unusedVariables false
set_option maxRecDepth 100000
set_option maxHeartbeats 4000000
attribute [local irreducible] AW AO AQ Spec SpecH Calm

def bosketlaw09_MiniBlocks (k : Nat) (p0 : S30) : Option Bool :=
  (bosketlaw09_awake k).bind fun t3 =>
  if (!t3) = true then some (false)
  else (bosketlaw08_Small k p0).bind fun t5 =>
  if (!t5) = true then some (true)
  else (bosketref08_Right k p0).bind fun t7 =>
  if (!t7) = true then (mini_Of k p0).bind fun t9 =>
  Option.bind (α := Bool) ((mini_Blocks k p0).bind fun t13 =>
  if (t13.length : Int) = (0 : Int) then some (decide (t9.2 = (1 : Int)))
  else some (false)) fun b11 =>
  some (b11)
  else (mini_Blocks k p0).bind fun t15 =>
  (bosketref09_Blocks k p0).bind fun t16 =>
  (bosketref01_Same k t15 t16).bind fun t17 =>
  some (t17)
theorem bosketlaw09_MiniBlocks_spec {k : Nat} {p0 : S30} {r : Bool} (h : bosketlaw09_MiniBlocks k p0 = some r) : Spec Try.prog 8 [(e30 p0)] (eBool r) := by
  rw [bosketlaw09_MiniBlocks.eq_1] at h
  refine Spec.intro (res := [.tmp 2]) Try.func8 rfl rfl rfl (Nat.le_of_ble_eq_true rfl) ?_
  refine AW.sr ?_
  refine AO.box rfl 1 rfl (by decide) rfl rfl rfl fun n2 => ?_
  refine AO.c (Calm.assign rfl rfl) ?_
  refine AO.nK [1] ?_
  refine AW.seq ?_
  refine AW.sr ?_
  obtain ⟨t3, et3, h⟩ := of_bind h
  refine AO.callS [] (eBool t3) 5 rfl (by decide) ok32 rfl rfl rfl trivial (bosketlaw09_awake_spec et3) ?_
  refine AO.c (Calm.not rfl rfl) ?_
  refine AO.nK [1, 6] ?_
  rcases of_ite h with ⟨hc4, h⟩ | ⟨hc4, h⟩
  ·refine AW.condT' _ rfl hc4 ?_
   refine AW.sr ?_
   refine AO.c (Calm.assign rfl rfl) ?_
   refine AO.nH [2] (H' := []) (Sub.nil _) ?_
   refine AW.rK [2] ?_
   have hr := Option.some.inj h
   subst hr
   exact ⟨[(eBool false)], ⟨rfl, rfl, trivial⟩, rfl⟩
  ·refine AW.condF' _ rfl hc4 ?_
   refine AW.sK [1] ?_
   refine AW.seq ?_
   refine AW.sr ?_
   refine AO.c (Calm.load 0 rfl rfl rfl (At.cast At.here rfl) ag30 sz30) ?_
   obtain ⟨t5, et5, h⟩ := of_bind h
   refine AO.callS [(e30 p0)] (eBool t5) 8 rfl (by decide) ok24 rfl rfl rfl ⟨rfl, rfl, trivial⟩ (bosketlaw08_Small_spec et5) ?_
   refine AO.c (Calm.not rfl rfl) ?_
   refine AO.nK [1, 9] ?_
   rcases of_ite h with ⟨hc6, h⟩ | ⟨hc6, h⟩
   ·refine AW.condT' _ rfl hc6 ?_
    refine AW.sr ?_
    refine AO.c (Calm.assign rfl rfl) ?_
    refine AO.nH [2] (H' := []) (Sub.nil _) ?_
    refine AW.rK [2] ?_
    have hr := Option.some.inj h
    subst hr
    exact ⟨[(eBool true)], ⟨rfl, rfl, trivial⟩, rfl⟩
   ·refine AW.condF' _ rfl hc6 ?_
    refine AW.sK [1] ?_
    refine AW.seq ?_
    refine AW.sr ?_
    refine AO.c (Calm.load 0 rfl rfl rfl (At.cast At.here rfl) ag30 sz30) ?_
    obtain ⟨t7, et7, h⟩ := of_bind h
    refine AO.callS [(e30 p0)] (eBool t7) 11 rfl (by decide) ok25 rfl rfl rfl ⟨rfl, rfl, trivial⟩ (bosketref08_Right_spec et7) ?_
    refine AO.c (Calm.not rfl rfl) ?_
    refine AO.nK [1, 12] ?_
    rcases of_ite h with ⟨hc8, h⟩ | ⟨hc8, h⟩
    ·refine AW.condT' _ rfl hc8 ?_
     refine AW.sr ?_
     refine AO.c (Calm.load 0 rfl rfl rfl (At.cast At.here rfl) ag30 sz30) ?_
     obtain ⟨t9, et9, h⟩ := of_bind h
     refine AO.callS [(e30 p0)] (.tup [(e30 t9.1), (eI64 t9.2)]) 15 rfl (by decide) ok33 rfl rfl rfl ⟨rfl, rfl, trivial⟩ (mini_Of_spec et9) ?_
     refine AO.c (Calm.move rfl rfl) ?_
     refine AO.c (Calm.extract rfl rfl rfl) ?_
     refine AO.c (Calm.extract rfl rfl rfl) ?_
     refine AO.alloc rfl 3 rfl (by decide) rfl zr30 lay30 fun n10 => ?_
     refine AO.store (X' := (e30 t9.1)) 0 rfl rfl rfl rfl rfl rfl (Put.cast Put.here rfl) rfl rfl sz30 rfl ?_
     refine AO.c (Calm.assign rfl rfl) ?_
     refine AO.nH [1, 4] (H' := [(n2, (.mem (e30 p0)))]) (Sub.cons 1 rfl (Sub.nil _)) ?_
     refine AW.seq ?_
     obtain ⟨b11, hq12, h⟩ := of_bind h
     refine AW.regM [(2, (eBool b11))] [] ?_ ?_
     ·refine AO.c (Calm.load 0 rfl rfl rfl (At.cast At.here rfl) ag30 sz30) ?_
      obtain ⟨t13, et13, hq12⟩ := of_bind hq12
      refine AO.callS [(e30 p0)] (.fz 1 (t13.map eI64)) 19 rfl (by decide) ok34 rfl rfl rfl ⟨rfl, rfl, trivial⟩ (mini_Blocks_spec et13) ?_
      refine AO.c (Calm.lenL rfl rfl Try.underlying25) ?_
      refine AO.c (x := eBool (decide ((t13.length : Int) = (0 : Int)))) (Calm.int rfl rfl rfl rfl) ?_
      refine AO.c (Calm.move rfl rfl) ?_
      rcases of_ite hq12 with ⟨hc14, hq12⟩ | ⟨hc14, hq12⟩
      ·refine AO.cG rfl rfl (bD (decide_eq_true hc14)) (Calm.move rfl rfl) ?_
       refine AO.cG (x := eBool (decide (t9.2 = (1 : Int)))) rfl rfl (bD (decide_eq_true hc14)) (Calm.int rfl rfl rfl rfl) ?_
       refine AO.c (Calm.pickT rfl (bD (decide_eq_true hc14)) rfl) ?_
       refine AO.c (Calm.assign rfl rfl) ?_
       cases hq12
       refine AO.nilE ⟨rfl, rfl⟩ ?_ ?_
       · exact ⟨rfl, trivial⟩
       · exact (Sub.nil _)
      ·refine AO.sT rfl rfl (bD (decide_eq_false hc14)) ?_
       refine AO.sT rfl rfl (bD (decide_eq_false hc14)) ?_
       refine AO.c (Calm.pickF rfl (bD (decide_eq_false hc14)) rfl) ?_
       refine AO.c (Calm.assign rfl rfl) ?_
       cases hq12
       refine AO.nilE ⟨rfl, rfl⟩ ?_ ?_
       · exact ⟨rfl, trivial⟩
       · exact (Sub.nil _)
     ·refine AW.rK [2] ?_
      have hr := Option.some.inj h
      subst hr
      exact ⟨[(eBool b11)], ⟨rfl, rfl, trivial⟩, rfl⟩
    ·refine AW.condF' _ rfl hc8 ?_
     refine AW.sK [1] ?_
     refine AW.seq ?_
     obtain ⟨t15, et15, h⟩ := of_bind h
     obtain ⟨t16, et16, h⟩ := of_bind h
     obtain ⟨t17, et17, h⟩ := of_bind h
     refine AW.regAny (by rfl) (by decide +kernel) [(e30 p0), (.fz 1 (t15.map eI64)), (e30 p0), (.fz 1 (t16.map eI64)), (eBool t17), (eBool t17)] [(1, (.ptr n2 0))] ⟨rfl, trivial⟩ rfl ?_ [(2, (eBool t17))] [] ⟨rfl, trivial⟩ (Sub.nil _) ?_
     ·refine ⟨?_, ?_, ?_, ?_, ?_, ?_, trivial⟩
      ·refine AO.wK [1] ?_
       refine AO.c (Calm.load 0 rfl rfl rfl (At.cast At.here rfl) ag30 sz30) ?_
       exact AO.nE (d := 26) rfl ⟨⟨_, rfl, rfl⟩, Sub.refl _⟩
      ·refine AO.wK [26] ?_
       refine AO.callS [(e30 p0)] (.fz 1 (t15.map eI64)) 27 rfl (by decide) ok34 rfl rfl rfl ⟨rfl, rfl, trivial⟩ (mini_Blocks_spec et15) ?_
       exact AO.nE (d := 27) rfl ⟨⟨_, rfl, rfl⟩, Sub.refl _⟩
      ·refine AO.wK [1] ?_
       refine AO.c (Calm.load 0 rfl rfl rfl (At.cast At.here rfl) ag30 sz30) ?_
       exact AO.nE (d := 28) rfl ⟨⟨_, rfl, rfl⟩, Sub.refl _⟩
      ·refine AO.wK [28] ?_
       refine AO.callS [(e30 p0)] (.fz 1 (t16.map eI64)) 29 rfl (by decide) ok35 rfl rfl rfl ⟨rfl, rfl, trivial⟩ (bosketref09_Blocks_spec et16) ?_
       exact AO.nE (d := 29) rfl ⟨⟨_, rfl, rfl⟩, Sub.refl _⟩
      ·refine AO.wK [27, 29] ?_
       refine AO.callS [(.fz 1 (t15.map eI64)), (.fz 1 (t16.map eI64))] (eBool t17) 30 rfl (by decide) ok19 rfl rfl rfl ⟨rfl, rfl, rfl, rfl, trivial⟩ (bosketref01_Same_spec et17) ?_
       exact AO.nE (d := 30) rfl ⟨⟨_, rfl, rfl⟩, Sub.refl _⟩
      ·refine AO.wK [30] ?_
       refine AO.c (Calm.assign rfl rfl) ?_
       exact AO.nE (d := 2) rfl ⟨⟨_, rfl, rfl⟩, Sub.refl _⟩
     ·refine AW.rK [2] ?_
      have hr := Option.some.inj h
      subst hr
      exact ⟨[(eBool t17)], ⟨rfl, rfl, trivial⟩, rfl⟩
end Go.Avl.T5
/- bosket/bosketref02.Has; printed by avmain.py. -/
namespace Go.Avl.T5
open Go Go.RowKit Go.Proofs Go.Avl
set_option linter.unusedVariables false
set_option maxRecDepth 100000
set_option maxHeartbeats 4000000
attribute [local irreducible] AW AO AQ Spec SpecH Calm

end Go.Avl.T5
/- bosket/byteset.Has; printed by avmain.py. -/
namespace Go.Avl.T5
open Go Go.RowKit Go.Proofs Go.Avl
set_option linter.unusedVariables false
set_option maxRecDepth 100000
set_option maxHeartbeats 4000000
attribute [local irreducible] AW AO AQ Spec SpecH Calm

end Go.Avl.T5
/- bosket/byteset.key; printed by avmain.py. -/
namespace Go.Avl.T5
open Go Go.RowKit Go.Proofs Go.Avl
set_option linter.unusedVariables false
set_option maxRecDepth 100000
set_option maxHeartbeats 4000000
attribute [local irreducible] AW AO AQ Spec SpecH Calm

end Go.Avl.T5
/- bosket/byteset.Classes; printed by avmain.py. -/
namespace Go.Avl.T5
open Go Go.RowKit Go.Proofs Go.Avl
set_option linter.unusedVariables false
set_option maxRecDepth 100000
set_option maxHeartbeats 4000000
attribute [local irreducible] AW AO AQ Spec SpecH Calm

end Go.Avl.T5
/- bosket/bosketref02.Class; printed by avmain.py. -/
namespace Go.Avl.T5
open Go Go.RowKit Go.Proofs Go.Avl
set_option linter.unusedVariables false
set_option maxRecDepth 100000
set_option maxHeartbeats 4000000
attribute [local irreducible] AW AO AQ Spec SpecH Calm

end Go.Avl.T5
/- bosket/bosketref06.Right; printed by avmain.py. -/
namespace Go.Avl.T5
open Go Go.RowKit Go.Proofs Go.Avl
set_option linter.unusedVariables false
set_option maxRecDepth 100000
set_option maxHeartbeats 4000000
attribute [local irreducible] AW AO AQ Spec SpecH Calm

end Go.Avl.T5
/- bosket/nfa.Right; printed by avmain.py. -/
namespace Go.Avl.T5
open Go Go.RowKit Go.Proofs Go.Avl
set_option linter.unusedVariables false
set_option maxRecDepth 100000
set_option maxHeartbeats 4000000
attribute [local irreducible] AW AO AQ Spec SpecH Calm

end Go.Avl.T5
/- bosket/bosketref06.Same; printed by avmain.py. -/
namespace Go.Avl.T5
open Go Go.RowKit Go.Proofs Go.Avl
set_option linter.unusedVariables false
set_option maxRecDepth 100000
set_option maxHeartbeats 4000000
attribute [local irreducible] AW AO AQ Spec SpecH Calm

end Go.Avl.T5
/- bosket/nfa.Close; printed by avmain.py. -/
namespace Go.Avl.T5
open Go Go.RowKit Go.Proofs Go.Avl
set_option linter.unusedVariables false
set_option maxRecDepth 100000
set_option maxHeartbeats 4000000
attribute [local irreducible] AW AO AQ Spec SpecH Calm

end Go.Avl.T5
/- bosket/bosketref06.Close; printed by avmain.py. -/
namespace Go.Avl.T5
open Go Go.RowKit Go.Proofs Go.Avl
set_option linter.unusedVariables false
set_option maxRecDepth 100000
set_option maxHeartbeats 4000000
attribute [local irreducible] AW AO AQ Spec SpecH Calm

end Go.Avl.T5
/- bosket/nfa.Move; printed by avmain.py. -/
namespace Go.Avl.T5
open Go Go.RowKit Go.Proofs Go.Avl
set_option linter.unusedVariables false
set_option maxRecDepth 100000
set_option maxHeartbeats 4000000
attribute [local irreducible] AW AO AQ Spec SpecH Calm

end Go.Avl.T5
/- bosket/bosketref06.Move; printed by avmain.py. -/
namespace Go.Avl.T5
open Go Go.RowKit Go.Proofs Go.Avl
set_option linter.unusedVariables false
set_option maxRecDepth 100000
set_option maxHeartbeats 4000000
attribute [local irreducible] AW AO AQ Spec SpecH Calm

end Go.Avl.T5
/- bosket/bosketref06.Run; printed by avmain.py. -/
namespace Go.Avl.T5
open Go Go.RowKit Go.Proofs Go.Avl
set_option linter.unusedVariables false
set_option maxRecDepth 100000
set_option maxHeartbeats 4000000
attribute [local irreducible] AW AO AQ Spec SpecH Calm

end Go.Avl.T5
/- bosket/nfa.Sets; printed by avmain.py. -/
namespace Go.Avl.T5
open Go Go.RowKit Go.Proofs Go.Avl
set_option linter.unusedVariables false
set_option maxRecDepth 100000
set_option maxHeartbeats 4000000
attribute [local irreducible] AW AO AQ Spec SpecH Calm

end Go.Avl.T5
/- bosket/bosketref07.Reps; printed by avmain.py. -/
namespace Go.Avl.T5
open Go Go.RowKit Go.Proofs Go.Avl
set_option linter.unusedVariables false
set_option maxRecDepth 100000
set_option maxHeartbeats 4000000
attribute [local irreducible] AW AO AQ Spec SpecH Calm

end Go.Avl.T5
/- bosket/bosketref07.SameRows; printed by avmain.py. -/
namespace Go.Avl.T5
open Go Go.RowKit Go.Proofs Go.Avl
set_option linter.unusedVariables false
set_option maxRecDepth 100000
set_option maxHeartbeats 4000000
attribute [local irreducible] AW AO AQ Spec SpecH Calm

end Go.Avl.T5
/- bosket/bosketref07.Mark; printed by avmain.py. -/
namespace Go.Avl.T5
open Go Go.RowKit Go.Proofs Go.Avl
set_option linter.unusedVariables false
set_option maxRecDepth 100000
set_option maxHeartbeats 4000000
attribute [local irreducible] AW AO AQ Spec SpecH Calm

end Go.Avl.T5
/- bosket/bosketref07.any; printed by avmain.py. -/
namespace Go.Avl.T5
open Go Go.RowKit Go.Proofs Go.Avl
set_option linter.unusedVariables false
set_option maxRecDepth 100000
set_option maxHeartbeats 4000000
attribute [local irreducible] AW AO AQ Spec SpecH Calm

end Go.Avl.T5
/- bosket/subset.key; printed by avmain.py. -/
namespace Go.Avl.T5
open Go Go.RowKit Go.Proofs Go.Avl
set_option linter.unusedVariables false
set_option maxRecDepth 100000
set_option maxHeartbeats 4000000
attribute [local irreducible] AW AO AQ Spec SpecH Calm

end Go.Avl.T5
/- bosket/subset.markOf; printed by avmain.py. -/
namespace Go.Avl.T5
open Go Go.RowKit Go.Proofs Go.Avl
set_option linter.unusedVariables false
set_option maxRecDepth 100000
set_option maxHeartbeats 4000000
attribute [local irreducible] AW AO AQ Spec SpecH Calm

end Go.Avl.T5
/- (*bosket/subset.builder).mark; printed by avmain.py. -/
namespace Go.Avl.T5
open Go Go.RowKit Go.Proofs Go.Avl
set_option linter.unusedVariables false
set_option maxRecDepth 100000
set_option maxHeartbeats 4000000
attribute [local irreducible] AW AO AQ Spec SpecH Calm

end Go.Avl.T5
/- bosket/dfa.Step; printed by avmain.py. -/
namespace Go.Avl.T5
open Go Go.RowKit Go.Proofs Go.Avl
set_option linter.unusedVariables false
set_option maxRecDepth 100000
set_option maxHeartbeats 4000000
attribute [local irreducible] AW AO AQ Spec SpecH Calm

end Go.Avl.T5
/- bosket/dfa.Reached; printed by avmain.py. -/
namespace Go.Avl.T5
open Go Go.RowKit Go.Proofs Go.Avl
set_option linter.unusedVariables false
set_option maxRecDepth 100000
set_option maxHeartbeats 4000000
attribute [local irreducible] AW AO AQ Spec SpecH Calm

end Go.Avl.T5
/- bosket/bosketref08.Reached; printed by avmain.py. -/
namespace Go.Avl.T5
open Go Go.RowKit Go.Proofs Go.Avl
set_option linter.unusedVariables false
set_option maxRecDepth 100000
set_option maxHeartbeats 4000000
attribute [local irreducible] AW AO AQ Spec SpecH Calm

end Go.Avl.T5
/- bosket/bosketref08.Alive; printed by avmain.py. -/
namespace Go.Avl.T5
open Go Go.RowKit Go.Proofs Go.Avl
set_option linter.unusedVariables false
set_option maxRecDepth 100000
set_option maxHeartbeats 4000000
attribute [local irreducible] AW AO AQ Spec SpecH Calm

end Go.Avl.T5
/- bosket/bosketref08.Trim; printed by avmain.py. -/
namespace Go.Avl.T5
open Go Go.RowKit Go.Proofs Go.Avl
set_option linter.unusedVariables false
set_option maxRecDepth 100000
set_option maxHeartbeats 4000000
set_option linter.unusedSimpArgs false
attribute [local irreducible] AW AO AQ Spec SpecH Calm

end Go.Avl.T5
/- bosket/bosketref08.place; printed by avmain.py. -/
namespace Go.Avl.T5
open Go Go.RowKit Go.Proofs Go.Avl
set_option linter.unusedVariables false
set_option maxRecDepth 100000
set_option maxHeartbeats 4000000
attribute [local irreducible] AW AO AQ Spec SpecH Calm

end Go.Avl.T5
/- bosket/bosketref08.Order; printed by avmain.py. -/
namespace Go.Avl.T5
open Go Go.RowKit Go.Proofs Go.Avl
set_option linter.unusedVariables false
set_option maxRecDepth 100000
set_option maxHeartbeats 4000000
set_option linter.unusedSimpArgs false
attribute [local irreducible] AW AO AQ Spec SpecH Calm

end Go.Avl.T5
/- bosket/dfa.Run; printed by avmain.py. -/
namespace Go.Avl.T5
open Go Go.RowKit Go.Proofs Go.Avl
set_option linter.unusedVariables false
set_option maxRecDepth 100000
set_option maxHeartbeats 4000000
attribute [local irreducible] AW AO AQ Spec SpecH Calm

end Go.Avl.T5
/- bosket/dfa.Has; printed by avmain.py. -/
namespace Go.Avl.T5
open Go Go.RowKit Go.Proofs Go.Avl
set_option linter.unusedVariables false
set_option maxRecDepth 100000
set_option maxHeartbeats 4000000
attribute [local irreducible] AW AO AQ Spec SpecH Calm

end Go.Avl.T5
/- bosket/bosketref08.Same; printed by avmain.py. -/
namespace Go.Avl.T5
open Go Go.RowKit Go.Proofs Go.Avl
set_option linter.unusedVariables false
set_option maxRecDepth 100000
set_option maxHeartbeats 4000000
attribute [local irreducible] AW AO AQ Spec SpecH Calm

end Go.Avl.T5
