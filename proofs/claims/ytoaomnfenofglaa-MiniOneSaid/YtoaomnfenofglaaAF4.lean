/- Parts: T5f25, T5f36, T5f10, T5f56, T5f82, T5f79, T5f48, T5f17, T5f14, T5f47, T5f29, T5f51, T5f53, T5f52, T5f54, T5f21, T5f49, T5f16, T5f18, T5f19, T5f20, T5f55, T5f80, T5f100, T5f81, T5f97, T5f84, T5f96, T5f72, T5f38, T5f71, T5f37, T5f101, T5f83. -/
import Derived.Test.YtoaomnfenofglaaAF1
import Derived.Test.YtoaomnfenofglaaAF3
/- bosket/bosketref08.Right; printed by avmain.py. -/
namespace Go.Avl.T5
open Go Go.RowKit Go.Proofs Go.Avl
set_option linter.unusedVariables false
set_option maxRecDepth 100000
set_option maxHeartbeats 4000000
attribute [local irreducible] AW AO AQ Spec SpecH Calm

def bosketref08_Right_c0 (k : Nat) : Option Bool :=
  some (true)
def bosketref08_Right_c1 (k : Nat) (rec11 : (Int → Option Bool)) (x10 : Int) : Option Bool :=
  rec11 (w64 (x10 + (1 : Int)))
def bosketref08_Right_l2 (k : Nat) (rec11 : (Int → Option Bool)) (p0 : S30) (x10 : Int) : Nat → Int → Option Bool
  | 0, _ => none
  | j + 1, x23 =>
    if 0 ≤ x10 ∧ x10 < (p0.f1.length : Int) then if x23 < ((lget p0.f1 x10).length : Int) then Option.bind (α := Bool) (if 0 ≤ x10 ∧ x10 < (p0.f1.length : Int) then if 0 ≤ x23 ∧ x23 < ((lget p0.f1 x10).length : Int) then if (lget (lget p0.f1 x10) x23) < (-1 : Int) then some (true)
    else if 0 ≤ x10 ∧ x10 < (p0.f1.length : Int) then if 0 ≤ x23 ∧ x23 < ((lget p0.f1 x10).length : Int) then some (decide ((p0.f1.length : Int) ≤ (lget (lget p0.f1 x10) x23)))
    else none
    else none
    else none
    else none) fun b28 =>
    if b28 = true then some (false)
    else (bosketref08_Right_l2 k rec11 p0 x10 j) (w64 (x23 + (1 : Int)))
    else bosketref08_Right_c1 k rec11 x10
    else none
def bosketref08_Right_l3 (k : Nat) (p0 : S30) : Nat → Int → Option Bool
  | 0, _ => none
  | j + 1, x10 =>
    if x10 < (p0.f1.length : Int) then Option.bind (α := Bool) (if 0 ≤ x10 ∧ x10 < (p0.f1.length : Int) then (bosketref08_classes k p0).bind fun t17 =>
    if ((lget p0.f1 x10).length : Int) ≠ t17 then some (true)
    else if 0 ≤ x10 ∧ x10 < (p0.f2.length : Int) then if (lget p0.f2 x10) < (-1 : Int) then some (true)
    else if 0 ≤ x10 ∧ x10 < (p0.f2.length : Int) then some (decide ((32768 : Int) ≤ (lget p0.f2 x10)))
    else none
    else none
    else none) fun b14 =>
    if b14 = true then some (false)
    else bosketref08_Right_l2 k (bosketref08_Right_l3 k p0 j) p0 x10 k (0 : Int)
    else bosketref08_Right_c0 k
def bosketref08_Right (k : Nat) (p0 : S30) : Option Bool :=
  Option.bind (α := Bool) (if (p0.f1.length : Int) < (1 : Int) then some (true)
  else if (32768 : Int) < (p0.f1.length : Int) then some (true)
  else if (p0.f2.length : Int) ≠ (p0.f1.length : Int) then some (true)
  else (bosketref08_gapless k p0).bind fun t8 =>
  some (!t8)) fun b3 =>
  if b3 = true then some (false)
  else bosketref08_Right_l3 k p0 k (0 : Int)
theorem bosketref08_Right_spec {k : Nat} {p0 : S30} {r : Bool} (h : bosketref08_Right k p0 = some r) : Spec Try.prog 25 [(e30 p0)] (eBool r) := by
  rw [bosketref08_Right.eq_1] at h
  refine Spec.intro (res := [.tmp 2]) Try.func25 rfl rfl rfl (Nat.le_of_ble_eq_true rfl) ?_
  refine AW.sr ?_
  refine AO.box rfl 1 rfl (by decide) rfl rfl rfl fun n2 => ?_
  refine AO.c (Calm.assign rfl rfl) ?_
  refine AO.nK [1] ?_
  refine AW.sr ?_
  refine AO.c (x := .ptr n2 256) (Calm.fldPtr rfl rfl Try.underlying30 rfl sz28 _ rfl) ?_
  refine AO.c (Calm.load 0 rfl rfl rfl (At.cast (At.fldS (At.fld0 At.here)) rfl) ag28 sz28) ?_
  refine AO.c (Calm.lenL rfl rfl Try.underlying28) ?_
  refine AO.c (Calm.assign rfl rfl) ?_
  refine AO.nK [1, 3] ?_
  refine AW.seq ?_
  refine AW.seq ?_
  obtain ⟨b3, hq4, h⟩ := of_bind h
  refine AW.regM [(1, (.ptr n2 0)), (3, (eI64 (p0.f1.length : Int))), (26, (eBool b3))] [(n2, (.mem (e30 p0)))] ?_ ?_
  ·refine AO.c (Calm.move rfl rfl) ?_
   refine AO.c (x := eBool (decide ((p0.f1.length : Int) < (1 : Int)))) (Calm.int rfl rfl rfl rfl) ?_
   refine AO.c (Calm.move rfl rfl) ?_
   rcases of_ite hq4 with ⟨hc5, hq4⟩ | ⟨hc5, hq4⟩
   ·refine AO.sF rfl rfl (bD (decide_eq_true hc5)) ?_
    refine AO.sF rfl rfl (bD (decide_eq_true hc5)) ?_
    refine AO.c (Calm.pickT rfl (bD (decide_eq_true hc5)) rfl) ?_
    refine AO.c (Calm.move rfl rfl) ?_
    refine AO.sF rfl rfl rfl ?_
    refine AO.sF rfl rfl rfl ?_
    refine AO.sF rfl rfl rfl ?_
    refine AO.sF rfl rfl rfl ?_
    refine AO.sF rfl rfl rfl ?_
    refine AO.c (Calm.pickT rfl rfl rfl) ?_
    refine AO.c (Calm.move rfl rfl) ?_
    refine AO.sF rfl rfl rfl ?_
    refine AO.sF rfl rfl rfl ?_
    refine AO.sF rfl rfl rfl ?_
    refine AO.c (Calm.pickT rfl rfl rfl) ?_
    cases hq4
    refine AO.nilE ⟨rfl, rfl⟩ ?_ ?_
    · exact ⟨rfl, rfl, rfl, trivial⟩
    · exact (Sub.refl _)
   ·refine AO.cG rfl rfl (bD (decide_eq_false hc5)) (Calm.move rfl rfl) ?_
    refine AO.cG (x := eBool (decide ((32768 : Int) < (p0.f1.length : Int)))) rfl rfl (bD (decide_eq_false hc5)) (Calm.int rfl rfl rfl rfl) ?_
    refine AO.c (Calm.pickF rfl (bD (decide_eq_false hc5)) rfl) ?_
    refine AO.c (Calm.move rfl rfl) ?_
    rcases of_ite hq4 with ⟨hc6, hq4⟩ | ⟨hc6, hq4⟩
    ·refine AO.sF rfl rfl (bD (decide_eq_true hc6)) ?_
     refine AO.sF rfl rfl (bD (decide_eq_true hc6)) ?_
     refine AO.sF rfl rfl (bD (decide_eq_true hc6)) ?_
     refine AO.sF rfl rfl (bD (decide_eq_true hc6)) ?_
     refine AO.sF rfl rfl (bD (decide_eq_true hc6)) ?_
     refine AO.c (Calm.pickT rfl (bD (decide_eq_true hc6)) rfl) ?_
     refine AO.c (Calm.move rfl rfl) ?_
     refine AO.sF rfl rfl rfl ?_
     refine AO.sF rfl rfl rfl ?_
     refine AO.sF rfl rfl rfl ?_
     refine AO.c (Calm.pickT rfl rfl rfl) ?_
     cases hq4
     refine AO.nilE ⟨rfl, rfl⟩ ?_ ?_
     · exact ⟨rfl, rfl, rfl, trivial⟩
     · exact (Sub.refl _)
    ·refine AO.cG (x := .ptr n2 257) rfl rfl (bD (decide_eq_false hc6)) (Calm.fldPtr rfl rfl Try.underlying30 rfl sz25 _ rfl) ?_
     refine AO.cG rfl rfl (bD (decide_eq_false hc6)) (Calm.load 0 rfl rfl rfl (At.cast (At.fldS (At.fldS (At.fld0 At.here))) rfl) ag25 sz25) ?_
     refine AO.cG rfl rfl (bD (decide_eq_false hc6)) (Calm.lenL rfl rfl Try.underlying25) ?_
     refine AO.cG rfl rfl (bD (decide_eq_false hc6)) (Calm.move rfl rfl) ?_
     refine AO.cG (x := eBool (decide ((p0.f2.length : Int) ≠ (p0.f1.length : Int)))) rfl rfl (bD (decide_eq_false hc6)) (Calm.int rfl rfl rfl rfl) ?_
     refine AO.c (Calm.pickF rfl (bD (decide_eq_false hc6)) rfl) ?_
     refine AO.c (Calm.move rfl rfl) ?_
     rcases of_ite hq4 with ⟨hc7, hq4⟩ | ⟨hc7, hq4⟩
     ·refine AO.sF rfl rfl (bD (decide_eq_true hc7)) ?_
      refine AO.sF rfl rfl (bD (decide_eq_true hc7)) ?_
      refine AO.sF rfl rfl (bD (decide_eq_true hc7)) ?_
      refine AO.c (Calm.pickT rfl (bD (decide_eq_true hc7)) rfl) ?_
      cases hq4
      refine AO.nilE ⟨rfl, rfl⟩ ?_ ?_
      · exact ⟨rfl, rfl, rfl, trivial⟩
      · exact (Sub.refl _)
     ·refine AO.cG rfl rfl (bD (decide_eq_false hc7)) (Calm.load 0 rfl rfl rfl (At.cast At.here rfl) ag30 sz30) ?_
      obtain ⟨t8, et8, hq4⟩ := of_bind hq4
      refine AO.callG 13 false 22 [(e30 p0)] (eBool t8) 24 rfl (by decide) ok59 rfl rfl (bD (decide_eq_false hc7)) rfl rfl ⟨rfl, rfl, trivial⟩ (bosketref08_gapless_spec et8) ?_
      refine AO.cG rfl rfl (bD (decide_eq_false hc7)) (Calm.not rfl rfl) ?_
      refine AO.c (Calm.pickF rfl (bD (decide_eq_false hc7)) rfl) ?_
      cases hq4
      refine AO.nilE ⟨rfl, rfl⟩ ?_ ?_
      · exact ⟨rfl, rfl, rfl, trivial⟩
      · exact (Sub.refl _)
  ·rcases of_ite h with ⟨hc9, h⟩ | ⟨hc9, h⟩
   ·refine AW.condT' _ rfl hc9 ?_
    refine AW.sr ?_
    refine AO.c (Calm.assign rfl rfl) ?_
    refine AO.nH [2] (H' := []) (Sub.nil _) ?_
    refine AW.rK [2] ?_
    have hr := Option.some.inj h
    subst hr
    exact ⟨[(eBool false)], ⟨rfl, rfl, trivial⟩, rfl⟩
   ·refine AW.condF' _ rfl hc9 ?_
    refine AW.sK [1, 3] ?_
    refine AW.seq_mid (fun ρ H => ρ = [] ∧ H = [] ∧ bosketref08_Right_c0 k = some r) ?_ ?_
    ·refine AW.sr ?_
     refine AO.c (Calm.assign rfl rfl) ?_
     refine AO.nK [1, 3, 4] ?_
     refine AW.block ?_
     refine AW.wK [1, 3, 4] ?_
     refine AW.loop (fun kq ρ H => ∃ (x10 : Int), ρ = [(1, (.ptr n2 0)), (3, (eI64 (p0.f1.length : Int))), (4, (eI64 x10))] ∧ H = [(n2, (.mem (e30 p0)))] ∧ bosketref08_Right_l3 k p0 kq x10 = some r) k ⟨(0 : Int), rfl, rfl, h⟩ ?_
     rintro kq12 _ _ ⟨x10, rfl, rfl, h⟩
     cases kq12 with
     | zero => rw [bosketref08_Right_l3.eq_1] at h; cases h
     | succ kq12 =>
     rw [bosketref08_Right_l3.eq_2] at h
     generalize hrec11 : bosketref08_Right_l3 k p0 kq12 = rec11 at h
     refine AW.seq ?_
     refine AW.sr ?_
     refine AO.c (Calm.move rfl rfl) ?_
     refine AO.c (Calm.move rfl rfl) ?_
     refine AO.c (x := eBool (decide (x10 < (p0.f1.length : Int)))) (Calm.int rfl rfl rfl rfl) ?_
     refine AO.nK [1, 3, 4, 29] ?_
     rcases of_ite h with ⟨hc13, h⟩ | ⟨hc13, h⟩
     ·refine AW.condP _ rfl hc13 ?_
      refine AW.sK [1, 3, 4] ?_
      refine AW.seq_mid (fun ρ H => ρ = [(1, (.ptr n2 0)), (3, (eI64 (p0.f1.length : Int))), (4, (eI64 x10))] ∧ H = [(n2, (.mem (e30 p0)))] ∧ bosketref08_Right_c1 k rec11 x10 = some r) ?_ ?_
      ·refine AW.block ?_
       refine AW.seq ?_
       refine AW.seq ?_
       obtain ⟨b14, hq15, h⟩ := of_bind h
       refine AW.regQM (by rfl) (by decide +kernel) [(1, (.ptr n2 0)), (3, (eI64 (p0.f1.length : Int))), (4, (eI64 x10)), (56, (eBool b14))] ?_ ?_
       ·refine AQ.c (x := .ptr n2 256) (Calm.fldPtr rfl rfl Try.underlying30 rfl sz28 _ rfl) ?_
        refine AQ.c (Calm.load 0 rfl rfl rfl (At.cast (At.fldS (At.fld0 At.here)) rfl) ag28 sz28) ?_
        refine AQ.c (Calm.move rfl rfl) ?_
        obtain ⟨hg16, hq15⟩ := of_guard hq15
        refine AQ.c (Calm.idxL (f := e25) rfl rfl rfl hg16 Try.underlying28 sz25) ?_
        refine AQ.c (Calm.loadRp rfl rfl ag25 sz25) ?_
        refine AQ.c (Calm.lenL rfl rfl Try.underlying25) ?_
        refine AQ.c (Calm.load 0 rfl rfl rfl (At.cast At.here rfl) ag30 sz30) ?_
        obtain ⟨t17, et17, hq15⟩ := of_bind hq15
        refine AQ.c (Calm.call (args := [(e30 p0)]) rfl rfl ok60 ⟨rfl, rfl, trivial⟩ rfl (bosketref08_classes_spec et17)) ?_
        refine AQ.c (x := eBool (decide (((lget p0.f1 x10).length : Int) ≠ t17))) (Calm.int rfl rfl rfl rfl) ?_
        refine AQ.c (Calm.move rfl rfl) ?_
        rcases of_ite hq15 with ⟨hc18, hq15⟩ | ⟨hc18, hq15⟩
        ·refine AQ.sF rfl rfl (bD (decide_eq_true hc18)) ?_
         refine AQ.sF rfl rfl (bD (decide_eq_true hc18)) ?_
         refine AQ.sF rfl rfl (bD (decide_eq_true hc18)) ?_
         refine AQ.sF rfl rfl (bD (decide_eq_true hc18)) ?_
         refine AQ.sF rfl rfl (bD (decide_eq_true hc18)) ?_
         refine AQ.sF rfl rfl (bD (decide_eq_true hc18)) ?_
         refine AQ.c (Calm.pickT rfl (bD (decide_eq_true hc18)) rfl) ?_
         refine AQ.c (Calm.move rfl rfl) ?_
         refine AQ.sF rfl rfl rfl ?_
         refine AQ.sF rfl rfl rfl ?_
         refine AQ.sF rfl rfl rfl ?_
         refine AQ.sF rfl rfl rfl ?_
         refine AQ.sF rfl rfl rfl ?_
         refine AQ.sF rfl rfl rfl ?_
         refine AQ.c (Calm.pickT rfl rfl rfl) ?_
         cases hq15
         refine AQ.nilE rfl ?_
         exact ⟨rfl, rfl, rfl, rfl, trivial⟩
        ·refine AQ.cG (x := .ptr n2 257) rfl rfl (bD (decide_eq_false hc18)) (Calm.fldPtr rfl rfl Try.underlying30 rfl sz25 _ rfl) ?_
         refine AQ.cG rfl rfl (bD (decide_eq_false hc18)) (Calm.load 0 rfl rfl rfl (At.cast (At.fldS (At.fldS (At.fld0 At.here))) rfl) ag25 sz25) ?_
         refine AQ.cG rfl rfl (bD (decide_eq_false hc18)) (Calm.move rfl rfl) ?_
         obtain ⟨hg19, hq15⟩ := of_guard hq15
         refine AQ.cG rfl rfl (bD (decide_eq_false hc18)) (Calm.idxL (f := eI64) rfl rfl rfl hg19 Try.underlying25 sz3) ?_
         refine AQ.cG rfl rfl (bD (decide_eq_false hc18)) (Calm.loadRp rfl rfl ag3 sz3) ?_
         refine AQ.cG (x := eBool (decide ((lget p0.f2 x10) < (-1 : Int)))) rfl rfl (bD (decide_eq_false hc18)) (Calm.int rfl rfl rfl rfl) ?_
         refine AQ.c (Calm.pickF rfl (bD (decide_eq_false hc18)) rfl) ?_
         refine AQ.c (Calm.move rfl rfl) ?_
         rcases of_ite hq15 with ⟨hc20, hq15⟩ | ⟨hc20, hq15⟩
         ·refine AQ.sF rfl rfl (bD (decide_eq_true hc20)) ?_
          refine AQ.sF rfl rfl (bD (decide_eq_true hc20)) ?_
          refine AQ.sF rfl rfl (bD (decide_eq_true hc20)) ?_
          refine AQ.sF rfl rfl (bD (decide_eq_true hc20)) ?_
          refine AQ.sF rfl rfl (bD (decide_eq_true hc20)) ?_
          refine AQ.sF rfl rfl (bD (decide_eq_true hc20)) ?_
          refine AQ.c (Calm.pickT rfl (bD (decide_eq_true hc20)) rfl) ?_
          cases hq15
          refine AQ.nilE rfl ?_
          exact ⟨rfl, rfl, rfl, rfl, trivial⟩
         ·refine AQ.cG (x := .ptr n2 257) rfl rfl (bD (decide_eq_false hc20)) (Calm.fldPtr rfl rfl Try.underlying30 rfl sz25 _ rfl) ?_
          refine AQ.cG rfl rfl (bD (decide_eq_false hc20)) (Calm.load 0 rfl rfl rfl (At.cast (At.fldS (At.fldS (At.fld0 At.here))) rfl) ag25 sz25) ?_
          refine AQ.cG rfl rfl (bD (decide_eq_false hc20)) (Calm.move rfl rfl) ?_
          obtain ⟨hg21, hq15⟩ := of_guard hq15
          refine AQ.cG rfl rfl (bD (decide_eq_false hc20)) (Calm.idxL (f := eI64) rfl rfl rfl hg21 Try.underlying25 sz3) ?_
          refine AQ.cG rfl rfl (bD (decide_eq_false hc20)) (Calm.loadRp rfl rfl ag3 sz3) ?_
          refine AQ.cG (x := eBool (decide ((32768 : Int) ≤ (lget p0.f2 x10)))) rfl rfl (bD (decide_eq_false hc20)) (Calm.int rfl rfl rfl rfl) ?_
          refine AQ.c (Calm.pickF rfl (bD (decide_eq_false hc20)) rfl) ?_
          cases hq15
          refine AQ.nilE rfl ?_
          exact ⟨rfl, rfl, rfl, rfl, trivial⟩
       ·rcases of_ite h with ⟨hc22, h⟩ | ⟨hc22, h⟩
        ·refine AW.condT' _ rfl hc22 ?_
         refine AW.sr ?_
         refine AO.c (Calm.assign rfl rfl) ?_
         refine AO.nH [2] (H' := []) (Sub.nil _) ?_
         refine AW.rK [2] ?_
         have hr := Option.some.inj h
         subst hr
         exact ⟨[(eBool false)], ⟨rfl, rfl, trivial⟩, rfl⟩
        ·refine AW.condF' _ rfl hc22 ?_
         refine AW.sK [1, 3, 4] ?_
         refine AW.sr ?_
         refine AO.c (Calm.assign rfl rfl) ?_
         refine AO.nK [1, 3, 4, 5] ?_
         refine AW.block ?_
         refine AW.wK [1, 3, 4, 5] ?_
         refine AW.loop (fun kq ρ H => ∃ (x23 : Int), ρ = [(1, (.ptr n2 0)), (3, (eI64 (p0.f1.length : Int))), (4, (eI64 x10)), (5, (eI64 x23))] ∧ H = [(n2, (.mem (e30 p0)))] ∧ bosketref08_Right_l2 k rec11 p0 x10 kq x23 = some r) k ⟨(0 : Int), rfl, rfl, h⟩ ?_
         rintro kq25 _ _ ⟨x23, rfl, rfl, h⟩
         cases kq25 with
         | zero => rw [bosketref08_Right_l2.eq_1] at h; cases h
         | succ kq25 =>
         rw [bosketref08_Right_l2.eq_2] at h
         generalize hrec24 : bosketref08_Right_l2 k rec11 p0 x10 kq25 = rec24 at h
         refine AW.seq ?_
         refine AW.sr ?_
         refine AO.c (Calm.move rfl rfl) ?_
         refine AO.c (x := .ptr n2 256) (Calm.fldPtr rfl rfl Try.underlying30 rfl sz28 _ rfl) ?_
         refine AO.c (Calm.load 0 rfl rfl rfl (At.cast (At.fldS (At.fld0 At.here)) rfl) ag28 sz28) ?_
         refine AO.c (Calm.move rfl rfl) ?_
         obtain ⟨hg26, h⟩ := of_guard h
         refine AO.c (Calm.idxL (f := e25) rfl rfl rfl hg26 Try.underlying28 sz25) ?_
         refine AO.c (Calm.loadRp rfl rfl ag25 sz25) ?_
         refine AO.c (Calm.lenL rfl rfl Try.underlying25) ?_
         refine AO.c (x := eBool (decide (x23 < ((lget p0.f1 x10).length : Int)))) (Calm.int rfl rfl rfl rfl) ?_
         refine AO.nK [1, 3, 4, 5, 64] ?_
         rcases of_ite h with ⟨hc27, h⟩ | ⟨hc27, h⟩
         ·refine AW.condP _ rfl hc27 ?_
          refine AW.sK [1, 3, 4, 5] ?_
          refine AW.seq ?_
          refine AW.block ?_
          refine AW.seq ?_
          obtain ⟨b28, hq29, h⟩ := of_bind h
          refine AW.regM [(1, (.ptr n2 0)), (3, (eI64 (p0.f1.length : Int))), (4, (eI64 x10)), (5, (eI64 x23)), (87, (eBool b28))] [(n2, (.mem (e30 p0)))] ?_ ?_
          ·refine AO.c (x := .ptr n2 256) (Calm.fldPtr rfl rfl Try.underlying30 rfl sz28 _ rfl) ?_
           refine AO.c (Calm.load 0 rfl rfl rfl (At.cast (At.fldS (At.fld0 At.here)) rfl) ag28 sz28) ?_
           refine AO.c (Calm.move rfl rfl) ?_
           obtain ⟨hg30, hq29⟩ := of_guard hq29
           refine AO.c (Calm.idxL (f := e25) rfl rfl rfl hg30 Try.underlying28 sz25) ?_
           refine AO.c (Calm.loadRp rfl rfl ag25 sz25) ?_
           refine AO.c (Calm.move rfl rfl) ?_
           obtain ⟨hg31, hq29⟩ := of_guard hq29
           refine AO.c (Calm.idxL (f := eI64) rfl rfl rfl hg31 Try.underlying25 sz3) ?_
           refine AO.c (Calm.loadRp rfl rfl ag3 sz3) ?_
           refine AO.c (x := eBool (decide ((lget (lget p0.f1 x10) x23) < (-1 : Int)))) (Calm.int rfl rfl rfl rfl) ?_
           refine AO.c (Calm.move rfl rfl) ?_
           rcases of_ite hq29 with ⟨hc32, hq29⟩ | ⟨hc32, hq29⟩
           ·refine AO.sF rfl rfl (bD (decide_eq_true hc32)) ?_
            refine AO.sF rfl rfl (bD (decide_eq_true hc32)) ?_
            refine AO.sF rfl rfl (bD (decide_eq_true hc32)) ?_
            refine AO.sF rfl rfl (bD (decide_eq_true hc32)) ?_
            refine AO.sF rfl rfl (bD (decide_eq_true hc32)) ?_
            refine AO.sF rfl rfl (bD (decide_eq_true hc32)) ?_
            refine AO.sF rfl rfl (bD (decide_eq_true hc32)) ?_
            refine AO.sF rfl rfl (bD (decide_eq_true hc32)) ?_
            refine AO.sF rfl rfl (bD (decide_eq_true hc32)) ?_
            refine AO.sF rfl rfl (bD (decide_eq_true hc32)) ?_
            refine AO.c (Calm.pickT rfl (bD (decide_eq_true hc32)) rfl) ?_
            cases hq29
            refine AO.nilE ⟨rfl, rfl⟩ ?_ ?_
            · exact ⟨rfl, rfl, rfl, rfl, rfl, trivial⟩
            · exact (Sub.refl _)
           ·refine AO.cG (x := .ptr n2 256) rfl rfl (bD (decide_eq_false hc32)) (Calm.fldPtr rfl rfl Try.underlying30 rfl sz28 _ rfl) ?_
            refine AO.cG rfl rfl (bD (decide_eq_false hc32)) (Calm.load 0 rfl rfl rfl (At.cast (At.fldS (At.fld0 At.here)) rfl) ag28 sz28) ?_
            refine AO.cG rfl rfl (bD (decide_eq_false hc32)) (Calm.move rfl rfl) ?_
            obtain ⟨hg33, hq29⟩ := of_guard hq29
            refine AO.cG rfl rfl (bD (decide_eq_false hc32)) (Calm.idxL (f := e25) rfl rfl rfl hg33 Try.underlying28 sz25) ?_
            refine AO.cG rfl rfl (bD (decide_eq_false hc32)) (Calm.loadRp rfl rfl ag25 sz25) ?_
            refine AO.cG rfl rfl (bD (decide_eq_false hc32)) (Calm.move rfl rfl) ?_
            obtain ⟨hg34, hq29⟩ := of_guard hq29
            refine AO.cG rfl rfl (bD (decide_eq_false hc32)) (Calm.idxL (f := eI64) rfl rfl rfl hg34 Try.underlying25 sz3) ?_
            refine AO.cG rfl rfl (bD (decide_eq_false hc32)) (Calm.loadRp rfl rfl ag3 sz3) ?_
            refine AO.cG rfl rfl (bD (decide_eq_false hc32)) (Calm.move rfl rfl) ?_
            refine AO.cG (x := eBool (decide ((p0.f1.length : Int) ≤ (lget (lget p0.f1 x10) x23)))) rfl rfl (bD (decide_eq_false hc32)) (Calm.int rfl rfl rfl rfl) ?_
            refine AO.c (Calm.pickF rfl (bD (decide_eq_false hc32)) rfl) ?_
            cases hq29
            refine AO.nilE ⟨rfl, rfl⟩ ?_ ?_
            · exact ⟨rfl, rfl, rfl, rfl, rfl, trivial⟩
            · exact (Sub.refl _)
          ·rcases of_ite h with ⟨hc35, h⟩ | ⟨hc35, h⟩
           ·refine AW.condT' _ rfl hc35 ?_
            refine AW.sr ?_
            refine AO.c (Calm.assign rfl rfl) ?_
            refine AO.nH [2] (H' := []) (Sub.nil _) ?_
            refine AW.rK [2] ?_
            have hr := Option.some.inj h
            subst hr
            exact ⟨[(eBool false)], ⟨rfl, rfl, trivial⟩, rfl⟩
           ·refine AW.condF' _ rfl hc35 ?_
            refine AW.sK [1, 3, 4, 5] ?_
            refine AW.reg ?_
            refine AO.c (Calm.move rfl rfl) ?_
            refine AO.c (x := eI64 (w64 (x23 + (1 : Int)))) (Calm.int rfl rfl rfl rfl) ?_
            refine AO.c (Calm.assign rfl rfl) ?_
            refine AO.nK [1, 3, 4, 5] ?_
            exact ⟨kq25, Nat.lt_succ_self _, (w64 (x23 + (1 : Int))), rfl, rfl, by rw [hrec24]; exact h⟩
         ·refine AW.condN _ rfl hc27 ?_
          refine AW.eK [1, 3, 4] ?_
          exact ⟨rfl, rfl, h⟩
      ·rintro _ _ ⟨rfl, rfl, h⟩
       rw [bosketref08_Right_c1.eq_1] at h
       refine AW.reg ?_
       refine AO.c (Calm.move rfl rfl) ?_
       refine AO.c (x := eI64 (w64 (x10 + (1 : Int)))) (Calm.int rfl rfl rfl rfl) ?_
       refine AO.c (Calm.assign rfl rfl) ?_
       refine AO.nK [1, 3, 4] ?_
       exact ⟨kq12, Nat.lt_succ_self _, (w64 (x10 + (1 : Int))), rfl, rfl, by rw [hrec11]; exact h⟩
     ·refine AW.condN _ rfl hc13 ?_
      refine AW.eH [] (H' := []) (Sub.nil _) ?_
      exact ⟨rfl, rfl, h⟩
    ·rintro _ _ ⟨rfl, rfl, h⟩
     rw [bosketref08_Right_c0.eq_1] at h
     refine AW.sr ?_
     refine AO.c (Calm.assign rfl rfl) ?_
     refine AO.nK [2] ?_
     refine AW.rK [2] ?_
     have hr := Option.some.inj h
     subst hr
     exact ⟨[(eBool true)], ⟨rfl, rfl, trivial⟩, rfl⟩
end Go.Avl.T5
/- bosket/bosketref08.Same; printed by avmain.py. -/
namespace Go.Avl.T5
open Go Go.RowKit Go.Proofs Go.Avl
set_option linter.unusedVariables false
set_option maxRecDepth 100000
set_option maxHeartbeats 4000000
attribute [local irreducible] AW AO AQ Spec SpecH Calm

def bosketref08_Same_c0 (k : Nat) : Option Bool :=
  some (true)
def bosketref08_Same_c1 (k : Nat) (rec11 : (Int → Option Bool)) (x10 : Int) : Option Bool :=
  rec11 (w64 (x10 + (1 : Int)))
def bosketref08_Same_l2 (k : Nat) (rec11 : (Int → Option Bool)) (p0 : S30) (p1 : S30) (x10 : Int) : Nat → Int → Option Bool
  | 0, _ => none
  | j + 1, x17 =>
    if 0 ≤ x10 ∧ x10 < (p0.f1.length : Int) then if x17 < ((lget p0.f1 x10).length : Int) then if 0 ≤ x10 ∧ x10 < (p0.f1.length : Int) then if 0 ≤ x17 ∧ x17 < ((lget p0.f1 x10).length : Int) then if 0 ≤ x10 ∧ x10 < (p1.f1.length : Int) then if 0 ≤ x17 ∧ x17 < ((lget p1.f1 x10).length : Int) then if (lget (lget p0.f1 x10) x17) ≠ (lget (lget p1.f1 x10) x17) then some (false)
    else (bosketref08_Same_l2 k rec11 p0 p1 x10 j) (w64 (x17 + (1 : Int)))
    else none
    else none
    else none
    else none
    else bosketref08_Same_c1 k rec11 x10
    else none
def bosketref08_Same_l3 (k : Nat) (p0 : S30) (p1 : S30) : Nat → Int → Option Bool
  | 0, _ => none
  | j + 1, x10 =>
    if x10 < (p0.f1.length : Int) then if 0 ≤ x10 ∧ x10 < (p0.f1.length : Int) then if 0 ≤ x10 ∧ x10 < (p1.f1.length : Int) then if ((lget p0.f1 x10).length : Int) ≠ ((lget p1.f1 x10).length : Int) then some (false)
    else bosketref08_Same_l2 k (bosketref08_Same_l3 k p0 p1 j) p0 p1 x10 k (0 : Int)
    else none
    else none
    else bosketref08_Same_c0 k
def bosketref08_Same_c4 (k : Nat) (p0 : S30) (p1 : S30) : Option Bool :=
  bosketref08_Same_l3 k p0 p1 k (0 : Int)
def bosketref08_Same_l5 (k : Nat) (p0 : S30) (p1 : S30) : Nat → Int → Option Bool
  | 0, _ => none
  | j + 1, x27 =>
    if x27 < (p0.f2.length : Int) then if 0 ≤ x27 ∧ x27 < (p0.f2.length : Int) then if 0 ≤ x27 ∧ x27 < (p1.f2.length : Int) then if (lget p0.f2 x27) ≠ (lget p1.f2 x27) then some (false)
    else (bosketref08_Same_l5 k p0 p1 j) (w64 (x27 + (1 : Int)))
    else none
    else none
    else bosketref08_Same_c4 k p0 p1
def bosketref08_Same (k : Nat) (p0 : S30) (p1 : S30) : Option Bool :=
  Option.bind (α := Bool) (if (!(decide (p0.f0 = p1.f0))) = true then some (true)
  else if (p0.f1.length : Int) ≠ (p1.f1.length : Int) then some (true)
  else some (decide ((p0.f2.length : Int) ≠ (p1.f2.length : Int)))) fun b5 =>
  if b5 = true then some (false)
  else bosketref08_Same_l5 k p0 p1 k (0 : Int)
theorem bosketref08_Same_spec {k : Nat} {p0 : S30} {p1 : S30} {r : Bool} (h : bosketref08_Same k p0 p1 = some r) : Spec Try.prog 36 [(e30 p0), (e30 p1)] (eBool r) := by
  rw [bosketref08_Same.eq_1] at h
  refine Spec.intro (res := [.tmp 4]) Try.func36 rfl rfl rfl (Nat.le_of_ble_eq_true rfl) ?_
  refine AW.sr ?_
  refine AO.box rfl 2 rfl (by decide) rfl rfl rfl fun n3 => ?_
  refine AO.box rfl 3 rfl (by decide) rfl rfl rfl fun n4 => ?_
  refine AO.c (Calm.assign rfl rfl) ?_
  refine AO.nH [2, 3] (H' := [(n3, (.mem (e30 p0))), (n4, (.mem (e30 p1)))]) (Sub.cons 1 rfl (Sub.cons 0 rfl (Sub.nil _))) ?_
  refine AW.seq ?_
  refine AW.seq ?_
  obtain ⟨b5, hq6, h⟩ := of_bind h
  refine AW.regM [(2, (.ptr n3 0)), (3, (.ptr n4 0)), (30, (eBool b5))] [(n3, (.mem (e30 p0))), (n4, (.mem (e30 p1)))] ?_ ?_
  ·refine AO.c (x := .ptr n3 0) (Calm.fldPtr rfl rfl Try.underlying30 rfl sz27 _ rfl) ?_
   refine AO.c (Calm.load 0 rfl rfl rfl (At.cast (At.fld0 At.here) rfl) ag27 (by rw [sz27]; simp [AV.size])) ?_
   refine AO.c (x := .ptr n4 0) (Calm.fldPtr rfl rfl Try.underlying30 rfl sz27 _ rfl) ?_
   refine AO.c (Calm.load 1 rfl rfl rfl (At.cast (At.fld0 At.here) rfl) ag27 (by rw [sz27]; simp [AV.size])) ?_
   refine AO.c (x := eBool (!(decide (p0.f0 = p1.f0)))) (Calm.neA rfl rfl rfl eg27 (eqa27 p0.f0 p1.f0) (by decide)) ?_
   refine AO.c (Calm.move rfl rfl) ?_
   rcases of_ite hq6 with ⟨hc7, hq6⟩ | ⟨hc7, hq6⟩
   ·refine AO.sF rfl rfl (bD hc7) ?_
    refine AO.sF rfl rfl (bD hc7) ?_
    refine AO.sF rfl rfl (bD hc7) ?_
    refine AO.sF rfl rfl (bD hc7) ?_
    refine AO.sF rfl rfl (bD hc7) ?_
    refine AO.sF rfl rfl (bD hc7) ?_
    refine AO.sF rfl rfl (bD hc7) ?_
    refine AO.c (Calm.pickT rfl (bD hc7) rfl) ?_
    refine AO.c (Calm.move rfl rfl) ?_
    refine AO.sF rfl rfl rfl ?_
    refine AO.sF rfl rfl rfl ?_
    refine AO.sF rfl rfl rfl ?_
    refine AO.sF rfl rfl rfl ?_
    refine AO.sF rfl rfl rfl ?_
    refine AO.sF rfl rfl rfl ?_
    refine AO.sF rfl rfl rfl ?_
    refine AO.c (Calm.pickT rfl rfl rfl) ?_
    cases hq6
    refine AO.nilE ⟨rfl, rfl⟩ ?_ ?_
    · exact ⟨rfl, rfl, rfl, trivial⟩
    · exact (Sub.refl _)
   ·refine AO.cG (x := .ptr n3 256) rfl rfl (bD (eq_false_of_ne_true hc7)) (Calm.fldPtr rfl rfl Try.underlying30 rfl sz28 _ rfl) ?_
    refine AO.cG rfl rfl (bD (eq_false_of_ne_true hc7)) (Calm.load 0 rfl rfl rfl (At.cast (At.fldS (At.fld0 At.here)) rfl) ag28 sz28) ?_
    refine AO.cG rfl rfl (bD (eq_false_of_ne_true hc7)) (Calm.lenL rfl rfl Try.underlying28) ?_
    refine AO.cG (x := .ptr n4 256) rfl rfl (bD (eq_false_of_ne_true hc7)) (Calm.fldPtr rfl rfl Try.underlying30 rfl sz28 _ rfl) ?_
    refine AO.cG rfl rfl (bD (eq_false_of_ne_true hc7)) (Calm.load 1 rfl rfl rfl (At.cast (At.fldS (At.fld0 At.here)) rfl) ag28 sz28) ?_
    refine AO.cG rfl rfl (bD (eq_false_of_ne_true hc7)) (Calm.lenL rfl rfl Try.underlying28) ?_
    refine AO.cG (x := eBool (decide ((p0.f1.length : Int) ≠ (p1.f1.length : Int)))) rfl rfl (bD (eq_false_of_ne_true hc7)) (Calm.int rfl rfl rfl rfl) ?_
    refine AO.c (Calm.pickF rfl (bD (eq_false_of_ne_true hc7)) rfl) ?_
    refine AO.c (Calm.move rfl rfl) ?_
    rcases of_ite hq6 with ⟨hc8, hq6⟩ | ⟨hc8, hq6⟩
    ·refine AO.sF rfl rfl (bD (decide_eq_true hc8)) ?_
     refine AO.sF rfl rfl (bD (decide_eq_true hc8)) ?_
     refine AO.sF rfl rfl (bD (decide_eq_true hc8)) ?_
     refine AO.sF rfl rfl (bD (decide_eq_true hc8)) ?_
     refine AO.sF rfl rfl (bD (decide_eq_true hc8)) ?_
     refine AO.sF rfl rfl (bD (decide_eq_true hc8)) ?_
     refine AO.sF rfl rfl (bD (decide_eq_true hc8)) ?_
     refine AO.c (Calm.pickT rfl (bD (decide_eq_true hc8)) rfl) ?_
     cases hq6
     refine AO.nilE ⟨rfl, rfl⟩ ?_ ?_
     · exact ⟨rfl, rfl, rfl, trivial⟩
     · exact (Sub.refl _)
    ·refine AO.cG (x := .ptr n3 257) rfl rfl (bD (decide_eq_false hc8)) (Calm.fldPtr rfl rfl Try.underlying30 rfl sz25 _ rfl) ?_
     refine AO.cG rfl rfl (bD (decide_eq_false hc8)) (Calm.load 0 rfl rfl rfl (At.cast (At.fldS (At.fldS (At.fld0 At.here))) rfl) ag25 sz25) ?_
     refine AO.cG rfl rfl (bD (decide_eq_false hc8)) (Calm.lenL rfl rfl Try.underlying25) ?_
     refine AO.cG (x := .ptr n4 257) rfl rfl (bD (decide_eq_false hc8)) (Calm.fldPtr rfl rfl Try.underlying30 rfl sz25 _ rfl) ?_
     refine AO.cG rfl rfl (bD (decide_eq_false hc8)) (Calm.load 1 rfl rfl rfl (At.cast (At.fldS (At.fldS (At.fld0 At.here))) rfl) ag25 sz25) ?_
     refine AO.cG rfl rfl (bD (decide_eq_false hc8)) (Calm.lenL rfl rfl Try.underlying25) ?_
     refine AO.cG (x := eBool (decide ((p0.f2.length : Int) ≠ (p1.f2.length : Int)))) rfl rfl (bD (decide_eq_false hc8)) (Calm.int rfl rfl rfl rfl) ?_
     refine AO.c (Calm.pickF rfl (bD (decide_eq_false hc8)) rfl) ?_
     cases hq6
     refine AO.nilE ⟨rfl, rfl⟩ ?_ ?_
     · exact ⟨rfl, rfl, rfl, trivial⟩
     · exact (Sub.refl _)
  ·rcases of_ite h with ⟨hc9, h⟩ | ⟨hc9, h⟩
   ·refine AW.condT' _ rfl hc9 ?_
    refine AW.sr ?_
    refine AO.c (Calm.assign rfl rfl) ?_
    refine AO.nH [4] (H' := []) (Sub.nil _) ?_
    refine AW.rK [4] ?_
    have hr := Option.some.inj h
    subst hr
    exact ⟨[(eBool false)], ⟨rfl, rfl, trivial⟩, rfl⟩
   ·refine AW.condF' _ rfl hc9 ?_
    refine AW.sK [2, 3] ?_
    refine AW.seq_mid (fun ρ H => ρ = [(2, (.ptr n3 0)), (3, (.ptr n4 0))] ∧ H = [(n3, (.mem (e30 p0))), (n4, (.mem (e30 p1)))] ∧ bosketref08_Same_c4 k p0 p1 = some r) ?_ ?_
    ·refine AW.sr ?_
     refine AO.c (Calm.assign rfl rfl) ?_
     refine AO.nK [2, 3, 5] ?_
     refine AW.block ?_
     refine AW.wK [2, 3, 5] ?_
     refine AW.loop (fun kq ρ H => ∃ (x27 : Int), ρ = [(2, (.ptr n3 0)), (3, (.ptr n4 0)), (5, (eI64 x27))] ∧ H = [(n3, (.mem (e30 p0))), (n4, (.mem (e30 p1)))] ∧ bosketref08_Same_l5 k p0 p1 kq x27 = some r) k ⟨(0 : Int), rfl, rfl, h⟩ ?_
     rintro kq29 _ _ ⟨x27, rfl, rfl, h⟩
     cases kq29 with
     | zero => rw [bosketref08_Same_l5.eq_1] at h; cases h
     | succ kq29 =>
     rw [bosketref08_Same_l5.eq_2] at h
     generalize hrec28 : bosketref08_Same_l5 k p0 p1 kq29 = rec28 at h
     refine AW.seq ?_
     refine AW.sr ?_
     refine AO.c (Calm.move rfl rfl) ?_
     refine AO.c (x := .ptr n3 257) (Calm.fldPtr rfl rfl Try.underlying30 rfl sz25 _ rfl) ?_
     refine AO.c (Calm.load 0 rfl rfl rfl (At.cast (At.fldS (At.fldS (At.fld0 At.here))) rfl) ag25 sz25) ?_
     refine AO.c (Calm.lenL rfl rfl Try.underlying25) ?_
     refine AO.c (x := eBool (decide (x27 < (p0.f2.length : Int)))) (Calm.int rfl rfl rfl rfl) ?_
     refine AO.nK [2, 3, 5, 35] ?_
     rcases of_ite h with ⟨hc30, h⟩ | ⟨hc30, h⟩
     ·refine AW.condP _ rfl hc30 ?_
      refine AW.sK [2, 3, 5] ?_
      refine AW.seq ?_
      refine AW.block ?_
      refine AW.seq ?_
      refine AW.regQ (by rfl) (by decide +kernel) ?_
      refine AQ.c (x := .ptr n3 257) (Calm.fldPtr rfl rfl Try.underlying30 rfl sz25 _ rfl) ?_
      refine AQ.c (Calm.load 0 rfl rfl rfl (At.cast (At.fldS (At.fldS (At.fld0 At.here))) rfl) ag25 sz25) ?_
      refine AQ.c (Calm.move rfl rfl) ?_
      obtain ⟨hg31, h⟩ := of_guard h
      refine AQ.c (Calm.idxL (f := eI64) rfl rfl rfl hg31 Try.underlying25 sz3) ?_
      refine AQ.c (Calm.loadRp rfl rfl ag3 sz3) ?_
      refine AQ.c (x := .ptr n4 257) (Calm.fldPtr rfl rfl Try.underlying30 rfl sz25 _ rfl) ?_
      refine AQ.c (Calm.load 1 rfl rfl rfl (At.cast (At.fldS (At.fldS (At.fld0 At.here))) rfl) ag25 sz25) ?_
      refine AQ.c (Calm.move rfl rfl) ?_
      obtain ⟨hg32, h⟩ := of_guard h
      refine AQ.c (Calm.idxL (f := eI64) rfl rfl rfl hg32 Try.underlying25 sz3) ?_
      refine AQ.c (Calm.loadRp rfl rfl ag3 sz3) ?_
      refine AQ.c (x := eBool (decide ((lget p0.f2 x27) ≠ (lget p1.f2 x27)))) (Calm.int rfl rfl rfl rfl) ?_
      refine AQ.nK [2, 3, 5, 48] ?_
      rcases of_ite h with ⟨hc33, h⟩ | ⟨hc33, h⟩
      ·refine AW.condP _ rfl hc33 ?_
       refine AW.sr ?_
       refine AO.c (Calm.assign rfl rfl) ?_
       refine AO.nH [4] (H' := []) (Sub.nil _) ?_
       refine AW.rK [4] ?_
       have hr := Option.some.inj h
       subst hr
       exact ⟨[(eBool false)], ⟨rfl, rfl, trivial⟩, rfl⟩
      ·refine AW.condN _ rfl hc33 ?_
       refine AW.sK [2, 3, 5] ?_
       refine AW.reg ?_
       refine AO.c (Calm.move rfl rfl) ?_
       refine AO.c (x := eI64 (w64 (x27 + (1 : Int)))) (Calm.int rfl rfl rfl rfl) ?_
       refine AO.c (Calm.assign rfl rfl) ?_
       refine AO.nK [2, 3, 5] ?_
       exact ⟨kq29, Nat.lt_succ_self _, (w64 (x27 + (1 : Int))), rfl, rfl, by rw [hrec28]; exact h⟩
     ·refine AW.condN _ rfl hc30 ?_
      refine AW.eK [2, 3] ?_
      exact ⟨rfl, rfl, h⟩
    ·rintro _ _ ⟨rfl, rfl, h⟩
     rw [bosketref08_Same_c4.eq_1] at h
     refine AW.seq_mid (fun ρ H => ρ = [] ∧ H = [] ∧ bosketref08_Same_c0 k = some r) ?_ ?_
     ·refine AW.sr ?_
      refine AO.c (Calm.assign rfl rfl) ?_
      refine AO.nK [2, 3, 6] ?_
      refine AW.block ?_
      refine AW.wK [2, 3, 6] ?_
      refine AW.loop (fun kq ρ H => ∃ (x10 : Int), ρ = [(2, (.ptr n3 0)), (3, (.ptr n4 0)), (6, (eI64 x10))] ∧ H = [(n3, (.mem (e30 p0))), (n4, (.mem (e30 p1)))] ∧ bosketref08_Same_l3 k p0 p1 kq x10 = some r) k ⟨(0 : Int), rfl, rfl, h⟩ ?_
      rintro kq12 _ _ ⟨x10, rfl, rfl, h⟩
      cases kq12 with
      | zero => rw [bosketref08_Same_l3.eq_1] at h; cases h
      | succ kq12 =>
      rw [bosketref08_Same_l3.eq_2] at h
      generalize hrec11 : bosketref08_Same_l3 k p0 p1 kq12 = rec11 at h
      refine AW.seq ?_
      refine AW.sr ?_
      refine AO.c (Calm.move rfl rfl) ?_
      refine AO.c (x := .ptr n3 256) (Calm.fldPtr rfl rfl Try.underlying30 rfl sz28 _ rfl) ?_
      refine AO.c (Calm.load 0 rfl rfl rfl (At.cast (At.fldS (At.fld0 At.here)) rfl) ag28 sz28) ?_
      refine AO.c (Calm.lenL rfl rfl Try.underlying28) ?_
      refine AO.c (x := eBool (decide (x10 < (p0.f1.length : Int)))) (Calm.int rfl rfl rfl rfl) ?_
      refine AO.nK [2, 3, 6, 53] ?_
      rcases of_ite h with ⟨hc13, h⟩ | ⟨hc13, h⟩
      ·refine AW.condP _ rfl hc13 ?_
       refine AW.sK [2, 3, 6] ?_
       refine AW.seq_mid (fun ρ H => ρ = [(2, (.ptr n3 0)), (3, (.ptr n4 0)), (6, (eI64 x10))] ∧ H = [(n3, (.mem (e30 p0))), (n4, (.mem (e30 p1)))] ∧ bosketref08_Same_c1 k rec11 x10 = some r) ?_ ?_
       ·refine AW.block ?_
        refine AW.seq ?_
        refine AW.seq ?_
        refine AW.regQ (by rfl) (by decide +kernel) ?_
        refine AQ.c (x := .ptr n3 256) (Calm.fldPtr rfl rfl Try.underlying30 rfl sz28 _ rfl) ?_
        refine AQ.c (Calm.load 0 rfl rfl rfl (At.cast (At.fldS (At.fld0 At.here)) rfl) ag28 sz28) ?_
        refine AQ.c (Calm.move rfl rfl) ?_
        obtain ⟨hg14, h⟩ := of_guard h
        refine AQ.c (Calm.idxL (f := e25) rfl rfl rfl hg14 Try.underlying28 sz25) ?_
        refine AQ.c (Calm.loadRp rfl rfl ag25 sz25) ?_
        refine AQ.c (Calm.lenL rfl rfl Try.underlying25) ?_
        refine AQ.c (x := .ptr n4 256) (Calm.fldPtr rfl rfl Try.underlying30 rfl sz28 _ rfl) ?_
        refine AQ.c (Calm.load 1 rfl rfl rfl (At.cast (At.fldS (At.fld0 At.here)) rfl) ag28 sz28) ?_
        refine AQ.c (Calm.move rfl rfl) ?_
        obtain ⟨hg15, h⟩ := of_guard h
        refine AQ.c (Calm.idxL (f := e25) rfl rfl rfl hg15 Try.underlying28 sz25) ?_
        refine AQ.c (Calm.loadRp rfl rfl ag25 sz25) ?_
        refine AQ.c (Calm.lenL rfl rfl Try.underlying25) ?_
        refine AQ.c (x := eBool (decide (((lget p0.f1 x10).length : Int) ≠ ((lget p1.f1 x10).length : Int)))) (Calm.int rfl rfl rfl rfl) ?_
        refine AQ.nK [2, 3, 6, 68] ?_
        rcases of_ite h with ⟨hc16, h⟩ | ⟨hc16, h⟩
        ·refine AW.condP _ rfl hc16 ?_
         refine AW.sr ?_
         refine AO.c (Calm.assign rfl rfl) ?_
         refine AO.nH [4] (H' := []) (Sub.nil _) ?_
         refine AW.rK [4] ?_
         have hr := Option.some.inj h
         subst hr
         exact ⟨[(eBool false)], ⟨rfl, rfl, trivial⟩, rfl⟩
        ·refine AW.condN _ rfl hc16 ?_
         refine AW.sK [2, 3, 6] ?_
         refine AW.sr ?_
         refine AO.c (Calm.assign rfl rfl) ?_
         refine AO.nK [2, 3, 6, 7] ?_
         refine AW.block ?_
         refine AW.wK [2, 3, 6, 7] ?_
         refine AW.loop (fun kq ρ H => ∃ (x17 : Int), ρ = [(2, (.ptr n3 0)), (3, (.ptr n4 0)), (6, (eI64 x10)), (7, (eI64 x17))] ∧ H = [(n3, (.mem (e30 p0))), (n4, (.mem (e30 p1)))] ∧ bosketref08_Same_l2 k rec11 p0 p1 x10 kq x17 = some r) k ⟨(0 : Int), rfl, rfl, h⟩ ?_
         rintro kq19 _ _ ⟨x17, rfl, rfl, h⟩
         cases kq19 with
         | zero => rw [bosketref08_Same_l2.eq_1] at h; cases h
         | succ kq19 =>
         rw [bosketref08_Same_l2.eq_2] at h
         generalize hrec18 : bosketref08_Same_l2 k rec11 p0 p1 x10 kq19 = rec18 at h
         refine AW.seq ?_
         refine AW.sr ?_
         refine AO.c (Calm.move rfl rfl) ?_
         refine AO.c (x := .ptr n3 256) (Calm.fldPtr rfl rfl Try.underlying30 rfl sz28 _ rfl) ?_
         refine AO.c (Calm.load 0 rfl rfl rfl (At.cast (At.fldS (At.fld0 At.here)) rfl) ag28 sz28) ?_
         refine AO.c (Calm.move rfl rfl) ?_
         obtain ⟨hg20, h⟩ := of_guard h
         refine AO.c (Calm.idxL (f := e25) rfl rfl rfl hg20 Try.underlying28 sz25) ?_
         refine AO.c (Calm.loadRp rfl rfl ag25 sz25) ?_
         refine AO.c (Calm.lenL rfl rfl Try.underlying25) ?_
         refine AO.c (x := eBool (decide (x17 < ((lget p0.f1 x10).length : Int)))) (Calm.int rfl rfl rfl rfl) ?_
         refine AO.nK [2, 3, 6, 7, 76] ?_
         rcases of_ite h with ⟨hc21, h⟩ | ⟨hc21, h⟩
         ·refine AW.condP _ rfl hc21 ?_
          refine AW.sK [2, 3, 6, 7] ?_
          refine AW.seq ?_
          refine AW.block ?_
          refine AW.seq ?_
          refine AW.regQ (by rfl) (by decide +kernel) ?_
          refine AQ.c (x := .ptr n3 256) (Calm.fldPtr rfl rfl Try.underlying30 rfl sz28 _ rfl) ?_
          refine AQ.c (Calm.load 0 rfl rfl rfl (At.cast (At.fldS (At.fld0 At.here)) rfl) ag28 sz28) ?_
          refine AQ.c (Calm.move rfl rfl) ?_
          obtain ⟨hg22, h⟩ := of_guard h
          refine AQ.c (Calm.idxL (f := e25) rfl rfl rfl hg22 Try.underlying28 sz25) ?_
          refine AQ.c (Calm.loadRp rfl rfl ag25 sz25) ?_
          refine AQ.c (Calm.move rfl rfl) ?_
          obtain ⟨hg23, h⟩ := of_guard h
          refine AQ.c (Calm.idxL (f := eI64) rfl rfl rfl hg23 Try.underlying25 sz3) ?_
          refine AQ.c (Calm.loadRp rfl rfl ag3 sz3) ?_
          refine AQ.c (x := .ptr n4 256) (Calm.fldPtr rfl rfl Try.underlying30 rfl sz28 _ rfl) ?_
          refine AQ.c (Calm.load 1 rfl rfl rfl (At.cast (At.fldS (At.fld0 At.here)) rfl) ag28 sz28) ?_
          refine AQ.c (Calm.move rfl rfl) ?_
          obtain ⟨hg24, h⟩ := of_guard h
          refine AQ.c (Calm.idxL (f := e25) rfl rfl rfl hg24 Try.underlying28 sz25) ?_
          refine AQ.c (Calm.loadRp rfl rfl ag25 sz25) ?_
          refine AQ.c (Calm.move rfl rfl) ?_
          obtain ⟨hg25, h⟩ := of_guard h
          refine AQ.c (Calm.idxL (f := eI64) rfl rfl rfl hg25 Try.underlying25 sz3) ?_
          refine AQ.c (Calm.loadRp rfl rfl ag3 sz3) ?_
          refine AQ.c (x := eBool (decide ((lget (lget p0.f1 x10) x17) ≠ (lget (lget p1.f1 x10) x17)))) (Calm.int rfl rfl rfl rfl) ?_
          refine AQ.nK [2, 3, 6, 7, 95] ?_
          rcases of_ite h with ⟨hc26, h⟩ | ⟨hc26, h⟩
          ·refine AW.condP _ rfl hc26 ?_
           refine AW.sr ?_
           refine AO.c (Calm.assign rfl rfl) ?_
           refine AO.nH [4] (H' := []) (Sub.nil _) ?_
           refine AW.rK [4] ?_
           have hr := Option.some.inj h
           subst hr
           exact ⟨[(eBool false)], ⟨rfl, rfl, trivial⟩, rfl⟩
          ·refine AW.condN _ rfl hc26 ?_
           refine AW.sK [2, 3, 6, 7] ?_
           refine AW.reg ?_
           refine AO.c (Calm.move rfl rfl) ?_
           refine AO.c (x := eI64 (w64 (x17 + (1 : Int)))) (Calm.int rfl rfl rfl rfl) ?_
           refine AO.c (Calm.assign rfl rfl) ?_
           refine AO.nK [2, 3, 6, 7] ?_
           exact ⟨kq19, Nat.lt_succ_self _, (w64 (x17 + (1 : Int))), rfl, rfl, by rw [hrec18]; exact h⟩
         ·refine AW.condN _ rfl hc21 ?_
          refine AW.eK [2, 3, 6] ?_
          exact ⟨rfl, rfl, h⟩
       ·rintro _ _ ⟨rfl, rfl, h⟩
        rw [bosketref08_Same_c1.eq_1] at h
        refine AW.reg ?_
        refine AO.c (Calm.move rfl rfl) ?_
        refine AO.c (x := eI64 (w64 (x10 + (1 : Int)))) (Calm.int rfl rfl rfl rfl) ?_
        refine AO.c (Calm.assign rfl rfl) ?_
        refine AO.nK [2, 3, 6] ?_
        exact ⟨kq12, Nat.lt_succ_self _, (w64 (x10 + (1 : Int))), rfl, rfl, by rw [hrec11]; exact h⟩
      ·refine AW.condN _ rfl hc13 ?_
       refine AW.eH [] (H' := []) (Sub.nil _) ?_
       exact ⟨rfl, rfl, h⟩
     ·rintro _ _ ⟨rfl, rfl, h⟩
      rw [bosketref08_Same_c0.eq_1] at h
      refine AW.sr ?_
      refine AO.c (Calm.assign rfl rfl) ?_
      refine AO.nK [4] ?_
      refine AW.rK [4] ?_
      have hr := Option.some.inj h
      subst hr
      exact ⟨[(eBool true)], ⟨rfl, rfl, trivial⟩, rfl⟩
end Go.Avl.T5
/- bosket/bosketlaw09.MiniOne; printed by avmain.py. -/
namespace Go.Avl.T5
open Go Go.RowKit Go.Proofs Go.Avl
set_option linter.unusedVariables false
set_option maxRecDepth 100000
set_option maxHeartbeats 4000000
set_option linter.unusedSimpArgs false
attribute [local irreducible] AW AO AQ Spec SpecH Calm

def bosketlaw09_MiniOne_c0 (k : Nat) (p0 : S30) (p1 : Int) (x22 : (List (List Int))) : Option Bool :=
  (mini_Of k p0).bind fun t23 =>
  (mini_Of k (S30.mk p0.f0 x22 ((([] : List Int) ++ p0.f2) ++ ([(lget p0.f2 ((w64 p1).tmod (p0.f1.length : Int)))] : List Int)))).bind fun t25 =>
  (mini_Of k t23.1).bind fun t27 =>
  Option.bind (α := Bool) (if t23.2 = (0 : Int) then if t25.2 = (0 : Int) then if t27.2 = (0 : Int) then (bosketref08_Same k t23.1 t25.1).bind fun t34 =>
  if t34 = true then (bosketref08_Same k t23.1 t27.1).bind fun t36 =>
  some (t36)
  else some (false)
  else some (false)
  else some (false)
  else some (false)) fun b29 =>
  some (b29)
def bosketlaw09_MiniOne_c1 (k : Nat) (rec40 : ((List (List Int)) → Int → Option Bool)) (x39 : Int) (x44 : (List (List Int))) : Option Bool :=
  rec40 x44 (w64 (x39 + (1 : Int)))
def bosketlaw09_MiniOne_c2 (k : Nat) (rec40 : ((List (List Int)) → Int → Option Bool)) (x38 : (List (List Int))) (x39 : Int) (x47 : (List Int)) : Option Bool :=
  if (x38 ++ ([x47] : List (List Int))).length * 24 ≤ 140737488355328 then bosketlaw09_MiniOne_c1 k rec40 x39 (x38 ++ ([x47] : List (List Int)))
  else none
def bosketlaw09_MiniOne_c3 (k : Nat) (rec54 : ((List Int) → Int → Option Bool)) (x52 : (List Int)) (x53 : Int) (x60 : Int) : Option Bool :=
  if (x52 ++ ([x60] : List Int)).length * 8 ≤ 140737488355328 then rec54 (x52 ++ ([x60] : List Int)) (w64 (x53 + (1 : Int)))
  else none
def bosketlaw09_MiniOne_l4 (k : Nat) (rec40 : ((List (List Int)) → Int → Option Bool)) (p0 : S30) (p1 : Int) (x38 : (List (List Int))) (x39 : Int) (x45 : Int) : Nat → (List Int) → Int → Option Bool
  | 0, _, _ => none
  | j + 1, x52, x53 =>
    if 0 ≤ x45 ∧ x45 < (p0.f1.length : Int) then if x53 < ((lget p0.f1 x45).length : Int) then if 0 ≤ x45 ∧ x45 < (p0.f1.length : Int) then if 0 ≤ x53 ∧ x53 < ((lget p0.f1 x45).length : Int) then Option.bind (α := Bool) (if (lget (lget p0.f1 x45) x53) = ((w64 p1).tmod (p0.f1.length : Int)) then some (decide (((w64 (x39 + x53)).tmod (2 : Int)) = (0 : Int)))
    else some (false)) fun b64 =>
    if b64 = true then bosketlaw09_MiniOne_c3 k (bosketlaw09_MiniOne_l4 k rec40 p0 p1 x38 x39 x45 j) x52 x53 (p0.f1.length : Int)
    else bosketlaw09_MiniOne_c3 k (bosketlaw09_MiniOne_l4 k rec40 p0 p1 x38 x39 x45 j) x52 x53 (lget (lget p0.f1 x45) x53)
    else none
    else none
    else bosketlaw09_MiniOne_c2 k rec40 x38 x39 x52
    else none
def bosketlaw09_MiniOne_c5 (k : Nat) (rec40 : ((List (List Int)) → Int → Option Bool)) (p0 : S30) (p1 : Int) (x38 : (List (List Int))) (x39 : Int) (x45 : Int) : Option Bool :=
  bosketlaw09_MiniOne_l4 k rec40 p0 p1 x38 x39 x45 k ([] : List Int) (0 : Int)
def bosketlaw09_MiniOne_l6 (k : Nat) (p0 : S30) (p1 : Int) : Nat → (List (List Int)) → Int → Option Bool
  | 0, _, _ => none
  | j + 1, x38, x39 =>
    if x39 ≤ (p0.f1.length : Int) then if x39 = (p0.f1.length : Int) then bosketlaw09_MiniOne_c5 k (bosketlaw09_MiniOne_l6 k p0 p1 j) p0 p1 x38 x39 ((w64 p1).tmod (p0.f1.length : Int))
    else bosketlaw09_MiniOne_c5 k (bosketlaw09_MiniOne_l6 k p0 p1 j) p0 p1 x38 x39 x39
    else bosketlaw09_MiniOne_c0 k p0 p1 x38
def bosketlaw09_MiniOne (k : Nat) (p0 : S30) (p1 : Int) : Option Bool :=
  (bosketlaw09_awake k).bind fun t4 =>
  if (!t4) = true then some (false)
  else Option.bind (α := Bool) ((bosketlaw08_Small k p0).bind fun t8 =>
  if (!t8) = true then some (true)
  else (bosketref08_Right k p0).bind fun t10 =>
  some (!t10)) fun b6 =>
  if b6 = true then some (true)
  else if (p0.f1.length : Int) ≠ 0 then if (([] : List Int) ++ p0.f2).length * 8 ≤ 140737488355328 then if 0 ≤ ((w64 p1).tmod (p0.f1.length : Int)) ∧ ((w64 p1).tmod (p0.f1.length : Int)) < (p0.f2.length : Int) then if ((([] : List Int) ++ p0.f2) ++ ([(lget p0.f2 ((w64 p1).tmod (p0.f1.length : Int)))] : List Int)).length * 8 ≤ 140737488355328 then bosketlaw09_MiniOne_l6 k p0 p1 k ([] : List (List Int)) (0 : Int)
  else none
  else none
  else none
  else none
theorem bosketlaw09_MiniOne_spec {k : Nat} {p0 : S30} {p1 : Int} {r : Bool} (h : bosketlaw09_MiniOne k p0 p1 = some r) : Spec Try.prog 10 [(e30 p0), (eU8 p1)] (eBool r) := by
  rw [bosketlaw09_MiniOne.eq_1] at h
  refine Spec.intro (res := [.tmp 4]) Try.func10 rfl rfl rfl (Nat.le_of_ble_eq_true rfl) ?_
  refine AW.sr ?_
  refine AO.box rfl 2 rfl (by decide) rfl rfl rfl fun n3 => ?_
  refine AO.c (Calm.assign rfl rfl) ?_
  refine AO.nK [1, 2] ?_
  refine AW.seq ?_
  refine AW.sr ?_
  obtain ⟨t4, et4, h⟩ := of_bind h
  refine AO.callS [] (eBool t4) 19 rfl (by decide) ok32 rfl rfl rfl trivial (bosketlaw09_awake_spec et4) ?_
  refine AO.c (Calm.not rfl rfl) ?_
  refine AO.nK [1, 2, 20] ?_
  rcases of_ite h with ⟨hc5, h⟩ | ⟨hc5, h⟩
  ·refine AW.condT' _ rfl hc5 ?_
   refine AW.sr ?_
   refine AO.c (Calm.assign rfl rfl) ?_
   refine AO.nH [4] (H' := []) (Sub.nil _) ?_
   refine AW.rK [4] ?_
   have hr := Option.some.inj h
   subst hr
   exact ⟨[(eBool false)], ⟨rfl, rfl, trivial⟩, rfl⟩
  ·refine AW.condF' _ rfl hc5 ?_
   refine AW.sK [1, 2] ?_
   refine AW.seq ?_
   refine AW.seq ?_
   obtain ⟨b6, hq7, h⟩ := of_bind h
   refine AW.regM [(1, (eU8 p1)), (2, (.ptr n3 0)), (28, (eBool b6))] [(n3, (.mem (e30 p0)))] ?_ ?_
   ·refine AO.c (Calm.load 0 rfl rfl rfl (At.cast At.here rfl) ag30 sz30) ?_
    obtain ⟨t8, et8, hq7⟩ := of_bind hq7
    refine AO.callS [(e30 p0)] (eBool t8) 22 rfl (by decide) ok24 rfl rfl rfl ⟨rfl, rfl, trivial⟩ (bosketlaw08_Small_spec et8) ?_
    refine AO.c (Calm.not rfl rfl) ?_
    refine AO.c (Calm.move rfl rfl) ?_
    rcases of_ite hq7 with ⟨hc9, hq7⟩ | ⟨hc9, hq7⟩
    ·refine AO.sF rfl rfl (bD hc9) ?_
     refine AO.sF rfl rfl (bD hc9) ?_
     refine AO.sF rfl rfl (bD hc9) ?_
     refine AO.c (Calm.pickT rfl (bD hc9) rfl) ?_
     cases hq7
     refine AO.nilE ⟨rfl, rfl⟩ ?_ ?_
     · exact ⟨rfl, rfl, rfl, trivial⟩
     · exact (Sub.refl _)
    ·refine AO.cG rfl rfl (bD (eq_false_of_ne_true hc9)) (Calm.load 0 rfl rfl rfl (At.cast At.here rfl) ag30 sz30) ?_
     obtain ⟨t10, et10, hq7⟩ := of_bind hq7
     refine AO.callG 3 false 24 [(e30 p0)] (eBool t10) 26 rfl (by decide) ok25 rfl rfl (bD (eq_false_of_ne_true hc9)) rfl rfl ⟨rfl, rfl, trivial⟩ (bosketref08_Right_spec et10) ?_
     refine AO.cG rfl rfl (bD (eq_false_of_ne_true hc9)) (Calm.not rfl rfl) ?_
     refine AO.c (Calm.pickF rfl (bD (eq_false_of_ne_true hc9)) rfl) ?_
     cases hq7
     refine AO.nilE ⟨rfl, rfl⟩ ?_ ?_
     · exact ⟨rfl, rfl, rfl, trivial⟩
     · exact (Sub.refl _)
   ·rcases of_ite h with ⟨hc11, h⟩ | ⟨hc11, h⟩
    ·refine AW.condT' _ rfl hc11 ?_
     refine AW.sr ?_
     refine AO.c (Calm.assign rfl rfl) ?_
     refine AO.nH [4] (H' := []) (Sub.nil _) ?_
     refine AW.rK [4] ?_
     have hr := Option.some.inj h
     subst hr
     exact ⟨[(eBool true)], ⟨rfl, rfl, trivial⟩, rfl⟩
    ·refine AW.condF' _ rfl hc11 ?_
     refine AW.sK [1, 2] ?_
     refine AW.sr ?_
     refine AO.c (x := .ptr n3 256) (Calm.fldPtr rfl rfl Try.underlying30 rfl sz28 _ rfl) ?_
     refine AO.c (Calm.load 0 rfl rfl rfl (At.cast (At.fldS (At.fld0 At.here)) rfl) ag28 sz28) ?_
     refine AO.c (Calm.lenL rfl rfl Try.underlying28) ?_
     refine AO.c (Calm.assign rfl rfl) ?_
     refine AO.nK [1, 2, 5] ?_
     refine AW.sr ?_
     refine AO.c (Calm.move rfl rfl) ?_
     refine AO.c (x := eI64 (w64 p1)) (Calm.conv rfl rfl Try.underlying5 Try.underlying3) ?_
     refine AO.c (Calm.move rfl rfl) ?_
     obtain ⟨hg12, h⟩ := of_guard h
     refine AO.c (x := eI64 ((w64 p1).tmod (p0.f1.length : Int))) (Calm.rem rfl rfl rfl hg12) ?_
     refine AO.c (Calm.assign rfl rfl) ?_
     refine AO.nK [2, 5, 6] ?_
     refine AW.seq ?_
     obtain ⟨hg15, h⟩ := of_guard h
     obtain ⟨hg16, h⟩ := of_guard h
     obtain ⟨hg19, h⟩ := of_guard h
     refine AW.regEff (by rfl) (by decide +kernel) (fun (σ : Nat → Nat) => ([(.ptr n3 0), (.ar 1 (p0.f0.toList.map eU8)), (.own (σ 2) 0 ([] : List Int).length), (.ptr n3 257), (.fz 1 (p0.f2.map eI64)), (.own (σ 5) 0 (([] : List Int) ++ p0.f2).length), (.ptr n3 257), (.fz 1 (p0.f2.map eI64)), (eI64 ((w64 p1).tmod (p0.f1.length : Int))), (.rp (eI64 (lget p0.f2 ((w64 p1).tmod (p0.f1.length : Int))))), (eI64 (lget p0.f2 ((w64 p1).tmod (p0.f1.length : Int)))), (.fz 1 (([(lget p0.f2 ((w64 p1).tmod (p0.f1.length : Int)))] : List Int).map eI64)), (.own (σ 12) 0 ((([] : List Int) ++ p0.f2) ++ ([(lget p0.f2 ((w64 p1).tmod (p0.f1.length : Int)))] : List Int)).length), (.st [(256, (.ar 1 (p0.f0.toList.map eU8))), (1, (.fl (.slice none 0 0))), (1, (.own (σ 12) 0 ((([] : List Int) ++ p0.f2) ++ ([(lget p0.f2 ((w64 p1).tmod (p0.f1.length : Int)))] : List Int)).length))]), (.ptr (σ 14) 0), (.fl undef)] : List AV)) (fun (L : Nat → Bool) (σ : Nat → Nat) => ((n3, (.mem (e30 p0))) :: (bif L 2 then (bif L 5 then (bif L 12 then (bif L 14 then (bif L 15 then (((σ 14), (.mem (.st [(256, (.ar 1 (p0.f0.toList.map eU8))), (1, (.fl (.slice none 0 0))), (1, (.own (σ 12) 0 ((([] : List Int) ++ p0.f2) ++ ([(lget p0.f2 ((w64 p1).tmod (p0.f1.length : Int)))] : List Int)).length))]))) :: ((σ 12), (.mem (.ar 1 (((([] : List Int) ++ p0.f2) ++ ([(lget p0.f2 ((w64 p1).tmod (p0.f1.length : Int)))] : List Int)).map eI64)))) :: []) else (((σ 14), (.mem (.st [(256, (.ar 1 ((Vector.replicate 256 (0 : Int)).toList.map eU8))), (1, (.fl (.slice none 0 0))), (1, (.fl (.slice none 0 0)))]))) :: ((σ 12), (.mem (.ar 1 (((([] : List Int) ++ p0.f2) ++ ([(lget p0.f2 ((w64 p1).tmod (p0.f1.length : Int)))] : List Int)).map eI64)))) :: [])) else (((σ 12), (.mem (.ar 1 (((([] : List Int) ++ p0.f2) ++ ([(lget p0.f2 ((w64 p1).tmod (p0.f1.length : Int)))] : List Int)).map eI64)))) :: [])) else (bif L 14 then (((σ 14), (.mem (.st [(256, (.ar 1 ((Vector.replicate 256 (0 : Int)).toList.map eU8))), (1, (.fl (.slice none 0 0))), (1, (.fl (.slice none 0 0)))]))) :: ((σ 5), (.mem (.ar 1 ((([] : List Int) ++ p0.f2).map eI64)))) :: []) else (((σ 5), (.mem (.ar 1 ((([] : List Int) ++ p0.f2).map eI64)))) :: []))) else (bif L 14 then (((σ 14), (.mem (.st [(256, (.ar 1 ((Vector.replicate 256 (0 : Int)).toList.map eU8))), (1, (.fl (.slice none 0 0))), (1, (.fl (.slice none 0 0)))]))) :: ((σ 2), (.mem (.ar 1 (([] : List Int).map eI64)))) :: []) else (((σ 2), (.mem (.ar 1 (([] : List Int).map eI64)))) :: []))) else (bif L 14 then (((σ 14), (.mem (.st [(256, (.ar 1 ((Vector.replicate 256 (0 : Int)).toList.map eU8))), (1, (.fl (.slice none 0 0))), (1, (.fl (.slice none 0 0)))]))) :: []) else ([]))) : Heap)) [(2, (.ptr n3 0)), (5, (eI64 (p0.f1.length : Int))), (6, (eI64 ((w64 p1).tmod (p0.f1.length : Int))))] ⟨rfl, rfl, rfl, trivial⟩ (fun _ => rfl) (fun σ => (Sub.refl _)) ⟨?_, ?_, ?_, ?_, ?_, ?_, ?_, ?_, ?_, ?_, ?_, ?_, ?_, ?_, ?_, ?_, trivial⟩ (fun σ => [(2, (.ptr n3 0)), (5, (eI64 (p0.f1.length : Int))), (6, (eI64 ((w64 p1).tmod (p0.f1.length : Int)))), (7, (.ptr (σ 14) 0))]) (fun σ => ((n3, (.mem (e30 p0))) :: ((σ 14), (.mem (.st [(256, (.ar 1 (p0.f0.toList.map eU8))), (1, (.fl (.slice none 0 0))), (1, (.own (σ 12) 0 ((([] : List Int) ++ p0.f2) ++ ([(lget p0.f2 ((w64 p1).tmod (p0.f1.length : Int)))] : List Int)).length))]))) :: ((σ 12), (.mem (.ar 1 (((([] : List Int) ++ p0.f2) ++ ([(lget p0.f2 ((w64 p1).tmod (p0.f1.length : Int)))] : List Int)).map eI64)))) :: [])) (fun σ => ⟨rfl, rfl, rfl, rfl, trivial⟩) (fun σ => Sub.refl _) (fun σ => ?_)
     ·refine StepE.calm (fun _ _ => rfl) fun L σ hc hi hd => ?_
      refine AO.wK [2] ?_
      refine AO.c (x := .ptr n3 0) (Calm.fldPtr rfl rfl Try.underlying30 rfl sz27 _ rfl) ?_
      exact AO.nE (d := 36) rfl ⟨⟨36, _, rfl, rfl, rfl⟩, Sub.refl _⟩
     ·refine StepE.calm (fun _ _ => rfl) fun L σ hc hi hd => ?_
      refine AO.wK [36] ?_
      refine AO.c (Calm.load 0 rfl rfl rfl (At.cast (At.fld0 At.here) rfl) ag27 (by rw [sz27]; simp [AV.size])) ?_
      exact AO.nE (d := 37) rfl ⟨⟨37, _, rfl, rfl, rfl⟩, Sub.refl _⟩
     ·intro L σ hc hi hd
      have m5 : L 5 = false := hc.neg (i := 2) (j := 5) rfl (by rfl) hi
      have m5 : L 5 = false := hc.neg (i := 2) (j := 5) rfl (by rfl) hi
      have m12 : L 12 = false := hc.neg (i := 5) (j := 12) rfl (by rfl) m5
      have m15 : L 15 = false := hc.neg (i := 2) (j := 15) rfl (by rfl) hi
      cases b14 : L 14 with
      | true =>
        refine AO.heq (H' := ((n3, (.mem (e30 p0))) :: ((σ 14), (.mem (.st [(256, (.ar 1 ((Vector.replicate 256 (0 : Int)).toList.map eU8))), (1, (.fl (.slice none 0 0))), (1, (.fl (.slice none 0 0)))]))) :: [])) (by first | rfl | simp only [hi, m5, m12, b14, m15, cond_true, cond_false]) ?_
        refine AO.wK [] ?_
        refine AO.lit (Z := (eI64 (0 : Int))) (xs := (([] : List Int).map eI64)) (qs := []) rfl 38 rfl (by decide) rfl trivial Try.underlying25 sz3 zr3 lay3 rfl (by decide) (litOK (z := 1) [] rfl trivial) rfl fun n13 => ?_
        have a2 : addL L 2 2 = true := rfl
        have a5 : addL L 2 5 = false := m5
        have a12 : addL L 2 12 = false := m12
        have a14 : addL L 2 14 = true := b14
        have a15 : addL L 2 15 = false := m15
        have u2 : upd σ 2 n13 2 = n13 := rfl
        have u5 : upd σ 2 n13 5 = σ 5 := rfl
        have u12 : upd σ 2 n13 12 = σ 12 := rfl
        have u14 : upd σ 2 n13 14 = σ 14 := rfl
        exact AO.nE (d := 38) rfl ⟨(upd σ 2 n13), (fun j hj => match j, hj with | 0, _ => rfl | 1, _ => rfl | 2, hj => Bool.noConfusion (hj.symm.trans hi) | 3, _ => rfl | 4, _ => rfl | 5, _ => rfl | 6, _ => rfl | 7, _ => rfl | 8, _ => rfl | 9, _ => rfl | 10, _ => rfl | 11, _ => rfl | 12, _ => rfl | 13, _ => rfl | 14, _ => rfl | 15, _ => rfl | _ + 16, _ => rfl), (fun d' hd' => ⟨_, rfl, by cases hd'; rfl⟩), Sub.of_eq (B := ((n3, (.mem (e30 p0))) :: ((σ 14), (.mem (.st [(256, (.ar 1 ((Vector.replicate 256 (0 : Int)).toList.map eU8))), (1, (.fl (.slice none 0 0))), (1, (.fl (.slice none 0 0)))]))) :: (n13, (.mem (.ar 1 (([] : List Int).map eI64)))) :: [])) (by simp only [a2, a5, a12, a14, a15, u2, u5, u12, u14, cond_true, cond_false]) (Sub.cons 1 rfl (Sub.cons 1 rfl (Sub.cons 0 rfl (Sub.refl _))))⟩
      | false =>
        refine AO.heq (H' := ((n3, (.mem (e30 p0))) :: [])) (by first | rfl | simp only [hi, m5, m12, b14, m15, cond_true, cond_false]) ?_
        refine AO.wK [] ?_
        refine AO.lit (Z := (eI64 (0 : Int))) (xs := (([] : List Int).map eI64)) (qs := []) rfl 38 rfl (by decide) rfl trivial Try.underlying25 sz3 zr3 lay3 rfl (by decide) (litOK (z := 1) [] rfl trivial) rfl fun n13 => ?_
        have a2 : addL L 2 2 = true := rfl
        have a5 : addL L 2 5 = false := m5
        have a12 : addL L 2 12 = false := m12
        have a14 : addL L 2 14 = false := b14
        have a15 : addL L 2 15 = false := m15
        have u2 : upd σ 2 n13 2 = n13 := rfl
        have u5 : upd σ 2 n13 5 = σ 5 := rfl
        have u12 : upd σ 2 n13 12 = σ 12 := rfl
        have u14 : upd σ 2 n13 14 = σ 14 := rfl
        exact AO.nE (d := 38) rfl ⟨(upd σ 2 n13), (fun j hj => match j, hj with | 0, _ => rfl | 1, _ => rfl | 2, hj => Bool.noConfusion (hj.symm.trans hi) | 3, _ => rfl | 4, _ => rfl | 5, _ => rfl | 6, _ => rfl | 7, _ => rfl | 8, _ => rfl | 9, _ => rfl | 10, _ => rfl | 11, _ => rfl | 12, _ => rfl | 13, _ => rfl | 14, _ => rfl | 15, _ => rfl | _ + 16, _ => rfl), (fun d' hd' => ⟨_, rfl, by cases hd'; rfl⟩), Sub.of_eq (B := ((n3, (.mem (e30 p0))) :: (n13, (.mem (.ar 1 (([] : List Int).map eI64)))) :: [])) (by simp only [a2, a5, a12, a14, a15, u2, u5, u12, u14, cond_true, cond_false]) (Sub.cons 1 rfl (Sub.cons 0 rfl (Sub.refl _)))⟩
     ·refine StepE.calm (fun _ _ => rfl) fun L σ hc hi hd => ?_
      refine AO.wK [2] ?_
      refine AO.c (x := .ptr n3 257) (Calm.fldPtr rfl rfl Try.underlying30 rfl sz25 _ rfl) ?_
      exact AO.nE (d := 39) rfl ⟨⟨39, _, rfl, rfl, rfl⟩, Sub.refl _⟩
     ·refine StepE.calm (fun _ _ => rfl) fun L σ hc hi hd => ?_
      refine AO.wK [39] ?_
      refine AO.c (Calm.load 0 rfl rfl rfl (At.cast (At.fldS (At.fldS (At.fld0 At.here))) rfl) ag25 sz25) ?_
      exact AO.nE (d := 40) rfl ⟨⟨40, _, rfl, rfl, rfl⟩, Sub.refl _⟩
     ·intro L σ hc hi hd
      have y2 : L 2 = true := on_get hd (i := 2) (by rfl)
      have m12 : L 12 = false := hc.neg (i := 5) (j := 12) rfl (by rfl) hi
      have m15 : L 15 = false := hc.neg (i := 5) (j := 15) rfl (by rfl) hi
      cases b14 : L 14 with
      | true =>
        refine AO.heq (H' := ((n3, (.mem (e30 p0))) :: ((σ 14), (.mem (.st [(256, (.ar 1 ((Vector.replicate 256 (0 : Int)).toList.map eU8))), (1, (.fl (.slice none 0 0))), (1, (.fl (.slice none 0 0)))]))) :: ((σ 2), (.mem (.ar 1 (([] : List Int).map eI64)))) :: [])) (by first | rfl | simp only [hi, y2, m12, b14, m15, cond_true, cond_false]) ?_
        refine AO.wK [38, 40] ?_
        refine AO.appendL (l := ([] : List Int)) (m := p0.f2) 2 41 rfl (by decide) rfl rfl rfl rfl rfl Src.fz Try.underlying25 Try.underlying25 sz3 by3 zr3 rfl hg15 (by decide) fun n14 => ?_
        have a2 : addL L 5 2 = true := y2
        have a5 : addL L 5 5 = true := rfl
        have a12 : addL L 5 12 = false := m12
        have a14 : addL L 5 14 = true := b14
        have a15 : addL L 5 15 = false := m15
        have u2 : upd σ 5 n14 2 = σ 2 := rfl
        have u5 : upd σ 5 n14 5 = n14 := rfl
        have u12 : upd σ 5 n14 12 = σ 12 := rfl
        have u14 : upd σ 5 n14 14 = σ 14 := rfl
        exact AO.nE (d := 41) rfl ⟨(upd σ 5 n14), (fun j hj => match j, hj with | 0, _ => rfl | 1, _ => rfl | 2, _ => rfl | 3, _ => rfl | 4, _ => rfl | 5, hj => Bool.noConfusion (hj.symm.trans hi) | 6, _ => rfl | 7, _ => rfl | 8, _ => rfl | 9, _ => rfl | 10, _ => rfl | 11, _ => rfl | 12, _ => rfl | 13, _ => rfl | 14, _ => rfl | 15, _ => rfl | _ + 16, _ => rfl), (fun d' hd' => ⟨_, rfl, by cases hd'; rfl⟩), Sub.of_eq (B := ((n3, (.mem (e30 p0))) :: ((σ 14), (.mem (.st [(256, (.ar 1 ((Vector.replicate 256 (0 : Int)).toList.map eU8))), (1, (.fl (.slice none 0 0))), (1, (.fl (.slice none 0 0)))]))) :: (n14, (.mem (.ar 1 ((([] : List Int) ++ p0.f2).map eI64)))) :: [])) (by simp only [a2, a5, a12, a14, a15, u2, u5, u12, u14, cond_true, cond_false]) (Sub.refl _)⟩
      | false =>
        refine AO.heq (H' := ((n3, (.mem (e30 p0))) :: ((σ 2), (.mem (.ar 1 (([] : List Int).map eI64)))) :: [])) (by first | rfl | simp only [hi, y2, m12, b14, m15, cond_true, cond_false]) ?_
        refine AO.wK [38, 40] ?_
        refine AO.appendL (l := ([] : List Int)) (m := p0.f2) 1 41 rfl (by decide) rfl rfl rfl rfl rfl Src.fz Try.underlying25 Try.underlying25 sz3 by3 zr3 rfl hg15 (by decide) fun n14 => ?_
        have a2 : addL L 5 2 = true := y2
        have a5 : addL L 5 5 = true := rfl
        have a12 : addL L 5 12 = false := m12
        have a14 : addL L 5 14 = false := b14
        have a15 : addL L 5 15 = false := m15
        have u2 : upd σ 5 n14 2 = σ 2 := rfl
        have u5 : upd σ 5 n14 5 = n14 := rfl
        have u12 : upd σ 5 n14 12 = σ 12 := rfl
        have u14 : upd σ 5 n14 14 = σ 14 := rfl
        exact AO.nE (d := 41) rfl ⟨(upd σ 5 n14), (fun j hj => match j, hj with | 0, _ => rfl | 1, _ => rfl | 2, _ => rfl | 3, _ => rfl | 4, _ => rfl | 5, hj => Bool.noConfusion (hj.symm.trans hi) | 6, _ => rfl | 7, _ => rfl | 8, _ => rfl | 9, _ => rfl | 10, _ => rfl | 11, _ => rfl | 12, _ => rfl | 13, _ => rfl | 14, _ => rfl | 15, _ => rfl | _ + 16, _ => rfl), (fun d' hd' => ⟨_, rfl, by cases hd'; rfl⟩), Sub.of_eq (B := ((n3, (.mem (e30 p0))) :: (n14, (.mem (.ar 1 ((([] : List Int) ++ p0.f2).map eI64)))) :: [])) (by simp only [a2, a5, a12, a14, a15, u2, u5, u12, u14, cond_true, cond_false]) (Sub.refl _)⟩
     ·refine StepE.calm (fun _ _ => rfl) fun L σ hc hi hd => ?_
      refine AO.wK [2] ?_
      refine AO.c (x := .ptr n3 257) (Calm.fldPtr rfl rfl Try.underlying30 rfl sz25 _ rfl) ?_
      exact AO.nE (d := 42) rfl ⟨⟨42, _, rfl, rfl, rfl⟩, Sub.refl _⟩
     ·refine StepE.calm (fun _ _ => rfl) fun L σ hc hi hd => ?_
      refine AO.wK [42] ?_
      refine AO.c (Calm.load 0 rfl rfl rfl (At.cast (At.fldS (At.fldS (At.fld0 At.here))) rfl) ag25 sz25) ?_
      exact AO.nE (d := 43) rfl ⟨⟨43, _, rfl, rfl, rfl⟩, Sub.refl _⟩
     ·refine StepE.calm (fun _ _ => rfl) fun L σ hc hi hd => ?_
      refine AO.wK [6] ?_
      refine AO.c (Calm.move rfl rfl) ?_
      exact AO.nE (d := 44) rfl ⟨⟨44, _, rfl, rfl, rfl⟩, Sub.refl _⟩
     ·refine StepE.calm (fun _ _ => rfl) fun L σ hc hi hd => ?_
      refine AO.wK [43, 44] ?_
      refine AO.c (Calm.idxL (f := eI64) rfl rfl rfl hg16 Try.underlying25 sz3) ?_
      exact AO.nE (d := 45) rfl ⟨⟨45, _, rfl, rfl, rfl⟩, Sub.refl _⟩
     ·refine StepE.calm (fun _ _ => rfl) fun L σ hc hi hd => ?_
      refine AO.wK [45] ?_
      refine AO.c (Calm.loadRp rfl rfl ag3 sz3) ?_
      exact AO.nE (d := 46) rfl ⟨⟨46, _, rfl, rfl, rfl⟩, Sub.refl _⟩
     ·refine StepE.calm (fun _ _ => rfl) fun L σ hc hi hd => ?_
      refine AO.wK [46] ?_
      refine AO.lit (Z := (eI64 (0 : Int))) (xs := (([(lget p0.f2 ((w64 p1).tmod (p0.f1.length : Int)))] : List Int).map eI64)) (qs := [(0, (eI64 (lget p0.f2 ((w64 p1).tmod (p0.f1.length : Int)))))]) rfl 47 rfl (by decide) rfl ⟨rfl, rfl, rfl, trivial⟩ Try.underlying25 sz3 zr3 lay3 rfl (by decide) (litOK (z := 1) [(eI64 (lget p0.f2 ((w64 p1).tmod (p0.f1.length : Int))))] rfl ⟨⟨rfl, rfl⟩, trivial⟩) rfl fun n17 => ?_
      refine AO.freezeS 0 [(47, (.fz 1 (([(lget p0.f2 ((w64 p1).tmod (p0.f1.length : Int)))] : List Int).map eI64)))] rfl ⟨fz_all rfl, trivial⟩ ?_
      exact AO.nE (d := 47) rfl ⟨⟨47, _, rfl, rfl, rfl⟩, Sub.refl _⟩
     ·intro L σ hc hi hd
      have y5 : L 5 = true := on_get hd (i := 5) (by rfl)
      have y2 : L 2 = true := hc.pos (i := 2) (j := 5) rfl (by rfl) y5
      have y5 : L 5 = true := on_get hd (i := 5) (by rfl)
      have m15 : L 15 = false := hc.neg (i := 12) (j := 15) rfl (by rfl) hi
      cases b14 : L 14 with
      | true =>
        refine AO.heq (H' := ((n3, (.mem (e30 p0))) :: ((σ 14), (.mem (.st [(256, (.ar 1 ((Vector.replicate 256 (0 : Int)).toList.map eU8))), (1, (.fl (.slice none 0 0))), (1, (.fl (.slice none 0 0)))]))) :: ((σ 5), (.mem (.ar 1 ((([] : List Int) ++ p0.f2).map eI64)))) :: [])) (by first | rfl | simp only [hi, y2, y5, b14, m15, cond_true, cond_false]) ?_
        refine AO.wK [41, 47] ?_
        refine AO.appendL (l := (([] : List Int) ++ p0.f2)) (m := ([(lget p0.f2 ((w64 p1).tmod (p0.f1.length : Int)))] : List Int)) 2 48 rfl (by decide) rfl rfl rfl rfl rfl Src.fz Try.underlying25 Try.underlying25 sz3 by3 zr3 rfl hg19 (by decide) fun n18 => ?_
        have a2 : addL L 12 2 = true := y2
        have a5 : addL L 12 5 = true := y5
        have a12 : addL L 12 12 = true := rfl
        have a14 : addL L 12 14 = true := b14
        have a15 : addL L 12 15 = false := m15
        have u2 : upd σ 12 n18 2 = σ 2 := rfl
        have u5 : upd σ 12 n18 5 = σ 5 := rfl
        have u12 : upd σ 12 n18 12 = n18 := rfl
        have u14 : upd σ 12 n18 14 = σ 14 := rfl
        have m13 : L 13 = false := hc.neg (i := 12) (j := 13) rfl (by rfl) hi
        exact AO.nE (d := 48) rfl ⟨(upd σ 12 n18), (fun j hj => match j, hj with | 0, _ => rfl | 1, _ => rfl | 2, _ => rfl | 3, _ => rfl | 4, _ => rfl | 5, _ => rfl | 6, _ => rfl | 7, _ => rfl | 8, _ => rfl | 9, _ => rfl | 10, _ => rfl | 11, _ => rfl | 12, hj => Bool.noConfusion (hj.symm.trans hi) | 13, hj => Bool.noConfusion (hj.symm.trans m13) | 14, _ => rfl | 15, _ => rfl | _ + 16, _ => rfl), (fun d' hd' => ⟨_, rfl, by cases hd'; rfl⟩), Sub.of_eq (B := ((n3, (.mem (e30 p0))) :: ((σ 14), (.mem (.st [(256, (.ar 1 ((Vector.replicate 256 (0 : Int)).toList.map eU8))), (1, (.fl (.slice none 0 0))), (1, (.fl (.slice none 0 0)))]))) :: (n18, (.mem (.ar 1 (((([] : List Int) ++ p0.f2) ++ ([(lget p0.f2 ((w64 p1).tmod (p0.f1.length : Int)))] : List Int)).map eI64)))) :: [])) (by simp only [a2, a5, a12, a14, a15, u2, u5, u12, u14, cond_true, cond_false]) (Sub.refl _)⟩
      | false =>
        refine AO.heq (H' := ((n3, (.mem (e30 p0))) :: ((σ 5), (.mem (.ar 1 ((([] : List Int) ++ p0.f2).map eI64)))) :: [])) (by first | rfl | simp only [hi, y2, y5, b14, m15, cond_true, cond_false]) ?_
        refine AO.wK [41, 47] ?_
        refine AO.appendL (l := (([] : List Int) ++ p0.f2)) (m := ([(lget p0.f2 ((w64 p1).tmod (p0.f1.length : Int)))] : List Int)) 1 48 rfl (by decide) rfl rfl rfl rfl rfl Src.fz Try.underlying25 Try.underlying25 sz3 by3 zr3 rfl hg19 (by decide) fun n18 => ?_
        have a2 : addL L 12 2 = true := y2
        have a5 : addL L 12 5 = true := y5
        have a12 : addL L 12 12 = true := rfl
        have a14 : addL L 12 14 = false := b14
        have a15 : addL L 12 15 = false := m15
        have u2 : upd σ 12 n18 2 = σ 2 := rfl
        have u5 : upd σ 12 n18 5 = σ 5 := rfl
        have u12 : upd σ 12 n18 12 = n18 := rfl
        have u14 : upd σ 12 n18 14 = σ 14 := rfl
        have m13 : L 13 = false := hc.neg (i := 12) (j := 13) rfl (by rfl) hi
        exact AO.nE (d := 48) rfl ⟨(upd σ 12 n18), (fun j hj => match j, hj with | 0, _ => rfl | 1, _ => rfl | 2, _ => rfl | 3, _ => rfl | 4, _ => rfl | 5, _ => rfl | 6, _ => rfl | 7, _ => rfl | 8, _ => rfl | 9, _ => rfl | 10, _ => rfl | 11, _ => rfl | 12, hj => Bool.noConfusion (hj.symm.trans hi) | 13, hj => Bool.noConfusion (hj.symm.trans m13) | 14, _ => rfl | 15, _ => rfl | _ + 16, _ => rfl), (fun d' hd' => ⟨_, rfl, by cases hd'; rfl⟩), Sub.of_eq (B := ((n3, (.mem (e30 p0))) :: (n18, (.mem (.ar 1 (((([] : List Int) ++ p0.f2) ++ ([(lget p0.f2 ((w64 p1).tmod (p0.f1.length : Int)))] : List Int)).map eI64)))) :: [])) (by simp only [a2, a5, a12, a14, a15, u2, u5, u12, u14, cond_true, cond_false]) (Sub.refl _)⟩
     ·refine StepE.calm (fun _ _ => rfl) fun L σ hc hi hd => ?_
      have y12 : L 12 = true := on_get hd (i := 12) (by rfl)
      have y5 : L 5 = true := hc.pos (i := 5) (j := 12) rfl (by rfl) y12
      have y2 : L 2 = true := hc.pos (i := 2) (j := 5) rfl (by rfl) y5
      have y12 : L 12 = true := on_get hd (i := 12) (by rfl)
      have y5 : L 5 = true := hc.pos (i := 5) (j := 12) rfl (by rfl) y12
      have y12 : L 12 = true := on_get hd (i := 12) (by rfl)
      have m15 : L 15 = false := hc.neg (i := 13) (j := 15) rfl (by rfl) hi
      cases b14 : L 14 with
      | true =>
        refine AO.heq (H' := ((n3, (.mem (e30 p0))) :: ((σ 14), (.mem (.st [(256, (.ar 1 ((Vector.replicate 256 (0 : Int)).toList.map eU8))), (1, (.fl (.slice none 0 0))), (1, (.fl (.slice none 0 0)))]))) :: ((σ 12), (.mem (.ar 1 (((([] : List Int) ++ p0.f2) ++ ([(lget p0.f2 ((w64 p1).tmod (p0.f1.length : Int)))] : List Int)).map eI64)))) :: [])) (by first | rfl | simp only [y2, y5, y12, b14, m15, cond_true, cond_false]) ?_
        refine AO.wK [37, 48] ?_
        refine AO.c (x := .st [(256, (.ar 1 (p0.f0.toList.map eU8))), (1, (.fl (.slice none 0 0))), (1, (.own (σ 12) 0 ((([] : List Int) ++ p0.f2) ++ ([(lget p0.f2 ((w64 p1).tmod (p0.f1.length : Int)))] : List Int)).length))]) (Calm.build (qs := [(0, (.ar 1 (p0.f0.toList.map eU8))), (2, (.own (σ 12) 0 ((([] : List Int) ++ p0.f2) ++ ([(lget p0.f2 ((w64 p1).tmod (p0.f1.length : Int)))] : List Int)).length))]) rfl ⟨rfl, rfl, rfl, rfl, rfl, rfl, trivial⟩ Try.underlying30 rfl zr30 lay30 (.cons rfl rfl (vec_size _ _) (vec_size _ _) (Put.cast (Put.fld0 Put.here) rfl) (.cons rfl rfl rfl rfl (Put.cast (Put.fldS (Put.fldS (Put.fld0 Put.here))) rfl) .nil)) rfl) ?_
        exact AO.nE (d := 49) rfl ⟨⟨49, _, rfl, rfl, rfl⟩, Sub.of_eq (by first | rfl | simp only [y2, y5, y12, b14, m15, cond_true, cond_false]) (Sub.refl _)⟩
      | false =>
        refine AO.heq (H' := ((n3, (.mem (e30 p0))) :: ((σ 12), (.mem (.ar 1 (((([] : List Int) ++ p0.f2) ++ ([(lget p0.f2 ((w64 p1).tmod (p0.f1.length : Int)))] : List Int)).map eI64)))) :: [])) (by first | rfl | simp only [y2, y5, y12, b14, m15, cond_true, cond_false]) ?_
        refine AO.wK [37, 48] ?_
        refine AO.c (x := .st [(256, (.ar 1 (p0.f0.toList.map eU8))), (1, (.fl (.slice none 0 0))), (1, (.own (σ 12) 0 ((([] : List Int) ++ p0.f2) ++ ([(lget p0.f2 ((w64 p1).tmod (p0.f1.length : Int)))] : List Int)).length))]) (Calm.build (qs := [(0, (.ar 1 (p0.f0.toList.map eU8))), (2, (.own (σ 12) 0 ((([] : List Int) ++ p0.f2) ++ ([(lget p0.f2 ((w64 p1).tmod (p0.f1.length : Int)))] : List Int)).length))]) rfl ⟨rfl, rfl, rfl, rfl, rfl, rfl, trivial⟩ Try.underlying30 rfl zr30 lay30 (.cons rfl rfl (vec_size _ _) (vec_size _ _) (Put.cast (Put.fld0 Put.here) rfl) (.cons rfl rfl rfl rfl (Put.cast (Put.fldS (Put.fldS (Put.fld0 Put.here))) rfl) .nil)) rfl) ?_
        exact AO.nE (d := 49) rfl ⟨⟨49, _, rfl, rfl, rfl⟩, Sub.of_eq (by first | rfl | simp only [y2, y5, y12, b14, m15, cond_true, cond_false]) (Sub.refl _)⟩
     ·intro L σ hc hi hd
      have m15 : L 15 = false := hc.neg (i := 14) (j := 15) rfl (by rfl) hi
      cases b2 : L 2 with
      | true =>
        cases b5 : L 5 with
        | true =>
          cases b12 : L 12 with
          | true =>
            refine AO.heq (H' := ((n3, (.mem (e30 p0))) :: ((σ 12), (.mem (.ar 1 (((([] : List Int) ++ p0.f2) ++ ([(lget p0.f2 ((w64 p1).tmod (p0.f1.length : Int)))] : List Int)).map eI64)))) :: [])) (by first | rfl | simp only [hi, b2, b5, b12, m15, cond_true, cond_false]) ?_
            refine AO.wK [] ?_
            refine AO.alloc rfl 7 rfl (by decide) rfl zr30 lay30 fun n20 => ?_
            have a2 : addL L 14 2 = true := b2
            have a5 : addL L 14 5 = true := b5
            have a12 : addL L 14 12 = true := b12
            have a14 : addL L 14 14 = true := rfl
            have a15 : addL L 14 15 = false := m15
            have u2 : upd σ 14 n20 2 = σ 2 := rfl
            have u5 : upd σ 14 n20 5 = σ 5 := rfl
            have u12 : upd σ 14 n20 12 = σ 12 := rfl
            have u14 : upd σ 14 n20 14 = n20 := rfl
            exact AO.nE (d := 7) rfl ⟨(upd σ 14 n20), (fun j hj => match j, hj with | 0, _ => rfl | 1, _ => rfl | 2, _ => rfl | 3, _ => rfl | 4, _ => rfl | 5, _ => rfl | 6, _ => rfl | 7, _ => rfl | 8, _ => rfl | 9, _ => rfl | 10, _ => rfl | 11, _ => rfl | 12, _ => rfl | 13, _ => rfl | 14, hj => Bool.noConfusion (hj.symm.trans hi) | 15, _ => rfl | _ + 16, _ => rfl), (fun d' hd' => ⟨_, rfl, by cases hd'; rfl⟩), Sub.of_eq (B := ((n3, (.mem (e30 p0))) :: (n20, (.mem (.st [(256, (.ar 1 ((Vector.replicate 256 (0 : Int)).toList.map eU8))), (1, (.fl (.slice none 0 0))), (1, (.fl (.slice none 0 0)))]))) :: ((σ 12), (.mem (.ar 1 (((([] : List Int) ++ p0.f2) ++ ([(lget p0.f2 ((w64 p1).tmod (p0.f1.length : Int)))] : List Int)).map eI64)))) :: [])) (by simp only [a2, a5, a12, a14, a15, u2, u5, u12, u14, cond_true, cond_false]) (Sub.cons 1 rfl (Sub.cons 0 rfl (Sub.cons 0 rfl (Sub.refl _))))⟩
          | false =>
            refine AO.heq (H' := ((n3, (.mem (e30 p0))) :: ((σ 5), (.mem (.ar 1 ((([] : List Int) ++ p0.f2).map eI64)))) :: [])) (by first | rfl | simp only [hi, b2, b5, b12, m15, cond_true, cond_false]) ?_
            refine AO.wK [] ?_
            refine AO.alloc rfl 7 rfl (by decide) rfl zr30 lay30 fun n20 => ?_
            have a2 : addL L 14 2 = true := b2
            have a5 : addL L 14 5 = true := b5
            have a12 : addL L 14 12 = false := b12
            have a14 : addL L 14 14 = true := rfl
            have a15 : addL L 14 15 = false := m15
            have u2 : upd σ 14 n20 2 = σ 2 := rfl
            have u5 : upd σ 14 n20 5 = σ 5 := rfl
            have u12 : upd σ 14 n20 12 = σ 12 := rfl
            have u14 : upd σ 14 n20 14 = n20 := rfl
            exact AO.nE (d := 7) rfl ⟨(upd σ 14 n20), (fun j hj => match j, hj with | 0, _ => rfl | 1, _ => rfl | 2, _ => rfl | 3, _ => rfl | 4, _ => rfl | 5, _ => rfl | 6, _ => rfl | 7, _ => rfl | 8, _ => rfl | 9, _ => rfl | 10, _ => rfl | 11, _ => rfl | 12, _ => rfl | 13, _ => rfl | 14, hj => Bool.noConfusion (hj.symm.trans hi) | 15, _ => rfl | _ + 16, _ => rfl), (fun d' hd' => ⟨_, rfl, by cases hd'; rfl⟩), Sub.of_eq (B := ((n3, (.mem (e30 p0))) :: (n20, (.mem (.st [(256, (.ar 1 ((Vector.replicate 256 (0 : Int)).toList.map eU8))), (1, (.fl (.slice none 0 0))), (1, (.fl (.slice none 0 0)))]))) :: ((σ 5), (.mem (.ar 1 ((([] : List Int) ++ p0.f2).map eI64)))) :: [])) (by simp only [a2, a5, a12, a14, a15, u2, u5, u12, u14, cond_true, cond_false]) (Sub.cons 1 rfl (Sub.cons 0 rfl (Sub.cons 0 rfl (Sub.refl _))))⟩
        | false =>
          have m12 : L 12 = false := hc.neg (i := 5) (j := 12) rfl (by rfl) b5
          refine AO.heq (H' := ((n3, (.mem (e30 p0))) :: ((σ 2), (.mem (.ar 1 (([] : List Int).map eI64)))) :: [])) (by first | rfl | simp only [hi, b2, b5, m12, m15, cond_true, cond_false]) ?_
          refine AO.wK [] ?_
          refine AO.alloc rfl 7 rfl (by decide) rfl zr30 lay30 fun n20 => ?_
          have a2 : addL L 14 2 = true := b2
          have a5 : addL L 14 5 = false := b5
          have a12 : addL L 14 12 = false := m12
          have a14 : addL L 14 14 = true := rfl
          have a15 : addL L 14 15 = false := m15
          have u2 : upd σ 14 n20 2 = σ 2 := rfl
          have u5 : upd σ 14 n20 5 = σ 5 := rfl
          have u12 : upd σ 14 n20 12 = σ 12 := rfl
          have u14 : upd σ 14 n20 14 = n20 := rfl
          exact AO.nE (d := 7) rfl ⟨(upd σ 14 n20), (fun j hj => match j, hj with | 0, _ => rfl | 1, _ => rfl | 2, _ => rfl | 3, _ => rfl | 4, _ => rfl | 5, _ => rfl | 6, _ => rfl | 7, _ => rfl | 8, _ => rfl | 9, _ => rfl | 10, _ => rfl | 11, _ => rfl | 12, _ => rfl | 13, _ => rfl | 14, hj => Bool.noConfusion (hj.symm.trans hi) | 15, _ => rfl | _ + 16, _ => rfl), (fun d' hd' => ⟨_, rfl, by cases hd'; rfl⟩), Sub.of_eq (B := ((n3, (.mem (e30 p0))) :: (n20, (.mem (.st [(256, (.ar 1 ((Vector.replicate 256 (0 : Int)).toList.map eU8))), (1, (.fl (.slice none 0 0))), (1, (.fl (.slice none 0 0)))]))) :: ((σ 2), (.mem (.ar 1 (([] : List Int).map eI64)))) :: [])) (by simp only [a2, a5, a12, a14, a15, u2, u5, u12, u14, cond_true, cond_false]) (Sub.cons 1 rfl (Sub.cons 0 rfl (Sub.cons 0 rfl (Sub.refl _))))⟩
      | false =>
        have m5 : L 5 = false := hc.neg (i := 2) (j := 5) rfl (by rfl) b2
        have m5 : L 5 = false := hc.neg (i := 2) (j := 5) rfl (by rfl) b2
        have m12 : L 12 = false := hc.neg (i := 5) (j := 12) rfl (by rfl) m5
        refine AO.heq (H' := ((n3, (.mem (e30 p0))) :: [])) (by first | rfl | simp only [hi, b2, m5, m12, m15, cond_true, cond_false]) ?_
        refine AO.wK [] ?_
        refine AO.alloc rfl 7 rfl (by decide) rfl zr30 lay30 fun n20 => ?_
        have a2 : addL L 14 2 = false := b2
        have a5 : addL L 14 5 = false := m5
        have a12 : addL L 14 12 = false := m12
        have a14 : addL L 14 14 = true := rfl
        have a15 : addL L 14 15 = false := m15
        have u2 : upd σ 14 n20 2 = σ 2 := rfl
        have u5 : upd σ 14 n20 5 = σ 5 := rfl
        have u12 : upd σ 14 n20 12 = σ 12 := rfl
        have u14 : upd σ 14 n20 14 = n20 := rfl
        exact AO.nE (d := 7) rfl ⟨(upd σ 14 n20), (fun j hj => match j, hj with | 0, _ => rfl | 1, _ => rfl | 2, _ => rfl | 3, _ => rfl | 4, _ => rfl | 5, _ => rfl | 6, _ => rfl | 7, _ => rfl | 8, _ => rfl | 9, _ => rfl | 10, _ => rfl | 11, _ => rfl | 12, _ => rfl | 13, _ => rfl | 14, hj => Bool.noConfusion (hj.symm.trans hi) | 15, _ => rfl | _ + 16, _ => rfl), (fun d' hd' => ⟨_, rfl, by cases hd'; rfl⟩), Sub.of_eq (B := ((n3, (.mem (e30 p0))) :: (n20, (.mem (.st [(256, (.ar 1 ((Vector.replicate 256 (0 : Int)).toList.map eU8))), (1, (.fl (.slice none 0 0))), (1, (.fl (.slice none 0 0)))]))) :: [])) (by simp only [a2, a5, a12, a14, a15, u2, u5, u12, u14, cond_true, cond_false]) (Sub.cons 1 rfl (Sub.cons 0 rfl (Sub.refl _)))⟩
     ·intro L σ hc hi hd
      have y2 : L 2 = true := on_get hd (i := 2) (by rfl)
      have y5 : L 5 = true := on_get hd (i := 5) (by rfl)
      have y12 : L 12 = true := on_get hd (i := 12) (by rfl)
      have y14 : L 14 = true := on_get hd (i := 14) (by rfl)
      refine AO.heq (H' := ((n3, (.mem (e30 p0))) :: ((σ 14), (.mem (.st [(256, (.ar 1 ((Vector.replicate 256 (0 : Int)).toList.map eU8))), (1, (.fl (.slice none 0 0))), (1, (.fl (.slice none 0 0)))]))) :: ((σ 12), (.mem (.ar 1 (((([] : List Int) ++ p0.f2) ++ ([(lget p0.f2 ((w64 p1).tmod (p0.f1.length : Int)))] : List Int)).map eI64)))) :: [])) (by first | rfl | simp only [hi, y2, y5, y12, y14, cond_true, cond_false]) ?_
      refine AO.wK [7, 49] ?_
      refine AO.store (X' := (.st [(256, (.ar 1 (p0.f0.toList.map eU8))), (1, (.fl (.slice none 0 0))), (1, (.own (σ 12) 0 ((([] : List Int) ++ p0.f2) ++ ([(lget p0.f2 ((w64 p1).tmod (p0.f1.length : Int)))] : List Int)).length))])) 1 rfl rfl rfl rfl rfl rfl (Put.cast Put.here rfl) rfl rfl sz30 rfl ?_
      have a2 : addL L 15 2 = true := y2
      have a5 : addL L 15 5 = true := y5
      have a12 : addL L 15 12 = true := y12
      have a14 : addL L 15 14 = true := y14
      have a15 : addL L 15 15 = true := rfl
      exact AO.n0 ⟨σ, (fun _ _ => rfl), (fun d' hd' => by cases hd'), Sub.of_eq (B := ((n3, (.mem (e30 p0))) :: ((σ 14), (.mem (.st [(256, (.ar 1 (p0.f0.toList.map eU8))), (1, (.fl (.slice none 0 0))), (1, (.own (σ 12) 0 ((([] : List Int) ++ p0.f2) ++ ([(lget p0.f2 ((w64 p1).tmod (p0.f1.length : Int)))] : List Int)).length))]))) :: ((σ 12), (.mem (.ar 1 (((([] : List Int) ++ p0.f2) ++ ([(lget p0.f2 ((w64 p1).tmod (p0.f1.length : Int)))] : List Int)).map eI64)))) :: [])) (by simp only [a2, a5, a12, a14, a15, cond_true, cond_false]) (Sub.refl _)⟩
     ·generalize σ 2 = n13
      generalize σ 5 = n14
      generalize σ 12 = n18
      generalize σ 14 = n20
      refine AO.nK [2, 5, 6, 7] ?_
      refine AW.seq_mid (fun ρ H => ∃ (n21 : Nat) (x22 : (List (List Int))), ρ = [(2, (.ptr n3 0)), (7, (.ptr n20 0))] ∧ H = [(n3, (.mem (e30 p0))), (n20, (.mem (.st [(256, (.ar 1 (p0.f0.toList.map eU8))), (1, (.own n21 0 x22.length)), (1, (.own n18 0 ((([] : List Int) ++ p0.f2) ++ ([(lget p0.f2 ((w64 p1).tmod (p0.f1.length : Int)))] : List Int)).length))]))), (n21, (.mem (.ar 1 (x22.map e25)))), (n18, (.mem (.ar 1 (((([] : List Int) ++ p0.f2) ++ ([(lget p0.f2 ((w64 p1).tmod (p0.f1.length : Int)))] : List Int)).map eI64))))] ∧ bosketlaw09_MiniOne_c0 k p0 p1 x22 = some r) ?_ ?_
      ·refine AW.sr ?_
       refine AO.c (Calm.assign rfl rfl) ?_
       refine AO.nK [2, 5, 6, 7, 8] ?_
       refine AW.block ?_
       refine AW.nilOwnFld 1 1 (fun n70 => (.st [(256, (.ar 1 (p0.f0.toList.map eU8))), (1, (.own n70 0 0)), (1, (.own n18 0 ((([] : List Int) ++ p0.f2) ++ ([(lget p0.f2 ((w64 p1).tmod (p0.f1.length : Int)))] : List Int)).length))])) rfl (fun _ => (Put.cast (Put.fldS (Put.fld0 Put.here)) rfl)) (fun _ => rfl) (fun _ => rfl) fun n70 => ?_
       refine AW.wH [2, 5, 6, 7, 8] (H' := [(n3, (.mem (e30 p0))), (n20, (.mem (.st [(256, (.ar 1 (p0.f0.toList.map eU8))), (1, (.own n70 0 ([] : List (List Int)).length)), (1, (.own n18 0 ((([] : List Int) ++ p0.f2) ++ ([(lget p0.f2 ((w64 p1).tmod (p0.f1.length : Int)))] : List Int)).length))]))), (n70, (.mem (.ar 1 (([] : List (List Int)).map e25)))), (n18, (.mem (.ar 1 (((([] : List Int) ++ p0.f2) ++ ([(lget p0.f2 ((w64 p1).tmod (p0.f1.length : Int)))] : List Int)).map eI64))))]) (Sub.cons 1 rfl (Sub.cons 1 rfl (Sub.cons 0 rfl (Sub.cons 0 rfl (Sub.nil _))))) ?_
       refine AW.loop (fun kq ρ H => ∃ (n37 : Nat) (x38 : (List (List Int))) (x39 : Int), ρ = [(2, (.ptr n3 0)), (5, (eI64 (p0.f1.length : Int))), (6, (eI64 ((w64 p1).tmod (p0.f1.length : Int)))), (7, (.ptr n20 0)), (8, (eI64 x39))] ∧ H = [(n3, (.mem (e30 p0))), (n20, (.mem (.st [(256, (.ar 1 (p0.f0.toList.map eU8))), (1, (.own n37 0 x38.length)), (1, (.own n18 0 ((([] : List Int) ++ p0.f2) ++ ([(lget p0.f2 ((w64 p1).tmod (p0.f1.length : Int)))] : List Int)).length))]))), (n37, (.mem (.ar 1 (x38.map e25)))), (n18, (.mem (.ar 1 (((([] : List Int) ++ p0.f2) ++ ([(lget p0.f2 ((w64 p1).tmod (p0.f1.length : Int)))] : List Int)).map eI64))))] ∧ bosketlaw09_MiniOne_l6 k p0 p1 kq x38 x39 = some r) k ⟨n70, ([] : List (List Int)), (0 : Int), rfl, rfl, h⟩ ?_
       rintro kq41 _ _ ⟨n37, x38, x39, rfl, rfl, h⟩
       cases kq41 with
       | zero => rw [bosketlaw09_MiniOne_l6.eq_1] at h; cases h
       | succ kq41 =>
       rw [bosketlaw09_MiniOne_l6.eq_2] at h
       generalize hrec40 : bosketlaw09_MiniOne_l6 k p0 p1 kq41 = rec40 at h
       refine AW.seq ?_
       refine AW.sr ?_
       refine AO.c (Calm.move rfl rfl) ?_
       refine AO.c (Calm.move rfl rfl) ?_
       refine AO.c (x := eBool (decide (x39 ≤ (p0.f1.length : Int)))) (Calm.int rfl rfl rfl rfl) ?_
       refine AO.nK [2, 5, 6, 7, 8, 52] ?_
       rcases of_ite h with ⟨hc42, h⟩ | ⟨hc42, h⟩
       ·refine AW.condP _ rfl hc42 ?_
        refine AW.sK [2, 5, 6, 7, 8] ?_
        refine AW.seq_mid (fun ρ H => ∃ (n43 : Nat) (x44 : (List (List Int))), ρ = [(2, (.ptr n3 0)), (5, (eI64 (p0.f1.length : Int))), (6, (eI64 ((w64 p1).tmod (p0.f1.length : Int)))), (7, (.ptr n20 0)), (8, (eI64 x39))] ∧ H = [(n3, (.mem (e30 p0))), (n20, (.mem (.st [(256, (.ar 1 (p0.f0.toList.map eU8))), (1, (.own n43 0 x44.length)), (1, (.own n18 0 ((([] : List Int) ++ p0.f2) ++ ([(lget p0.f2 ((w64 p1).tmod (p0.f1.length : Int)))] : List Int)).length))]))), (n43, (.mem (.ar 1 (x44.map e25)))), (n18, (.mem (.ar 1 (((([] : List Int) ++ p0.f2) ++ ([(lget p0.f2 ((w64 p1).tmod (p0.f1.length : Int)))] : List Int)).map eI64))))] ∧ bosketlaw09_MiniOne_c1 k rec40 x39 x44 = some r) ?_ ?_
        ·refine AW.block ?_
         refine AW.sr ?_
         refine AO.c (Calm.move rfl rfl) ?_
         refine AO.c (Calm.assign rfl rfl) ?_
         refine AO.nK [2, 5, 6, 7, 8, 9] ?_
         refine AW.seq_mid (fun ρ H => ∃ (x45 : Int), ρ = [(2, (.ptr n3 0)), (5, (eI64 (p0.f1.length : Int))), (6, (eI64 ((w64 p1).tmod (p0.f1.length : Int)))), (7, (.ptr n20 0)), (8, (eI64 x39)), (9, (eI64 x45))] ∧ H = [(n3, (.mem (e30 p0))), (n20, (.mem (.st [(256, (.ar 1 (p0.f0.toList.map eU8))), (1, (.own n37 0 x38.length)), (1, (.own n18 0 ((([] : List Int) ++ p0.f2) ++ ([(lget p0.f2 ((w64 p1).tmod (p0.f1.length : Int)))] : List Int)).length))]))), (n37, (.mem (.ar 1 (x38.map e25)))), (n18, (.mem (.ar 1 (((([] : List Int) ++ p0.f2) ++ ([(lget p0.f2 ((w64 p1).tmod (p0.f1.length : Int)))] : List Int)).map eI64))))] ∧ bosketlaw09_MiniOne_c5 k rec40 p0 p1 x38 x39 x45 = some r) ?_ ?_
         ·refine AW.sr ?_
          refine AO.c (Calm.move rfl rfl) ?_
          refine AO.c (Calm.move rfl rfl) ?_
          refine AO.c (x := eBool (decide (x39 = (p0.f1.length : Int)))) (Calm.int rfl rfl rfl rfl) ?_
          refine AO.nK [2, 5, 6, 7, 8, 9, 58] ?_
          rcases of_ite h with ⟨hc69, h⟩ | ⟨hc69, h⟩
          ·refine AW.condP _ rfl hc69 ?_
           refine AW.reg ?_
           refine AO.c (Calm.move rfl rfl) ?_
           refine AO.c (Calm.assign rfl rfl) ?_
           refine AO.nK [2, 5, 6, 7, 8, 9] ?_
           exact ⟨((w64 p1).tmod (p0.f1.length : Int)), rfl, rfl, h⟩
          ·refine AW.condN _ rfl hc69 ?_
           refine AW.sK [2, 5, 6, 7, 8, 9] ?_
           exact ⟨x39, rfl, rfl, h⟩
         ·rintro _ _ ⟨x45, rfl, rfl, h⟩
          rw [bosketlaw09_MiniOne_c5.eq_1] at h
          refine AW.sr ?_
          refine AO.c (Calm.assign rfl rfl) ?_
          refine AO.nK [2, 5, 6, 7, 8, 9, 10] ?_
          refine AW.seq_mid (fun ρ H => ∃ (n46 : Nat) (x47 : (List Int)), ρ = [(2, (.ptr n3 0)), (5, (eI64 (p0.f1.length : Int))), (6, (eI64 ((w64 p1).tmod (p0.f1.length : Int)))), (7, (.ptr n20 0)), (8, (eI64 x39)), (10, (.own n46 0 x47.length))] ∧ H = [(n3, (.mem (e30 p0))), (n20, (.mem (.st [(256, (.ar 1 (p0.f0.toList.map eU8))), (1, (.own n37 0 x38.length)), (1, (.own n18 0 ((([] : List Int) ++ p0.f2) ++ ([(lget p0.f2 ((w64 p1).tmod (p0.f1.length : Int)))] : List Int)).length))]))), (n37, (.mem (.ar 1 (x38.map e25)))), (n18, (.mem (.ar 1 (((([] : List Int) ++ p0.f2) ++ ([(lget p0.f2 ((w64 p1).tmod (p0.f1.length : Int)))] : List Int)).map eI64)))), (n46, (.mem (.ar 1 (x47.map eI64))))] ∧ bosketlaw09_MiniOne_c2 k rec40 x38 x39 x47 = some r) ?_ ?_
          ·refine AW.sr ?_
           refine AO.c (Calm.assign rfl rfl) ?_
           refine AO.nK [2, 5, 6, 7, 8, 9, 10, 11] ?_
           refine AW.block ?_
           refine AW.nilOwn 10 1 rfl fun n68 => ?_
           refine AW.wH [2, 5, 6, 7, 8, 9, 10, 11] (H' := [(n3, (.mem (e30 p0))), (n20, (.mem (.st [(256, (.ar 1 (p0.f0.toList.map eU8))), (1, (.own n37 0 x38.length)), (1, (.own n18 0 ((([] : List Int) ++ p0.f2) ++ ([(lget p0.f2 ((w64 p1).tmod (p0.f1.length : Int)))] : List Int)).length))]))), (n37, (.mem (.ar 1 (x38.map e25)))), (n18, (.mem (.ar 1 (((([] : List Int) ++ p0.f2) ++ ([(lget p0.f2 ((w64 p1).tmod (p0.f1.length : Int)))] : List Int)).map eI64)))), (n68, (.mem (.ar 1 (([] : List Int).map eI64))))]) (Sub.cons 1 rfl (Sub.cons 1 rfl (Sub.cons 1 rfl (Sub.cons 1 rfl (Sub.cons 0 rfl (Sub.nil _)))))) ?_
           refine AW.loop (fun kq ρ H => ∃ (n51 : Nat) (x52 : (List Int)) (x53 : Int), ρ = [(2, (.ptr n3 0)), (5, (eI64 (p0.f1.length : Int))), (6, (eI64 ((w64 p1).tmod (p0.f1.length : Int)))), (7, (.ptr n20 0)), (8, (eI64 x39)), (9, (eI64 x45)), (10, (.own n51 0 x52.length)), (11, (eI64 x53))] ∧ H = [(n3, (.mem (e30 p0))), (n20, (.mem (.st [(256, (.ar 1 (p0.f0.toList.map eU8))), (1, (.own n37 0 x38.length)), (1, (.own n18 0 ((([] : List Int) ++ p0.f2) ++ ([(lget p0.f2 ((w64 p1).tmod (p0.f1.length : Int)))] : List Int)).length))]))), (n37, (.mem (.ar 1 (x38.map e25)))), (n18, (.mem (.ar 1 (((([] : List Int) ++ p0.f2) ++ ([(lget p0.f2 ((w64 p1).tmod (p0.f1.length : Int)))] : List Int)).map eI64)))), (n51, (.mem (.ar 1 (x52.map eI64))))] ∧ bosketlaw09_MiniOne_l4 k rec40 p0 p1 x38 x39 x45 kq x52 x53 = some r) k ⟨n68, ([] : List Int), (0 : Int), rfl, rfl, h⟩ ?_
           rintro kq55 _ _ ⟨n51, x52, x53, rfl, rfl, h⟩
           cases kq55 with
           | zero => rw [bosketlaw09_MiniOne_l4.eq_1] at h; cases h
           | succ kq55 =>
           rw [bosketlaw09_MiniOne_l4.eq_2] at h
           generalize hrec54 : bosketlaw09_MiniOne_l4 k rec40 p0 p1 x38 x39 x45 kq55 = rec54 at h
           refine AW.seq ?_
           refine AW.sr ?_
           refine AO.c (Calm.move rfl rfl) ?_
           refine AO.c (x := .ptr n3 256) (Calm.fldPtr rfl rfl Try.underlying30 rfl sz28 _ rfl) ?_
           refine AO.c (Calm.load 0 rfl rfl rfl (At.cast (At.fldS (At.fld0 At.here)) rfl) ag28 sz28) ?_
           refine AO.c (Calm.move rfl rfl) ?_
           obtain ⟨hg56, h⟩ := of_guard h
           refine AO.c (Calm.idxL (f := e25) rfl rfl rfl hg56 Try.underlying28 sz25) ?_
           refine AO.c (Calm.loadRp rfl rfl ag25 sz25) ?_
           refine AO.c (Calm.lenL rfl rfl Try.underlying25) ?_
           refine AO.c (x := eBool (decide (x53 < ((lget p0.f1 x45).length : Int)))) (Calm.int rfl rfl rfl rfl) ?_
           refine AO.nK [2, 5, 6, 7, 8, 9, 10, 11, 67] ?_
           rcases of_ite h with ⟨hc57, h⟩ | ⟨hc57, h⟩
           ·refine AW.condP _ rfl hc57 ?_
            refine AW.sK [2, 5, 6, 7, 8, 9, 10, 11] ?_
            refine AW.seq ?_
            refine AW.block ?_
            refine AW.sr ?_
            refine AO.c (x := .ptr n3 256) (Calm.fldPtr rfl rfl Try.underlying30 rfl sz28 _ rfl) ?_
            refine AO.c (Calm.load 0 rfl rfl rfl (At.cast (At.fldS (At.fld0 At.here)) rfl) ag28 sz28) ?_
            refine AO.c (Calm.move rfl rfl) ?_
            obtain ⟨hg58, h⟩ := of_guard h
            refine AO.c (Calm.idxL (f := e25) rfl rfl rfl hg58 Try.underlying28 sz25) ?_
            refine AO.c (Calm.loadRp rfl rfl ag25 sz25) ?_
            refine AO.c (Calm.move rfl rfl) ?_
            obtain ⟨hg59, h⟩ := of_guard h
            refine AO.c (Calm.idxL (f := eI64) rfl rfl rfl hg59 Try.underlying25 sz3) ?_
            refine AO.c (Calm.loadRp rfl rfl ag3 sz3) ?_
            refine AO.c (Calm.assign rfl rfl) ?_
            refine AO.nK [2, 5, 6, 7, 8, 9, 10, 11, 12] ?_
            refine AW.seq_mid (fun ρ H => ∃ (x60 : Int), ρ = [(2, (.ptr n3 0)), (5, (eI64 (p0.f1.length : Int))), (6, (eI64 ((w64 p1).tmod (p0.f1.length : Int)))), (7, (.ptr n20 0)), (8, (eI64 x39)), (9, (eI64 x45)), (10, (.own n51 0 x52.length)), (11, (eI64 x53)), (12, (eI64 x60))] ∧ H = [(n3, (.mem (e30 p0))), (n20, (.mem (.st [(256, (.ar 1 (p0.f0.toList.map eU8))), (1, (.own n37 0 x38.length)), (1, (.own n18 0 ((([] : List Int) ++ p0.f2) ++ ([(lget p0.f2 ((w64 p1).tmod (p0.f1.length : Int)))] : List Int)).length))]))), (n37, (.mem (.ar 1 (x38.map e25)))), (n18, (.mem (.ar 1 (((([] : List Int) ++ p0.f2) ++ ([(lget p0.f2 ((w64 p1).tmod (p0.f1.length : Int)))] : List Int)).map eI64)))), (n51, (.mem (.ar 1 (x52.map eI64))))] ∧ bosketlaw09_MiniOne_c3 k rec54 x52 x53 x60 = some r) ?_ ?_
            ·refine AW.seq ?_
             obtain ⟨b64, hq65, h⟩ := of_bind h
             refine AW.regM [(2, (.ptr n3 0)), (5, (eI64 (p0.f1.length : Int))), (6, (eI64 ((w64 p1).tmod (p0.f1.length : Int)))), (7, (.ptr n20 0)), (8, (eI64 x39)), (9, (eI64 x45)), (10, (.own n51 0 x52.length)), (11, (eI64 x53)), (12, (eI64 (lget (lget p0.f1 x45) x53))), (87, (eBool b64))] [(n3, (.mem (e30 p0))), (n20, (.mem (.st [(256, (.ar 1 (p0.f0.toList.map eU8))), (1, (.own n37 0 x38.length)), (1, (.own n18 0 ((([] : List Int) ++ p0.f2) ++ ([(lget p0.f2 ((w64 p1).tmod (p0.f1.length : Int)))] : List Int)).length))]))), (n37, (.mem (.ar 1 (x38.map e25)))), (n18, (.mem (.ar 1 (((([] : List Int) ++ p0.f2) ++ ([(lget p0.f2 ((w64 p1).tmod (p0.f1.length : Int)))] : List Int)).map eI64)))), (n51, (.mem (.ar 1 (x52.map eI64))))] ?_ ?_
             ·refine AO.c (Calm.move rfl rfl) ?_
              refine AO.c (Calm.move rfl rfl) ?_
              refine AO.c (x := eBool (decide ((lget (lget p0.f1 x45) x53) = ((w64 p1).tmod (p0.f1.length : Int))))) (Calm.int rfl rfl rfl rfl) ?_
              refine AO.c (Calm.move rfl rfl) ?_
              rcases of_ite hq65 with ⟨hc66, hq65⟩ | ⟨hc66, hq65⟩
              ·refine AO.cG rfl rfl (bD (decide_eq_true hc66)) (Calm.move rfl rfl) ?_
               refine AO.cG rfl rfl (bD (decide_eq_true hc66)) (Calm.move rfl rfl) ?_
               refine AO.cG (x := eI64 (w64 (x39 + x53))) rfl rfl (bD (decide_eq_true hc66)) (Calm.int rfl rfl rfl rfl) ?_
               refine AO.cG (x := eI64 ((w64 (x39 + x53)).tmod (2 : Int))) rfl rfl (bD (decide_eq_true hc66)) (Calm.rem rfl rfl rfl (by decide)) ?_
               refine AO.cG (x := eBool (decide (((w64 (x39 + x53)).tmod (2 : Int)) = (0 : Int)))) rfl rfl (bD (decide_eq_true hc66)) (Calm.int rfl rfl rfl rfl) ?_
               refine AO.c (Calm.pickT rfl (bD (decide_eq_true hc66)) rfl) ?_
               cases hq65
               refine AO.nilE ⟨rfl, rfl⟩ ?_ ?_
               · exact ⟨rfl, rfl, rfl, rfl, rfl, rfl, rfl, rfl, rfl, rfl, trivial⟩
               · exact (Sub.refl _)
              ·refine AO.sT rfl rfl (bD (decide_eq_false hc66)) ?_
               refine AO.sT rfl rfl (bD (decide_eq_false hc66)) ?_
               refine AO.sT rfl rfl (bD (decide_eq_false hc66)) ?_
               refine AO.sT rfl rfl (bD (decide_eq_false hc66)) ?_
               refine AO.sT rfl rfl (bD (decide_eq_false hc66)) ?_
               refine AO.c (Calm.pickF rfl (bD (decide_eq_false hc66)) rfl) ?_
               cases hq65
               refine AO.nilE ⟨rfl, rfl⟩ ?_ ?_
               · exact ⟨rfl, rfl, rfl, rfl, rfl, rfl, rfl, rfl, rfl, rfl, trivial⟩
               · exact (Sub.refl _)
             ·rcases of_ite h with ⟨hc67, h⟩ | ⟨hc67, h⟩
              ·refine AW.condT' _ rfl hc67 ?_
               refine AW.reg ?_
               refine AO.c (Calm.move rfl rfl) ?_
               refine AO.c (Calm.assign rfl rfl) ?_
               refine AO.nK [2, 5, 6, 7, 8, 9, 10, 11, 12] ?_
               exact ⟨(p0.f1.length : Int), rfl, rfl, h⟩
              ·refine AW.condF' _ rfl hc67 ?_
               refine AW.sK [2, 5, 6, 7, 8, 9, 10, 11, 12] ?_
               exact ⟨(lget (lget p0.f1 x45) x53), rfl, rfl, h⟩
            ·rintro _ _ ⟨x60, rfl, rfl, h⟩
             rw [bosketlaw09_MiniOne_c3.eq_1] at h
             refine AW.reg ?_
             refine AO.c (Calm.move rfl rfl) ?_
             refine AO.c (Calm.move rfl rfl) ?_
             refine AO.lit (Z := (eI64 (0 : Int))) (xs := (([x60] : List Int).map eI64)) (qs := [(0, (eI64 x60))]) rfl 91 rfl (by decide) rfl ⟨rfl, rfl, rfl, trivial⟩ Try.underlying25 sz3 zr3 lay3 rfl (by decide) (litOK (z := 1) [(eI64 x60)] rfl ⟨⟨rfl, rfl⟩, trivial⟩) rfl fun n61 => ?_
             obtain ⟨hg63, h⟩ := of_guard h
             refine AO.appendL (l := x52) (m := ([x60] : List Int)) 5 92 rfl (by decide) rfl rfl rfl rfl rfl (Src.ownL (f := eI64) (l := ([x60] : List Int)) 0 rfl) Try.underlying25 Try.underlying25 sz3 by3 zr3 rfl hg63 (by decide) fun n62 => ?_
             refine AO.c (Calm.assign rfl rfl) ?_
             refine AO.nH [2, 5, 6, 7, 8, 9, 10, 11] (H' := [(n3, (.mem (e30 p0))), (n20, (.mem (.st [(256, (.ar 1 (p0.f0.toList.map eU8))), (1, (.own n37 0 x38.length)), (1, (.own n18 0 ((([] : List Int) ++ p0.f2) ++ ([(lget p0.f2 ((w64 p1).tmod (p0.f1.length : Int)))] : List Int)).length))]))), (n37, (.mem (.ar 1 (x38.map e25)))), (n18, (.mem (.ar 1 (((([] : List Int) ++ p0.f2) ++ ([(lget p0.f2 ((w64 p1).tmod (p0.f1.length : Int)))] : List Int)).map eI64)))), (n62, (.mem (.ar 1 ((x52 ++ ([x60] : List Int)).map eI64))))]) (Sub.cons 1 rfl (Sub.cons 1 rfl (Sub.cons 1 rfl (Sub.cons 1 rfl (Sub.cons 1 rfl (Sub.nil _)))))) ?_
             refine AW.reg ?_
             refine AO.c (Calm.move rfl rfl) ?_
             refine AO.c (x := eI64 (w64 (x53 + (1 : Int)))) (Calm.int rfl rfl rfl rfl) ?_
             refine AO.c (Calm.assign rfl rfl) ?_
             refine AO.nK [2, 5, 6, 7, 8, 9, 10, 11] ?_
             exact ⟨kq55, Nat.lt_succ_self _, n62, (x52 ++ ([x60] : List Int)), (w64 (x53 + (1 : Int))), rfl, rfl, by rw [hrec54]; exact h⟩
           ·refine AW.condN _ rfl hc57 ?_
            refine AW.eK [2, 5, 6, 7, 8, 10] ?_
            exact ⟨n51, x52, rfl, rfl, h⟩
          ·rintro _ _ ⟨n46, x47, rfl, rfl, h⟩
           rw [bosketlaw09_MiniOne_c2.eq_1] at h
           refine AW.reg ?_
           refine AO.c (x := .ptr n20 256) (Calm.fldPtr rfl rfl Try.underlying30 rfl sz28 _ rfl) ?_
           refine AO.c (Calm.load 1 rfl rfl rfl (At.cast (At.fldS (At.fld0 At.here)) rfl) ag28 sz28) ?_
           refine AO.c (Calm.move rfl rfl) ?_
           refine AO.freezeS 4 [(10, (.fz 1 (x47.map eI64))), (95, (.fz 1 (x47.map eI64)))] rfl ⟨fz_all rfl, fz_all rfl, trivial⟩ ?_
           refine AO.lit (Z := (.fl (.slice none 0 0))) (xs := (([x47] : List (List Int)).map e25)) (qs := [(0, (.fz 1 (x47.map eI64)))]) rfl 96 rfl (by decide) rfl ⟨rfl, rfl, rfl, trivial⟩ Try.underlying28 sz25 zr25 lay25 rfl (by decide) (litOK (z := 1) [(.fz 1 (x47.map eI64))] rfl ⟨⟨rfl, rfl⟩, trivial⟩) rfl fun n48 => ?_
           obtain ⟨hg50, h⟩ := of_guard h
           refine AO.appendL (l := x38) (m := ([x47] : List (List Int))) 3 97 rfl (by decide) rfl rfl rfl rfl rfl (Src.ownL (f := e25) (l := ([x47] : List (List Int))) 0 rfl) Try.underlying28 Try.underlying28 sz25 by25 zr25 rfl hg50 (by decide) fun n49 => ?_
           refine AO.c (x := .ptr n20 256) (Calm.fldPtr rfl rfl Try.underlying30 rfl sz28 _ rfl) ?_
           refine AO.store (X' := (.st [(256, (.ar 1 (p0.f0.toList.map eU8))), (1, (.own n49 0 (x38 ++ ([x47] : List (List Int))).length)), (1, (.own n18 0 ((([] : List Int) ++ p0.f2) ++ ([(lget p0.f2 ((w64 p1).tmod (p0.f1.length : Int)))] : List Int)).length))])) 2 rfl rfl rfl rfl rfl rfl (Put.cast (Put.fldS (Put.fld0 Put.here)) rfl) rfl rfl sz28 rfl ?_
           refine AO.nH [2, 5, 6, 7, 8] (H' := [(n3, (.mem (e30 p0))), (n20, (.mem (.st [(256, (.ar 1 (p0.f0.toList.map eU8))), (1, (.own n49 0 (x38 ++ ([x47] : List (List Int))).length)), (1, (.own n18 0 ((([] : List Int) ++ p0.f2) ++ ([(lget p0.f2 ((w64 p1).tmod (p0.f1.length : Int)))] : List Int)).length))]))), (n49, (.mem (.ar 1 ((x38 ++ ([x47] : List (List Int))).map e25)))), (n18, (.mem (.ar 1 (((([] : List Int) ++ p0.f2) ++ ([(lget p0.f2 ((w64 p1).tmod (p0.f1.length : Int)))] : List Int)).map eI64))))]) (Sub.cons 1 rfl (Sub.cons 1 rfl (Sub.cons 1 rfl (Sub.cons 1 rfl (Sub.nil _))))) ?_
           exact ⟨n49, (x38 ++ ([x47] : List (List Int))), rfl, rfl, h⟩
        ·rintro _ _ ⟨n43, x44, rfl, rfl, h⟩
         rw [bosketlaw09_MiniOne_c1.eq_1] at h
         refine AW.reg ?_
         refine AO.c (Calm.move rfl rfl) ?_
         refine AO.c (x := eI64 (w64 (x39 + (1 : Int)))) (Calm.int rfl rfl rfl rfl) ?_
         refine AO.c (Calm.assign rfl rfl) ?_
         refine AO.nK [2, 5, 6, 7, 8] ?_
         exact ⟨kq41, Nat.lt_succ_self _, n43, x44, (w64 (x39 + (1 : Int))), rfl, rfl, by rw [hrec40]; exact h⟩
       ·refine AW.condN _ rfl hc42 ?_
        refine AW.eK [2, 7] ?_
        exact ⟨n37, x38, rfl, rfl, h⟩
      ·rintro _ _ ⟨n21, x22, rfl, rfl, h⟩
       rw [bosketlaw09_MiniOne_c0.eq_1] at h
       refine AW.sr ?_
       refine AO.c (Calm.load 0 rfl rfl rfl (At.cast At.here rfl) ag30 sz30) ?_
       obtain ⟨t23, et23, h⟩ := of_bind h
       refine AO.callS [(e30 p0)] (.tup [(e30 t23.1), (eI64 t23.2)]) 101 rfl (by decide) ok33 rfl rfl rfl ⟨rfl, rfl, trivial⟩ (mini_Of_spec et23) ?_
       refine AO.c (Calm.move rfl rfl) ?_
       refine AO.c (Calm.extract rfl rfl rfl) ?_
       refine AO.c (Calm.extract rfl rfl rfl) ?_
       refine AO.alloc rfl 13 rfl (by decide) rfl zr30 lay30 fun n24 => ?_
       refine AO.store (X' := (e30 t23.1)) 0 rfl rfl rfl rfl rfl rfl (Put.cast Put.here rfl) rfl rfl sz30 rfl ?_
       refine AO.c (Calm.assign rfl rfl) ?_
       refine AO.nH [7, 13, 14] (H' := [(n20, (.mem (.st [(256, (.ar 1 (p0.f0.toList.map eU8))), (1, (.own n21 0 x22.length)), (1, (.own n18 0 ((([] : List Int) ++ p0.f2) ++ ([(lget p0.f2 ((w64 p1).tmod (p0.f1.length : Int)))] : List Int)).length))]))), (n21, (.mem (.ar 1 (x22.map e25)))), (n18, (.mem (.ar 1 (((([] : List Int) ++ p0.f2) ++ ([(lget p0.f2 ((w64 p1).tmod (p0.f1.length : Int)))] : List Int)).map eI64)))), (n24, (.mem (e30 t23.1)))]) (Sub.cons 2 rfl (Sub.cons 2 rfl (Sub.cons 2 rfl (Sub.cons 0 rfl (Sub.nil _))))) ?_
       refine AW.sr ?_
       refine AO.freezeFld (X' := (.st [(256, (.ar 1 (p0.f0.toList.map eU8))), (1, (.fz 1 (x22.map e25))), (1, (.own n18 0 ((([] : List Int) ++ p0.f2) ++ ([(lget p0.f2 ((w64 p1).tmod (p0.f1.length : Int)))] : List Int)).length))])) (els' := (x22.map e25)) 1 0 rfl rfl (Put.cast (Put.fldS (Put.fld0 Put.here)) rfl) (by simp) (by rw [own_all]) rfl rfl (by decide) ?_
       refine AO.freezeFld (X' := (.st [(256, (.ar 1 (p0.f0.toList.map eU8))), (1, (.fz 1 (x22.map e25))), (1, (.fz 1 (((([] : List Int) ++ p0.f2) ++ ([(lget p0.f2 ((w64 p1).tmod (p0.f1.length : Int)))] : List Int)).map eI64)))])) (els' := (((([] : List Int) ++ p0.f2) ++ ([(lget p0.f2 ((w64 p1).tmod (p0.f1.length : Int)))] : List Int)).map eI64)) 1 0 rfl rfl (Put.cast (Put.fldS (Put.fldS (Put.fld0 Put.here))) rfl) (by simp) (by rw [own_all]) rfl rfl (by decide) ?_
       refine AO.c (x := e30 (S30.mk p0.f0 x22 ((([] : List Int) ++ p0.f2) ++ ([(lget p0.f2 ((w64 p1).tmod (p0.f1.length : Int)))] : List Int)))) (Calm.load 0 rfl rfl rfl (At.cast At.here rfl) ag30 sz30) ?_
       obtain ⟨t25, et25, h⟩ := of_bind h
       refine AO.callS [(e30 (S30.mk p0.f0 x22 ((([] : List Int) ++ p0.f2) ++ ([(lget p0.f2 ((w64 p1).tmod (p0.f1.length : Int)))] : List Int))))] (.tup [(e30 t25.1), (eI64 t25.2)]) 106 rfl (by decide) ok33 rfl rfl rfl ⟨rfl, rfl, trivial⟩ (mini_Of_spec et25) ?_
       refine AO.c (Calm.move rfl rfl) ?_
       refine AO.c (Calm.extract rfl rfl rfl) ?_
       refine AO.c (Calm.extract rfl rfl rfl) ?_
       refine AO.alloc rfl 15 rfl (by decide) rfl zr30 lay30 fun n26 => ?_
       refine AO.store (X' := (e30 t25.1)) 0 rfl rfl rfl rfl rfl rfl (Put.cast Put.here rfl) rfl rfl sz30 rfl ?_
       refine AO.c (Calm.assign rfl rfl) ?_
       refine AO.nH [13, 14, 15, 16] (H' := [(n24, (.mem (e30 t23.1))), (n26, (.mem (e30 t25.1)))]) (Sub.cons 2 rfl (Sub.cons 0 rfl (Sub.nil _))) ?_
       refine AW.sr ?_
       refine AO.c (Calm.load 0 rfl rfl rfl (At.cast At.here rfl) ag30 sz30) ?_
       obtain ⟨t27, et27, h⟩ := of_bind h
       refine AO.callS [(e30 t23.1)] (.tup [(e30 t27.1), (eI64 t27.2)]) 111 rfl (by decide) ok33 rfl rfl rfl ⟨rfl, rfl, trivial⟩ (mini_Of_spec et27) ?_
       refine AO.c (Calm.move rfl rfl) ?_
       refine AO.c (Calm.extract rfl rfl rfl) ?_
       refine AO.c (Calm.extract rfl rfl rfl) ?_
       refine AO.alloc rfl 17 rfl (by decide) rfl zr30 lay30 fun n28 => ?_
       refine AO.store (X' := (e30 t27.1)) 0 rfl rfl rfl rfl rfl rfl (Put.cast Put.here rfl) rfl rfl sz30 rfl ?_
       refine AO.c (Calm.assign rfl rfl) ?_
       refine AO.nH [13, 14, 15, 16, 17, 18] (H' := [(n24, (.mem (e30 t23.1))), (n26, (.mem (e30 t25.1))), (n28, (.mem (e30 t27.1)))]) (Sub.cons 1 rfl (Sub.cons 1 rfl (Sub.cons 0 rfl (Sub.nil _)))) ?_
       refine AW.seq ?_
       obtain ⟨b29, hq30, h⟩ := of_bind h
       refine AW.regM [(4, (eBool b29))] [] ?_ ?_
       ·refine AO.c (Calm.move rfl rfl) ?_
        refine AO.c (x := eBool (decide (t23.2 = (0 : Int)))) (Calm.int rfl rfl rfl rfl) ?_
        refine AO.c (Calm.move rfl rfl) ?_
        rcases of_ite hq30 with ⟨hc31, hq30⟩ | ⟨hc31, hq30⟩
        ·refine AO.cG rfl rfl (bD (decide_eq_true hc31)) (Calm.move rfl rfl) ?_
         refine AO.cG (x := eBool (decide (t25.2 = (0 : Int)))) rfl rfl (bD (decide_eq_true hc31)) (Calm.int rfl rfl rfl rfl) ?_
         refine AO.c (Calm.pickT rfl (bD (decide_eq_true hc31)) rfl) ?_
         refine AO.c (Calm.move rfl rfl) ?_
         rcases of_ite hq30 with ⟨hc32, hq30⟩ | ⟨hc32, hq30⟩
         ·refine AO.cG rfl rfl (bD (decide_eq_true hc32)) (Calm.move rfl rfl) ?_
          refine AO.cG (x := eBool (decide (t27.2 = (0 : Int)))) rfl rfl (bD (decide_eq_true hc32)) (Calm.int rfl rfl rfl rfl) ?_
          refine AO.c (Calm.pickT rfl (bD (decide_eq_true hc32)) rfl) ?_
          refine AO.c (Calm.move rfl rfl) ?_
          rcases of_ite hq30 with ⟨hc33, hq30⟩ | ⟨hc33, hq30⟩
          ·refine AO.cG rfl rfl (bD (decide_eq_true hc33)) (Calm.load 0 rfl rfl rfl (At.cast At.here rfl) ag30 sz30) ?_
           refine AO.cG rfl rfl (bD (decide_eq_true hc33)) (Calm.load 1 rfl rfl rfl (At.cast At.here rfl) ag30 sz30) ?_
           obtain ⟨t34, et34, hq30⟩ := of_bind hq30
           refine AO.callG 10 true 124 [(e30 t23.1), (e30 t25.1)] (eBool t34) 127 rfl (by decide) ok36 rfl rfl (bD (decide_eq_true hc33)) rfl rfl ⟨rfl, rfl, rfl, rfl, trivial⟩ (bosketref08_Same_spec et34) ?_
           refine AO.c (Calm.pickT rfl (bD (decide_eq_true hc33)) rfl) ?_
           refine AO.c (Calm.move rfl rfl) ?_
           rcases of_ite hq30 with ⟨hc35, hq30⟩ | ⟨hc35, hq30⟩
           ·refine AO.cG rfl rfl (bD hc35) (Calm.load 0 rfl rfl rfl (At.cast At.here rfl) ag30 sz30) ?_
            refine AO.cG rfl rfl (bD hc35) (Calm.load 2 rfl rfl rfl (At.cast At.here rfl) ag30 sz30) ?_
            obtain ⟨t36, et36, hq30⟩ := of_bind hq30
            refine AO.callG 15 true 129 [(e30 t23.1), (e30 t27.1)] (eBool t36) 132 rfl (by decide) ok36 rfl rfl (bD hc35) rfl rfl ⟨rfl, rfl, rfl, rfl, trivial⟩ (bosketref08_Same_spec et36) ?_
            refine AO.c (Calm.pickT rfl (bD hc35) rfl) ?_
            refine AO.c (Calm.assign rfl rfl) ?_
            cases hq30
            refine AO.nilE ⟨rfl, rfl⟩ ?_ ?_
            · exact ⟨rfl, trivial⟩
            · exact (Sub.nil _)
           ·refine AO.sT rfl rfl (bD (eq_false_of_ne_true hc35)) ?_
            refine AO.sT rfl rfl (bD (eq_false_of_ne_true hc35)) ?_
            refine AO.sT rfl rfl (bD (eq_false_of_ne_true hc35)) ?_
            refine AO.c (Calm.pickF rfl (bD (eq_false_of_ne_true hc35)) rfl) ?_
            refine AO.c (Calm.assign rfl rfl) ?_
            cases hq30
            refine AO.nilE ⟨rfl, rfl⟩ ?_ ?_
            · exact ⟨rfl, trivial⟩
            · exact (Sub.nil _)
          ·refine AO.sT rfl rfl (bD (decide_eq_false hc33)) ?_
           refine AO.sT rfl rfl (bD (decide_eq_false hc33)) ?_
           refine AO.sT rfl rfl (bD (decide_eq_false hc33)) ?_
           refine AO.c (Calm.pickF rfl (bD (decide_eq_false hc33)) rfl) ?_
           refine AO.c (Calm.move rfl rfl) ?_
           refine AO.sT rfl rfl rfl ?_
           refine AO.sT rfl rfl rfl ?_
           refine AO.sT rfl rfl rfl ?_
           refine AO.c (Calm.pickF rfl rfl rfl) ?_
           refine AO.c (Calm.assign rfl rfl) ?_
           cases hq30
           refine AO.nilE ⟨rfl, rfl⟩ ?_ ?_
           · exact ⟨rfl, trivial⟩
           · exact (Sub.nil _)
         ·refine AO.sT rfl rfl (bD (decide_eq_false hc32)) ?_
          refine AO.sT rfl rfl (bD (decide_eq_false hc32)) ?_
          refine AO.c (Calm.pickF rfl (bD (decide_eq_false hc32)) rfl) ?_
          refine AO.c (Calm.move rfl rfl) ?_
          refine AO.sT rfl rfl rfl ?_
          refine AO.sT rfl rfl rfl ?_
          refine AO.sT rfl rfl rfl ?_
          refine AO.c (Calm.pickF rfl rfl rfl) ?_
          refine AO.c (Calm.move rfl rfl) ?_
          refine AO.sT rfl rfl rfl ?_
          refine AO.sT rfl rfl rfl ?_
          refine AO.sT rfl rfl rfl ?_
          refine AO.c (Calm.pickF rfl rfl rfl) ?_
          refine AO.c (Calm.assign rfl rfl) ?_
          cases hq30
          refine AO.nilE ⟨rfl, rfl⟩ ?_ ?_
          · exact ⟨rfl, trivial⟩
          · exact (Sub.nil _)
        ·refine AO.sT rfl rfl (bD (decide_eq_false hc31)) ?_
         refine AO.sT rfl rfl (bD (decide_eq_false hc31)) ?_
         refine AO.c (Calm.pickF rfl (bD (decide_eq_false hc31)) rfl) ?_
         refine AO.c (Calm.move rfl rfl) ?_
         refine AO.sT rfl rfl rfl ?_
         refine AO.sT rfl rfl rfl ?_
         refine AO.c (Calm.pickF rfl rfl rfl) ?_
         refine AO.c (Calm.move rfl rfl) ?_
         refine AO.sT rfl rfl rfl ?_
         refine AO.sT rfl rfl rfl ?_
         refine AO.sT rfl rfl rfl ?_
         refine AO.c (Calm.pickF rfl rfl rfl) ?_
         refine AO.c (Calm.move rfl rfl) ?_
         refine AO.sT rfl rfl rfl ?_
         refine AO.sT rfl rfl rfl ?_
         refine AO.sT rfl rfl rfl ?_
         refine AO.c (Calm.pickF rfl rfl rfl) ?_
         refine AO.c (Calm.assign rfl rfl) ?_
         cases hq30
         refine AO.nilE ⟨rfl, rfl⟩ ?_ ?_
         · exact ⟨rfl, trivial⟩
         · exact (Sub.nil _)
       ·refine AW.rK [4] ?_
        have hr := Option.some.inj h
        subst hr
        exact ⟨[(eBool b29)], ⟨rfl, rfl, trivial⟩, rfl⟩
end Go.Avl.T5
/- bosket/bosketref02.Has; printed by avmain.py. -/
namespace Go.Avl.T5
open Go Go.RowKit Go.Proofs Go.Avl
set_option linter.unusedVariables false
set_option maxRecDepth 100000
set_option maxHeartbeats 4000000
attribute [local irreducible] AW AO AQ Spec SpecH Calm

end Go.Avl.T5
/- bosket/byteset.Has; printed by avmain.py. -/
namespace Go.Avl.T5
open Go Go.RowKit Go.Proofs Go.Avl
set_option linter.unusedVariables false
set_option maxRecDepth 100000
set_option maxHeartbeats 4000000
attribute [local irreducible] AW AO AQ Spec SpecH Calm

end Go.Avl.T5
/- bosket/byteset.key; printed by avmain.py. -/
namespace Go.Avl.T5
open Go Go.RowKit Go.Proofs Go.Avl
set_option linter.unusedVariables false
set_option maxRecDepth 100000
set_option maxHeartbeats 4000000
attribute [local irreducible] AW AO AQ Spec SpecH Calm

end Go.Avl.T5
/- bosket/byteset.Classes; printed by avmain.py. -/
namespace Go.Avl.T5
open Go Go.RowKit Go.Proofs Go.Avl
set_option linter.unusedVariables false
set_option maxRecDepth 100000
set_option maxHeartbeats 4000000
attribute [local irreducible] AW AO AQ Spec SpecH Calm

end Go.Avl.T5
/- bosket/bosketref02.Class; printed by avmain.py. -/
namespace Go.Avl.T5
open Go Go.RowKit Go.Proofs Go.Avl
set_option linter.unusedVariables false
set_option maxRecDepth 100000
set_option maxHeartbeats 4000000
attribute [local irreducible] AW AO AQ Spec SpecH Calm

end Go.Avl.T5
/- bosket/bosketref06.Right; printed by avmain.py. -/
namespace Go.Avl.T5
open Go Go.RowKit Go.Proofs Go.Avl
set_option linter.unusedVariables false
set_option maxRecDepth 100000
set_option maxHeartbeats 4000000
attribute [local irreducible] AW AO AQ Spec SpecH Calm

end Go.Avl.T5
/- bosket/nfa.Right; printed by avmain.py. -/
namespace Go.Avl.T5
open Go Go.RowKit Go.Proofs Go.Avl
set_option linter.unusedVariables false
set_option maxRecDepth 100000
set_option maxHeartbeats 4000000
attribute [local irreducible] AW AO AQ Spec SpecH Calm

end Go.Avl.T5
/- bosket/bosketref06.Same; printed by avmain.py. -/
namespace Go.Avl.T5
open Go Go.RowKit Go.Proofs Go.Avl
set_option linter.unusedVariables false
set_option maxRecDepth 100000
set_option maxHeartbeats 4000000
attribute [local irreducible] AW AO AQ Spec SpecH Calm

end Go.Avl.T5
/- bosket/nfa.Close; printed by avmain.py. -/
namespace Go.Avl.T5
open Go Go.RowKit Go.Proofs Go.Avl
set_option linter.unusedVariables false
set_option maxRecDepth 100000
set_option maxHeartbeats 4000000
attribute [local irreducible] AW AO AQ Spec SpecH Calm

end Go.Avl.T5
/- bosket/bosketref06.Close; printed by avmain.py. -/
namespace Go.Avl.T5
open Go Go.RowKit Go.Proofs Go.Avl
set_option linter.unusedVariables false
set_option maxRecDepth 100000
set_option maxHeartbeats 4000000
attribute [local irreducible] AW AO AQ Spec SpecH Calm

end Go.Avl.T5
/- bosket/nfa.Move; printed by avmain.py. -/
namespace Go.Avl.T5
open Go Go.RowKit Go.Proofs Go.Avl
set_option linter.unusedVariables false
set_option maxRecDepth 100000
set_option maxHeartbeats 4000000
attribute [local irreducible] AW AO AQ Spec SpecH Calm

end Go.Avl.T5
/- bosket/bosketref06.Move; printed by avmain.py. -/
namespace Go.Avl.T5
open Go Go.RowKit Go.Proofs Go.Avl
set_option linter.unusedVariables false
set_option maxRecDepth 100000
set_option maxHeartbeats 4000000
attribute [local irreducible] AW AO AQ Spec SpecH Calm

end Go.Avl.T5
/- bosket/bosketref06.Run; printed by avmain.py. -/
namespace Go.Avl.T5
open Go Go.RowKit Go.Proofs Go.Avl
set_option linter.unusedVariables false
set_option maxRecDepth 100000
set_option maxHeartbeats 4000000
attribute [local irreducible] AW AO AQ Spec SpecH Calm

end Go.Avl.T5
/- bosket/nfa.Sets; printed by avmain.py. -/
namespace Go.Avl.T5
open Go Go.RowKit Go.Proofs Go.Avl
set_option linter.unusedVariables false
set_option maxRecDepth 100000
set_option maxHeartbeats 4000000
attribute [local irreducible] AW AO AQ Spec SpecH Calm

end Go.Avl.T5
/- bosket/bosketref07.Reps; printed by avmain.py. -/
namespace Go.Avl.T5
open Go Go.RowKit Go.Proofs Go.Avl
set_option linter.unusedVariables false
set_option maxRecDepth 100000
set_option maxHeartbeats 4000000
attribute [local irreducible] AW AO AQ Spec SpecH Calm

end Go.Avl.T5
/- bosket/bosketref07.SameRows; printed by avmain.py. -/
namespace Go.Avl.T5
open Go Go.RowKit Go.Proofs Go.Avl
set_option linter.unusedVariables false
set_option maxRecDepth 100000
set_option maxHeartbeats 4000000
attribute [local irreducible] AW AO AQ Spec SpecH Calm

end Go.Avl.T5
/- bosket/bosketref01.Same; printed by avmain.py. -/
namespace Go.Avl.T5
open Go Go.RowKit Go.Proofs Go.Avl
set_option linter.unusedVariables false
set_option maxRecDepth 100000
set_option maxHeartbeats 4000000
attribute [local irreducible] AW AO AQ Spec SpecH Calm

end Go.Avl.T5
/- bosket/bosketref07.Mark; printed by avmain.py. -/
namespace Go.Avl.T5
open Go Go.RowKit Go.Proofs Go.Avl
set_option linter.unusedVariables false
set_option maxRecDepth 100000
set_option maxHeartbeats 4000000
attribute [local irreducible] AW AO AQ Spec SpecH Calm

end Go.Avl.T5
/- bosket/bosketref07.any; printed by avmain.py. -/
namespace Go.Avl.T5
open Go Go.RowKit Go.Proofs Go.Avl
set_option linter.unusedVariables false
set_option maxRecDepth 100000
set_option maxHeartbeats 4000000
attribute [local irreducible] AW AO AQ Spec SpecH Calm

end Go.Avl.T5
/- bosket/subset.key; printed by avmain.py. -/
namespace Go.Avl.T5
open Go Go.RowKit Go.Proofs Go.Avl
set_option linter.unusedVariables false
set_option maxRecDepth 100000
set_option maxHeartbeats 4000000
attribute [local irreducible] AW AO AQ Spec SpecH Calm

end Go.Avl.T5
/- bosket/subset.markOf; printed by avmain.py. -/
namespace Go.Avl.T5
open Go Go.RowKit Go.Proofs Go.Avl
set_option linter.unusedVariables false
set_option maxRecDepth 100000
set_option maxHeartbeats 4000000
attribute [local irreducible] AW AO AQ Spec SpecH Calm

end Go.Avl.T5
/- (*bosket/subset.builder).mark; printed by avmain.py. -/
namespace Go.Avl.T5
open Go Go.RowKit Go.Proofs Go.Avl
set_option linter.unusedVariables false
set_option maxRecDepth 100000
set_option maxHeartbeats 4000000
attribute [local irreducible] AW AO AQ Spec SpecH Calm

end Go.Avl.T5
/- bosket/dfa.Step; printed by avmain.py. -/
namespace Go.Avl.T5
open Go Go.RowKit Go.Proofs Go.Avl
set_option linter.unusedVariables false
set_option maxRecDepth 100000
set_option maxHeartbeats 4000000
attribute [local irreducible] AW AO AQ Spec SpecH Calm

end Go.Avl.T5
/- bosket/dfa.Reached; printed by avmain.py. -/
namespace Go.Avl.T5
open Go Go.RowKit Go.Proofs Go.Avl
set_option linter.unusedVariables false
set_option maxRecDepth 100000
set_option maxHeartbeats 4000000
attribute [local irreducible] AW AO AQ Spec SpecH Calm

end Go.Avl.T5
/- bosket/bosketref08.Reached; printed by avmain.py. -/
namespace Go.Avl.T5
open Go Go.RowKit Go.Proofs Go.Avl
set_option linter.unusedVariables false
set_option maxRecDepth 100000
set_option maxHeartbeats 4000000
attribute [local irreducible] AW AO AQ Spec SpecH Calm

end Go.Avl.T5
/- bosket/bosketref08.Alive; printed by avmain.py. -/
namespace Go.Avl.T5
open Go Go.RowKit Go.Proofs Go.Avl
set_option linter.unusedVariables false
set_option maxRecDepth 100000
set_option maxHeartbeats 4000000
attribute [local irreducible] AW AO AQ Spec SpecH Calm

end Go.Avl.T5
/- bosket/bosketref08.Trim; printed by avmain.py. -/
namespace Go.Avl.T5
open Go Go.RowKit Go.Proofs Go.Avl
set_option linter.unusedVariables false
set_option maxRecDepth 100000
set_option maxHeartbeats 4000000
set_option linter.unusedSimpArgs false
attribute [local irreducible] AW AO AQ Spec SpecH Calm

end Go.Avl.T5
/- bosket/bosketref08.place; printed by avmain.py. -/
namespace Go.Avl.T5
open Go Go.RowKit Go.Proofs Go.Avl
set_option linter.unusedVariables false
set_option maxRecDepth 100000
set_option maxHeartbeats 4000000
attribute [local irreducible] AW AO AQ Spec SpecH Calm

end Go.Avl.T5
/- bosket/bosketref08.Order; printed by avmain.py. -/
namespace Go.Avl.T5
open Go Go.RowKit Go.Proofs Go.Avl
set_option linter.unusedVariables false
set_option maxRecDepth 100000
set_option maxHeartbeats 4000000
set_option linter.unusedSimpArgs false
attribute [local irreducible] AW AO AQ Spec SpecH Calm

end Go.Avl.T5
/- bosket/dfa.Run; printed by avmain.py. -/
namespace Go.Avl.T5
open Go Go.RowKit Go.Proofs Go.Avl
set_option linter.unusedVariables false
set_option maxRecDepth 100000
set_option maxHeartbeats 4000000
attribute [local irreducible] AW AO AQ Spec SpecH Calm

end Go.Avl.T5
/- bosket/dfa.Has; printed by avmain.py. -/
namespace Go.Avl.T5
open Go Go.RowKit Go.Proofs Go.Avl
set_option linter.unusedVariables false
set_option maxRecDepth 100000
set_option maxHeartbeats 4000000
attribute [local irreducible] AW AO AQ Spec SpecH Calm

end Go.Avl.T5
