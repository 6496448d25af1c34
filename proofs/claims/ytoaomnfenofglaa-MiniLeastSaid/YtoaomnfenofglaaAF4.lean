/- Parts: T5f25, T5f71, T5f37, T5f36, T5f96, T5f72. -/
import Derived.Test.YtoaomnfenofglaaAF1
import Derived.Test.YtoaomnfenofglaaAF3
/- bosket/bosketref08.Right; printed by avmain.py. -/
namespace Go.Avl.T5
open Go Go.RowKit Go.Proofs Go.Avl
set_option linter.unusedVariables false
set_option maxRecDepth 100000
set_option maxHeartbeats 4000000
attribute [local irreducible] AW AO AQ Spec SpecH Calm

def bosketref08_Right_c0 (k : Nat) : Option Bool :=
  some (true)
def bosketref08_Right_c1 (k : Nat) (rec11 : (Int → Option Bool)) (x10 : Int) : Option Bool :=
  rec11 (w64 (x10 + (1 : Int)))
def bosketref08_Right_l2 (k : Nat) (rec11 : (Int → Option Bool)) (p0 : S30) (x10 : Int) : Nat → Int → Option Bool
  | 0, _ => none
  | j + 1, x23 =>
    if 0 ≤ x10 ∧ x10 < (p0.f1.length : Int) then if x23 < ((lget p0.f1 x10).length : Int) then Option.bind (α := Bool) (if 0 ≤ x10 ∧ x10 < (p0.f1.length : Int) then if 0 ≤ x23 ∧ x23 < ((lget p0.f1 x10).length : Int) then if (lget (lget p0.f1 x10) x23) < (-1 : Int) then some (true)
    else if 0 ≤ x10 ∧ x10 < (p0.f1.length : Int) then if 0 ≤ x23 ∧ x23 < ((lget p0.f1 x10).length : Int) then some (decide ((p0.f1.length : Int) ≤ (lget (lget p0.f1 x10) x23)))
    else none
    else none
    else none
    else none) fun b28 =>
    if b28 = true then some (false)
    else (bosketref08_Right_l2 k rec11 p0 x10 j) (w64 (x23 + (1 : Int)))
    else bosketref08_Right_c1 k rec11 x10
    else none
def bosketref08_Right_l3 (k : Nat) (p0 : S30) : Nat → Int → Option Bool
  | 0, _ => none
  | j + 1, x10 =>
    if x10 < (p0.f1.length : Int) then Option.bind (α := Bool) (if 0 ≤ x10 ∧ x10 < (p0.f1.length : Int) then (bosketref08_classes k p0).bind fun t17 =>
    if ((lget p0.f1 x10).length : Int) ≠ t17 then some (true)
    else if 0 ≤ x10 ∧ x10 < (p0.f2.length : Int) then if (lget p0.f2 x10) < (-1 : Int) then some (true)
    else if 0 ≤ x10 ∧ x10 < (p0.f2.length : Int) then some (decide ((32768 : Int) ≤ (lget p0.f2 x10)))
    else none
    else none
    else none) fun b14 =>
    if b14 = true then some (false)
    else bosketref08_Right_l2 k (bosketref08_Right_l3 k p0 j) p0 x10 k (0 : Int)
    else bosketref08_Right_c0 k
def bosketref08_Right (k : Nat) (p0 : S30) : Option Bool :=
  Option.bind (α := Bool) (if (p0.f1.length : Int) < (1 : Int) then some (true)
  else if (32768 : Int) < (p0.f1.length : Int) then some (true)
  else if (p0.f2.length : Int) ≠ (p0.f1.length : Int) then some (true)
  else (bosketref08_gapless k p0).bind fun t8 =>
  some (!t8)) fun b3 =>
  if b3 = true then some (false)
  else bosketref08_Right_l3 k p0 k (0 : Int)
theorem bosketref08_Right_spec {k : Nat} {p0 : S30} {r : Bool} (h : bosketref08_Right k p0 = some r) : Spec Try.prog 25 [(e30 p0)] (eBool r) := by
  rw [bosketref08_Right.eq_1] at h
  refine Spec.intro (res := [.tmp 2]) Try.func25 rfl rfl rfl (Nat.le_of_ble_eq_true rfl) ?_
  refine AW.sr ?_
  refine AO.box rfl 1 rfl (by decide) rfl rfl rfl fun n2 => ?_
  refine AO.c (Calm.assign rfl rfl) ?_
  refine AO.nK [1] ?_
  refine AW.sr ?_
  refine AO.c (x := .ptr n2 256) (Calm.fldPtr rfl rfl Try.underlying30 rfl sz28 _ rfl) ?_
  refine AO.c (Calm.load 0 rfl rfl rfl (At.cast (At.fldS (At.fld0 At.here)) rfl) ag28 sz28) ?_
  refine AO.c (Calm.lenL rfl rfl Try.underlying28) ?_
  refine AO.c (Calm.assign rfl rfl) ?_
  refine AO.nK [1, 3] ?_
  refine AW.seq ?_
  refine AW.seq ?_
  obtain ⟨b3, hq4, h⟩ := of_bind h
  refine AW.regM [(1, (.ptr n2 0)), (3, (eI64 (p0.f1.length : Int))), (26, (eBool b3))] [(n2, (.mem (e30 p0)))] ?_ ?_
  ·refine AO.c (Calm.move rfl rfl) ?_
   refine AO.c (x := eBool (decide ((p0.f1.length : Int) < (1 : Int)))) (Calm.int rfl rfl rfl rfl) ?_
   refine AO.c (Calm.move rfl rfl) ?_
   rcases of_ite hq4 with ⟨hc5, hq4⟩ | ⟨hc5, hq4⟩
   ·refine AO.sF rfl rfl (bD (decide_eq_true hc5)) ?_
    refine AO.sF rfl rfl (bD (decide_eq_true hc5)) ?_
    refine AO.c (Calm.pickT rfl (bD (decide_eq_true hc5)) rfl) ?_
    refine AO.c (Calm.move rfl rfl) ?_
    refine AO.sF rfl rfl rfl ?_
    refine AO.sF rfl rfl rfl ?_
    refine AO.sF rfl rfl rfl ?_
    refine AO.sF rfl rfl rfl ?_
    refine AO.sF rfl rfl rfl ?_
    refine AO.c (Calm.pickT rfl rfl rfl) ?_
    refine AO.c (Calm.move rfl rfl) ?_
    refine AO.sF rfl rfl rfl ?_
    refine AO.sF rfl rfl rfl ?_
    refine AO.sF rfl rfl rfl ?_
    refine AO.c (Calm.pickT rfl rfl rfl) ?_
    cases hq4
    refine AO.nilE ⟨rfl, rfl⟩ ?_ ?_
    · exact ⟨rfl, rfl, rfl, trivial⟩
    · exact (Sub.refl _)
   ·refine AO.cG rfl rfl (bD (decide_eq_false hc5)) (Calm.move rfl rfl) ?_
    refine AO.cG (x := eBool (decide ((32768 : Int) < (p0.f1.length : Int)))) rfl rfl (bD (decide_eq_false hc5)) (Calm.int rfl rfl rfl rfl) ?_
    refine AO.c (Calm.pickF rfl (bD (decide_eq_false hc5)) rfl) ?_
    refine AO.c (Calm.move rfl rfl) ?_
    rcases of_ite hq4 with ⟨hc6, hq4⟩ | ⟨hc6, hq4⟩
    ·refine AO.sF rfl rfl (bD (decide_eq_true hc6)) ?_
     refine AO.sF rfl rfl (bD (decide_eq_true hc6)) ?_
     refine AO.sF rfl rfl (bD (decide_eq_true hc6)) ?_
     refine AO.sF rfl rfl (bD (decide_eq_true hc6)) ?_
     refine AO.sF rfl rfl (bD (decide_eq_true hc6)) ?_
     refine AO.c (Calm.pickT rfl (bD (decide_eq_true hc6)) rfl) ?_
     refine AO.c (Calm.move rfl rfl) ?_
     refine AO.sF rfl rfl rfl ?_
     refine AO.sF rfl rfl rfl ?_
     refine AO.sF rfl rfl rfl ?_
     refine AO.c (Calm.pickT rfl rfl rfl) ?_
     cases hq4
     refine AO.nilE ⟨rfl, rfl⟩ ?_ ?_
     · exact ⟨rfl, rfl, rfl, trivial⟩
     · exact (Sub.refl _)
    ·refine AO.cG (x := .ptr n2 257) rfl rfl (bD (decide_eq_false hc6)) (Calm.fldPtr rfl rfl Try.underlying30 rfl sz25 _ rfl) ?_
     refine AO.cG rfl rfl (bD (decide_eq_false hc6)) (Calm.load 0 rfl rfl rfl (At.cast (At.fldS (At.fldS (At.fld0 At.here))) rfl) ag25 sz25) ?_
     refine AO.cG rfl rfl (bD (decide_eq_false hc6)) (Calm.lenL rfl rfl Try.underlying25) ?_
     refine AO.cG rfl rfl (bD (decide_eq_false hc6)) (Calm.move rfl rfl) ?_
     refine AO.cG (x := eBool (decide ((p0.f2.length : Int) ≠ (p0.f1.length : Int)))) rfl rfl (bD (decide_eq_false hc6)) (Calm.int rfl rfl rfl rfl) ?_
     refine AO.c (Calm.pickF rfl (bD (decide_eq_false hc6)) rfl) ?_
     refine AO.c (Calm.move rfl rfl) ?_
     rcases of_ite hq4 with ⟨hc7, hq4⟩ | ⟨hc7, hq4⟩
     ·refine AO.sF rfl rfl (bD (decide_eq_true hc7)) ?_
      refine AO.sF rfl rfl (bD (decide_eq_true hc7)) ?_
      refine AO.sF rfl rfl (bD (decide_eq_true hc7)) ?_
      refine AO.c (Calm.pickT rfl (bD (decide_eq_true hc7)) rfl) ?_
      cases hq4
      refine AO.nilE ⟨rfl, rfl⟩ ?_ ?_
      · exact ⟨rfl, rfl, rfl, trivial⟩
      · exact (Sub.refl _)
     ·refine AO.cG rfl rfl (bD (decide_eq_false hc7)) (Calm.load 0 rfl rfl rfl (At.cast At.here rfl) ag30 sz30) ?_
      obtain ⟨t8, et8, hq4⟩ := of_bind hq4
      refine AO.callG 13 false 22 [(e30 p0)] (eBool t8) 24 rfl (by decide) ok59 rfl rfl (bD (decide_eq_false hc7)) rfl rfl ⟨rfl, rfl, trivial⟩ (bosketref08_gapless_spec et8) ?_
      refine AO.cG rfl rfl (bD (decide_eq_false hc7)) (Calm.not rfl rfl) ?_
      refine AO.c (Calm.pickF rfl (bD (decide_eq_false hc7)) rfl) ?_
      cases hq4
      refine AO.nilE ⟨rfl, rfl⟩ ?_ ?_
      · exact ⟨rfl, rfl, rfl, trivial⟩
      · exact (Sub.refl _)
  ·rcases of_ite h with ⟨hc9, h⟩ | ⟨hc9, h⟩
   ·refine AW.condT' _ rfl hc9 ?_
    refine AW.sr ?_
    refine AO.c (Calm.assign rfl rfl) ?_
    refine AO.nH [2] (H' := []) (Sub.nil _) ?_
    refine AW.rK [2] ?_
    have hr := Option.some.inj h
    subst hr
    exact ⟨[(eBool false)], ⟨rfl, rfl, trivial⟩, rfl⟩
   ·refine AW.condF' _ rfl hc9 ?_
    refine AW.sK [1, 3] ?_
    refine AW.seq_mid (fun ρ H => ρ = [] ∧ H = [] ∧ bosketref08_Right_c0 k = some r) ?_ ?_
    ·refine AW.sr ?_
     refine AO.c (Calm.assign rfl rfl) ?_
     refine AO.nK [1, 3, 4] ?_
     refine AW.block ?_
     refine AW.wK [1, 3, 4] ?_
     refine AW.loop (fun kq ρ H => ∃ (x10 : Int), ρ = [(1, (.ptr n2 0)), (3, (eI64 (p0.f1.length : Int))), (4, (eI64 x10))] ∧ H = [(n2, (.mem (e30 p0)))] ∧ bosketref08_Right_l3 k p0 kq x10 = some r) k ⟨(0 : Int), rfl, rfl, h⟩ ?_
     rintro kq12 _ _ ⟨x10, rfl, rfl, h⟩
     cases kq12 with
     | zero => rw [bosketref08_Right_l3.eq_1] at h; cases h
     | succ kq12 =>
     rw [bosketref08_Right_l3.eq_2] at h
     generalize hrec11 : bosketref08_Right_l3 k p0 kq12 = rec11 at h
     refine AW.seq ?_
     refine AW.sr ?_
     refine AO.c (Calm.move rfl rfl) ?_
     refine AO.c (Calm.move rfl rfl) ?_
     refine AO.c (x := eBool (decide (x10 < (p0.f1.length : Int)))) (Calm.int rfl rfl rfl rfl) ?_
     refine AO.nK [1, 3, 4, 29] ?_
     rcases of_ite h with ⟨hc13, h⟩ | ⟨hc13, h⟩
     ·refine AW.condP _ rfl hc13 ?_
      refine AW.sK [1, 3, 4] ?_
      refine AW.seq_mid (fun ρ H => ρ = [(1, (.ptr n2 0)), (3, (eI64 (p0.f1.length : Int))), (4, (eI64 x10))] ∧ H = [(n2, (.mem (e30 p0)))] ∧ bosketref08_Right_c1 k rec11 x10 = some r) ?_ ?_
      ·refine AW.block ?_
       refine AW.seq ?_
       refine AW.seq ?_
       obtain ⟨b14, hq15, h⟩ := of_bind h
       refine AW.regQM (by rfl) (by decide +kernel) [(1, (.ptr n2 0)), (3, (eI64 (p0.f1.length : Int))), (4, (eI64 x10)), (56, (eBool b14))] ?_ ?_
       ·refine AQ.c (x := .ptr n2 256) (Calm.fldPtr rfl rfl Try.underlying30 rfl sz28 _ rfl) ?_
        refine AQ.c (Calm.load 0 rfl rfl rfl (At.cast (At.fldS (At.fld0 At.here)) rfl) ag28 sz28) ?_
        refine AQ.c (Calm.move rfl rfl) ?_
        obtain ⟨hg16, hq15⟩ := of_guard hq15
        refine AQ.c (Calm.idxL (f := e25) rfl rfl rfl hg16 Try.underlying28 sz25) ?_
        refine AQ.c (Calm.loadRp rfl rfl ag25 sz25) ?_
        refine AQ.c (Calm.lenL rfl rfl Try.underlying25) ?_
        refine AQ.c (Calm.load 0 rfl rfl rfl (At.cast At.here rfl) ag30 sz30) ?_
        obtain ⟨t17, et17, hq15⟩ := of_bind hq15
        refine AQ.c (Calm.call (args := [(e30 p0)]) rfl rfl ok60 ⟨rfl, rfl, trivial⟩ rfl (bosketref08_classes_spec et17)) ?_
        refine AQ.c (x := eBool (decide (((lget p0.f1 x10).length : Int) ≠ t17))) (Calm.int rfl rfl rfl rfl) ?_
        refine AQ.c (Calm.move rfl rfl) ?_
        rcases of_ite hq15 with ⟨hc18, hq15⟩ | ⟨hc18, hq15⟩
        ·refine AQ.sF rfl rfl (bD (decide_eq_true hc18)) ?_
         refine AQ.sF rfl rfl (bD (decide_eq_true hc18)) ?_
         refine AQ.sF rfl rfl (bD (decide_eq_true hc18)) ?_
         refine AQ.sF rfl rfl (bD (decide_eq_true hc18)) ?_
         refine AQ.sF rfl rfl (bD (decide_eq_true hc18)) ?_
         refine AQ.sF rfl rfl (bD (decide_eq_true hc18)) ?_
         refine AQ.c (Calm.pickT rfl (bD (decide_eq_true hc18)) rfl) ?_
         refine AQ.c (Calm.move rfl rfl) ?_
         refine AQ.sF rfl rfl rfl ?_
         refine AQ.sF rfl rfl rfl ?_
         refine AQ.sF rfl rfl rfl ?_
         refine AQ.sF rfl rfl rfl ?_
         refine AQ.sF rfl rfl rfl ?_
         refine AQ.sF rfl rfl rfl ?_
         refine AQ.c (Calm.pickT rfl rfl rfl) ?_
         cases hq15
         refine AQ.nilE rfl ?_
         exact ⟨rfl, rfl, rfl, rfl, trivial⟩
        ·refine AQ.cG (x := .ptr n2 257) rfl rfl (bD (decide_eq_false hc18)) (Calm.fldPtr rfl rfl Try.underlying30 rfl sz25 _ rfl) ?_
         refine AQ.cG rfl rfl (bD (decide_eq_false hc18)) (Calm.load 0 rfl rfl rfl (At.cast (At.fldS (At.fldS (At.fld0 At.here))) rfl) ag25 sz25) ?_
         refine AQ.cG rfl rfl (bD (decide_eq_false hc18)) (Calm.move rfl rfl) ?_
         obtain ⟨hg19, hq15⟩ := of_guard hq15
         refine AQ.cG rfl rfl (bD (decide_eq_false hc18)) (Calm.idxL (f := eI64) rfl rfl rfl hg19 Try.underlying25 sz3) ?_
         refine AQ.cG rfl rfl (bD (decide_eq_false hc18)) (Calm.loadRp rfl rfl ag3 sz3) ?_
         refine AQ.cG (x := eBool (decide ((lget p0.f2 x10) < (-1 : Int)))) rfl rfl (bD (decide_eq_false hc18)) (Calm.int rfl rfl rfl rfl) ?_
         refine AQ.c (Calm.pickF rfl (bD (decide_eq_false hc18)) rfl) ?_
         refine AQ.c (Calm.move rfl rfl) ?_
         rcases of_ite hq15 with ⟨hc20, hq15⟩ | ⟨hc20, hq15⟩
         ·refine AQ.sF rfl rfl (bD (decide_eq_true hc20)) ?_
          refine AQ.sF rfl rfl (bD (decide_eq_true hc20)) ?_
          refine AQ.sF rfl rfl (bD (decide_eq_true hc20)) ?_
          refine AQ.sF rfl rfl (bD (decide_eq_true hc20)) ?_
          refine AQ.sF rfl rfl (bD (decide_eq_true hc20)) ?_
          refine AQ.sF rfl rfl (bD (decide_eq_true hc20)) ?_
          refine AQ.c (Calm.pickT rfl (bD (decide_eq_true hc20)) rfl) ?_
          cases hq15
          refine AQ.nilE rfl ?_
          exact ⟨rfl, rfl, rfl, rfl, trivial⟩
         ·refine AQ.cG (x := .ptr n2 257) rfl rfl (bD (decide_eq_false hc20)) (Calm.fldPtr rfl rfl Try.underlying30 rfl sz25 _ rfl) ?_
          refine AQ.cG rfl rfl (bD (decide_eq_false hc20)) (Calm.load 0 rfl rfl rfl (At.cast (At.fldS (At.fldS (At.fld0 At.here))) rfl) ag25 sz25) ?_
          refine AQ.cG rfl rfl (bD (decide_eq_false hc20)) (Calm.move rfl rfl) ?_
          obtain ⟨hg21, hq15⟩ := of_guard hq15
          refine AQ.cG rfl rfl (bD (decide_eq_false hc20)) (Calm.idxL (f := eI64) rfl rfl rfl hg21 Try.underlying25 sz3) ?_
          refine AQ.cG rfl rfl (bD (decide_eq_false hc20)) (Calm.loadRp rfl rfl ag3 sz3) ?_
          refine AQ.cG (x := eBool (decide ((32768 : Int) ≤ (lget p0.f2 x10)))) rfl rfl (bD (decide_eq_false hc20)) (Calm.int rfl rfl rfl rfl) ?_
          refine AQ.c (Calm.pickF rfl (bD (decide_eq_false hc20)) rfl) ?_
          cases hq15
          refine AQ.nilE rfl ?_
          exact ⟨rfl, rfl, rfl, rfl, trivial⟩
       ·rcases of_ite h with ⟨hc22, h⟩ | ⟨hc22, h⟩
        ·refine AW.condT' _ rfl hc22 ?_
         refine AW.sr ?_
         refine AO.c (Calm.assign rfl rfl) ?_
         refine AO.nH [2] (H' := []) (Sub.nil _) ?_
         refine AW.rK [2] ?_
         have hr := Option.some.inj h
         subst hr
         exact ⟨[(eBool false)], ⟨rfl, rfl, trivial⟩, rfl⟩
        ·refine AW.condF' _ rfl hc22 ?_
         refine AW.sK [1, 3, 4] ?_
         refine AW.sr ?_
         refine AO.c (Calm.assign rfl rfl) ?_
         refine AO.nK [1, 3, 4, 5] ?_
         refine AW.block ?_
         refine AW.wK [1, 3, 4, 5] ?_
         refine AW.loop (fun kq ρ H => ∃ (x23 : Int), ρ = [(1, (.ptr n2 0)), (3, (eI64 (p0.f1.length : Int))), (4, (eI64 x10)), (5, (eI64 x23))] ∧ H = [(n2, (.mem (e30 p0)))] ∧ bosketref08_Right_l2 k rec11 p0 x10 kq x23 = some r) k ⟨(0 : Int), rfl, rfl, h⟩ ?_
         rintro kq25 _ _ ⟨x23, rfl, rfl, h⟩
         cases kq25 with
         | zero => rw [bosketref08_Right_l2.eq_1] at h; cases h
         | succ kq25 =>
         rw [bosketref08_Right_l2.eq_2] at h
         generalize hrec24 : bosketref08_Right_l2 k rec11 p0 x10 kq25 = rec24 at h
         refine AW.seq ?_
         refine AW.sr ?_
         refine AO.c (Calm.move rfl rfl) ?_
         refine AO.c (x := .ptr n2 256) (Calm.fldPtr rfl rfl Try.underlying30 rfl sz28 _ rfl) ?_
         refine AO.c (Calm.load 0 rfl rfl rfl (At.cast (At.fldS (At.fld0 At.here)) rfl) ag28 sz28) ?_
         refine AO.c (Calm.move rfl rfl) ?_
         obtain ⟨hg26, h⟩ := of_guard h
         refine AO.c (Calm.idxL (f := e25) rfl rfl rfl hg26 Try.underlying28 sz25) ?_
         refine AO.c (Calm.loadRp rfl rfl ag25 sz25) ?_
         refine AO.c (Calm.lenL rfl rfl Try.underlying25) ?_
         refine AO.c (x := eBool (decide (x23 < ((lget p0.f1 x10).length : Int)))) (Calm.int rfl rfl rfl rfl) ?_
         refine AO.nK [1, 3, 4, 5, 64] ?_
         rcases of_ite h with ⟨hc27, h⟩ | ⟨hc27, h⟩
         ·refine AW.condP _ rfl hc27 ?_
          refine AW.sK [1, 3, 4, 5] ?_
          refine AW.seq ?_
          refine AW.block ?_
          refine AW.seq ?_
          obtain ⟨b28, hq29, h⟩ := of_bind h
          refine AW.regM [(1, (.ptr n2 0)), (3, (eI64 (p0.f1.length : Int))), (4, (eI64 x10)), (5, (eI64 x23)), (87, (eBool b28))] [(n2, (.mem (e30 p0)))] ?_ ?_
          ·refine AO.c (x := .ptr n2 256) (Calm.fldPtr rfl rfl Try.underlying30 rfl sz28 _ rfl) ?_
           refine AO.c (Calm.load 0 rfl rfl rfl (At.cast (At.fldS (At.fld0 At.here)) rfl) ag28 sz28) ?_
           refine AO.c (Calm.move rfl rfl) ?_
           obtain ⟨hg30, hq29⟩ := of_guard hq29
           refine AO.c (Calm.idxL (f := e25) rfl rfl rfl hg30 Try.underlying28 sz25) ?_
           refine AO.c (Calm.loadRp rfl rfl ag25 sz25) ?_
           refine AO.c (Calm.move rfl rfl) ?_
           obtain ⟨hg31, hq29⟩ := of_guard hq29
           refine AO.c (Calm.idxL (f := eI64) rfl rfl rfl hg31 Try.underlying25 sz3) ?_
           refine AO.c (Calm.loadRp rfl rfl ag3 sz3) ?_
           refine AO.c (x := eBool (decide ((lget (lget p0.f1 x10) x23) < (-1 : Int)))) (Calm.int rfl rfl rfl rfl) ?_
           refine AO.c (Calm.move rfl rfl) ?_
           rcases of_ite hq29 with ⟨hc32, hq29⟩ | ⟨hc32, hq29⟩
           ·refine AO.sF rfl rfl (bD (decide_eq_true hc32)) ?_
            refine AO.sF rfl rfl (bD (decide_eq_true hc32)) ?_
            refine AO.sF rfl rfl (bD (decide_eq_true hc32)) ?_
            refine AO.sF rfl rfl (bD (decide_eq_true hc32)) ?_
            refine AO.sF rfl rfl (bD (decide_eq_true hc32)) ?_
            refine AO.sF rfl rfl (bD (decide_eq_true hc32)) ?_
            refine AO.sF rfl rfl (bD (decide_eq_true hc32)) ?_
            refine AO.sF rfl rfl (bD (decide_eq_true hc32)) ?_
            refine AO.sF rfl rfl (bD (decide_eq_true hc32)) ?_
            refine AO.sF rfl rfl (bD (decide_eq_true hc32)) ?_
            refine AO.c (Calm.pickT rfl (bD (decide_eq_true hc32)) rfl) ?_
            cases hq29
            refine AO.nilE ⟨rfl, rfl⟩ ?_ ?_
            · exact ⟨rfl, rfl, rfl, rfl, rfl, trivial⟩
            · exact (Sub.refl _)
           ·refine AO.cG (x := .ptr n2 256) rfl rfl (bD (decide_eq_false hc32)) (Calm.fldPtr rfl rfl Try.underlying30 rfl sz28 _ rfl) ?_
            refine AO.cG rfl rfl (bD (decide_eq_false hc32)) (Calm.load 0 rfl rfl rfl (At.cast (At.fldS (At.fld0 At.here)) rfl) ag28 sz28) ?_
            refine AO.cG rfl rfl (bD (decide_eq_false hc32)) (Calm.move rfl rfl) ?_
            obtain ⟨hg33, hq29⟩ := of_guard hq29
            refine AO.cG rfl rfl (bD (decide_eq_false hc32)) (Calm.idxL (f := e25) rfl rfl rfl hg33 Try.underlying28 sz25) ?_
            refine AO.cG rfl rfl (bD (decide_eq_false hc32)) (Calm.loadRp rfl rfl ag25 sz25) ?_
            refine AO.cG rfl rfl (bD (decide_eq_false hc32)) (Calm.move rfl rfl) ?_
            obtain ⟨hg34, hq29⟩ := of_guard hq29
            refine AO.cG rfl rfl (bD (decide_eq_false hc32)) (Calm.idxL (f := eI64) rfl rfl rfl hg34 Try.underlying25 sz3) ?_
            refine AO.cG rfl rfl (bD (decide_eq_false hc32)) (Calm.loadRp rfl rfl ag3 sz3) ?_
            refine AO.cG rfl rfl (bD (decide_eq_false hc32)) (Calm.move rfl rfl) ?_
            refine AO.cG (x := eBool (decide ((p0.f1.length : Int) ≤ (lget (lget p0.f1 x10) x23)))) rfl rfl (bD (decide_eq_false hc32)) (Calm.int rfl rfl rfl rfl) ?_
            refine AO.c (Calm.pickF rfl (bD (decide_eq_false hc32)) rfl) ?_
            cases hq29
            refine AO.nilE ⟨rfl, rfl⟩ ?_ ?_
            · exact ⟨rfl, rfl, rfl, rfl, rfl, trivial⟩
            · exact (Sub.refl _)
          ·rcases of_ite h with ⟨hc35, h⟩ | ⟨hc35, h⟩
           ·refine AW.condT' _ rfl hc35 ?_
            refine AW.sr ?_
            refine AO.c (Calm.assign rfl rfl) ?_
            refine AO.nH [2] (H' := []) (Sub.nil _) ?_
            refine AW.rK [2] ?_
            have hr := Option.some.inj h
            subst hr
            exact ⟨[(eBool false)], ⟨rfl, rfl, trivial⟩, rfl⟩
           ·refine AW.condF' _ rfl hc35 ?_
            refine AW.sK [1, 3, 4, 5] ?_
            refine AW.reg ?_
            refine AO.c (Calm.move rfl rfl) ?_
            refine AO.c (x := eI64 (w64 (x23 + (1 : Int)))) (Calm.int rfl rfl rfl rfl) ?_
            refine AO.c (Calm.assign rfl rfl) ?_
            refine AO.nK [1, 3, 4, 5] ?_
            exact ⟨kq25, Nat.lt_succ_self _, (w64 (x23 + (1 : Int))), rfl, rfl, by rw [hrec24]; exact h⟩
         ·refine AW.condN _ rfl hc27 ?_
          refine AW.eK [1, 3, 4] ?_
          exact ⟨rfl, rfl, h⟩
      ·rintro _ _ ⟨rfl, rfl, h⟩
       rw [bosketref08_Right_c1.eq_1] at h
       refine AW.reg ?_
       refine AO.c (Calm.move rfl rfl) ?_
       refine AO.c (x := eI64 (w64 (x10 + (1 : Int)))) (Calm.int rfl rfl rfl rfl) ?_
       refine AO.c (Calm.assign rfl rfl) ?_
       refine AO.nK [1, 3, 4] ?_
       exact ⟨kq12, Nat.lt_succ_self _, (w64 (x10 + (1 : Int))), rfl, rfl, by rw [hrec11]; exact h⟩
     ·refine AW.condN _ rfl hc13 ?_
      refine AW.eH [] (H' := []) (Sub.nil _) ?_
      exact ⟨rfl, rfl, h⟩
    ·rintro _ _ ⟨rfl, rfl, h⟩
     rw [bosketref08_Right_c0.eq_1] at h
     refine AW.sr ?_
     refine AO.c (Calm.assign rfl rfl) ?_
     refine AO.nK [2] ?_
     refine AW.rK [2] ?_
     have hr := Option.some.inj h
     subst hr
     exact ⟨[(eBool true)], ⟨rfl, rfl, trivial⟩, rfl⟩
end Go.Avl.T5
/- bosket/bosketref08.place; printed by avmain.py. -/
namespace Go.Avl.T5
open Go Go.RowKit Go.Proofs Go.Avl
set_option linter.unusedVariables false
set_option maxRecDepth 100000
set_option maxHeartbeats 4000000
attribute [local irreducible] AW AO AQ Spec SpecH Calm

def bosketref08_place_c0 (k : Nat) : Option Int :=
  some ((-1 : Int))
def bosketref08_place_l1 (k : Nat) (p0 : (List Int)) (p1 : Int) : Nat → Int → Option Int
  | 0, _ => none
  | j + 1, x3 =>
    if x3 < (p0.length : Int) then if 0 ≤ x3 ∧ x3 < (p0.length : Int) then if (lget p0 x3) = p1 then some (x3)
    else (bosketref08_place_l1 k p0 p1 j) (w64 (x3 + (1 : Int)))
    else none
    else bosketref08_place_c0 k
def bosketref08_place (k : Nat) (p0 : (List Int)) (p1 : Int) : Option Int :=
  bosketref08_place_l1 k p0 p1 k (0 : Int)
theorem bosketref08_place_spec {k : Nat} {p0 : (List Int)} {p1 : Int} {r : Int} (h : bosketref08_place k p0 p1 = some r) : Spec Try.prog 71 [(.fz 1 (p0.map eI64)), (eI64 p1)] (eI64 r) := by
  rw [bosketref08_place.eq_1] at h
  refine Spec.intro (res := [.tmp 4]) Try.func71 rfl rfl rfl (Nat.le_of_ble_eq_true rfl) ?_
  refine AW.sr ?_
  refine AO.c (Calm.assign rfl rfl) ?_
  refine AO.nK [0, 1] ?_
  refine AW.seq_mid (fun ρ H => ρ = [] ∧ H = [] ∧ bosketref08_place_c0 k = some r) ?_ ?_
  ·refine AW.sr ?_
   refine AO.c (Calm.assign rfl rfl) ?_
   refine AO.nK [0, 1, 5] ?_
   refine AW.block ?_
   refine AW.wK [0, 1, 5] ?_
   refine AW.loop (fun kq ρ H => ∃ (x3 : Int), ρ = [(0, (.fz 1 (p0.map eI64))), (1, (eI64 p1)), (5, (eI64 x3))] ∧ H = [] ∧ bosketref08_place_l1 k p0 p1 kq x3 = some r) k ⟨(0 : Int), rfl, rfl, h⟩ ?_
   rintro kq5 _ _ ⟨x3, rfl, rfl, h⟩
   cases kq5 with
   | zero => rw [bosketref08_place_l1.eq_1] at h; cases h
   | succ kq5 =>
   rw [bosketref08_place_l1.eq_2] at h
   generalize hrec4 : bosketref08_place_l1 k p0 p1 kq5 = rec4 at h
   refine AW.seq ?_
   refine AW.sr ?_
   refine AO.c (Calm.move rfl rfl) ?_
   refine AO.c (Calm.move rfl rfl) ?_
   refine AO.c (Calm.lenL rfl rfl Try.underlying25) ?_
   refine AO.c (x := eBool (decide (x3 < (p0.length : Int)))) (Calm.int rfl rfl rfl rfl) ?_
   refine AO.nK [0, 1, 5, 9] ?_
   rcases of_ite h with ⟨hc6, h⟩ | ⟨hc6, h⟩
   ·refine AW.condP _ rfl hc6 ?_
    refine AW.sK [0, 1, 5] ?_
    refine AW.seq ?_
    refine AW.block ?_
    refine AW.sr ?_
    refine AO.c (Calm.move rfl rfl) ?_
    refine AO.c (Calm.move rfl rfl) ?_
    obtain ⟨hg7, h⟩ := of_guard h
    refine AO.c (Calm.idxL (f := eI64) rfl rfl rfl hg7 Try.underlying25 sz3) ?_
    refine AO.c (Calm.loadRp rfl rfl ag3 sz3) ?_
    refine AO.c (Calm.move rfl rfl) ?_
    refine AO.c (x := eBool (decide ((lget p0 x3) = p1))) (Calm.int rfl rfl rfl rfl) ?_
    refine AO.nK [0, 1, 5, 17] ?_
    rcases of_ite h with ⟨hc8, h⟩ | ⟨hc8, h⟩
    ·refine AW.condP _ rfl hc8 ?_
     refine AW.sr ?_
     refine AO.c (Calm.move rfl rfl) ?_
     refine AO.c (Calm.assign rfl rfl) ?_
     refine AO.nK [4] ?_
     refine AW.rK [4] ?_
     have hr := Option.some.inj h
     subst hr
     exact ⟨[(eI64 x3)], ⟨rfl, rfl, trivial⟩, rfl⟩
    ·refine AW.condN _ rfl hc8 ?_
     refine AW.sK [0, 1, 5] ?_
     refine AW.reg ?_
     refine AO.c (Calm.move rfl rfl) ?_
     refine AO.c (x := eI64 (w64 (x3 + (1 : Int)))) (Calm.int rfl rfl rfl rfl) ?_
     refine AO.c (Calm.assign rfl rfl) ?_
     refine AO.nK [0, 1, 5] ?_
     exact ⟨kq5, Nat.lt_succ_self _, (w64 (x3 + (1 : Int))), rfl, rfl, by rw [hrec4]; exact h⟩
   ·refine AW.condN _ rfl hc6 ?_
    refine AW.eK [] ?_
    exact ⟨rfl, rfl, h⟩
  ·rintro _ _ ⟨rfl, rfl, h⟩
   rw [bosketref08_place_c0.eq_1] at h
   refine AW.sr ?_
   refine AO.c (Calm.assign rfl rfl) ?_
   refine AO.nK [4] ?_
   refine AW.rK [4] ?_
   have hr := Option.some.inj h
   subst hr
   exact ⟨[(eI64 (-1 : Int))], ⟨rfl, rfl, trivial⟩, rfl⟩
end Go.Avl.T5
/- bosket/bosketref08.Order; printed by avmain.py. -/
namespace Go.Avl.T5
open Go Go.RowKit Go.Proofs Go.Avl
set_option linter.unusedVariables false
set_option maxRecDepth 100000
set_option maxHeartbeats 4000000
set_option linter.unusedSimpArgs false
attribute [local irreducible] AW AO AQ Spec SpecH Calm

def bosketref08_Order_c0 (k : Nat) (p0 : S30) (x7 : (List (List Int))) (x9 : (List Int)) : Option S30 :=
  some ((S30.mk p0.f0 x7 x9))
def bosketref08_Order_c1 (k : Nat) (rec17 : ((List Int) → (List (List Int)) → (List Int) → Int → Option S30)) (x16 : Int) (x21 : (List Int)) (x23 : (List (List Int))) (x25 : (List Int)) : Option S30 :=
  rec17 x21 x23 x25 (w64 (x16 + (1 : Int)))
def bosketref08_Order_c2 (k : Nat) (rec17 : ((List Int) → (List (List Int)) → (List Int) → Int → Option S30)) (p0 : S30) (x13 : (List (List Int))) (x15 : (List Int)) (x16 : Int) (x27 : (List Int)) (x29 : (List Int)) : Option S30 :=
  if (x13 ++ ([x29] : List (List Int))).length * 24 ≤ 140737488355328 then if 0 ≤ x16 ∧ x16 < (x27.length : Int) then if 0 ≤ (lget x27 x16) ∧ (lget x27 x16) < (p0.f2.length : Int) then if (x15 ++ ([(lget p0.f2 (lget x27 x16))] : List Int)).length * 8 ≤ 140737488355328 then bosketref08_Order_c1 k rec17 x16 x27 (x13 ++ ([x29] : List (List Int))) (x15 ++ ([(lget p0.f2 (lget x27 x16))] : List Int))
  else none
  else none
  else none
  else none
def bosketref08_Order_c3 (k : Nat) (rec43 : ((List Int) → (List Int) → Int → Option S30)) (p0 : S30) (x16 : Int) (x39 : (List Int)) (x41 : (List Int)) (x42 : Int) (x52 : (List Int)) : Option S30 :=
  (bosketref08_place k x52 (lget (lget p0.f1 (lget x39 x16)) x42)).bind fun t53 =>
  if (x41 ++ ([t53] : List Int)).length * 8 ≤ 140737488355328 then rec43 x52 (x41 ++ ([t53] : List Int)) (w64 (x42 + (1 : Int)))
  else none
def bosketref08_Order_l4 (k : Nat) (rec17 : ((List Int) → (List (List Int)) → (List Int) → Int → Option S30)) (p0 : S30) (x13 : (List (List Int))) (x15 : (List Int)) (x16 : Int) : Nat → (List Int) → (List Int) → Int → Option S30
  | 0, _, _, _ => none
  | j + 1, x39, x41, x42 =>
    if 0 ≤ x16 ∧ x16 < (x39.length : Int) then if 0 ≤ (lget x39 x16) ∧ (lget x39 x16) < (p0.f1.length : Int) then if x42 < ((lget p0.f1 (lget x39 x16)).length : Int) then if 0 ≤ x16 ∧ x16 < (x39.length : Int) then if 0 ≤ (lget x39 x16) ∧ (lget x39 x16) < (p0.f1.length : Int) then if 0 ≤ x42 ∧ x42 < ((lget p0.f1 (lget x39 x16)).length : Int) then Option.bind (α := Bool) (if (0 : Int) ≤ (lget (lget p0.f1 (lget x39 x16)) x42) then (bosketref08_place k x39 (lget (lget p0.f1 (lget x39 x16)) x42)).bind fun t60 =>
    some (decide (t60 < (0 : Int)))
    else some (false)) fun b57 =>
    if b57 = true then if (x39 ++ ([(lget (lget p0.f1 (lget x39 x16)) x42)] : List Int)).length * 8 ≤ 140737488355328 then bosketref08_Order_c3 k (bosketref08_Order_l4 k rec17 p0 x13 x15 x16 j) p0 x16 x39 x41 x42 (x39 ++ ([(lget (lget p0.f1 (lget x39 x16)) x42)] : List Int))
    else none
    else bosketref08_Order_c3 k (bosketref08_Order_l4 k rec17 p0 x13 x15 x16 j) p0 x16 x39 x41 x42 x39
    else none
    else none
    else none
    else bosketref08_Order_c2 k rec17 p0 x13 x15 x16 x39 x41
    else none
    else none
def bosketref08_Order_l5 (k : Nat) (p0 : S30) : Nat → (List Int) → (List (List Int)) → (List Int) → Int → Option S30
  | 0, _, _, _, _ => none
  | j + 1, x11, x13, x15, x16 =>
    if x16 < (x11.length : Int) then bosketref08_Order_l4 k (bosketref08_Order_l5 k p0 j) p0 x13 x15 x16 k x11 ([] : List Int) (0 : Int)
    else bosketref08_Order_c0 k p0 x13 x15
def bosketref08_Order (k : Nat) (p0 : S30) : Option S30 :=
  bosketref08_Order_l5 k p0 k ([(0 : Int)] : List Int) ([] : List (List Int)) ([] : List Int) (0 : Int)
theorem bosketref08_Order_spec {k : Nat} {p0 : S30} {r : S30} (h : bosketref08_Order k p0 = some r) : Spec Try.prog 37 [(e30 p0)] (e30 r) := by
  rw [bosketref08_Order.eq_1] at h
  refine Spec.intro (res := [.cell 2 30]) Try.func37 rfl rfl rfl (Nat.le_of_ble_eq_true rfl) ?_
  refine AW.sr ?_
  refine AO.box rfl 1 rfl (by decide) rfl rfl rfl fun n2 => ?_
  refine AO.alloc rfl 2 rfl (by decide) rfl zr30 lay30 fun n3 => ?_
  refine AO.nH [1, 2] (H' := [(n2, (.mem (e30 p0))), (n3, (.mem (.st [(256, (.ar 1 ((Vector.replicate 256 (0 : Int)).toList.map eU8))), (1, (.fl (.slice none 0 0))), (1, (.fl (.slice none 0 0)))])))]) (Sub.cons 1 rfl (Sub.cons 0 rfl (Sub.nil _))) ?_
  refine AW.sr ?_
  refine AO.lit (Z := (eI64 (0 : Int))) (xs := (([(0 : Int)] : List Int).map eI64)) (qs := [(0, (eI64 (0 : Int)))]) rfl 9 rfl (by decide) rfl ⟨rfl, rfl, rfl, trivial⟩ Try.underlying25 sz3 zr3 lay3 rfl (by decide) (litOK (z := 1) [(eI64 (0 : Int))] rfl ⟨⟨rfl, rfl⟩, trivial⟩) rfl fun n4 => ?_
  refine AO.c (Calm.assign rfl rfl) ?_
  refine AO.nH [1, 2, 3] (H' := [(n2, (.mem (e30 p0))), (n3, (.mem (.st [(256, (.ar 1 ((Vector.replicate 256 (0 : Int)).toList.map eU8))), (1, (.fl (.slice none 0 0))), (1, (.fl (.slice none 0 0)))]))), (n4, (.mem (.ar 1 (([(0 : Int)] : List Int).map eI64))))]) (Sub.cons 1 rfl (Sub.cons 1 rfl (Sub.cons 0 rfl (Sub.nil _)))) ?_
  refine AW.sr ?_
  refine AO.c (x := .ptr n2 0) (Calm.fldPtr rfl rfl Try.underlying30 rfl sz27 _ rfl) ?_
  refine AO.c (Calm.load 0 rfl rfl rfl (At.cast (At.fld0 At.here) rfl) ag27 (by rw [sz27]; simp [AV.size])) ?_
  refine AO.c (x := .st [(256, (.ar 1 (p0.f0.toList.map eU8))), (1, (.fl (.slice none 0 0))), (1, (.fl (.slice none 0 0)))]) (Calm.build (qs := [(0, (.ar 1 (p0.f0.toList.map eU8)))]) rfl ⟨rfl, rfl, rfl, trivial⟩ Try.underlying30 rfl zr30 lay30 (.cons rfl rfl (vec_size _ _) (vec_size _ _) (Put.cast (Put.fld0 Put.here) rfl) .nil) rfl) ?_
  refine AO.alloc rfl 4 rfl (by decide) rfl zr30 lay30 fun n5 => ?_
  refine AO.store (X' := (.st [(256, (.ar 1 (p0.f0.toList.map eU8))), (1, (.fl (.slice none 0 0))), (1, (.fl (.slice none 0 0)))])) 0 rfl rfl rfl rfl rfl rfl (Put.cast Put.here rfl) rfl rfl sz30 rfl ?_
  refine AO.nH [1, 2, 3, 4] (H' := [(n2, (.mem (e30 p0))), (n3, (.mem (.st [(256, (.ar 1 ((Vector.replicate 256 (0 : Int)).toList.map eU8))), (1, (.fl (.slice none 0 0))), (1, (.fl (.slice none 0 0)))]))), (n4, (.mem (.ar 1 (([(0 : Int)] : List Int).map eI64)))), (n5, (.mem (.st [(256, (.ar 1 (p0.f0.toList.map eU8))), (1, (.fl (.slice none 0 0))), (1, (.fl (.slice none 0 0)))])))]) (Sub.cons 1 rfl (Sub.cons 1 rfl (Sub.cons 1 rfl (Sub.cons 0 rfl (Sub.nil _))))) ?_
  refine AW.seq_mid (fun ρ H => ∃ (n6 : Nat) (n8 : Nat) (x7 : (List (List Int))) (x9 : (List Int)), ρ = [(2, (.ptr n3 0)), (4, (.ptr n5 0))] ∧ H = [(n3, (.mem (.st [(256, (.ar 1 ((Vector.replicate 256 (0 : Int)).toList.map eU8))), (1, (.fl (.slice none 0 0))), (1, (.fl (.slice none 0 0)))]))), (n5, (.mem (.st [(256, (.ar 1 (p0.f0.toList.map eU8))), (1, (.own n6 0 x7.length)), (1, (.own n8 0 x9.length))]))), (n6, (.mem (.ar 1 (x7.map e25)))), (n8, (.mem (.ar 1 (x9.map eI64))))] ∧ bosketref08_Order_c0 k p0 x7 x9 = some r) ?_ ?_
  ·refine AW.sr ?_
   refine AO.c (Calm.assign rfl rfl) ?_
   refine AO.nK [1, 2, 3, 4, 5] ?_
   refine AW.block ?_
   refine AW.nilOwnFld 3 1 (fun n66 => (.st [(256, (.ar 1 (p0.f0.toList.map eU8))), (1, (.own n66 0 0)), (1, (.fl (.slice none 0 0)))])) rfl (fun _ => (Put.cast (Put.fldS (Put.fld0 Put.here)) rfl)) (fun _ => rfl) (fun _ => rfl) fun n66 => ?_
   refine AW.nilOwnFld 4 1 (fun n67 => (.st [(256, (.ar 1 (p0.f0.toList.map eU8))), (1, (.own n66 0 ([] : List (List Int)).length)), (1, (.own n67 0 0))])) rfl (fun _ => (Put.cast (Put.fldS (Put.fldS (Put.fld0 Put.here))) rfl)) (fun _ => rfl) (fun _ => rfl) fun n67 => ?_
   refine AW.wH [1, 2, 3, 4, 5] (H' := [(n2, (.mem (e30 p0))), (n3, (.mem (.st [(256, (.ar 1 ((Vector.replicate 256 (0 : Int)).toList.map eU8))), (1, (.fl (.slice none 0 0))), (1, (.fl (.slice none 0 0)))]))), (n4, (.mem (.ar 1 (([(0 : Int)] : List Int).map eI64)))), (n5, (.mem (.st [(256, (.ar 1 (p0.f0.toList.map eU8))), (1, (.own n66 0 ([] : List (List Int)).length)), (1, (.own n67 0 ([] : List Int).length))]))), (n66, (.mem (.ar 1 (([] : List (List Int)).map e25)))), (n67, (.mem (.ar 1 (([] : List Int).map eI64))))]) (Sub.cons 2 rfl (Sub.cons 2 rfl (Sub.cons 2 rfl (Sub.cons 2 rfl (Sub.cons 1 rfl (Sub.cons 0 rfl (Sub.nil _))))))) ?_
   refine AW.loop (fun kq ρ H => ∃ (n10 : Nat) (n12 : Nat) (n14 : Nat) (x11 : (List Int)) (x13 : (List (List Int))) (x15 : (List Int)) (x16 : Int), ρ = [(1, (.ptr n2 0)), (2, (.ptr n3 0)), (3, (.own n10 0 x11.length)), (4, (.ptr n5 0)), (5, (eI64 x16))] ∧ H = [(n2, (.mem (e30 p0))), (n3, (.mem (.st [(256, (.ar 1 ((Vector.replicate 256 (0 : Int)).toList.map eU8))), (1, (.fl (.slice none 0 0))), (1, (.fl (.slice none 0 0)))]))), (n10, (.mem (.ar 1 (x11.map eI64)))), (n5, (.mem (.st [(256, (.ar 1 (p0.f0.toList.map eU8))), (1, (.own n12 0 x13.length)), (1, (.own n14 0 x15.length))]))), (n12, (.mem (.ar 1 (x13.map e25)))), (n14, (.mem (.ar 1 (x15.map eI64))))] ∧ bosketref08_Order_l5 k p0 kq x11 x13 x15 x16 = some r) k ⟨n4, n66, n67, ([(0 : Int)] : List Int), ([] : List (List Int)), ([] : List Int), (0 : Int), rfl, rfl, h⟩ ?_
   rintro kq18 _ _ ⟨n10, n12, n14, x11, x13, x15, x16, rfl, rfl, h⟩
   cases kq18 with
   | zero => rw [bosketref08_Order_l5.eq_1] at h; cases h
   | succ kq18 =>
   rw [bosketref08_Order_l5.eq_2] at h
   generalize hrec17 : bosketref08_Order_l5 k p0 kq18 = rec17 at h
   refine AW.seq ?_
   refine AW.sr ?_
   refine AO.c (Calm.move rfl rfl) ?_
   refine AO.c (Calm.move rfl rfl) ?_
   refine AO.c (Calm.lenOwn rfl rfl Try.underlying25) ?_
   refine AO.c (x := eBool (decide (x16 < (x11.length : Int)))) (Calm.int rfl rfl rfl rfl) ?_
   refine AO.nK [1, 2, 3, 4, 5, 16] ?_
   rcases of_ite h with ⟨hc19, h⟩ | ⟨hc19, h⟩
   ·refine AW.condP _ rfl hc19 ?_
    refine AW.sK [1, 2, 3, 4, 5] ?_
    refine AW.seq_mid (fun ρ H => ∃ (n20 : Nat) (n22 : Nat) (n24 : Nat) (x21 : (List Int)) (x23 : (List (List Int))) (x25 : (List Int)), ρ = [(1, (.ptr n2 0)), (2, (.ptr n3 0)), (3, (.own n20 0 x21.length)), (4, (.ptr n5 0)), (5, (eI64 x16))] ∧ H = [(n2, (.mem (e30 p0))), (n3, (.mem (.st [(256, (.ar 1 ((Vector.replicate 256 (0 : Int)).toList.map eU8))), (1, (.fl (.slice none 0 0))), (1, (.fl (.slice none 0 0)))]))), (n20, (.mem (.ar 1 (x21.map eI64)))), (n5, (.mem (.st [(256, (.ar 1 (p0.f0.toList.map eU8))), (1, (.own n22 0 x23.length)), (1, (.own n24 0 x25.length))]))), (n22, (.mem (.ar 1 (x23.map e25)))), (n24, (.mem (.ar 1 (x25.map eI64))))] ∧ bosketref08_Order_c1 k rec17 x16 x21 x23 x25 = some r) ?_ ?_
    ·refine AW.block ?_
     refine AW.sr ?_
     refine AO.c (Calm.assign rfl rfl) ?_
     refine AO.nK [1, 2, 3, 4, 5, 6] ?_
     refine AW.seq_mid (fun ρ H => ∃ (n26 : Nat) (n28 : Nat) (x27 : (List Int)) (x29 : (List Int)), ρ = [(1, (.ptr n2 0)), (2, (.ptr n3 0)), (3, (.own n26 0 x27.length)), (4, (.ptr n5 0)), (5, (eI64 x16)), (6, (.own n28 0 x29.length))] ∧ H = [(n2, (.mem (e30 p0))), (n3, (.mem (.st [(256, (.ar 1 ((Vector.replicate 256 (0 : Int)).toList.map eU8))), (1, (.fl (.slice none 0 0))), (1, (.fl (.slice none 0 0)))]))), (n26, (.mem (.ar 1 (x27.map eI64)))), (n5, (.mem (.st [(256, (.ar 1 (p0.f0.toList.map eU8))), (1, (.own n12 0 x13.length)), (1, (.own n14 0 x15.length))]))), (n12, (.mem (.ar 1 (x13.map e25)))), (n14, (.mem (.ar 1 (x15.map eI64)))), (n28, (.mem (.ar 1 (x29.map eI64))))] ∧ bosketref08_Order_c2 k rec17 p0 x13 x15 x16 x27 x29 = some r) ?_ ?_
     ·refine AW.sr ?_
      refine AO.c (Calm.assign rfl rfl) ?_
      refine AO.nK [1, 2, 3, 4, 5, 6, 7] ?_
      refine AW.block ?_
      refine AW.nilOwn 6 1 rfl fun n65 => ?_
      refine AW.wH [1, 2, 3, 4, 5, 6, 7] (H' := [(n2, (.mem (e30 p0))), (n3, (.mem (.st [(256, (.ar 1 ((Vector.replicate 256 (0 : Int)).toList.map eU8))), (1, (.fl (.slice none 0 0))), (1, (.fl (.slice none 0 0)))]))), (n10, (.mem (.ar 1 (x11.map eI64)))), (n5, (.mem (.st [(256, (.ar 1 (p0.f0.toList.map eU8))), (1, (.own n12 0 x13.length)), (1, (.own n14 0 x15.length))]))), (n12, (.mem (.ar 1 (x13.map e25)))), (n14, (.mem (.ar 1 (x15.map eI64)))), (n65, (.mem (.ar 1 (([] : List Int).map eI64))))]) (Sub.cons 1 rfl (Sub.cons 1 rfl (Sub.cons 1 rfl (Sub.cons 1 rfl (Sub.cons 1 rfl (Sub.cons 1 rfl (Sub.cons 0 rfl (Sub.nil _)))))))) ?_
      refine AW.loop (fun kq ρ H => ∃ (n38 : Nat) (n40 : Nat) (x39 : (List Int)) (x41 : (List Int)) (x42 : Int), ρ = [(1, (.ptr n2 0)), (2, (.ptr n3 0)), (3, (.own n38 0 x39.length)), (4, (.ptr n5 0)), (5, (eI64 x16)), (6, (.own n40 0 x41.length)), (7, (eI64 x42))] ∧ H = [(n2, (.mem (e30 p0))), (n3, (.mem (.st [(256, (.ar 1 ((Vector.replicate 256 (0 : Int)).toList.map eU8))), (1, (.fl (.slice none 0 0))), (1, (.fl (.slice none 0 0)))]))), (n38, (.mem (.ar 1 (x39.map eI64)))), (n5, (.mem (.st [(256, (.ar 1 (p0.f0.toList.map eU8))), (1, (.own n12 0 x13.length)), (1, (.own n14 0 x15.length))]))), (n12, (.mem (.ar 1 (x13.map e25)))), (n14, (.mem (.ar 1 (x15.map eI64)))), (n40, (.mem (.ar 1 (x41.map eI64))))] ∧ bosketref08_Order_l4 k rec17 p0 x13 x15 x16 kq x39 x41 x42 = some r) k ⟨n10, n65, x11, ([] : List Int), (0 : Int), rfl, rfl, h⟩ ?_
      rintro kq44 _ _ ⟨n38, n40, x39, x41, x42, rfl, rfl, h⟩
      cases kq44 with
      | zero => rw [bosketref08_Order_l4.eq_1] at h; cases h
      | succ kq44 =>
      rw [bosketref08_Order_l4.eq_2] at h
      generalize hrec43 : bosketref08_Order_l4 k rec17 p0 x13 x15 x16 kq44 = rec43 at h
      refine AW.seq ?_
      refine AW.seq ?_
      refine AW.regQ (by rfl) (by decide +kernel) ?_
      refine AQ.c (Calm.move rfl rfl) ?_
      refine AQ.c (x := .ptr n2 256) (Calm.fldPtr rfl rfl Try.underlying30 rfl sz28 _ rfl) ?_
      refine AQ.c (Calm.load 0 rfl rfl rfl (At.cast (At.fldS (At.fld0 At.here)) rfl) ag28 sz28) ?_
      refine AQ.c (Calm.move rfl rfl) ?_
      refine AQ.c (Calm.move rfl rfl) ?_
      obtain ⟨hg45, h⟩ := of_guard h
      refine AQ.c (Calm.idxO 2 rfl rfl rfl rfl hg45 Try.underlying25 sz3) ?_
      refine AQ.c (Calm.load 2 rfl rfl rfl (At.cast (At.lidx x16 hg45.1 hg45.2 At.here) (by omega)) ag3 sz3) ?_
      obtain ⟨hg46, h⟩ := of_guard h
      refine AQ.c (Calm.idxL (f := e25) rfl rfl rfl hg46 Try.underlying28 sz25) ?_
      refine AQ.c (Calm.loadRp rfl rfl ag25 sz25) ?_
      refine AQ.c (Calm.lenL rfl rfl Try.underlying25) ?_
      refine AQ.c (x := eBool (decide (x42 < ((lget p0.f1 (lget x39 x16)).length : Int)))) (Calm.int rfl rfl rfl rfl) ?_
      refine AQ.nK [1, 2, 3, 4, 5, 6, 7, 29] ?_
      rcases of_ite h with ⟨hc47, h⟩ | ⟨hc47, h⟩
      ·refine AW.condP _ rfl hc47 ?_
       refine AW.sK [1, 2, 3, 4, 5, 6, 7] ?_
       refine AW.seq ?_
       refine AW.block ?_
       refine AW.seq ?_
       refine AW.regQ (by rfl) (by decide +kernel) ?_
       refine AQ.c (x := .ptr n2 256) (Calm.fldPtr rfl rfl Try.underlying30 rfl sz28 _ rfl) ?_
       refine AQ.c (Calm.load 0 rfl rfl rfl (At.cast (At.fldS (At.fld0 At.here)) rfl) ag28 sz28) ?_
       refine AQ.c (Calm.move rfl rfl) ?_
       refine AQ.c (Calm.move rfl rfl) ?_
       obtain ⟨hg48, h⟩ := of_guard h
       refine AQ.c (Calm.idxO 2 rfl rfl rfl rfl hg48 Try.underlying25 sz3) ?_
       refine AQ.c (Calm.load 2 rfl rfl rfl (At.cast (At.lidx x16 hg48.1 hg48.2 At.here) (by omega)) ag3 sz3) ?_
       obtain ⟨hg49, h⟩ := of_guard h
       refine AQ.c (Calm.idxL (f := e25) rfl rfl rfl hg49 Try.underlying28 sz25) ?_
       refine AQ.c (Calm.loadRp rfl rfl ag25 sz25) ?_
       refine AQ.c (Calm.move rfl rfl) ?_
       obtain ⟨hg50, h⟩ := of_guard h
       refine AQ.c (Calm.idxL (f := eI64) rfl rfl rfl hg50 Try.underlying25 sz3) ?_
       refine AQ.c (Calm.loadRp rfl rfl ag3 sz3) ?_
       refine AQ.c (Calm.assign rfl rfl) ?_
       refine AQ.nK [1, 2, 3, 4, 5, 6, 7, 8] ?_
       refine AW.seq_mid (fun ρ H => ∃ (n51 : Nat) (x52 : (List Int)), ρ = [(1, (.ptr n2 0)), (2, (.ptr n3 0)), (3, (.own n51 0 x52.length)), (4, (.ptr n5 0)), (5, (eI64 x16)), (6, (.own n40 0 x41.length)), (7, (eI64 x42)), (8, (eI64 (lget (lget p0.f1 (lget x39 x16)) x42)))] ∧ H = [(n2, (.mem (e30 p0))), (n3, (.mem (.st [(256, (.ar 1 ((Vector.replicate 256 (0 : Int)).toList.map eU8))), (1, (.fl (.slice none 0 0))), (1, (.fl (.slice none 0 0)))]))), (n51, (.mem (.ar 1 (x52.map eI64)))), (n5, (.mem (.st [(256, (.ar 1 (p0.f0.toList.map eU8))), (1, (.own n12 0 x13.length)), (1, (.own n14 0 x15.length))]))), (n12, (.mem (.ar 1 (x13.map e25)))), (n14, (.mem (.ar 1 (x15.map eI64)))), (n40, (.mem (.ar 1 (x41.map eI64))))] ∧ bosketref08_Order_c3 k rec43 p0 x16 x39 x41 x42 x52 = some r) ?_ ?_
       ·refine AW.seq ?_
        obtain ⟨b57, hq58, h⟩ := of_bind h
        refine AW.regM [(1, (.ptr n2 0)), (2, (.ptr n3 0)), (3, (.own n38 0 x39.length)), (4, (.ptr n5 0)), (5, (eI64 x16)), (6, (.own n40 0 x41.length)), (7, (eI64 x42)), (8, (eI64 (lget (lget p0.f1 (lget x39 x16)) x42))), (50, (eBool b57))] [(n2, (.mem (e30 p0))), (n3, (.mem (.st [(256, (.ar 1 ((Vector.replicate 256 (0 : Int)).toList.map eU8))), (1, (.fl (.slice none 0 0))), (1, (.fl (.slice none 0 0)))]))), (n38, (.mem (.ar 1 (x39.map eI64)))), (n5, (.mem (.st [(256, (.ar 1 (p0.f0.toList.map eU8))), (1, (.own n12 0 x13.length)), (1, (.own n14 0 x15.length))]))), (n12, (.mem (.ar 1 (x13.map e25)))), (n14, (.mem (.ar 1 (x15.map eI64)))), (n40, (.mem (.ar 1 (x41.map eI64))))] ?_ ?_
        ·refine AO.c (Calm.move rfl rfl) ?_
         refine AO.c (x := eBool (decide ((0 : Int) ≤ (lget (lget p0.f1 (lget x39 x16)) x42)))) (Calm.int rfl rfl rfl rfl) ?_
         refine AO.c (Calm.move rfl rfl) ?_
         rcases of_ite hq58 with ⟨hc59, hq58⟩ | ⟨hc59, hq58⟩
         ·refine AO.cG rfl rfl (bD (decide_eq_true hc59)) (Calm.move rfl rfl) ?_
          refine AO.cG rfl rfl (bD (decide_eq_true hc59)) (Calm.move rfl rfl) ?_
          obtain ⟨t60, et60, hq58⟩ := of_bind hq58
          refine AO.cG rfl rfl (bD (decide_eq_true hc59)) (Calm.callB (args := [(.fz 1 (x39.map eI64)), (eI64 (lget (lget p0.f1 (lget x39 x16)) x42))]) rfl rfl ok71 ⟨.inr ⟨_, 0, _, _, _, 2, rfl, rfl, by simp, by rw [own_all]⟩, .inl ⟨rfl, rfl⟩, trivial⟩ rfl (bosketref08_place_spec et60)) ?_
          refine AO.cG (x := eBool (decide (t60 < (0 : Int)))) rfl rfl (bD (decide_eq_true hc59)) (Calm.int rfl rfl rfl rfl) ?_
          refine AO.c (Calm.pickT rfl (bD (decide_eq_true hc59)) rfl) ?_
          cases hq58
          refine AO.nilE ⟨rfl, rfl⟩ ?_ ?_
          · exact ⟨rfl, rfl, rfl, rfl, rfl, rfl, rfl, rfl, rfl, trivial⟩
          · exact (Sub.refl _)
         ·refine AO.sT rfl rfl (bD (decide_eq_false hc59)) ?_
          refine AO.sT rfl rfl (bD (decide_eq_false hc59)) ?_
          refine AO.sT rfl rfl (bD (decide_eq_false hc59)) ?_
          refine AO.sT rfl rfl (bD (decide_eq_false hc59)) ?_
          refine AO.c (Calm.pickF rfl (bD (decide_eq_false hc59)) rfl) ?_
          cases hq58
          refine AO.nilE ⟨rfl, rfl⟩ ?_ ?_
          · exact ⟨rfl, rfl, rfl, rfl, rfl, rfl, rfl, rfl, rfl, trivial⟩
          · exact (Sub.refl _)
        ·rcases of_ite h with ⟨hc61, h⟩ | ⟨hc61, h⟩
         ·refine AW.condT' _ rfl hc61 ?_
          refine AW.reg ?_
          refine AO.c (Calm.move rfl rfl) ?_
          refine AO.c (Calm.move rfl rfl) ?_
          refine AO.lit (Z := (eI64 (0 : Int))) (xs := (([(lget (lget p0.f1 (lget x39 x16)) x42)] : List Int).map eI64)) (qs := [(0, (eI64 (lget (lget p0.f1 (lget x39 x16)) x42)))]) rfl 53 rfl (by decide) rfl ⟨rfl, rfl, rfl, trivial⟩ Try.underlying25 sz3 zr3 lay3 rfl (by decide) (litOK (z := 1) [(eI64 (lget (lget p0.f1 (lget x39 x16)) x42))] rfl ⟨⟨rfl, rfl⟩, trivial⟩) rfl fun n62 => ?_
          obtain ⟨hg64, h⟩ := of_guard h
          refine AO.appendL (l := x39) (m := ([(lget (lget p0.f1 (lget x39 x16)) x42)] : List Int)) 3 54 rfl (by decide) rfl rfl rfl rfl rfl (Src.ownL (f := eI64) (l := ([(lget (lget p0.f1 (lget x39 x16)) x42)] : List Int)) 0 rfl) Try.underlying25 Try.underlying25 sz3 by3 zr3 rfl hg64 (by decide) fun n63 => ?_
          refine AO.c (Calm.assign rfl rfl) ?_
          refine AO.nH [1, 2, 3, 4, 5, 6, 7, 8] (H' := [(n2, (.mem (e30 p0))), (n3, (.mem (.st [(256, (.ar 1 ((Vector.replicate 256 (0 : Int)).toList.map eU8))), (1, (.fl (.slice none 0 0))), (1, (.fl (.slice none 0 0)))]))), (n63, (.mem (.ar 1 ((x39 ++ ([(lget (lget p0.f1 (lget x39 x16)) x42)] : List Int)).map eI64)))), (n5, (.mem (.st [(256, (.ar 1 (p0.f0.toList.map eU8))), (1, (.own n12 0 x13.length)), (1, (.own n14 0 x15.length))]))), (n12, (.mem (.ar 1 (x13.map e25)))), (n14, (.mem (.ar 1 (x15.map eI64)))), (n40, (.mem (.ar 1 (x41.map eI64))))]) (Sub.cons 1 rfl (Sub.cons 1 rfl (Sub.cons 1 rfl (Sub.cons 1 rfl (Sub.cons 1 rfl (Sub.cons 1 rfl (Sub.cons 1 rfl (Sub.nil _)))))))) ?_
          exact ⟨n63, (x39 ++ ([(lget (lget p0.f1 (lget x39 x16)) x42)] : List Int)), rfl, rfl, h⟩
         ·refine AW.condF' _ rfl hc61 ?_
          refine AW.sK [1, 2, 3, 4, 5, 6, 7, 8] ?_
          exact ⟨n38, x39, rfl, rfl, h⟩
       ·rintro _ _ ⟨n51, x52, rfl, rfl, h⟩
        rw [bosketref08_Order_c3.eq_1] at h
        refine AW.reg ?_
        refine AO.c (Calm.move rfl rfl) ?_
        refine AO.c (Calm.move rfl rfl) ?_
        refine AO.c (Calm.move rfl rfl) ?_
        obtain ⟨t53, et53, h⟩ := of_bind h
        refine AO.c (Calm.callB (args := [(.fz 1 (x52.map eI64)), (eI64 (lget (lget p0.f1 (lget x39 x16)) x42))]) rfl rfl ok71 ⟨.inr ⟨_, 0, _, _, _, 2, rfl, rfl, by simp, by rw [own_all]⟩, .inl ⟨rfl, rfl⟩, trivial⟩ rfl (bosketref08_place_spec et53)) ?_
        refine AO.lit (Z := (eI64 (0 : Int))) (xs := (([t53] : List Int).map eI64)) (qs := [(0, (eI64 t53))]) rfl 59 rfl (by decide) rfl ⟨rfl, rfl, rfl, trivial⟩ Try.underlying25 sz3 zr3 lay3 rfl (by decide) (litOK (z := 1) [(eI64 t53)] rfl ⟨⟨rfl, rfl⟩, trivial⟩) rfl fun n54 => ?_
        obtain ⟨hg56, h⟩ := of_guard h
        refine AO.appendL (l := x41) (m := ([t53] : List Int)) 7 60 rfl (by decide) rfl rfl rfl rfl rfl (Src.ownL (f := eI64) (l := ([t53] : List Int)) 0 rfl) Try.underlying25 Try.underlying25 sz3 by3 zr3 rfl hg56 (by decide) fun n55 => ?_
        refine AO.c (Calm.assign rfl rfl) ?_
        refine AO.nH [1, 2, 3, 4, 5, 6, 7] (H' := [(n2, (.mem (e30 p0))), (n3, (.mem (.st [(256, (.ar 1 ((Vector.replicate 256 (0 : Int)).toList.map eU8))), (1, (.fl (.slice none 0 0))), (1, (.fl (.slice none 0 0)))]))), (n51, (.mem (.ar 1 (x52.map eI64)))), (n5, (.mem (.st [(256, (.ar 1 (p0.f0.toList.map eU8))), (1, (.own n12 0 x13.length)), (1, (.own n14 0 x15.length))]))), (n12, (.mem (.ar 1 (x13.map e25)))), (n14, (.mem (.ar 1 (x15.map eI64)))), (n55, (.mem (.ar 1 ((x41 ++ ([t53] : List Int)).map eI64))))]) (Sub.cons 1 rfl (Sub.cons 1 rfl (Sub.cons 1 rfl (Sub.cons 1 rfl (Sub.cons 1 rfl (Sub.cons 1 rfl (Sub.cons 1 rfl (Sub.nil _)))))))) ?_
        refine AW.reg ?_
        refine AO.c (Calm.move rfl rfl) ?_
        refine AO.c (x := eI64 (w64 (x42 + (1 : Int)))) (Calm.int rfl rfl rfl rfl) ?_
        refine AO.c (Calm.assign rfl rfl) ?_
        refine AO.nK [1, 2, 3, 4, 5, 6, 7] ?_
        exact ⟨kq44, Nat.lt_succ_self _, n51, n55, x52, (x41 ++ ([t53] : List Int)), (w64 (x42 + (1 : Int))), rfl, rfl, by rw [hrec43]; exact h⟩
      ·refine AW.condN _ rfl hc47 ?_
       refine AW.eK [1, 2, 3, 4, 5, 6] ?_
       exact ⟨n38, n40, x39, x41, rfl, rfl, h⟩
     ·rintro _ _ ⟨n26, n28, x27, x29, rfl, rfl, h⟩
      rw [bosketref08_Order_c2.eq_1] at h
      refine AW.sr ?_
      refine AO.c (x := .ptr n5 256) (Calm.fldPtr rfl rfl Try.underlying30 rfl sz28 _ rfl) ?_
      refine AO.c (Calm.load 3 rfl rfl rfl (At.cast (At.fldS (At.fld0 At.here)) rfl) ag28 sz28) ?_
      refine AO.c (Calm.move rfl rfl) ?_
      refine AO.freezeS 6 [(6, (.fz 1 (x29.map eI64))), (63, (.fz 1 (x29.map eI64)))] rfl ⟨fz_all rfl, fz_all rfl, trivial⟩ ?_
      refine AO.lit (Z := (.fl (.slice none 0 0))) (xs := (([x29] : List (List Int)).map e25)) (qs := [(0, (.fz 1 (x29.map eI64)))]) rfl 64 rfl (by decide) rfl ⟨rfl, rfl, rfl, trivial⟩ Try.underlying28 sz25 zr25 lay25 rfl (by decide) (litOK (z := 1) [(.fz 1 (x29.map eI64))] rfl ⟨⟨rfl, rfl⟩, trivial⟩) rfl fun n30 => ?_
      obtain ⟨hg32, h⟩ := of_guard h
      refine AO.appendL (l := x13) (m := ([x29] : List (List Int))) 5 65 rfl (by decide) rfl rfl rfl rfl rfl (Src.ownL (f := e25) (l := ([x29] : List (List Int))) 0 rfl) Try.underlying28 Try.underlying28 sz25 by25 zr25 rfl hg32 (by decide) fun n31 => ?_
      refine AO.c (x := .ptr n5 256) (Calm.fldPtr rfl rfl Try.underlying30 rfl sz28 _ rfl) ?_
      refine AO.store (X' := (.st [(256, (.ar 1 (p0.f0.toList.map eU8))), (1, (.own n31 0 (x13 ++ ([x29] : List (List Int))).length)), (1, (.own n14 0 x15.length))])) 4 rfl rfl rfl rfl rfl rfl (Put.cast (Put.fldS (Put.fld0 Put.here)) rfl) rfl rfl sz28 rfl ?_
      refine AO.nH [1, 2, 3, 4, 5] (H' := [(n2, (.mem (e30 p0))), (n3, (.mem (.st [(256, (.ar 1 ((Vector.replicate 256 (0 : Int)).toList.map eU8))), (1, (.fl (.slice none 0 0))), (1, (.fl (.slice none 0 0)))]))), (n26, (.mem (.ar 1 (x27.map eI64)))), (n5, (.mem (.st [(256, (.ar 1 (p0.f0.toList.map eU8))), (1, (.own n31 0 (x13 ++ ([x29] : List (List Int))).length)), (1, (.own n14 0 x15.length))]))), (n31, (.mem (.ar 1 ((x13 ++ ([x29] : List (List Int))).map e25)))), (n14, (.mem (.ar 1 (x15.map eI64))))]) (Sub.cons 1 rfl (Sub.cons 1 rfl (Sub.cons 1 rfl (Sub.cons 1 rfl (Sub.cons 1 rfl (Sub.cons 1 rfl (Sub.nil _))))))) ?_
      obtain ⟨hg33, h⟩ := of_guard h
      obtain ⟨hg34, h⟩ := of_guard h
      obtain ⟨hg37, h⟩ := of_guard h
      refine AW.regEff (by rfl) (by decide +kernel) (fun (σ : Nat → Nat) => ([(.ptr n5 257), (.own n14 0 x15.length), (.ptr n2 257), (.fz 1 (p0.f2.map eI64)), (.own n26 0 x27.length), (eI64 x16), (.ptr n26 (x16.toNat * 1 + 0)), (eI64 (lget x27 x16)), (.rp (eI64 (lget p0.f2 (lget x27 x16)))), (eI64 (lget p0.f2 (lget x27 x16))), (.fz 1 (([(lget p0.f2 (lget x27 x16))] : List Int).map eI64)), (.own (σ 11) 0 (x15 ++ ([(lget p0.f2 (lget x27 x16))] : List Int)).length), (.ptr n5 257), (.fl undef)] : List AV)) (fun (L : Nat → Bool) (σ : Nat → Nat) => ((n2, (.mem (e30 p0))) :: (n3, (.mem (.st [(256, (.ar 1 ((Vector.replicate 256 (0 : Int)).toList.map eU8))), (1, (.fl (.slice none 0 0))), (1, (.fl (.slice none 0 0)))]))) :: (n26, (.mem (.ar 1 (x27.map eI64)))) :: (n31, (.mem (.ar 1 ((x13 ++ ([x29] : List (List Int))).map e25)))) :: (bif L 11 then (bif L 13 then ((n5, (.mem (.st [(256, (.ar 1 (p0.f0.toList.map eU8))), (1, (.own n31 0 (x13 ++ ([x29] : List (List Int))).length)), (1, (.own (σ 11) 0 (x15 ++ ([(lget p0.f2 (lget x27 x16))] : List Int)).length))]))) :: ((σ 11), (.mem (.ar 1 ((x15 ++ ([(lget p0.f2 (lget x27 x16))] : List Int)).map eI64)))) :: []) else ((n5, (.mem (.st [(256, (.ar 1 (p0.f0.toList.map eU8))), (1, (.own n31 0 (x13 ++ ([x29] : List (List Int))).length)), (1, (.own n14 0 x15.length))]))) :: ((σ 11), (.mem (.ar 1 ((x15 ++ ([(lget p0.f2 (lget x27 x16))] : List Int)).map eI64)))) :: [])) else ((n5, (.mem (.st [(256, (.ar 1 (p0.f0.toList.map eU8))), (1, (.own n31 0 (x13 ++ ([x29] : List (List Int))).length)), (1, (.own n14 0 x15.length))]))) :: (n14, (.mem (.ar 1 (x15.map eI64)))) :: [])) : Heap)) [(1, (.ptr n2 0)), (2, (.ptr n3 0)), (3, (.own n26 0 x27.length)), (4, (.ptr n5 0)), (5, (eI64 x16))] ⟨rfl, rfl, rfl, rfl, rfl, trivial⟩ (fun _ => rfl) (fun σ => (Sub.cons 0 rfl (Sub.cons 0 rfl (Sub.cons 0 rfl (Sub.cons 1 rfl (Sub.cons 0 rfl (Sub.cons 0 rfl (Sub.refl _)))))))) ⟨?_, ?_, ?_, ?_, ?_, ?_, ?_, ?_, ?_, ?_, ?_, ?_, ?_, ?_, trivial⟩ (fun σ => [(1, (.ptr n2 0)), (2, (.ptr n3 0)), (3, (.own n26 0 x27.length)), (4, (.ptr n5 0)), (5, (eI64 x16))]) (fun σ => ((n2, (.mem (e30 p0))) :: (n3, (.mem (.st [(256, (.ar 1 ((Vector.replicate 256 (0 : Int)).toList.map eU8))), (1, (.fl (.slice none 0 0))), (1, (.fl (.slice none 0 0)))]))) :: (n26, (.mem (.ar 1 (x27.map eI64)))) :: (n31, (.mem (.ar 1 ((x13 ++ ([x29] : List (List Int))).map e25)))) :: (n5, (.mem (.st [(256, (.ar 1 (p0.f0.toList.map eU8))), (1, (.own n31 0 (x13 ++ ([x29] : List (List Int))).length)), (1, (.own (σ 11) 0 (x15 ++ ([(lget p0.f2 (lget x27 x16))] : List Int)).length))]))) :: ((σ 11), (.mem (.ar 1 ((x15 ++ ([(lget p0.f2 (lget x27 x16))] : List Int)).map eI64)))) :: [])) (fun σ => ⟨rfl, rfl, rfl, rfl, rfl, trivial⟩) (fun σ => Sub.refl _) (fun σ => ?_)
      ·refine StepE.calm (fun _ _ => rfl) fun L σ hc hi hd => ?_
       have m1 : L 1 = false := hc.neg (i := 0) (j := 1) rfl (by rfl) hi
       have m11 : L 11 = false := hc.neg (i := 1) (j := 11) rfl (by rfl) m1
       have m13 : L 13 = false := hc.neg (i := 0) (j := 13) rfl (by rfl) hi
       refine AO.heq (H' := ((n2, (.mem (e30 p0))) :: (n3, (.mem (.st [(256, (.ar 1 ((Vector.replicate 256 (0 : Int)).toList.map eU8))), (1, (.fl (.slice none 0 0))), (1, (.fl (.slice none 0 0)))]))) :: (n26, (.mem (.ar 1 (x27.map eI64)))) :: (n31, (.mem (.ar 1 ((x13 ++ ([x29] : List (List Int))).map e25)))) :: (n5, (.mem (.st [(256, (.ar 1 (p0.f0.toList.map eU8))), (1, (.own n31 0 (x13 ++ ([x29] : List (List Int))).length)), (1, (.own n14 0 x15.length))]))) :: (n14, (.mem (.ar 1 (x15.map eI64)))) :: [])) (by first | rfl | simp only [m11, m13, cond_true, cond_false]) ?_
       refine AO.wK [4] ?_
       refine AO.c (x := .ptr n5 257) (Calm.fldPtr rfl rfl Try.underlying30 rfl sz25 _ rfl) ?_
       exact AO.nE (d := 67) rfl ⟨⟨67, _, rfl, rfl, rfl⟩, Sub.of_eq (by first | rfl | simp only [m11, m13, cond_true, cond_false]) (Sub.refl _)⟩
      ·refine StepE.calm (fun _ _ => rfl) fun L σ hc hi hd => ?_
       have m11 : L 11 = false := hc.neg (i := 1) (j := 11) rfl (by rfl) hi
       have m13 : L 13 = false := hc.neg (i := 1) (j := 13) rfl (by rfl) hi
       refine AO.heq (H' := ((n2, (.mem (e30 p0))) :: (n3, (.mem (.st [(256, (.ar 1 ((Vector.replicate 256 (0 : Int)).toList.map eU8))), (1, (.fl (.slice none 0 0))), (1, (.fl (.slice none 0 0)))]))) :: (n26, (.mem (.ar 1 (x27.map eI64)))) :: (n31, (.mem (.ar 1 ((x13 ++ ([x29] : List (List Int))).map e25)))) :: (n5, (.mem (.st [(256, (.ar 1 (p0.f0.toList.map eU8))), (1, (.own n31 0 (x13 ++ ([x29] : List (List Int))).length)), (1, (.own n14 0 x15.length))]))) :: (n14, (.mem (.ar 1 (x15.map eI64)))) :: [])) (by first | rfl | simp only [m11, m13, cond_true, cond_false]) ?_
       refine AO.wK [67] ?_
       refine AO.c (Calm.load 4 rfl rfl rfl (At.cast (At.fldS (At.fldS (At.fld0 At.here))) rfl) ag25 sz25) ?_
       exact AO.nE (d := 68) rfl ⟨⟨68, _, rfl, rfl, rfl⟩, Sub.of_eq (by first | rfl | simp only [m11, m13, cond_true, cond_false]) (Sub.refl _)⟩
      ·refine StepE.calm (fun _ _ => rfl) fun L σ hc hi hd => ?_
       refine AO.wK [1] ?_
       refine AO.c (x := .ptr n2 257) (Calm.fldPtr rfl rfl Try.underlying30 rfl sz25 _ rfl) ?_
       exact AO.nE (d := 69) rfl ⟨⟨69, _, rfl, rfl, rfl⟩, Sub.refl _⟩
      ·refine StepE.calm (fun _ _ => rfl) fun L σ hc hi hd => ?_
       refine AO.wK [69] ?_
       refine AO.c (Calm.load 0 rfl rfl rfl (At.cast (At.fldS (At.fldS (At.fld0 At.here))) rfl) ag25 sz25) ?_
       exact AO.nE (d := 70) rfl ⟨⟨70, _, rfl, rfl, rfl⟩, Sub.refl _⟩
      ·refine StepE.calm (fun _ _ => rfl) fun L σ hc hi hd => ?_
       refine AO.wK [3] ?_
       refine AO.c (Calm.move rfl rfl) ?_
       exact AO.nE (d := 71) rfl ⟨⟨71, _, rfl, rfl, rfl⟩, Sub.refl _⟩
      ·refine StepE.calm (fun _ _ => rfl) fun L σ hc hi hd => ?_
       refine AO.wK [5] ?_
       refine AO.c (Calm.move rfl rfl) ?_
       exact AO.nE (d := 72) rfl ⟨⟨72, _, rfl, rfl, rfl⟩, Sub.refl _⟩
      ·refine StepE.calm (fun _ _ => rfl) fun L σ hc hi hd => ?_
       refine AO.wK [71, 72] ?_
       refine AO.c (Calm.idxO 2 rfl rfl rfl rfl hg33 Try.underlying25 sz3) ?_
       exact AO.nE (d := 73) rfl ⟨⟨73, _, rfl, rfl, rfl⟩, Sub.refl _⟩
      ·refine StepE.calm (fun _ _ => rfl) fun L σ hc hi hd => ?_
       refine AO.wK [73] ?_
       refine AO.c (Calm.load 2 rfl rfl rfl (At.cast (At.lidx x16 hg33.1 hg33.2 At.here) (by omega)) ag3 sz3) ?_
       exact AO.nE (d := 74) rfl ⟨⟨74, _, rfl, rfl, rfl⟩, Sub.refl _⟩
      ·refine StepE.calm (fun _ _ => rfl) fun L σ hc hi hd => ?_
       refine AO.wK [70, 74] ?_
       refine AO.c (Calm.idxL (f := eI64) rfl rfl rfl hg34 Try.underlying25 sz3) ?_
       exact AO.nE (d := 75) rfl ⟨⟨75, _, rfl, rfl, rfl⟩, Sub.refl _⟩
      ·refine StepE.calm (fun _ _ => rfl) fun L σ hc hi hd => ?_
       refine AO.wK [75] ?_
       refine AO.c (Calm.loadRp rfl rfl ag3 sz3) ?_
       exact AO.nE (d := 76) rfl ⟨⟨76, _, rfl, rfl, rfl⟩, Sub.refl _⟩
      ·refine StepE.calm (fun _ _ => rfl) fun L σ hc hi hd => ?_
       refine AO.wK [76] ?_
       refine AO.lit (Z := (eI64 (0 : Int))) (xs := (([(lget p0.f2 (lget x27 x16))] : List Int).map eI64)) (qs := [(0, (eI64 (lget p0.f2 (lget x27 x16))))]) rfl 77 rfl (by decide) rfl ⟨rfl, rfl, rfl, trivial⟩ Try.underlying25 sz3 zr3 lay3 rfl (by decide) (litOK (z := 1) [(eI64 (lget p0.f2 (lget x27 x16)))] rfl ⟨⟨rfl, rfl⟩, trivial⟩) rfl fun n35 => ?_
       refine AO.freezeS 0 [(77, (.fz 1 (([(lget p0.f2 (lget x27 x16))] : List Int).map eI64)))] rfl ⟨fz_all rfl, trivial⟩ ?_
       exact AO.nE (d := 77) rfl ⟨⟨77, _, rfl, rfl, rfl⟩, Sub.refl _⟩
      ·intro L σ hc hi hd
       have m13 : L 13 = false := hc.neg (i := 11) (j := 13) rfl (by rfl) hi
       refine AO.heq (H' := ((n2, (.mem (e30 p0))) :: (n3, (.mem (.st [(256, (.ar 1 ((Vector.replicate 256 (0 : Int)).toList.map eU8))), (1, (.fl (.slice none 0 0))), (1, (.fl (.slice none 0 0)))]))) :: (n26, (.mem (.ar 1 (x27.map eI64)))) :: (n31, (.mem (.ar 1 ((x13 ++ ([x29] : List (List Int))).map e25)))) :: (n5, (.mem (.st [(256, (.ar 1 (p0.f0.toList.map eU8))), (1, (.own n31 0 (x13 ++ ([x29] : List (List Int))).length)), (1, (.own n14 0 x15.length))]))) :: (n14, (.mem (.ar 1 (x15.map eI64)))) :: [])) (by first | rfl | simp only [hi, m13, cond_true, cond_false]) ?_
       refine AO.wK [68, 77] ?_
       refine AO.appendL (l := x15) (m := ([(lget p0.f2 (lget x27 x16))] : List Int)) 5 78 rfl (by decide) rfl rfl rfl rfl rfl Src.fz Try.underlying25 Try.underlying25 sz3 by3 zr3 rfl hg37 (by decide) fun n36 => ?_
       have a11 : addL L 11 11 = true := rfl
       have a13 : addL L 11 13 = false := m13
       have u11 : upd σ 11 n36 11 = n36 := rfl
       exact AO.nE (d := 78) rfl ⟨(upd σ 11 n36), (fun j hj => match j, hj with | 0, _ => rfl | 1, _ => rfl | 2, _ => rfl | 3, _ => rfl | 4, _ => rfl | 5, _ => rfl | 6, _ => rfl | 7, _ => rfl | 8, _ => rfl | 9, _ => rfl | 10, _ => rfl | 11, hj => Bool.noConfusion (hj.symm.trans hi) | 12, _ => rfl | 13, _ => rfl | _ + 14, _ => rfl), (fun d' hd' => ⟨_, rfl, by cases hd'; rfl⟩), Sub.of_eq (B := ((n2, (.mem (e30 p0))) :: (n3, (.mem (.st [(256, (.ar 1 ((Vector.replicate 256 (0 : Int)).toList.map eU8))), (1, (.fl (.slice none 0 0))), (1, (.fl (.slice none 0 0)))]))) :: (n26, (.mem (.ar 1 (x27.map eI64)))) :: (n31, (.mem (.ar 1 ((x13 ++ ([x29] : List (List Int))).map e25)))) :: (n5, (.mem (.st [(256, (.ar 1 (p0.f0.toList.map eU8))), (1, (.own n31 0 (x13 ++ ([x29] : List (List Int))).length)), (1, (.own n14 0 x15.length))]))) :: (n36, (.mem (.ar 1 ((x15 ++ ([(lget p0.f2 (lget x27 x16))] : List Int)).map eI64)))) :: [])) (by simp only [a11, a13, u11, cond_true, cond_false]) (Sub.refl _)⟩
      ·refine StepE.calm (fun _ _ => rfl) fun L σ hc hi hd => ?_
       have y11 : L 11 = true := on_get hd (i := 11) (by rfl)
       have m13 : L 13 = false := hc.neg (i := 12) (j := 13) rfl (by rfl) hi
       refine AO.heq (H' := ((n2, (.mem (e30 p0))) :: (n3, (.mem (.st [(256, (.ar 1 ((Vector.replicate 256 (0 : Int)).toList.map eU8))), (1, (.fl (.slice none 0 0))), (1, (.fl (.slice none 0 0)))]))) :: (n26, (.mem (.ar 1 (x27.map eI64)))) :: (n31, (.mem (.ar 1 ((x13 ++ ([x29] : List (List Int))).map e25)))) :: (n5, (.mem (.st [(256, (.ar 1 (p0.f0.toList.map eU8))), (1, (.own n31 0 (x13 ++ ([x29] : List (List Int))).length)), (1, (.own n14 0 x15.length))]))) :: ((σ 11), (.mem (.ar 1 ((x15 ++ ([(lget p0.f2 (lget x27 x16))] : List Int)).map eI64)))) :: [])) (by first | rfl | simp only [y11, m13, cond_true, cond_false]) ?_
       refine AO.wK [4] ?_
       refine AO.c (x := .ptr n5 257) (Calm.fldPtr rfl rfl Try.underlying30 rfl sz25 _ rfl) ?_
       exact AO.nE (d := 79) rfl ⟨⟨79, _, rfl, rfl, rfl⟩, Sub.of_eq (by first | rfl | simp only [y11, m13, cond_true, cond_false]) (Sub.refl _)⟩
      ·intro L σ hc hi hd
       have y11 : L 11 = true := on_get hd (i := 11) (by rfl)
       refine AO.heq (H' := ((n2, (.mem (e30 p0))) :: (n3, (.mem (.st [(256, (.ar 1 ((Vector.replicate 256 (0 : Int)).toList.map eU8))), (1, (.fl (.slice none 0 0))), (1, (.fl (.slice none 0 0)))]))) :: (n26, (.mem (.ar 1 (x27.map eI64)))) :: (n31, (.mem (.ar 1 ((x13 ++ ([x29] : List (List Int))).map e25)))) :: (n5, (.mem (.st [(256, (.ar 1 (p0.f0.toList.map eU8))), (1, (.own n31 0 (x13 ++ ([x29] : List (List Int))).length)), (1, (.own n14 0 x15.length))]))) :: ((σ 11), (.mem (.ar 1 ((x15 ++ ([(lget p0.f2 (lget x27 x16))] : List Int)).map eI64)))) :: [])) (by first | rfl | simp only [hi, y11, cond_true, cond_false]) ?_
       refine AO.wK [78, 79] ?_
       refine AO.store (X' := (.st [(256, (.ar 1 (p0.f0.toList.map eU8))), (1, (.own n31 0 (x13 ++ ([x29] : List (List Int))).length)), (1, (.own (σ 11) 0 (x15 ++ ([(lget p0.f2 (lget x27 x16))] : List Int)).length))])) 4 rfl rfl rfl rfl rfl rfl (Put.cast (Put.fldS (Put.fldS (Put.fld0 Put.here))) rfl) rfl rfl sz25 rfl ?_
       have a11 : addL L 13 11 = true := y11
       have a13 : addL L 13 13 = true := rfl
       exact AO.n0 ⟨σ, (fun _ _ => rfl), (fun d' hd' => by cases hd'), Sub.of_eq (B := ((n2, (.mem (e30 p0))) :: (n3, (.mem (.st [(256, (.ar 1 ((Vector.replicate 256 (0 : Int)).toList.map eU8))), (1, (.fl (.slice none 0 0))), (1, (.fl (.slice none 0 0)))]))) :: (n26, (.mem (.ar 1 (x27.map eI64)))) :: (n31, (.mem (.ar 1 ((x13 ++ ([x29] : List (List Int))).map e25)))) :: (n5, (.mem (.st [(256, (.ar 1 (p0.f0.toList.map eU8))), (1, (.own n31 0 (x13 ++ ([x29] : List (List Int))).length)), (1, (.own (σ 11) 0 (x15 ++ ([(lget p0.f2 (lget x27 x16))] : List Int)).length))]))) :: ((σ 11), (.mem (.ar 1 ((x15 ++ ([(lget p0.f2 (lget x27 x16))] : List Int)).map eI64)))) :: [])) (by simp only [a11, a13, cond_true, cond_false]) (Sub.refl _)⟩
      ·generalize σ 11 = n36
       refine AO.nH [1, 2, 3, 4, 5] (H' := [(n2, (.mem (e30 p0))), (n3, (.mem (.st [(256, (.ar 1 ((Vector.replicate 256 (0 : Int)).toList.map eU8))), (1, (.fl (.slice none 0 0))), (1, (.fl (.slice none 0 0)))]))), (n26, (.mem (.ar 1 (x27.map eI64)))), (n5, (.mem (.st [(256, (.ar 1 (p0.f0.toList.map eU8))), (1, (.own n31 0 (x13 ++ ([x29] : List (List Int))).length)), (1, (.own n36 0 (x15 ++ ([(lget p0.f2 (lget x27 x16))] : List Int)).length))]))), (n31, (.mem (.ar 1 ((x13 ++ ([x29] : List (List Int))).map e25)))), (n36, (.mem (.ar 1 ((x15 ++ ([(lget p0.f2 (lget x27 x16))] : List Int)).map eI64))))]) (Sub.cons 0 rfl (Sub.cons 0 rfl (Sub.cons 0 rfl (Sub.cons 1 rfl (Sub.cons 0 rfl (Sub.cons 0 rfl (Sub.nil _))))))) ?_
       exact ⟨n26, n31, n36, x27, (x13 ++ ([x29] : List (List Int))), (x15 ++ ([(lget p0.f2 (lget x27 x16))] : List Int)), rfl, rfl, h⟩
    ·rintro _ _ ⟨n20, n22, n24, x21, x23, x25, rfl, rfl, h⟩
     rw [bosketref08_Order_c1.eq_1] at h
     refine AW.reg ?_
     refine AO.c (Calm.move rfl rfl) ?_
     refine AO.c (x := eI64 (w64 (x16 + (1 : Int)))) (Calm.int rfl rfl rfl rfl) ?_
     refine AO.c (Calm.assign rfl rfl) ?_
     refine AO.nK [1, 2, 3, 4, 5] ?_
     exact ⟨kq18, Nat.lt_succ_self _, n20, n22, n24, x21, x23, x25, (w64 (x16 + (1 : Int))), rfl, rfl, by rw [hrec17]; exact h⟩
   ·refine AW.condN _ rfl hc19 ?_
    refine AW.eH [2, 4] (H' := [(n3, (.mem (.st [(256, (.ar 1 ((Vector.replicate 256 (0 : Int)).toList.map eU8))), (1, (.fl (.slice none 0 0))), (1, (.fl (.slice none 0 0)))]))), (n5, (.mem (.st [(256, (.ar 1 (p0.f0.toList.map eU8))), (1, (.own n12 0 x13.length)), (1, (.own n14 0 x15.length))]))), (n12, (.mem (.ar 1 (x13.map e25)))), (n14, (.mem (.ar 1 (x15.map eI64))))]) (Sub.cons 1 rfl (Sub.cons 2 rfl (Sub.cons 2 rfl (Sub.cons 2 rfl (Sub.nil _))))) ?_
    exact ⟨n12, n14, x13, x15, rfl, rfl, h⟩
  ·rintro _ _ ⟨n6, n8, x7, x9, rfl, rfl, h⟩
   rw [bosketref08_Order_c0.eq_1] at h
   refine AW.sr ?_
   refine AO.freezeFld (X' := (.st [(256, (.ar 1 (p0.f0.toList.map eU8))), (1, (.fz 1 (x7.map e25))), (1, (.own n8 0 x9.length))])) (els' := (x7.map e25)) 2 1 rfl rfl (Put.cast (Put.fldS (Put.fld0 Put.here)) rfl) (by simp) (by rw [own_all]) rfl rfl (by decide) ?_
   refine AO.freezeFld (X' := (.st [(256, (.ar 1 (p0.f0.toList.map eU8))), (1, (.fz 1 (x7.map e25))), (1, (.fz 1 (x9.map eI64)))])) (els' := (x9.map eI64)) 2 1 rfl rfl (Put.cast (Put.fldS (Put.fldS (Put.fld0 Put.here))) rfl) (by simp) (by rw [own_all]) rfl rfl (by decide) ?_
   refine AO.c (x := e30 (S30.mk p0.f0 x7 x9)) (Calm.load 1 rfl rfl rfl (At.cast At.here rfl) ag30 sz30) ?_
   refine AO.store (X' := (e30 (S30.mk p0.f0 x7 x9))) 0 rfl rfl rfl rfl rfl rfl (Put.cast Put.here rfl) rfl rfl sz30 rfl ?_
   refine AO.nH [2] (H' := [(n3, (.mem (e30 (S30.mk p0.f0 x7 x9))))]) (Sub.cons 0 rfl (Sub.nil _)) ?_
   refine AW.rK [2] ?_
   have hr := Option.some.inj h
   subst hr
   exact ⟨[(e30 (S30.mk p0.f0 x7 x9))], ⟨⟨_, 0, rfl, rfl, ag30, sz30⟩, trivial⟩, rfl⟩
end Go.Avl.T5
/- bosket/bosketref08.Same; printed by avmain.py. -/
namespace Go.Avl.T5
open Go Go.RowKit Go.Proofs Go.Avl
set_option linter.unusedVariables false
set_option maxRecDepth 100000
set_option maxHeartbeats 4000000
attribute [local irreducible] AW AO AQ Spec SpecH Calm

def bosketref08_Same_c0 (k : Nat) : Option Bool :=
  some (true)
def bosketref08_Same_c1 (k : Nat) (rec11 : (Int → Option Bool)) (x10 : Int) : Option Bool :=
  rec11 (w64 (x10 + (1 : Int)))
def bosketref08_Same_l2 (k : Nat) (rec11 : (Int → Option Bool)) (p0 : S30) (p1 : S30) (x10 : Int) : Nat → Int → Option Bool
  | 0, _ => none
  | j + 1, x17 =>
    if 0 ≤ x10 ∧ x10 < (p0.f1.length : Int) then if x17 < ((lget p0.f1 x10).length : Int) then if 0 ≤ x10 ∧ x10 < (p0.f1.length : Int) then if 0 ≤ x17 ∧ x17 < ((lget p0.f1 x10).length : Int) then if 0 ≤ x10 ∧ x10 < (p1.f1.length : Int) then if 0 ≤ x17 ∧ x17 < ((lget p1.f1 x10).length : Int) then if (lget (lget p0.f1 x10) x17) ≠ (lget (lget p1.f1 x10) x17) then some (false)
    else (bosketref08_Same_l2 k rec11 p0 p1 x10 j) (w64 (x17 + (1 : Int)))
    else none
    else none
    else none
    else none
    else bosketref08_Same_c1 k rec11 x10
    else none
def bosketref08_Same_l3 (k : Nat) (p0 : S30) (p1 : S30) : Nat → Int → Option Bool
  | 0, _ => none
  | j + 1, x10 =>
    if x10 < (p0.f1.length : Int) then if 0 ≤ x10 ∧ x10 < (p0.f1.length : Int) then if 0 ≤ x10 ∧ x10 < (p1.f1.length : Int) then if ((lget p0.f1 x10).length : Int) ≠ ((lget p1.f1 x10).length : Int) then some (false)
    else bosketref08_Same_l2 k (bosketref08_Same_l3 k p0 p1 j) p0 p1 x10 k (0 : Int)
    else none
    else none
    else bosketref08_Same_c0 k
def bosketref08_Same_c4 (k : Nat) (p0 : S30) (p1 : S30) : Option Bool :=
  bosketref08_Same_l3 k p0 p1 k (0 : Int)
def bosketref08_Same_l5 (k : Nat) (p0 : S30) (p1 : S30) : Nat → Int → Option Bool
  | 0, _ => none
  | j + 1, x27 =>
    if x27 < (p0.f2.length : Int) then if 0 ≤ x27 ∧ x27 < (p0.f2.length : Int) then if 0 ≤ x27 ∧ x27 < (p1.f2.length : Int) then if (lget p0.f2 x27) ≠ (lget p1.f2 x27) then some (false)
    else (bosketref08_Same_l5 k p0 p1 j) (w64 (x27 + (1 : Int)))
    else none
    else none
    else bosketref08_Same_c4 k p0 p1
def bosketref08_Same (k : Nat) (p0 : S30) (p1 : S30) : Option Bool :=
  Option.bind (α := Bool) (if (!(decide (p0.f0 = p1.f0))) = true then some (true)
  else if (p0.f1.length : Int) ≠ (p1.f1.length : Int) then some (true)
  else some (decide ((p0.f2.length : Int) ≠ (p1.f2.length : Int)))) fun b5 =>
  if b5 = true then some (false)
  else bosketref08_Same_l5 k p0 p1 k (0 : Int)
theorem bosketref08_Same_spec {k : Nat} {p0 : S30} {p1 : S30} {r : Bool} (h : bosketref08_Same k p0 p1 = some r) : Spec Try.prog 36 [(e30 p0), (e30 p1)] (eBool r) := by
  rw [bosketref08_Same.eq_1] at h
  refine Spec.intro (res := [.tmp 4]) Try.func36 rfl rfl rfl (Nat.le_of_ble_eq_true rfl) ?_
  refine AW.sr ?_
  refine AO.box rfl 2 rfl (by decide) rfl rfl rfl fun n3 => ?_
  refine AO.box rfl 3 rfl (by decide) rfl rfl rfl fun n4 => ?_
  refine AO.c (Calm.assign rfl rfl) ?_
  refine AO.nH [2, 3] (H' := [(n3, (.mem (e30 p0))), (n4, (.mem (e30 p1)))]) (Sub.cons 1 rfl (Sub.cons 0 rfl (Sub.nil _))) ?_
  refine AW.seq ?_
  refine AW.seq ?_
  obtain ⟨b5, hq6, h⟩ := of_bind h
  refine AW.regM [(2, (.ptr n3 0)), (3, (.ptr n4 0)), (30, (eBool b5))] [(n3, (.mem (e30 p0))), (n4, (.mem (e30 p1)))] ?_ ?_
  ·refine AO.c (x := .ptr n3 0) (Calm.fldPtr rfl rfl Try.underlying30 rfl sz27 _ rfl) ?_
   refine AO.c (Calm.load 0 rfl rfl rfl (At.cast (At.fld0 At.here) rfl) ag27 (by rw [sz27]; simp [AV.size])) ?_
   refine AO.c (x := .ptr n4 0) (Calm.fldPtr rfl rfl Try.underlying30 rfl sz27 _ rfl) ?_
   refine AO.c (Calm.load 1 rfl rfl rfl (At.cast (At.fld0 At.here) rfl) ag27 (by rw [sz27]; simp [AV.size])) ?_
   refine AO.c (x := eBool (!(decide (p0.f0 = p1.f0)))) (Calm.neA rfl rfl rfl eg27 (eqa27 p0.f0 p1.f0) (by decide)) ?_
   refine AO.c (Calm.move rfl rfl) ?_
   rcases of_ite hq6 with ⟨hc7, hq6⟩ | ⟨hc7, hq6⟩
   ·refine AO.sF rfl rfl (bD hc7) ?_
    refine AO.sF rfl rfl (bD hc7) ?_
    refine AO.sF rfl rfl (bD hc7) ?_
    refine AO.sF rfl rfl (bD hc7) ?_
    refine AO.sF rfl rfl (bD hc7) ?_
    refine AO.sF rfl rfl (bD hc7) ?_
    refine AO.sF rfl rfl (bD hc7) ?_
    refine AO.c (Calm.pickT rfl (bD hc7) rfl) ?_
    refine AO.c (Calm.move rfl rfl) ?_
    refine AO.sF rfl rfl rfl ?_
    refine AO.sF rfl rfl rfl ?_
    refine AO.sF rfl rfl rfl ?_
    refine AO.sF rfl rfl rfl ?_
    refine AO.sF rfl rfl rfl ?_
    refine AO.sF rfl rfl rfl ?_
    refine AO.sF rfl rfl rfl ?_
    refine AO.c (Calm.pickT rfl rfl rfl) ?_
    cases hq6
    refine AO.nilE ⟨rfl, rfl⟩ ?_ ?_
    · exact ⟨rfl, rfl, rfl, trivial⟩
    · exact (Sub.refl _)
   ·refine AO.cG (x := .ptr n3 256) rfl rfl (bD (eq_false_of_ne_true hc7)) (Calm.fldPtr rfl rfl Try.underlying30 rfl sz28 _ rfl) ?_
    refine AO.cG rfl rfl (bD (eq_false_of_ne_true hc7)) (Calm.load 0 rfl rfl rfl (At.cast (At.fldS (At.fld0 At.here)) rfl) ag28 sz28) ?_
    refine AO.cG rfl rfl (bD (eq_false_of_ne_true hc7)) (Calm.lenL rfl rfl Try.underlying28) ?_
    refine AO.cG (x := .ptr n4 256) rfl rfl (bD (eq_false_of_ne_true hc7)) (Calm.fldPtr rfl rfl Try.underlying30 rfl sz28 _ rfl) ?_
    refine AO.cG rfl rfl (bD (eq_false_of_ne_true hc7)) (Calm.load 1 rfl rfl rfl (At.cast (At.fldS (At.fld0 At.here)) rfl) ag28 sz28) ?_
    refine AO.cG rfl rfl (bD (eq_false_of_ne_true hc7)) (Calm.lenL rfl rfl Try.underlying28) ?_
    refine AO.cG (x := eBool (decide ((p0.f1.length : Int) ≠ (p1.f1.length : Int)))) rfl rfl (bD (eq_false_of_ne_true hc7)) (Calm.int rfl rfl rfl rfl) ?_
    refine AO.c (Calm.pickF rfl (bD (eq_false_of_ne_true hc7)) rfl) ?_
    refine AO.c (Calm.move rfl rfl) ?_
    rcases of_ite hq6 with ⟨hc8, hq6⟩ | ⟨hc8, hq6⟩
    ·refine AO.sF rfl rfl (bD (decide_eq_true hc8)) ?_
     refine AO.sF rfl rfl (bD (decide_eq_true hc8)) ?_
     refine AO.sF rfl rfl (bD (decide_eq_true hc8)) ?_
     refine AO.sF rfl rfl (bD (decide_eq_true hc8)) ?_
     refine AO.sF rfl rfl (bD (decide_eq_true hc8)) ?_
     refine AO.sF rfl rfl (bD (decide_eq_true hc8)) ?_
     refine AO.sF rfl rfl (bD (decide_eq_true hc8)) ?_
     refine AO.c (Calm.pickT rfl (bD (decide_eq_true hc8)) rfl) ?_
     cases hq6
     refine AO.nilE ⟨rfl, rfl⟩ ?_ ?_
     · exact ⟨rfl, rfl, rfl, trivial⟩
     · exact (Sub.refl _)
    ·refine AO.cG (x := .ptr n3 257) rfl rfl (bD (decide_eq_false hc8)) (Calm.fldPtr rfl rfl Try.underlying30 rfl sz25 _ rfl) ?_
     refine AO.cG rfl rfl (bD (decide_eq_false hc8)) (Calm.load 0 rfl rfl rfl (At.cast (At.fldS (At.fldS (At.fld0 At.here))) rfl) ag25 sz25) ?_
     refine AO.cG rfl rfl (bD (decide_eq_false hc8)) (Calm.lenL rfl rfl Try.underlying25) ?_
     refine AO.cG (x := .ptr n4 257) rfl rfl (bD (decide_eq_false hc8)) (Calm.fldPtr rfl rfl Try.underlying30 rfl sz25 _ rfl) ?_
     refine AO.cG rfl rfl (bD (decide_eq_false hc8)) (Calm.load 1 rfl rfl rfl (At.cast (At.fldS (At.fldS (At.fld0 At.here))) rfl) ag25 sz25) ?_
     refine AO.cG rfl rfl (bD (decide_eq_false hc8)) (Calm.lenL rfl rfl Try.underlying25) ?_
     refine AO.cG (x := eBool (decide ((p0.f2.length : Int) ≠ (p1.f2.length : Int)))) rfl rfl (bD (decide_eq_false hc8)) (Calm.int rfl rfl rfl rfl) ?_
     refine AO.c (Calm.pickF rfl (bD (decide_eq_false hc8)) rfl) ?_
     cases hq6
     refine AO.nilE ⟨rfl, rfl⟩ ?_ ?_
     · exact ⟨rfl, rfl, rfl, trivial⟩
     · exact (Sub.refl _)
  ·rcases of_ite h with ⟨hc9, h⟩ | ⟨hc9, h⟩
   ·refine AW.condT' _ rfl hc9 ?_
    refine AW.sr ?_
    refine AO.c (Calm.assign rfl rfl) ?_
    refine AO.nH [4] (H' := []) (Sub.nil _) ?_
    refine AW.rK [4] ?_
    have hr := Option.some.inj h
    subst hr
    exact ⟨[(eBool false)], ⟨rfl, rfl, trivial⟩, rfl⟩
   ·refine AW.condF' _ rfl hc9 ?_
    refine AW.sK [2, 3] ?_
    refine AW.seq_mid (fun ρ H => ρ = [(2, (.ptr n3 0)), (3, (.ptr n4 0))] ∧ H = [(n3, (.mem (e30 p0))), (n4, (.mem (e30 p1)))] ∧ bosketref08_Same_c4 k p0 p1 = some r) ?_ ?_
    ·refine AW.sr ?_
     refine AO.c (Calm.assign rfl rfl) ?_
     refine AO.nK [2, 3, 5] ?_
     refine AW.block ?_
     refine AW.wK [2, 3, 5] ?_
     refine AW.loop (fun kq ρ H => ∃ (x27 : Int), ρ = [(2, (.ptr n3 0)), (3, (.ptr n4 0)), (5, (eI64 x27))] ∧ H = [(n3, (.mem (e30 p0))), (n4, (.mem (e30 p1)))] ∧ bosketref08_Same_l5 k p0 p1 kq x27 = some r) k ⟨(0 : Int), rfl, rfl, h⟩ ?_
     rintro kq29 _ _ ⟨x27, rfl, rfl, h⟩
     cases kq29 with
     | zero => rw [bosketref08_Same_l5.eq_1] at h; cases h
     | succ kq29 =>
     rw [bosketref08_Same_l5.eq_2] at h
     generalize hrec28 : bosketref08_Same_l5 k p0 p1 kq29 = rec28 at h
     refine AW.seq ?_
     refine AW.sr ?_
     refine AO.c (Calm.move rfl rfl) ?_
     refine AO.c (x := .ptr n3 257) (Calm.fldPtr rfl rfl Try.underlying30 rfl sz25 _ rfl) ?_
     refine AO.c (Calm.load 0 rfl rfl rfl (At.cast (At.fldS (At.fldS (At.fld0 At.here))) rfl) ag25 sz25) ?_
     refine AO.c (Calm.lenL rfl rfl Try.underlying25) ?_
     refine AO.c (x := eBool (decide (x27 < (p0.f2.length : Int)))) (Calm.int rfl rfl rfl rfl) ?_
     refine AO.nK [2, 3, 5, 35] ?_
     rcases of_ite h with ⟨hc30, h⟩ | ⟨hc30, h⟩
     ·refine AW.condP _ rfl hc30 ?_
      refine AW.sK [2, 3, 5] ?_
      refine AW.seq ?_
      refine AW.block ?_
      refine AW.seq ?_
      refine AW.regQ (by rfl) (by decide +kernel) ?_
      refine AQ.c (x := .ptr n3 257) (Calm.fldPtr rfl rfl Try.underlying30 rfl sz25 _ rfl) ?_
      refine AQ.c (Calm.load 0 rfl rfl rfl (At.cast (At.fldS (At.fldS (At.fld0 At.here))) rfl) ag25 sz25) ?_
      refine AQ.c (Calm.move rfl rfl) ?_
      obtain ⟨hg31, h⟩ := of_guard h
      refine AQ.c (Calm.idxL (f := eI64) rfl rfl rfl hg31 Try.underlying25 sz3) ?_
      refine AQ.c (Calm.loadRp rfl rfl ag3 sz3) ?_
      refine AQ.c (x := .ptr n4 257) (Calm.fldPtr rfl rfl Try.underlying30 rfl sz25 _ rfl) ?_
      refine AQ.c (Calm.load 1 rfl rfl rfl (At.cast (At.fldS (At.fldS (At.fld0 At.here))) rfl) ag25 sz25) ?_
      refine AQ.c (Calm.move rfl rfl) ?_
      obtain ⟨hg32, h⟩ := of_guard h
      refine AQ.c (Calm.idxL (f := eI64) rfl rfl rfl hg32 Try.underlying25 sz3) ?_
      refine AQ.c (Calm.loadRp rfl rfl ag3 sz3) ?_
      refine AQ.c (x := eBool (decide ((lget p0.f2 x27) ≠ (lget p1.f2 x27)))) (Calm.int rfl rfl rfl rfl) ?_
      refine AQ.nK [2, 3, 5, 48] ?_
      rcases of_ite h with ⟨hc33, h⟩ | ⟨hc33, h⟩
      ·refine AW.condP _ rfl hc33 ?_
       refine AW.sr ?_
       refine AO.c (Calm.assign rfl rfl) ?_
       refine AO.nH [4] (H' := []) (Sub.nil _) ?_
       refine AW.rK [4] ?_
       have hr := Option.some.inj h
       subst hr
       exact ⟨[(eBool false)], ⟨rfl, rfl, trivial⟩, rfl⟩
      ·refine AW.condN _ rfl hc33 ?_
       refine AW.sK [2, 3, 5] ?_
       refine AW.reg ?_
       refine AO.c (Calm.move rfl rfl) ?_
       refine AO.c (x := eI64 (w64 (x27 + (1 : Int)))) (Calm.int rfl rfl rfl rfl) ?_
       refine AO.c (Calm.assign rfl rfl) ?_
       refine AO.nK [2, 3, 5] ?_
       exact ⟨kq29, Nat.lt_succ_self _, (w64 (x27 + (1 : Int))), rfl, rfl, by rw [hrec28]; exact h⟩
     ·refine AW.condN _ rfl hc30 ?_
      refine AW.eK [2, 3] ?_
      exact ⟨rfl, rfl, h⟩
    ·rintro _ _ ⟨rfl, rfl, h⟩
     rw [bosketref08_Same_c4.eq_1] at h
     refine AW.seq_mid (fun ρ H => ρ = [] ∧ H = [] ∧ bosketref08_Same_c0 k = some r) ?_ ?_
     ·refine AW.sr ?_
      refine AO.c (Calm.assign rfl rfl) ?_
      refine AO.nK [2, 3, 6] ?_
      refine AW.block ?_
      refine AW.wK [2, 3, 6] ?_
      refine AW.loop (fun kq ρ H => ∃ (x10 : Int), ρ = [(2, (.ptr n3 0)), (3, (.ptr n4 0)), (6, (eI64 x10))] ∧ H = [(n3, (.mem (e30 p0))), (n4, (.mem (e30 p1)))] ∧ bosketref08_Same_l3 k p0 p1 kq x10 = some r) k ⟨(0 : Int), rfl, rfl, h⟩ ?_
      rintro kq12 _ _ ⟨x10, rfl, rfl, h⟩
      cases kq12 with
      | zero => rw [bosketref08_Same_l3.eq_1] at h; cases h
      | succ kq12 =>
      rw [bosketref08_Same_l3.eq_2] at h
      generalize hrec11 : bosketref08_Same_l3 k p0 p1 kq12 = rec11 at h
      refine AW.seq ?_
      refine AW.sr ?_
      refine AO.c (Calm.move rfl rfl) ?_
      refine AO.c (x := .ptr n3 256) (Calm.fldPtr rfl rfl Try.underlying30 rfl sz28 _ rfl) ?_
      refine AO.c (Calm.load 0 rfl rfl rfl (At.cast (At.fldS (At.fld0 At.here)) rfl) ag28 sz28) ?_
      refine AO.c (Calm.lenL rfl rfl Try.underlying28) ?_
      refine AO.c (x := eBool (decide (x10 < (p0.f1.length : Int)))) (Calm.int rfl rfl rfl rfl) ?_
      refine AO.nK [2, 3, 6, 53] ?_
      rcases of_ite h with ⟨hc13, h⟩ | ⟨hc13, h⟩
      ·refine AW.condP _ rfl hc13 ?_
       refine AW.sK [2, 3, 6] ?_
       refine AW.seq_mid (fun ρ H => ρ = [(2, (.ptr n3 0)), (3, (.ptr n4 0)), (6, (eI64 x10))] ∧ H = [(n3, (.mem (e30 p0))), (n4, (.mem (e30 p1)))] ∧ bosketref08_Same_c1 k rec11 x10 = some r) ?_ ?_
       ·refine AW.block ?_
        refine AW.seq ?_
        refine AW.seq ?_
        refine AW.regQ (by rfl) (by decide +kernel) ?_
        refine AQ.c (x := .ptr n3 256) (Calm.fldPtr rfl rfl Try.underlying30 rfl sz28 _ rfl) ?_
        refine AQ.c (Calm.load 0 rfl rfl rfl (At.cast (At.fldS (At.fld0 At.here)) rfl) ag28 sz28) ?_
        refine AQ.c (Calm.move rfl rfl) ?_
        obtain ⟨hg14, h⟩ := of_guard h
        refine AQ.c (Calm.idxL (f := e25) rfl rfl rfl hg14 Try.underlying28 sz25) ?_
        refine AQ.c (Calm.loadRp rfl rfl ag25 sz25) ?_
        refine AQ.c (Calm.lenL rfl rfl Try.underlying25) ?_
        refine AQ.c (x := .ptr n4 256) (Calm.fldPtr rfl rfl Try.underlying30 rfl sz28 _ rfl) ?_
        refine AQ.c (Calm.load 1 rfl rfl rfl (At.cast (At.fldS (At.fld0 At.here)) rfl) ag28 sz28) ?_
        refine AQ.c (Calm.move rfl rfl) ?_
        obtain ⟨hg15, h⟩ := of_guard h
        refine AQ.c (Calm.idxL (f := e25) rfl rfl rfl hg15 Try.underlying28 sz25) ?_
        refine AQ.c (Calm.loadRp rfl rfl ag25 sz25) ?_
        refine AQ.c (Calm.lenL rfl rfl Try.underlying25) ?_
        refine AQ.c (x := eBool (decide (((lget p0.f1 x10).length : Int) ≠ ((lget p1.f1 x10).length : Int)))) (Calm.int rfl rfl rfl rfl) ?_
        refine AQ.nK [2, 3, 6, 68] ?_
        rcases of_ite h with ⟨hc16, h⟩ | ⟨hc16, h⟩
        ·refine AW.condP _ rfl hc16 ?_
         refine AW.sr ?_
         refine AO.c (Calm.assign rfl rfl) ?_
         refine AO.nH [4] (H' := []) (Sub.nil _) ?_
         refine AW.rK [4] ?_
         have hr := Option.some.inj h
         subst hr
         exact ⟨[(eBool false)], ⟨rfl, rfl, trivial⟩, rfl⟩
        ·refine AW.condN _ rfl hc16 ?_
         refine AW.sK [2, 3, 6] ?_
         refine AW.sr ?_
         refine AO.c (Calm.assign rfl rfl) ?_
         refine AO.nK [2, 3, 6, 7] ?_
         refine AW.block ?_
         refine AW.wK [2, 3, 6, 7] ?_
         refine AW.loop (fun kq ρ H => ∃ (x17 : Int), ρ = [(2, (.ptr n3 0)), (3, (.ptr n4 0)), (6, (eI64 x10)), (7, (eI64 x17))] ∧ H = [(n3, (.mem (e30 p0))), (n4, (.mem (e30 p1)))] ∧ bosketref08_Same_l2 k rec11 p0 p1 x10 kq x17 = some r) k ⟨(0 : Int), rfl, rfl, h⟩ ?_
         rintro kq19 _ _ ⟨x17, rfl, rfl, h⟩
         cases kq19 with
         | zero => rw [bosketref08_Same_l2.eq_1] at h; cases h
         | succ kq19 =>
         rw [bosketref08_Same_l2.eq_2] at h
         generalize hrec18 : bosketref08_Same_l2 k rec11 p0 p1 x10 kq19 = rec18 at h
         refine AW.seq ?_
         refine AW.sr ?_
         refine AO.c (Calm.move rfl rfl) ?_
         refine AO.c (x := .ptr n3 256) (Calm.fldPtr rfl rfl Try.underlying30 rfl sz28 _ rfl) ?_
         refine AO.c (Calm.load 0 rfl rfl rfl (At.cast (At.fldS (At.fld0 At.here)) rfl) ag28 sz28) ?_
         refine AO.c (Calm.move rfl rfl) ?_
         obtain ⟨hg20, h⟩ := of_guard h
         refine AO.c (Calm.idxL (f := e25) rfl rfl rfl hg20 Try.underlying28 sz25) ?_
         refine AO.c (Calm.loadRp rfl rfl ag25 sz25) ?_
         refine AO.c (Calm.lenL rfl rfl Try.underlying25) ?_
         refine AO.c (x := eBool (decide (x17 < ((lget p0.f1 x10).length : Int)))) (Calm.int rfl rfl rfl rfl) ?_
         refine AO.nK [2, 3, 6, 7, 76] ?_
         rcases of_ite h with ⟨hc21, h⟩ | ⟨hc21, h⟩
         ·refine AW.condP _ rfl hc21 ?_
          refine AW.sK [2, 3, 6, 7] ?_
          refine AW.seq ?_
          refine AW.block ?_
          refine AW.seq ?_
          refine AW.regQ (by rfl) (by decide +kernel) ?_
          refine AQ.c (x := .ptr n3 256) (Calm.fldPtr rfl rfl Try.underlying30 rfl sz28 _ rfl) ?_
          refine AQ.c (Calm.load 0 rfl rfl rfl (At.cast (At.fldS (At.fld0 At.here)) rfl) ag28 sz28) ?_
          refine AQ.c (Calm.move rfl rfl) ?_
          obtain ⟨hg22, h⟩ := of_guard h
          refine AQ.c (Calm.idxL (f := e25) rfl rfl rfl hg22 Try.underlying28 sz25) ?_
          refine AQ.c (Calm.loadRp rfl rfl ag25 sz25) ?_
          refine AQ.c (Calm.move rfl rfl) ?_
          obtain ⟨hg23, h⟩ := of_guard h
          refine AQ.c (Calm.idxL (f := eI64) rfl rfl rfl hg23 Try.underlying25 sz3) ?_
          refine AQ.c (Calm.loadRp rfl rfl ag3 sz3) ?_
          refine AQ.c (x := .ptr n4 256) (Calm.fldPtr rfl rfl Try.underlying30 rfl sz28 _ rfl) ?_
          refine AQ.c (Calm.load 1 rfl rfl rfl (At.cast (At.fldS (At.fld0 At.here)) rfl) ag28 sz28) ?_
          refine AQ.c (Calm.move rfl rfl) ?_
          obtain ⟨hg24, h⟩ := of_guard h
          refine AQ.c (Calm.idxL (f := e25) rfl rfl rfl hg24 Try.underlying28 sz25) ?_
          refine AQ.c (Calm.loadRp rfl rfl ag25 sz25) ?_
          refine AQ.c (Calm.move rfl rfl) ?_
          obtain ⟨hg25, h⟩ := of_guard h
          refine AQ.c (Calm.idxL (f := eI64) rfl rfl rfl hg25 Try.underlying25 sz3) ?_
          refine AQ.c (Calm.loadRp rfl rfl ag3 sz3) ?_
          refine AQ.c (x := eBool (decide ((lget (lget p0.f1 x10) x17) ≠ (lget (lget p1.f1 x10) x17)))) (Calm.int rfl rfl rfl rfl) ?_
          refine AQ.nK [2, 3, 6, 7, 95] ?_
          rcases of_ite h with ⟨hc26, h⟩ | ⟨hc26, h⟩
          ·refine AW.condP _ rfl hc26 ?_
           refine AW.sr ?_
           refine AO.c (Calm.assign rfl rfl) ?_
           refine AO.nH [4] (H' := []) (Sub.nil _) ?_
           refine AW.rK [4] ?_
           have hr := Option.some.inj h
           subst hr
           exact ⟨[(eBool false)], ⟨rfl, rfl, trivial⟩, rfl⟩
          ·refine AW.condN _ rfl hc26 ?_
           refine AW.sK [2, 3, 6, 7] ?_
           refine AW.reg ?_
           refine AO.c (Calm.move rfl rfl) ?_
           refine AO.c (x := eI64 (w64 (x17 + (1 : Int)))) (Calm.int rfl rfl rfl rfl) ?_
           refine AO.c (Calm.assign rfl rfl) ?_
           refine AO.nK [2, 3, 6, 7] ?_
           exact ⟨kq19, Nat.lt_succ_self _, (w64 (x17 + (1 : Int))), rfl, rfl, by rw [hrec18]; exact h⟩
         ·refine AW.condN _ rfl hc21 ?_
          refine AW.eK [2, 3, 6] ?_
          exact ⟨rfl, rfl, h⟩
       ·rintro _ _ ⟨rfl, rfl, h⟩
        rw [bosketref08_Same_c1.eq_1] at h
        refine AW.reg ?_
        refine AO.c (Calm.move rfl rfl) ?_
        refine AO.c (x := eI64 (w64 (x10 + (1 : Int)))) (Calm.int rfl rfl rfl rfl) ?_
        refine AO.c (Calm.assign rfl rfl) ?_
        refine AO.nK [2, 3, 6] ?_
        exact ⟨kq12, Nat.lt_succ_self _, (w64 (x10 + (1 : Int))), rfl, rfl, by rw [hrec11]; exact h⟩
      ·refine AW.condN _ rfl hc13 ?_
       refine AW.eH [] (H' := []) (Sub.nil _) ?_
       exact ⟨rfl, rfl, h⟩
     ·rintro _ _ ⟨rfl, rfl, h⟩
      rw [bosketref08_Same_c0.eq_1] at h
      refine AW.sr ?_
      refine AO.c (Calm.assign rfl rfl) ?_
      refine AO.nK [4] ?_
      refine AW.rK [4] ?_
      have hr := Option.some.inj h
      subst hr
      exact ⟨[(eBool true)], ⟨rfl, rfl, trivial⟩, rfl⟩
end Go.Avl.T5
/- bosket/bosketref08.Reached; printed by avmain.py. -/
namespace Go.Avl.T5
open Go Go.RowKit Go.Proofs Go.Avl
set_option linter.unusedVariables false
set_option maxRecDepth 100000
set_option maxHeartbeats 4000000
attribute [local irreducible] AW AO AQ Spec SpecH Calm

def bosketref08_Reached_c0 (k : Nat) (x11 : (List Bool)) : Option (List Bool) :=
  some (x11)
def bosketref08_Reached_c1 (k : Nat) (rec14 : ((List Bool) → Int → Option (List Bool))) (x13 : Int) (x17 : (List Bool)) : Option (List Bool) :=
  rec14 x17 (w64 (x13 + (1 : Int)))
def bosketref08_Reached_c2 (k : Nat) (rec20 : ((List Bool) → Int → Option (List Bool))) (x19 : Int) (x23 : (List Bool)) : Option (List Bool) :=
  rec20 x23 (w64 (x19 + (1 : Int)))
def bosketref08_Reached_c3 (k : Nat) (rec26 : ((List Bool) → Int → Option (List Bool))) (x25 : Int) (x34 : (List Bool)) : Option (List Bool) :=
  rec26 x34 (w64 (x25 + (1 : Int)))
def bosketref08_Reached_l4 (k : Nat) (rec20 : ((List Bool) → Int → Option (List Bool))) (p0 : S30) (x19 : Int) : Nat → (List Bool) → Int → Option (List Bool)
  | 0, _, _ => none
  | j + 1, x24, x25 =>
    Option.bind (α := Bool) (if 0 ≤ x19 ∧ x19 < (x24.length : Int) then if (lget x24 x19) = true then if 0 ≤ x19 ∧ x19 < (p0.f1.length : Int) then some (decide (x25 < ((lget p0.f1 x19).length : Int)))
    else none
    else some (false)
    else none) fun b28 =>
    if b28 = true then if 0 ≤ x19 ∧ x19 < (p0.f1.length : Int) then if 0 ≤ x25 ∧ x25 < ((lget p0.f1 x19).length : Int) then if (0 : Int) ≤ (lget (lget p0.f1 x19) x25) then if 0 ≤ (lget (lget p0.f1 x19) x25) ∧ (lget (lget p0.f1 x19) x25) < (x24.length : Int) then bosketref08_Reached_c3 k (bosketref08_Reached_l4 k rec20 p0 x19 j) x25 (lset x24 (lget (lget p0.f1 x19) x25) true)
    else none
    else bosketref08_Reached_c3 k (bosketref08_Reached_l4 k rec20 p0 x19 j) x25 x24
    else none
    else none
    else bosketref08_Reached_c2 k rec20 x19 x24
def bosketref08_Reached_l5 (k : Nat) (rec14 : ((List Bool) → Int → Option (List Bool))) (p0 : S30) (x13 : Int) : Nat → (List Bool) → Int → Option (List Bool)
  | 0, _, _ => none
  | j + 1, x18, x19 =>
    if x19 < (x18.length : Int) then bosketref08_Reached_l4 k (bosketref08_Reached_l5 k rec14 p0 x13 j) p0 x19 k x18 (0 : Int)
    else bosketref08_Reached_c1 k rec14 x13 x18
def bosketref08_Reached_l6 (k : Nat) (p0 : S30) : Nat → (List Bool) → Int → Option (List Bool)
  | 0, _, _ => none
  | j + 1, x12, x13 =>
    if x13 < (x12.length : Int) then bosketref08_Reached_l5 k (bosketref08_Reached_l6 k p0 j) p0 x13 k x12 (0 : Int)
    else bosketref08_Reached_c0 k x12
def bosketref08_Reached (k : Nat) (p0 : S30) (p1 : Int) : Option (List Bool) :=
  if 0 ≤ (p0.f1.length : Int) ∧ (p0.f1.length : Int) * (1 : Int) ≤ 140737488355328 ∧ (p0.f1.length : Int) ≤ 9223372036854775807 then Option.bind (α := Bool) (if p1 < (0 : Int) then some (true)
  else some (decide (((List.replicate (p0.f1.length : Int).toNat false).length : Int) ≤ p1))) fun b6 =>
  if b6 = true then some ((List.replicate (p0.f1.length : Int).toNat false))
  else if 0 ≤ p1 ∧ p1 < ((List.replicate (p0.f1.length : Int).toNat false).length : Int) then bosketref08_Reached_l6 k p0 k (lset (List.replicate (p0.f1.length : Int).toNat false) p1 true) (0 : Int)
  else none
  else none
theorem bosketref08_Reached_spec {k : Nat} {p0 : S30} {p1 : Int} {r : (List Bool)} (h : bosketref08_Reached k p0 p1 = some r) : Spec Try.prog 96 [(e30 p0), (eI64 p1)] (e49 r) := by
  rw [bosketref08_Reached.eq_1] at h
  refine Spec.intro (res := [.tmp 4]) Try.func96 rfl rfl rfl (Nat.le_of_ble_eq_true rfl) ?_
  refine AW.sr ?_
  refine AO.box rfl 2 rfl (by decide) rfl rfl rfl fun n3 => ?_
  refine AO.c (Calm.assign rfl rfl) ?_
  refine AO.nK [1, 2] ?_
  refine AW.sr ?_
  refine AO.c (x := .ptr n3 256) (Calm.fldPtr rfl rfl Try.underlying30 rfl sz28 _ rfl) ?_
  refine AO.c (Calm.load 0 rfl rfl rfl (At.cast (At.fldS (At.fld0 At.here)) rfl) ag28 sz28) ?_
  refine AO.c (Calm.lenL rfl rfl Try.underlying28) ?_
  obtain ⟨hg5, h⟩ := of_guard h
  refine AO.makeL (f := eBool) false rfl 13 rfl (by decide) rfl rfl rfl Try.underlying49 sz4 by4 zr4 lay4 rfl hg5 fun n4 => ?_
  refine AO.c (Calm.assign rfl rfl) ?_
  refine AO.nH [1, 2, 5] (H' := [(n3, (.mem (e30 p0))), (n4, (.mem (.ar 1 ((List.replicate (p0.f1.length : Int).toNat false).map eBool))))]) (Sub.cons 1 rfl (Sub.cons 0 rfl (Sub.nil _))) ?_
  refine AW.seq ?_
  refine AW.seq ?_
  obtain ⟨b6, hq7, h⟩ := of_bind h
  refine AW.regM [(1, (eI64 p1)), (2, (.ptr n3 0)), (5, (.own n4 0 (List.replicate (p0.f1.length : Int).toNat false).length)), (21, (eBool b6))] [(n3, (.mem (e30 p0))), (n4, (.mem (.ar 1 ((List.replicate (p0.f1.length : Int).toNat false).map eBool))))] ?_ ?_
  ·refine AO.c (Calm.move rfl rfl) ?_
   refine AO.c (x := eBool (decide (p1 < (0 : Int)))) (Calm.int rfl rfl rfl rfl) ?_
   refine AO.c (Calm.move rfl rfl) ?_
   rcases of_ite hq7 with ⟨hc8, hq7⟩ | ⟨hc8, hq7⟩
   ·refine AO.sF rfl rfl (bD (decide_eq_true hc8)) ?_
    refine AO.sF rfl rfl (bD (decide_eq_true hc8)) ?_
    refine AO.sF rfl rfl (bD (decide_eq_true hc8)) ?_
    refine AO.sF rfl rfl (bD (decide_eq_true hc8)) ?_
    refine AO.c (Calm.pickT rfl (bD (decide_eq_true hc8)) rfl) ?_
    cases hq7
    refine AO.nilE ⟨rfl, rfl⟩ ?_ ?_
    · exact ⟨rfl, rfl, rfl, rfl, trivial⟩
    · exact (Sub.refl _)
   ·refine AO.cG rfl rfl (bD (decide_eq_false hc8)) (Calm.move rfl rfl) ?_
    refine AO.cG rfl rfl (bD (decide_eq_false hc8)) (Calm.move rfl rfl) ?_
    refine AO.cG rfl rfl (bD (decide_eq_false hc8)) (Calm.lenOwn rfl rfl Try.underlying49) ?_
    refine AO.cG (x := eBool (decide (((List.replicate (p0.f1.length : Int).toNat false).length : Int) ≤ p1))) rfl rfl (bD (decide_eq_false hc8)) (Calm.int rfl rfl rfl rfl) ?_
    refine AO.c (Calm.pickF rfl (bD (decide_eq_false hc8)) rfl) ?_
    cases hq7
    refine AO.nilE ⟨rfl, rfl⟩ ?_ ?_
    · exact ⟨rfl, rfl, rfl, rfl, trivial⟩
    · exact (Sub.refl _)
  ·rcases of_ite h with ⟨hc9, h⟩ | ⟨hc9, h⟩
   ·refine AW.condT' _ rfl hc9 ?_
    refine AW.sr ?_
    refine AO.c (Calm.move rfl rfl) ?_
    refine AO.c (Calm.assign rfl rfl) ?_
    refine AO.nH [4] (H' := [(n4, (.mem (.ar 1 ((List.replicate (p0.f1.length : Int).toNat false).map eBool))))]) (Sub.cons 1 rfl (Sub.nil _)) ?_
    refine AW.freezeS 0 [(4, (.fz 1 ((List.replicate (p0.f1.length : Int).toNat false).map eBool)))] rfl ⟨fz_all rfl, trivial⟩ ?_
    refine AW.rK [4] ?_
    have hr := Option.some.inj h
    subst hr
    exact ⟨[(.fz 1 ((List.replicate (p0.f1.length : Int).toNat false).map eBool))], ⟨rfl, rfl, trivial⟩, rfl⟩
   ·refine AW.condF' _ rfl hc9 ?_
    refine AW.sK [1, 2, 5] ?_
    refine AW.sr ?_
    refine AO.c (Calm.move rfl rfl) ?_
    refine AO.c (Calm.move rfl rfl) ?_
    obtain ⟨hg10, h⟩ := of_guard h
    refine AO.c (Calm.idxO 1 rfl rfl rfl rfl hg10 Try.underlying49 sz4) ?_
    refine AO.store (X' := (.ar 1 ((lset (List.replicate (p0.f1.length : Int).toNat false) p1 true).map eBool))) 1 rfl rfl rfl rfl rfl rfl (Put.cast (Put.lidx p1 true hg10.1 hg10.2 Put.here) (by omega)) rfl rfl sz4 rfl ?_
    refine AO.coe 5 (y' := (.own n4 0 (lset (List.replicate (p0.f1.length : Int).toNat false) p1 true).length)) rfl (fun _ _ h => lset_own h) ?_
    refine AO.coe 23 (y' := (.own n4 0 (lset (List.replicate (p0.f1.length : Int).toNat false) p1 true).length)) rfl (fun _ _ h => lset_own h) ?_
    refine AO.nK [2, 5] ?_
    refine AW.seq_mid (fun ρ H => ∃ (x11 : (List Bool)), ρ = [(5, (.own n4 0 x11.length))] ∧ H = [(n4, (.mem (.ar 1 (x11.map eBool))))] ∧ bosketref08_Reached_c0 k x11 = some r) ?_ ?_
    ·refine AW.sr ?_
     refine AO.c (Calm.assign rfl rfl) ?_
     refine AO.nK [2, 5, 6] ?_
     refine AW.block ?_
     refine AW.wK [2, 5, 6] ?_
     refine AW.loop (fun kq ρ H => ∃ (x12 : (List Bool)) (x13 : Int), ρ = [(2, (.ptr n3 0)), (5, (.own n4 0 x12.length)), (6, (eI64 x13))] ∧ H = [(n3, (.mem (e30 p0))), (n4, (.mem (.ar 1 (x12.map eBool))))] ∧ bosketref08_Reached_l6 k p0 kq x12 x13 = some r) k ⟨(lset (List.replicate (p0.f1.length : Int).toNat false) p1 true), (0 : Int), rfl, rfl, h⟩ ?_
     rintro kq15 _ _ ⟨x12, x13, rfl, rfl, h⟩
     cases kq15 with
     | zero => rw [bosketref08_Reached_l6.eq_1] at h; cases h
     | succ kq15 =>
     rw [bosketref08_Reached_l6.eq_2] at h
     generalize hrec14 : bosketref08_Reached_l6 k p0 kq15 = rec14 at h
     refine AW.seq ?_
     refine AW.sr ?_
     refine AO.c (Calm.move rfl rfl) ?_
     refine AO.c (Calm.move rfl rfl) ?_
     refine AO.c (Calm.lenOwn rfl rfl Try.underlying49) ?_
     refine AO.c (x := eBool (decide (x13 < (x12.length : Int)))) (Calm.int rfl rfl rfl rfl) ?_
     refine AO.nK [2, 5, 6, 29] ?_
     rcases of_ite h with ⟨hc16, h⟩ | ⟨hc16, h⟩
     ·refine AW.condP _ rfl hc16 ?_
      refine AW.sK [2, 5, 6] ?_
      refine AW.seq_mid (fun ρ H => ∃ (x17 : (List Bool)), ρ = [(2, (.ptr n3 0)), (5, (.own n4 0 x17.length)), (6, (eI64 x13))] ∧ H = [(n3, (.mem (e30 p0))), (n4, (.mem (.ar 1 (x17.map eBool))))] ∧ bosketref08_Reached_c1 k rec14 x13 x17 = some r) ?_ ?_
      ·refine AW.block ?_
       refine AW.sr ?_
       refine AO.c (Calm.assign rfl rfl) ?_
       refine AO.nK [2, 5, 6, 7] ?_
       refine AW.block ?_
       refine AW.wK [2, 5, 6, 7] ?_
       refine AW.loop (fun kq ρ H => ∃ (x18 : (List Bool)) (x19 : Int), ρ = [(2, (.ptr n3 0)), (5, (.own n4 0 x18.length)), (6, (eI64 x13)), (7, (eI64 x19))] ∧ H = [(n3, (.mem (e30 p0))), (n4, (.mem (.ar 1 (x18.map eBool))))] ∧ bosketref08_Reached_l5 k rec14 p0 x13 kq x18 x19 = some r) k ⟨x12, (0 : Int), rfl, rfl, h⟩ ?_
       rintro kq21 _ _ ⟨x18, x19, rfl, rfl, h⟩
       cases kq21 with
       | zero => rw [bosketref08_Reached_l5.eq_1] at h; cases h
       | succ kq21 =>
       rw [bosketref08_Reached_l5.eq_2] at h
       generalize hrec20 : bosketref08_Reached_l5 k rec14 p0 x13 kq21 = rec20 at h
       refine AW.seq ?_
       refine AW.sr ?_
       refine AO.c (Calm.move rfl rfl) ?_
       refine AO.c (Calm.move rfl rfl) ?_
       refine AO.c (Calm.lenOwn rfl rfl Try.underlying49) ?_
       refine AO.c (x := eBool (decide (x19 < (x18.length : Int)))) (Calm.int rfl rfl rfl rfl) ?_
       refine AO.nK [2, 5, 6, 7, 35] ?_
       rcases of_ite h with ⟨hc22, h⟩ | ⟨hc22, h⟩
       ·refine AW.condP _ rfl hc22 ?_
        refine AW.sK [2, 5, 6, 7] ?_
        refine AW.seq_mid (fun ρ H => ∃ (x23 : (List Bool)), ρ = [(2, (.ptr n3 0)), (5, (.own n4 0 x23.length)), (6, (eI64 x13)), (7, (eI64 x19))] ∧ H = [(n3, (.mem (e30 p0))), (n4, (.mem (.ar 1 (x23.map eBool))))] ∧ bosketref08_Reached_c2 k rec20 x19 x23 = some r) ?_ ?_
        ·refine AW.block ?_
         refine AW.sr ?_
         refine AO.c (Calm.assign rfl rfl) ?_
         refine AO.nK [2, 5, 6, 7, 8] ?_
         refine AW.block ?_
         refine AW.wK [2, 5, 6, 7, 8] ?_
         refine AW.loop (fun kq ρ H => ∃ (x24 : (List Bool)) (x25 : Int), ρ = [(2, (.ptr n3 0)), (5, (.own n4 0 x24.length)), (6, (eI64 x13)), (7, (eI64 x19)), (8, (eI64 x25))] ∧ H = [(n3, (.mem (e30 p0))), (n4, (.mem (.ar 1 (x24.map eBool))))] ∧ bosketref08_Reached_l4 k rec20 p0 x19 kq x24 x25 = some r) k ⟨x18, (0 : Int), rfl, rfl, h⟩ ?_
         rintro kq27 _ _ ⟨x24, x25, rfl, rfl, h⟩
         cases kq27 with
         | zero => rw [bosketref08_Reached_l4.eq_1] at h; cases h
         | succ kq27 =>
         rw [bosketref08_Reached_l4.eq_2] at h
         generalize hrec26 : bosketref08_Reached_l4 k rec20 p0 x19 kq27 = rec26 at h
         refine AW.seq ?_
         refine AW.seq ?_
         obtain ⟨b28, hq29, h⟩ := of_bind h
         refine AW.regM [(2, (.ptr n3 0)), (5, (.own n4 0 x24.length)), (6, (eI64 x13)), (7, (eI64 x19)), (8, (eI64 x25)), (51, (eBool b28))] [(n3, (.mem (e30 p0))), (n4, (.mem (.ar 1 (x24.map eBool))))] ?_ ?_
         ·refine AO.c (Calm.move rfl rfl) ?_
          refine AO.c (Calm.move rfl rfl) ?_
          obtain ⟨hg30, hq29⟩ := of_guard hq29
          refine AO.c (Calm.idxO 1 rfl rfl rfl rfl hg30 Try.underlying49 sz4) ?_
          refine AO.c (Calm.load 1 rfl rfl rfl (At.cast (At.lidx x19 hg30.1 hg30.2 At.here) (by omega)) ag4 sz4) ?_
          refine AO.c (Calm.move rfl rfl) ?_
          rcases of_ite hq29 with ⟨hc31, hq29⟩ | ⟨hc31, hq29⟩
          ·refine AO.cG rfl rfl (bD hc31) (Calm.move rfl rfl) ?_
           refine AO.cG (x := .ptr n3 256) rfl rfl (bD hc31) (Calm.fldPtr rfl rfl Try.underlying30 rfl sz28 _ rfl) ?_
           refine AO.cG rfl rfl (bD hc31) (Calm.load 0 rfl rfl rfl (At.cast (At.fldS (At.fld0 At.here)) rfl) ag28 sz28) ?_
           refine AO.cG rfl rfl (bD hc31) (Calm.move rfl rfl) ?_
           obtain ⟨hg32, hq29⟩ := of_guard hq29
           refine AO.cG rfl rfl (bD hc31) (Calm.idxL (f := e25) rfl rfl rfl hg32 Try.underlying28 sz25) ?_
           refine AO.cG rfl rfl (bD hc31) (Calm.loadRp rfl rfl ag25 sz25) ?_
           refine AO.cG rfl rfl (bD hc31) (Calm.lenL rfl rfl Try.underlying25) ?_
           refine AO.cG (x := eBool (decide (x25 < ((lget p0.f1 x19).length : Int)))) rfl rfl (bD hc31) (Calm.int rfl rfl rfl rfl) ?_
           refine AO.c (Calm.pickT rfl (bD hc31) rfl) ?_
           cases hq29
           refine AO.nilE ⟨rfl, rfl⟩ ?_ ?_
           · exact ⟨rfl, rfl, rfl, rfl, rfl, rfl, trivial⟩
           · exact (Sub.refl _)
          ·refine AO.sT rfl rfl (bD (eq_false_of_ne_true hc31)) ?_
           refine AO.sT rfl rfl (bD (eq_false_of_ne_true hc31)) ?_
           refine AO.sT rfl rfl (bD (eq_false_of_ne_true hc31)) ?_
           refine AO.sT rfl rfl (bD (eq_false_of_ne_true hc31)) ?_
           refine AO.sT rfl rfl (bD (eq_false_of_ne_true hc31)) ?_
           refine AO.sT rfl rfl (bD (eq_false_of_ne_true hc31)) ?_
           refine AO.sT rfl rfl (bD (eq_false_of_ne_true hc31)) ?_
           refine AO.sT rfl rfl (bD (eq_false_of_ne_true hc31)) ?_
           refine AO.c (Calm.pickF rfl (bD (eq_false_of_ne_true hc31)) rfl) ?_
           cases hq29
           refine AO.nilE ⟨rfl, rfl⟩ ?_ ?_
           · exact ⟨rfl, rfl, rfl, rfl, rfl, rfl, trivial⟩
           · exact (Sub.refl _)
         ·rcases of_ite h with ⟨hc33, h⟩ | ⟨hc33, h⟩
          ·refine AW.condT' _ rfl hc33 ?_
           refine AW.sK [2, 5, 6, 7, 8] ?_
           refine AW.seq_mid (fun ρ H => ∃ (x34 : (List Bool)), ρ = [(2, (.ptr n3 0)), (5, (.own n4 0 x34.length)), (6, (eI64 x13)), (7, (eI64 x19)), (8, (eI64 x25))] ∧ H = [(n3, (.mem (e30 p0))), (n4, (.mem (.ar 1 (x34.map eBool))))] ∧ bosketref08_Reached_c3 k rec26 x25 x34 = some r) ?_ ?_
           ·refine AW.block ?_
            refine AW.sr ?_
            refine AO.c (x := .ptr n3 256) (Calm.fldPtr rfl rfl Try.underlying30 rfl sz28 _ rfl) ?_
            refine AO.c (Calm.load 0 rfl rfl rfl (At.cast (At.fldS (At.fld0 At.here)) rfl) ag28 sz28) ?_
            refine AO.c (Calm.move rfl rfl) ?_
            obtain ⟨hg35, h⟩ := of_guard h
            refine AO.c (Calm.idxL (f := e25) rfl rfl rfl hg35 Try.underlying28 sz25) ?_
            refine AO.c (Calm.loadRp rfl rfl ag25 sz25) ?_
            refine AO.c (Calm.move rfl rfl) ?_
            obtain ⟨hg36, h⟩ := of_guard h
            refine AO.c (Calm.idxL (f := eI64) rfl rfl rfl hg36 Try.underlying25 sz3) ?_
            refine AO.c (Calm.loadRp rfl rfl ag3 sz3) ?_
            refine AO.c (Calm.assign rfl rfl) ?_
            refine AO.nK [2, 5, 6, 7, 8, 9] ?_
            refine AW.sr ?_
            refine AO.c (Calm.move rfl rfl) ?_
            refine AO.c (x := eBool (decide ((0 : Int) ≤ (lget (lget p0.f1 x19) x25)))) (Calm.int rfl rfl rfl rfl) ?_
            refine AO.nK [2, 5, 6, 7, 8, 9, 63] ?_
            rcases of_ite h with ⟨hc37, h⟩ | ⟨hc37, h⟩
            ·refine AW.condP _ rfl hc37 ?_
             refine AW.reg ?_
             refine AO.c (Calm.move rfl rfl) ?_
             refine AO.c (Calm.move rfl rfl) ?_
             obtain ⟨hg38, h⟩ := of_guard h
             refine AO.c (Calm.idxO 1 rfl rfl rfl rfl hg38 Try.underlying49 sz4) ?_
             refine AO.store (X' := (.ar 1 ((lset x24 (lget (lget p0.f1 x19) x25) true).map eBool))) 1 rfl rfl rfl rfl rfl rfl (Put.cast (Put.lidx (lget (lget p0.f1 x19) x25) true hg38.1 hg38.2 Put.here) (by omega)) rfl rfl sz4 rfl ?_
             refine AO.coe 5 (y' := (.own n4 0 (lset x24 (lget (lget p0.f1 x19) x25) true).length)) rfl (fun _ _ h => lset_own h) ?_
             refine AO.coe 64 (y' := (.own n4 0 (lset x24 (lget (lget p0.f1 x19) x25) true).length)) rfl (fun _ _ h => lset_own h) ?_
             refine AO.nK [2, 5, 6, 7, 8] ?_
             exact ⟨(lset x24 (lget (lget p0.f1 x19) x25) true), rfl, rfl, h⟩
            ·refine AW.condN _ rfl hc37 ?_
             refine AW.sK [2, 5, 6, 7, 8] ?_
             exact ⟨x24, rfl, rfl, h⟩
           ·rintro _ _ ⟨x34, rfl, rfl, h⟩
            rw [bosketref08_Reached_c3.eq_1] at h
            refine AW.reg ?_
            refine AO.c (Calm.move rfl rfl) ?_
            refine AO.c (x := eI64 (w64 (x25 + (1 : Int)))) (Calm.int rfl rfl rfl rfl) ?_
            refine AO.c (Calm.assign rfl rfl) ?_
            refine AO.nK [2, 5, 6, 7, 8] ?_
            exact ⟨kq27, Nat.lt_succ_self _, x34, (w64 (x25 + (1 : Int))), rfl, rfl, by rw [hrec26]; exact h⟩
          ·refine AW.condF' _ rfl hc33 ?_
           refine AW.eK [2, 5, 6, 7] ?_
           exact ⟨x24, rfl, rfl, h⟩
        ·rintro _ _ ⟨x23, rfl, rfl, h⟩
         rw [bosketref08_Reached_c2.eq_1] at h
         refine AW.reg ?_
         refine AO.c (Calm.move rfl rfl) ?_
         refine AO.c (x := eI64 (w64 (x19 + (1 : Int)))) (Calm.int rfl rfl rfl rfl) ?_
         refine AO.c (Calm.assign rfl rfl) ?_
         refine AO.nK [2, 5, 6, 7] ?_
         exact ⟨kq21, Nat.lt_succ_self _, x23, (w64 (x19 + (1 : Int))), rfl, rfl, by rw [hrec20]; exact h⟩
       ·refine AW.condN _ rfl hc22 ?_
        refine AW.eK [2, 5, 6] ?_
        exact ⟨x18, rfl, rfl, h⟩
      ·rintro _ _ ⟨x17, rfl, rfl, h⟩
       rw [bosketref08_Reached_c1.eq_1] at h
       refine AW.reg ?_
       refine AO.c (Calm.move rfl rfl) ?_
       refine AO.c (x := eI64 (w64 (x13 + (1 : Int)))) (Calm.int rfl rfl rfl rfl) ?_
       refine AO.c (Calm.assign rfl rfl) ?_
       refine AO.nK [2, 5, 6] ?_
       exact ⟨kq15, Nat.lt_succ_self _, x17, (w64 (x13 + (1 : Int))), rfl, rfl, by rw [hrec14]; exact h⟩
     ·refine AW.condN _ rfl hc16 ?_
      refine AW.eH [5] (H' := [(n4, (.mem (.ar 1 (x12.map eBool))))]) (Sub.cons 1 rfl (Sub.nil _)) ?_
      exact ⟨x12, rfl, rfl, h⟩
    ·rintro _ _ ⟨x11, rfl, rfl, h⟩
     rw [bosketref08_Reached_c0.eq_1] at h
     refine AW.sr ?_
     refine AO.c (Calm.move rfl rfl) ?_
     refine AO.c (Calm.assign rfl rfl) ?_
     refine AO.nK [4] ?_
     refine AW.freezeS 0 [(4, (.fz 1 (x11.map eBool)))] rfl ⟨fz_all rfl, trivial⟩ ?_
     refine AW.rK [4] ?_
     have hr := Option.some.inj h
     subst hr
     exact ⟨[(.fz 1 (x11.map eBool))], ⟨rfl, rfl, trivial⟩, rfl⟩
end Go.Avl.T5
/- bosket/bosketref08.Alive; printed by avmain.py. -/
namespace Go.Avl.T5
open Go Go.RowKit Go.Proofs Go.Avl
set_option linter.unusedVariables false
set_option maxRecDepth 100000
set_option maxHeartbeats 4000000
attribute [local irreducible] AW AO AQ Spec SpecH Calm

def bosketref08_Alive_c0 (k : Nat) (x4 : (List Bool)) : Option (List Bool) :=
  some (x4)
def bosketref08_Alive_c1 (k : Nat) (rec8 : ((List Bool) → Int → Option (List Bool))) (x7 : Int) (x12 : (List Bool)) : Option (List Bool) :=
  rec8 x12 (w64 (x7 + (1 : Int)))
def bosketref08_Alive_c2 (k : Nat) (rec8 : ((List Bool) → Int → Option (List Bool))) (x6 : (List Bool)) (x7 : Int) (b14 : Bool) : Option (List Bool) :=
  if (x6 ++ ([b14] : List Bool)).length * 1 ≤ 140737488355328 then bosketref08_Alive_c1 k rec8 x7 (x6 ++ ([b14] : List Bool))
  else none
def bosketref08_Alive_l3 (k : Nat) (rec8 : ((List Bool) → Int → Option (List Bool))) (p0 : S30) (x6 : (List Bool)) (x7 : Int) (t13 : (List Bool)) : Nat → Bool → Int → Option (List Bool)
  | 0, _, _ => none
  | j + 1, b18, x19 =>
    if x19 < (t13.length : Int) then Option.bind (α := Bool) (if b18 = true then some (true)
    else if 0 ≤ x19 ∧ x19 < (t13.length : Int) then if (lget t13 x19) = true then if 0 ≤ x19 ∧ x19 < (p0.f2.length : Int) then some (decide ((0 : Int) ≤ (lget p0.f2 x19)))
    else none
    else some (false)
    else none) fun b23 =>
    (bosketref08_Alive_l3 k rec8 p0 x6 x7 t13 j) b23 (w64 (x19 + (1 : Int)))
    else bosketref08_Alive_c2 k rec8 x6 x7 b18
def bosketref08_Alive_l4 (k : Nat) (p0 : S30) : Nat → (List Bool) → Int → Option (List Bool)
  | 0, _, _ => none
  | j + 1, x6, x7 =>
    if x7 < (p0.f1.length : Int) then (bosketref08_Reached k p0 x7).bind fun t13 =>
    bosketref08_Alive_l3 k (bosketref08_Alive_l4 k p0 j) p0 x6 x7 t13 k false (0 : Int)
    else bosketref08_Alive_c0 k x6
def bosketref08_Alive (k : Nat) (p0 : S30) : Option (List Bool) :=
  bosketref08_Alive_l4 k p0 k ([] : List Bool) (0 : Int)
theorem bosketref08_Alive_spec {k : Nat} {p0 : S30} {r : (List Bool)} (h : bosketref08_Alive k p0 = some r) : Spec Try.prog 72 [(e30 p0)] (e49 r) := by
  rw [bosketref08_Alive.eq_1] at h
  refine Spec.intro (res := [.tmp 2]) Try.func72 rfl rfl rfl (Nat.le_of_ble_eq_true rfl) ?_
  refine AW.sr ?_
  refine AO.box rfl 1 rfl (by decide) rfl rfl rfl fun n2 => ?_
  refine AO.c (Calm.assign rfl rfl) ?_
  refine AO.nK [1] ?_
  refine AW.sr ?_
  refine AO.c (Calm.assign rfl rfl) ?_
  refine AO.nK [1, 3] ?_
  refine AW.seq_mid (fun ρ H => ∃ (n3 : Nat) (x4 : (List Bool)), ρ = [(3, (.own n3 0 x4.length))] ∧ H = [(n3, (.mem (.ar 1 (x4.map eBool))))] ∧ bosketref08_Alive_c0 k x4 = some r) ?_ ?_
  ·refine AW.sr ?_
   refine AO.c (Calm.assign rfl rfl) ?_
   refine AO.nK [1, 3, 4] ?_
   refine AW.block ?_
   refine AW.nilOwn 3 1 rfl fun n29 => ?_
   refine AW.wH [1, 3, 4] (H' := [(n2, (.mem (e30 p0))), (n29, (.mem (.ar 1 (([] : List Bool).map eBool))))]) (Sub.cons 1 rfl (Sub.cons 0 rfl (Sub.nil _))) ?_
   refine AW.loop (fun kq ρ H => ∃ (n5 : Nat) (x6 : (List Bool)) (x7 : Int), ρ = [(1, (.ptr n2 0)), (3, (.own n5 0 x6.length)), (4, (eI64 x7))] ∧ H = [(n2, (.mem (e30 p0))), (n5, (.mem (.ar 1 (x6.map eBool))))] ∧ bosketref08_Alive_l4 k p0 kq x6 x7 = some r) k ⟨n29, ([] : List Bool), (0 : Int), rfl, rfl, h⟩ ?_
   rintro kq9 _ _ ⟨n5, x6, x7, rfl, rfl, h⟩
   cases kq9 with
   | zero => rw [bosketref08_Alive_l4.eq_1] at h; cases h
   | succ kq9 =>
   rw [bosketref08_Alive_l4.eq_2] at h
   generalize hrec8 : bosketref08_Alive_l4 k p0 kq9 = rec8 at h
   refine AW.seq ?_
   refine AW.sr ?_
   refine AO.c (Calm.move rfl rfl) ?_
   refine AO.c (x := .ptr n2 256) (Calm.fldPtr rfl rfl Try.underlying30 rfl sz28 _ rfl) ?_
   refine AO.c (Calm.load 0 rfl rfl rfl (At.cast (At.fldS (At.fld0 At.here)) rfl) ag28 sz28) ?_
   refine AO.c (Calm.lenL rfl rfl Try.underlying28) ?_
   refine AO.c (x := eBool (decide (x7 < (p0.f1.length : Int)))) (Calm.int rfl rfl rfl rfl) ?_
   refine AO.nK [1, 3, 4, 12] ?_
   rcases of_ite h with ⟨hc10, h⟩ | ⟨hc10, h⟩
   ·refine AW.condP _ rfl hc10 ?_
    refine AW.sK [1, 3, 4] ?_
    refine AW.seq_mid (fun ρ H => ∃ (n11 : Nat) (x12 : (List Bool)), ρ = [(1, (.ptr n2 0)), (3, (.own n11 0 x12.length)), (4, (eI64 x7))] ∧ H = [(n2, (.mem (e30 p0))), (n11, (.mem (.ar 1 (x12.map eBool))))] ∧ bosketref08_Alive_c1 k rec8 x7 x12 = some r) ?_ ?_
    ·refine AW.block ?_
     refine AW.sr ?_
     refine AO.c (Calm.load 0 rfl rfl rfl (At.cast At.here rfl) ag30 sz30) ?_
     refine AO.c (Calm.move rfl rfl) ?_
     obtain ⟨t13, et13, h⟩ := of_bind h
     refine AO.callS [(e30 p0), (eI64 x7)] (.fz 1 (t13.map eBool)) 17 rfl (by decide) ok96 rfl rfl rfl ⟨rfl, rfl, rfl, rfl, trivial⟩ (bosketref08_Reached_spec et13) ?_
     refine AO.c (Calm.assign rfl rfl) ?_
     refine AO.c (Calm.assign rfl rfl) ?_
     refine AO.nK [1, 3, 4, 5, 6] ?_
     refine AW.seq_mid (fun ρ H => ∃ (b14 : Bool), ρ = [(1, (.ptr n2 0)), (3, (.own n5 0 x6.length)), (4, (eI64 x7)), (6, (eBool b14))] ∧ H = [(n2, (.mem (e30 p0))), (n5, (.mem (.ar 1 (x6.map eBool))))] ∧ bosketref08_Alive_c2 k rec8 x6 x7 b14 = some r) ?_ ?_
     ·refine AW.sr ?_
      refine AO.c (Calm.assign rfl rfl) ?_
      refine AO.nK [1, 3, 4, 5, 6, 7] ?_
      refine AW.block ?_
      refine AW.wK [1, 3, 4, 5, 6, 7] ?_
      refine AW.loop (fun kq ρ H => ∃ (b18 : Bool) (x19 : Int), ρ = [(1, (.ptr n2 0)), (3, (.own n5 0 x6.length)), (4, (eI64 x7)), (5, (.fz 1 (t13.map eBool))), (6, (eBool b18)), (7, (eI64 x19))] ∧ H = [(n2, (.mem (e30 p0))), (n5, (.mem (.ar 1 (x6.map eBool))))] ∧ bosketref08_Alive_l3 k rec8 p0 x6 x7 t13 kq b18 x19 = some r) k ⟨false, (0 : Int), rfl, rfl, h⟩ ?_
      rintro kq21 _ _ ⟨b18, x19, rfl, rfl, h⟩
      cases kq21 with
      | zero => rw [bosketref08_Alive_l3.eq_1] at h; cases h
      | succ kq21 =>
      rw [bosketref08_Alive_l3.eq_2] at h
      generalize hrec20 : bosketref08_Alive_l3 k rec8 p0 x6 x7 t13 kq21 = rec20 at h
      refine AW.seq ?_
      refine AW.sr ?_
      refine AO.c (Calm.move rfl rfl) ?_
      refine AO.c (Calm.move rfl rfl) ?_
      refine AO.c (Calm.lenL rfl rfl Try.underlying49) ?_
      refine AO.c (x := eBool (decide (x19 < (t13.length : Int)))) (Calm.int rfl rfl rfl rfl) ?_
      refine AO.nK [1, 3, 4, 5, 6, 7, 21] ?_
      rcases of_ite h with ⟨hc22, h⟩ | ⟨hc22, h⟩
      ·refine AW.condP _ rfl hc22 ?_
       refine AW.sK [1, 3, 4, 5, 6, 7] ?_
       refine AW.seq ?_
       refine AW.block ?_
       obtain ⟨b23, hq24, h⟩ := of_bind h
       refine AW.regM [(1, (.ptr n2 0)), (3, (.own n5 0 x6.length)), (4, (eI64 x7)), (5, (.fz 1 (t13.map eBool))), (6, (eBool b23)), (7, (eI64 x19))] [(n2, (.mem (e30 p0))), (n5, (.mem (.ar 1 (x6.map eBool))))] ?_ ?_
       ·refine AO.c (Calm.move rfl rfl) ?_
        refine AO.c (Calm.move rfl rfl) ?_
        rcases of_ite hq24 with ⟨hc25, hq24⟩ | ⟨hc25, hq24⟩
        ·refine AO.sF rfl rfl (bD hc25) ?_
         refine AO.sF rfl rfl (bD hc25) ?_
         refine AO.sF rfl rfl (bD hc25) ?_
         refine AO.sF rfl rfl (bD hc25) ?_
         refine AO.sF rfl rfl (bD hc25) ?_
         refine AO.sU rfl rfl rfl ?_
         refine AO.sU rfl rfl rfl ?_
         refine AO.sU rfl rfl rfl ?_
         refine AO.sU rfl rfl rfl ?_
         refine AO.sU rfl rfl rfl ?_
         refine AO.sU rfl rfl rfl ?_
         refine AO.sF rfl rfl (bD hc25) ?_
         refine AO.c (Calm.pickT rfl (bD hc25) rfl) ?_
         refine AO.c (Calm.assign rfl rfl) ?_
         cases hq24
         refine AO.nilE ⟨rfl, rfl⟩ ?_ ?_
         · exact ⟨rfl, rfl, rfl, rfl, rfl, rfl, trivial⟩
         · exact (Sub.refl _)
        ·refine AO.cG rfl rfl (bD (eq_false_of_ne_true hc25)) (Calm.move rfl rfl) ?_
         refine AO.cG rfl rfl (bD (eq_false_of_ne_true hc25)) (Calm.move rfl rfl) ?_
         obtain ⟨hg26, hq24⟩ := of_guard hq24
         refine AO.cG rfl rfl (bD (eq_false_of_ne_true hc25)) (Calm.idxL (f := eBool) rfl rfl rfl hg26 Try.underlying49 sz4) ?_
         refine AO.cG rfl rfl (bD (eq_false_of_ne_true hc25)) (Calm.loadRp rfl rfl ag4 sz4) ?_
         refine AO.cG rfl rfl (bD (eq_false_of_ne_true hc25)) (Calm.move rfl rfl) ?_
         rcases of_ite hq24 with ⟨hc27, hq24⟩ | ⟨hc27, hq24⟩
         ·refine AO.cG (x := .ptr n2 257) rfl rfl (bD hc27) (Calm.fldPtr rfl rfl Try.underlying30 rfl sz25 _ rfl) ?_
          refine AO.cG rfl rfl (bD hc27) (Calm.load 0 rfl rfl rfl (At.cast (At.fldS (At.fldS (At.fld0 At.here))) rfl) ag25 sz25) ?_
          refine AO.cG rfl rfl (bD hc27) (Calm.move rfl rfl) ?_
          obtain ⟨hg28, hq24⟩ := of_guard hq24
          refine AO.cG rfl rfl (bD hc27) (Calm.idxL (f := eI64) rfl rfl rfl hg28 Try.underlying25 sz3) ?_
          refine AO.cG rfl rfl (bD hc27) (Calm.loadRp rfl rfl ag3 sz3) ?_
          refine AO.cG (x := eBool (decide ((0 : Int) ≤ (lget p0.f2 x19)))) rfl rfl (bD hc27) (Calm.int rfl rfl rfl rfl) ?_
          refine AO.cG rfl rfl (bD (eq_false_of_ne_true hc25)) (Calm.pickT rfl (bD hc27) rfl) ?_
          refine AO.c (Calm.pickF rfl (bD (eq_false_of_ne_true hc25)) rfl) ?_
          refine AO.c (Calm.assign rfl rfl) ?_
          cases hq24
          refine AO.nilE ⟨rfl, rfl⟩ ?_ ?_
          · exact ⟨rfl, rfl, rfl, rfl, rfl, rfl, trivial⟩
          · exact (Sub.refl _)
         ·refine AO.sT rfl rfl (bD (eq_false_of_ne_true hc27)) ?_
          refine AO.sT rfl rfl (bD (eq_false_of_ne_true hc27)) ?_
          refine AO.sT rfl rfl (bD (eq_false_of_ne_true hc27)) ?_
          refine AO.sT rfl rfl (bD (eq_false_of_ne_true hc27)) ?_
          refine AO.sT rfl rfl (bD (eq_false_of_ne_true hc27)) ?_
          refine AO.sT rfl rfl (bD (eq_false_of_ne_true hc27)) ?_
          refine AO.cG rfl rfl (bD (eq_false_of_ne_true hc25)) (Calm.pickF rfl (bD (eq_false_of_ne_true hc27)) rfl) ?_
          refine AO.c (Calm.pickF rfl (bD (eq_false_of_ne_true hc25)) rfl) ?_
          refine AO.c (Calm.assign rfl rfl) ?_
          cases hq24
          refine AO.nilE ⟨rfl, rfl⟩ ?_ ?_
          · exact ⟨rfl, rfl, rfl, rfl, rfl, rfl, trivial⟩
          · exact (Sub.refl _)
       ·refine AW.reg ?_
        refine AO.c (Calm.move rfl rfl) ?_
        refine AO.c (x := eI64 (w64 (x19 + (1 : Int)))) (Calm.int rfl rfl rfl rfl) ?_
        refine AO.c (Calm.assign rfl rfl) ?_
        refine AO.nK [1, 3, 4, 5, 6, 7] ?_
        exact ⟨kq21, Nat.lt_succ_self _, b23, (w64 (x19 + (1 : Int))), rfl, rfl, by rw [hrec20]; exact h⟩
      ·refine AW.condN _ rfl hc22 ?_
       refine AW.eK [1, 3, 4, 6] ?_
       exact ⟨b18, rfl, rfl, h⟩
     ·rintro _ _ ⟨b14, rfl, rfl, h⟩
      rw [bosketref08_Alive_c2.eq_1] at h
      refine AW.reg ?_
      refine AO.c (Calm.move rfl rfl) ?_
      refine AO.c (Calm.move rfl rfl) ?_
      refine AO.lit (Z := (eBool false)) (xs := (([b14] : List Bool).map eBool)) (qs := [(0, (eBool b14))]) rfl 41 rfl (by decide) rfl ⟨rfl, rfl, rfl, trivial⟩ Try.underlying49 sz4 zr4 lay4 rfl (by decide) (litOK (z := 1) [(eBool b14)] rfl ⟨⟨rfl, rfl⟩, trivial⟩) rfl fun n15 => ?_
      obtain ⟨hg17, h⟩ := of_guard h
      refine AO.appendL (l := x6) (m := ([b14] : List Bool)) 2 42 rfl (by decide) rfl rfl rfl rfl rfl (Src.ownL (f := eBool) (l := ([b14] : List Bool)) 0 rfl) Try.underlying49 Try.underlying49 sz4 by4 zr4 rfl hg17 (by decide) fun n16 => ?_
      refine AO.c (Calm.assign rfl rfl) ?_
      refine AO.nH [1, 3, 4] (H' := [(n2, (.mem (e30 p0))), (n16, (.mem (.ar 1 ((x6 ++ ([b14] : List Bool)).map eBool))))]) (Sub.cons 1 rfl (Sub.cons 1 rfl (Sub.nil _))) ?_
      exact ⟨n16, (x6 ++ ([b14] : List Bool)), rfl, rfl, h⟩
    ·rintro _ _ ⟨n11, x12, rfl, rfl, h⟩
     rw [bosketref08_Alive_c1.eq_1] at h
     refine AW.reg ?_
     refine AO.c (Calm.move rfl rfl) ?_
     refine AO.c (x := eI64 (w64 (x7 + (1 : Int)))) (Calm.int rfl rfl rfl rfl) ?_
     refine AO.c (Calm.assign rfl rfl) ?_
     refine AO.nK [1, 3, 4] ?_
     exact ⟨kq9, Nat.lt_succ_self _, n11, x12, (w64 (x7 + (1 : Int))), rfl, rfl, by rw [hrec8]; exact h⟩
   ·refine AW.condN _ rfl hc10 ?_
    refine AW.eH [3] (H' := [(n5, (.mem (.ar 1 (x6.map eBool))))]) (Sub.cons 1 rfl (Sub.nil _)) ?_
    exact ⟨n5, x6, rfl, rfl, h⟩
  ·rintro _ _ ⟨n3, x4, rfl, rfl, h⟩
   rw [bosketref08_Alive_c0.eq_1] at h
   refine AW.sr ?_
   refine AO.c (Calm.move rfl rfl) ?_
   refine AO.c (Calm.assign rfl rfl) ?_
   refine AO.nK [2] ?_
   refine AW.freezeS 0 [(2, (.fz 1 (x4.map eBool)))] rfl ⟨fz_all rfl, trivial⟩ ?_
   refine AW.rK [2] ?_
   have hr := Option.some.inj h
   subst hr
   exact ⟨[(.fz 1 (x4.map eBool))], ⟨rfl, rfl, trivial⟩, rfl⟩
end Go.Avl.T5
