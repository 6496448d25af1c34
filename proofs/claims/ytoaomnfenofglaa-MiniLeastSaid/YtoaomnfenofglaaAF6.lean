/- Parts: T5f74, T5f42, T5f9, T5f56, T5f82, T5f79, T5f48, T5f17, T5f14, T5f47, T5f29, T5f51, T5f53, T5f52, T5f54, T5f21, T5f49, T5f16, T5f18, T5f19, T5f20, T5f55, T5f80, T5f100, T5f81, T5f97, T5f84, T5f101, T5f83, T5f35. -/
import Derived.Test.YtoaomnfenofglaaAF1
import Derived.Test.YtoaomnfenofglaaAF3
import Derived.Test.YtoaomnfenofglaaAF4
import Derived.Test.YtoaomnfenofglaaAF5
/- bosket/bosketref08.Step; printed by avmain.py. -/
namespace Go.Avl.T5
open Go Go.RowKit Go.Proofs Go.Avl
set_option linter.unusedVariables false
set_option maxRecDepth 100000
set_option maxHeartbeats 4000000
attribute [local irreducible] AW AO AQ Spec SpecH Calm

def bosketref08_Step (k : Nat) (p0 : S30) (p1 : Int) (p2 : Int) : Option Int :=
  Option.bind (α := Bool) (if p1 < (0 : Int) then some (true)
  else if (p0.f1.length : Int) ≤ p1 then some (true)
  else if 0 ≤ p2 ∧ p2 < (256 : Int) then if 0 ≤ p1 ∧ p1 < (p0.f1.length : Int) then some (decide (((lget p0.f1 p1).length : Int) ≤ (w64 (vget p0.f0 p2))))
  else none
  else none) fun b5 =>
  if b5 = true then some ((-1 : Int))
  else if 0 ≤ p1 ∧ p1 < (p0.f1.length : Int) then if 0 ≤ p2 ∧ p2 < (256 : Int) then if 0 ≤ (vget p0.f0 p2) ∧ (vget p0.f0 p2) < ((lget p0.f1 p1).length : Int) then some ((lget (lget p0.f1 p1) (vget p0.f0 p2)))
  else none
  else none
  else none
theorem bosketref08_Step_spec {k : Nat} {p0 : S30} {p1 : Int} {p2 : Int} {r : Int} (h : bosketref08_Step k p0 p1 p2 = some r) : Spec Try.prog 74 [(e30 p0), (eI64 p1), (eI64 p2)] (eI64 r) := by
  rw [bosketref08_Step.eq_1] at h
  refine Spec.intro (res := [.tmp 6]) Try.func74 rfl rfl rfl (Nat.le_of_ble_eq_true rfl) ?_
  refine AW.sr ?_
  refine AO.box rfl 3 rfl (by decide) rfl rfl rfl fun n4 => ?_
  refine AO.c (Calm.assign rfl rfl) ?_
  refine AO.nK [1, 2, 3] ?_
  refine AW.seq ?_
  refine AW.seq ?_
  obtain ⟨b5, hq6, h⟩ := of_bind h
  refine AW.regQM (by rfl) (by decide +kernel) [(1, (eI64 p1)), (2, (eI64 p2)), (3, (.ptr n4 0)), (29, (eBool b5))] ?_ ?_
  ·refine AQ.c (Calm.move rfl rfl) ?_
   refine AQ.c (x := eBool (decide (p1 < (0 : Int)))) (Calm.int rfl rfl rfl rfl) ?_
   refine AQ.c (Calm.move rfl rfl) ?_
   rcases of_ite hq6 with ⟨hc7, hq6⟩ | ⟨hc7, hq6⟩
   ·refine AQ.sF rfl rfl (bD (decide_eq_true hc7)) ?_
    refine AQ.sF rfl rfl (bD (decide_eq_true hc7)) ?_
    refine AQ.sF rfl rfl (bD (decide_eq_true hc7)) ?_
    refine AQ.sF rfl rfl (bD (decide_eq_true hc7)) ?_
    refine AQ.sF rfl rfl (bD (decide_eq_true hc7)) ?_
    refine AQ.c (Calm.pickT rfl (bD (decide_eq_true hc7)) rfl) ?_
    refine AQ.c (Calm.move rfl rfl) ?_
    refine AQ.sF rfl rfl rfl ?_
    refine AQ.sF rfl rfl rfl ?_
    refine AQ.sF rfl rfl rfl ?_
    refine AQ.sF rfl rfl rfl ?_
    refine AQ.sF rfl rfl rfl ?_
    refine AQ.sF rfl rfl rfl ?_
    refine AQ.sF rfl rfl rfl ?_
    refine AQ.sF rfl rfl rfl ?_
    refine AQ.sF rfl rfl rfl ?_
    refine AQ.sF rfl rfl rfl ?_
    refine AQ.sF rfl rfl rfl ?_
    refine AQ.sF rfl rfl rfl ?_
    refine AQ.c (Calm.pickT rfl rfl rfl) ?_
    cases hq6
    refine AQ.nilE rfl ?_
    exact ⟨rfl, rfl, rfl, rfl, trivial⟩
   ·refine AQ.cG rfl rfl (bD (decide_eq_false hc7)) (Calm.move rfl rfl) ?_
    refine AQ.cG (x := .ptr n4 256) rfl rfl (bD (decide_eq_false hc7)) (Calm.fldPtr rfl rfl Try.underlying30 rfl sz28 _ rfl) ?_
    refine AQ.cG rfl rfl (bD (decide_eq_false hc7)) (Calm.load 0 rfl rfl rfl (At.cast (At.fldS (At.fld0 At.here)) rfl) ag28 sz28) ?_
    refine AQ.cG rfl rfl (bD (decide_eq_false hc7)) (Calm.lenL rfl rfl Try.underlying28) ?_
    refine AQ.cG (x := eBool (decide ((p0.f1.length : Int) ≤ p1))) rfl rfl (bD (decide_eq_false hc7)) (Calm.int rfl rfl rfl rfl) ?_
    refine AQ.c (Calm.pickF rfl (bD (decide_eq_false hc7)) rfl) ?_
    refine AQ.c (Calm.move rfl rfl) ?_
    rcases of_ite hq6 with ⟨hc8, hq6⟩ | ⟨hc8, hq6⟩
    ·refine AQ.sF rfl rfl (bD (decide_eq_true hc8)) ?_
     refine AQ.sF rfl rfl (bD (decide_eq_true hc8)) ?_
     refine AQ.sF rfl rfl (bD (decide_eq_true hc8)) ?_
     refine AQ.sF rfl rfl (bD (decide_eq_true hc8)) ?_
     refine AQ.sF rfl rfl (bD (decide_eq_true hc8)) ?_
     refine AQ.sF rfl rfl (bD (decide_eq_true hc8)) ?_
     refine AQ.sF rfl rfl (bD (decide_eq_true hc8)) ?_
     refine AQ.sF rfl rfl (bD (decide_eq_true hc8)) ?_
     refine AQ.sF rfl rfl (bD (decide_eq_true hc8)) ?_
     refine AQ.sF rfl rfl (bD (decide_eq_true hc8)) ?_
     refine AQ.sF rfl rfl (bD (decide_eq_true hc8)) ?_
     refine AQ.sF rfl rfl (bD (decide_eq_true hc8)) ?_
     refine AQ.c (Calm.pickT rfl (bD (decide_eq_true hc8)) rfl) ?_
     cases hq6
     refine AQ.nilE rfl ?_
     exact ⟨rfl, rfl, rfl, rfl, trivial⟩
    ·refine AQ.cG rfl rfl (bD (decide_eq_false hc8)) (Calm.move rfl rfl) ?_
     refine AQ.cG (x := .ptr n4 0) rfl rfl (bD (decide_eq_false hc8)) (Calm.fldPtr rfl rfl Try.underlying30 rfl sz27 _ rfl) ?_
     obtain ⟨hg9, hq6⟩ := of_guard hq6
     refine AQ.cG rfl rfl (bD (decide_eq_false hc8)) (Calm.idxP rfl rfl rfl hg9 Try.underlying27 sz5) ?_
     refine AQ.cG rfl rfl (bD (decide_eq_false hc8)) (Calm.load 0 rfl rfl rfl (At.cast (At.fld0 (At.vidx p2 hg9.1 hg9.2 At.here)) (by omega)) ag5 sz5) ?_
     refine AQ.cG (x := eI64 (w64 (vget p0.f0 p2))) rfl rfl (bD (decide_eq_false hc8)) (Calm.conv rfl rfl Try.underlying5 Try.underlying3) ?_
     refine AQ.cG (x := .ptr n4 256) rfl rfl (bD (decide_eq_false hc8)) (Calm.fldPtr rfl rfl Try.underlying30 rfl sz28 _ rfl) ?_
     refine AQ.cG rfl rfl (bD (decide_eq_false hc8)) (Calm.load 0 rfl rfl rfl (At.cast (At.fldS (At.fld0 At.here)) rfl) ag28 sz28) ?_
     refine AQ.cG rfl rfl (bD (decide_eq_false hc8)) (Calm.move rfl rfl) ?_
     obtain ⟨hg10, hq6⟩ := of_guard hq6
     refine AQ.cG rfl rfl (bD (decide_eq_false hc8)) (Calm.idxL (f := e25) rfl rfl rfl hg10 Try.underlying28 sz25) ?_
     refine AQ.cG rfl rfl (bD (decide_eq_false hc8)) (Calm.loadRp rfl rfl ag25 sz25) ?_
     refine AQ.cG rfl rfl (bD (decide_eq_false hc8)) (Calm.lenL rfl rfl Try.underlying25) ?_
     refine AQ.cG (x := eBool (decide (((lget p0.f1 p1).length : Int) ≤ (w64 (vget p0.f0 p2))))) rfl rfl (bD (decide_eq_false hc8)) (Calm.int rfl rfl rfl rfl) ?_
     refine AQ.c (Calm.pickF rfl (bD (decide_eq_false hc8)) rfl) ?_
     cases hq6
     refine AQ.nilE rfl ?_
     exact ⟨rfl, rfl, rfl, rfl, trivial⟩
  ·rcases of_ite h with ⟨hc11, h⟩ | ⟨hc11, h⟩
   ·refine AW.condT' _ rfl hc11 ?_
    refine AW.sr ?_
    refine AO.c (Calm.assign rfl rfl) ?_
    refine AO.nH [6] (H' := []) (Sub.nil _) ?_
    refine AW.rK [6] ?_
    have hr := Option.some.inj h
    subst hr
    exact ⟨[(eI64 (-1 : Int))], ⟨rfl, rfl, trivial⟩, rfl⟩
   ·refine AW.condF' _ rfl hc11 ?_
    refine AW.sK [1, 2, 3] ?_
    refine AW.seq ?_
    refine AW.regQ (by rfl) (by decide +kernel) ?_
    refine AQ.c (x := .ptr n4 256) (Calm.fldPtr rfl rfl Try.underlying30 rfl sz28 _ rfl) ?_
    refine AQ.c (Calm.load 0 rfl rfl rfl (At.cast (At.fldS (At.fld0 At.here)) rfl) ag28 sz28) ?_
    refine AQ.c (Calm.move rfl rfl) ?_
    obtain ⟨hg12, h⟩ := of_guard h
    refine AQ.c (Calm.idxL (f := e25) rfl rfl rfl hg12 Try.underlying28 sz25) ?_
    refine AQ.c (Calm.loadRp rfl rfl ag25 sz25) ?_
    refine AQ.c (Calm.move rfl rfl) ?_
    refine AQ.c (x := .ptr n4 0) (Calm.fldPtr rfl rfl Try.underlying30 rfl sz27 _ rfl) ?_
    obtain ⟨hg13, h⟩ := of_guard h
    refine AQ.c (Calm.idxP rfl rfl rfl hg13 Try.underlying27 sz5) ?_
    refine AQ.c (Calm.load 0 rfl rfl rfl (At.cast (At.fld0 (At.vidx p2 hg13.1 hg13.2 At.here)) (by omega)) ag5 sz5) ?_
    obtain ⟨hg14, h⟩ := of_guard h
    refine AQ.c (Calm.idxL (f := eI64) rfl rfl rfl hg14 Try.underlying25 sz3) ?_
    refine AQ.c (Calm.loadRp rfl rfl ag3 sz3) ?_
    refine AQ.c (Calm.assign rfl rfl) ?_
    refine AQ.nK [6] ?_
    refine AW.rH [6] (H' := []) (Sub.nil _) ?_
    have hr := Option.some.inj h
    subst hr
    exact ⟨[(eI64 (lget (lget p0.f1 p1) (vget p0.f0 p2)))], ⟨rfl, rfl, trivial⟩, rfl⟩
end Go.Avl.T5
/- bosket/bosketref08.Run; printed by avmain.py. -/
namespace Go.Avl.T5
open Go Go.RowKit Go.Proofs Go.Avl
set_option linter.unusedVariables false
set_option maxRecDepth 100000
set_option maxHeartbeats 4000000
attribute [local irreducible] AW AO AQ Spec SpecH Calm

def bosketref08_Run_c0 (k : Nat) (x5 : Int) : Option Int :=
  some (x5)
def bosketref08_Run_l1 (k : Nat) (p0 : S30) (p2 : ByteArray) : Nat → Int → Int → Option Int
  | 0, _, _ => none
  | j + 1, x6, x7 =>
    if x7 < (p2.size : Int) then if 0 ≤ x7 ∧ x7 < (p2.size : Int) then (bosketref08_Step k p0 x6 (w64 (byteAt p2 x7))).bind fun t12 =>
    (bosketref08_Run_l1 k p0 p2 j) t12 (w64 (x7 + (1 : Int)))
    else none
    else bosketref08_Run_c0 k x6
def bosketref08_Run (k : Nat) (p0 : S30) (p1 : Int) (p2 : ByteArray) : Option Int :=
  bosketref08_Run_l1 k p0 p2 k p1 (0 : Int)
theorem bosketref08_Run_spec {k : Nat} {p0 : S30} {p1 : Int} {p2 : ByteArray} {r : Int} (h : bosketref08_Run k p0 p1 p2 = some r) : Spec Try.prog 42 [(e30 p0), (eI64 p1), (eStr p2)] (eI64 r) := by
  rw [bosketref08_Run.eq_1] at h
  refine Spec.intro (res := [.tmp 6]) Try.func42 rfl rfl rfl (Nat.le_of_ble_eq_true rfl) ?_
  refine AW.sr ?_
  refine AO.box rfl 3 rfl (by decide) rfl rfl rfl fun n4 => ?_
  refine AO.c (Calm.assign rfl rfl) ?_
  refine AO.nK [1, 2, 3] ?_
  refine AW.seq_mid (fun ρ H => ∃ (x5 : Int), ρ = [(1, (eI64 x5))] ∧ H = [] ∧ bosketref08_Run_c0 k x5 = some r) ?_ ?_
  ·refine AW.sr ?_
   refine AO.c (Calm.assign rfl rfl) ?_
   refine AO.nK [1, 2, 3, 7] ?_
   refine AW.block ?_
   refine AW.wK [1, 2, 3, 7] ?_
   refine AW.loop (fun kq ρ H => ∃ (x6 : Int) (x7 : Int), ρ = [(1, (eI64 x6)), (2, (eStr p2)), (3, (.ptr n4 0)), (7, (eI64 x7))] ∧ H = [(n4, (.mem (e30 p0)))] ∧ bosketref08_Run_l1 k p0 p2 kq x6 x7 = some r) k ⟨p1, (0 : Int), rfl, rfl, h⟩ ?_
   rintro kq9 _ _ ⟨x6, x7, rfl, rfl, h⟩
   cases kq9 with
   | zero => rw [bosketref08_Run_l1.eq_1] at h; cases h
   | succ kq9 =>
   rw [bosketref08_Run_l1.eq_2] at h
   generalize hrec8 : bosketref08_Run_l1 k p0 p2 kq9 = rec8 at h
   refine AW.seq ?_
   refine AW.sr ?_
   refine AO.c (Calm.move rfl rfl) ?_
   refine AO.c (Calm.move rfl rfl) ?_
   refine AO.c (Calm.lenStr rfl rfl Try.underlying9) ?_
   refine AO.c (x := eBool (decide (x7 < (p2.size : Int)))) (Calm.int rfl rfl rfl rfl) ?_
   refine AO.nK [1, 2, 3, 7, 11] ?_
   rcases of_ite h with ⟨hc10, h⟩ | ⟨hc10, h⟩
   ·refine AW.condP _ rfl hc10 ?_
    refine AW.sK [1, 2, 3, 7] ?_
    refine AW.seq ?_
    refine AW.block ?_
    refine AW.regQ (by rfl) (by decide +kernel) ?_
    refine AQ.c (Calm.load 0 rfl rfl rfl (At.cast At.here rfl) ag30 sz30) ?_
    refine AQ.c (Calm.move rfl rfl) ?_
    refine AQ.c (Calm.move rfl rfl) ?_
    refine AQ.c (Calm.move rfl rfl) ?_
    obtain ⟨hg11, h⟩ := of_guard h
    refine AQ.c (x := eU8 (byteAt p2 x7)) (Calm.idxS rfl rfl rfl hg11 Try.underlying9) ?_
    refine AQ.c (x := eI64 (w64 (byteAt p2 x7))) (Calm.conv rfl rfl Try.underlying5 Try.underlying3) ?_
    obtain ⟨t12, et12, h⟩ := of_bind h
    refine AQ.c (Calm.call (args := [(e30 p0), (eI64 x6), (eI64 (w64 (byteAt p2 x7)))]) rfl rfl ok74 ⟨rfl, rfl, rfl, rfl, rfl, rfl, trivial⟩ rfl (bosketref08_Step_spec et12)) ?_
    refine AQ.c (Calm.assign rfl rfl) ?_
    refine AQ.nK [1, 2, 3, 7] ?_
    refine AW.reg ?_
    refine AO.c (Calm.move rfl rfl) ?_
    refine AO.c (x := eI64 (w64 (x7 + (1 : Int)))) (Calm.int rfl rfl rfl rfl) ?_
    refine AO.c (Calm.assign rfl rfl) ?_
    refine AO.nK [1, 2, 3, 7] ?_
    exact ⟨kq9, Nat.lt_succ_self _, t12, (w64 (x7 + (1 : Int))), rfl, rfl, by rw [hrec8]; exact h⟩
   ·refine AW.condN _ rfl hc10 ?_
    refine AW.eH [1] (H' := []) (Sub.nil _) ?_
    exact ⟨x6, rfl, rfl, h⟩
  ·rintro _ _ ⟨x5, rfl, rfl, h⟩
   rw [bosketref08_Run_c0.eq_1] at h
   refine AW.sr ?_
   refine AO.c (Calm.move rfl rfl) ?_
   refine AO.c (Calm.assign rfl rfl) ?_
   refine AO.nK [6] ?_
   refine AW.rK [6] ?_
   have hr := Option.some.inj h
   subst hr
   exact ⟨[(eI64 x5)], ⟨rfl, rfl, trivial⟩, rfl⟩
end Go.Avl.T5
/- bosket/bosketlaw09.MiniLeast; printed by avmain.py. -/
namespace Go.Avl.T5
open Go Go.RowKit Go.Proofs Go.Avl
set_option linter.unusedVariables false
set_option maxRecDepth 100000
set_option maxHeartbeats 4000000
attribute [local irreducible] AW AO AQ Spec SpecH Calm

def bosketlaw09_MiniLeast (k : Nat) (p0 : S30) (p1 : ByteArray) : Option Bool :=
  (bosketlaw09_awake k).bind fun t4 =>
  if (!t4) = true then some (false)
  else Option.bind (α := Bool) ((bosketlaw08_Small k p0).bind fun t8 =>
  if (!t8) = true then some (true)
  else (bosketref08_Right k p0).bind fun t10 =>
  if (!t10) = true then some (true)
  else some (decide ((30 : Int) < (p1.size : Int)))) fun b6 =>
  if b6 = true then some (true)
  else (mini_Of k p0).bind fun t13 =>
  Option.bind (α := Bool) (if t13.2 ≠ (0 : Int) then some (true)
  else (bosketref08_Right k t13.1).bind fun t18 =>
  if (!t18) = true then some (true)
  else (bosketref08_Order k t13.1).bind fun t20 =>
  (bosketref08_Same k t20 t13.1).bind fun t21 =>
  if (!t21) = true then some (true)
  else (bosketref08_Trim k t13.1).bind fun t23 =>
  (bosketref08_Same k t23 t13.1).bind fun t24 =>
  some (!t24)) fun b15 =>
  if b15 = true then some (false)
  else Option.bind (α := Bool) ((bosketref09_Apartness k t13.1).bind fun t28 =>
  if t28 = true then (bosketref09_Classes k t13.1).bind fun t30 =>
  if t30 = true then (bosketref08_Run k t13.1 (0 : Int) p1).bind fun t32 =>
  (bosketref08_Mark k t13.1 t32).bind fun t33 =>
  (bosketref08_Run k p0 (0 : Int) p1).bind fun t34 =>
  (bosketref08_Mark k p0 t34).bind fun t35 =>
  some (decide (t33 = t35))
  else some (false)
  else some (false)) fun b26 =>
  some (b26)
theorem bosketlaw09_MiniLeast_spec {k : Nat} {p0 : S30} {p1 : ByteArray} {r : Bool} (h : bosketlaw09_MiniLeast k p0 p1 = some r) : Spec Try.prog 9 [(e30 p0), (eStr p1)] (eBool r) := by
  rw [bosketlaw09_MiniLeast.eq_1] at h
  refine Spec.intro (res := [.tmp 4]) Try.func9 rfl rfl rfl (Nat.le_of_ble_eq_true rfl) ?_
  refine AW.sr ?_
  refine AO.box rfl 2 rfl (by decide) rfl rfl rfl fun n3 => ?_
  refine AO.c (Calm.assign rfl rfl) ?_
  refine AO.nK [1, 2] ?_
  refine AW.seq ?_
  refine AW.sr ?_
  obtain ⟨t4, et4, h⟩ := of_bind h
  refine AO.callS [] (eBool t4) 7 rfl (by decide) ok32 rfl rfl rfl trivial (bosketlaw09_awake_spec et4) ?_
  refine AO.c (Calm.not rfl rfl) ?_
  refine AO.nK [1, 2, 8] ?_
  rcases of_ite h with ⟨hc5, h⟩ | ⟨hc5, h⟩
  ·refine AW.condT' _ rfl hc5 ?_
   refine AW.sr ?_
   refine AO.c (Calm.assign rfl rfl) ?_
   refine AO.nH [4] (H' := []) (Sub.nil _) ?_
   refine AW.rK [4] ?_
   have hr := Option.some.inj h
   subst hr
   exact ⟨[(eBool false)], ⟨rfl, rfl, trivial⟩, rfl⟩
  ·refine AW.condF' _ rfl hc5 ?_
   refine AW.sK [1, 2] ?_
   refine AW.seq ?_
   refine AW.seq ?_
   obtain ⟨b6, hq7, h⟩ := of_bind h
   refine AW.regM [(1, (eStr p1)), (2, (.ptr n3 0)), (21, (eBool b6))] [(n3, (.mem (e30 p0)))] ?_ ?_
   ·refine AO.c (Calm.load 0 rfl rfl rfl (At.cast At.here rfl) ag30 sz30) ?_
    obtain ⟨t8, et8, hq7⟩ := of_bind hq7
    refine AO.callS [(e30 p0)] (eBool t8) 10 rfl (by decide) ok24 rfl rfl rfl ⟨rfl, rfl, trivial⟩ (bosketlaw08_Small_spec et8) ?_
    refine AO.c (Calm.not rfl rfl) ?_
    refine AO.c (Calm.move rfl rfl) ?_
    rcases of_ite hq7 with ⟨hc9, hq7⟩ | ⟨hc9, hq7⟩
    ·refine AO.sF rfl rfl (bD hc9) ?_
     refine AO.sF rfl rfl (bD hc9) ?_
     refine AO.sF rfl rfl (bD hc9) ?_
     refine AO.c (Calm.pickT rfl (bD hc9) rfl) ?_
     refine AO.c (Calm.move rfl rfl) ?_
     refine AO.sF rfl rfl rfl ?_
     refine AO.sF rfl rfl rfl ?_
     refine AO.sF rfl rfl rfl ?_
     refine AO.c (Calm.pickT rfl rfl rfl) ?_
     cases hq7
     refine AO.nilE ⟨rfl, rfl⟩ ?_ ?_
     · exact ⟨rfl, rfl, rfl, trivial⟩
     · exact (Sub.refl _)
    ·refine AO.cG rfl rfl (bD (eq_false_of_ne_true hc9)) (Calm.load 0 rfl rfl rfl (At.cast At.here rfl) ag30 sz30) ?_
     obtain ⟨t10, et10, hq7⟩ := of_bind hq7
     refine AO.callG 3 false 12 [(e30 p0)] (eBool t10) 14 rfl (by decide) ok25 rfl rfl (bD (eq_false_of_ne_true hc9)) rfl rfl ⟨rfl, rfl, trivial⟩ (bosketref08_Right_spec et10) ?_
     refine AO.cG rfl rfl (bD (eq_false_of_ne_true hc9)) (Calm.not rfl rfl) ?_
     refine AO.c (Calm.pickF rfl (bD (eq_false_of_ne_true hc9)) rfl) ?_
     refine AO.c (Calm.move rfl rfl) ?_
     rcases of_ite hq7 with ⟨hc11, hq7⟩ | ⟨hc11, hq7⟩
     ·refine AO.sF rfl rfl (bD hc11) ?_
      refine AO.sF rfl rfl (bD hc11) ?_
      refine AO.sF rfl rfl (bD hc11) ?_
      refine AO.c (Calm.pickT rfl (bD hc11) rfl) ?_
      cases hq7
      refine AO.nilE ⟨rfl, rfl⟩ ?_ ?_
      · exact ⟨rfl, rfl, rfl, trivial⟩
      · exact (Sub.refl _)
     ·refine AO.cG rfl rfl (bD (eq_false_of_ne_true hc11)) (Calm.move rfl rfl) ?_
      refine AO.cG rfl rfl (bD (eq_false_of_ne_true hc11)) (Calm.lenStr rfl rfl Try.underlying9) ?_
      refine AO.cG (x := eBool (decide ((30 : Int) < (p1.size : Int)))) rfl rfl (bD (eq_false_of_ne_true hc11)) (Calm.int rfl rfl rfl rfl) ?_
      refine AO.c (Calm.pickF rfl (bD (eq_false_of_ne_true hc11)) rfl) ?_
      cases hq7
      refine AO.nilE ⟨rfl, rfl⟩ ?_ ?_
      · exact ⟨rfl, rfl, rfl, trivial⟩
      · exact (Sub.refl _)
   ·rcases of_ite h with ⟨hc12, h⟩ | ⟨hc12, h⟩
    ·refine AW.condT' _ rfl hc12 ?_
     refine AW.sr ?_
     refine AO.c (Calm.assign rfl rfl) ?_
     refine AO.nH [4] (H' := []) (Sub.nil _) ?_
     refine AW.rK [4] ?_
     have hr := Option.some.inj h
     subst hr
     exact ⟨[(eBool true)], ⟨rfl, rfl, trivial⟩, rfl⟩
    ·refine AW.condF' _ rfl hc12 ?_
     refine AW.sK [1, 2] ?_
     refine AW.sr ?_
     refine AO.c (Calm.load 0 rfl rfl rfl (At.cast At.here rfl) ag30 sz30) ?_
     obtain ⟨t13, et13, h⟩ := of_bind h
     refine AO.callS [(e30 p0)] (.tup [(e30 t13.1), (eI64 t13.2)]) 24 rfl (by decide) ok33 rfl rfl rfl ⟨rfl, rfl, trivial⟩ (mini_Of_spec et13) ?_
     refine AO.c (Calm.move rfl rfl) ?_
     refine AO.c (Calm.extract rfl rfl rfl) ?_
     refine AO.c (Calm.extract rfl rfl rfl) ?_
     refine AO.alloc rfl 5 rfl (by decide) rfl zr30 lay30 fun n14 => ?_
     refine AO.store (X' := (e30 t13.1)) 0 rfl rfl rfl rfl rfl rfl (Put.cast Put.here rfl) rfl rfl sz30 rfl ?_
     refine AO.c (Calm.assign rfl rfl) ?_
     refine AO.nH [1, 2, 5, 6] (H' := [(n3, (.mem (e30 p0))), (n14, (.mem (e30 t13.1)))]) (Sub.cons 1 rfl (Sub.cons 0 rfl (Sub.nil _))) ?_
     refine AW.seq ?_
     refine AW.seq ?_
     obtain ⟨b15, hq16, h⟩ := of_bind h
     refine AW.toM [(1, (eStr p1)), (2, (.ptr n3 0)), (5, (.ptr n14 0)), (47, (eBool b15))] [(n3, (.mem (e30 p0))), (n14, (.mem (e30 t13.1)))] ?_ ?_
     ·rcases of_ite hq16 with ⟨hc17, hq16⟩ | ⟨hc17, hq16⟩
      ·refine AW.regAny (by rfl) (by decide +kernel) [(eI64 t13.2), (eBool (decide (t13.2 ≠ (0 : Int)))), (eBool (decide (t13.2 ≠ (0 : Int)))), (.fl undef), (.fl undef), (.fl undef), (eBool true), (eBool true), (.fl undef), (.fl undef), (.fl undef), (.fl undef), (.fl undef), (eBool true), (eBool true), (.fl undef), (.fl undef), (.fl undef), (.fl undef), (.fl undef), (eBool true)] [(1, (eStr p1)), (2, (.ptr n3 0)), (5, (.ptr n14 0)), (6, (eI64 t13.2))] ⟨rfl, rfl, rfl, rfl, trivial⟩ rfl ?_ [(1, (eStr p1)), (2, (.ptr n3 0)), (5, (.ptr n14 0)), (47, (eBool true))] [(n3, (.mem (e30 p0))), (n14, (.mem (e30 t13.1)))] ⟨rfl, rfl, rfl, rfl, trivial⟩ (Sub.refl _) ?_
       ·refine ⟨?_, ?_, ?_, ?_, ?_, ?_, ?_, ?_, ?_, ?_, ?_, ?_, ?_, ?_, ?_, ?_, ?_, ?_, ?_, ?_, ?_, trivial⟩
        ·refine AO.wK [6] ?_
         refine AO.c (Calm.move rfl rfl) ?_
         exact AO.nE (d := 27) rfl ⟨⟨_, rfl, rfl⟩, Sub.refl _⟩
        ·refine AO.wK [27] ?_
         refine AO.c (x := eBool (decide (t13.2 ≠ (0 : Int)))) (Calm.int rfl rfl rfl rfl) ?_
         exact AO.nE (d := 28) rfl ⟨⟨_, rfl, rfl⟩, Sub.refl _⟩
        ·refine AO.wK [28] ?_
         refine AO.c (Calm.move rfl rfl) ?_
         exact AO.nE (d := 29) rfl ⟨⟨_, rfl, rfl⟩, Sub.refl _⟩
        ·refine AO.wK [29] ?_
         refine AO.sF rfl rfl (bD (decide_eq_true hc17)) ?_
         exact AO.nE (d := 30) rfl ⟨⟨_, rfl, rfl⟩, Sub.refl _⟩
        ·refine AO.wK [29] ?_
         refine AO.sF rfl rfl (bD (decide_eq_true hc17)) ?_
         exact AO.nE (d := 31) rfl ⟨⟨_, rfl, rfl⟩, Sub.refl _⟩
        ·refine AO.wK [29] ?_
         refine AO.sF rfl rfl (bD (decide_eq_true hc17)) ?_
         exact AO.nE (d := 32) rfl ⟨⟨_, rfl, rfl⟩, Sub.refl _⟩
        ·refine AO.wK [29, 32] ?_
         refine AO.c (Calm.pickT rfl (bD (decide_eq_true hc17)) rfl) ?_
         exact AO.nE (d := 33) rfl ⟨⟨_, rfl, rfl⟩, Sub.refl _⟩
        ·refine AO.wK [33] ?_
         refine AO.c (Calm.move rfl rfl) ?_
         exact AO.nE (d := 34) rfl ⟨⟨_, rfl, rfl⟩, Sub.refl _⟩
        ·refine AO.wK [34] ?_
         refine AO.sF rfl rfl rfl ?_
         exact AO.nE (d := 35) rfl ⟨⟨_, rfl, rfl⟩, Sub.refl _⟩
        ·refine AO.wK [34] ?_
         refine AO.sF rfl rfl rfl ?_
         exact AO.nE (d := 36) rfl ⟨⟨_, rfl, rfl⟩, Sub.refl _⟩
        ·refine AO.wK [34] ?_
         refine AO.sF rfl rfl rfl ?_
         exact AO.nE (d := 37) rfl ⟨⟨_, rfl, rfl⟩, Sub.refl _⟩
        ·refine AO.wK [34] ?_
         refine AO.sF rfl rfl rfl ?_
         exact AO.nE (d := 38) rfl ⟨⟨_, rfl, rfl⟩, Sub.refl _⟩
        ·refine AO.wK [34] ?_
         refine AO.sF rfl rfl rfl ?_
         exact AO.nE (d := 39) rfl ⟨⟨_, rfl, rfl⟩, Sub.refl _⟩
        ·refine AO.wK [34, 39] ?_
         refine AO.c (Calm.pickT rfl rfl rfl) ?_
         exact AO.nE (d := 40) rfl ⟨⟨_, rfl, rfl⟩, Sub.refl _⟩
        ·refine AO.wK [40] ?_
         refine AO.c (Calm.move rfl rfl) ?_
         exact AO.nE (d := 41) rfl ⟨⟨_, rfl, rfl⟩, Sub.refl _⟩
        ·refine AO.wK [41] ?_
         refine AO.sF rfl rfl rfl ?_
         exact AO.nE (d := 42) rfl ⟨⟨_, rfl, rfl⟩, Sub.refl _⟩
        ·refine AO.wK [41] ?_
         refine AO.sF rfl rfl rfl ?_
         exact AO.nE (d := 43) rfl ⟨⟨_, rfl, rfl⟩, Sub.refl _⟩
        ·refine AO.wK [41] ?_
         refine AO.sF rfl rfl rfl ?_
         exact AO.nE (d := 44) rfl ⟨⟨_, rfl, rfl⟩, Sub.refl _⟩
        ·refine AO.wK [41] ?_
         refine AO.sF rfl rfl rfl ?_
         exact AO.nE (d := 45) rfl ⟨⟨_, rfl, rfl⟩, Sub.refl _⟩
        ·refine AO.wK [41] ?_
         refine AO.sF rfl rfl rfl ?_
         exact AO.nE (d := 46) rfl ⟨⟨_, rfl, rfl⟩, Sub.refl _⟩
        ·refine AO.wK [41, 46] ?_
         refine AO.c (Calm.pickT rfl rfl rfl) ?_
         exact AO.nE (d := 47) rfl ⟨⟨_, rfl, rfl⟩, Sub.refl _⟩
       ·cases hq16
        exact ⟨rfl, rfl, rfl⟩
      ·obtain ⟨t18, et18, hq16⟩ := of_bind hq16
       rcases of_ite hq16 with ⟨hc19, hq16⟩ | ⟨hc19, hq16⟩
       ·refine AW.regAny (by rfl) (by decide +kernel) [(eI64 t13.2), (eBool (decide (t13.2 ≠ (0 : Int)))), (eBool (decide (t13.2 ≠ (0 : Int)))), (e30 t13.1), (eBool t18), (eBool (!t18)), (eBool (!t18)), (eBool (!t18)), (.fl undef), (.fl undef), (.fl undef), (.fl undef), (.fl undef), (eBool true), (eBool true), (.fl undef), (.fl undef), (.fl undef), (.fl undef), (.fl undef), (eBool true)] [(1, (eStr p1)), (2, (.ptr n3 0)), (5, (.ptr n14 0)), (6, (eI64 t13.2))] ⟨rfl, rfl, rfl, rfl, trivial⟩ rfl ?_ [(1, (eStr p1)), (2, (.ptr n3 0)), (5, (.ptr n14 0)), (47, (eBool true))] [(n3, (.mem (e30 p0))), (n14, (.mem (e30 t13.1)))] ⟨rfl, rfl, rfl, rfl, trivial⟩ (Sub.refl _) ?_
        ·refine ⟨?_, ?_, ?_, ?_, ?_, ?_, ?_, ?_, ?_, ?_, ?_, ?_, ?_, ?_, ?_, ?_, ?_, ?_, ?_, ?_, ?_, trivial⟩
         ·refine AO.wK [6] ?_
          refine AO.c (Calm.move rfl rfl) ?_
          exact AO.nE (d := 27) rfl ⟨⟨_, rfl, rfl⟩, Sub.refl _⟩
         ·refine AO.wK [27] ?_
          refine AO.c (x := eBool (decide (t13.2 ≠ (0 : Int)))) (Calm.int rfl rfl rfl rfl) ?_
          exact AO.nE (d := 28) rfl ⟨⟨_, rfl, rfl⟩, Sub.refl _⟩
         ·refine AO.wK [28] ?_
          refine AO.c (Calm.move rfl rfl) ?_
          exact AO.nE (d := 29) rfl ⟨⟨_, rfl, rfl⟩, Sub.refl _⟩
         ·refine AO.wK [5, 29] ?_
          refine AO.cG rfl rfl (bD (decide_eq_false hc17)) (Calm.load 1 rfl rfl rfl (At.cast At.here rfl) ag30 sz30) ?_
          exact AO.nE (d := 30) rfl ⟨⟨_, rfl, rfl⟩, Sub.refl _⟩
         ·refine AO.wK [29, 30] ?_
          refine AO.callG 2 false 29 [(e30 t13.1)] (eBool t18) 31 rfl (by decide) ok25 rfl rfl (bD (decide_eq_false hc17)) rfl rfl ⟨rfl, rfl, trivial⟩ (bosketref08_Right_spec et18) ?_
          exact AO.nE (d := 31) rfl ⟨⟨_, rfl, rfl⟩, Sub.refl _⟩
         ·refine AO.wK [29, 31] ?_
          refine AO.cG rfl rfl (bD (decide_eq_false hc17)) (Calm.not rfl rfl) ?_
          exact AO.nE (d := 32) rfl ⟨⟨_, rfl, rfl⟩, Sub.refl _⟩
         ·refine AO.wK [29, 32] ?_
          refine AO.c (Calm.pickF rfl (bD (decide_eq_false hc17)) rfl) ?_
          exact AO.nE (d := 33) rfl ⟨⟨_, rfl, rfl⟩, Sub.refl _⟩
         ·refine AO.wK [33] ?_
          refine AO.c (Calm.move rfl rfl) ?_
          exact AO.nE (d := 34) rfl ⟨⟨_, rfl, rfl⟩, Sub.refl _⟩
         ·refine AO.wK [34] ?_
          refine AO.sF rfl rfl (bD hc19) ?_
          exact AO.nE (d := 35) rfl ⟨⟨_, rfl, rfl⟩, Sub.refl _⟩
         ·refine AO.wK [34] ?_
          refine AO.sF rfl rfl (bD hc19) ?_
          exact AO.nE (d := 36) rfl ⟨⟨_, rfl, rfl⟩, Sub.refl _⟩
         ·refine AO.wK [34] ?_
          refine AO.sF rfl rfl (bD hc19) ?_
          exact AO.nE (d := 37) rfl ⟨⟨_, rfl, rfl⟩, Sub.refl _⟩
         ·refine AO.wK [34] ?_
          refine AO.sF rfl rfl (bD hc19) ?_
          exact AO.nE (d := 38) rfl ⟨⟨_, rfl, rfl⟩, Sub.refl _⟩
         ·refine AO.wK [34] ?_
          refine AO.sF rfl rfl (bD hc19) ?_
          exact AO.nE (d := 39) rfl ⟨⟨_, rfl, rfl⟩, Sub.refl _⟩
         ·refine AO.wK [34, 39] ?_
          refine AO.c (Calm.pickT rfl (bD hc19) rfl) ?_
          exact AO.nE (d := 40) rfl ⟨⟨_, rfl, rfl⟩, Sub.refl _⟩
         ·refine AO.wK [40] ?_
          refine AO.c (Calm.move rfl rfl) ?_
          exact AO.nE (d := 41) rfl ⟨⟨_, rfl, rfl⟩, Sub.refl _⟩
         ·refine AO.wK [41] ?_
          refine AO.sF rfl rfl rfl ?_
          exact AO.nE (d := 42) rfl ⟨⟨_, rfl, rfl⟩, Sub.refl _⟩
         ·refine AO.wK [41] ?_
          refine AO.sF rfl rfl rfl ?_
          exact AO.nE (d := 43) rfl ⟨⟨_, rfl, rfl⟩, Sub.refl _⟩
         ·refine AO.wK [41] ?_
          refine AO.sF rfl rfl rfl ?_
          exact AO.nE (d := 44) rfl ⟨⟨_, rfl, rfl⟩, Sub.refl _⟩
         ·refine AO.wK [41] ?_
          refine AO.sF rfl rfl rfl ?_
          exact AO.nE (d := 45) rfl ⟨⟨_, rfl, rfl⟩, Sub.refl _⟩
         ·refine AO.wK [41] ?_
          refine AO.sF rfl rfl rfl ?_
          exact AO.nE (d := 46) rfl ⟨⟨_, rfl, rfl⟩, Sub.refl _⟩
         ·refine AO.wK [41, 46] ?_
          refine AO.c (Calm.pickT rfl rfl rfl) ?_
          exact AO.nE (d := 47) rfl ⟨⟨_, rfl, rfl⟩, Sub.refl _⟩
        ·cases hq16
         exact ⟨rfl, rfl, rfl⟩
       ·obtain ⟨t20, et20, hq16⟩ := of_bind hq16
        obtain ⟨t21, et21, hq16⟩ := of_bind hq16
        rcases of_ite hq16 with ⟨hc22, hq16⟩ | ⟨hc22, hq16⟩
        ·refine AW.regAny (by rfl) (by decide +kernel) [(eI64 t13.2), (eBool (decide (t13.2 ≠ (0 : Int)))), (eBool (decide (t13.2 ≠ (0 : Int)))), (e30 t13.1), (eBool t18), (eBool (!t18)), (eBool (!t18)), (eBool (!t18)), (e30 t13.1), (e30 t20), (e30 t13.1), (eBool t21), (eBool (!t21)), (eBool (!t21)), (eBool (!t21)), (.fl undef), (.fl undef), (.fl undef), (.fl undef), (.fl undef), (eBool true)] [(1, (eStr p1)), (2, (.ptr n3 0)), (5, (.ptr n14 0)), (6, (eI64 t13.2))] ⟨rfl, rfl, rfl, rfl, trivial⟩ rfl ?_ [(1, (eStr p1)), (2, (.ptr n3 0)), (5, (.ptr n14 0)), (47, (eBool true))] [(n3, (.mem (e30 p0))), (n14, (.mem (e30 t13.1)))] ⟨rfl, rfl, rfl, rfl, trivial⟩ (Sub.refl _) ?_
         ·refine ⟨?_, ?_, ?_, ?_, ?_, ?_, ?_, ?_, ?_, ?_, ?_, ?_, ?_, ?_, ?_, ?_, ?_, ?_, ?_, ?_, ?_, trivial⟩
          ·refine AO.wK [6] ?_
           refine AO.c (Calm.move rfl rfl) ?_
           exact AO.nE (d := 27) rfl ⟨⟨_, rfl, rfl⟩, Sub.refl _⟩
          ·refine AO.wK [27] ?_
           refine AO.c (x := eBool (decide (t13.2 ≠ (0 : Int)))) (Calm.int rfl rfl rfl rfl) ?_
           exact AO.nE (d := 28) rfl ⟨⟨_, rfl, rfl⟩, Sub.refl _⟩
          ·refine AO.wK [28] ?_
           refine AO.c (Calm.move rfl rfl) ?_
           exact AO.nE (d := 29) rfl ⟨⟨_, rfl, rfl⟩, Sub.refl _⟩
          ·refine AO.wK [5, 29] ?_
           refine AO.cG rfl rfl (bD (decide_eq_false hc17)) (Calm.load 1 rfl rfl rfl (At.cast At.here rfl) ag30 sz30) ?_
           exact AO.nE (d := 30) rfl ⟨⟨_, rfl, rfl⟩, Sub.refl _⟩
          ·refine AO.wK [29, 30] ?_
           refine AO.callG 2 false 29 [(e30 t13.1)] (eBool t18) 31 rfl (by decide) ok25 rfl rfl (bD (decide_eq_false hc17)) rfl rfl ⟨rfl, rfl, trivial⟩ (bosketref08_Right_spec et18) ?_
           exact AO.nE (d := 31) rfl ⟨⟨_, rfl, rfl⟩, Sub.refl _⟩
          ·refine AO.wK [29, 31] ?_
           refine AO.cG rfl rfl (bD (decide_eq_false hc17)) (Calm.not rfl rfl) ?_
           exact AO.nE (d := 32) rfl ⟨⟨_, rfl, rfl⟩, Sub.refl _⟩
          ·refine AO.wK [29, 32] ?_
           refine AO.c (Calm.pickF rfl (bD (decide_eq_false hc17)) rfl) ?_
           exact AO.nE (d := 33) rfl ⟨⟨_, rfl, rfl⟩, Sub.refl _⟩
          ·refine AO.wK [33] ?_
           refine AO.c (Calm.move rfl rfl) ?_
           exact AO.nE (d := 34) rfl ⟨⟨_, rfl, rfl⟩, Sub.refl _⟩
          ·refine AO.wK [5, 34] ?_
           refine AO.cG rfl rfl (bD (eq_false_of_ne_true hc19)) (Calm.load 1 rfl rfl rfl (At.cast At.here rfl) ag30 sz30) ?_
           exact AO.nE (d := 35) rfl ⟨⟨_, rfl, rfl⟩, Sub.refl _⟩
          ·refine AO.wK [34, 35] ?_
           refine AO.callG 7 false 34 [(e30 t13.1)] (e30 t20) 36 rfl (by decide) ok37 rfl rfl (bD (eq_false_of_ne_true hc19)) rfl rfl ⟨rfl, rfl, trivial⟩ (bosketref08_Order_spec et20) ?_
           exact AO.nE (d := 36) rfl ⟨⟨_, rfl, rfl⟩, Sub.refl _⟩
          ·refine AO.wK [5, 34] ?_
           refine AO.cG rfl rfl (bD (eq_false_of_ne_true hc19)) (Calm.load 1 rfl rfl rfl (At.cast At.here rfl) ag30 sz30) ?_
           exact AO.nE (d := 37) rfl ⟨⟨_, rfl, rfl⟩, Sub.refl _⟩
          ·refine AO.wK [34, 36, 37] ?_
           refine AO.callG 7 false 34 [(e30 t20), (e30 t13.1)] (eBool t21) 38 rfl (by decide) ok36 rfl rfl (bD (eq_false_of_ne_true hc19)) rfl rfl ⟨rfl, rfl, rfl, rfl, trivial⟩ (bosketref08_Same_spec et21) ?_
           exact AO.nE (d := 38) rfl ⟨⟨_, rfl, rfl⟩, Sub.refl _⟩
          ·refine AO.wK [34, 38] ?_
           refine AO.cG rfl rfl (bD (eq_false_of_ne_true hc19)) (Calm.not rfl rfl) ?_
           exact AO.nE (d := 39) rfl ⟨⟨_, rfl, rfl⟩, Sub.refl _⟩
          ·refine AO.wK [34, 39] ?_
           refine AO.c (Calm.pickF rfl (bD (eq_false_of_ne_true hc19)) rfl) ?_
           exact AO.nE (d := 40) rfl ⟨⟨_, rfl, rfl⟩, Sub.refl _⟩
          ·refine AO.wK [40] ?_
           refine AO.c (Calm.move rfl rfl) ?_
           exact AO.nE (d := 41) rfl ⟨⟨_, rfl, rfl⟩, Sub.refl _⟩
          ·refine AO.wK [41] ?_
           refine AO.sF rfl rfl (bD hc22) ?_
           exact AO.nE (d := 42) rfl ⟨⟨_, rfl, rfl⟩, Sub.refl _⟩
          ·refine AO.wK [41] ?_
           refine AO.sF rfl rfl (bD hc22) ?_
           exact AO.nE (d := 43) rfl ⟨⟨_, rfl, rfl⟩, Sub.refl _⟩
          ·refine AO.wK [41] ?_
           refine AO.sF rfl rfl (bD hc22) ?_
           exact AO.nE (d := 44) rfl ⟨⟨_, rfl, rfl⟩, Sub.refl _⟩
          ·refine AO.wK [41] ?_
           refine AO.sF rfl rfl (bD hc22) ?_
           exact AO.nE (d := 45) rfl ⟨⟨_, rfl, rfl⟩, Sub.refl _⟩
          ·refine AO.wK [41] ?_
           refine AO.sF rfl rfl (bD hc22) ?_
           exact AO.nE (d := 46) rfl ⟨⟨_, rfl, rfl⟩, Sub.refl _⟩
          ·refine AO.wK [41, 46] ?_
           refine AO.c (Calm.pickT rfl (bD hc22) rfl) ?_
           exact AO.nE (d := 47) rfl ⟨⟨_, rfl, rfl⟩, Sub.refl _⟩
         ·cases hq16
          exact ⟨rfl, rfl, rfl⟩
        ·obtain ⟨t23, et23, hq16⟩ := of_bind hq16
         obtain ⟨t24, et24, hq16⟩ := of_bind hq16
         refine AW.regAny (by rfl) (by decide +kernel) [(eI64 t13.2), (eBool (decide (t13.2 ≠ (0 : Int)))), (eBool (decide (t13.2 ≠ (0 : Int)))), (e30 t13.1), (eBool t18), (eBool (!t18)), (eBool (!t18)), (eBool (!t18)), (e30 t13.1), (e30 t20), (e30 t13.1), (eBool t21), (eBool (!t21)), (eBool (!t21)), (eBool (!t21)), (e30 t13.1), (e30 t23), (e30 t13.1), (eBool t24), (eBool (!t24)), (eBool (!t24))] [(1, (eStr p1)), (2, (.ptr n3 0)), (5, (.ptr n14 0)), (6, (eI64 t13.2))] ⟨rfl, rfl, rfl, rfl, trivial⟩ rfl ?_ [(1, (eStr p1)), (2, (.ptr n3 0)), (5, (.ptr n14 0)), (47, (eBool (!t24)))] [(n3, (.mem (e30 p0))), (n14, (.mem (e30 t13.1)))] ⟨rfl, rfl, rfl, rfl, trivial⟩ (Sub.refl _) ?_
         ·refine ⟨?_, ?_, ?_, ?_, ?_, ?_, ?_, ?_, ?_, ?_, ?_, ?_, ?_, ?_, ?_, ?_, ?_, ?_, ?_, ?_, ?_, trivial⟩
          ·refine AO.wK [6] ?_
           refine AO.c (Calm.move rfl rfl) ?_
           exact AO.nE (d := 27) rfl ⟨⟨_, rfl, rfl⟩, Sub.refl _⟩
          ·refine AO.wK [27] ?_
           refine AO.c (x := eBool (decide (t13.2 ≠ (0 : Int)))) (Calm.int rfl rfl rfl rfl) ?_
           exact AO.nE (d := 28) rfl ⟨⟨_, rfl, rfl⟩, Sub.refl _⟩
          ·refine AO.wK [28] ?_
           refine AO.c (Calm.move rfl rfl) ?_
           exact AO.nE (d := 29) rfl ⟨⟨_, rfl, rfl⟩, Sub.refl _⟩
          ·refine AO.wK [5, 29] ?_
           refine AO.cG rfl rfl (bD (decide_eq_false hc17)) (Calm.load 1 rfl rfl rfl (At.cast At.here rfl) ag30 sz30) ?_
           exact AO.nE (d := 30) rfl ⟨⟨_, rfl, rfl⟩, Sub.refl _⟩
          ·refine AO.wK [29, 30] ?_
           refine AO.callG 2 false 29 [(e30 t13.1)] (eBool t18) 31 rfl (by decide) ok25 rfl rfl (bD (decide_eq_false hc17)) rfl rfl ⟨rfl, rfl, trivial⟩ (bosketref08_Right_spec et18) ?_
           exact AO.nE (d := 31) rfl ⟨⟨_, rfl, rfl⟩, Sub.refl _⟩
          ·refine AO.wK [29, 31] ?_
           refine AO.cG rfl rfl (bD (decide_eq_false hc17)) (Calm.not rfl rfl) ?_
           exact AO.nE (d := 32) rfl ⟨⟨_, rfl, rfl⟩, Sub.refl _⟩
          ·refine AO.wK [29, 32] ?_
           refine AO.c (Calm.pickF rfl (bD (decide_eq_false hc17)) rfl) ?_
           exact AO.nE (d := 33) rfl ⟨⟨_, rfl, rfl⟩, Sub.refl _⟩
          ·refine AO.wK [33] ?_
           refine AO.c (Calm.move rfl rfl) ?_
           exact AO.nE (d := 34) rfl ⟨⟨_, rfl, rfl⟩, Sub.refl _⟩
          ·refine AO.wK [5, 34] ?_
           refine AO.cG rfl rfl (bD (eq_false_of_ne_true hc19)) (Calm.load 1 rfl rfl rfl (At.cast At.here rfl) ag30 sz30) ?_
           exact AO.nE (d := 35) rfl ⟨⟨_, rfl, rfl⟩, Sub.refl _⟩
          ·refine AO.wK [34, 35] ?_
           refine AO.callG 7 false 34 [(e30 t13.1)] (e30 t20) 36 rfl (by decide) ok37 rfl rfl (bD (eq_false_of_ne_true hc19)) rfl rfl ⟨rfl, rfl, trivial⟩ (bosketref08_Order_spec et20) ?_
           exact AO.nE (d := 36) rfl ⟨⟨_, rfl, rfl⟩, Sub.refl _⟩
          ·refine AO.wK [5, 34] ?_
           refine AO.cG rfl rfl (bD (eq_false_of_ne_true hc19)) (Calm.load 1 rfl rfl rfl (At.cast At.here rfl) ag30 sz30) ?_
           exact AO.nE (d := 37) rfl ⟨⟨_, rfl, rfl⟩, Sub.refl _⟩
          ·refine AO.wK [34, 36, 37] ?_
           refine AO.callG 7 false 34 [(e30 t20), (e30 t13.1)] (eBool t21) 38 rfl (by decide) ok36 rfl rfl (bD (eq_false_of_ne_true hc19)) rfl rfl ⟨rfl, rfl, rfl, rfl, trivial⟩ (bosketref08_Same_spec et21) ?_
           exact AO.nE (d := 38) rfl ⟨⟨_, rfl, rfl⟩, Sub.refl _⟩
          ·refine AO.wK [34, 38] ?_
           refine AO.cG rfl rfl (bD (eq_false_of_ne_true hc19)) (Calm.not rfl rfl) ?_
           exact AO.nE (d := 39) rfl ⟨⟨_, rfl, rfl⟩, Sub.refl _⟩
          ·refine AO.wK [34, 39] ?_
           refine AO.c (Calm.pickF rfl (bD (eq_false_of_ne_true hc19)) rfl) ?_
           exact AO.nE (d := 40) rfl ⟨⟨_, rfl, rfl⟩, Sub.refl _⟩
          ·refine AO.wK [40] ?_
           refine AO.c (Calm.move rfl rfl) ?_
           exact AO.nE (d := 41) rfl ⟨⟨_, rfl, rfl⟩, Sub.refl _⟩
          ·refine AO.wK [5, 41] ?_
           refine AO.cG rfl rfl (bD (eq_false_of_ne_true hc22)) (Calm.load 1 rfl rfl rfl (At.cast At.here rfl) ag30 sz30) ?_
           exact AO.nE (d := 42) rfl ⟨⟨_, rfl, rfl⟩, Sub.refl _⟩
          ·refine AO.wK [41, 42] ?_
           refine AO.callG 14 false 41 [(e30 t13.1)] (e30 t23) 43 rfl (by decide) ok38 rfl rfl (bD (eq_false_of_ne_true hc22)) rfl rfl ⟨rfl, rfl, trivial⟩ (bosketref08_Trim_spec et23) ?_
           exact AO.nE (d := 43) rfl ⟨⟨_, rfl, rfl⟩, Sub.refl _⟩
          ·refine AO.wK [5, 41] ?_
           refine AO.cG rfl rfl (bD (eq_false_of_ne_true hc22)) (Calm.load 1 rfl rfl rfl (At.cast At.here rfl) ag30 sz30) ?_
           exact AO.nE (d := 44) rfl ⟨⟨_, rfl, rfl⟩, Sub.refl _⟩
          ·refine AO.wK [41, 43, 44] ?_
           refine AO.callG 14 false 41 [(e30 t23), (e30 t13.1)] (eBool t24) 45 rfl (by decide) ok36 rfl rfl (bD (eq_false_of_ne_true hc22)) rfl rfl ⟨rfl, rfl, rfl, rfl, trivial⟩ (bosketref08_Same_spec et24) ?_
           exact AO.nE (d := 45) rfl ⟨⟨_, rfl, rfl⟩, Sub.refl _⟩
          ·refine AO.wK [41, 45] ?_
           refine AO.cG rfl rfl (bD (eq_false_of_ne_true hc22)) (Calm.not rfl rfl) ?_
           exact AO.nE (d := 46) rfl ⟨⟨_, rfl, rfl⟩, Sub.refl _⟩
          ·refine AO.wK [41, 46] ?_
           refine AO.c (Calm.pickF rfl (bD (eq_false_of_ne_true hc22)) rfl) ?_
           exact AO.nE (d := 47) rfl ⟨⟨_, rfl, rfl⟩, Sub.refl _⟩
         ·cases hq16
          exact ⟨rfl, rfl, rfl⟩
     ·rcases of_ite h with ⟨hc25, h⟩ | ⟨hc25, h⟩
      ·refine AW.condT' _ rfl hc25 ?_
       refine AW.sr ?_
       refine AO.c (Calm.assign rfl rfl) ?_
       refine AO.nH [4] (H' := []) (Sub.nil _) ?_
       refine AW.rK [4] ?_
       have hr := Option.some.inj h
       subst hr
       exact ⟨[(eBool false)], ⟨rfl, rfl, trivial⟩, rfl⟩
      ·refine AW.condF' _ rfl hc25 ?_
       refine AW.sK [1, 2, 5] ?_
       refine AW.seq ?_
       obtain ⟨b26, hq27, h⟩ := of_bind h
       refine AW.regQM (by rfl) (by decide +kernel) [(4, (eBool b26))] ?_ ?_
       ·refine AQ.c (Calm.load 1 rfl rfl rfl (At.cast At.here rfl) ag30 sz30) ?_
        obtain ⟨t28, et28, hq27⟩ := of_bind hq27
        refine AQ.c (Calm.call (args := [(e30 t13.1)]) rfl rfl ok39 ⟨rfl, rfl, trivial⟩ rfl (bosketref09_Apartness_spec et28)) ?_
        refine AQ.c (Calm.move rfl rfl) ?_
        rcases of_ite hq27 with ⟨hc29, hq27⟩ | ⟨hc29, hq27⟩
        ·refine AQ.cG rfl rfl (bD hc29) (Calm.load 1 rfl rfl rfl (At.cast At.here rfl) ag30 sz30) ?_
         obtain ⟨t30, et30, hq27⟩ := of_bind hq27
         refine AQ.cG rfl rfl (bD hc29) (Calm.call (args := [(e30 t13.1)]) rfl rfl ok40 ⟨rfl, rfl, trivial⟩ rfl (bosketref09_Classes_spec et30)) ?_
         refine AQ.c (Calm.pickT rfl (bD hc29) rfl) ?_
         refine AQ.c (Calm.move rfl rfl) ?_
         rcases of_ite hq27 with ⟨hc31, hq27⟩ | ⟨hc31, hq27⟩
         ·refine AQ.cG rfl rfl (bD hc31) (Calm.load 1 rfl rfl rfl (At.cast At.here rfl) ag30 sz30) ?_
          refine AQ.cG rfl rfl (bD hc31) (Calm.load 1 rfl rfl rfl (At.cast At.here rfl) ag30 sz30) ?_
          refine AQ.cG rfl rfl (bD hc31) (Calm.move rfl rfl) ?_
          obtain ⟨t32, et32, hq27⟩ := of_bind hq27
          refine AQ.cG rfl rfl (bD hc31) (Calm.call (args := [(e30 t13.1), (eI64 (0 : Int)), (eStr p1)]) rfl rfl ok42 ⟨rfl, rfl, rfl, rfl, rfl, rfl, trivial⟩ rfl (bosketref08_Run_spec et32)) ?_
          obtain ⟨t33, et33, hq27⟩ := of_bind hq27
          refine AQ.cG rfl rfl (bD hc31) (Calm.call (args := [(e30 t13.1), (eI64 t32)]) rfl rfl ok41 ⟨rfl, rfl, rfl, rfl, trivial⟩ rfl (bosketref08_Mark_spec et33)) ?_
          refine AQ.cG rfl rfl (bD hc31) (Calm.load 0 rfl rfl rfl (At.cast At.here rfl) ag30 sz30) ?_
          refine AQ.cG rfl rfl (bD hc31) (Calm.load 0 rfl rfl rfl (At.cast At.here rfl) ag30 sz30) ?_
          refine AQ.cG rfl rfl (bD hc31) (Calm.move rfl rfl) ?_
          obtain ⟨t34, et34, hq27⟩ := of_bind hq27
          refine AQ.cG rfl rfl (bD hc31) (Calm.call (args := [(e30 p0), (eI64 (0 : Int)), (eStr p1)]) rfl rfl ok42 ⟨rfl, rfl, rfl, rfl, rfl, rfl, trivial⟩ rfl (bosketref08_Run_spec et34)) ?_
          obtain ⟨t35, et35, hq27⟩ := of_bind hq27
          refine AQ.cG rfl rfl (bD hc31) (Calm.call (args := [(e30 p0), (eI64 t34)]) rfl rfl ok41 ⟨rfl, rfl, rfl, rfl, trivial⟩ rfl (bosketref08_Mark_spec et35)) ?_
          refine AQ.cG (x := eBool (decide (t33 = t35))) rfl rfl (bD hc31) (Calm.int rfl rfl rfl rfl) ?_
          refine AQ.c (Calm.pickT rfl (bD hc31) rfl) ?_
          refine AQ.c (Calm.assign rfl rfl) ?_
          cases hq27
          refine AQ.nilE rfl ?_
          exact ⟨rfl, trivial⟩
         ·refine AQ.sT rfl rfl (bD (eq_false_of_ne_true hc31)) ?_
          refine AQ.sT rfl rfl (bD (eq_false_of_ne_true hc31)) ?_
          refine AQ.sT rfl rfl (bD (eq_false_of_ne_true hc31)) ?_
          refine AQ.sT rfl rfl (bD (eq_false_of_ne_true hc31)) ?_
          refine AQ.sT rfl rfl (bD (eq_false_of_ne_true hc31)) ?_
          refine AQ.sT rfl rfl (bD (eq_false_of_ne_true hc31)) ?_
          refine AQ.sT rfl rfl (bD (eq_false_of_ne_true hc31)) ?_
          refine AQ.sT rfl rfl (bD (eq_false_of_ne_true hc31)) ?_
          refine AQ.sT rfl rfl (bD (eq_false_of_ne_true hc31)) ?_
          refine AQ.sT rfl rfl (bD (eq_false_of_ne_true hc31)) ?_
          refine AQ.sT rfl rfl (bD (eq_false_of_ne_true hc31)) ?_
          refine AQ.c (Calm.pickF rfl (bD (eq_false_of_ne_true hc31)) rfl) ?_
          refine AQ.c (Calm.assign rfl rfl) ?_
          cases hq27
          refine AQ.nilE rfl ?_
          exact ⟨rfl, trivial⟩
        ·refine AQ.sT rfl rfl (bD (eq_false_of_ne_true hc29)) ?_
         refine AQ.sT rfl rfl (bD (eq_false_of_ne_true hc29)) ?_
         refine AQ.c (Calm.pickF rfl (bD (eq_false_of_ne_true hc29)) rfl) ?_
         refine AQ.c (Calm.move rfl rfl) ?_
         refine AQ.sT rfl rfl rfl ?_
         refine AQ.sT rfl rfl rfl ?_
         refine AQ.sT rfl rfl rfl ?_
         refine AQ.sT rfl rfl rfl ?_
         refine AQ.sT rfl rfl rfl ?_
         refine AQ.sT rfl rfl rfl ?_
         refine AQ.sT rfl rfl rfl ?_
         refine AQ.sT rfl rfl rfl ?_
         refine AQ.sT rfl rfl rfl ?_
         refine AQ.sT rfl rfl rfl ?_
         refine AQ.sT rfl rfl rfl ?_
         refine AQ.c (Calm.pickF rfl rfl rfl) ?_
         refine AQ.c (Calm.assign rfl rfl) ?_
         cases hq27
         refine AQ.nilE rfl ?_
         exact ⟨rfl, trivial⟩
       ·refine AW.rH [4] (H' := []) (Sub.nil _) ?_
        have hr := Option.some.inj h
        subst hr
        exact ⟨[(eBool b26)], ⟨rfl, rfl, trivial⟩, rfl⟩
end Go.Avl.T5
/- bosket/bosketref02.Has; printed by avmain.py. -/
namespace Go.Avl.T5
open Go Go.RowKit Go.Proofs Go.Avl
set_option linter.unusedVariables false
set_option maxRecDepth 100000
set_option maxHeartbeats 4000000
attribute [local irreducible] AW AO AQ Spec SpecH Calm

end Go.Avl.T5
/- bosket/byteset.Has; printed by avmain.py. -/
namespace Go.Avl.T5
open Go Go.RowKit Go.Proofs Go.Avl
set_option linter.unusedVariables false
set_option maxRecDepth 100000
set_option maxHeartbeats 4000000
attribute [local irreducible] AW AO AQ Spec SpecH Calm

def byteset_Has (k : Nat) (p0 : (Vector Int 4)) (p1 : Int) : Option Bool :=
  if 0 ≤ (IntKind.u8.wrap (p1.tdiv (64 : Int))) ∧ (IntKind.u8.wrap (p1.tdiv (64 : Int))) < (4 : Int) then if 0 ≤ (p1.tmod (64 : Int)) then some (decide ((bits .and .u64 (Int.fdiv (vget p0 (IntKind.u8.wrap (p1.tdiv (64 : Int)))) (2 ^ (min (p1.tmod (64 : Int)).toNat IntKind.u64.bits))) (1 : Int)) = (1 : Int)))
  else none
  else none
end Go.Avl.T5
/- bosket/byteset.key; printed by avmain.py. -/
namespace Go.Avl.T5
open Go Go.RowKit Go.Proofs Go.Avl
set_option linter.unusedVariables false
set_option maxRecDepth 100000
set_option maxHeartbeats 4000000
attribute [local irreducible] AW AO AQ Spec SpecH Calm

def byteset_key_c0 (k : Nat) (x5 : (List Int)) : Option ByteArray :=
  some ((strOfNums x5))
def byteset_key_c1 (k : Nat) (rec8 : ((List Int) → Int → Option ByteArray)) (x7 : Int) (x11 : (List Int)) : Option ByteArray :=
  rec8 x11 (w64 (x7 + (1 : Int)))
def byteset_key_l2 (k : Nat) (p0 : (List (Vector Int 4))) (p1 : Int) : Nat → (List Int) → Int → Option ByteArray
  | 0, _, _ => none
  | j + 1, x6, x7 =>
    if x7 < (p0.length : Int) then if 0 ≤ x7 ∧ x7 < (p0.length : Int) then (byteset_Has k (lget p0 x7) p1).bind fun t14 =>
    if t14 = true then if 0 ≤ (IntKind.i64.wrap (x7.tdiv (8 : Int))) ∧ (IntKind.i64.wrap (x7.tdiv (8 : Int))) < (x6.length : Int) then if 0 ≤ (u64 (x7.tmod (8 : Int))) then if 0 ≤ (IntKind.i64.wrap (x7.tdiv (8 : Int))) ∧ (IntKind.i64.wrap (x7.tdiv (8 : Int))) < (x6.length : Int) then byteset_key_c1 k (byteset_key_l2 k p0 p1 j) x7 (lset x6 (IntKind.i64.wrap (x7.tdiv (8 : Int))) (bits .or .u8 (lget x6 (IntKind.i64.wrap (x7.tdiv (8 : Int)))) (IntKind.u8.wrap ((1 : Int) * 2 ^ (min (u64 (x7.tmod (8 : Int))).toNat IntKind.u8.bits)))))
    else none
    else none
    else none
    else byteset_key_c1 k (byteset_key_l2 k p0 p1 j) x7 x6
    else none
    else byteset_key_c0 k x6
def byteset_key (k : Nat) (p0 : (List (Vector Int 4))) (p1 : Int) : Option ByteArray :=
  if 0 ≤ (IntKind.i64.wrap ((w64 ((p0.length : Int) + (7 : Int))).tdiv (8 : Int))) ∧ (IntKind.i64.wrap ((w64 ((p0.length : Int) + (7 : Int))).tdiv (8 : Int))) * (1 : Int) ≤ 140737488355328 ∧ (IntKind.i64.wrap ((w64 ((p0.length : Int) + (7 : Int))).tdiv (8 : Int))) ≤ 9223372036854775807 then byteset_key_l2 k p0 p1 k (List.replicate (IntKind.i64.wrap ((w64 ((p0.length : Int) + (7 : Int))).tdiv (8 : Int))).toNat (0 : Int)) (0 : Int)
  else none
end Go.Avl.T5
/- bosket/byteset.Classes; printed by avmain.py. -/
namespace Go.Avl.T5
open Go Go.RowKit Go.Proofs Go.Avl
set_option linter.unusedVariables false
set_option maxRecDepth 100000
set_option maxHeartbeats 4000000
attribute [local irreducible] AW AO AQ Spec SpecH Calm

def byteset_Classes_c0 (k : Nat) (x5 : (Vector Int 256)) : Option (Vector Int 256) :=
  some (x5)
def byteset_Classes_c1 (k : Nat) (rec9 : ((Vector Int 256) → (List (ByteArray × Int)) → Int → Option (Vector Int 256))) (x6 : (Vector Int 256)) (x8 : Int) (x13 : (List (ByteArray × Int))) (x14 : Int) : Option (Vector Int 256) :=
  if 0 ≤ x8 ∧ x8 < (256 : Int) then rec9 (vset x6 x8 (w8 x14)) x13 (w64 (x8 + (1 : Int)))
  else none
def byteset_Classes_l2 (k : Nat) (p0 : (List (Vector Int 4))) : Nat → (Vector Int 256) → (List (ByteArray × Int)) → Int → Option (Vector Int 256)
  | 0, _, _, _ => none
  | j + 1, x6, x7, x8 =>
    if x8 < (256 : Int) then (byteset_key k p0 (w8 x8)).bind fun t12 =>
    if (!((mget x7 t12).isSome)) = true then byteset_Classes_c1 k (byteset_Classes_l2 k p0 j) x6 x8 (mput x7 t12 (x7.length : Int)) (x7.length : Int)
    else byteset_Classes_c1 k (byteset_Classes_l2 k p0 j) x6 x8 x7 ((mget x7 t12).getD (0 : Int))
    else byteset_Classes_c0 k x6
def byteset_Classes (k : Nat) (p0 : (List (Vector Int 4))) : Option (Vector Int 256) :=
  byteset_Classes_l2 k p0 k (Vector.replicate 256 (0 : Int)) ([] : List (ByteArray × Int)) (0 : Int)
end Go.Avl.T5
/- bosket/bosketref02.Class; printed by avmain.py. -/
namespace Go.Avl.T5
open Go Go.RowKit Go.Proofs Go.Avl
set_option linter.unusedVariables false
set_option maxRecDepth 100000
set_option maxHeartbeats 4000000
attribute [local irreducible] AW AO AQ Spec SpecH Calm

end Go.Avl.T5
/- bosket/bosketref06.Right; printed by avmain.py. -/
namespace Go.Avl.T5
open Go Go.RowKit Go.Proofs Go.Avl
set_option linter.unusedVariables false
set_option maxRecDepth 100000
set_option maxHeartbeats 4000000
attribute [local irreducible] AW AO AQ Spec SpecH Calm

end Go.Avl.T5
/- bosket/nfa.Right; printed by avmain.py. -/
namespace Go.Avl.T5
open Go Go.RowKit Go.Proofs Go.Avl
set_option linter.unusedVariables false
set_option maxRecDepth 100000
set_option maxHeartbeats 4000000
attribute [local irreducible] AW AO AQ Spec SpecH Calm

end Go.Avl.T5
/- bosket/bosketref06.Same; printed by avmain.py. -/
namespace Go.Avl.T5
open Go Go.RowKit Go.Proofs Go.Avl
set_option linter.unusedVariables false
set_option maxRecDepth 100000
set_option maxHeartbeats 4000000
attribute [local irreducible] AW AO AQ Spec SpecH Calm

end Go.Avl.T5
/- bosket/nfa.Close; printed by avmain.py. -/
namespace Go.Avl.T5
open Go Go.RowKit Go.Proofs Go.Avl
set_option linter.unusedVariables false
set_option maxRecDepth 100000
set_option maxHeartbeats 4000000
attribute [local irreducible] AW AO AQ Spec SpecH Calm

end Go.Avl.T5
/- bosket/bosketref06.Close; printed by avmain.py. -/
namespace Go.Avl.T5
open Go Go.RowKit Go.Proofs Go.Avl
set_option linter.unusedVariables false
set_option maxRecDepth 100000
set_option maxHeartbeats 4000000
attribute [local irreducible] AW AO AQ Spec SpecH Calm

end Go.Avl.T5
/- bosket/nfa.Move; printed by avmain.py. -/
namespace Go.Avl.T5
open Go Go.RowKit Go.Proofs Go.Avl
set_option linter.unusedVariables false
set_option maxRecDepth 100000
set_option maxHeartbeats 4000000
attribute [local irreducible] AW AO AQ Spec SpecH Calm

end Go.Avl.T5
/- bosket/bosketref06.Move; printed by avmain.py. -/
namespace Go.Avl.T5
open Go Go.RowKit Go.Proofs Go.Avl
set_option linter.unusedVariables false
set_option maxRecDepth 100000
set_option maxHeartbeats 4000000
attribute [local irreducible] AW AO AQ Spec SpecH Calm

end Go.Avl.T5
/- bosket/bosketref06.Run; printed by avmain.py. -/
namespace Go.Avl.T5
open Go Go.RowKit Go.Proofs Go.Avl
set_option linter.unusedVariables false
set_option maxRecDepth 100000
set_option maxHeartbeats 4000000
attribute [local irreducible] AW AO AQ Spec SpecH Calm

end Go.Avl.T5
/- bosket/nfa.Sets; printed by avmain.py. -/
namespace Go.Avl.T5
open Go Go.RowKit Go.Proofs Go.Avl
set_option linter.unusedVariables false
set_option maxRecDepth 100000
set_option maxHeartbeats 4000000
attribute [local irreducible] AW AO AQ Spec SpecH Calm

end Go.Avl.T5
/- bosket/bosketref07.Reps; printed by avmain.py. -/
namespace Go.Avl.T5
open Go Go.RowKit Go.Proofs Go.Avl
set_option linter.unusedVariables false
set_option maxRecDepth 100000
set_option maxHeartbeats 4000000
attribute [local irreducible] AW AO AQ Spec SpecH Calm

end Go.Avl.T5
/- bosket/bosketref07.SameRows; printed by avmain.py. -/
namespace Go.Avl.T5
open Go Go.RowKit Go.Proofs Go.Avl
set_option linter.unusedVariables false
set_option maxRecDepth 100000
set_option maxHeartbeats 4000000
attribute [local irreducible] AW AO AQ Spec SpecH Calm

end Go.Avl.T5
/- bosket/bosketref01.Same; printed by avmain.py. -/
namespace Go.Avl.T5
open Go Go.RowKit Go.Proofs Go.Avl
set_option linter.unusedVariables false
set_option maxRecDepth 100000
set_option maxHeartbeats 4000000
attribute [local irreducible] AW AO AQ Spec SpecH Calm

end Go.Avl.T5
/- bosket/bosketref07.Mark; printed by avmain.py. -/
namespace Go.Avl.T5
open Go Go.RowKit Go.Proofs Go.Avl
set_option linter.unusedVariables false
set_option maxRecDepth 100000
set_option maxHeartbeats 4000000
attribute [local irreducible] AW AO AQ Spec SpecH Calm

end Go.Avl.T5
/- bosket/bosketref07.any; printed by avmain.py. -/
namespace Go.Avl.T5
open Go Go.RowKit Go.Proofs Go.Avl
set_option linter.unusedVariables false
set_option maxRecDepth 100000
set_option maxHeartbeats 4000000
attribute [local irreducible] AW AO AQ Spec SpecH Calm

end Go.Avl.T5
/- bosket/subset.key; printed by avmain.py. -/
namespace Go.Avl.T5
open Go Go.RowKit Go.Proofs Go.Avl
set_option linter.unusedVariables false
set_option maxRecDepth 100000
set_option maxHeartbeats 4000000
attribute [local irreducible] AW AO AQ Spec SpecH Calm

end Go.Avl.T5
/- bosket/subset.markOf; printed by avmain.py. -/
namespace Go.Avl.T5
open Go Go.RowKit Go.Proofs Go.Avl
set_option linter.unusedVariables false
set_option maxRecDepth 100000
set_option maxHeartbeats 4000000
attribute [local irreducible] AW AO AQ Spec SpecH Calm

end Go.Avl.T5
/- (*bosket/subset.builder).mark; printed by avmain.py. -/
namespace Go.Avl.T5
open Go Go.RowKit Go.Proofs Go.Avl
set_option linter.unusedVariables false
set_option maxRecDepth 100000
set_option maxHeartbeats 4000000
attribute [local irreducible] AW AO AQ Spec SpecH Calm

end Go.Avl.T5
/- bosket/dfa.Step; printed by avmain.py. -/
namespace Go.Avl.T5
open Go Go.RowKit Go.Proofs Go.Avl
set_option linter.unusedVariables false
set_option maxRecDepth 100000
set_option maxHeartbeats 4000000
attribute [local irreducible] AW AO AQ Spec SpecH Calm

end Go.Avl.T5
/- bosket/dfa.Reached; printed by avmain.py. -/
namespace Go.Avl.T5
open Go Go.RowKit Go.Proofs Go.Avl
set_option linter.unusedVariables false
set_option maxRecDepth 100000
set_option maxHeartbeats 4000000
attribute [local irreducible] AW AO AQ Spec SpecH Calm

end Go.Avl.T5
/- bosket/dfa.Run; printed by avmain.py. -/
namespace Go.Avl.T5
open Go Go.RowKit Go.Proofs Go.Avl
set_option linter.unusedVariables false
set_option maxRecDepth 100000
set_option maxHeartbeats 4000000
attribute [local irreducible] AW AO AQ Spec SpecH Calm

end Go.Avl.T5
/- bosket/dfa.Has; printed by avmain.py. -/
namespace Go.Avl.T5
open Go Go.RowKit Go.Proofs Go.Avl
set_option linter.unusedVariables false
set_option maxRecDepth 100000
set_option maxHeartbeats 4000000
attribute [local irreducible] AW AO AQ Spec SpecH Calm

end Go.Avl.T5
/- bosket/bosketref09.Blocks; printed by avmain.py. -/
namespace Go.Avl.T5
open Go Go.RowKit Go.Proofs Go.Avl
set_option linter.unusedVariables false
set_option maxRecDepth 100000
set_option maxHeartbeats 4000000
attribute [local irreducible] AW AO AQ Spec SpecH Calm

end Go.Avl.T5
