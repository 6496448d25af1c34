/- Parts: T5f59, T5f25, T5f105, T5f104, T5f98, T5f82, T5f79, T5f48, T5f99. -/
import Derived.Test.YtoaomnfenofglaaAF1
import Derived.Test.YtoaomnfenofglaaAF2
/- bosket/bosketref08.gapless; printed by avmain.py. -/
namespace Go.Avl.T5
open Go Go.RowKit Go.Proofs Go.Avl
set_option linter.unusedVariables false
set_option maxRecDepth 100000
set_option maxHeartbeats 4000000
attribute [local irreducible] AW AO AQ Spec SpecH Calm

def bosketref08_gapless_c0 (k : Nat) : Option Bool :=
  some (true)
def bosketref08_gapless_c1 (k : Nat) (rec4 : (Int → Option Bool)) (x3 : Int) : Option Bool :=
  rec4 (w64 (x3 + (1 : Int)))
def bosketref08_gapless_c2 (k : Nat) (rec4 : (Int → Option Bool)) (x3 : Int) (b8 : Bool) : Option Bool :=
  if (!b8) = true then some (false)
  else bosketref08_gapless_c1 k rec4 x3
def bosketref08_gapless_l3 (k : Nat) (rec4 : (Int → Option Bool)) (p0 : S30) (x3 : Int) : Nat → Bool → Int → Option Bool
  | 0, _, _ => none
  | j + 1, b10, x11 =>
    if x11 < (256 : Int) then Option.bind (α := Bool) (if b10 = true then some (true)
    else if 0 ≤ x11 ∧ x11 < (256 : Int) then some (decide ((w64 (vget p0.f0 x11)) = x3))
    else none) fun b15 =>
    (bosketref08_gapless_l3 k rec4 p0 x3 j) b15 (w64 (x11 + (1 : Int)))
    else bosketref08_gapless_c2 k rec4 x3 b10
def bosketref08_gapless_l4 (k : Nat) (p0 : S30) : Nat → Int → Option Bool
  | 0, _ => none
  | j + 1, x3 =>
    (bosketref08_classes k p0).bind fun t6 =>
    if x3 < t6 then bosketref08_gapless_l3 k (bosketref08_gapless_l4 k p0 j) p0 x3 k false (0 : Int)
    else bosketref08_gapless_c0 k
def bosketref08_gapless (k : Nat) (p0 : S30) : Option Bool :=
  bosketref08_gapless_l4 k p0 k (0 : Int)
theorem bosketref08_gapless_spec {k : Nat} {p0 : S30} {r : Bool} (h : bosketref08_gapless k p0 = some r) : Spec Try.prog 59 [(e30 p0)] (eBool r) := by
  rw [bosketref08_gapless.eq_1] at h
  refine Spec.intro (res := [.tmp 2]) Try.func59 rfl rfl rfl (Nat.le_of_ble_eq_true rfl) ?_
  refine AW.sr ?_
  refine AO.box rfl 1 rfl (by decide) rfl rfl rfl fun n2 => ?_
  refine AO.c (Calm.assign rfl rfl) ?_
  refine AO.nK [1] ?_
  refine AW.seq_mid (fun ρ H => ρ = [] ∧ H = [] ∧ bosketref08_gapless_c0 k = some r) ?_ ?_
  ·refine AW.sr ?_
   refine AO.c (Calm.assign rfl rfl) ?_
   refine AO.nK [1, 3] ?_
   refine AW.block ?_
   refine AW.wK [1, 3] ?_
   refine AW.loop (fun kq ρ H => ∃ (x3 : Int), ρ = [(1, (.ptr n2 0)), (3, (eI64 x3))] ∧ H = [(n2, (.mem (e30 p0)))] ∧ bosketref08_gapless_l4 k p0 kq x3 = some r) k ⟨(0 : Int), rfl, rfl, h⟩ ?_
   rintro kq5 _ _ ⟨x3, rfl, rfl, h⟩
   cases kq5 with
   | zero => rw [bosketref08_gapless_l4.eq_1] at h; cases h
   | succ kq5 =>
   rw [bosketref08_gapless_l4.eq_2] at h
   generalize hrec4 : bosketref08_gapless_l4 k p0 kq5 = rec4 at h
   refine AW.seq ?_
   refine AW.sr ?_
   refine AO.c (Calm.move rfl rfl) ?_
   refine AO.c (Calm.load 0 rfl rfl rfl (At.cast At.here rfl) ag30 sz30) ?_
   obtain ⟨t6, et6, h⟩ := of_bind h
   refine AO.callS [(e30 p0)] (eI64 t6) 8 rfl (by decide) ok60 rfl rfl rfl ⟨rfl, rfl, trivial⟩ (bosketref08_classes_spec et6) ?_
   refine AO.c (x := eBool (decide (x3 < t6))) (Calm.int rfl rfl rfl rfl) ?_
   refine AO.nK [1, 3, 9] ?_
   rcases of_ite h with ⟨hc7, h⟩ | ⟨hc7, h⟩
   ·refine AW.condP _ rfl hc7 ?_
    refine AW.sK [1, 3] ?_
    refine AW.seq_mid (fun ρ H => ρ = [(1, (.ptr n2 0)), (3, (eI64 x3))] ∧ H = [(n2, (.mem (e30 p0)))] ∧ bosketref08_gapless_c1 k rec4 x3 = some r) ?_ ?_
    ·refine AW.block ?_
     refine AW.sr ?_
     refine AO.c (Calm.assign rfl rfl) ?_
     refine AO.nK [1, 3, 4] ?_
     refine AW.seq_mid (fun ρ H => ∃ (b8 : Bool), ρ = [(1, (.ptr n2 0)), (3, (eI64 x3)), (4, (eBool b8))] ∧ H = [(n2, (.mem (e30 p0)))] ∧ bosketref08_gapless_c2 k rec4 x3 b8 = some r) ?_ ?_
     ·refine AW.sr ?_
      refine AO.c (Calm.assign rfl rfl) ?_
      refine AO.nK [1, 3, 4, 5] ?_
      refine AW.block ?_
      refine AW.wK [1, 3, 4, 5] ?_
      refine AW.loop (fun kq ρ H => ∃ (b10 : Bool) (x11 : Int), ρ = [(1, (.ptr n2 0)), (3, (eI64 x3)), (4, (eBool b10)), (5, (eI64 x11))] ∧ H = [(n2, (.mem (e30 p0)))] ∧ bosketref08_gapless_l3 k rec4 p0 x3 kq b10 x11 = some r) k ⟨false, (0 : Int), rfl, rfl, h⟩ ?_
      rintro kq13 _ _ ⟨b10, x11, rfl, rfl, h⟩
      cases kq13 with
      | zero => rw [bosketref08_gapless_l3.eq_1] at h; cases h
      | succ kq13 =>
      rw [bosketref08_gapless_l3.eq_2] at h
      generalize hrec12 : bosketref08_gapless_l3 k rec4 p0 x3 kq13 = rec12 at h
      refine AW.seq ?_
      refine AW.sr ?_
      refine AO.c (Calm.move rfl rfl) ?_
      refine AO.c (x := eBool (decide (x11 < (256 : Int)))) (Calm.int rfl rfl rfl rfl) ?_
      refine AO.nK [1, 3, 4, 5, 13] ?_
      rcases of_ite h with ⟨hc14, h⟩ | ⟨hc14, h⟩
      ·refine AW.condP _ rfl hc14 ?_
       refine AW.sK [1, 3, 4, 5] ?_
       refine AW.seq ?_
       refine AW.block ?_
       obtain ⟨b15, hq16, h⟩ := of_bind h
       refine AW.regM [(1, (.ptr n2 0)), (3, (eI64 x3)), (4, (eBool b15)), (5, (eI64 x11))] [(n2, (.mem (e30 p0)))] ?_ ?_
       ·refine AO.c (Calm.move rfl rfl) ?_
        refine AO.c (Calm.move rfl rfl) ?_
        rcases of_ite hq16 with ⟨hc17, hq16⟩ | ⟨hc17, hq16⟩
        ·refine AO.sF rfl rfl (bD hc17) ?_
         refine AO.sF rfl rfl (bD hc17) ?_
         refine AO.sF rfl rfl (bD hc17) ?_
         refine AO.sF rfl rfl (bD hc17) ?_
         refine AO.sF rfl rfl (bD hc17) ?_
         refine AO.sF rfl rfl (bD hc17) ?_
         refine AO.sF rfl rfl (bD hc17) ?_
         refine AO.c (Calm.pickT rfl (bD hc17) rfl) ?_
         refine AO.c (Calm.assign rfl rfl) ?_
         cases hq16
         refine AO.nilE ⟨rfl, rfl⟩ ?_ ?_
         · exact ⟨rfl, rfl, rfl, rfl, trivial⟩
         · exact (Sub.refl _)
        ·refine AO.cG rfl rfl (bD (eq_false_of_ne_true hc17)) (Calm.move rfl rfl) ?_
         refine AO.cG (x := .ptr n2 0) rfl rfl (bD (eq_false_of_ne_true hc17)) (Calm.fldPtr rfl rfl Try.underlying30 rfl sz27 _ rfl) ?_
         obtain ⟨hg18, hq16⟩ := of_guard hq16
         refine AO.cG rfl rfl (bD (eq_false_of_ne_true hc17)) (Calm.idxP rfl rfl rfl hg18 Try.underlying27 sz5) ?_
         refine AO.cG rfl rfl (bD (eq_false_of_ne_true hc17)) (Calm.load 0 rfl rfl rfl (At.cast (At.fld0 (At.vidx x11 hg18.1 hg18.2 At.here)) (by omega)) ag5 sz5) ?_
         refine AO.cG (x := eI64 (w64 (vget p0.f0 x11))) rfl rfl (bD (eq_false_of_ne_true hc17)) (Calm.conv rfl rfl Try.underlying5 Try.underlying3) ?_
         refine AO.cG rfl rfl (bD (eq_false_of_ne_true hc17)) (Calm.move rfl rfl) ?_
         refine AO.cG (x := eBool (decide ((w64 (vget p0.f0 x11)) = x3))) rfl rfl (bD (eq_false_of_ne_true hc17)) (Calm.int rfl rfl rfl rfl) ?_
         refine AO.c (Calm.pickF rfl (bD (eq_false_of_ne_true hc17)) rfl) ?_
         refine AO.c (Calm.assign rfl rfl) ?_
         cases hq16
         refine AO.nilE ⟨rfl, rfl⟩ ?_ ?_
         · exact ⟨rfl, rfl, rfl, rfl, trivial⟩
         · exact (Sub.refl _)
       ·refine AW.reg ?_
        refine AO.c (Calm.move rfl rfl) ?_
        refine AO.c (x := eI64 (w64 (x11 + (1 : Int)))) (Calm.int rfl rfl rfl rfl) ?_
        refine AO.c (Calm.assign rfl rfl) ?_
        refine AO.nK [1, 3, 4, 5] ?_
        exact ⟨kq13, Nat.lt_succ_self _, b15, (w64 (x11 + (1 : Int))), rfl, rfl, by rw [hrec12]; exact h⟩
      ·refine AW.condN _ rfl hc14 ?_
       refine AW.eK [1, 3, 4] ?_
       exact ⟨b10, rfl, rfl, h⟩
     ·rintro _ _ ⟨b8, rfl, rfl, h⟩
      rw [bosketref08_gapless_c2.eq_1] at h
      refine AW.sr ?_
      refine AO.c (Calm.move rfl rfl) ?_
      refine AO.c (Calm.not rfl rfl) ?_
      refine AO.nK [1, 3, 27] ?_
      rcases of_ite h with ⟨hc9, h⟩ | ⟨hc9, h⟩
      ·refine AW.condT' _ rfl hc9 ?_
       refine AW.sr ?_
       refine AO.c (Calm.assign rfl rfl) ?_
       refine AO.nH [2] (H' := []) (Sub.nil _) ?_
       refine AW.rK [2] ?_
       have hr := Option.some.inj h
       subst hr
       exact ⟨[(eBool false)], ⟨rfl, rfl, trivial⟩, rfl⟩
      ·refine AW.condF' _ rfl hc9 ?_
       refine AW.sK [1, 3] ?_
       exact ⟨rfl, rfl, h⟩
    ·rintro _ _ ⟨rfl, rfl, h⟩
     rw [bosketref08_gapless_c1.eq_1] at h
     refine AW.reg ?_
     refine AO.c (Calm.move rfl rfl) ?_
     refine AO.c (x := eI64 (w64 (x3 + (1 : Int)))) (Calm.int rfl rfl rfl rfl) ?_
     refine AO.c (Calm.assign rfl rfl) ?_
     refine AO.nK [1, 3] ?_
     exact ⟨kq5, Nat.lt_succ_self _, (w64 (x3 + (1 : Int))), rfl, rfl, by rw [hrec4]; exact h⟩
   ·refine AW.condN _ rfl hc7 ?_
    refine AW.eH [] (H' := []) (Sub.nil _) ?_
    exact ⟨rfl, rfl, h⟩
  ·rintro _ _ ⟨rfl, rfl, h⟩
   rw [bosketref08_gapless_c0.eq_1] at h
   refine AW.sr ?_
   refine AO.c (Calm.assign rfl rfl) ?_
   refine AO.nK [2] ?_
   refine AW.rK [2] ?_
   have hr := Option.some.inj h
   subst hr
   exact ⟨[(eBool true)], ⟨rfl, rfl, trivial⟩, rfl⟩
end Go.Avl.T5
/- bosket/bosketref08.Right; printed by avmain.py. -/
namespace Go.Avl.T5
open Go Go.RowKit Go.Proofs Go.Avl
set_option linter.unusedVariables false
set_option maxRecDepth 100000
set_option maxHeartbeats 4000000
attribute [local irreducible] AW AO AQ Spec SpecH Calm

def bosketref08_Right_c0 (k : Nat) : Option Bool :=
  some (true)
def bosketref08_Right_c1 (k : Nat) (rec11 : (Int → Option Bool)) (x10 : Int) : Option Bool :=
  rec11 (w64 (x10 + (1 : Int)))
def bosketref08_Right_l2 (k : Nat) (rec11 : (Int → Option Bool)) (p0 : S30) (x10 : Int) : Nat → Int → Option Bool
  | 0, _ => none
  | j + 1, x23 =>
    if 0 ≤ x10 ∧ x10 < (p0.f1.length : Int) then if x23 < ((lget p0.f1 x10).length : Int) then Option.bind (α := Bool) (if 0 ≤ x10 ∧ x10 < (p0.f1.length : Int) then if 0 ≤ x23 ∧ x23 < ((lget p0.f1 x10).length : Int) then if (lget (lget p0.f1 x10) x23) < (-1 : Int) then some (true)
    else if 0 ≤ x10 ∧ x10 < (p0.f1.length : Int) then if 0 ≤ x23 ∧ x23 < ((lget p0.f1 x10).length : Int) then some (decide ((p0.f1.length : Int) ≤ (lget (lget p0.f1 x10) x23)))
    else none
    else none
    else none
    else none) fun b28 =>
    if b28 = true then some (false)
    else (bosketref08_Right_l2 k rec11 p0 x10 j) (w64 (x23 + (1 : Int)))
    else bosketref08_Right_c1 k rec11 x10
    else none
def bosketref08_Right_l3 (k : Nat) (p0 : S30) : Nat → Int → Option Bool
  | 0, _ => none
  | j + 1, x10 =>
    if x10 < (p0.f1.length : Int) then Option.bind (α := Bool) (if 0 ≤ x10 ∧ x10 < (p0.f1.length : Int) then (bosketref08_classes k p0).bind fun t17 =>
    if ((lget p0.f1 x10).length : Int) ≠ t17 then some (true)
    else if 0 ≤ x10 ∧ x10 < (p0.f2.length : Int) then if (lget p0.f2 x10) < (-1 : Int) then some (true)
    else if 0 ≤ x10 ∧ x10 < (p0.f2.length : Int) then some (decide ((32768 : Int) ≤ (lget p0.f2 x10)))
    else none
    else none
    else none) fun b14 =>
    if b14 = true then some (false)
    else bosketref08_Right_l2 k (bosketref08_Right_l3 k p0 j) p0 x10 k (0 : Int)
    else bosketref08_Right_c0 k
def bosketref08_Right (k : Nat) (p0 : S30) : Option Bool :=
  Option.bind (α := Bool) (if (p0.f1.length : Int) < (1 : Int) then some (true)
  else if (32768 : Int) < (p0.f1.length : Int) then some (true)
  else if (p0.f2.length : Int) ≠ (p0.f1.length : Int) then some (true)
  else (bosketref08_gapless k p0).bind fun t8 =>
  some (!t8)) fun b3 =>
  if b3 = true then some (false)
  else bosketref08_Right_l3 k p0 k (0 : Int)
theorem bosketref08_Right_spec {k : Nat} {p0 : S30} {r : Bool} (h : bosketref08_Right k p0 = some r) : Spec Try.prog 25 [(e30 p0)] (eBool r) := by
  rw [bosketref08_Right.eq_1] at h
  refine Spec.intro (res := [.tmp 2]) Try.func25 rfl rfl rfl (Nat.le_of_ble_eq_true rfl) ?_
  refine AW.sr ?_
  refine AO.box rfl 1 rfl (by decide) rfl rfl rfl fun n2 => ?_
  refine AO.c (Calm.assign rfl rfl) ?_
  refine AO.nK [1] ?_
  refine AW.sr ?_
  refine AO.c (x := .ptr n2 256) (Calm.fldPtr rfl rfl Try.underlying30 rfl sz28 _ rfl) ?_
  refine AO.c (Calm.load 0 rfl rfl rfl (At.cast (At.fldS (At.fld0 At.here)) rfl) ag28 sz28) ?_
  refine AO.c (Calm.lenL rfl rfl Try.underlying28) ?_
  refine AO.c (Calm.assign rfl rfl) ?_
  refine AO.nK [1, 3] ?_
  refine AW.seq ?_
  refine AW.seq ?_
  obtain ⟨b3, hq4, h⟩ := of_bind h
  refine AW.regM [(1, (.ptr n2 0)), (3, (eI64 (p0.f1.length : Int))), (26, (eBool b3))] [(n2, (.mem (e30 p0)))] ?_ ?_
  ·refine AO.c (Calm.move rfl rfl) ?_
   refine AO.c (x := eBool (decide ((p0.f1.length : Int) < (1 : Int)))) (Calm.int rfl rfl rfl rfl) ?_
   refine AO.c (Calm.move rfl rfl) ?_
   rcases of_ite hq4 with ⟨hc5, hq4⟩ | ⟨hc5, hq4⟩
   ·refine AO.sF rfl rfl (bD (decide_eq_true hc5)) ?_
    refine AO.sF rfl rfl (bD (decide_eq_true hc5)) ?_
    refine AO.c (Calm.pickT rfl (bD (decide_eq_true hc5)) rfl) ?_
    refine AO.c (Calm.move rfl rfl) ?_
    refine AO.sF rfl rfl rfl ?_
    refine AO.sF rfl rfl rfl ?_
    refine AO.sF rfl rfl rfl ?_
    refine AO.sF rfl rfl rfl ?_
    refine AO.sF rfl rfl rfl ?_
    refine AO.c (Calm.pickT rfl rfl rfl) ?_
    refine AO.c (Calm.move rfl rfl) ?_
    refine AO.sF rfl rfl rfl ?_
    refine AO.sF rfl rfl rfl ?_
    refine AO.sF rfl rfl rfl ?_
    refine AO.c (Calm.pickT rfl rfl rfl) ?_
    cases hq4
    refine AO.nilE ⟨rfl, rfl⟩ ?_ ?_
    · exact ⟨rfl, rfl, rfl, trivial⟩
    · exact (Sub.refl _)
   ·refine AO.cG rfl rfl (bD (decide_eq_false hc5)) (Calm.move rfl rfl) ?_
    refine AO.cG (x := eBool (decide ((32768 : Int) < (p0.f1.length : Int)))) rfl rfl (bD (decide_eq_false hc5)) (Calm.int rfl rfl rfl rfl) ?_
    refine AO.c (Calm.pickF rfl (bD (decide_eq_false hc5)) rfl) ?_
    refine AO.c (Calm.move rfl rfl) ?_
    rcases of_ite hq4 with ⟨hc6, hq4⟩ | ⟨hc6, hq4⟩
    ·refine AO.sF rfl rfl (bD (decide_eq_true hc6)) ?_
     refine AO.sF rfl rfl (bD (decide_eq_true hc6)) ?_
     refine AO.sF rfl rfl (bD (decide_eq_true hc6)) ?_
     refine AO.sF rfl rfl (bD (decide_eq_true hc6)) ?_
     refine AO.sF rfl rfl (bD (decide_eq_true hc6)) ?_
     refine AO.c (Calm.pickT rfl (bD (decide_eq_true hc6)) rfl) ?_
     refine AO.c (Calm.move rfl rfl) ?_
     refine AO.sF rfl rfl rfl ?_
     refine AO.sF rfl rfl rfl ?_
     refine AO.sF rfl rfl rfl ?_
     refine AO.c (Calm.pickT rfl rfl rfl) ?_
     cases hq4
     refine AO.nilE ⟨rfl, rfl⟩ ?_ ?_
     · exact ⟨rfl, rfl, rfl, trivial⟩
     · exact (Sub.refl _)
    ·refine AO.cG (x := .ptr n2 257) rfl rfl (bD (decide_eq_false hc6)) (Calm.fldPtr rfl rfl Try.underlying30 rfl sz25 _ rfl) ?_
     refine AO.cG rfl rfl (bD (decide_eq_false hc6)) (Calm.load 0 rfl rfl rfl (At.cast (At.fldS (At.fldS (At.fld0 At.here))) rfl) ag25 sz25) ?_
     refine AO.cG rfl rfl (bD (decide_eq_false hc6)) (Calm.lenL rfl rfl Try.underlying25) ?_
     refine AO.cG rfl rfl (bD (decide_eq_false hc6)) (Calm.move rfl rfl) ?_
     refine AO.cG (x := eBool (decide ((p0.f2.length : Int) ≠ (p0.f1.length : Int)))) rfl rfl (bD (decide_eq_false hc6)) (Calm.int rfl rfl rfl rfl) ?_
     refine AO.c (Calm.pickF rfl (bD (decide_eq_false hc6)) rfl) ?_
     refine AO.c (Calm.move rfl rfl) ?_
     rcases of_ite hq4 with ⟨hc7, hq4⟩ | ⟨hc7, hq4⟩
     ·refine AO.sF rfl rfl (bD (decide_eq_true hc7)) ?_
      refine AO.sF rfl rfl (bD (decide_eq_true hc7)) ?_
      refine AO.sF rfl rfl (bD (decide_eq_true hc7)) ?_
      refine AO.c (Calm.pickT rfl (bD (decide_eq_true hc7)) rfl) ?_
      cases hq4
      refine AO.nilE ⟨rfl, rfl⟩ ?_ ?_
      · exact ⟨rfl, rfl, rfl, trivial⟩
      · exact (Sub.refl _)
     ·refine AO.cG rfl rfl (bD (decide_eq_false hc7)) (Calm.load 0 rfl rfl rfl (At.cast At.here rfl) ag30 sz30) ?_
      obtain ⟨t8, et8, hq4⟩ := of_bind hq4
      refine AO.callG 13 false 22 [(e30 p0)] (eBool t8) 24 rfl (by decide) ok59 rfl rfl (bD (decide_eq_false hc7)) rfl rfl ⟨rfl, rfl, trivial⟩ (bosketref08_gapless_spec et8) ?_
      refine AO.cG rfl rfl (bD (decide_eq_false hc7)) (Calm.not rfl rfl) ?_
      refine AO.c (Calm.pickF rfl (bD (decide_eq_false hc7)) rfl) ?_
      cases hq4
      refine AO.nilE ⟨rfl, rfl⟩ ?_ ?_
      · exact ⟨rfl, rfl, rfl, trivial⟩
      · exact (Sub.refl _)
  ·rcases of_ite h with ⟨hc9, h⟩ | ⟨hc9, h⟩
   ·refine AW.condT' _ rfl hc9 ?_
    refine AW.sr ?_
    refine AO.c (Calm.assign rfl rfl) ?_
    refine AO.nH [2] (H' := []) (Sub.nil _) ?_
    refine AW.rK [2] ?_
    have hr := Option.some.inj h
    subst hr
    exact ⟨[(eBool false)], ⟨rfl, rfl, trivial⟩, rfl⟩
   ·refine AW.condF' _ rfl hc9 ?_
    refine AW.sK [1, 3] ?_
    refine AW.seq_mid (fun ρ H => ρ = [] ∧ H = [] ∧ bosketref08_Right_c0 k = some r) ?_ ?_
    ·refine AW.sr ?_
     refine AO.c (Calm.assign rfl rfl) ?_
     refine AO.nK [1, 3, 4] ?_
     refine AW.block ?_
     refine AW.wK [1, 3, 4] ?_
     refine AW.loop (fun kq ρ H => ∃ (x10 : Int), ρ = [(1, (.ptr n2 0)), (3, (eI64 (p0.f1.length : Int))), (4, (eI64 x10))] ∧ H = [(n2, (.mem (e30 p0)))] ∧ bosketref08_Right_l3 k p0 kq x10 = some r) k ⟨(0 : Int), rfl, rfl, h⟩ ?_
     rintro kq12 _ _ ⟨x10, rfl, rfl, h⟩
     cases kq12 with
     | zero => rw [bosketref08_Right_l3.eq_1] at h; cases h
     | succ kq12 =>
     rw [bosketref08_Right_l3.eq_2] at h
     generalize hrec11 : bosketref08_Right_l3 k p0 kq12 = rec11 at h
     refine AW.seq ?_
     refine AW.sr ?_
     refine AO.c (Calm.move rfl rfl) ?_
     refine AO.c (Calm.move rfl rfl) ?_
     refine AO.c (x := eBool (decide (x10 < (p0.f1.length : Int)))) (Calm.int rfl rfl rfl rfl) ?_
     refine AO.nK [1, 3, 4, 29] ?_
     rcases of_ite h with ⟨hc13, h⟩ | ⟨hc13, h⟩
     ·refine AW.condP _ rfl hc13 ?_
      refine AW.sK [1, 3, 4] ?_
      refine AW.seq_mid (fun ρ H => ρ = [(1, (.ptr n2 0)), (3, (eI64 (p0.f1.length : Int))), (4, (eI64 x10))] ∧ H = [(n2, (.mem (e30 p0)))] ∧ bosketref08_Right_c1 k rec11 x10 = some r) ?_ ?_
      ·refine AW.block ?_
       refine AW.seq ?_
       refine AW.seq ?_
       obtain ⟨b14, hq15, h⟩ := of_bind h
       refine AW.regQM (by rfl) (by decide +kernel) [(1, (.ptr n2 0)), (3, (eI64 (p0.f1.length : Int))), (4, (eI64 x10)), (56, (eBool b14))] ?_ ?_
       ·refine AQ.c (x := .ptr n2 256) (Calm.fldPtr rfl rfl Try.underlying30 rfl sz28 _ rfl) ?_
        refine AQ.c (Calm.load 0 rfl rfl rfl (At.cast (At.fldS (At.fld0 At.here)) rfl) ag28 sz28) ?_
        refine AQ.c (Calm.move rfl rfl) ?_
        obtain ⟨hg16, hq15⟩ := of_guard hq15
        refine AQ.c (Calm.idxL (f := e25) rfl rfl rfl hg16 Try.underlying28 sz25) ?_
        refine AQ.c (Calm.loadRp rfl rfl ag25 sz25) ?_
        refine AQ.c (Calm.lenL rfl rfl Try.underlying25) ?_
        refine AQ.c (Calm.load 0 rfl rfl rfl (At.cast At.here rfl) ag30 sz30) ?_
        obtain ⟨t17, et17, hq15⟩ := of_bind hq15
        refine AQ.c (Calm.call (args := [(e30 p0)]) rfl rfl ok60 ⟨rfl, rfl, trivial⟩ rfl (bosketref08_classes_spec et17)) ?_
        refine AQ.c (x := eBool (decide (((lget p0.f1 x10).length : Int) ≠ t17))) (Calm.int rfl rfl rfl rfl) ?_
        refine AQ.c (Calm.move rfl rfl) ?_
        rcases of_ite hq15 with ⟨hc18, hq15⟩ | ⟨hc18, hq15⟩
        ·refine AQ.sF rfl rfl (bD (decide_eq_true hc18)) ?_
         refine AQ.sF rfl rfl (bD (decide_eq_true hc18)) ?_
         refine AQ.sF rfl rfl (bD (decide_eq_true hc18)) ?_
         refine AQ.sF rfl rfl (bD (decide_eq_true hc18)) ?_
         refine AQ.sF rfl rfl (bD (decide_eq_true hc18)) ?_
         refine AQ.sF rfl rfl (bD (decide_eq_true hc18)) ?_
         refine AQ.c (Calm.pickT rfl (bD (decide_eq_true hc18)) rfl) ?_
         refine AQ.c (Calm.move rfl rfl) ?_
         refine AQ.sF rfl rfl rfl ?_
         refine AQ.sF rfl rfl rfl ?_
         refine AQ.sF rfl rfl rfl ?_
         refine AQ.sF rfl rfl rfl ?_
         refine AQ.sF rfl rfl rfl ?_
         refine AQ.sF rfl rfl rfl ?_
         refine AQ.c (Calm.pickT rfl rfl rfl) ?_
         cases hq15
         refine AQ.nilE rfl ?_
         exact ⟨rfl, rfl, rfl, rfl, trivial⟩
        ·refine AQ.cG (x := .ptr n2 257) rfl rfl (bD (decide_eq_false hc18)) (Calm.fldPtr rfl rfl Try.underlying30 rfl sz25 _ rfl) ?_
         refine AQ.cG rfl rfl (bD (decide_eq_false hc18)) (Calm.load 0 rfl rfl rfl (At.cast (At.fldS (At.fldS (At.fld0 At.here))) rfl) ag25 sz25) ?_
         refine AQ.cG rfl rfl (bD (decide_eq_false hc18)) (Calm.move rfl rfl) ?_
         obtain ⟨hg19, hq15⟩ := of_guard hq15
         refine AQ.cG rfl rfl (bD (decide_eq_false hc18)) (Calm.idxL (f := eI64) rfl rfl rfl hg19 Try.underlying25 sz3) ?_
         refine AQ.cG rfl rfl (bD (decide_eq_false hc18)) (Calm.loadRp rfl rfl ag3 sz3) ?_
         refine AQ.cG (x := eBool (decide ((lget p0.f2 x10) < (-1 : Int)))) rfl rfl (bD (decide_eq_false hc18)) (Calm.int rfl rfl rfl rfl) ?_
         refine AQ.c (Calm.pickF rfl (bD (decide_eq_false hc18)) rfl) ?_
         refine AQ.c (Calm.move rfl rfl) ?_
         rcases of_ite hq15 with ⟨hc20, hq15⟩ | ⟨hc20, hq15⟩
         ·refine AQ.sF rfl rfl (bD (decide_eq_true hc20)) ?_
          refine AQ.sF rfl rfl (bD (decide_eq_true hc20)) ?_
          refine AQ.sF rfl rfl (bD (decide_eq_true hc20)) ?_
          refine AQ.sF rfl rfl (bD (decide_eq_true hc20)) ?_
          refine AQ.sF rfl rfl (bD (decide_eq_true hc20)) ?_
          refine AQ.sF rfl rfl (bD (decide_eq_true hc20)) ?_
          refine AQ.c (Calm.pickT rfl (bD (decide_eq_true hc20)) rfl) ?_
          cases hq15
          refine AQ.nilE rfl ?_
          exact ⟨rfl, rfl, rfl, rfl, trivial⟩
         ·refine AQ.cG (x := .ptr n2 257) rfl rfl (bD (decide_eq_false hc20)) (Calm.fldPtr rfl rfl Try.underlying30 rfl sz25 _ rfl) ?_
          refine AQ.cG rfl rfl (bD (decide_eq_false hc20)) (Calm.load 0 rfl rfl rfl (At.cast (At.fldS (At.fldS (At.fld0 At.here))) rfl) ag25 sz25) ?_
          refine AQ.cG rfl rfl (bD (decide_eq_false hc20)) (Calm.move rfl rfl) ?_
          obtain ⟨hg21, hq15⟩ := of_guard hq15
          refine AQ.cG rfl rfl (bD (decide_eq_false hc20)) (Calm.idxL (f := eI64) rfl rfl rfl hg21 Try.underlying25 sz3) ?_
          refine AQ.cG rfl rfl (bD (decide_eq_false hc20)) (Calm.loadRp rfl rfl ag3 sz3) ?_
          refine AQ.cG (x := eBool (decide ((32768 : Int) ≤ (lget p0.f2 x10)))) rfl rfl (bD (decide_eq_false hc20)) (Calm.int rfl rfl rfl rfl) ?_
          refine AQ.c (Calm.pickF rfl (bD (decide_eq_false hc20)) rfl) ?_
          cases hq15
          refine AQ.nilE rfl ?_
          exact ⟨rfl, rfl, rfl, rfl, trivial⟩
       ·rcases of_ite h with ⟨hc22, h⟩ | ⟨hc22, h⟩
        ·refine AW.condT' _ rfl hc22 ?_
         refine AW.sr ?_
         refine AO.c (Calm.assign rfl rfl) ?_
         refine AO.nH [2] (H' := []) (Sub.nil _) ?_
         refine AW.rK [2] ?_
         have hr := Option.some.inj h
         subst hr
         exact ⟨[(eBool false)], ⟨rfl, rfl, trivial⟩, rfl⟩
        ·refine AW.condF' _ rfl hc22 ?_
         refine AW.sK [1, 3, 4] ?_
         refine AW.sr ?_
         refine AO.c (Calm.assign rfl rfl) ?_
         refine AO.nK [1, 3, 4, 5] ?_
         refine AW.block ?_
         refine AW.wK [1, 3, 4, 5] ?_
         refine AW.loop (fun kq ρ H => ∃ (x23 : Int), ρ = [(1, (.ptr n2 0)), (3, (eI64 (p0.f1.length : Int))), (4, (eI64 x10)), (5, (eI64 x23))] ∧ H = [(n2, (.mem (e30 p0)))] ∧ bosketref08_Right_l2 k rec11 p0 x10 kq x23 = some r) k ⟨(0 : Int), rfl, rfl, h⟩ ?_
         rintro kq25 _ _ ⟨x23, rfl, rfl, h⟩
         cases kq25 with
         | zero => rw [bosketref08_Right_l2.eq_1] at h; cases h
         | succ kq25 =>
         rw [bosketref08_Right_l2.eq_2] at h
         generalize hrec24 : bosketref08_Right_l2 k rec11 p0 x10 kq25 = rec24 at h
         refine AW.seq ?_
         refine AW.sr ?_
         refine AO.c (Calm.move rfl rfl) ?_
         refine AO.c (x := .ptr n2 256) (Calm.fldPtr rfl rfl Try.underlying30 rfl sz28 _ rfl) ?_
         refine AO.c (Calm.load 0 rfl rfl rfl (At.cast (At.fldS (At.fld0 At.here)) rfl) ag28 sz28) ?_
         refine AO.c (Calm.move rfl rfl) ?_
         obtain ⟨hg26, h⟩ := of_guard h
         refine AO.c (Calm.idxL (f := e25) rfl rfl rfl hg26 Try.underlying28 sz25) ?_
         refine AO.c (Calm.loadRp rfl rfl ag25 sz25) ?_
         refine AO.c (Calm.lenL rfl rfl Try.underlying25) ?_
         refine AO.c (x := eBool (decide (x23 < ((lget p0.f1 x10).length : Int)))) (Calm.int rfl rfl rfl rfl) ?_
         refine AO.nK [1, 3, 4, 5, 64] ?_
         rcases of_ite h with ⟨hc27, h⟩ | ⟨hc27, h⟩
         ·refine AW.condP _ rfl hc27 ?_
          refine AW.sK [1, 3, 4, 5] ?_
          refine AW.seq ?_
          refine AW.block ?_
          refine AW.seq ?_
          obtain ⟨b28, hq29, h⟩ := of_bind h
          refine AW.regM [(1, (.ptr n2 0)), (3, (eI64 (p0.f1.length : Int))), (4, (eI64 x10)), (5, (eI64 x23)), (87, (eBool b28))] [(n2, (.mem (e30 p0)))] ?_ ?_
          ·refine AO.c (x := .ptr n2 256) (Calm.fldPtr rfl rfl Try.underlying30 rfl sz28 _ rfl) ?_
           refine AO.c (Calm.load 0 rfl rfl rfl (At.cast (At.fldS (At.fld0 At.here)) rfl) ag28 sz28) ?_
           refine AO.c (Calm.move rfl rfl) ?_
           obtain ⟨hg30, hq29⟩ := of_guard hq29
           refine AO.c (Calm.idxL (f := e25) rfl rfl rfl hg30 Try.underlying28 sz25) ?_
           refine AO.c (Calm.loadRp rfl rfl ag25 sz25) ?_
           refine AO.c (Calm.move rfl rfl) ?_
           obtain ⟨hg31, hq29⟩ := of_guard hq29
           refine AO.c (Calm.idxL (f := eI64) rfl rfl rfl hg31 Try.underlying25 sz3) ?_
           refine AO.c (Calm.loadRp rfl rfl ag3 sz3) ?_
           refine AO.c (x := eBool (decide ((lget (lget p0.f1 x10) x23) < (-1 : Int)))) (Calm.int rfl rfl rfl rfl) ?_
           refine AO.c (Calm.move rfl rfl) ?_
           rcases of_ite hq29 with ⟨hc32, hq29⟩ | ⟨hc32, hq29⟩
           ·refine AO.sF rfl rfl (bD (decide_eq_true hc32)) ?_
            refine AO.sF rfl rfl (bD (decide_eq_true hc32)) ?_
            refine AO.sF rfl rfl (bD (decide_eq_true hc32)) ?_
            refine AO.sF rfl rfl (bD (decide_eq_true hc32)) ?_
            refine AO.sF rfl rfl (bD (decide_eq_true hc32)) ?_
            refine AO.sF rfl rfl (bD (decide_eq_true hc32)) ?_
            refine AO.sF rfl rfl (bD (decide_eq_true hc32)) ?_
            refine AO.sF rfl rfl (bD (decide_eq_true hc32)) ?_
            refine AO.sF rfl rfl (bD (decide_eq_true hc32)) ?_
            refine AO.sF rfl rfl (bD (decide_eq_true hc32)) ?_
            refine AO.c (Calm.pickT rfl (bD (decide_eq_true hc32)) rfl) ?_
            cases hq29
            refine AO.nilE ⟨rfl, rfl⟩ ?_ ?_
            · exact ⟨rfl, rfl, rfl, rfl, rfl, trivial⟩
            · exact (Sub.refl _)
           ·refine AO.cG (x := .ptr n2 256) rfl rfl (bD (decide_eq_false hc32)) (Calm.fldPtr rfl rfl Try.underlying30 rfl sz28 _ rfl) ?_
            refine AO.cG rfl rfl (bD (decide_eq_false hc32)) (Calm.load 0 rfl rfl rfl (At.cast (At.fldS (At.fld0 At.here)) rfl) ag28 sz28) ?_
            refine AO.cG rfl rfl (bD (decide_eq_false hc32)) (Calm.move rfl rfl) ?_
            obtain ⟨hg33, hq29⟩ := of_guard hq29
            refine AO.cG rfl rfl (bD (decide_eq_false hc32)) (Calm.idxL (f := e25) rfl rfl rfl hg33 Try.underlying28 sz25) ?_
            refine AO.cG rfl rfl (bD (decide_eq_false hc32)) (Calm.loadRp rfl rfl ag25 sz25) ?_
            refine AO.cG rfl rfl (bD (decide_eq_false hc32)) (Calm.move rfl rfl) ?_
            obtain ⟨hg34, hq29⟩ := of_guard hq29
            refine AO.cG rfl rfl (bD (decide_eq_false hc32)) (Calm.idxL (f := eI64) rfl rfl rfl hg34 Try.underlying25 sz3) ?_
            refine AO.cG rfl rfl (bD (decide_eq_false hc32)) (Calm.loadRp rfl rfl ag3 sz3) ?_
            refine AO.cG rfl rfl (bD (decide_eq_false hc32)) (Calm.move rfl rfl) ?_
            refine AO.cG (x := eBool (decide ((p0.f1.length : Int) ≤ (lget (lget p0.f1 x10) x23)))) rfl rfl (bD (decide_eq_false hc32)) (Calm.int rfl rfl rfl rfl) ?_
            refine AO.c (Calm.pickF rfl (bD (decide_eq_false hc32)) rfl) ?_
            cases hq29
            refine AO.nilE ⟨rfl, rfl⟩ ?_ ?_
            · exact ⟨rfl, rfl, rfl, rfl, rfl, trivial⟩
            · exact (Sub.refl _)
          ·rcases of_ite h with ⟨hc35, h⟩ | ⟨hc35, h⟩
           ·refine AW.condT' _ rfl hc35 ?_
            refine AW.sr ?_
            refine AO.c (Calm.assign rfl rfl) ?_
            refine AO.nH [2] (H' := []) (Sub.nil _) ?_
            refine AW.rK [2] ?_
            have hr := Option.some.inj h
            subst hr
            exact ⟨[(eBool false)], ⟨rfl, rfl, trivial⟩, rfl⟩
           ·refine AW.condF' _ rfl hc35 ?_
            refine AW.sK [1, 3, 4, 5] ?_
            refine AW.reg ?_
            refine AO.c (Calm.move rfl rfl) ?_
            refine AO.c (x := eI64 (w64 (x23 + (1 : Int)))) (Calm.int rfl rfl rfl rfl) ?_
            refine AO.c (Calm.assign rfl rfl) ?_
            refine AO.nK [1, 3, 4, 5] ?_
            exact ⟨kq25, Nat.lt_succ_self _, (w64 (x23 + (1 : Int))), rfl, rfl, by rw [hrec24]; exact h⟩
         ·refine AW.condN _ rfl hc27 ?_
          refine AW.eK [1, 3, 4] ?_
          exact ⟨rfl, rfl, h⟩
      ·rintro _ _ ⟨rfl, rfl, h⟩
       rw [bosketref08_Right_c1.eq_1] at h
       refine AW.reg ?_
       refine AO.c (Calm.move rfl rfl) ?_
       refine AO.c (x := eI64 (w64 (x10 + (1 : Int)))) (Calm.int rfl rfl rfl rfl) ?_
       refine AO.c (Calm.assign rfl rfl) ?_
       refine AO.nK [1, 3, 4] ?_
       exact ⟨kq12, Nat.lt_succ_self _, (w64 (x10 + (1 : Int))), rfl, rfl, by rw [hrec11]; exact h⟩
     ·refine AW.condN _ rfl hc13 ?_
      refine AW.eH [] (H' := []) (Sub.nil _) ?_
      exact ⟨rfl, rfl, h⟩
    ·rintro _ _ ⟨rfl, rfl, h⟩
     rw [bosketref08_Right_c0.eq_1] at h
     refine AW.sr ?_
     refine AO.c (Calm.assign rfl rfl) ?_
     refine AO.nK [2] ?_
     refine AW.rK [2] ?_
     have hr := Option.some.inj h
     subst hr
     exact ⟨[(eBool true)], ⟨rfl, rfl, trivial⟩, rfl⟩
end Go.Avl.T5
/- bosket/byteset.Of; printed by avmain.py. -/
namespace Go.Avl.T5
open Go Go.RowKit Go.Proofs Go.Avl
set_option linter.unusedVariables false
set_option maxRecDepth 100000
set_option maxHeartbeats 4000000
attribute [local irreducible] AW AO AQ Spec SpecH Calm

def byteset_Of_c0 (k : Nat) (x4 : (Vector Int 4)) : Option (Vector Int 4) :=
  some (x4)
def byteset_Of_l1 (k : Nat) (p0 : (List Int)) : Nat → (Vector Int 4) → Int → Option (Vector Int 4)
  | 0, _, _ => none
  | j + 1, x5, x6 =>
    if x6 < (p0.length : Int) then if 0 ≤ x6 ∧ x6 < (p0.length : Int) then if 0 ≤ (IntKind.u8.wrap ((lget p0 x6).tdiv (64 : Int))) ∧ (IntKind.u8.wrap ((lget p0 x6).tdiv (64 : Int))) < (4 : Int) then if 0 ≤ ((lget p0 x6).tmod (64 : Int)) then if 0 ≤ (IntKind.u8.wrap ((lget p0 x6).tdiv (64 : Int))) ∧ (IntKind.u8.wrap ((lget p0 x6).tdiv (64 : Int))) < (4 : Int) then (byteset_Of_l1 k p0 j) (vset x5 (IntKind.u8.wrap ((lget p0 x6).tdiv (64 : Int))) (bits .or .u64 (vget x5 (IntKind.u8.wrap ((lget p0 x6).tdiv (64 : Int)))) (IntKind.u64.wrap ((1 : Int) * 2 ^ (min ((lget p0 x6).tmod (64 : Int)).toNat IntKind.u64.bits))))) (w64 (x6 + (1 : Int)))
    else none
    else none
    else none
    else none
    else byteset_Of_c0 k x5
def byteset_Of (k : Nat) (p0 : (List Int)) : Option (Vector Int 4) :=
  byteset_Of_l1 k p0 k (Vector.replicate 4 (0 : Int)) (0 : Int)
theorem byteset_Of_spec {k : Nat} {p0 : (List Int)} {r : (Vector Int 4)} (h : byteset_Of k p0 = some r) : Spec Try.prog 105 [(.fz 1 (p0.map eU8))] (e41 r) := by
  rw [byteset_Of.eq_1] at h
  refine Spec.intro (res := [.cell 2 41]) Try.func105 rfl rfl rfl (Nat.le_of_ble_eq_true rfl) ?_
  refine AW.sr ?_
  refine AO.alloc rfl 2 rfl (by decide) rfl zr41 lay41 fun n2 => ?_
  refine AO.nK [0, 2] ?_
  refine AW.sr ?_
  refine AO.alloc rfl 3 rfl (by decide) rfl zr41 lay41 fun n3 => ?_
  refine AO.nH [0, 2, 3] (H' := [(n2, (.mem (.ar 1 ((Vector.replicate 4 (0 : Int)).toList.map eU64)))), (n3, (.mem (.ar 1 ((Vector.replicate 4 (0 : Int)).toList.map eU64))))]) (Sub.cons 1 rfl (Sub.cons 0 rfl (Sub.nil _))) ?_
  refine AW.seq_mid (fun ρ H => ∃ (x4 : (Vector Int 4)), ρ = [(2, (.ptr n2 0)), (3, (.ptr n3 0))] ∧ H = [(n2, (.mem (.ar 1 ((Vector.replicate 4 (0 : Int)).toList.map eU64)))), (n3, (.mem (.ar 1 (x4.toList.map eU64))))] ∧ byteset_Of_c0 k x4 = some r) ?_ ?_
  ·refine AW.sr ?_
   refine AO.c (Calm.move rfl rfl) ?_
   refine AO.c (Calm.lenL rfl rfl Try.underlying77) ?_
   refine AO.c (Calm.move rfl rfl) ?_
   refine AO.nK [2, 3, 6, 7, 8] ?_
   refine AW.block ?_
   refine AW.wK [2, 3, 6, 7, 8] ?_
   refine AW.loop (fun kq ρ H => ∃ (x5 : (Vector Int 4)) (x6 : Int), ρ = [(2, (.ptr n2 0)), (3, (.ptr n3 0)), (6, (.fz 1 (p0.map eU8))), (7, (eI64 (p0.length : Int))), (8, (eI64 x6))] ∧ H = [(n2, (.mem (.ar 1 ((Vector.replicate 4 (0 : Int)).toList.map eU64)))), (n3, (.mem (.ar 1 (x5.toList.map eU64))))] ∧ byteset_Of_l1 k p0 kq x5 x6 = some r) k ⟨(Vector.replicate 4 (0 : Int)), (0 : Int), rfl, rfl, h⟩ ?_
   rintro kq8 _ _ ⟨x5, x6, rfl, rfl, h⟩
   cases kq8 with
   | zero => rw [byteset_Of_l1.eq_1] at h; cases h
   | succ kq8 =>
   rw [byteset_Of_l1.eq_2] at h
   generalize hrec7 : byteset_Of_l1 k p0 kq8 = rec7 at h
   refine AW.sr ?_
   refine AO.c (x := eBool (decide (x6 < (p0.length : Int)))) (Calm.int rfl rfl rfl rfl) ?_
   refine AO.nK [2, 3, 6, 7, 8, 9] ?_
   refine AW.seq ?_
   rcases of_ite h with ⟨hc9, h⟩ | ⟨hc9, h⟩
   ·refine AW.condP _ rfl hc9 ?_
    refine AW.sK [2, 3, 6, 7, 8] ?_
    refine AW.seq ?_
    refine AW.block ?_
    refine AW.sr ?_
    obtain ⟨hg10, h⟩ := of_guard h
    refine AO.c (Calm.idxL (f := eU8) rfl rfl rfl hg10 Try.underlying77 sz5) ?_
    refine AO.c (Calm.loadRp rfl rfl ag5 sz5) ?_
    refine AO.c (Calm.assign rfl rfl) ?_
    refine AO.nK [2, 3, 5, 6, 7, 8] ?_
    refine AW.reg ?_
    refine AO.c (Calm.move rfl rfl) ?_
    refine AO.c (x := eU8 (IntKind.u8.wrap ((lget p0 x6).tdiv (64 : Int)))) (Calm.quo rfl rfl rfl (by decide)) ?_
    obtain ⟨hg11, h⟩ := of_guard h
    refine AO.c (Calm.idxP rfl rfl rfl hg11 Try.underlying41 sz39) ?_
    refine AO.c (Calm.load 1 rfl rfl rfl (At.cast (At.vidx (IntKind.u8.wrap ((lget p0 x6).tdiv (64 : Int))) hg11.1 hg11.2 At.here) (by omega)) ag39 sz39) ?_
    refine AO.c (Calm.move rfl rfl) ?_
    refine AO.c (x := eU8 ((lget p0 x6).tmod (64 : Int))) (Calm.rem rfl rfl rfl (by decide)) ?_
    obtain ⟨hg12, h⟩ := of_guard h
    refine AO.c (x := eU64 (IntKind.u64.wrap ((1 : Int) * 2 ^ (min ((lget p0 x6).tmod (64 : Int)).toNat IntKind.u64.bits)))) (Calm.shl rfl rfl rfl hg12) ?_
    refine AO.c (x := eU64 (bits .or .u64 (vget x5 (IntKind.u8.wrap ((lget p0 x6).tdiv (64 : Int)))) (IntKind.u64.wrap ((1 : Int) * 2 ^ (min ((lget p0 x6).tmod (64 : Int)).toNat IntKind.u64.bits))))) (Calm.int rfl rfl rfl rfl) ?_
    obtain ⟨hg13, h⟩ := of_guard h
    refine AO.c (Calm.idxP rfl rfl rfl hg13 Try.underlying41 sz39) ?_
    refine AO.store (X' := (.ar 1 ((vset x5 (IntKind.u8.wrap ((lget p0 x6).tdiv (64 : Int))) (bits .or .u64 (vget x5 (IntKind.u8.wrap ((lget p0 x6).tdiv (64 : Int)))) (IntKind.u64.wrap ((1 : Int) * 2 ^ (min ((lget p0 x6).tmod (64 : Int)).toNat IntKind.u64.bits))))).toList.map eU64))) 1 rfl rfl rfl rfl rfl rfl (Put.cast (Put.vidx (IntKind.u8.wrap ((lget p0 x6).tdiv (64 : Int))) (bits .or .u64 (vget x5 (IntKind.u8.wrap ((lget p0 x6).tdiv (64 : Int)))) (IntKind.u64.wrap ((1 : Int) * 2 ^ (min ((lget p0 x6).tmod (64 : Int)).toNat IntKind.u64.bits)))) hg13.1 hg13.2 Put.here) (by omega)) rfl rfl sz39 rfl ?_
    refine AO.nK [2, 3, 6, 7, 8] ?_
    refine AW.reg ?_
    refine AO.c (x := eI64 (w64 (x6 + (1 : Int)))) (Calm.int rfl rfl rfl rfl) ?_
    refine AO.c (Calm.move rfl rfl) ?_
    refine AO.nK [2, 3, 6, 7, 8] ?_
    exact ⟨kq8, Nat.lt_succ_self _, (vset x5 (IntKind.u8.wrap ((lget p0 x6).tdiv (64 : Int))) (bits .or .u64 (vget x5 (IntKind.u8.wrap ((lget p0 x6).tdiv (64 : Int)))) (IntKind.u64.wrap ((1 : Int) * 2 ^ (min ((lget p0 x6).tmod (64 : Int)).toNat IntKind.u64.bits))))), (w64 (x6 + (1 : Int))), rfl, rfl, by rw [hrec7]; exact h⟩
   ·refine AW.condN _ rfl hc9 ?_
    refine AW.eK [2, 3] ?_
    exact ⟨x5, rfl, rfl, h⟩
  ·rintro _ _ ⟨x4, rfl, rfl, h⟩
   rw [byteset_Of_c0.eq_1] at h
   refine AW.sr ?_
   refine AO.c (Calm.load 1 rfl rfl rfl (At.cast At.here rfl) ag41 (by rw [sz41]; simp [AV.size])) ?_
   refine AO.store (X' := (.ar 1 (x4.toList.map eU64))) 0 rfl rfl rfl rfl rfl rfl (Put.cast Put.here rfl) rfl (by simp [AV.size]) (by rw [sz41]; simp [AV.size]) rfl ?_
   refine AO.nH [2] (H' := [(n2, (.mem (.ar 1 (x4.toList.map eU64))))]) (Sub.cons 0 rfl (Sub.nil _)) ?_
   refine AW.rK [2] ?_
   have hr := Option.some.inj h
   subst hr
   exact ⟨[(.ar 1 (x4.toList.map eU64))], ⟨⟨_, 0, rfl, rfl, ag41, (by rw [sz41]; simp [AV.size])⟩, trivial⟩, rfl⟩
end Go.Avl.T5
/- bosket/byteset.Or; printed by avmain.py. -/
namespace Go.Avl.T5
open Go Go.RowKit Go.Proofs Go.Avl
set_option linter.unusedVariables false
set_option maxRecDepth 100000
set_option maxHeartbeats 4000000
attribute [local irreducible] AW AO AQ Spec SpecH Calm

def byteset_Or_c0 (k : Nat) (x6 : (Vector Int 4)) : Option (Vector Int 4) :=
  some (x6)
def byteset_Or_l1 (k : Nat) (p1 : (Vector Int 4)) : Nat → (Vector Int 4) → Int → Option (Vector Int 4)
  | 0, _, _ => none
  | j + 1, x7, x8 =>
    if x8 < (4 : Int) then if 0 ≤ x8 ∧ x8 < (4 : Int) then if 0 ≤ x8 ∧ x8 < (4 : Int) then if 0 ≤ x8 ∧ x8 < (4 : Int) then (byteset_Or_l1 k p1 j) (vset x7 x8 (bits .or .u64 (vget x7 x8) (vget p1 x8))) (w64 (x8 + (1 : Int)))
    else none
    else none
    else none
    else byteset_Or_c0 k x7
def byteset_Or (k : Nat) (p0 : (Vector Int 4)) (p1 : (Vector Int 4)) : Option (Vector Int 4) :=
  byteset_Or_l1 k p1 k p0 (0 : Int)
theorem byteset_Or_spec {k : Nat} {p0 : (Vector Int 4)} {p1 : (Vector Int 4)} {r : (Vector Int 4)} (h : byteset_Or k p0 p1 = some r) : Spec Try.prog 104 [(.ar 1 (p0.toList.map eU64)), (.ar 1 (p1.toList.map eU64))] (e41 r) := by
  rw [byteset_Or.eq_1] at h
  refine Spec.intro (res := [.cell 4 41]) Try.func104 rfl rfl rfl (Nat.le_of_ble_eq_true rfl) ?_
  refine AW.sr ?_
  refine AO.box rfl 2 rfl (by decide) rfl rfl rfl fun n3 => ?_
  refine AO.box rfl 3 rfl (by decide) rfl rfl rfl fun n4 => ?_
  refine AO.alloc rfl 4 rfl (by decide) rfl zr41 lay41 fun n5 => ?_
  refine AO.nH [2, 3, 4] (H' := [(n3, (.mem (.ar 1 (p0.toList.map eU64)))), (n4, (.mem (.ar 1 (p1.toList.map eU64)))), (n5, (.mem (.ar 1 ((Vector.replicate 4 (0 : Int)).toList.map eU64))))]) (Sub.cons 2 rfl (Sub.cons 1 rfl (Sub.cons 0 rfl (Sub.nil _)))) ?_
  refine AW.seq_mid (fun ρ H => ∃ (x6 : (Vector Int 4)), ρ = [(2, (.ptr n3 0)), (4, (.ptr n5 0))] ∧ H = [(n3, (.mem (.ar 1 (x6.toList.map eU64)))), (n5, (.mem (.ar 1 ((Vector.replicate 4 (0 : Int)).toList.map eU64))))] ∧ byteset_Or_c0 k x6 = some r) ?_ ?_
  ·refine AW.sr ?_
   refine AO.c (Calm.move rfl rfl) ?_
   refine AO.nK [2, 3, 4, 6] ?_
   refine AW.block ?_
   refine AW.wK [2, 3, 4, 6] ?_
   refine AW.loop (fun kq ρ H => ∃ (x7 : (Vector Int 4)) (x8 : Int), ρ = [(2, (.ptr n3 0)), (3, (.ptr n4 0)), (4, (.ptr n5 0)), (6, (eI64 x8))] ∧ H = [(n3, (.mem (.ar 1 (x7.toList.map eU64)))), (n4, (.mem (.ar 1 (p1.toList.map eU64)))), (n5, (.mem (.ar 1 ((Vector.replicate 4 (0 : Int)).toList.map eU64))))] ∧ byteset_Or_l1 k p1 kq x7 x8 = some r) k ⟨p0, (0 : Int), rfl, rfl, h⟩ ?_
   rintro kq10 _ _ ⟨x7, x8, rfl, rfl, h⟩
   cases kq10 with
   | zero => rw [byteset_Or_l1.eq_1] at h; cases h
   | succ kq10 =>
   rw [byteset_Or_l1.eq_2] at h
   generalize hrec9 : byteset_Or_l1 k p1 kq10 = rec9 at h
   refine AW.sr ?_
   refine AO.c (x := eBool (decide (x8 < (4 : Int)))) (Calm.int rfl rfl rfl rfl) ?_
   refine AO.nK [2, 3, 4, 6, 7] ?_
   refine AW.seq ?_
   rcases of_ite h with ⟨hc11, h⟩ | ⟨hc11, h⟩
   ·refine AW.condP _ rfl hc11 ?_
    refine AW.sK [2, 3, 4, 6] ?_
    refine AW.seq ?_
    refine AW.block ?_
    refine AW.sr ?_
    refine AO.c (Calm.move rfl rfl) ?_
    refine AO.c (Calm.assign rfl rfl) ?_
    refine AO.nK [2, 3, 4, 5, 6] ?_
    obtain ⟨hg12, h⟩ := of_guard h
    obtain ⟨hg13, h⟩ := of_guard h
    obtain ⟨hg14, h⟩ := of_guard h
    refine AW.regAnyL rfl rfl (by rfl) (by decide +kernel) (by decide +kernel) [(eI64 x8), (.ptr n3 (0 + x8.toNat * 1)), (eU64 (vget x7 x8)), (eI64 x8), (.ptr n4 (0 + x8.toNat * 1)), (eU64 (vget p1 x8)), (eU64 (bits .or .u64 (vget x7 x8) (vget p1 x8))), (.ptr n3 (0 + x8.toNat * 1))] [(2, (.ptr n3 0)), (3, (.ptr n4 0)), (4, (.ptr n5 0)), (5, (eI64 x8)), (6, (eI64 x8))] ⟨rfl, rfl, rfl, rfl, rfl, trivial⟩ rfl ?_ [(2, (.ptr n3 0)), (3, (.ptr n4 0)), (4, (.ptr n5 0)), (6, (eI64 x8)), (15, (eU64 (bits .or .u64 (vget x7 x8) (vget p1 x8)))), (16, (.ptr n3 (0 + x8.toNat * 1)))] ⟨rfl, rfl, rfl, rfl, rfl, rfl, trivial⟩ ?_
    ·refine ⟨?_, ?_, ?_, ?_, ?_, ?_, ?_, ?_, trivial⟩
     ·refine AO.wK [5] ?_
      refine AO.c (Calm.move rfl rfl) ?_
      exact AO.nE (d := 9) rfl ⟨⟨_, rfl, rfl⟩, Sub.refl _⟩
     ·refine AO.wK [2, 9] ?_
      refine AO.c (Calm.idxP rfl rfl rfl hg12 Try.underlying41 sz39) ?_
      exact AO.nE (d := 10) rfl ⟨⟨_, rfl, rfl⟩, Sub.refl _⟩
     ·refine AO.wK [10] ?_
      refine AO.c (Calm.load 0 rfl rfl rfl (At.cast (At.vidx x8 hg12.1 hg12.2 At.here) (by omega)) ag39 sz39) ?_
      exact AO.nE (d := 11) rfl ⟨⟨_, rfl, rfl⟩, Sub.refl _⟩
     ·refine AO.wK [5] ?_
      refine AO.c (Calm.move rfl rfl) ?_
      exact AO.nE (d := 12) rfl ⟨⟨_, rfl, rfl⟩, Sub.refl _⟩
     ·refine AO.wK [3, 12] ?_
      refine AO.c (Calm.idxP rfl rfl rfl hg13 Try.underlying41 sz39) ?_
      exact AO.nE (d := 13) rfl ⟨⟨_, rfl, rfl⟩, Sub.refl _⟩
     ·refine AO.wK [13] ?_
      refine AO.c (Calm.load 1 rfl rfl rfl (At.cast (At.vidx x8 hg13.1 hg13.2 At.here) (by omega)) ag39 sz39) ?_
      exact AO.nE (d := 14) rfl ⟨⟨_, rfl, rfl⟩, Sub.refl _⟩
     ·refine AO.wK [11, 14] ?_
      refine AO.c (x := eU64 (bits .or .u64 (vget x7 x8) (vget p1 x8))) (Calm.int rfl rfl rfl rfl) ?_
      exact AO.nE (d := 15) rfl ⟨⟨_, rfl, rfl⟩, Sub.refl _⟩
     ·refine AO.wK [2, 9] ?_
      refine AO.c (Calm.idxP rfl rfl rfl hg14 Try.underlying41 sz39) ?_
      exact AO.nE (d := 16) rfl ⟨⟨_, rfl, rfl⟩, Sub.refl _⟩
    ·refine AO.store (X' := (.ar 1 ((vset x7 x8 (bits .or .u64 (vget x7 x8) (vget p1 x8))).toList.map eU64))) 0 rfl rfl rfl rfl rfl rfl (Put.cast (Put.vidx x8 (bits .or .u64 (vget x7 x8) (vget p1 x8)) hg14.1 hg14.2 Put.here) (by omega)) rfl rfl sz39 rfl ?_
     refine AO.nK [2, 3, 4, 6] ?_
     refine AW.reg ?_
     refine AO.c (x := eI64 (w64 (x8 + (1 : Int)))) (Calm.int rfl rfl rfl rfl) ?_
     refine AO.c (Calm.move rfl rfl) ?_
     refine AO.nK [2, 3, 4, 6] ?_
     exact ⟨kq10, Nat.lt_succ_self _, (vset x7 x8 (bits .or .u64 (vget x7 x8) (vget p1 x8))), (w64 (x8 + (1 : Int))), rfl, rfl, by rw [hrec9]; exact h⟩
   ·refine AW.condN _ rfl hc11 ?_
    refine AW.eH [2, 4] (H' := [(n3, (.mem (.ar 1 (x7.toList.map eU64)))), (n5, (.mem (.ar 1 ((Vector.replicate 4 (0 : Int)).toList.map eU64))))]) (Sub.cons 0 rfl (Sub.cons 1 rfl (Sub.nil _))) ?_
    exact ⟨x7, rfl, rfl, h⟩
  ·rintro _ _ ⟨x6, rfl, rfl, h⟩
   rw [byteset_Or_c0.eq_1] at h
   refine AW.sr ?_
   refine AO.c (Calm.load 0 rfl rfl rfl (At.cast At.here rfl) ag41 (by rw [sz41]; simp [AV.size])) ?_
   refine AO.store (X' := (.ar 1 (x6.toList.map eU64))) 1 rfl rfl rfl rfl rfl rfl (Put.cast Put.here rfl) rfl (by simp [AV.size]) (by rw [sz41]; simp [AV.size]) rfl ?_
   refine AO.nH [4] (H' := [(n5, (.mem (.ar 1 (x6.toList.map eU64))))]) (Sub.cons 1 rfl (Sub.nil _)) ?_
   refine AW.rK [4] ?_
   have hr := Option.some.inj h
   subst hr
   exact ⟨[(.ar 1 (x6.toList.map eU64))], ⟨⟨_, 0, rfl, rfl, ag41, (by rw [sz41]; simp [AV.size])⟩, trivial⟩, rfl⟩
end Go.Avl.T5
/- bosket/lang.class; printed by avmain.py. -/
namespace Go.Avl.T5
open Go Go.RowKit Go.Proofs Go.Avl
set_option linter.unusedVariables false
set_option maxRecDepth 100000
set_option maxHeartbeats 4000000
attribute [local irreducible] AW AO AQ Spec SpecH Calm

def lang_class_c0 (k : Nat) (x6 : (Vector Int 4)) : Option (Vector Int 4) :=
  some (x6)
def lang_class_c1 (k : Nat) (rec9 : ((Vector Int 4) → Int → Option (Vector Int 4))) (x8 : Int) (x12 : (Vector Int 4)) : Option (Vector Int 4) :=
  rec9 x12 (w64 (x8 + (1 : Int)))
def lang_class_l2 (k : Nat) (p0 : S30) (p1 : Int) : Nat → (Vector Int 4) → Int → Option (Vector Int 4)
  | 0, _, _ => none
  | j + 1, x7, x8 =>
    if x8 < (256 : Int) then if 0 ≤ x8 ∧ x8 < (256 : Int) then if (w64 (vget p0.f0 x8)) = p1 then (byteset_Of k [(w8 x8)]).bind fun t16 =>
    (byteset_Or k x7 t16).bind fun t17 =>
    lang_class_c1 k (lang_class_l2 k p0 p1 j) x8 t17
    else lang_class_c1 k (lang_class_l2 k p0 p1 j) x8 x7
    else none
    else lang_class_c0 k x7
def lang_class (k : Nat) (p0 : S30) (p1 : Int) : Option (Vector Int 4) :=
  lang_class_l2 k p0 p1 k (Vector.replicate 4 (0 : Int)) (0 : Int)
theorem lang_class_spec {k : Nat} {p0 : S30} {p1 : Int} {r : (Vector Int 4)} (h : lang_class k p0 p1 = some r) : Spec Try.prog 98 [(e30 p0), (eI64 p1)] (e41 r) := by
  rw [lang_class.eq_1] at h
  refine Spec.intro (res := [.cell 4 41]) Try.func98 rfl rfl rfl (Nat.le_of_ble_eq_true rfl) ?_
  refine AW.sr ?_
  refine AO.box rfl 2 rfl (by decide) rfl rfl rfl fun n3 => ?_
  refine AO.alloc rfl 4 rfl (by decide) rfl zr41 lay41 fun n4 => ?_
  refine AO.nH [1, 2, 4] (H' := [(n3, (.mem (e30 p0))), (n4, (.mem (.ar 1 ((Vector.replicate 4 (0 : Int)).toList.map eU64))))]) (Sub.cons 1 rfl (Sub.cons 0 rfl (Sub.nil _))) ?_
  refine AW.sr ?_
  refine AO.alloc rfl 5 rfl (by decide) rfl zr41 lay41 fun n5 => ?_
  refine AO.nH [1, 2, 4, 5] (H' := [(n3, (.mem (e30 p0))), (n4, (.mem (.ar 1 ((Vector.replicate 4 (0 : Int)).toList.map eU64)))), (n5, (.mem (.ar 1 ((Vector.replicate 4 (0 : Int)).toList.map eU64))))]) (Sub.cons 1 rfl (Sub.cons 1 rfl (Sub.cons 0 rfl (Sub.nil _)))) ?_
  refine AW.seq_mid (fun ρ H => ∃ (x6 : (Vector Int 4)), ρ = [(4, (.ptr n4 0)), (5, (.ptr n5 0))] ∧ H = [(n4, (.mem (.ar 1 ((Vector.replicate 4 (0 : Int)).toList.map eU64)))), (n5, (.mem (.ar 1 (x6.toList.map eU64))))] ∧ lang_class_c0 k x6 = some r) ?_ ?_
  ·refine AW.sr ?_
   refine AO.c (Calm.move rfl rfl) ?_
   refine AO.nK [1, 2, 4, 5, 7] ?_
   refine AW.block ?_
   refine AW.wK [1, 2, 4, 5, 7] ?_
   refine AW.loop (fun kq ρ H => ∃ (x7 : (Vector Int 4)) (x8 : Int), ρ = [(1, (eI64 p1)), (2, (.ptr n3 0)), (4, (.ptr n4 0)), (5, (.ptr n5 0)), (7, (eI64 x8))] ∧ H = [(n3, (.mem (e30 p0))), (n4, (.mem (.ar 1 ((Vector.replicate 4 (0 : Int)).toList.map eU64)))), (n5, (.mem (.ar 1 (x7.toList.map eU64))))] ∧ lang_class_l2 k p0 p1 kq x7 x8 = some r) k ⟨(Vector.replicate 4 (0 : Int)), (0 : Int), rfl, rfl, h⟩ ?_
   rintro kq10 _ _ ⟨x7, x8, rfl, rfl, h⟩
   cases kq10 with
   | zero => rw [lang_class_l2.eq_1] at h; cases h
   | succ kq10 =>
   rw [lang_class_l2.eq_2] at h
   generalize hrec9 : lang_class_l2 k p0 p1 kq10 = rec9 at h
   refine AW.sr ?_
   refine AO.c (x := eBool (decide (x8 < (256 : Int)))) (Calm.int rfl rfl rfl rfl) ?_
   refine AO.nK [1, 2, 4, 5, 7, 8] ?_
   refine AW.seq ?_
   rcases of_ite h with ⟨hc11, h⟩ | ⟨hc11, h⟩
   ·refine AW.condP _ rfl hc11 ?_
    refine AW.sK [1, 2, 4, 5, 7] ?_
    refine AW.seq_mid (fun ρ H => ∃ (x12 : (Vector Int 4)), ρ = [(1, (eI64 p1)), (2, (.ptr n3 0)), (4, (.ptr n4 0)), (5, (.ptr n5 0)), (7, (eI64 x8))] ∧ H = [(n3, (.mem (e30 p0))), (n4, (.mem (.ar 1 ((Vector.replicate 4 (0 : Int)).toList.map eU64)))), (n5, (.mem (.ar 1 (x12.toList.map eU64))))] ∧ lang_class_c1 k rec9 x8 x12 = some r) ?_ ?_
    ·refine AW.block ?_
     refine AW.sr ?_
     refine AO.c (Calm.move rfl rfl) ?_
     refine AO.c (Calm.assign rfl rfl) ?_
     refine AO.nK [1, 2, 4, 5, 6, 7] ?_
     refine AW.sr ?_
     refine AO.c (Calm.move rfl rfl) ?_
     refine AO.c (x := .ptr n3 0) (Calm.fldPtr rfl rfl Try.underlying30 rfl sz27 _ rfl) ?_
     obtain ⟨hg13, h⟩ := of_guard h
     refine AO.c (Calm.idxP rfl rfl rfl hg13 Try.underlying27 sz5) ?_
     refine AO.c (Calm.load 0 rfl rfl rfl (At.cast (At.fld0 (At.vidx x8 hg13.1 hg13.2 At.here)) (by omega)) ag5 sz5) ?_
     refine AO.c (x := eI64 (w64 (vget p0.f0 x8))) (Calm.conv rfl rfl Try.underlying5 Try.underlying3) ?_
     refine AO.c (Calm.move rfl rfl) ?_
     refine AO.c (x := eBool (decide ((w64 (vget p0.f0 x8)) = p1))) (Calm.int rfl rfl rfl rfl) ?_
     refine AO.nK [1, 2, 4, 5, 6, 7, 16] ?_
     rcases of_ite h with ⟨hc14, h⟩ | ⟨hc14, h⟩
     ·refine AW.condP _ rfl hc14 ?_
      obtain ⟨t16, et16, h⟩ := of_bind h
      obtain ⟨t17, et17, h⟩ := of_bind h
      refine AW.regAnyL rfl rfl (by rfl) (by decide +kernel) (by decide +kernel) [(.ar 1 (x7.toList.map eU64)), (eI64 x8), (eU8 (w8 x8)), (.fz 1 (([(w8 x8)] : List Int).map eU8)), (.ar 1 (t16.toList.map eU64)), (.ar 1 (t17.toList.map eU64))] [(1, (eI64 p1)), (2, (.ptr n3 0)), (4, (.ptr n4 0)), (5, (.ptr n5 0)), (6, (eI64 x8)), (7, (eI64 x8))] ⟨rfl, rfl, rfl, rfl, rfl, rfl, trivial⟩ rfl ?_ [(1, (eI64 p1)), (2, (.ptr n3 0)), (4, (.ptr n4 0)), (5, (.ptr n5 0)), (7, (eI64 x8)), (22, (.ar 1 (t17.toList.map eU64)))] ⟨rfl, rfl, rfl, rfl, rfl, rfl, trivial⟩ ?_
      ·refine ⟨?_, ?_, ?_, ?_, ?_, ?_, trivial⟩
       ·refine AO.wK [5] ?_
        refine AO.c (Calm.load 2 rfl rfl rfl (At.cast At.here rfl) ag41 (by rw [sz41]; simp [AV.size])) ?_
        exact AO.nE (d := 17) rfl ⟨⟨_, rfl, rfl⟩, Sub.refl _⟩
       ·refine AO.wK [6] ?_
        refine AO.c (Calm.move rfl rfl) ?_
        exact AO.nE (d := 18) rfl ⟨⟨_, rfl, rfl⟩, Sub.refl _⟩
       ·refine AO.wK [18] ?_
        refine AO.c (x := eU8 (w8 x8)) (Calm.conv rfl rfl Try.underlying3 Try.underlying5) ?_
        exact AO.nE (d := 19) rfl ⟨⟨_, rfl, rfl⟩, Sub.refl _⟩
       ·refine AO.wK [19] ?_
        refine AO.lit (Z := (eU8 (0 : Int))) (xs := (([(w8 x8)] : List Int).map eU8)) (qs := [(0, (eU8 (w8 x8)))]) rfl 20 rfl (by decide) rfl ⟨rfl, rfl, rfl, trivial⟩ Try.underlying77 sz5 zr5 lay5 rfl (by decide) (litOK (z := 1) [(eU8 (w8 x8))] rfl ⟨⟨rfl, rfl⟩, trivial⟩) rfl fun n15 => ?_
        refine AO.freezeS 0 [(20, (.fz 1 (([(w8 x8)] : List Int).map eU8)))] rfl ⟨fz_all rfl, trivial⟩ ?_
        exact AO.nE (d := 20) rfl ⟨⟨_, rfl, rfl⟩, Sub.refl _⟩
       ·refine AO.wK [20] ?_
        refine AO.callS [(.fz 1 (([(w8 x8)] : List Int).map eU8))] (.ar 1 (t16.toList.map eU64)) 21 rfl (by decide) ok105 rfl rfl rfl ⟨rfl, rfl, trivial⟩ (byteset_Of_spec et16) ?_
        exact AO.nE (d := 21) rfl ⟨⟨_, rfl, rfl⟩, Sub.refl _⟩
       ·refine AO.wK [17, 21] ?_
        refine AO.callS [(.ar 1 (x7.toList.map eU64)), (.ar 1 (t16.toList.map eU64))] (.ar 1 (t17.toList.map eU64)) 22 rfl (by decide) ok104 rfl rfl rfl ⟨rfl, rfl, rfl, rfl, trivial⟩ (byteset_Or_spec et17) ?_
        exact AO.nE (d := 22) rfl ⟨⟨_, rfl, rfl⟩, Sub.refl _⟩
      ·refine AO.store (X' := (.ar 1 (t17.toList.map eU64))) 2 rfl rfl rfl rfl rfl rfl (Put.cast Put.here rfl) rfl (by simp [AV.size]) (by rw [sz41]; simp [AV.size]) rfl ?_
       refine AO.nK [1, 2, 4, 5, 7] ?_
       exact ⟨t17, rfl, rfl, h⟩
     ·refine AW.condN _ rfl hc14 ?_
      refine AW.sK [1, 2, 4, 5, 7] ?_
      exact ⟨x7, rfl, rfl, h⟩
    ·rintro _ _ ⟨x12, rfl, rfl, h⟩
     rw [lang_class_c1.eq_1] at h
     refine AW.reg ?_
     refine AO.c (x := eI64 (w64 (x8 + (1 : Int)))) (Calm.int rfl rfl rfl rfl) ?_
     refine AO.c (Calm.move rfl rfl) ?_
     refine AO.nK [1, 2, 4, 5, 7] ?_
     exact ⟨kq10, Nat.lt_succ_self _, x12, (w64 (x8 + (1 : Int))), rfl, rfl, by rw [hrec9]; exact h⟩
   ·refine AW.condN _ rfl hc11 ?_
    refine AW.eH [4, 5] (H' := [(n4, (.mem (.ar 1 ((Vector.replicate 4 (0 : Int)).toList.map eU64)))), (n5, (.mem (.ar 1 (x7.toList.map eU64))))]) (Sub.cons 1 rfl (Sub.cons 1 rfl (Sub.nil _))) ?_
    exact ⟨x7, rfl, rfl, h⟩
  ·rintro _ _ ⟨x6, rfl, rfl, h⟩
   rw [lang_class_c0.eq_1] at h
   refine AW.sr ?_
   refine AO.c (Calm.load 1 rfl rfl rfl (At.cast At.here rfl) ag41 (by rw [sz41]; simp [AV.size])) ?_
   refine AO.store (X' := (.ar 1 (x6.toList.map eU64))) 0 rfl rfl rfl rfl rfl rfl (Put.cast Put.here rfl) rfl (by simp [AV.size]) (by rw [sz41]; simp [AV.size]) rfl ?_
   refine AO.nH [4] (H' := [(n4, (.mem (.ar 1 (x6.toList.map eU64))))]) (Sub.cons 0 rfl (Sub.nil _)) ?_
   refine AW.rK [4] ?_
   have hr := Option.some.inj h
   subst hr
   exact ⟨[(.ar 1 (x6.toList.map eU64))], ⟨⟨_, 0, rfl, rfl, ag41, (by rw [sz41]; simp [AV.size])⟩, trivial⟩, rfl⟩
end Go.Avl.T5
/- bosket/byteset.Has; printed by avmain.py. -/
namespace Go.Avl.T5
open Go Go.RowKit Go.Proofs Go.Avl
set_option linter.unusedVariables false
set_option maxRecDepth 100000
set_option maxHeartbeats 4000000
attribute [local irreducible] AW AO AQ Spec SpecH Calm

def byteset_Has (k : Nat) (p0 : (Vector Int 4)) (p1 : Int) : Option Bool :=
  if 0 ≤ (IntKind.u8.wrap (p1.tdiv (64 : Int))) ∧ (IntKind.u8.wrap (p1.tdiv (64 : Int))) < (4 : Int) then if 0 ≤ (p1.tmod (64 : Int)) then some (decide ((bits .and .u64 (Int.fdiv (vget p0 (IntKind.u8.wrap (p1.tdiv (64 : Int)))) (2 ^ (min (p1.tmod (64 : Int)).toNat IntKind.u64.bits))) (1 : Int)) = (1 : Int)))
  else none
  else none
theorem byteset_Has_spec {k : Nat} {p0 : (Vector Int 4)} {p1 : Int} {r : Bool} (h : byteset_Has k p0 p1 = some r) : Spec Try.prog 82 [(.ar 1 (p0.toList.map eU64)), (eU8 p1)] (eBool r) := by
  rw [byteset_Has.eq_1] at h
  refine Spec.intro (res := [.tmp 4]) Try.func82 rfl rfl rfl (Nat.le_of_ble_eq_true rfl) ?_
  refine AW.sr ?_
  refine AO.box rfl 2 rfl (by decide) rfl rfl rfl fun n3 => ?_
  refine AO.c (Calm.assign rfl rfl) ?_
  refine AO.nK [1, 2] ?_
  refine AW.sr ?_
  refine AO.c (Calm.move rfl rfl) ?_
  refine AO.c (x := eU8 (IntKind.u8.wrap (p1.tdiv (64 : Int)))) (Calm.quo rfl rfl rfl (by decide)) ?_
  obtain ⟨hg4, h⟩ := of_guard h
  refine AO.c (Calm.idxP rfl rfl rfl hg4 Try.underlying41 sz39) ?_
  refine AO.c (Calm.load 0 rfl rfl rfl (At.cast (At.vidx (IntKind.u8.wrap (p1.tdiv (64 : Int))) hg4.1 hg4.2 At.here) (by omega)) ag39 sz39) ?_
  refine AO.c (Calm.move rfl rfl) ?_
  refine AO.c (x := eU8 (p1.tmod (64 : Int))) (Calm.rem rfl rfl rfl (by decide)) ?_
  obtain ⟨hg5, h⟩ := of_guard h
  refine AO.c (x := eU64 (Int.fdiv (vget p0 (IntKind.u8.wrap (p1.tdiv (64 : Int)))) (2 ^ (min (p1.tmod (64 : Int)).toNat IntKind.u64.bits)))) (Calm.shr rfl rfl rfl hg5) ?_
  refine AO.c (x := eU64 (bits .and .u64 (Int.fdiv (vget p0 (IntKind.u8.wrap (p1.tdiv (64 : Int)))) (2 ^ (min (p1.tmod (64 : Int)).toNat IntKind.u64.bits))) (1 : Int))) (Calm.int rfl rfl rfl rfl) ?_
  refine AO.c (x := eBool (decide ((bits .and .u64 (Int.fdiv (vget p0 (IntKind.u8.wrap (p1.tdiv (64 : Int)))) (2 ^ (min (p1.tmod (64 : Int)).toNat IntKind.u64.bits))) (1 : Int)) = (1 : Int)))) (Calm.int rfl rfl rfl rfl) ?_
  refine AO.c (Calm.assign rfl rfl) ?_
  refine AO.nH [4] (H' := []) (Sub.nil _) ?_
  refine AW.rK [4] ?_
  have hr := Option.some.inj h
  subst hr
  exact ⟨[(eBool (decide ((bits .and .u64 (Int.fdiv (vget p0 (IntKind.u8.wrap (p1.tdiv (64 : Int)))) (2 ^ (min (p1.tmod (64 : Int)).toNat IntKind.u64.bits))) (1 : Int)) = (1 : Int))))], ⟨rfl, rfl, trivial⟩, rfl⟩
end Go.Avl.T5
/- bosket/byteset.key; printed by avmain.py. -/
namespace Go.Avl.T5
open Go Go.RowKit Go.Proofs Go.Avl
set_option linter.unusedVariables false
set_option maxRecDepth 100000
set_option maxHeartbeats 4000000
attribute [local irreducible] AW AO AQ Spec SpecH Calm

def byteset_key_c0 (k : Nat) (x5 : (List Int)) : Option ByteArray :=
  some ((strOfNums x5))
def byteset_key_c1 (k : Nat) (rec8 : ((List Int) → Int → Option ByteArray)) (x7 : Int) (x11 : (List Int)) : Option ByteArray :=
  rec8 x11 (w64 (x7 + (1 : Int)))
def byteset_key_l2 (k : Nat) (p0 : (List (Vector Int 4))) (p1 : Int) : Nat → (List Int) → Int → Option ByteArray
  | 0, _, _ => none
  | j + 1, x6, x7 =>
    if x7 < (p0.length : Int) then if 0 ≤ x7 ∧ x7 < (p0.length : Int) then (byteset_Has k (lget p0 x7) p1).bind fun t14 =>
    if t14 = true then if 0 ≤ (IntKind.i64.wrap (x7.tdiv (8 : Int))) ∧ (IntKind.i64.wrap (x7.tdiv (8 : Int))) < (x6.length : Int) then if 0 ≤ (u64 (x7.tmod (8 : Int))) then if 0 ≤ (IntKind.i64.wrap (x7.tdiv (8 : Int))) ∧ (IntKind.i64.wrap (x7.tdiv (8 : Int))) < (x6.length : Int) then byteset_key_c1 k (byteset_key_l2 k p0 p1 j) x7 (lset x6 (IntKind.i64.wrap (x7.tdiv (8 : Int))) (bits .or .u8 (lget x6 (IntKind.i64.wrap (x7.tdiv (8 : Int)))) (IntKind.u8.wrap ((1 : Int) * 2 ^ (min (u64 (x7.tmod (8 : Int))).toNat IntKind.u8.bits)))))
    else none
    else none
    else none
    else byteset_key_c1 k (byteset_key_l2 k p0 p1 j) x7 x6
    else none
    else byteset_key_c0 k x6
def byteset_key (k : Nat) (p0 : (List (Vector Int 4))) (p1 : Int) : Option ByteArray :=
  if 0 ≤ (IntKind.i64.wrap ((w64 ((p0.length : Int) + (7 : Int))).tdiv (8 : Int))) ∧ (IntKind.i64.wrap ((w64 ((p0.length : Int) + (7 : Int))).tdiv (8 : Int))) * (1 : Int) ≤ 140737488355328 ∧ (IntKind.i64.wrap ((w64 ((p0.length : Int) + (7 : Int))).tdiv (8 : Int))) ≤ 9223372036854775807 then byteset_key_l2 k p0 p1 k (List.replicate (IntKind.i64.wrap ((w64 ((p0.length : Int) + (7 : Int))).tdiv (8 : Int))).toNat (0 : Int)) (0 : Int)
  else none
theorem byteset_key_spec {k : Nat} {p0 : (List (Vector Int 4))} {p1 : Int} {r : ByteArray} (h : byteset_key k p0 p1 = some r) : Spec Try.prog 79 [(.fz 4 (p0.map e41)), (eU8 p1)] (eStr r) := by
  rw [byteset_key.eq_1] at h
  refine Spec.intro (res := [.tmp 4]) Try.func79 rfl rfl rfl (Nat.le_of_ble_eq_true rfl) ?_
  refine AW.sr ?_
  refine AO.c (Calm.assign rfl rfl) ?_
  refine AO.nK [0, 1] ?_
  refine AW.sr ?_
  refine AO.c (Calm.move rfl rfl) ?_
  refine AO.c (Calm.lenL rfl rfl Try.underlying38) ?_
  refine AO.c (x := eI64 (w64 ((p0.length : Int) + (7 : Int)))) (Calm.int rfl rfl rfl rfl) ?_
  refine AO.c (x := eI64 (IntKind.i64.wrap ((w64 ((p0.length : Int) + (7 : Int))).tdiv (8 : Int)))) (Calm.quo rfl rfl rfl (by decide)) ?_
  obtain ⟨hg4, h⟩ := of_guard h
  refine AO.makeL (f := eU8) (0 : Int) rfl 12 rfl (by decide) rfl rfl rfl Try.underlying77 sz5 by5 zr5 lay5 rfl hg4 fun n3 => ?_
  refine AO.c (Calm.assign rfl rfl) ?_
  refine AO.nK [0, 1, 5] ?_
  refine AW.seq_mid (fun ρ H => ∃ (x5 : (List Int)), ρ = [(5, (.own n3 0 x5.length))] ∧ H = [(n3, (.mem (.ar 1 (x5.map eU8))))] ∧ byteset_key_c0 k x5 = some r) ?_ ?_
  ·refine AW.sr ?_
   refine AO.c (Calm.move rfl rfl) ?_
   refine AO.c (Calm.lenL rfl rfl Try.underlying38) ?_
   refine AO.c (Calm.move rfl rfl) ?_
   refine AO.nK [1, 5, 13, 14, 15] ?_
   refine AW.block ?_
   refine AW.wK [1, 5, 13, 14, 15] ?_
   refine AW.loop (fun kq ρ H => ∃ (x6 : (List Int)) (x7 : Int), ρ = [(1, (eU8 p1)), (5, (.own n3 0 x6.length)), (13, (.fz 4 (p0.map e41))), (14, (eI64 (p0.length : Int))), (15, (eI64 x7))] ∧ H = [(n3, (.mem (.ar 1 (x6.map eU8))))] ∧ byteset_key_l2 k p0 p1 kq x6 x7 = some r) k ⟨(List.replicate (IntKind.i64.wrap ((w64 ((p0.length : Int) + (7 : Int))).tdiv (8 : Int))).toNat (0 : Int)), (0 : Int), rfl, rfl, h⟩ ?_
   rintro kq9 _ _ ⟨x6, x7, rfl, rfl, h⟩
   cases kq9 with
   | zero => rw [byteset_key_l2.eq_1] at h; cases h
   | succ kq9 =>
   rw [byteset_key_l2.eq_2] at h
   generalize hrec8 : byteset_key_l2 k p0 p1 kq9 = rec8 at h
   refine AW.sr ?_
   refine AO.c (x := eBool (decide (x7 < (p0.length : Int)))) (Calm.int rfl rfl rfl rfl) ?_
   refine AO.nK [1, 5, 13, 14, 15, 16] ?_
   refine AW.seq ?_
   rcases of_ite h with ⟨hc10, h⟩ | ⟨hc10, h⟩
   ·refine AW.condP _ rfl hc10 ?_
    refine AW.sK [1, 5, 13, 14, 15] ?_
    refine AW.seq_mid (fun ρ H => ∃ (x11 : (List Int)), ρ = [(1, (eU8 p1)), (5, (.own n3 0 x11.length)), (13, (.fz 4 (p0.map e41))), (14, (eI64 (p0.length : Int))), (15, (eI64 x7))] ∧ H = [(n3, (.mem (.ar 1 (x11.map eU8))))] ∧ byteset_key_c1 k rec8 x7 x11 = some r) ?_ ?_
    ·refine AW.block ?_
     refine AW.sr ?_
     refine AO.c (Calm.move rfl rfl) ?_
     obtain ⟨hg12, h⟩ := of_guard h
     refine AO.c (Calm.idxL (f := e41) rfl rfl rfl hg12 Try.underlying38 sz41) ?_
     refine AO.c (Calm.loadRp rfl rfl ag41 (by rw [sz41]; simp [AV.size])) ?_
     refine AO.alloc rfl 7 rfl (by decide) rfl zr41 lay41 fun n13 => ?_
     refine AO.c (Calm.assign rfl rfl) ?_
     refine AO.store (X' := (.ar 1 ((lget p0 x7).toList.map eU64))) 0 rfl rfl rfl rfl rfl rfl (Put.cast Put.here rfl) rfl (by simp [AV.size]) (by rw [sz41]; simp [AV.size]) rfl ?_
     refine AO.nH [1, 5, 6, 7, 13, 14, 15] (H' := [(n3, (.mem (.ar 1 (x6.map eU8)))), (n13, (.mem (.ar 1 ((lget p0 x7).toList.map eU64))))]) (Sub.cons 1 rfl (Sub.cons 0 rfl (Sub.nil _))) ?_
     refine AW.sr ?_
     refine AO.c (Calm.load 1 rfl rfl rfl (At.cast At.here rfl) ag41 (by rw [sz41]; simp [AV.size])) ?_
     refine AO.c (Calm.move rfl rfl) ?_
     obtain ⟨t14, et14, h⟩ := of_bind h
     refine AO.callS [(.ar 1 ((lget p0 x7).toList.map eU64)), (eU8 p1)] (eBool t14) 22 rfl (by decide) ok82 rfl rfl rfl ⟨rfl, rfl, rfl, rfl, trivial⟩ (byteset_Has_spec et14) ?_
     refine AO.nH [1, 5, 6, 13, 14, 15, 22] (H' := [(n3, (.mem (.ar 1 (x6.map eU8))))]) (Sub.cons 0 rfl (Sub.nil _)) ?_
     rcases of_ite h with ⟨hc15, h⟩ | ⟨hc15, h⟩
     ·refine AW.condT' _ rfl hc15 ?_
      refine AW.reg ?_
      refine AO.c (Calm.move rfl rfl) ?_
      refine AO.c (Calm.move rfl rfl) ?_
      refine AO.c (x := eI64 (IntKind.i64.wrap (x7.tdiv (8 : Int)))) (Calm.quo rfl rfl rfl (by decide)) ?_
      obtain ⟨hg16, h⟩ := of_guard h
      refine AO.c (Calm.idxO 0 rfl rfl rfl rfl hg16 Try.underlying77 sz5) ?_
      refine AO.c (Calm.load 0 rfl rfl rfl (At.cast (At.lidx (IntKind.i64.wrap (x7.tdiv (8 : Int))) hg16.1 hg16.2 At.here) (by omega)) ag5 sz5) ?_
      refine AO.c (Calm.move rfl rfl) ?_
      refine AO.c (x := eI64 (x7.tmod (8 : Int))) (Calm.rem rfl rfl rfl (by decide)) ?_
      refine AO.c (x := eU64 (u64 (x7.tmod (8 : Int)))) (Calm.conv rfl rfl Try.underlying3 Try.underlying132) ?_
      obtain ⟨hg17, h⟩ := of_guard h
      refine AO.c (x := eU8 (IntKind.u8.wrap ((1 : Int) * 2 ^ (min (u64 (x7.tmod (8 : Int))).toNat IntKind.u8.bits)))) (Calm.shl rfl rfl rfl hg17) ?_
      refine AO.c (x := eU8 (bits .or .u8 (lget x6 (IntKind.i64.wrap (x7.tdiv (8 : Int)))) (IntKind.u8.wrap ((1 : Int) * 2 ^ (min (u64 (x7.tmod (8 : Int))).toNat IntKind.u8.bits))))) (Calm.int rfl rfl rfl rfl) ?_
      obtain ⟨hg18, h⟩ := of_guard h
      refine AO.c (Calm.idxO 0 rfl rfl rfl rfl hg18 Try.underlying77 sz5) ?_
      refine AO.store (X' := (.ar 1 ((lset x6 (IntKind.i64.wrap (x7.tdiv (8 : Int))) (bits .or .u8 (lget x6 (IntKind.i64.wrap (x7.tdiv (8 : Int)))) (IntKind.u8.wrap ((1 : Int) * 2 ^ (min (u64 (x7.tmod (8 : Int))).toNat IntKind.u8.bits))))).map eU8))) 0 rfl rfl rfl rfl rfl rfl (Put.cast (Put.lidx (IntKind.i64.wrap (x7.tdiv (8 : Int))) (bits .or .u8 (lget x6 (IntKind.i64.wrap (x7.tdiv (8 : Int)))) (IntKind.u8.wrap ((1 : Int) * 2 ^ (min (u64 (x7.tmod (8 : Int))).toNat IntKind.u8.bits)))) hg18.1 hg18.2 Put.here) (by omega)) rfl rfl sz5 rfl ?_
      refine AO.coe 5 (y' := (.own n3 0 (lset x6 (IntKind.i64.wrap (x7.tdiv (8 : Int))) (bits .or .u8 (lget x6 (IntKind.i64.wrap (x7.tdiv (8 : Int)))) (IntKind.u8.wrap ((1 : Int) * 2 ^ (min (u64 (x7.tmod (8 : Int))).toNat IntKind.u8.bits))))).length)) rfl (fun _ _ h => lset_own h) ?_
      refine AO.coe 23 (y' := (.own n3 0 (lset x6 (IntKind.i64.wrap (x7.tdiv (8 : Int))) (bits .or .u8 (lget x6 (IntKind.i64.wrap (x7.tdiv (8 : Int)))) (IntKind.u8.wrap ((1 : Int) * 2 ^ (min (u64 (x7.tmod (8 : Int))).toNat IntKind.u8.bits))))).length)) rfl (fun _ _ h => lset_own h) ?_
      refine AO.nK [1, 5, 13, 14, 15] ?_
      exact ⟨(lset x6 (IntKind.i64.wrap (x7.tdiv (8 : Int))) (bits .or .u8 (lget x6 (IntKind.i64.wrap (x7.tdiv (8 : Int)))) (IntKind.u8.wrap ((1 : Int) * 2 ^ (min (u64 (x7.tmod (8 : Int))).toNat IntKind.u8.bits))))), rfl, rfl, h⟩
     ·refine AW.condF' _ rfl hc15 ?_
      refine AW.sK [1, 5, 13, 14, 15] ?_
      exact ⟨x6, rfl, rfl, h⟩
    ·rintro _ _ ⟨x11, rfl, rfl, h⟩
     rw [byteset_key_c1.eq_1] at h
     refine AW.reg ?_
     refine AO.c (x := eI64 (w64 (x7 + (1 : Int)))) (Calm.int rfl rfl rfl rfl) ?_
     refine AO.c (Calm.move rfl rfl) ?_
     refine AO.nK [1, 5, 13, 14, 15] ?_
     exact ⟨kq9, Nat.lt_succ_self _, x11, (w64 (x7 + (1 : Int))), rfl, rfl, by rw [hrec8]; exact h⟩
   ·refine AW.condN _ rfl hc10 ?_
    refine AW.eK [5] ?_
    exact ⟨x6, rfl, rfl, h⟩
  ·rintro _ _ ⟨x5, rfl, rfl, h⟩
   rw [byteset_key_c0.eq_1] at h
   refine AW.sr ?_
   refine AO.c (Calm.move rfl rfl) ?_
   refine AO.c (x := eStr (strOfNums x5)) (Calm.strO 0 rfl rfl rfl Try.underlying77 Try.underlying9 Try.underlying5) ?_
   refine AO.c (Calm.assign rfl rfl) ?_
   refine AO.nH [4] (H' := []) (Sub.nil _) ?_
   refine AW.rK [4] ?_
   have hr := Option.some.inj h
   subst hr
   exact ⟨[(eStr (strOfNums x5))], ⟨rfl, rfl, trivial⟩, rfl⟩
end Go.Avl.T5
/- bosket/byteset.Classes; printed by avmain.py. -/
namespace Go.Avl.T5
open Go Go.RowKit Go.Proofs Go.Avl
set_option linter.unusedVariables false
set_option maxRecDepth 100000
set_option maxHeartbeats 4000000
attribute [local irreducible] AW AO AQ Spec SpecH Calm

def byteset_Classes_c0 (k : Nat) (x5 : (Vector Int 256)) : Option (Vector Int 256) :=
  some (x5)
def byteset_Classes_c1 (k : Nat) (rec9 : ((Vector Int 256) → (List (ByteArray × Int)) → Int → Option (Vector Int 256))) (x6 : (Vector Int 256)) (x8 : Int) (x13 : (List (ByteArray × Int))) (x14 : Int) : Option (Vector Int 256) :=
  if 0 ≤ x8 ∧ x8 < (256 : Int) then rec9 (vset x6 x8 (w8 x14)) x13 (w64 (x8 + (1 : Int)))
  else none
def byteset_Classes_l2 (k : Nat) (p0 : (List (Vector Int 4))) : Nat → (Vector Int 256) → (List (ByteArray × Int)) → Int → Option (Vector Int 256)
  | 0, _, _, _ => none
  | j + 1, x6, x7, x8 =>
    if x8 < (256 : Int) then (byteset_key k p0 (w8 x8)).bind fun t12 =>
    if (!((mget x7 t12).isSome)) = true then byteset_Classes_c1 k (byteset_Classes_l2 k p0 j) x6 x8 (mput x7 t12 (x7.length : Int)) (x7.length : Int)
    else byteset_Classes_c1 k (byteset_Classes_l2 k p0 j) x6 x8 x7 ((mget x7 t12).getD (0 : Int))
    else byteset_Classes_c0 k x6
def byteset_Classes (k : Nat) (p0 : (List (Vector Int 4))) : Option (Vector Int 256) :=
  byteset_Classes_l2 k p0 k (Vector.replicate 256 (0 : Int)) ([] : List (ByteArray × Int)) (0 : Int)
theorem byteset_Classes_spec {k : Nat} {p0 : (List (Vector Int 4))} {r : (Vector Int 256)} (h : byteset_Classes k p0 = some r) : Spec Try.prog 48 [(.fz 4 (p0.map e41))] (e27 r) := by
  rw [byteset_Classes.eq_1] at h
  refine Spec.intro (res := [.cell 2 27]) Try.func48 rfl rfl rfl (Nat.le_of_ble_eq_true rfl) ?_
  refine AW.sr ?_
  refine AO.alloc rfl 2 rfl (by decide) rfl zr27 lay27 fun n2 => ?_
  refine AO.nK [0, 2] ?_
  refine AW.sr ?_
  refine AO.alloc rfl 3 rfl (by decide) rfl zr27 lay27 fun n3 => ?_
  refine AO.nH [0, 2, 3] (H' := [(n2, (.mem (.ar 1 ((Vector.replicate 256 (0 : Int)).toList.map eU8)))), (n3, (.mem (.ar 1 ((Vector.replicate 256 (0 : Int)).toList.map eU8))))]) (Sub.cons 1 rfl (Sub.cons 0 rfl (Sub.nil _))) ?_
  refine AW.sr ?_
  refine AO.makeMap rfl 9 rfl (by decide) rfl fun n4 => ?_
  refine AO.c (Calm.assign rfl rfl) ?_
  refine AO.nH [0, 2, 3, 4] (H' := [(n2, (.mem (.ar 1 ((Vector.replicate 256 (0 : Int)).toList.map eU8)))), (n3, (.mem (.ar 1 ((Vector.replicate 256 (0 : Int)).toList.map eU8)))), (n4, (.map (encM Value.string eI64 ([] : List (ByteArray × Int)))))]) (Sub.cons 1 rfl (Sub.cons 1 rfl (Sub.cons 0 rfl (Sub.nil _)))) ?_
  refine AW.seq_mid (fun ρ H => ∃ (x5 : (Vector Int 256)), ρ = [(2, (.ptr n2 0)), (3, (.ptr n3 0))] ∧ H = [(n2, (.mem (.ar 1 ((Vector.replicate 256 (0 : Int)).toList.map eU8)))), (n3, (.mem (.ar 1 (x5.toList.map eU8))))] ∧ byteset_Classes_c0 k x5 = some r) ?_ ?_
  ·refine AW.sr ?_
   refine AO.c (Calm.move rfl rfl) ?_
   refine AO.nK [0, 2, 3, 4, 10] ?_
   refine AW.block ?_
   refine AW.wK [0, 2, 3, 4, 10] ?_
   refine AW.loop (fun kq ρ H => ∃ (x6 : (Vector Int 256)) (x7 : (List (ByteArray × Int))) (x8 : Int), ρ = [(0, (.fz 4 (p0.map e41))), (2, (.ptr n2 0)), (3, (.ptr n3 0)), (4, (.mp n4)), (10, (eI64 x8))] ∧ H = [(n2, (.mem (.ar 1 ((Vector.replicate 256 (0 : Int)).toList.map eU8)))), (n3, (.mem (.ar 1 (x6.toList.map eU8)))), (n4, (.map (encM Value.string eI64 x7)))] ∧ byteset_Classes_l2 k p0 kq x6 x7 x8 = some r) k ⟨(Vector.replicate 256 (0 : Int)), ([] : List (ByteArray × Int)), (0 : Int), rfl, rfl, h⟩ ?_
   rintro kq10 _ _ ⟨x6, x7, x8, rfl, rfl, h⟩
   cases kq10 with
   | zero => rw [byteset_Classes_l2.eq_1] at h; cases h
   | succ kq10 =>
   rw [byteset_Classes_l2.eq_2] at h
   generalize hrec9 : byteset_Classes_l2 k p0 kq10 = rec9 at h
   refine AW.sr ?_
   refine AO.c (x := eBool (decide (x8 < (256 : Int)))) (Calm.int rfl rfl rfl rfl) ?_
   refine AO.nK [0, 2, 3, 4, 10, 11] ?_
   refine AW.seq ?_
   rcases of_ite h with ⟨hc11, h⟩ | ⟨hc11, h⟩
   ·refine AW.condP _ rfl hc11 ?_
    refine AW.sK [0, 2, 3, 4, 10] ?_
    refine AW.seq ?_
    refine AW.block ?_
    refine AW.sr ?_
    refine AO.c (Calm.move rfl rfl) ?_
    refine AO.c (Calm.assign rfl rfl) ?_
    refine AO.nK [0, 2, 3, 4, 5, 10] ?_
    refine AW.sr ?_
    refine AO.c (Calm.move rfl rfl) ?_
    refine AO.c (Calm.move rfl rfl) ?_
    refine AO.c (x := eU8 (w8 x8)) (Calm.conv rfl rfl Try.underlying3 Try.underlying5) ?_
    obtain ⟨t12, et12, h⟩ := of_bind h
    refine AO.callS [(.fz 4 (p0.map e41)), (eU8 (w8 x8))] (eStr t12) 16 rfl (by decide) ok79 rfl rfl rfl ⟨rfl, rfl, rfl, rfl, trivial⟩ (byteset_key_spec et12) ?_
    refine AO.c (Calm.assign rfl rfl) ?_
    refine AO.nK [0, 2, 3, 4, 5, 6, 10] ?_
    refine AW.sr ?_
    refine AO.c (Calm.move rfl rfl) ?_
    refine AO.c (Calm.move rfl rfl) ?_
    refine AO.c (x := .tup [(eI64 ((mget x7 t12).getD (0 : Int))), (eBool ((mget x7 t12).isSome))]) (Calm.look2 (f := eI64) string_inj string_key (0 : Int) 2 rfl rfl rfl rfl Try.underlying76 Try.underlying9 mz3) ?_
    refine AO.c (Calm.move rfl rfl) ?_
    refine AO.c (Calm.extract rfl rfl rfl) ?_
    refine AO.c (Calm.extract rfl rfl rfl) ?_
    refine AO.c (Calm.assign rfl rfl) ?_
    refine AO.c (Calm.assign rfl rfl) ?_
    refine AO.nK [0, 2, 3, 4, 5, 6, 7, 8, 10] ?_
    refine AW.seq_mid (fun ρ H => ∃ (x13 : (List (ByteArray × Int))) (x14 : Int), ρ = [(0, (.fz 4 (p0.map e41))), (2, (.ptr n2 0)), (3, (.ptr n3 0)), (4, (.mp n4)), (5, (eI64 x8)), (7, (eI64 x14)), (10, (eI64 x8))] ∧ H = [(n2, (.mem (.ar 1 ((Vector.replicate 256 (0 : Int)).toList.map eU8)))), (n3, (.mem (.ar 1 (x6.toList.map eU8)))), (n4, (.map (encM Value.string eI64 x13)))] ∧ byteset_Classes_c1 k rec9 x6 x8 x13 x14 = some r) ?_ ?_
    ·refine AW.sr ?_
     refine AO.c (Calm.move rfl rfl) ?_
     refine AO.c (Calm.not rfl rfl) ?_
     refine AO.nK [0, 2, 3, 4, 5, 6, 7, 10, 24] ?_
     rcases of_ite h with ⟨hc16, h⟩ | ⟨hc16, h⟩
     ·refine AW.condT' _ rfl hc16 ?_
      refine AW.sr ?_
      refine AO.c (Calm.move rfl rfl) ?_
      refine AO.c (x := eI64 (x7.length : Int)) (Calm.lenMap 2 rfl rfl rfl Try.underlying76) ?_
      refine AO.c (Calm.assign rfl rfl) ?_
      refine AO.nK [0, 2, 3, 4, 5, 6, 7, 10] ?_
      refine AW.reg ?_
      refine AO.c (Calm.move rfl rfl) ?_
      refine AO.c (Calm.move rfl rfl) ?_
      refine AO.c (Calm.move rfl rfl) ?_
      refine AO.mapPut (f := eI64) string_inj string_key 2 rfl rfl rfl rfl rfl rfl rfl rfl Try.underlying76 Try.underlying9 ?_
      refine AO.nK [0, 2, 3, 4, 5, 7, 10] ?_
      exact ⟨(mput x7 t12 (x7.length : Int)), (x7.length : Int), rfl, rfl, h⟩
     ·refine AW.condF' _ rfl hc16 ?_
      refine AW.sK [0, 2, 3, 4, 5, 7, 10] ?_
      exact ⟨x7, ((mget x7 t12).getD (0 : Int)), rfl, rfl, h⟩
    ·rintro _ _ ⟨x13, x14, rfl, rfl, h⟩
     rw [byteset_Classes_c1.eq_1] at h
     refine AW.reg ?_
     refine AO.c (Calm.move rfl rfl) ?_
     refine AO.c (Calm.move rfl rfl) ?_
     refine AO.c (x := eU8 (w8 x14)) (Calm.conv rfl rfl Try.underlying3 Try.underlying5) ?_
     obtain ⟨hg15, h⟩ := of_guard h
     refine AO.c (Calm.idxP rfl rfl rfl hg15 Try.underlying27 sz5) ?_
     refine AO.store (X' := (.ar 1 ((vset x6 x8 (w8 x14)).toList.map eU8))) 1 rfl rfl rfl rfl rfl rfl (Put.cast (Put.vidx x8 (w8 x14) hg15.1 hg15.2 Put.here) (by omega)) rfl rfl sz5 rfl ?_
     refine AO.nK [0, 2, 3, 4, 10] ?_
     refine AW.reg ?_
     refine AO.c (x := eI64 (w64 (x8 + (1 : Int)))) (Calm.int rfl rfl rfl rfl) ?_
     refine AO.c (Calm.move rfl rfl) ?_
     refine AO.nK [0, 2, 3, 4, 10] ?_
     exact ⟨kq10, Nat.lt_succ_self _, (vset x6 x8 (w8 x14)), x13, (w64 (x8 + (1 : Int))), rfl, rfl, by rw [hrec9]; exact h⟩
   ·refine AW.condN _ rfl hc11 ?_
    refine AW.eH [2, 3] (H' := [(n2, (.mem (.ar 1 ((Vector.replicate 256 (0 : Int)).toList.map eU8)))), (n3, (.mem (.ar 1 (x6.toList.map eU8))))]) (Sub.cons 0 rfl (Sub.cons 0 rfl (Sub.nil _))) ?_
    exact ⟨x6, rfl, rfl, h⟩
  ·rintro _ _ ⟨x5, rfl, rfl, h⟩
   rw [byteset_Classes_c0.eq_1] at h
   refine AW.sr ?_
   refine AO.c (Calm.load 1 rfl rfl rfl (At.cast At.here rfl) ag27 (by rw [sz27]; simp [AV.size])) ?_
   refine AO.store (X' := (.ar 1 (x5.toList.map eU8))) 0 rfl rfl rfl rfl rfl rfl (Put.cast Put.here rfl) rfl (by simp [AV.size]) (by rw [sz27]; simp [AV.size]) rfl ?_
   refine AO.nH [2] (H' := [(n2, (.mem (.ar 1 (x5.toList.map eU8))))]) (Sub.cons 0 rfl (Sub.nil _)) ?_
   refine AW.rK [2] ?_
   have hr := Option.some.inj h
   subst hr
   exact ⟨[(.ar 1 (x5.toList.map eU8))], ⟨⟨_, 0, rfl, rfl, ag27, (by rw [sz27]; simp [AV.size])⟩, trivial⟩, rfl⟩
end Go.Avl.T5
/- bosket/lang.both; printed by avmain.py. -/
namespace Go.Avl.T5
open Go Go.RowKit Go.Proofs Go.Avl
set_option linter.unusedVariables false
set_option maxRecDepth 100000
set_option maxHeartbeats 4000000
attribute [local irreducible] AW AO AQ Spec SpecH Calm

def lang_both_c0 (k : Nat) (b4 : Bool) : Option Int :=
  if b4 = true then some ((0 : Int))
  else some ((-1 : Int))
def lang_both (k : Nat) (p0 : Int) (p1 : Bool) (p2 : Bool) : Option Int :=
  if p0 = (0 : Int) then Option.bind (α := Bool) (if p1 = true then some (p2)
  else some (false)) fun b7 =>
  lang_both_c0 k b7
  else if p0 = (1 : Int) then Option.bind (α := Bool) (if p1 = true then some (true)
  else some (p2)) fun b11 =>
  lang_both_c0 k b11
  else if p0 = (2 : Int) then Option.bind (α := Bool) (if p1 = true then some (!p2)
  else some (false)) fun b15 =>
  lang_both_c0 k b15
  else if p0 = (3 : Int) then lang_both_c0 k (p1 != p2)
  else lang_both_c0 k false
theorem lang_both_spec {k : Nat} {p0 : Int} {p1 : Bool} {p2 : Bool} {r : Int} (h : lang_both k p0 p1 p2 = some r) : Spec Try.prog 99 [(eI64 p0), (eBool p1), (eBool p2)] (eI64 r) := by
  rw [lang_both.eq_1] at h
  refine Spec.intro (res := [.tmp 6]) Try.func99 rfl rfl rfl (Nat.le_of_ble_eq_true rfl) ?_
  refine AW.sr ?_
  refine AO.c (Calm.assign rfl rfl) ?_
  refine AO.nK [0, 1, 2] ?_
  refine AW.sr ?_
  refine AO.c (Calm.assign rfl rfl) ?_
  refine AO.nK [0, 1, 2, 7] ?_
  refine AW.seq_mid (fun ρ H => ∃ (b4 : Bool), ρ = [(7, (eBool b4))] ∧ H = [] ∧ lang_both_c0 k b4 = some r) ?_ ?_
  ·refine AW.sr ?_
   refine AO.c (Calm.move rfl rfl) ?_
   refine AO.nK [1, 2, 7, 8] ?_
   refine AW.block ?_
   refine AW.sr ?_
   refine AO.c (x := eBool (decide (p0 = (0 : Int)))) (Calm.int rfl rfl rfl rfl) ?_
   refine AO.c (Calm.assign rfl rfl) ?_
   refine AO.nK [1, 2, 7, 8, 9] ?_
   rcases of_ite h with ⟨hc6, h⟩ | ⟨hc6, h⟩
   ·refine AW.condP _ rfl hc6 ?_
    obtain ⟨b7, hq8, h⟩ := of_bind h
    refine AW.regM [(7, (eBool b7))] [] ?_ ?_
    ·refine AO.c (Calm.move rfl rfl) ?_
     refine AO.c (Calm.move rfl rfl) ?_
     rcases of_ite hq8 with ⟨hc9, hq8⟩ | ⟨hc9, hq8⟩
     ·refine AO.cG rfl rfl (bD hc9) (Calm.move rfl rfl) ?_
      refine AO.c (Calm.pickT rfl (bD hc9) rfl) ?_
      refine AO.c (Calm.assign rfl rfl) ?_
      cases hq8
      refine AO.nilE ⟨rfl, rfl⟩ ?_ ?_
      · exact ⟨rfl, trivial⟩
      · exact (Sub.refl _)
     ·refine AO.sT rfl rfl (bD (eq_false_of_ne_true hc9)) ?_
      refine AO.c (Calm.pickF rfl (bD (eq_false_of_ne_true hc9)) rfl) ?_
      refine AO.c (Calm.assign rfl rfl) ?_
      cases hq8
      refine AO.nilE ⟨rfl, rfl⟩ ?_ ?_
      · exact ⟨rfl, trivial⟩
      · exact (Sub.refl _)
    ·exact ⟨b7, rfl, rfl, h⟩
   ·refine AW.condN _ rfl hc6 ?_
    refine AW.sr ?_
    refine AO.c (x := eBool (decide (p0 = (1 : Int)))) (Calm.int rfl rfl rfl rfl) ?_
    refine AO.c (Calm.assign rfl rfl) ?_
    refine AO.nK [1, 2, 7, 8, 15] ?_
    rcases of_ite h with ⟨hc10, h⟩ | ⟨hc10, h⟩
    ·refine AW.condP _ rfl hc10 ?_
     obtain ⟨b11, hq12, h⟩ := of_bind h
     refine AW.regM [(7, (eBool b11))] [] ?_ ?_
     ·refine AO.c (Calm.move rfl rfl) ?_
      refine AO.c (Calm.move rfl rfl) ?_
      rcases of_ite hq12 with ⟨hc13, hq12⟩ | ⟨hc13, hq12⟩
      ·refine AO.sF rfl rfl (bD hc13) ?_
       refine AO.c (Calm.pickT rfl (bD hc13) rfl) ?_
       refine AO.c (Calm.assign rfl rfl) ?_
       cases hq12
       refine AO.nilE ⟨rfl, rfl⟩ ?_ ?_
       · exact ⟨rfl, trivial⟩
       · exact (Sub.refl _)
      ·refine AO.cG rfl rfl (bD (eq_false_of_ne_true hc13)) (Calm.move rfl rfl) ?_
       refine AO.c (Calm.pickF rfl (bD (eq_false_of_ne_true hc13)) rfl) ?_
       refine AO.c (Calm.assign rfl rfl) ?_
       cases hq12
       refine AO.nilE ⟨rfl, rfl⟩ ?_ ?_
       · exact ⟨rfl, trivial⟩
       · exact (Sub.refl _)
     ·exact ⟨b11, rfl, rfl, h⟩
    ·refine AW.condN _ rfl hc10 ?_
     refine AW.sr ?_
     refine AO.c (x := eBool (decide (p0 = (2 : Int)))) (Calm.int rfl rfl rfl rfl) ?_
     refine AO.c (Calm.assign rfl rfl) ?_
     refine AO.nK [1, 2, 7, 8, 21] ?_
     rcases of_ite h with ⟨hc14, h⟩ | ⟨hc14, h⟩
     ·refine AW.condP _ rfl hc14 ?_
      obtain ⟨b15, hq16, h⟩ := of_bind h
      refine AW.regM [(7, (eBool b15))] [] ?_ ?_
      ·refine AO.c (Calm.move rfl rfl) ?_
       refine AO.c (Calm.move rfl rfl) ?_
       rcases of_ite hq16 with ⟨hc17, hq16⟩ | ⟨hc17, hq16⟩
       ·refine AO.cG rfl rfl (bD hc17) (Calm.move rfl rfl) ?_
        refine AO.cG rfl rfl (bD hc17) (Calm.not rfl rfl) ?_
        refine AO.c (Calm.pickT rfl (bD hc17) rfl) ?_
        refine AO.c (Calm.assign rfl rfl) ?_
        cases hq16
        refine AO.nilE ⟨rfl, rfl⟩ ?_ ?_
        · exact ⟨rfl, trivial⟩
        · exact (Sub.refl _)
       ·refine AO.sT rfl rfl (bD (eq_false_of_ne_true hc17)) ?_
        refine AO.sT rfl rfl (bD (eq_false_of_ne_true hc17)) ?_
        refine AO.c (Calm.pickF rfl (bD (eq_false_of_ne_true hc17)) rfl) ?_
        refine AO.c (Calm.assign rfl rfl) ?_
        cases hq16
        refine AO.nilE ⟨rfl, rfl⟩ ?_ ?_
        · exact ⟨rfl, trivial⟩
        · exact (Sub.refl _)
      ·exact ⟨b15, rfl, rfl, h⟩
     ·refine AW.condN _ rfl hc14 ?_
      refine AW.sr ?_
      refine AO.c (x := eBool (decide (p0 = (3 : Int)))) (Calm.int rfl rfl rfl rfl) ?_
      refine AO.c (Calm.assign rfl rfl) ?_
      refine AO.nK [1, 2, 7, 28] ?_
      rcases of_ite h with ⟨hc18, h⟩ | ⟨hc18, h⟩
      ·refine AW.condP _ rfl hc18 ?_
       refine AW.reg ?_
       refine AO.c (Calm.move rfl rfl) ?_
       refine AO.c (Calm.move rfl rfl) ?_
       refine AO.c (x := eBool (p1 != p2)) (Calm.boolNe rfl rfl rfl Try.underlying4) ?_
       refine AO.c (Calm.assign rfl rfl) ?_
       refine AO.nK [7] ?_
       exact ⟨(p1 != p2), rfl, rfl, h⟩
      ·refine AW.condN _ rfl hc18 ?_
       refine AW.sK [7] ?_
       exact ⟨false, rfl, rfl, h⟩
  ·rintro _ _ ⟨b4, rfl, rfl, h⟩
   rw [lang_both_c0.eq_1] at h
   refine AW.seq ?_
   refine AW.sr ?_
   refine AO.c (Calm.move rfl rfl) ?_
   refine AO.nK [33] ?_
   rcases of_ite h with ⟨hc5, h⟩ | ⟨hc5, h⟩
   ·refine AW.condT' _ rfl hc5 ?_
    refine AW.sr ?_
    refine AO.c (Calm.assign rfl rfl) ?_
    refine AO.nK [6] ?_
    refine AW.rK [6] ?_
    have hr := Option.some.inj h
    subst hr
    exact ⟨[(eI64 (0 : Int))], ⟨rfl, rfl, trivial⟩, rfl⟩
   ·refine AW.condF' _ rfl hc5 ?_
    refine AW.sK [] ?_
    refine AW.sr ?_
    refine AO.c (Calm.assign rfl rfl) ?_
    refine AO.nK [6] ?_
    refine AW.rK [6] ?_
    have hr := Option.some.inj h
    subst hr
    exact ⟨[(eI64 (-1 : Int))], ⟨rfl, rfl, trivial⟩, rfl⟩
end Go.Avl.T5
