/- Parts: T5f11, T5f56, T5f17, T5f14, T5f47, T5f29, T5f51, T5f53, T5f52, T5f54, T5f21, T5f49, T5f16, T5f18, T5f19, T5f20, T5f55, T5f80, T5f100, T5f81, T5f96, T5f72, T5f38, T5f65, T5f71, T5f37, T5f101, T5f83, T5f103, T5f95, T5f68, T5f69, T5f34, T5f94, T5f67, T5f33. -/
import Derived.Test.YtoaomnfenofglaaAF1
import Derived.Test.YtoaomnfenofglaaAF2
import Derived.Test.YtoaomnfenofglaaAF3
import Derived.Test.YtoaomnfenofglaaAF4
/- bosket/bosketlaw10.LangEqual; printed by avmain.py. -/
namespace Go.Avl.T5
open Go Go.RowKit Go.Proofs Go.Avl
set_option linter.unusedVariables false
set_option maxRecDepth 100000
set_option maxHeartbeats 4000000
attribute [local irreducible] AW AO AQ Spec SpecH Calm

def bosketlaw10_LangEqual (k : Nat) (p0 : S30) (p1 : S30) (p2 : ByteArray) : Option Bool :=
  (bosketlaw10_awake k).bind fun t6 =>
  if (!t6) = true then some (false)
  else Option.bind (α := Bool) ((bosketlaw08_Small k p0).bind fun t10 =>
  if (!t10) = true then some (true)
  else (bosketlaw08_Small k p1).bind fun t12 =>
  if (!t12) = true then some (true)
  else if (30 : Int) < (p2.size : Int) then some (true)
  else (bosketref08_Right k p0).bind fun t15 =>
  if (!t15) = true then some (true)
  else (bosketref08_Right k p1).bind fun t17 =>
  some (!t17)) fun b8 =>
  if b8 = true then some (true)
  else (lang_Equal k p0 p1).bind fun t19 =>
  (lang_Within k p0 p1).bind fun t20 =>
  (lang_Within k p1 p0).bind fun t21 =>
  Option.bind (α := Bool) (if t19.2.2 ≠ (0 : Int) then some (true)
  else if t20.2.2 ≠ (0 : Int) then some (true)
  else if t21.2.2 ≠ (0 : Int) then some (true)
  else if t20.1 = true then some ((t19.1 != t21.1))
  else some ((t19.1 != false))) fun b22 =>
  if b22 = true then some (false)
  else Option.bind (α := Bool) (if (!t19.1) = true then (bosketlaw10_has k p0 t19.2.1).bind fun t32 =>
  (bosketlaw10_has k p1 t19.2.1).bind fun t33 =>
  if (t32 == t33) = true then some (true)
  else if (!t20.1) = true then (bosketlaw10_has k p0 t20.2.1).bind fun t36 =>
  if (!t36) = true then some (true)
  else (bosketlaw10_has k p1 t20.2.1).bind fun t38 =>
  some (t38)
  else some (false)
  else if (!t20.1) = true then (bosketlaw10_has k p0 t20.2.1).bind fun t40 =>
  if (!t40) = true then some (true)
  else (bosketlaw10_has k p1 t20.2.1).bind fun t42 =>
  some (t42)
  else some (false)) fun b29 =>
  if b29 = true then some (false)
  else (lang_Equal k p0 p0).bind fun t44 =>
  Option.bind (α := Bool) (if t44.2.2 = (0 : Int) then if t44.1 = true then if (!t19.1) = true then if (!t20.1) = true then some (true)
  else (bosketlaw10_has k p0 p2).bind fun t51 =>
  if (!t51) = true then some (true)
  else (bosketlaw10_has k p1 p2).bind fun t53 =>
  some (t53)
  else (bosketlaw10_has k p0 p2).bind fun t54 =>
  (bosketlaw10_has k p1 p2).bind fun t55 =>
  if (t54 == t55) = true then if (!t20.1) = true then some (true)
  else (bosketlaw10_has k p0 p2).bind fun t58 =>
  if (!t58) = true then some (true)
  else (bosketlaw10_has k p1 p2).bind fun t60 =>
  some (t60)
  else some (false)
  else some (false)
  else some (false)) fun b45 =>
  some (b45)
theorem bosketlaw10_LangEqual_spec {k : Nat} {p0 : S30} {p1 : S30} {p2 : ByteArray} {r : Bool} (h : bosketlaw10_LangEqual k p0 p1 p2 = some r) : Spec Try.prog 11 [(e30 p0), (e30 p1), (eStr p2)] (eBool r) := by
  rw [bosketlaw10_LangEqual.eq_1] at h
  refine Spec.intro (res := [.tmp 6]) Try.func11 rfl rfl rfl (Nat.le_of_ble_eq_true rfl) ?_
  refine AW.sr ?_
  refine AO.box rfl 3 rfl (by decide) rfl rfl rfl fun n4 => ?_
  refine AO.box rfl 4 rfl (by decide) rfl rfl rfl fun n5 => ?_
  refine AO.c (Calm.assign rfl rfl) ?_
  refine AO.nH [2, 3, 4] (H' := [(n4, (.mem (e30 p0))), (n5, (.mem (e30 p1)))]) (Sub.cons 1 rfl (Sub.cons 0 rfl (Sub.nil _))) ?_
  refine AW.seq ?_
  refine AW.sr ?_
  obtain ⟨t6, et6, h⟩ := of_bind h
  refine AO.callS [] (eBool t6) 19 rfl (by decide) ok43 rfl rfl rfl trivial (bosketlaw10_awake_spec et6) ?_
  refine AO.c (Calm.not rfl rfl) ?_
  refine AO.nK [2, 3, 4, 20] ?_
  rcases of_ite h with ⟨hc7, h⟩ | ⟨hc7, h⟩
  ·refine AW.condT' _ rfl hc7 ?_
   refine AW.sr ?_
   refine AO.c (Calm.assign rfl rfl) ?_
   refine AO.nH [6] (H' := []) (Sub.nil _) ?_
   refine AW.rK [6] ?_
   have hr := Option.some.inj h
   subst hr
   exact ⟨[(eBool false)], ⟨rfl, rfl, trivial⟩, rfl⟩
  ·refine AW.condF' _ rfl hc7 ?_
   refine AW.sK [2, 3, 4] ?_
   refine AW.seq ?_
   refine AW.seq ?_
   obtain ⟨b8, hq9, h⟩ := of_bind h
   refine AW.regM [(2, (eStr p2)), (3, (.ptr n4 0)), (4, (.ptr n5 0)), (43, (eBool b8))] [(n4, (.mem (e30 p0))), (n5, (.mem (e30 p1)))] ?_ ?_
   ·refine AO.c (Calm.load 0 rfl rfl rfl (At.cast At.here rfl) ag30 sz30) ?_
    obtain ⟨t10, et10, hq9⟩ := of_bind hq9
    refine AO.callS [(e30 p0)] (eBool t10) 22 rfl (by decide) ok24 rfl rfl rfl ⟨rfl, rfl, trivial⟩ (bosketlaw08_Small_spec et10) ?_
    refine AO.c (Calm.not rfl rfl) ?_
    refine AO.c (Calm.move rfl rfl) ?_
    rcases of_ite hq9 with ⟨hc11, hq9⟩ | ⟨hc11, hq9⟩
    ·refine AO.sF rfl rfl (bD hc11) ?_
     refine AO.sF rfl rfl (bD hc11) ?_
     refine AO.sF rfl rfl (bD hc11) ?_
     refine AO.c (Calm.pickT rfl (bD hc11) rfl) ?_
     refine AO.c (Calm.move rfl rfl) ?_
     refine AO.sF rfl rfl rfl ?_
     refine AO.sF rfl rfl rfl ?_
     refine AO.sF rfl rfl rfl ?_
     refine AO.c (Calm.pickT rfl rfl rfl) ?_
     refine AO.c (Calm.move rfl rfl) ?_
     refine AO.sF rfl rfl rfl ?_
     refine AO.sF rfl rfl rfl ?_
     refine AO.sF rfl rfl rfl ?_
     refine AO.c (Calm.pickT rfl rfl rfl) ?_
     refine AO.c (Calm.move rfl rfl) ?_
     refine AO.sF rfl rfl rfl ?_
     refine AO.sF rfl rfl rfl ?_
     refine AO.sF rfl rfl rfl ?_
     refine AO.c (Calm.pickT rfl rfl rfl) ?_
     cases hq9
     refine AO.nilE ⟨rfl, rfl⟩ ?_ ?_
     · exact ⟨rfl, rfl, rfl, rfl, trivial⟩
     · exact (Sub.refl _)
    ·refine AO.cG rfl rfl (bD (eq_false_of_ne_true hc11)) (Calm.load 1 rfl rfl rfl (At.cast At.here rfl) ag30 sz30) ?_
     obtain ⟨t12, et12, hq9⟩ := of_bind hq9
     refine AO.callG 3 false 24 [(e30 p1)] (eBool t12) 26 rfl (by decide) ok24 rfl rfl (bD (eq_false_of_ne_true hc11)) rfl rfl ⟨rfl, rfl, trivial⟩ (bosketlaw08_Small_spec et12) ?_
     refine AO.cG rfl rfl (bD (eq_false_of_ne_true hc11)) (Calm.not rfl rfl) ?_
     refine AO.c (Calm.pickF rfl (bD (eq_false_of_ne_true hc11)) rfl) ?_
     refine AO.c (Calm.move rfl rfl) ?_
     rcases of_ite hq9 with ⟨hc13, hq9⟩ | ⟨hc13, hq9⟩
     ·refine AO.sF rfl rfl (bD hc13) ?_
      refine AO.sF rfl rfl (bD hc13) ?_
      refine AO.sF rfl rfl (bD hc13) ?_
      refine AO.c (Calm.pickT rfl (bD hc13) rfl) ?_
      refine AO.c (Calm.move rfl rfl) ?_
      refine AO.sF rfl rfl rfl ?_
      refine AO.sF rfl rfl rfl ?_
      refine AO.sF rfl rfl rfl ?_
      refine AO.c (Calm.pickT rfl rfl rfl) ?_
      refine AO.c (Calm.move rfl rfl) ?_
      refine AO.sF rfl rfl rfl ?_
      refine AO.sF rfl rfl rfl ?_
      refine AO.sF rfl rfl rfl ?_
      refine AO.c (Calm.pickT rfl rfl rfl) ?_
      cases hq9
      refine AO.nilE ⟨rfl, rfl⟩ ?_ ?_
      · exact ⟨rfl, rfl, rfl, rfl, trivial⟩
      · exact (Sub.refl _)
     ·refine AO.cG rfl rfl (bD (eq_false_of_ne_true hc13)) (Calm.move rfl rfl) ?_
      refine AO.cG rfl rfl (bD (eq_false_of_ne_true hc13)) (Calm.lenStr rfl rfl Try.underlying9) ?_
      refine AO.cG (x := eBool (decide ((30 : Int) < (p2.size : Int)))) rfl rfl (bD (eq_false_of_ne_true hc13)) (Calm.int rfl rfl rfl rfl) ?_
      refine AO.c (Calm.pickF rfl (bD (eq_false_of_ne_true hc13)) rfl) ?_
      refine AO.c (Calm.move rfl rfl) ?_
      rcases of_ite hq9 with ⟨hc14, hq9⟩ | ⟨hc14, hq9⟩
      ·refine AO.sF rfl rfl (bD (decide_eq_true hc14)) ?_
       refine AO.sF rfl rfl (bD (decide_eq_true hc14)) ?_
       refine AO.sF rfl rfl (bD (decide_eq_true hc14)) ?_
       refine AO.c (Calm.pickT rfl (bD (decide_eq_true hc14)) rfl) ?_
       refine AO.c (Calm.move rfl rfl) ?_
       refine AO.sF rfl rfl rfl ?_
       refine AO.sF rfl rfl rfl ?_
       refine AO.sF rfl rfl rfl ?_
       refine AO.c (Calm.pickT rfl rfl rfl) ?_
       cases hq9
       refine AO.nilE ⟨rfl, rfl⟩ ?_ ?_
       · exact ⟨rfl, rfl, rfl, rfl, trivial⟩
       · exact (Sub.refl _)
      ·refine AO.cG rfl rfl (bD (decide_eq_false hc14)) (Calm.load 0 rfl rfl rfl (At.cast At.here rfl) ag30 sz30) ?_
       obtain ⟨t15, et15, hq9⟩ := of_bind hq9
       refine AO.callG 13 false 34 [(e30 p0)] (eBool t15) 36 rfl (by decide) ok25 rfl rfl (bD (decide_eq_false hc14)) rfl rfl ⟨rfl, rfl, trivial⟩ (bosketref08_Right_spec et15) ?_
       refine AO.cG rfl rfl (bD (decide_eq_false hc14)) (Calm.not rfl rfl) ?_
       refine AO.c (Calm.pickF rfl (bD (decide_eq_false hc14)) rfl) ?_
       refine AO.c (Calm.move rfl rfl) ?_
       rcases of_ite hq9 with ⟨hc16, hq9⟩ | ⟨hc16, hq9⟩
       ·refine AO.sF rfl rfl (bD hc16) ?_
        refine AO.sF rfl rfl (bD hc16) ?_
        refine AO.sF rfl rfl (bD hc16) ?_
        refine AO.c (Calm.pickT rfl (bD hc16) rfl) ?_
        cases hq9
        refine AO.nilE ⟨rfl, rfl⟩ ?_ ?_
        · exact ⟨rfl, rfl, rfl, rfl, trivial⟩
        · exact (Sub.refl _)
       ·refine AO.cG rfl rfl (bD (eq_false_of_ne_true hc16)) (Calm.load 1 rfl rfl rfl (At.cast At.here rfl) ag30 sz30) ?_
        obtain ⟨t17, et17, hq9⟩ := of_bind hq9
        refine AO.callG 18 false 39 [(e30 p1)] (eBool t17) 41 rfl (by decide) ok25 rfl rfl (bD (eq_false_of_ne_true hc16)) rfl rfl ⟨rfl, rfl, trivial⟩ (bosketref08_Right_spec et17) ?_
        refine AO.cG rfl rfl (bD (eq_false_of_ne_true hc16)) (Calm.not rfl rfl) ?_
        refine AO.c (Calm.pickF rfl (bD (eq_false_of_ne_true hc16)) rfl) ?_
        cases hq9
        refine AO.nilE ⟨rfl, rfl⟩ ?_ ?_
        · exact ⟨rfl, rfl, rfl, rfl, trivial⟩
        · exact (Sub.refl _)
   ·rcases of_ite h with ⟨hc18, h⟩ | ⟨hc18, h⟩
    ·refine AW.condT' _ rfl hc18 ?_
     refine AW.sr ?_
     refine AO.c (Calm.assign rfl rfl) ?_
     refine AO.nH [6] (H' := []) (Sub.nil _) ?_
     refine AW.rK [6] ?_
     have hr := Option.some.inj h
     subst hr
     exact ⟨[(eBool true)], ⟨rfl, rfl, trivial⟩, rfl⟩
    ·refine AW.condF' _ rfl hc18 ?_
     refine AW.sK [2, 3, 4] ?_
     refine AW.sr ?_
     refine AO.c (Calm.load 0 rfl rfl rfl (At.cast At.here rfl) ag30 sz30) ?_
     refine AO.c (Calm.load 1 rfl rfl rfl (At.cast At.here rfl) ag30 sz30) ?_
     obtain ⟨t19, et19, h⟩ := of_bind h
     refine AO.callS [(e30 p0), (e30 p1)] (.tup [(eBool t19.1), (eStr t19.2.1), (eI64 t19.2.2)]) 47 rfl (by decide) ok44 rfl rfl rfl ⟨rfl, rfl, rfl, rfl, trivial⟩ (lang_Equal_spec et19) ?_
     refine AO.c (Calm.move rfl rfl) ?_
     refine AO.c (Calm.extract rfl rfl rfl) ?_
     refine AO.c (Calm.extract rfl rfl rfl) ?_
     refine AO.c (Calm.extract rfl rfl rfl) ?_
     refine AO.c (Calm.assign rfl rfl) ?_
     refine AO.c (Calm.assign rfl rfl) ?_
     refine AO.c (Calm.assign rfl rfl) ?_
     refine AO.nK [2, 3, 4, 7, 8, 9] ?_
     refine AW.sr ?_
     refine AO.c (Calm.load 0 rfl rfl rfl (At.cast At.here rfl) ag30 sz30) ?_
     refine AO.c (Calm.load 1 rfl rfl rfl (At.cast At.here rfl) ag30 sz30) ?_
     obtain ⟨t20, et20, h⟩ := of_bind h
     refine AO.callS [(e30 p0), (e30 p1)] (.tup [(eBool t20.1), (eStr t20.2.1), (eI64 t20.2.2)]) 54 rfl (by decide) ok45 rfl rfl rfl ⟨rfl, rfl, rfl, rfl, trivial⟩ (lang_Within_spec et20) ?_
     refine AO.c (Calm.move rfl rfl) ?_
     refine AO.c (Calm.extract rfl rfl rfl) ?_
     refine AO.c (Calm.extract rfl rfl rfl) ?_
     refine AO.c (Calm.extract rfl rfl rfl) ?_
     refine AO.c (Calm.assign rfl rfl) ?_
     refine AO.c (Calm.assign rfl rfl) ?_
     refine AO.c (Calm.assign rfl rfl) ?_
     refine AO.nK [2, 3, 4, 7, 8, 9, 10, 11, 12] ?_
     refine AW.sr ?_
     refine AO.c (Calm.load 1 rfl rfl rfl (At.cast At.here rfl) ag30 sz30) ?_
     refine AO.c (Calm.load 0 rfl rfl rfl (At.cast At.here rfl) ag30 sz30) ?_
     obtain ⟨t21, et21, h⟩ := of_bind h
     refine AO.callS [(e30 p1), (e30 p0)] (.tup [(eBool t21.1), (eStr t21.2.1), (eI64 t21.2.2)]) 61 rfl (by decide) ok45 rfl rfl rfl ⟨rfl, rfl, rfl, rfl, trivial⟩ (lang_Within_spec et21) ?_
     refine AO.c (Calm.move rfl rfl) ?_
     refine AO.c (Calm.extract rfl rfl rfl) ?_
     refine AO.c (Calm.extract rfl rfl rfl) ?_
     refine AO.c (Calm.extract rfl rfl rfl) ?_
     refine AO.c (Calm.assign rfl rfl) ?_
     refine AO.c (Calm.assign rfl rfl) ?_
     refine AO.c (Calm.assign rfl rfl) ?_
     refine AO.nK [2, 3, 4, 7, 8, 9, 10, 11, 12, 13, 15] ?_
     refine AW.seq ?_
     refine AW.seq ?_
     obtain ⟨b22, hq23, h⟩ := of_bind h
     refine AW.regM [(2, (eStr p2)), (3, (.ptr n4 0)), (4, (.ptr n5 0)), (7, (eBool t19.1)), (8, (eStr t19.2.1)), (10, (eBool t20.1)), (11, (eStr t20.2.1)), (82, (eBool b22))] [(n4, (.mem (e30 p0))), (n5, (.mem (e30 p1)))] ?_ ?_
     ·refine AO.c (Calm.move rfl rfl) ?_
      refine AO.c (x := eBool (decide (t19.2.2 ≠ (0 : Int)))) (Calm.int rfl rfl rfl rfl) ?_
      refine AO.c (Calm.move rfl rfl) ?_
      rcases of_ite hq23 with ⟨hc24, hq23⟩ | ⟨hc24, hq23⟩
      ·refine AO.sF rfl rfl (bD (decide_eq_true hc24)) ?_
       refine AO.sF rfl rfl (bD (decide_eq_true hc24)) ?_
       refine AO.c (Calm.pickT rfl (bD (decide_eq_true hc24)) rfl) ?_
       refine AO.c (Calm.move rfl rfl) ?_
       refine AO.sF rfl rfl rfl ?_
       refine AO.sF rfl rfl rfl ?_
       refine AO.c (Calm.pickT rfl rfl rfl) ?_
       refine AO.c (Calm.move rfl rfl) ?_
       refine AO.sF rfl rfl rfl ?_
       refine AO.sF rfl rfl rfl ?_
       refine AO.sF rfl rfl rfl ?_
       refine AO.sU rfl rfl rfl ?_
       refine AO.sF rfl rfl rfl ?_
       refine AO.sF rfl rfl rfl ?_
       refine AO.c (Calm.pickT rfl rfl rfl) ?_
       cases hq23
       refine AO.nilE ⟨rfl, rfl⟩ ?_ ?_
       · exact ⟨rfl, rfl, rfl, rfl, rfl, rfl, rfl, rfl, trivial⟩
       · exact (Sub.refl _)
      ·refine AO.cG rfl rfl (bD (decide_eq_false hc24)) (Calm.move rfl rfl) ?_
       refine AO.cG (x := eBool (decide (t20.2.2 ≠ (0 : Int)))) rfl rfl (bD (decide_eq_false hc24)) (Calm.int rfl rfl rfl rfl) ?_
       refine AO.c (Calm.pickF rfl (bD (decide_eq_false hc24)) rfl) ?_
       refine AO.c (Calm.move rfl rfl) ?_
       rcases of_ite hq23 with ⟨hc25, hq23⟩ | ⟨hc25, hq23⟩
       ·refine AO.sF rfl rfl (bD (decide_eq_true hc25)) ?_
        refine AO.sF rfl rfl (bD (decide_eq_true hc25)) ?_
        refine AO.c (Calm.pickT rfl (bD (decide_eq_true hc25)) rfl) ?_
        refine AO.c (Calm.move rfl rfl) ?_
        refine AO.sF rfl rfl rfl ?_
        refine AO.sF rfl rfl rfl ?_
        refine AO.sF rfl rfl rfl ?_
        refine AO.sU rfl rfl rfl ?_
        refine AO.sF rfl rfl rfl ?_
        refine AO.sF rfl rfl rfl ?_
        refine AO.c (Calm.pickT rfl rfl rfl) ?_
        cases hq23
        refine AO.nilE ⟨rfl, rfl⟩ ?_ ?_
        · exact ⟨rfl, rfl, rfl, rfl, rfl, rfl, rfl, rfl, trivial⟩
        · exact (Sub.refl _)
       ·refine AO.cG rfl rfl (bD (decide_eq_false hc25)) (Calm.move rfl rfl) ?_
        refine AO.cG (x := eBool (decide (t21.2.2 ≠ (0 : Int)))) rfl rfl (bD (decide_eq_false hc25)) (Calm.int rfl rfl rfl rfl) ?_
        refine AO.c (Calm.pickF rfl (bD (decide_eq_false hc25)) rfl) ?_
        refine AO.c (Calm.move rfl rfl) ?_
        rcases of_ite hq23 with ⟨hc26, hq23⟩ | ⟨hc26, hq23⟩
        ·refine AO.sF rfl rfl (bD (decide_eq_true hc26)) ?_
         refine AO.sF rfl rfl (bD (decide_eq_true hc26)) ?_
         refine AO.sF rfl rfl (bD (decide_eq_true hc26)) ?_
         refine AO.sU rfl rfl rfl ?_
         refine AO.sF rfl rfl (bD (decide_eq_true hc26)) ?_
         refine AO.sF rfl rfl (bD (decide_eq_true hc26)) ?_
         refine AO.c (Calm.pickT rfl (bD (decide_eq_true hc26)) rfl) ?_
         cases hq23
         refine AO.nilE ⟨rfl, rfl⟩ ?_ ?_
         · exact ⟨rfl, rfl, rfl, rfl, rfl, rfl, rfl, rfl, trivial⟩
         · exact (Sub.refl _)
        ·refine AO.cG rfl rfl (bD (decide_eq_false hc26)) (Calm.move rfl rfl) ?_
         refine AO.cG rfl rfl (bD (decide_eq_false hc26)) (Calm.move rfl rfl) ?_
         refine AO.cG rfl rfl (bD (decide_eq_false hc26)) (Calm.move rfl rfl) ?_
         rcases of_ite hq23 with ⟨hc27, hq23⟩ | ⟨hc27, hq23⟩
         ·refine AO.cG rfl rfl (bD hc27) (Calm.move rfl rfl) ?_
          refine AO.cG rfl rfl (bD (decide_eq_false hc26)) (Calm.pickT rfl (bD hc27) rfl) ?_
          refine AO.cG (x := eBool (t19.1 != t21.1)) rfl rfl (bD (decide_eq_false hc26)) (Calm.boolNe rfl rfl rfl Try.underlying4) ?_
          refine AO.c (Calm.pickF rfl (bD (decide_eq_false hc26)) rfl) ?_
          cases hq23
          refine AO.nilE ⟨rfl, rfl⟩ ?_ ?_
          · exact ⟨rfl, rfl, rfl, rfl, rfl, rfl, rfl, rfl, trivial⟩
          · exact (Sub.refl _)
         ·refine AO.sT rfl rfl (bD (eq_false_of_ne_true hc27)) ?_
          refine AO.cG rfl rfl (bD (decide_eq_false hc26)) (Calm.pickF rfl (bD (eq_false_of_ne_true hc27)) rfl) ?_
          refine AO.cG (x := eBool (t19.1 != false)) rfl rfl (bD (decide_eq_false hc26)) (Calm.boolNe rfl rfl rfl Try.underlying4) ?_
          refine AO.c (Calm.pickF rfl (bD (decide_eq_false hc26)) rfl) ?_
          cases hq23
          refine AO.nilE ⟨rfl, rfl⟩ ?_ ?_
          · exact ⟨rfl, rfl, rfl, rfl, rfl, rfl, rfl, rfl, trivial⟩
          · exact (Sub.refl _)
     ·rcases of_ite h with ⟨hc28, h⟩ | ⟨hc28, h⟩
      ·refine AW.condT' _ rfl hc28 ?_
       refine AW.sr ?_
       refine AO.c (Calm.assign rfl rfl) ?_
       refine AO.nH [6] (H' := []) (Sub.nil _) ?_
       refine AW.rK [6] ?_
       have hr := Option.some.inj h
       subst hr
       exact ⟨[(eBool false)], ⟨rfl, rfl, trivial⟩, rfl⟩
      ·refine AW.condF' _ rfl hc28 ?_
       refine AW.sK [2, 3, 4, 7, 8, 10, 11] ?_
       refine AW.seq ?_
       refine AW.seq ?_
       obtain ⟨b29, hq30, h⟩ := of_bind h
       refine AW.regQM (by rfl) (by decide +kernel) [(2, (eStr p2)), (3, (.ptr n4 0)), (4, (.ptr n5 0)), (7, (eBool t19.1)), (10, (eBool t20.1)), (108, (eBool b29))] ?_ ?_
       ·refine AQ.c (Calm.move rfl rfl) ?_
        refine AQ.c (Calm.not rfl rfl) ?_
        refine AQ.c (Calm.move rfl rfl) ?_
        rcases of_ite hq30 with ⟨hc31, hq30⟩ | ⟨hc31, hq30⟩
        ·refine AQ.cG rfl rfl (bD hc31) (Calm.load 0 rfl rfl rfl (At.cast At.here rfl) ag30 sz30) ?_
         refine AQ.cG rfl rfl (bD hc31) (Calm.move rfl rfl) ?_
         obtain ⟨t32, et32, hq30⟩ := of_bind hq30
         refine AQ.cG rfl rfl (bD hc31) (Calm.call (args := [(e30 p0), (eStr t19.2.1)]) rfl rfl ok46 ⟨rfl, rfl, rfl, rfl, trivial⟩ rfl (bosketlaw10_has_spec et32)) ?_
         refine AQ.cG rfl rfl (bD hc31) (Calm.load 1 rfl rfl rfl (At.cast At.here rfl) ag30 sz30) ?_
         refine AQ.cG rfl rfl (bD hc31) (Calm.move rfl rfl) ?_
         obtain ⟨t33, et33, hq30⟩ := of_bind hq30
         refine AQ.cG rfl rfl (bD hc31) (Calm.call (args := [(e30 p1), (eStr t19.2.1)]) rfl rfl ok46 ⟨rfl, rfl, rfl, rfl, trivial⟩ rfl (bosketlaw10_has_spec et33)) ?_
         refine AQ.cG (x := eBool (t32 == t33)) rfl rfl (bD hc31) (Calm.boolEq rfl rfl rfl Try.underlying4) ?_
         refine AQ.c (Calm.pickT rfl (bD hc31) rfl) ?_
         refine AQ.c (Calm.move rfl rfl) ?_
         rcases of_ite hq30 with ⟨hc34, hq30⟩ | ⟨hc34, hq30⟩
         ·refine AQ.sF rfl rfl (bD hc34) ?_
          refine AQ.sF rfl rfl (bD hc34) ?_
          refine AQ.sF rfl rfl (bD hc34) ?_
          refine AQ.sU rfl rfl rfl ?_
          refine AQ.sU rfl rfl rfl ?_
          refine AQ.sU rfl rfl rfl ?_
          refine AQ.sU rfl rfl rfl ?_
          refine AQ.sU rfl rfl rfl ?_
          refine AQ.sU rfl rfl rfl ?_
          refine AQ.sU rfl rfl rfl ?_
          refine AQ.sU rfl rfl rfl ?_
          refine AQ.sU rfl rfl rfl ?_
          refine AQ.sF rfl rfl (bD hc34) ?_
          refine AQ.c (Calm.pickT rfl (bD hc34) rfl) ?_
          cases hq30
          refine AQ.nilE rfl ?_
          exact ⟨rfl, rfl, rfl, rfl, rfl, rfl, trivial⟩
         ·refine AQ.cG rfl rfl (bD (eq_false_of_ne_true hc34)) (Calm.move rfl rfl) ?_
          refine AQ.cG rfl rfl (bD (eq_false_of_ne_true hc34)) (Calm.not rfl rfl) ?_
          refine AQ.cG rfl rfl (bD (eq_false_of_ne_true hc34)) (Calm.move rfl rfl) ?_
          rcases of_ite hq30 with ⟨hc35, hq30⟩ | ⟨hc35, hq30⟩
          ·refine AQ.cG rfl rfl (bD hc35) (Calm.load 0 rfl rfl rfl (At.cast At.here rfl) ag30 sz30) ?_
           refine AQ.cG rfl rfl (bD hc35) (Calm.move rfl rfl) ?_
           obtain ⟨t36, et36, hq30⟩ := of_bind hq30
           refine AQ.cG rfl rfl (bD hc35) (Calm.call (args := [(e30 p0), (eStr t20.2.1)]) rfl rfl ok46 ⟨rfl, rfl, rfl, rfl, trivial⟩ rfl (bosketlaw10_has_spec et36)) ?_
           refine AQ.cG rfl rfl (bD hc35) (Calm.not rfl rfl) ?_
           refine AQ.cG rfl rfl (bD hc35) (Calm.move rfl rfl) ?_
           rcases of_ite hq30 with ⟨hc37, hq30⟩ | ⟨hc37, hq30⟩
           ·refine AQ.sF rfl rfl (bD hc37) ?_
            refine AQ.sF rfl rfl (bD hc37) ?_
            refine AQ.sF rfl rfl (bD hc37) ?_
            refine AQ.cG rfl rfl (bD hc35) (Calm.pickT rfl (bD hc37) rfl) ?_
            refine AQ.cG rfl rfl (bD (eq_false_of_ne_true hc34)) (Calm.pickT rfl (bD hc35) rfl) ?_
            refine AQ.c (Calm.pickF rfl (bD (eq_false_of_ne_true hc34)) rfl) ?_
            cases hq30
            refine AQ.nilE rfl ?_
            exact ⟨rfl, rfl, rfl, rfl, rfl, rfl, trivial⟩
           ·refine AQ.cG rfl rfl (bD (eq_false_of_ne_true hc37)) (Calm.load 1 rfl rfl rfl (At.cast At.here rfl) ag30 sz30) ?_
            refine AQ.cG rfl rfl (bD (eq_false_of_ne_true hc37)) (Calm.move rfl rfl) ?_
            obtain ⟨t38, et38, hq30⟩ := of_bind hq30
            refine AQ.cG rfl rfl (bD (eq_false_of_ne_true hc37)) (Calm.call (args := [(e30 p1), (eStr t20.2.1)]) rfl rfl ok46 ⟨rfl, rfl, rfl, rfl, trivial⟩ rfl (bosketlaw10_has_spec et38)) ?_
            refine AQ.cG rfl rfl (bD hc35) (Calm.pickF rfl (bD (eq_false_of_ne_true hc37)) rfl) ?_
            refine AQ.cG rfl rfl (bD (eq_false_of_ne_true hc34)) (Calm.pickT rfl (bD hc35) rfl) ?_
            refine AQ.c (Calm.pickF rfl (bD (eq_false_of_ne_true hc34)) rfl) ?_
            cases hq30
            refine AQ.nilE rfl ?_
            exact ⟨rfl, rfl, rfl, rfl, rfl, rfl, trivial⟩
          ·refine AQ.sT rfl rfl (bD (eq_false_of_ne_true hc35)) ?_
           refine AQ.sT rfl rfl (bD (eq_false_of_ne_true hc35)) ?_
           refine AQ.sT rfl rfl (bD (eq_false_of_ne_true hc35)) ?_
           refine AQ.sT rfl rfl (bD (eq_false_of_ne_true hc35)) ?_
           refine AQ.sT rfl rfl (bD (eq_false_of_ne_true hc35)) ?_
           refine AQ.sU rfl rfl rfl ?_
           refine AQ.sU rfl rfl rfl ?_
           refine AQ.sU rfl rfl rfl ?_
           refine AQ.sT rfl rfl (bD (eq_false_of_ne_true hc35)) ?_
           refine AQ.cG rfl rfl (bD (eq_false_of_ne_true hc34)) (Calm.pickF rfl (bD (eq_false_of_ne_true hc35)) rfl) ?_
           refine AQ.c (Calm.pickF rfl (bD (eq_false_of_ne_true hc34)) rfl) ?_
           cases hq30
           refine AQ.nilE rfl ?_
           exact ⟨rfl, rfl, rfl, rfl, rfl, rfl, trivial⟩
        ·refine AQ.sT rfl rfl (bD (eq_false_of_ne_true hc31)) ?_
         refine AQ.sT rfl rfl (bD (eq_false_of_ne_true hc31)) ?_
         refine AQ.sT rfl rfl (bD (eq_false_of_ne_true hc31)) ?_
         refine AQ.sT rfl rfl (bD (eq_false_of_ne_true hc31)) ?_
         refine AQ.sT rfl rfl (bD (eq_false_of_ne_true hc31)) ?_
         refine AQ.sT rfl rfl (bD (eq_false_of_ne_true hc31)) ?_
         refine AQ.sT rfl rfl (bD (eq_false_of_ne_true hc31)) ?_
         refine AQ.c (Calm.pickF rfl (bD (eq_false_of_ne_true hc31)) rfl) ?_
         refine AQ.c (Calm.move rfl rfl) ?_
         refine AQ.cG rfl rfl rfl (Calm.move rfl rfl) ?_
         refine AQ.cG rfl rfl rfl (Calm.not rfl rfl) ?_
         refine AQ.cG rfl rfl rfl (Calm.move rfl rfl) ?_
         rcases of_ite hq30 with ⟨hc39, hq30⟩ | ⟨hc39, hq30⟩
         ·refine AQ.cG rfl rfl (bD hc39) (Calm.load 0 rfl rfl rfl (At.cast At.here rfl) ag30 sz30) ?_
          refine AQ.cG rfl rfl (bD hc39) (Calm.move rfl rfl) ?_
          obtain ⟨t40, et40, hq30⟩ := of_bind hq30
          refine AQ.cG rfl rfl (bD hc39) (Calm.call (args := [(e30 p0), (eStr t20.2.1)]) rfl rfl ok46 ⟨rfl, rfl, rfl, rfl, trivial⟩ rfl (bosketlaw10_has_spec et40)) ?_
          refine AQ.cG rfl rfl (bD hc39) (Calm.not rfl rfl) ?_
          refine AQ.cG rfl rfl (bD hc39) (Calm.move rfl rfl) ?_
          rcases of_ite hq30 with ⟨hc41, hq30⟩ | ⟨hc41, hq30⟩
          ·refine AQ.sF rfl rfl (bD hc41) ?_
           refine AQ.sF rfl rfl (bD hc41) ?_
           refine AQ.sF rfl rfl (bD hc41) ?_
           refine AQ.cG rfl rfl (bD hc39) (Calm.pickT rfl (bD hc41) rfl) ?_
           refine AQ.cG rfl rfl rfl (Calm.pickT rfl (bD hc39) rfl) ?_
           refine AQ.c (Calm.pickF rfl rfl rfl) ?_
           cases hq30
           refine AQ.nilE rfl ?_
           exact ⟨rfl, rfl, rfl, rfl, rfl, rfl, trivial⟩
          ·refine AQ.cG rfl rfl (bD (eq_false_of_ne_true hc41)) (Calm.load 1 rfl rfl rfl (At.cast At.here rfl) ag30 sz30) ?_
           refine AQ.cG rfl rfl (bD (eq_false_of_ne_true hc41)) (Calm.move rfl rfl) ?_
           obtain ⟨t42, et42, hq30⟩ := of_bind hq30
           refine AQ.cG rfl rfl (bD (eq_false_of_ne_true hc41)) (Calm.call (args := [(e30 p1), (eStr t20.2.1)]) rfl rfl ok46 ⟨rfl, rfl, rfl, rfl, trivial⟩ rfl (bosketlaw10_has_spec et42)) ?_
           refine AQ.cG rfl rfl (bD hc39) (Calm.pickF rfl (bD (eq_false_of_ne_true hc41)) rfl) ?_
           refine AQ.cG rfl rfl rfl (Calm.pickT rfl (bD hc39) rfl) ?_
           refine AQ.c (Calm.pickF rfl rfl rfl) ?_
           cases hq30
           refine AQ.nilE rfl ?_
           exact ⟨rfl, rfl, rfl, rfl, rfl, rfl, trivial⟩
         ·refine AQ.sT rfl rfl (bD (eq_false_of_ne_true hc39)) ?_
          refine AQ.sT rfl rfl (bD (eq_false_of_ne_true hc39)) ?_
          refine AQ.sT rfl rfl (bD (eq_false_of_ne_true hc39)) ?_
          refine AQ.sT rfl rfl (bD (eq_false_of_ne_true hc39)) ?_
          refine AQ.sT rfl rfl (bD (eq_false_of_ne_true hc39)) ?_
          refine AQ.sU rfl rfl rfl ?_
          refine AQ.sU rfl rfl rfl ?_
          refine AQ.sU rfl rfl rfl ?_
          refine AQ.sT rfl rfl (bD (eq_false_of_ne_true hc39)) ?_
          refine AQ.cG rfl rfl rfl (Calm.pickF rfl (bD (eq_false_of_ne_true hc39)) rfl) ?_
          refine AQ.c (Calm.pickF rfl rfl rfl) ?_
          cases hq30
          refine AQ.nilE rfl ?_
          exact ⟨rfl, rfl, rfl, rfl, rfl, rfl, trivial⟩
       ·rcases of_ite h with ⟨hc43, h⟩ | ⟨hc43, h⟩
        ·refine AW.condT' _ rfl hc43 ?_
         refine AW.sr ?_
         refine AO.c (Calm.assign rfl rfl) ?_
         refine AO.nH [6] (H' := []) (Sub.nil _) ?_
         refine AW.rK [6] ?_
         have hr := Option.some.inj h
         subst hr
         exact ⟨[(eBool false)], ⟨rfl, rfl, trivial⟩, rfl⟩
        ·refine AW.condF' _ rfl hc43 ?_
         refine AW.sK [2, 3, 4, 7, 10] ?_
         refine AW.sr ?_
         refine AO.c (Calm.load 0 rfl rfl rfl (At.cast At.here rfl) ag30 sz30) ?_
         refine AO.c (Calm.load 0 rfl rfl rfl (At.cast At.here rfl) ag30 sz30) ?_
         obtain ⟨t44, et44, h⟩ := of_bind h
         refine AO.callS [(e30 p0), (e30 p0)] (.tup [(eBool t44.1), (eStr t44.2.1), (eI64 t44.2.2)]) 112 rfl (by decide) ok44 rfl rfl rfl ⟨rfl, rfl, rfl, rfl, trivial⟩ (lang_Equal_spec et44) ?_
         refine AO.c (Calm.move rfl rfl) ?_
         refine AO.c (Calm.extract rfl rfl rfl) ?_
         refine AO.c (Calm.extract rfl rfl rfl) ?_
         refine AO.c (Calm.extract rfl rfl rfl) ?_
         refine AO.c (Calm.assign rfl rfl) ?_
         refine AO.c (Calm.assign rfl rfl) ?_
         refine AO.c (Calm.assign rfl rfl) ?_
         refine AO.nK [2, 3, 4, 7, 10, 16, 18] ?_
         refine AW.seq ?_
         obtain ⟨b45, hq46, h⟩ := of_bind h
         refine AW.regQM (by rfl) (by decide +kernel) [(6, (eBool b45))] ?_ ?_
         ·refine AQ.c (Calm.move rfl rfl) ?_
          refine AQ.c (x := eBool (decide (t44.2.2 = (0 : Int)))) (Calm.int rfl rfl rfl rfl) ?_
          refine AQ.c (Calm.move rfl rfl) ?_
          rcases of_ite hq46 with ⟨hc47, hq46⟩ | ⟨hc47, hq46⟩
          ·refine AQ.cG rfl rfl (bD (decide_eq_true hc47)) (Calm.move rfl rfl) ?_
           refine AQ.c (Calm.pickT rfl (bD (decide_eq_true hc47)) rfl) ?_
           refine AQ.c (Calm.move rfl rfl) ?_
           rcases of_ite hq46 with ⟨hc48, hq46⟩ | ⟨hc48, hq46⟩
           ·refine AQ.cG rfl rfl (bD hc48) (Calm.move rfl rfl) ?_
            refine AQ.cG rfl rfl (bD hc48) (Calm.not rfl rfl) ?_
            refine AQ.cG rfl rfl (bD hc48) (Calm.move rfl rfl) ?_
            rcases of_ite hq46 with ⟨hc49, hq46⟩ | ⟨hc49, hq46⟩
            ·refine AQ.sF rfl rfl (bD hc49) ?_
             refine AQ.sF rfl rfl (bD hc49) ?_
             refine AQ.sF rfl rfl (bD hc49) ?_
             refine AQ.sF rfl rfl (bD hc49) ?_
             refine AQ.sF rfl rfl (bD hc49) ?_
             refine AQ.sF rfl rfl (bD hc49) ?_
             refine AQ.sF rfl rfl (bD hc49) ?_
             refine AQ.cG rfl rfl (bD hc48) (Calm.pickT rfl (bD hc49) rfl) ?_
             refine AQ.c (Calm.pickT rfl (bD hc48) rfl) ?_
             refine AQ.c (Calm.move rfl rfl) ?_
             refine AQ.cG rfl rfl rfl (Calm.move rfl rfl) ?_
             refine AQ.cG rfl rfl rfl (Calm.not rfl rfl) ?_
             refine AQ.cG rfl rfl rfl (Calm.move rfl rfl) ?_
             rcases of_ite hq46 with ⟨hc50, hq46⟩ | ⟨hc50, hq46⟩
             ·refine AQ.sF rfl rfl (bD hc50) ?_
              refine AQ.sF rfl rfl (bD hc50) ?_
              refine AQ.sF rfl rfl (bD hc50) ?_
              refine AQ.sF rfl rfl (bD hc50) ?_
              refine AQ.cG rfl rfl rfl (Calm.pickT rfl (bD hc50) rfl) ?_
              refine AQ.cG rfl rfl rfl (Calm.move rfl rfl) ?_
              refine AQ.sF rfl rfl rfl ?_
              refine AQ.sF rfl rfl rfl ?_
              refine AQ.sF rfl rfl rfl ?_
              refine AQ.cG rfl rfl rfl (Calm.pickT rfl rfl rfl) ?_
              refine AQ.c (Calm.pickT rfl rfl rfl) ?_
              refine AQ.c (Calm.assign rfl rfl) ?_
              cases hq46
              refine AQ.nilE rfl ?_
              exact ⟨rfl, trivial⟩
             ·refine AQ.cG rfl rfl (bD (eq_false_of_ne_true hc50)) (Calm.load 0 rfl rfl rfl (At.cast At.here rfl) ag30 sz30) ?_
              refine AQ.cG rfl rfl (bD (eq_false_of_ne_true hc50)) (Calm.move rfl rfl) ?_
              obtain ⟨t51, et51, hq46⟩ := of_bind hq46
              refine AQ.cG rfl rfl (bD (eq_false_of_ne_true hc50)) (Calm.call (args := [(e30 p0), (eStr p2)]) rfl rfl ok46 ⟨rfl, rfl, rfl, rfl, trivial⟩ rfl (bosketlaw10_has_spec et51)) ?_
              refine AQ.cG rfl rfl (bD (eq_false_of_ne_true hc50)) (Calm.not rfl rfl) ?_
              refine AQ.cG rfl rfl rfl (Calm.pickF rfl (bD (eq_false_of_ne_true hc50)) rfl) ?_
              refine AQ.cG rfl rfl rfl (Calm.move rfl rfl) ?_
              rcases of_ite hq46 with ⟨hc52, hq46⟩ | ⟨hc52, hq46⟩
              ·refine AQ.sF rfl rfl (bD hc52) ?_
               refine AQ.sF rfl rfl (bD hc52) ?_
               refine AQ.sF rfl rfl (bD hc52) ?_
               refine AQ.cG rfl rfl rfl (Calm.pickT rfl (bD hc52) rfl) ?_
               refine AQ.c (Calm.pickT rfl rfl rfl) ?_
               refine AQ.c (Calm.assign rfl rfl) ?_
               cases hq46
               refine AQ.nilE rfl ?_
               exact ⟨rfl, trivial⟩
              ·refine AQ.cG rfl rfl (bD (eq_false_of_ne_true hc52)) (Calm.load 1 rfl rfl rfl (At.cast At.here rfl) ag30 sz30) ?_
               refine AQ.cG rfl rfl (bD (eq_false_of_ne_true hc52)) (Calm.move rfl rfl) ?_
               obtain ⟨t53, et53, hq46⟩ := of_bind hq46
               refine AQ.cG rfl rfl (bD (eq_false_of_ne_true hc52)) (Calm.call (args := [(e30 p1), (eStr p2)]) rfl rfl ok46 ⟨rfl, rfl, rfl, rfl, trivial⟩ rfl (bosketlaw10_has_spec et53)) ?_
               refine AQ.cG rfl rfl rfl (Calm.pickF rfl (bD (eq_false_of_ne_true hc52)) rfl) ?_
               refine AQ.c (Calm.pickT rfl rfl rfl) ?_
               refine AQ.c (Calm.assign rfl rfl) ?_
               cases hq46
               refine AQ.nilE rfl ?_
               exact ⟨rfl, trivial⟩
            ·refine AQ.cG rfl rfl (bD (eq_false_of_ne_true hc49)) (Calm.load 0 rfl rfl rfl (At.cast At.here rfl) ag30 sz30) ?_
             refine AQ.cG rfl rfl (bD (eq_false_of_ne_true hc49)) (Calm.move rfl rfl) ?_
             obtain ⟨t54, et54, hq46⟩ := of_bind hq46
             refine AQ.cG rfl rfl (bD (eq_false_of_ne_true hc49)) (Calm.call (args := [(e30 p0), (eStr p2)]) rfl rfl ok46 ⟨rfl, rfl, rfl, rfl, trivial⟩ rfl (bosketlaw10_has_spec et54)) ?_
             refine AQ.cG rfl rfl (bD (eq_false_of_ne_true hc49)) (Calm.load 1 rfl rfl rfl (At.cast At.here rfl) ag30 sz30) ?_
             refine AQ.cG rfl rfl (bD (eq_false_of_ne_true hc49)) (Calm.move rfl rfl) ?_
             obtain ⟨t55, et55, hq46⟩ := of_bind hq46
             refine AQ.cG rfl rfl (bD (eq_false_of_ne_true hc49)) (Calm.call (args := [(e30 p1), (eStr p2)]) rfl rfl ok46 ⟨rfl, rfl, rfl, rfl, trivial⟩ rfl (bosketlaw10_has_spec et55)) ?_
             refine AQ.cG (x := eBool (t54 == t55)) rfl rfl (bD (eq_false_of_ne_true hc49)) (Calm.boolEq rfl rfl rfl Try.underlying4) ?_
             refine AQ.cG rfl rfl (bD hc48) (Calm.pickF rfl (bD (eq_false_of_ne_true hc49)) rfl) ?_
             refine AQ.c (Calm.pickT rfl (bD hc48) rfl) ?_
             refine AQ.c (Calm.move rfl rfl) ?_
             rcases of_ite hq46 with ⟨hc56, hq46⟩ | ⟨hc56, hq46⟩
             ·refine AQ.cG rfl rfl (bD hc56) (Calm.move rfl rfl) ?_
              refine AQ.cG rfl rfl (bD hc56) (Calm.not rfl rfl) ?_
              refine AQ.cG rfl rfl (bD hc56) (Calm.move rfl rfl) ?_
              rcases of_ite hq46 with ⟨hc57, hq46⟩ | ⟨hc57, hq46⟩
              ·refine AQ.sF rfl rfl (bD hc57) ?_
               refine AQ.sF rfl rfl (bD hc57) ?_
               refine AQ.sF rfl rfl (bD hc57) ?_
               refine AQ.sF rfl rfl (bD hc57) ?_
               refine AQ.cG rfl rfl (bD hc56) (Calm.pickT rfl (bD hc57) rfl) ?_
               refine AQ.cG rfl rfl (bD hc56) (Calm.move rfl rfl) ?_
               refine AQ.sF rfl rfl rfl ?_
               refine AQ.sF rfl rfl rfl ?_
               refine AQ.sF rfl rfl rfl ?_
               refine AQ.cG rfl rfl (bD hc56) (Calm.pickT rfl rfl rfl) ?_
               refine AQ.c (Calm.pickT rfl (bD hc56) rfl) ?_
               refine AQ.c (Calm.assign rfl rfl) ?_
               cases hq46
               refine AQ.nilE rfl ?_
               exact ⟨rfl, trivial⟩
              ·refine AQ.cG rfl rfl (bD (eq_false_of_ne_true hc57)) (Calm.load 0 rfl rfl rfl (At.cast At.here rfl) ag30 sz30) ?_
               refine AQ.cG rfl rfl (bD (eq_false_of_ne_true hc57)) (Calm.move rfl rfl) ?_
               obtain ⟨t58, et58, hq46⟩ := of_bind hq46
               refine AQ.cG rfl rfl (bD (eq_false_of_ne_true hc57)) (Calm.call (args := [(e30 p0), (eStr p2)]) rfl rfl ok46 ⟨rfl, rfl, rfl, rfl, trivial⟩ rfl (bosketlaw10_has_spec et58)) ?_
               refine AQ.cG rfl rfl (bD (eq_false_of_ne_true hc57)) (Calm.not rfl rfl) ?_
               refine AQ.cG rfl rfl (bD hc56) (Calm.pickF rfl (bD (eq_false_of_ne_true hc57)) rfl) ?_
               refine AQ.cG rfl rfl (bD hc56) (Calm.move rfl rfl) ?_
               rcases of_ite hq46 with ⟨hc59, hq46⟩ | ⟨hc59, hq46⟩
               ·refine AQ.sF rfl rfl (bD hc59) ?_
                refine AQ.sF rfl rfl (bD hc59) ?_
                refine AQ.sF rfl rfl (bD hc59) ?_
                refine AQ.cG rfl rfl (bD hc56) (Calm.pickT rfl (bD hc59) rfl) ?_
                refine AQ.c (Calm.pickT rfl (bD hc56) rfl) ?_
                refine AQ.c (Calm.assign rfl rfl) ?_
                cases hq46
                refine AQ.nilE rfl ?_
                exact ⟨rfl, trivial⟩
               ·refine AQ.cG rfl rfl (bD (eq_false_of_ne_true hc59)) (Calm.load 1 rfl rfl rfl (At.cast At.here rfl) ag30 sz30) ?_
                refine AQ.cG rfl rfl (bD (eq_false_of_ne_true hc59)) (Calm.move rfl rfl) ?_
                obtain ⟨t60, et60, hq46⟩ := of_bind hq46
                refine AQ.cG rfl rfl (bD (eq_false_of_ne_true hc59)) (Calm.call (args := [(e30 p1), (eStr p2)]) rfl rfl ok46 ⟨rfl, rfl, rfl, rfl, trivial⟩ rfl (bosketlaw10_has_spec et60)) ?_
                refine AQ.cG rfl rfl (bD hc56) (Calm.pickF rfl (bD (eq_false_of_ne_true hc59)) rfl) ?_
                refine AQ.c (Calm.pickT rfl (bD hc56) rfl) ?_
                refine AQ.c (Calm.assign rfl rfl) ?_
                cases hq46
                refine AQ.nilE rfl ?_
                exact ⟨rfl, trivial⟩
             ·refine AQ.sT rfl rfl (bD (eq_false_of_ne_true hc56)) ?_
              refine AQ.sT rfl rfl (bD (eq_false_of_ne_true hc56)) ?_
              refine AQ.sT rfl rfl (bD (eq_false_of_ne_true hc56)) ?_
              refine AQ.sU rfl rfl rfl ?_
              refine AQ.sU rfl rfl rfl ?_
              refine AQ.sU rfl rfl rfl ?_
              refine AQ.sU rfl rfl rfl ?_
              refine AQ.sT rfl rfl (bD (eq_false_of_ne_true hc56)) ?_
              refine AQ.sT rfl rfl (bD (eq_false_of_ne_true hc56)) ?_
              refine AQ.sU rfl rfl rfl ?_
              refine AQ.sU rfl rfl rfl ?_
              refine AQ.sU rfl rfl rfl ?_
              refine AQ.sT rfl rfl (bD (eq_false_of_ne_true hc56)) ?_
              refine AQ.c (Calm.pickF rfl (bD (eq_false_of_ne_true hc56)) rfl) ?_
              refine AQ.c (Calm.assign rfl rfl) ?_
              cases hq46
              refine AQ.nilE rfl ?_
              exact ⟨rfl, trivial⟩
           ·refine AQ.sT rfl rfl (bD (eq_false_of_ne_true hc48)) ?_
            refine AQ.sT rfl rfl (bD (eq_false_of_ne_true hc48)) ?_
            refine AQ.sT rfl rfl (bD (eq_false_of_ne_true hc48)) ?_
            refine AQ.sU rfl rfl rfl ?_
            refine AQ.sU rfl rfl rfl ?_
            refine AQ.sU rfl rfl rfl ?_
            refine AQ.sU rfl rfl rfl ?_
            refine AQ.sU rfl rfl rfl ?_
            refine AQ.sU rfl rfl rfl ?_
            refine AQ.sU rfl rfl rfl ?_
            refine AQ.sT rfl rfl (bD (eq_false_of_ne_true hc48)) ?_
            refine AQ.c (Calm.pickF rfl (bD (eq_false_of_ne_true hc48)) rfl) ?_
            refine AQ.c (Calm.move rfl rfl) ?_
            refine AQ.sT rfl rfl rfl ?_
            refine AQ.sT rfl rfl rfl ?_
            refine AQ.sT rfl rfl rfl ?_
            refine AQ.sU rfl rfl rfl ?_
            refine AQ.sU rfl rfl rfl ?_
            refine AQ.sU rfl rfl rfl ?_
            refine AQ.sU rfl rfl rfl ?_
            refine AQ.sT rfl rfl rfl ?_
            refine AQ.sT rfl rfl rfl ?_
            refine AQ.sU rfl rfl rfl ?_
            refine AQ.sU rfl rfl rfl ?_
            refine AQ.sU rfl rfl rfl ?_
            refine AQ.sT rfl rfl rfl ?_
            refine AQ.c (Calm.pickF rfl rfl rfl) ?_
            refine AQ.c (Calm.assign rfl rfl) ?_
            cases hq46
            refine AQ.nilE rfl ?_
            exact ⟨rfl, trivial⟩
          ·refine AQ.sT rfl rfl (bD (decide_eq_false hc47)) ?_
           refine AQ.c (Calm.pickF rfl (bD (decide_eq_false hc47)) rfl) ?_
           refine AQ.c (Calm.move rfl rfl) ?_
           refine AQ.sT rfl rfl rfl ?_
           refine AQ.sT rfl rfl rfl ?_
           refine AQ.sT rfl rfl rfl ?_
           refine AQ.sU rfl rfl rfl ?_
           refine AQ.sU rfl rfl rfl ?_
           refine AQ.sU rfl rfl rfl ?_
           refine AQ.sU rfl rfl rfl ?_
           refine AQ.sU rfl rfl rfl ?_
           refine AQ.sU rfl rfl rfl ?_
           refine AQ.sU rfl rfl rfl ?_
           refine AQ.sT rfl rfl rfl ?_
           refine AQ.c (Calm.pickF rfl rfl rfl) ?_
           refine AQ.c (Calm.move rfl rfl) ?_
           refine AQ.sT rfl rfl rfl ?_
           refine AQ.sT rfl rfl rfl ?_
           refine AQ.sT rfl rfl rfl ?_
           refine AQ.sU rfl rfl rfl ?_
           refine AQ.sU rfl rfl rfl ?_
           refine AQ.sU rfl rfl rfl ?_
           refine AQ.sU rfl rfl rfl ?_
           refine AQ.sT rfl rfl rfl ?_
           refine AQ.sT rfl rfl rfl ?_
           refine AQ.sU rfl rfl rfl ?_
           refine AQ.sU rfl rfl rfl ?_
           refine AQ.sU rfl rfl rfl ?_
           refine AQ.sT rfl rfl rfl ?_
           refine AQ.c (Calm.pickF rfl rfl rfl) ?_
           refine AQ.c (Calm.assign rfl rfl) ?_
           cases hq46
           refine AQ.nilE rfl ?_
           exact ⟨rfl, trivial⟩
         ·refine AW.rH [6] (H' := []) (Sub.nil _) ?_
          have hr := Option.some.inj h
          subst hr
          exact ⟨[(eBool b45)], ⟨rfl, rfl, trivial⟩, rfl⟩
end Go.Avl.T5
/- bosket/bosketref02.Has; printed by avmain.py. -/
namespace Go.Avl.T5
open Go Go.RowKit Go.Proofs Go.Avl
set_option linter.unusedVariables false
set_option maxRecDepth 100000
set_option maxHeartbeats 4000000
attribute [local irreducible] AW AO AQ Spec SpecH Calm

end Go.Avl.T5
/- bosket/bosketref02.Class; printed by avmain.py. -/
namespace Go.Avl.T5
open Go Go.RowKit Go.Proofs Go.Avl
set_option linter.unusedVariables false
set_option maxRecDepth 100000
set_option maxHeartbeats 4000000
attribute [local irreducible] AW AO AQ Spec SpecH Calm

end Go.Avl.T5
/- bosket/bosketref06.Right; printed by avmain.py. -/
namespace Go.Avl.T5
open Go Go.RowKit Go.Proofs Go.Avl
set_option linter.unusedVariables false
set_option maxRecDepth 100000
set_option maxHeartbeats 4000000
attribute [local irreducible] AW AO AQ Spec SpecH Calm

end Go.Avl.T5
/- bosket/nfa.Right; printed by avmain.py. -/
namespace Go.Avl.T5
open Go Go.RowKit Go.Proofs Go.Avl
set_option linter.unusedVariables false
set_option maxRecDepth 100000
set_option maxHeartbeats 4000000
attribute [local irreducible] AW AO AQ Spec SpecH Calm

end Go.Avl.T5
/- bosket/bosketref06.Same; printed by avmain.py. -/
namespace Go.Avl.T5
open Go Go.RowKit Go.Proofs Go.Avl
set_option linter.unusedVariables false
set_option maxRecDepth 100000
set_option maxHeartbeats 4000000
attribute [local irreducible] AW AO AQ Spec SpecH Calm

end Go.Avl.T5
/- bosket/nfa.Close; printed by avmain.py. -/
namespace Go.Avl.T5
open Go Go.RowKit Go.Proofs Go.Avl
set_option linter.unusedVariables false
set_option maxRecDepth 100000
set_option maxHeartbeats 4000000
attribute [local irreducible] AW AO AQ Spec SpecH Calm

end Go.Avl.T5
/- bosket/bosketref06.Close; printed by avmain.py. -/
namespace Go.Avl.T5
open Go Go.RowKit Go.Proofs Go.Avl
set_option linter.unusedVariables false
set_option maxRecDepth 100000
set_option maxHeartbeats 4000000
attribute [local irreducible] AW AO AQ Spec SpecH Calm

end Go.Avl.T5
/- bosket/nfa.Move; printed by avmain.py. -/
namespace Go.Avl.T5
open Go Go.RowKit Go.Proofs Go.Avl
set_option linter.unusedVariables false
set_option maxRecDepth 100000
set_option maxHeartbeats 4000000
attribute [local irreducible] AW AO AQ Spec SpecH Calm

end Go.Avl.T5
/- bosket/bosketref06.Move; printed by avmain.py. -/
namespace Go.Avl.T5
open Go Go.RowKit Go.Proofs Go.Avl
set_option linter.unusedVariables false
set_option maxRecDepth 100000
set_option maxHeartbeats 4000000
attribute [local irreducible] AW AO AQ Spec SpecH Calm

end Go.Avl.T5
/- bosket/bosketref06.Run; printed by avmain.py. -/
namespace Go.Avl.T5
open Go Go.RowKit Go.Proofs Go.Avl
set_option linter.unusedVariables false
set_option maxRecDepth 100000
set_option maxHeartbeats 4000000
attribute [local irreducible] AW AO AQ Spec SpecH Calm

end Go.Avl.T5
/- bosket/nfa.Sets; printed by avmain.py. -/
namespace Go.Avl.T5
open Go Go.RowKit Go.Proofs Go.Avl
set_option linter.unusedVariables false
set_option maxRecDepth 100000
set_option maxHeartbeats 4000000
attribute [local irreducible] AW AO AQ Spec SpecH Calm

end Go.Avl.T5
/- bosket/bosketref07.Reps; printed by avmain.py. -/
namespace Go.Avl.T5
open Go Go.RowKit Go.Proofs Go.Avl
set_option linter.unusedVariables false
set_option maxRecDepth 100000
set_option maxHeartbeats 4000000
attribute [local irreducible] AW AO AQ Spec SpecH Calm

end Go.Avl.T5
/- bosket/bosketref07.SameRows; printed by avmain.py. -/
namespace Go.Avl.T5
open Go Go.RowKit Go.Proofs Go.Avl
set_option linter.unusedVariables false
set_option maxRecDepth 100000
set_option maxHeartbeats 4000000
attribute [local irreducible] AW AO AQ Spec SpecH Calm

end Go.Avl.T5
/- bosket/bosketref01.Same; printed by avmain.py. -/
namespace Go.Avl.T5
open Go Go.RowKit Go.Proofs Go.Avl
set_option linter.unusedVariables false
set_option maxRecDepth 100000
set_option maxHeartbeats 4000000
attribute [local irreducible] AW AO AQ Spec SpecH Calm

end Go.Avl.T5
/- bosket/bosketref07.Mark; printed by avmain.py. -/
namespace Go.Avl.T5
open Go Go.RowKit Go.Proofs Go.Avl
set_option linter.unusedVariables false
set_option maxRecDepth 100000
set_option maxHeartbeats 4000000
attribute [local irreducible] AW AO AQ Spec SpecH Calm

end Go.Avl.T5
/- bosket/bosketref07.any; printed by avmain.py. -/
namespace Go.Avl.T5
open Go Go.RowKit Go.Proofs Go.Avl
set_option linter.unusedVariables false
set_option maxRecDepth 100000
set_option maxHeartbeats 4000000
attribute [local irreducible] AW AO AQ Spec SpecH Calm

end Go.Avl.T5
/- bosket/subset.key; printed by avmain.py. -/
namespace Go.Avl.T5
open Go Go.RowKit Go.Proofs Go.Avl
set_option linter.unusedVariables false
set_option maxRecDepth 100000
set_option maxHeartbeats 4000000
attribute [local irreducible] AW AO AQ Spec SpecH Calm

end Go.Avl.T5
/- bosket/subset.markOf; printed by avmain.py. -/
namespace Go.Avl.T5
open Go Go.RowKit Go.Proofs Go.Avl
set_option linter.unusedVariables false
set_option maxRecDepth 100000
set_option maxHeartbeats 4000000
attribute [local irreducible] AW AO AQ Spec SpecH Calm

end Go.Avl.T5
/- (*bosket/subset.builder).mark; printed by avmain.py. -/
namespace Go.Avl.T5
open Go Go.RowKit Go.Proofs Go.Avl
set_option linter.unusedVariables false
set_option maxRecDepth 100000
set_option maxHeartbeats 4000000
attribute [local irreducible] AW AO AQ Spec SpecH Calm

end Go.Avl.T5
/- bosket/bosketref08.Reached; printed by avmain.py. -/
namespace Go.Avl.T5
open Go Go.RowKit Go.Proofs Go.Avl
set_option linter.unusedVariables false
set_option maxRecDepth 100000
set_option maxHeartbeats 4000000
attribute [local irreducible] AW AO AQ Spec SpecH Calm

end Go.Avl.T5
/- bosket/bosketref08.Alive; printed by avmain.py. -/
namespace Go.Avl.T5
open Go Go.RowKit Go.Proofs Go.Avl
set_option linter.unusedVariables false
set_option maxRecDepth 100000
set_option maxHeartbeats 4000000
attribute [local irreducible] AW AO AQ Spec SpecH Calm

end Go.Avl.T5
/- bosket/bosketref08.Trim; printed by avmain.py. -/
namespace Go.Avl.T5
open Go Go.RowKit Go.Proofs Go.Avl
set_option linter.unusedVariables false
set_option maxRecDepth 100000
set_option maxHeartbeats 4000000
set_option linter.unusedSimpArgs false
attribute [local irreducible] AW AO AQ Spec SpecH Calm

end Go.Avl.T5
/- bosket/dfa.Order; printed by avmain.py. -/
namespace Go.Avl.T5
open Go Go.RowKit Go.Proofs Go.Avl
set_option linter.unusedVariables false
set_option maxRecDepth 100000
set_option maxHeartbeats 4000000
set_option linter.unusedSimpArgs false
attribute [local irreducible] AW AO AQ Spec SpecH Calm

end Go.Avl.T5
/- bosket/bosketref08.place; printed by avmain.py. -/
namespace Go.Avl.T5
open Go Go.RowKit Go.Proofs Go.Avl
set_option linter.unusedVariables false
set_option maxRecDepth 100000
set_option maxHeartbeats 4000000
attribute [local irreducible] AW AO AQ Spec SpecH Calm

end Go.Avl.T5
/- bosket/bosketref08.Order; printed by avmain.py. -/
namespace Go.Avl.T5
open Go Go.RowKit Go.Proofs Go.Avl
set_option linter.unusedVariables false
set_option maxRecDepth 100000
set_option maxHeartbeats 4000000
set_option linter.unusedSimpArgs false
attribute [local irreducible] AW AO AQ Spec SpecH Calm

end Go.Avl.T5
/- bosket/dfa.Run; printed by avmain.py. -/
namespace Go.Avl.T5
open Go Go.RowKit Go.Proofs Go.Avl
set_option linter.unusedVariables false
set_option maxRecDepth 100000
set_option maxHeartbeats 4000000
attribute [local irreducible] AW AO AQ Spec SpecH Calm

end Go.Avl.T5
/- bosket/dfa.Has; printed by avmain.py. -/
namespace Go.Avl.T5
open Go Go.RowKit Go.Proofs Go.Avl
set_option linter.unusedVariables false
set_option maxRecDepth 100000
set_option maxHeartbeats 4000000
attribute [local irreducible] AW AO AQ Spec SpecH Calm

end Go.Avl.T5
/- bosket/mini.word; printed by avmain.py. -/
namespace Go.Avl.T5
open Go Go.RowKit Go.Proofs Go.Avl
set_option linter.unusedVariables false
set_option maxRecDepth 100000
set_option maxHeartbeats 4000000
attribute [local irreducible] AW AO AQ Spec SpecH Calm

end Go.Avl.T5
/- bosket/mini.row; printed by avmain.py. -/
namespace Go.Avl.T5
open Go Go.RowKit Go.Proofs Go.Avl
set_option linter.unusedVariables false
set_option maxRecDepth 100000
set_option maxHeartbeats 4000000
attribute [local irreducible] AW AO AQ Spec SpecH Calm

end Go.Avl.T5
/- bosket/mini.split; printed by avmain.py. -/
namespace Go.Avl.T5
open Go Go.RowKit Go.Proofs Go.Avl
set_option linter.unusedVariables false
set_option maxRecDepth 100000
set_option maxHeartbeats 4000000
attribute [local irreducible] AW AO AQ Spec SpecH Calm

end Go.Avl.T5
/- bosket/mini.blocks; printed by avmain.py. -/
namespace Go.Avl.T5
open Go Go.RowKit Go.Proofs Go.Avl
set_option linter.unusedVariables false
set_option maxRecDepth 100000
set_option maxHeartbeats 4000000
attribute [local irreducible] AW AO AQ Spec SpecH Calm

end Go.Avl.T5
/- bosket/mini.Blocks; printed by avmain.py. -/
namespace Go.Avl.T5
open Go Go.RowKit Go.Proofs Go.Avl
set_option linter.unusedVariables false
set_option maxRecDepth 100000
set_option maxHeartbeats 4000000
attribute [local irreducible] AW AO AQ Spec SpecH Calm

end Go.Avl.T5
/- bosket/mini.column; printed by avmain.py. -/
namespace Go.Avl.T5
open Go Go.RowKit Go.Proofs Go.Avl
set_option linter.unusedVariables false
set_option maxRecDepth 100000
set_option maxHeartbeats 4000000
attribute [local irreducible] AW AO AQ Spec SpecH Calm

end Go.Avl.T5
/- bosket/mini.classes; printed by avmain.py. -/
namespace Go.Avl.T5
open Go Go.RowKit Go.Proofs Go.Avl
set_option linter.unusedVariables false
set_option maxRecDepth 100000
set_option maxHeartbeats 4000000
attribute [local irreducible] AW AO AQ Spec SpecH Calm

end Go.Avl.T5
/- bosket/mini.Of; printed by avmain.py. -/
namespace Go.Avl.T5
open Go Go.RowKit Go.Proofs Go.Avl
set_option linter.unusedVariables false
set_option maxRecDepth 100000
set_option maxHeartbeats 4000000
set_option linter.unusedSimpArgs false
attribute [local irreducible] AW AO AQ Spec SpecH Calm

end Go.Avl.T5
