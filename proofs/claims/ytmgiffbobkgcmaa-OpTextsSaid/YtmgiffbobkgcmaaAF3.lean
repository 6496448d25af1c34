/- Parts: T2f44, T2f46, T2f86, T2f67, T2f48, T2f88, T2f69, T2f47, T2f39, T2f45, T2f49, T2f9, T2f72, T2f50, T2f51, T2f52, T2f10, T2f53, T2f54, T2f11. -/
import Derived.Test.YtmgiffbobkgcmaaAF1
import Derived.Test.YtmgiffbobkgcmaaAF2
import Derived.Test.YtmgiffbobkgcmaaAv3
import Derived.RangeFuncBound
/- bosket/bosketref47.Right; printed by avmain.py. -/
namespace Go.Avl.T2
open Go Go.RowKit Go.Proofs Go.Avl
set_option linter.unusedVariables false
set_option maxRecDepth 100000
set_option maxHeartbeats 4000000
attribute [local irreducible] AW AO AQ Spec SpecH Calm

def bosketref47_Right (k : Nat) (p0 : S60) : Option Bool :=
  (bosketref47_Form k p0.f0).bind fun t3 =>
  Option.bind (α := Bool) (if (1 : Int) ≤ p0.f0 then if p0.f0 ≤ (11 : Int) then if t3.2.1 = true then if t3.2.2 = true then some (decide ((p0.f2.size : Int) ≤ (65536 : Int)))
  else if p0.f1 = (0 : Int) then some (decide ((p0.f2.size : Int) ≤ (65536 : Int)))
  else some (false)
  else if p0.f2 = (ByteArray.mk #[]) then if t3.2.2 = true then some (decide ((p0.f2.size : Int) ≤ (65536 : Int)))
  else if p0.f1 = (0 : Int) then some (decide ((p0.f2.size : Int) ≤ (65536 : Int)))
  else some (false)
  else some (false)
  else some (false)
  else some (false)) fun b4 =>
  some (b4)
theorem bosketref47_Right_spec {k : Nat} {p0 : S60} {r : Bool} (h : bosketref47_Right k p0 = some r) : Spec Try.prog 44 [(e60 p0)] (eBool r) := by
  rw [bosketref47_Right.eq_1] at h
  refine Spec.intro (res := [.tmp 2]) Try.func44 rfl rfl rfl (Nat.le_of_ble_eq_true rfl) ?_
  refine AW.sr ?_
  refine AO.box rfl 1 rfl (by decide) rfl rfl rfl fun n2 => ?_
  refine AO.c (Calm.assign rfl rfl) ?_
  refine AO.nK [1] ?_
  refine AW.sr ?_
  refine AO.c (x := .ptr n2 0) (Calm.fldPtr rfl rfl Try.underlying60 rfl sz3 _ rfl) ?_
  refine AO.c (Calm.load 0 rfl rfl rfl (At.cast (At.fld0 At.here) rfl) ag3 sz3) ?_
  obtain ⟨t3, et3, h⟩ := of_bind h
  refine AO.callS [(eI64 p0.f0)] (.tup [(eStr t3.1), (eBool t3.2.1), (eBool t3.2.2)]) 9 rfl (by decide) ok41 rfl rfl rfl ⟨rfl, rfl, trivial⟩ (bosketref47_Form_spec et3) ?_
  refine AO.c (Calm.move rfl rfl) ?_
  refine AO.c (Calm.extract rfl rfl rfl) ?_
  refine AO.c (Calm.extract rfl rfl rfl) ?_
  refine AO.c (Calm.extract rfl rfl rfl) ?_
  refine AO.c (Calm.assign rfl rfl) ?_
  refine AO.c (Calm.assign rfl rfl) ?_
  refine AO.c (Calm.assign rfl rfl) ?_
  refine AO.nK [1, 4, 5] ?_
  refine AW.seq ?_
  obtain ⟨b4, hq5, h⟩ := of_bind h
  refine AW.regM [(2, (eBool b4))] [] ?_ ?_
  ·refine AO.c (x := .ptr n2 0) (Calm.fldPtr rfl rfl Try.underlying60 rfl sz3 _ rfl) ?_
   refine AO.c (Calm.load 0 rfl rfl rfl (At.cast (At.fld0 At.here) rfl) ag3 sz3) ?_
   refine AO.c (x := eBool (decide ((1 : Int) ≤ p0.f0))) (Calm.int rfl rfl rfl rfl) ?_
   refine AO.c (Calm.move rfl rfl) ?_
   rcases of_ite hq5 with ⟨hc6, hq5⟩ | ⟨hc6, hq5⟩
   ·refine AO.cG (x := .ptr n2 0) rfl rfl (bD (decide_eq_true hc6)) (Calm.fldPtr rfl rfl Try.underlying60 rfl sz3 _ rfl) ?_
    refine AO.cG rfl rfl (bD (decide_eq_true hc6)) (Calm.load 0 rfl rfl rfl (At.cast (At.fld0 At.here) rfl) ag3 sz3) ?_
    refine AO.cG (x := eBool (decide (p0.f0 ≤ (11 : Int)))) rfl rfl (bD (decide_eq_true hc6)) (Calm.int rfl rfl rfl rfl) ?_
    refine AO.c (Calm.pickT rfl (bD (decide_eq_true hc6)) rfl) ?_
    refine AO.c (Calm.move rfl rfl) ?_
    rcases of_ite hq5 with ⟨hc7, hq5⟩ | ⟨hc7, hq5⟩
    ·refine AO.cG rfl rfl (bD (decide_eq_true hc7)) (Calm.move rfl rfl) ?_
     refine AO.cG rfl rfl (bD (decide_eq_true hc7)) (Calm.move rfl rfl) ?_
     rcases of_ite hq5 with ⟨hc8, hq5⟩ | ⟨hc8, hq5⟩
     ·refine AO.sF rfl rfl (bD hc8) ?_
      refine AO.sF rfl rfl (bD hc8) ?_
      refine AO.sF rfl rfl (bD hc8) ?_
      refine AO.cG rfl rfl (bD (decide_eq_true hc7)) (Calm.pickT rfl (bD hc8) rfl) ?_
      refine AO.c (Calm.pickT rfl (bD (decide_eq_true hc7)) rfl) ?_
      refine AO.c (Calm.move rfl rfl) ?_
      refine AO.cG rfl rfl rfl (Calm.move rfl rfl) ?_
      refine AO.cG rfl rfl rfl (Calm.move rfl rfl) ?_
      rcases of_ite hq5 with ⟨hc9, hq5⟩ | ⟨hc9, hq5⟩
      ·refine AO.sF rfl rfl (bD hc9) ?_
       refine AO.sF rfl rfl (bD hc9) ?_
       refine AO.sF rfl rfl (bD hc9) ?_
       refine AO.cG rfl rfl rfl (Calm.pickT rfl (bD hc9) rfl) ?_
       refine AO.c (Calm.pickT rfl rfl rfl) ?_
       refine AO.c (Calm.move rfl rfl) ?_
       refine AO.cG (x := .ptr n2 2) rfl rfl rfl (Calm.fldPtr rfl rfl Try.underlying60 rfl sz9 _ rfl) ?_
       refine AO.cG rfl rfl rfl (Calm.load 0 rfl rfl rfl (At.cast (At.fldS (At.fldS (At.fld0 At.here))) rfl) ag9 sz9) ?_
       refine AO.cG rfl rfl rfl (Calm.lenStr rfl rfl Try.underlying9) ?_
       refine AO.cG (x := eBool (decide ((p0.f2.size : Int) ≤ (65536 : Int)))) rfl rfl rfl (Calm.int rfl rfl rfl rfl) ?_
       refine AO.c (Calm.pickT rfl rfl rfl) ?_
       refine AO.c (Calm.assign rfl rfl) ?_
       cases hq5
       refine AO.nilE ⟨rfl, rfl⟩ ?_ ?_
       · exact ⟨rfl, trivial⟩
       · exact (Sub.nil _)
      ·refine AO.cG (x := .ptr n2 1) rfl rfl (bD (eq_false_of_ne_true hc9)) (Calm.fldPtr rfl rfl Try.underlying60 rfl sz3 _ rfl) ?_
       refine AO.cG rfl rfl (bD (eq_false_of_ne_true hc9)) (Calm.load 0 rfl rfl rfl (At.cast (At.fldS (At.fld0 At.here)) rfl) ag3 sz3) ?_
       refine AO.cG (x := eBool (decide (p0.f1 = (0 : Int)))) rfl rfl (bD (eq_false_of_ne_true hc9)) (Calm.int rfl rfl rfl rfl) ?_
       refine AO.cG rfl rfl rfl (Calm.pickF rfl (bD (eq_false_of_ne_true hc9)) rfl) ?_
       refine AO.c (Calm.pickT rfl rfl rfl) ?_
       refine AO.c (Calm.move rfl rfl) ?_
       rcases of_ite hq5 with ⟨hc10, hq5⟩ | ⟨hc10, hq5⟩
       ·refine AO.cG (x := .ptr n2 2) rfl rfl (bD (decide_eq_true hc10)) (Calm.fldPtr rfl rfl Try.underlying60 rfl sz9 _ rfl) ?_
        refine AO.cG rfl rfl (bD (decide_eq_true hc10)) (Calm.load 0 rfl rfl rfl (At.cast (At.fldS (At.fldS (At.fld0 At.here))) rfl) ag9 sz9) ?_
        refine AO.cG rfl rfl (bD (decide_eq_true hc10)) (Calm.lenStr rfl rfl Try.underlying9) ?_
        refine AO.cG (x := eBool (decide ((p0.f2.size : Int) ≤ (65536 : Int)))) rfl rfl (bD (decide_eq_true hc10)) (Calm.int rfl rfl rfl rfl) ?_
        refine AO.c (Calm.pickT rfl (bD (decide_eq_true hc10)) rfl) ?_
        refine AO.c (Calm.assign rfl rfl) ?_
        cases hq5
        refine AO.nilE ⟨rfl, rfl⟩ ?_ ?_
        · exact ⟨rfl, trivial⟩
        · exact (Sub.nil _)
       ·refine AO.sT rfl rfl (bD (decide_eq_false hc10)) ?_
        refine AO.sT rfl rfl (bD (decide_eq_false hc10)) ?_
        refine AO.sT rfl rfl (bD (decide_eq_false hc10)) ?_
        refine AO.sT rfl rfl (bD (decide_eq_false hc10)) ?_
        refine AO.c (Calm.pickF rfl (bD (decide_eq_false hc10)) rfl) ?_
        refine AO.c (Calm.assign rfl rfl) ?_
        cases hq5
        refine AO.nilE ⟨rfl, rfl⟩ ?_ ?_
        · exact ⟨rfl, trivial⟩
        · exact (Sub.nil _)
     ·refine AO.cG (x := .ptr n2 2) rfl rfl (bD (eq_false_of_ne_true hc8)) (Calm.fldPtr rfl rfl Try.underlying60 rfl sz9 _ rfl) ?_
      refine AO.cG rfl rfl (bD (eq_false_of_ne_true hc8)) (Calm.load 0 rfl rfl rfl (At.cast (At.fldS (At.fldS (At.fld0 At.here))) rfl) ag9 sz9) ?_
      refine AO.cG (x := eBool (decide (p0.f2 = (ByteArray.mk #[])))) rfl rfl (bD (eq_false_of_ne_true hc8)) (Calm.str rfl rfl rfl rfl) ?_
      refine AO.cG rfl rfl (bD (decide_eq_true hc7)) (Calm.pickF rfl (bD (eq_false_of_ne_true hc8)) rfl) ?_
      refine AO.c (Calm.pickT rfl (bD (decide_eq_true hc7)) rfl) ?_
      refine AO.c (Calm.move rfl rfl) ?_
      rcases of_ite hq5 with ⟨hc11, hq5⟩ | ⟨hc11, hq5⟩
      ·refine AO.cG rfl rfl (bD (decide_eq_true hc11)) (Calm.move rfl rfl) ?_
       refine AO.cG rfl rfl (bD (decide_eq_true hc11)) (Calm.move rfl rfl) ?_
       rcases of_ite hq5 with ⟨hc12, hq5⟩ | ⟨hc12, hq5⟩
       ·refine AO.sF rfl rfl (bD hc12) ?_
        refine AO.sF rfl rfl (bD hc12) ?_
        refine AO.sF rfl rfl (bD hc12) ?_
        refine AO.cG rfl rfl (bD (decide_eq_true hc11)) (Calm.pickT rfl (bD hc12) rfl) ?_
        refine AO.c (Calm.pickT rfl (bD (decide_eq_true hc11)) rfl) ?_
        refine AO.c (Calm.move rfl rfl) ?_
        refine AO.cG (x := .ptr n2 2) rfl rfl rfl (Calm.fldPtr rfl rfl Try.underlying60 rfl sz9 _ rfl) ?_
        refine AO.cG rfl rfl rfl (Calm.load 0 rfl rfl rfl (At.cast (At.fldS (At.fldS (At.fld0 At.here))) rfl) ag9 sz9) ?_
        refine AO.cG rfl rfl rfl (Calm.lenStr rfl rfl Try.underlying9) ?_
        refine AO.cG (x := eBool (decide ((p0.f2.size : Int) ≤ (65536 : Int)))) rfl rfl rfl (Calm.int rfl rfl rfl rfl) ?_
        refine AO.c (Calm.pickT rfl rfl rfl) ?_
        refine AO.c (Calm.assign rfl rfl) ?_
        cases hq5
        refine AO.nilE ⟨rfl, rfl⟩ ?_ ?_
        · exact ⟨rfl, trivial⟩
        · exact (Sub.nil _)
       ·refine AO.cG (x := .ptr n2 1) rfl rfl (bD (eq_false_of_ne_true hc12)) (Calm.fldPtr rfl rfl Try.underlying60 rfl sz3 _ rfl) ?_
        refine AO.cG rfl rfl (bD (eq_false_of_ne_true hc12)) (Calm.load 0 rfl rfl rfl (At.cast (At.fldS (At.fld0 At.here)) rfl) ag3 sz3) ?_
        refine AO.cG (x := eBool (decide (p0.f1 = (0 : Int)))) rfl rfl (bD (eq_false_of_ne_true hc12)) (Calm.int rfl rfl rfl rfl) ?_
        refine AO.cG rfl rfl (bD (decide_eq_true hc11)) (Calm.pickF rfl (bD (eq_false_of_ne_true hc12)) rfl) ?_
        refine AO.c (Calm.pickT rfl (bD (decide_eq_true hc11)) rfl) ?_
        refine AO.c (Calm.move rfl rfl) ?_
        rcases of_ite hq5 with ⟨hc13, hq5⟩ | ⟨hc13, hq5⟩
        ·refine AO.cG (x := .ptr n2 2) rfl rfl (bD (decide_eq_true hc13)) (Calm.fldPtr rfl rfl Try.underlying60 rfl sz9 _ rfl) ?_
         refine AO.cG rfl rfl (bD (decide_eq_true hc13)) (Calm.load 0 rfl rfl rfl (At.cast (At.fldS (At.fldS (At.fld0 At.here))) rfl) ag9 sz9) ?_
         refine AO.cG rfl rfl (bD (decide_eq_true hc13)) (Calm.lenStr rfl rfl Try.underlying9) ?_
         refine AO.cG (x := eBool (decide ((p0.f2.size : Int) ≤ (65536 : Int)))) rfl rfl (bD (decide_eq_true hc13)) (Calm.int rfl rfl rfl rfl) ?_
         refine AO.c (Calm.pickT rfl (bD (decide_eq_true hc13)) rfl) ?_
         refine AO.c (Calm.assign rfl rfl) ?_
         cases hq5
         refine AO.nilE ⟨rfl, rfl⟩ ?_ ?_
         · exact ⟨rfl, trivial⟩
         · exact (Sub.nil _)
        ·refine AO.sT rfl rfl (bD (decide_eq_false hc13)) ?_
         refine AO.sT rfl rfl (bD (decide_eq_false hc13)) ?_
         refine AO.sT rfl rfl (bD (decide_eq_false hc13)) ?_
         refine AO.sT rfl rfl (bD (decide_eq_false hc13)) ?_
         refine AO.c (Calm.pickF rfl (bD (decide_eq_false hc13)) rfl) ?_
         refine AO.c (Calm.assign rfl rfl) ?_
         cases hq5
         refine AO.nilE ⟨rfl, rfl⟩ ?_ ?_
         · exact ⟨rfl, trivial⟩
         · exact (Sub.nil _)
      ·refine AO.sT rfl rfl (bD (decide_eq_false hc11)) ?_
       refine AO.sT rfl rfl (bD (decide_eq_false hc11)) ?_
       refine AO.sU rfl rfl rfl ?_
       refine AO.sU rfl rfl rfl ?_
       refine AO.sU rfl rfl rfl ?_
       refine AO.sT rfl rfl (bD (decide_eq_false hc11)) ?_
       refine AO.c (Calm.pickF rfl (bD (decide_eq_false hc11)) rfl) ?_
       refine AO.c (Calm.move rfl rfl) ?_
       refine AO.sT rfl rfl rfl ?_
       refine AO.sT rfl rfl rfl ?_
       refine AO.sT rfl rfl rfl ?_
       refine AO.sT rfl rfl rfl ?_
       refine AO.c (Calm.pickF rfl rfl rfl) ?_
       refine AO.c (Calm.assign rfl rfl) ?_
       cases hq5
       refine AO.nilE ⟨rfl, rfl⟩ ?_ ?_
       · exact ⟨rfl, trivial⟩
       · exact (Sub.nil _)
    ·refine AO.sT rfl rfl (bD (decide_eq_false hc7)) ?_
     refine AO.sT rfl rfl (bD (decide_eq_false hc7)) ?_
     refine AO.sU rfl rfl rfl ?_
     refine AO.sU rfl rfl rfl ?_
     refine AO.sU rfl rfl rfl ?_
     refine AO.sT rfl rfl (bD (decide_eq_false hc7)) ?_
     refine AO.c (Calm.pickF rfl (bD (decide_eq_false hc7)) rfl) ?_
     refine AO.c (Calm.move rfl rfl) ?_
     refine AO.sT rfl rfl rfl ?_
     refine AO.sT rfl rfl rfl ?_
     refine AO.sU rfl rfl rfl ?_
     refine AO.sU rfl rfl rfl ?_
     refine AO.sU rfl rfl rfl ?_
     refine AO.sT rfl rfl rfl ?_
     refine AO.c (Calm.pickF rfl rfl rfl) ?_
     refine AO.c (Calm.move rfl rfl) ?_
     refine AO.sT rfl rfl rfl ?_
     refine AO.sT rfl rfl rfl ?_
     refine AO.sT rfl rfl rfl ?_
     refine AO.sT rfl rfl rfl ?_
     refine AO.c (Calm.pickF rfl rfl rfl) ?_
     refine AO.c (Calm.assign rfl rfl) ?_
     cases hq5
     refine AO.nilE ⟨rfl, rfl⟩ ?_ ?_
     · exact ⟨rfl, trivial⟩
     · exact (Sub.nil _)
   ·refine AO.sT rfl rfl (bD (decide_eq_false hc6)) ?_
    refine AO.sT rfl rfl (bD (decide_eq_false hc6)) ?_
    refine AO.sT rfl rfl (bD (decide_eq_false hc6)) ?_
    refine AO.c (Calm.pickF rfl (bD (decide_eq_false hc6)) rfl) ?_
    refine AO.c (Calm.move rfl rfl) ?_
    refine AO.sT rfl rfl rfl ?_
    refine AO.sT rfl rfl rfl ?_
    refine AO.sU rfl rfl rfl ?_
    refine AO.sU rfl rfl rfl ?_
    refine AO.sU rfl rfl rfl ?_
    refine AO.sT rfl rfl rfl ?_
    refine AO.c (Calm.pickF rfl rfl rfl) ?_
    refine AO.c (Calm.move rfl rfl) ?_
    refine AO.sT rfl rfl rfl ?_
    refine AO.sT rfl rfl rfl ?_
    refine AO.sU rfl rfl rfl ?_
    refine AO.sU rfl rfl rfl ?_
    refine AO.sU rfl rfl rfl ?_
    refine AO.sT rfl rfl rfl ?_
    refine AO.c (Calm.pickF rfl rfl rfl) ?_
    refine AO.c (Calm.move rfl rfl) ?_
    refine AO.sT rfl rfl rfl ?_
    refine AO.sT rfl rfl rfl ?_
    refine AO.sT rfl rfl rfl ?_
    refine AO.sT rfl rfl rfl ?_
    refine AO.c (Calm.pickF rfl rfl rfl) ?_
    refine AO.c (Calm.assign rfl rfl) ?_
    cases hq5
    refine AO.nilE ⟨rfl, rfl⟩ ?_ ?_
    · exact ⟨rfl, trivial⟩
    · exact (Sub.nil _)
  ·refine AW.rK [2] ?_
   have hr := Option.some.inj h
   subst hr
   exact ⟨[(eBool b4)], ⟨rfl, rfl, trivial⟩, rfl⟩
end Go.Avl.T2
/- bosket/bosketref47.Line; printed by avmain.py. -/
namespace Go.Avl.T2
open Go Go.RowKit Go.Proofs Go.Avl
set_option linter.unusedVariables false
set_option maxRecDepth 100000
set_option maxHeartbeats 4000000
attribute [local irreducible] AW AO AQ Spec SpecH Calm

def bosketref47_Line_c0 (k : Nat) (x7 : ByteArray) : Option ByteArray :=
  some (x7)
def bosketref47_Line_c1 (k : Nat) (p0 : S60) (t5 : (ByteArray × Bool × Bool)) (x6 : ByteArray) : Option ByteArray :=
  if t5.2.2 = true then if x6.size + (ByteArray.mk #[32]).size ≤ 9223372036854775807 then (bosketref13_Digits k p0.f1).bind fun t10 =>
  if (x6 ++ (ByteArray.mk #[32])).size + t10.size ≤ 9223372036854775807 then bosketref47_Line_c0 k ((x6 ++ (ByteArray.mk #[32])) ++ t10)
  else none
  else none
  else bosketref47_Line_c0 k x6
def bosketref47_Line (k : Nat) (p0 : S60) : Option ByteArray :=
  (bosketref47_Right k p0).bind fun t3 =>
  if (!t3) = true then some ((ByteArray.mk #[]))
  else (bosketref47_Form k p0.f0).bind fun t5 =>
  if t5.2.1 = true then if t5.1.size + (ByteArray.mk #[32]).size ≤ 9223372036854775807 then (bosketref03_Quote k p0.f2 (34 : Int)).bind fun t14 =>
  if (t5.1 ++ (ByteArray.mk #[32])).size + t14.size ≤ 9223372036854775807 then bosketref47_Line_c1 k p0 t5 ((t5.1 ++ (ByteArray.mk #[32])) ++ t14)
  else none
  else none
  else bosketref47_Line_c1 k p0 t5 t5.1
theorem bosketref47_Line_spec {k : Nat} {p0 : S60} {r : ByteArray} (h : bosketref47_Line k p0 = some r) : Spec Try.prog 46 [(e60 p0)] (eStr r) := by
  rw [bosketref47_Line.eq_1] at h
  refine Spec.intro (res := [.tmp 2]) Try.func46 rfl rfl rfl (Nat.le_of_ble_eq_true rfl) ?_
  refine AW.sr ?_
  refine AO.box rfl 1 rfl (by decide) rfl rfl rfl fun n2 => ?_
  refine AO.c (Calm.assign rfl rfl) ?_
  refine AO.nK [1] ?_
  refine AW.seq ?_
  refine AW.sr ?_
  refine AO.c (Calm.load 0 rfl rfl rfl (At.cast At.here rfl) ag60 sz60) ?_
  obtain ⟨t3, et3, h⟩ := of_bind h
  refine AO.callS [(e60 p0)] (eBool t3) 7 rfl (by decide) ok44 rfl rfl rfl ⟨rfl, rfl, trivial⟩ (bosketref47_Right_spec et3) ?_
  refine AO.c (Calm.not rfl rfl) ?_
  refine AO.nK [1, 8] ?_
  rcases of_ite h with ⟨hc4, h⟩ | ⟨hc4, h⟩
  ·refine AW.condT' _ rfl hc4 ?_
   refine AW.sr ?_
   refine AO.c (Calm.assign rfl rfl) ?_
   refine AO.nH [2] (H' := []) (Sub.nil _) ?_
   refine AW.rK [2] ?_
   have hr := Option.some.inj h
   subst hr
   exact ⟨[(eStr (ByteArray.mk #[]))], ⟨rfl, rfl, trivial⟩, rfl⟩
  ·refine AW.condF' _ rfl hc4 ?_
   refine AW.sK [1] ?_
   refine AW.sr ?_
   refine AO.c (x := .ptr n2 0) (Calm.fldPtr rfl rfl Try.underlying60 rfl sz3 _ rfl) ?_
   refine AO.c (Calm.load 0 rfl rfl rfl (At.cast (At.fld0 At.here) rfl) ag3 sz3) ?_
   obtain ⟨t5, et5, h⟩ := of_bind h
   refine AO.callS [(eI64 p0.f0)] (.tup [(eStr t5.1), (eBool t5.2.1), (eBool t5.2.2)]) 12 rfl (by decide) ok41 rfl rfl rfl ⟨rfl, rfl, trivial⟩ (bosketref47_Form_spec et5) ?_
   refine AO.c (Calm.move rfl rfl) ?_
   refine AO.c (Calm.extract rfl rfl rfl) ?_
   refine AO.c (Calm.extract rfl rfl rfl) ?_
   refine AO.c (Calm.extract rfl rfl rfl) ?_
   refine AO.c (Calm.assign rfl rfl) ?_
   refine AO.c (Calm.assign rfl rfl) ?_
   refine AO.c (Calm.assign rfl rfl) ?_
   refine AO.nK [1, 3, 4, 5] ?_
   refine AW.seq_mid (fun ρ H => ∃ (x6 : ByteArray), ρ = [(1, (.ptr n2 0)), (3, (eStr x6)), (5, (eBool t5.2.2))] ∧ H = [(n2, (.mem (e60 p0)))] ∧ bosketref47_Line_c1 k p0 t5 x6 = some r) ?_ ?_
   ·refine AW.sr ?_
    refine AO.c (Calm.move rfl rfl) ?_
    refine AO.nK [1, 3, 5, 16] ?_
    rcases of_ite h with ⟨hc12, h⟩ | ⟨hc12, h⟩
    ·refine AW.condT' _ rfl hc12 ?_
     refine AW.reg ?_
     refine AO.c (Calm.move rfl rfl) ?_
     obtain ⟨hg13, h⟩ := of_guard h
     refine AO.c (x := eStr (t5.1 ++ (ByteArray.mk #[32]))) (Calm.cat rfl rfl rfl hg13) ?_
     refine AO.c (x := .ptr n2 2) (Calm.fldPtr rfl rfl Try.underlying60 rfl sz9 _ rfl) ?_
     refine AO.c (Calm.load 0 rfl rfl rfl (At.cast (At.fldS (At.fldS (At.fld0 At.here))) rfl) ag9 sz9) ?_
     obtain ⟨t14, et14, h⟩ := of_bind h
     refine AO.callS [(eStr p0.f2), (eU8 (34 : Int))] (eStr t14) 21 rfl (by decide) ok61 rfl rfl rfl ⟨rfl, rfl, rfl, rfl, trivial⟩ (bosketref03_Quote_spec et14) ?_
     obtain ⟨hg15, h⟩ := of_guard h
     refine AO.c (x := eStr ((t5.1 ++ (ByteArray.mk #[32])) ++ t14)) (Calm.cat rfl rfl rfl hg15) ?_
     refine AO.c (Calm.assign rfl rfl) ?_
     refine AO.nK [1, 3, 5] ?_
     exact ⟨((t5.1 ++ (ByteArray.mk #[32])) ++ t14), rfl, rfl, h⟩
    ·refine AW.condF' _ rfl hc12 ?_
     refine AW.sK [1, 3, 5] ?_
     exact ⟨t5.1, rfl, rfl, h⟩
   ·rintro _ _ ⟨x6, rfl, rfl, h⟩
    rw [bosketref47_Line_c1.eq_1] at h
    refine AW.seq_mid (fun ρ H => ∃ (x7 : ByteArray), ρ = [(3, (eStr x7))] ∧ H = [] ∧ bosketref47_Line_c0 k x7 = some r) ?_ ?_
    ·refine AW.sr ?_
     refine AO.c (Calm.move rfl rfl) ?_
     refine AO.nK [1, 3, 23] ?_
     rcases of_ite h with ⟨hc8, h⟩ | ⟨hc8, h⟩
     ·refine AW.condT' _ rfl hc8 ?_
      refine AW.reg ?_
      refine AO.c (Calm.move rfl rfl) ?_
      obtain ⟨hg9, h⟩ := of_guard h
      refine AO.c (x := eStr (x6 ++ (ByteArray.mk #[32]))) (Calm.cat rfl rfl rfl hg9) ?_
      refine AO.c (x := .ptr n2 1) (Calm.fldPtr rfl rfl Try.underlying60 rfl sz3 _ rfl) ?_
      refine AO.c (Calm.load 0 rfl rfl rfl (At.cast (At.fldS (At.fld0 At.here)) rfl) ag3 sz3) ?_
      obtain ⟨t10, et10, h⟩ := of_bind h
      refine AO.callS [(eI64 p0.f1)] (eStr t10) 28 rfl (by decide) ok19 rfl rfl rfl ⟨rfl, rfl, trivial⟩ (bosketref13_Digits_spec et10) ?_
      obtain ⟨hg11, h⟩ := of_guard h
      refine AO.c (x := eStr ((x6 ++ (ByteArray.mk #[32])) ++ t10)) (Calm.cat rfl rfl rfl hg11) ?_
      refine AO.c (Calm.assign rfl rfl) ?_
      refine AO.nH [3] (H' := []) (Sub.nil _) ?_
      exact ⟨((x6 ++ (ByteArray.mk #[32])) ++ t10), rfl, rfl, h⟩
     ·refine AW.condF' _ rfl hc8 ?_
      refine AW.sH [3] (H' := []) (Sub.nil _) ?_
      exact ⟨x6, rfl, rfl, h⟩
    ·rintro _ _ ⟨x7, rfl, rfl, h⟩
     rw [bosketref47_Line_c0.eq_1] at h
     refine AW.sr ?_
     refine AO.c (Calm.move rfl rfl) ?_
     refine AO.c (Calm.assign rfl rfl) ?_
     refine AO.nK [2] ?_
     refine AW.rK [2] ?_
     have hr := Option.some.inj h
     subst hr
     exact ⟨[(eStr x7)], ⟨rfl, rfl, trivial⟩, rfl⟩
end Go.Avl.T2
/- internal/stringslite.Cut; printed by avmain.py. -/
namespace Go.Avl.T2
open Go Go.RowKit Go.Proofs Go.Avl
set_option linter.unusedVariables false
set_option maxRecDepth 100000
set_option maxHeartbeats 4000000
attribute [local irreducible] AW AO AQ Spec SpecH Calm

def internal_stringslite_Cut (k : Nat) (p0 : ByteArray) (p1 : ByteArray) : Option (ByteArray × ByteArray × Bool) :=
  (internal_stringslite_Index k p0 p1).bind fun t3 =>
  if (0 : Int) ≤ t3 then if 0 ≤ (0 : Int) ∧ (0 : Int) ≤ t3 ∧ t3 ≤ (p0.size : Int) then if 0 ≤ (w64 (t3 + (p1.size : Int))) ∧ (w64 (t3 + (p1.size : Int))) ≤ (p0.size : Int) ∧ (p0.size : Int) ≤ (p0.size : Int) then some ((p0.extract (0 : Int).toNat t3.toNat), (p0.extract (w64 (t3 + (p1.size : Int))).toNat (p0.size : Int).toNat), true)
  else none
  else none
  else some (p0, (ByteArray.mk #[]), false)
theorem internal_stringslite_Cut_spec {k : Nat} {p0 : ByteArray} {p1 : ByteArray} {r : (ByteArray × ByteArray × Bool)} (h : internal_stringslite_Cut k p0 p1 = some r) : Spec Try.prog 86 [(eStr p0), (eStr p1)] (.tup [(eStr r.1), (eStr r.2.1), (eBool r.2.2)]) := by
  rw [internal_stringslite_Cut.eq_1] at h
  refine Spec.intro (res := [.tmp 4, .tmp 5, .tmp 6]) Try.func86 rfl rfl rfl (Nat.le_of_ble_eq_true rfl) ?_
  refine AW.sr ?_
  refine AO.c (Calm.assign rfl rfl) ?_
  refine AO.c (Calm.assign rfl rfl) ?_
  refine AO.c (Calm.assign rfl rfl) ?_
  refine AO.nK [0, 1] ?_
  refine AW.seq ?_
  refine AW.sr ?_
  refine AO.c (Calm.move rfl rfl) ?_
  refine AO.c (Calm.move rfl rfl) ?_
  obtain ⟨t3, et3, h⟩ := of_bind h
  refine AO.callS [(eStr p0), (eStr p1)] (eI64 t3) 10 rfl (by decide) ok91 rfl rfl rfl ⟨rfl, rfl, rfl, rfl, trivial⟩ (internal_stringslite_Index_spec et3) ?_
  refine AO.c (Calm.assign rfl rfl) ?_
  refine AO.nK [0, 1, 7] ?_
  refine AW.sr ?_
  refine AO.c (Calm.move rfl rfl) ?_
  refine AO.c (x := eBool (decide ((0 : Int) ≤ t3))) (Calm.int rfl rfl rfl rfl) ?_
  refine AO.nK [0, 1, 7, 12] ?_
  rcases of_ite h with ⟨hc4, h⟩ | ⟨hc4, h⟩
  ·refine AW.condP _ rfl hc4 ?_
   refine AW.seq ?_
   refine AW.regQ (by rfl) (by decide +kernel) ?_
   refine AQ.c (Calm.move rfl rfl) ?_
   refine AQ.c (Calm.move rfl rfl) ?_
   obtain ⟨hg5, h⟩ := of_guard h
   refine AQ.c (x := eStr (p0.extract (0 : Int).toNat t3.toNat)) (Calm.sliceS rfl rfl rfl rfl hg5 Try.underlying9) ?_
   refine AQ.c (Calm.move rfl rfl) ?_
   refine AQ.c (Calm.move rfl rfl) ?_
   refine AQ.c (Calm.move rfl rfl) ?_
   refine AQ.c (Calm.lenStr rfl rfl Try.underlying9) ?_
   refine AQ.c (x := eI64 (w64 (t3 + (p1.size : Int)))) (Calm.int rfl rfl rfl rfl) ?_
   obtain ⟨hg6, h⟩ := of_guard h
   refine AQ.c (x := eStr (p0.extract (w64 (t3 + (p1.size : Int))).toNat (p0.size : Int).toNat)) (Calm.sliceS rfl rfl rfl rfl hg6 Try.underlying9) ?_
   refine AQ.c (Calm.assign rfl rfl) ?_
   refine AQ.c (Calm.assign rfl rfl) ?_
   refine AQ.c (Calm.assign rfl rfl) ?_
   refine AQ.nK [4, 5, 6] ?_
   refine AW.rK [4, 5, 6] ?_
   have hr := Option.some.inj h
   subst hr
   exact ⟨[(eStr (p0.extract (0 : Int).toNat t3.toNat)), (eStr (p0.extract (w64 (t3 + (p1.size : Int))).toNat (p0.size : Int).toNat)), (eBool true)], ⟨rfl, rfl, rfl, rfl, rfl, rfl, trivial⟩, rfl⟩
  ·refine AW.condN _ rfl hc4 ?_
   refine AW.sK [0] ?_
   refine AW.sr ?_
   refine AO.c (Calm.move rfl rfl) ?_
   refine AO.c (Calm.assign rfl rfl) ?_
   refine AO.c (Calm.assign rfl rfl) ?_
   refine AO.c (Calm.assign rfl rfl) ?_
   refine AO.nK [4, 5, 6] ?_
   refine AW.rK [4, 5, 6] ?_
   have hr := Option.some.inj h
   subst hr
   exact ⟨[(eStr p0), (eStr (ByteArray.mk #[])), (eBool false)], ⟨rfl, rfl, rfl, rfl, rfl, rfl, trivial⟩, rfl⟩
end Go.Avl.T2
/- strings.Cut; printed by avmain.py. -/
namespace Go.Avl.T2
open Go Go.RowKit Go.Proofs Go.Avl
set_option linter.unusedVariables false
set_option maxRecDepth 100000
set_option maxHeartbeats 4000000
attribute [local irreducible] AW AO AQ Spec SpecH Calm

def strings_Cut (k : Nat) (p0 : ByteArray) (p1 : ByteArray) : Option (ByteArray × ByteArray × Bool) :=
  (internal_stringslite_Cut k p0 p1).bind fun t3 =>
  some (t3.1, t3.2.1, t3.2.2)
theorem strings_Cut_spec {k : Nat} {p0 : ByteArray} {p1 : ByteArray} {r : (ByteArray × ByteArray × Bool)} (h : strings_Cut k p0 p1 = some r) : Spec Try.prog 67 [(eStr p0), (eStr p1)] (.tup [(eStr r.1), (eStr r.2.1), (eBool r.2.2)]) := by
  rw [strings_Cut.eq_1] at h
  refine Spec.intro (res := [.tmp 4, .tmp 5, .tmp 6]) Try.func67 rfl rfl rfl (Nat.le_of_ble_eq_true rfl) ?_
  refine AW.sr ?_
  refine AO.c (Calm.assign rfl rfl) ?_
  refine AO.c (Calm.assign rfl rfl) ?_
  refine AO.c (Calm.assign rfl rfl) ?_
  refine AO.nK [0, 1] ?_
  refine AW.sr ?_
  refine AO.c (Calm.move rfl rfl) ?_
  refine AO.c (Calm.move rfl rfl) ?_
  obtain ⟨t3, et3, h⟩ := of_bind h
  refine AO.callS [(eStr p0), (eStr p1)] (.tup [(eStr t3.1), (eStr t3.2.1), (eBool t3.2.2)]) 9 rfl (by decide) ok86 rfl rfl rfl ⟨rfl, rfl, rfl, rfl, trivial⟩ (internal_stringslite_Cut_spec et3) ?_
  refine AO.c (Calm.extract rfl rfl rfl) ?_
  refine AO.c (Calm.extract rfl rfl rfl) ?_
  refine AO.c (Calm.extract rfl rfl rfl) ?_
  refine AO.c (Calm.assign rfl rfl) ?_
  refine AO.c (Calm.assign rfl rfl) ?_
  refine AO.c (Calm.assign rfl rfl) ?_
  refine AO.nK [4, 5, 6] ?_
  refine AW.rK [4, 5, 6] ?_
  have hr := Option.some.inj h
  subst hr
  exact ⟨[(eStr t3.1), (eStr t3.2.1), (eBool t3.2.2)], ⟨rfl, rfl, rfl, rfl, rfl, rfl, trivial⟩, rfl⟩
end Go.Avl.T2
/- bosket/op.Kind; printed by avmain.py. -/
namespace Go.Avl.T2
open Go Go.RowKit Go.Proofs Go.Avl
set_option linter.unusedVariables false
set_option maxRecDepth 100000
set_option maxHeartbeats 4000000
attribute [local irreducible] AW AO AQ Spec SpecH Calm

def op_Kind_c0 (k : Nat) : Option Int :=
  some ((0 : Int))
def op_Kind_l1 (k : Nat) (p0 : ByteArray) : Nat → Int → Option Int
  | 0, _ => none
  | j + 1, x2 =>
    if x2 < (12 : Int) then (op_Form k x2).bind fun t6 =>
    if t6.1 = p0 then some (x2)
    else (op_Kind_l1 k p0 j) (w64 (x2 + (1 : Int)))
    else op_Kind_c0 k
def op_Kind (k : Nat) (p0 : ByteArray) : Option Int :=
  op_Kind_l1 k p0 k (1 : Int)
theorem op_Kind_spec {k : Nat} {p0 : ByteArray} {r : Int} (h : op_Kind k p0 = some r) : Spec Try.prog 48 [(eStr p0)] (eI64 r) := by
  rw [op_Kind.eq_1] at h
  refine Spec.intro (res := [.tmp 2]) Try.func48 rfl rfl rfl (Nat.le_of_ble_eq_true rfl) ?_
  refine AW.sr ?_
  refine AO.c (Calm.assign rfl rfl) ?_
  refine AO.nK [0] ?_
  refine AW.seq_mid (fun ρ H => ρ = [] ∧ H = [] ∧ op_Kind_c0 k = some r) ?_ ?_
  ·refine AW.sr ?_
   refine AO.c (Calm.assign rfl rfl) ?_
   refine AO.nK [0, 3] ?_
   refine AW.block ?_
   refine AW.wK [0, 3] ?_
   refine AW.loop (fun kq ρ H => ∃ (x2 : Int), ρ = [(0, (eStr p0)), (3, (eI64 x2))] ∧ H = [] ∧ op_Kind_l1 k p0 kq x2 = some r) k ⟨(1 : Int), rfl, rfl, h⟩ ?_
   rintro kq4 _ _ ⟨x2, rfl, rfl, h⟩
   cases kq4 with
   | zero => rw [op_Kind_l1.eq_1] at h; cases h
   | succ kq4 =>
   rw [op_Kind_l1.eq_2] at h
   generalize hrec3 : op_Kind_l1 k p0 kq4 = rec3 at h
   refine AW.seq ?_
   refine AW.sr ?_
   refine AO.c (Calm.move rfl rfl) ?_
   refine AO.c (x := eBool (decide (x2 < (12 : Int)))) (Calm.int rfl rfl rfl rfl) ?_
   refine AO.nK [0, 3, 8] ?_
   rcases of_ite h with ⟨hc5, h⟩ | ⟨hc5, h⟩
   ·refine AW.condP _ rfl hc5 ?_
    refine AW.sK [0, 3] ?_
    refine AW.seq ?_
    refine AW.block ?_
    refine AW.sr ?_
    refine AO.c (Calm.move rfl rfl) ?_
    obtain ⟨t6, et6, h⟩ := of_bind h
    refine AO.callS [(eI64 x2)] (.tup [(eStr t6.1), (eBool t6.2.1), (eBool t6.2.2)]) 13 rfl (by decide) ok40 rfl rfl rfl ⟨rfl, rfl, trivial⟩ (op_Form_spec et6) ?_
    refine AO.c (Calm.move rfl rfl) ?_
    refine AO.c (Calm.extract rfl rfl rfl) ?_
    refine AO.c (Calm.extract rfl rfl rfl) ?_
    refine AO.c (Calm.extract rfl rfl rfl) ?_
    refine AO.c (Calm.assign rfl rfl) ?_
    refine AO.c (Calm.assign rfl rfl) ?_
    refine AO.c (Calm.assign rfl rfl) ?_
    refine AO.nK [0, 3, 4] ?_
    refine AW.sr ?_
    refine AO.c (Calm.move rfl rfl) ?_
    refine AO.c (Calm.move rfl rfl) ?_
    refine AO.c (x := eBool (decide (t6.1 = p0))) (Calm.str rfl rfl rfl rfl) ?_
    refine AO.nK [0, 3, 19] ?_
    rcases of_ite h with ⟨hc7, h⟩ | ⟨hc7, h⟩
    ·refine AW.condP _ rfl hc7 ?_
     refine AW.sr ?_
     refine AO.c (Calm.move rfl rfl) ?_
     refine AO.c (Calm.assign rfl rfl) ?_
     refine AO.nK [2] ?_
     refine AW.rK [2] ?_
     have hr := Option.some.inj h
     subst hr
     exact ⟨[(eI64 x2)], ⟨rfl, rfl, trivial⟩, rfl⟩
    ·refine AW.condN _ rfl hc7 ?_
     refine AW.sK [0, 3] ?_
     refine AW.reg ?_
     refine AO.c (Calm.move rfl rfl) ?_
     refine AO.c (x := eI64 (w64 (x2 + (1 : Int)))) (Calm.int rfl rfl rfl rfl) ?_
     refine AO.c (Calm.assign rfl rfl) ?_
     refine AO.nK [0, 3] ?_
     exact ⟨kq4, Nat.lt_succ_self _, (w64 (x2 + (1 : Int))), rfl, rfl, by rw [hrec3]; exact h⟩
   ·refine AW.condN _ rfl hc5 ?_
    refine AW.eK [] ?_
    exact ⟨rfl, rfl, h⟩
  ·rintro _ _ ⟨rfl, rfl, h⟩
   rw [op_Kind_c0.eq_1] at h
   refine AW.sr ?_
   refine AO.c (Calm.assign rfl rfl) ?_
   refine AO.nK [2] ?_
   refine AW.rK [2] ?_
   have hr := Option.some.inj h
   subst hr
   exact ⟨[(eI64 (0 : Int))], ⟨rfl, rfl, trivial⟩, rfl⟩
end Go.Avl.T2
/- internal/stringslite.TrimPrefix; printed by avmain.py. -/
namespace Go.Avl.T2
open Go Go.RowKit Go.Proofs Go.Avl
set_option linter.unusedVariables false
set_option maxRecDepth 100000
set_option maxHeartbeats 4000000
attribute [local irreducible] AW AO AQ Spec SpecH Calm

def internal_stringslite_TrimPrefix (k : Nat) (p0 : ByteArray) (p1 : ByteArray) : Option ByteArray :=
  (internal_stringslite_HasPrefix k p0 p1).bind fun t3 =>
  if t3 = true then if 0 ≤ (p1.size : Int) ∧ (p1.size : Int) ≤ (p0.size : Int) ∧ (p0.size : Int) ≤ (p0.size : Int) then some ((p0.extract (p1.size : Int).toNat (p0.size : Int).toNat))
  else none
  else some (p0)
theorem internal_stringslite_TrimPrefix_spec {k : Nat} {p0 : ByteArray} {p1 : ByteArray} {r : ByteArray} (h : internal_stringslite_TrimPrefix k p0 p1 = some r) : Spec Try.prog 88 [(eStr p0), (eStr p1)] (eStr r) := by
  rw [internal_stringslite_TrimPrefix.eq_1] at h
  refine Spec.intro (res := [.tmp 4]) Try.func88 rfl rfl rfl (Nat.le_of_ble_eq_true rfl) ?_
  refine AW.sr ?_
  refine AO.c (Calm.assign rfl rfl) ?_
  refine AO.nK [0, 1] ?_
  refine AW.seq ?_
  refine AW.sr ?_
  refine AO.c (Calm.move rfl rfl) ?_
  refine AO.c (Calm.move rfl rfl) ?_
  obtain ⟨t3, et3, h⟩ := of_bind h
  refine AO.callS [(eStr p0), (eStr p1)] (eBool t3) 7 rfl (by decide) ok94 rfl rfl rfl ⟨rfl, rfl, rfl, rfl, trivial⟩ (internal_stringslite_HasPrefix_spec et3) ?_
  refine AO.nK [0, 1, 7] ?_
  rcases of_ite h with ⟨hc4, h⟩ | ⟨hc4, h⟩
  ·refine AW.condT' _ rfl hc4 ?_
   refine AW.sr ?_
   refine AO.c (Calm.move rfl rfl) ?_
   refine AO.c (Calm.move rfl rfl) ?_
   refine AO.c (Calm.lenStr rfl rfl Try.underlying9) ?_
   obtain ⟨hg5, h⟩ := of_guard h
   refine AO.c (x := eStr (p0.extract (p1.size : Int).toNat (p0.size : Int).toNat)) (Calm.sliceS rfl rfl rfl rfl hg5 Try.underlying9) ?_
   refine AO.c (Calm.assign rfl rfl) ?_
   refine AO.nK [4] ?_
   refine AW.rK [4] ?_
   have hr := Option.some.inj h
   subst hr
   exact ⟨[(eStr (p0.extract (p1.size : Int).toNat (p0.size : Int).toNat))], ⟨rfl, rfl, trivial⟩, rfl⟩
  ·refine AW.condF' _ rfl hc4 ?_
   refine AW.sK [0] ?_
   refine AW.sr ?_
   refine AO.c (Calm.move rfl rfl) ?_
   refine AO.c (Calm.assign rfl rfl) ?_
   refine AO.nK [4] ?_
   refine AW.rK [4] ?_
   have hr := Option.some.inj h
   subst hr
   exact ⟨[(eStr p0)], ⟨rfl, rfl, trivial⟩, rfl⟩
end Go.Avl.T2
/- strings.TrimPrefix; printed by avmain.py. -/
namespace Go.Avl.T2
open Go Go.RowKit Go.Proofs Go.Avl
set_option linter.unusedVariables false
set_option maxRecDepth 100000
set_option maxHeartbeats 4000000
attribute [local irreducible] AW AO AQ Spec SpecH Calm

def strings_TrimPrefix (k : Nat) (p0 : ByteArray) (p1 : ByteArray) : Option ByteArray :=
  (internal_stringslite_TrimPrefix k p0 p1).bind fun t3 =>
  some (t3)
theorem strings_TrimPrefix_spec {k : Nat} {p0 : ByteArray} {p1 : ByteArray} {r : ByteArray} (h : strings_TrimPrefix k p0 p1 = some r) : Spec Try.prog 69 [(eStr p0), (eStr p1)] (eStr r) := by
  rw [strings_TrimPrefix.eq_1] at h
  refine Spec.intro (res := [.tmp 4]) Try.func69 rfl rfl rfl (Nat.le_of_ble_eq_true rfl) ?_
  refine AW.sr ?_
  refine AO.c (Calm.assign rfl rfl) ?_
  refine AO.nK [0, 1] ?_
  refine AW.sr ?_
  refine AO.c (Calm.move rfl rfl) ?_
  refine AO.c (Calm.move rfl rfl) ?_
  obtain ⟨t3, et3, h⟩ := of_bind h
  refine AO.callS [(eStr p0), (eStr p1)] (eStr t3) 7 rfl (by decide) ok88 rfl rfl rfl ⟨rfl, rfl, rfl, rfl, trivial⟩ (internal_stringslite_TrimPrefix_spec et3) ?_
  refine AO.c (Calm.assign rfl rfl) ?_
  refine AO.nK [4] ?_
  refine AW.rK [4] ?_
  have hr := Option.some.inj h
  subst hr
  exact ⟨[(eStr t3)], ⟨rfl, rfl, trivial⟩, rfl⟩
end Go.Avl.T2
/- bosket/op.Read; printed by avmain.py. -/
namespace Go.Avl.T2
open Go Go.RowKit Go.Proofs Go.Avl
set_option linter.unusedVariables false
set_option maxRecDepth 100000
set_option maxHeartbeats 4000000
attribute [local irreducible] AW AO AQ Spec SpecH Calm

def op_Read_c0 (k : Nat) (p0 : ByteArray) (t4 : Int) (x8 : ByteArray) (x9 : Int) : Option (S55 × Int) :=
  Option.bind (α := Bool) ((_op_Op_Right k (S55.mk t4 x9 x8)).bind fun t12 =>
  if (!t12) = true then some (true)
  else (_op_Op_Line k (S55.mk t4 x9 x8)).bind fun t14 =>
  some (decide (t14 ≠ p0))) fun b10 =>
  if b10 = true then some ((S55.mk (0 : Int) (0 : Int) ByteArray.empty), (24 : Int))
  else some ((S55.mk t4 x9 x8), (0 : Int))
def op_Read_c1 (k : Nat) (p0 : ByteArray) (t4 : Int) (t6 : (ByteArray × Bool × Bool)) (x7 : ByteArray) (x8 : ByteArray) : Option (S55 × Int) :=
  if t6.2.2 = true then (spot_Number k x7).bind fun t17 =>
  if (!t17.2) = true then some ((S55.mk (0 : Int) (0 : Int) ByteArray.empty), (24 : Int))
  else op_Read_c0 k p0 t4 x8 t17.1
  else op_Read_c0 k p0 t4 x8 (0 : Int)
def op_Read (k : Nat) (p0 : ByteArray) : Option (S55 × Int) :=
  (strings_Cut k p0 (ByteArray.mk #[32])).bind fun t3 =>
  (op_Kind k t3.1).bind fun t4 =>
  (op_Form k t4).bind fun t6 =>
  if t6.2.1 = true then (escape_Unquote k t3.2.1 (34 : Int)).bind fun t20 =>
  if (!t20.2.2) = true then some ((S55.mk (0 : Int) (0 : Int) ByteArray.empty), (24 : Int))
  else if 0 ≤ t20.2.1 ∧ t20.2.1 ≤ (t3.2.1.size : Int) ∧ (t3.2.1.size : Int) ≤ (t3.2.1.size : Int) then (strings_TrimPrefix k (t3.2.1.extract t20.2.1.toNat (t3.2.1.size : Int).toNat) (ByteArray.mk #[32])).bind fun t23 =>
  op_Read_c1 k p0 t4 t6 t23 t20.1
  else none
  else op_Read_c1 k p0 t4 t6 t3.2.1 ByteArray.empty
theorem op_Read_spec {k : Nat} {p0 : ByteArray} {r : (S55 × Int)} (h : op_Read k p0 = some r) : Spec Try.prog 47 [(eStr p0)] (.tup [(e55 r.1), (eI64 r.2)]) := by
  rw [op_Read.eq_1] at h
  refine Spec.intro (res := [.cell 2 55, .tmp 3]) Try.func47 rfl rfl rfl (Nat.le_of_ble_eq_true rfl) ?_
  refine AW.sr ?_
  refine AO.alloc rfl 2 rfl (by decide) rfl zr55 lay55 fun n2 => ?_
  refine AO.c (Calm.assign rfl rfl) ?_
  refine AO.nK [0, 2] ?_
  refine AW.sr ?_
  refine AO.c (Calm.move rfl rfl) ?_
  obtain ⟨t3, et3, h⟩ := of_bind h
  refine AO.callS [(eStr p0), (eStr (ByteArray.mk #[32]))] (.tup [(eStr t3.1), (eStr t3.2.1), (eBool t3.2.2)]) 18 rfl (by decide) ok67 rfl rfl rfl ⟨rfl, rfl, rfl, rfl, trivial⟩ (strings_Cut_spec et3) ?_
  refine AO.c (Calm.move rfl rfl) ?_
  refine AO.c (Calm.extract rfl rfl rfl) ?_
  refine AO.c (Calm.extract rfl rfl rfl) ?_
  refine AO.c (Calm.extract rfl rfl rfl) ?_
  refine AO.c (Calm.assign rfl rfl) ?_
  refine AO.c (Calm.assign rfl rfl) ?_
  refine AO.c (Calm.assign rfl rfl) ?_
  refine AO.nK [0, 2, 4, 5] ?_
  refine AW.sr ?_
  refine AO.c (Calm.move rfl rfl) ?_
  obtain ⟨t4, et4, h⟩ := of_bind h
  refine AO.callS [(eStr t3.1)] (eI64 t4) 23 rfl (by decide) ok48 rfl rfl rfl ⟨rfl, rfl, trivial⟩ (op_Kind_spec et4) ?_
  refine AO.c (x := .st [(1, (eI64 t4)), (1, (eI64 (0 : Int))), (1, (eStr ByteArray.empty))]) (Calm.build (qs := [(0, (eI64 t4))]) rfl ⟨rfl, rfl, rfl, trivial⟩ Try.underlying55 rfl zr55 lay55 (.cons rfl rfl rfl rfl (Put.cast (Put.fld0 Put.here) rfl) .nil) rfl) ?_
  refine AO.alloc rfl 7 rfl (by decide) rfl zr55 lay55 fun n5 => ?_
  refine AO.store (X' := (e55 (S55.mk t4 (0 : Int) ByteArray.empty))) 0 rfl rfl rfl rfl rfl rfl (Put.cast Put.here rfl) rfl rfl sz55 rfl ?_
  refine AO.nH [0, 2, 5, 7] (H' := [(n2, (.mem (.st [(1, (eI64 (0 : Int))), (1, (eI64 (0 : Int))), (1, (eStr ByteArray.empty))]))), (n5, (.mem (e55 (S55.mk t4 (0 : Int) ByteArray.empty))))]) (Sub.cons 1 rfl (Sub.cons 0 rfl (Sub.nil _))) ?_
  refine AW.sr ?_
  refine AO.c (x := .ptr n5 0) (Calm.fldPtr rfl rfl Try.underlying55 rfl sz3 _ rfl) ?_
  refine AO.c (Calm.load 1 rfl rfl rfl (At.cast (At.fld0 At.here) rfl) ag3 sz3) ?_
  obtain ⟨t6, et6, h⟩ := of_bind h
  refine AO.callS [(eI64 t4)] (.tup [(eStr t6.1), (eBool t6.2.1), (eBool t6.2.2)]) 28 rfl (by decide) ok40 rfl rfl rfl ⟨rfl, rfl, trivial⟩ (op_Form_spec et6) ?_
  refine AO.c (Calm.move rfl rfl) ?_
  refine AO.c (Calm.extract rfl rfl rfl) ?_
  refine AO.c (Calm.extract rfl rfl rfl) ?_
  refine AO.c (Calm.extract rfl rfl rfl) ?_
  refine AO.c (Calm.assign rfl rfl) ?_
  refine AO.c (Calm.assign rfl rfl) ?_
  refine AO.c (Calm.assign rfl rfl) ?_
  refine AO.nK [0, 2, 5, 7, 9, 10] ?_
  refine AW.seq_mid (fun ρ H => ∃ (x7 : ByteArray) (x8 : ByteArray), ρ = [(0, (eStr p0)), (2, (.ptr n2 0)), (5, (eStr x7)), (7, (.ptr n5 0)), (10, (eBool t6.2.2))] ∧ H = [(n2, (.mem (.st [(1, (eI64 (0 : Int))), (1, (eI64 (0 : Int))), (1, (eStr ByteArray.empty))]))), (n5, (.mem (.st [(1, (eI64 t4)), (1, (eI64 (0 : Int))), (1, (eStr x8))])))] ∧ op_Read_c1 k p0 t4 t6 x7 x8 = some r) ?_ ?_
  ·refine AW.sr ?_
   refine AO.c (Calm.move rfl rfl) ?_
   refine AO.nK [0, 2, 5, 7, 10, 32] ?_
   rcases of_ite h with ⟨hc19, h⟩ | ⟨hc19, h⟩
   ·refine AW.condT' _ rfl hc19 ?_
    refine AW.sr ?_
    refine AO.c (Calm.move rfl rfl) ?_
    obtain ⟨t20, et20, h⟩ := of_bind h
    refine AO.callS [(eStr t3.2.1), (eU8 (34 : Int))] (.tup [(eStr t20.1), (eI64 t20.2.1), (eBool t20.2.2)]) 35 rfl (by decide) ok68 rfl rfl rfl ⟨rfl, rfl, rfl, rfl, trivial⟩ (escape_Unquote_spec et20) ?_
    refine AO.c (Calm.move rfl rfl) ?_
    refine AO.c (Calm.extract rfl rfl rfl) ?_
    refine AO.c (Calm.extract rfl rfl rfl) ?_
    refine AO.c (Calm.extract rfl rfl rfl) ?_
    refine AO.c (Calm.assign rfl rfl) ?_
    refine AO.c (Calm.assign rfl rfl) ?_
    refine AO.c (Calm.assign rfl rfl) ?_
    refine AO.nK [0, 2, 5, 7, 10, 11, 12, 13] ?_
    refine AW.seq ?_
    refine AW.sr ?_
    refine AO.c (Calm.move rfl rfl) ?_
    refine AO.c (Calm.not rfl rfl) ?_
    refine AO.nK [0, 2, 5, 7, 10, 11, 12, 40] ?_
    rcases of_ite h with ⟨hc21, h⟩ | ⟨hc21, h⟩
    ·refine AW.condT' _ rfl hc21 ?_
     refine AW.sr ?_
     refine AO.c (x := .st [(1, (eI64 (0 : Int))), (1, (eI64 (0 : Int))), (1, (eStr ByteArray.empty))]) (Calm.build (qs := []) rfl trivial Try.underlying55 rfl zr55 lay55 .nil rfl) ?_
     refine AO.store (X' := (e55 (S55.mk (0 : Int) (0 : Int) ByteArray.empty))) 0 rfl rfl rfl rfl rfl rfl (Put.cast Put.here rfl) rfl rfl sz55 rfl ?_
     refine AO.c (Calm.assign rfl rfl) ?_
     refine AO.nH [2, 3] (H' := [(n2, (.mem (e55 (S55.mk (0 : Int) (0 : Int) ByteArray.empty))))]) (Sub.cons 0 rfl (Sub.nil _)) ?_
     refine AW.rK [2, 3] ?_
     have hr := Option.some.inj h
     subst hr
     exact ⟨[(e55 (S55.mk (0 : Int) (0 : Int) ByteArray.empty)), (eI64 (24 : Int))], ⟨⟨_, 0, rfl, rfl, ag55, sz55⟩, rfl, rfl, trivial⟩, rfl⟩
    ·refine AW.condF' _ rfl hc21 ?_
     refine AW.sK [0, 2, 5, 7, 10, 11, 12] ?_
     refine AW.sr ?_
     refine AO.c (Calm.move rfl rfl) ?_
     refine AO.c (x := .ptr n5 2) (Calm.fldPtr rfl rfl Try.underlying55 rfl sz9 _ rfl) ?_
     refine AO.store (X' := (.st [(1, (eI64 t4)), (1, (eI64 (0 : Int))), (1, (eStr t20.1))])) 1 rfl rfl rfl rfl rfl rfl (Put.cast (Put.fldS (Put.fldS (Put.fld0 Put.here))) rfl) rfl rfl sz9 rfl ?_
     refine AO.nK [0, 2, 5, 7, 10, 12] ?_
     refine AW.reg ?_
     refine AO.c (Calm.move rfl rfl) ?_
     refine AO.c (Calm.move rfl rfl) ?_
     obtain ⟨hg22, h⟩ := of_guard h
     refine AO.c (x := eStr (t3.2.1.extract t20.2.1.toNat (t3.2.1.size : Int).toNat)) (Calm.sliceS rfl rfl rfl rfl hg22 Try.underlying9) ?_
     obtain ⟨t23, et23, h⟩ := of_bind h
     refine AO.callS [(eStr (t3.2.1.extract t20.2.1.toNat (t3.2.1.size : Int).toNat)), (eStr (ByteArray.mk #[32]))] (eStr t23) 47 rfl (by decide) ok69 rfl rfl rfl ⟨rfl, rfl, rfl, rfl, trivial⟩ (strings_TrimPrefix_spec et23) ?_
     refine AO.c (Calm.assign rfl rfl) ?_
     refine AO.nK [0, 2, 5, 7, 10] ?_
     exact ⟨t23, t20.1, rfl, rfl, h⟩
   ·refine AW.condF' _ rfl hc19 ?_
    refine AW.sK [0, 2, 5, 7, 10] ?_
    exact ⟨t3.2.1, ByteArray.empty, rfl, rfl, h⟩
  ·rintro _ _ ⟨x7, x8, rfl, rfl, h⟩
   rw [op_Read_c1.eq_1] at h
   refine AW.seq_mid (fun ρ H => ∃ (x9 : Int), ρ = [(0, (eStr p0)), (2, (.ptr n2 0)), (7, (.ptr n5 0))] ∧ H = [(n2, (.mem (.st [(1, (eI64 (0 : Int))), (1, (eI64 (0 : Int))), (1, (eStr ByteArray.empty))]))), (n5, (.mem (.st [(1, (eI64 t4)), (1, (eI64 x9)), (1, (eStr x8))])))] ∧ op_Read_c0 k p0 t4 x8 x9 = some r) ?_ ?_
   ·refine AW.sr ?_
    refine AO.c (Calm.move rfl rfl) ?_
    refine AO.nK [0, 2, 5, 7, 48] ?_
    rcases of_ite h with ⟨hc16, h⟩ | ⟨hc16, h⟩
    ·refine AW.condT' _ rfl hc16 ?_
     refine AW.sr ?_
     refine AO.c (Calm.move rfl rfl) ?_
     obtain ⟨t17, et17, h⟩ := of_bind h
     refine AO.callS [(eStr x7)] (.tup [(eI64 t17.1), (eBool t17.2)]) 51 rfl (by decide) ok16 rfl rfl rfl ⟨rfl, rfl, trivial⟩ (spot_Number_spec et17) ?_
     refine AO.c (Calm.move rfl rfl) ?_
     refine AO.c (Calm.extract rfl rfl rfl) ?_
     refine AO.c (Calm.extract rfl rfl rfl) ?_
     refine AO.c (Calm.assign rfl rfl) ?_
     refine AO.c (Calm.assign rfl rfl) ?_
     refine AO.nK [0, 2, 7, 14, 15] ?_
     refine AW.seq ?_
     refine AW.sr ?_
     refine AO.c (Calm.move rfl rfl) ?_
     refine AO.c (Calm.not rfl rfl) ?_
     refine AO.nK [0, 2, 7, 14, 55] ?_
     rcases of_ite h with ⟨hc18, h⟩ | ⟨hc18, h⟩
     ·refine AW.condT' _ rfl hc18 ?_
      refine AW.sr ?_
      refine AO.c (x := .st [(1, (eI64 (0 : Int))), (1, (eI64 (0 : Int))), (1, (eStr ByteArray.empty))]) (Calm.build (qs := []) rfl trivial Try.underlying55 rfl zr55 lay55 .nil rfl) ?_
      refine AO.store (X' := (e55 (S55.mk (0 : Int) (0 : Int) ByteArray.empty))) 0 rfl rfl rfl rfl rfl rfl (Put.cast Put.here rfl) rfl rfl sz55 rfl ?_
      refine AO.c (Calm.assign rfl rfl) ?_
      refine AO.nH [2, 3] (H' := [(n2, (.mem (e55 (S55.mk (0 : Int) (0 : Int) ByteArray.empty))))]) (Sub.cons 0 rfl (Sub.nil _)) ?_
      refine AW.rK [2, 3] ?_
      have hr := Option.some.inj h
      subst hr
      exact ⟨[(e55 (S55.mk (0 : Int) (0 : Int) ByteArray.empty)), (eI64 (24 : Int))], ⟨⟨_, 0, rfl, rfl, ag55, sz55⟩, rfl, rfl, trivial⟩, rfl⟩
     ·refine AW.condF' _ rfl hc18 ?_
      refine AW.sK [0, 2, 7, 14] ?_
      refine AW.reg ?_
      refine AO.c (Calm.move rfl rfl) ?_
      refine AO.c (x := .ptr n5 1) (Calm.fldPtr rfl rfl Try.underlying55 rfl sz3 _ rfl) ?_
      refine AO.store (X' := (.st [(1, (eI64 t4)), (1, (eI64 t17.1)), (1, (eStr x8))])) 1 rfl rfl rfl rfl rfl rfl (Put.cast (Put.fldS (Put.fld0 Put.here)) rfl) rfl rfl sz3 rfl ?_
      refine AO.nK [0, 2, 7] ?_
      exact ⟨t17.1, rfl, rfl, h⟩
    ·refine AW.condF' _ rfl hc16 ?_
     refine AW.sK [0, 2, 7] ?_
     exact ⟨(0 : Int), rfl, rfl, h⟩
   ·rintro _ _ ⟨x9, rfl, rfl, h⟩
    rw [op_Read_c0.eq_1] at h
    refine AW.seq ?_
    refine AW.seq ?_
    obtain ⟨b10, hq11, h⟩ := of_bind h
    refine AW.regM [(2, (.ptr n2 0)), (7, (.ptr n5 0)), (67, (eBool b10))] [(n2, (.mem (.st [(1, (eI64 (0 : Int))), (1, (eI64 (0 : Int))), (1, (eStr ByteArray.empty))]))), (n5, (.mem (.st [(1, (eI64 t4)), (1, (eI64 x9)), (1, (eStr x8))])))] ?_ ?_
    ·refine AO.c (Calm.load 1 rfl rfl rfl (At.cast At.here rfl) ag55 sz55) ?_
     obtain ⟨t12, et12, hq11⟩ := of_bind hq11
     refine AO.callS [(e55 (S55.mk t4 x9 x8))] (eBool t12) 60 rfl (by decide) ok43 rfl rfl rfl ⟨rfl, rfl, trivial⟩ (_op_Op_Right_spec et12) ?_
     refine AO.c (Calm.not rfl rfl) ?_
     refine AO.c (Calm.move rfl rfl) ?_
     rcases of_ite hq11 with ⟨hc13, hq11⟩ | ⟨hc13, hq11⟩
     ·refine AO.sF rfl rfl (bD hc13) ?_
      refine AO.sF rfl rfl (bD hc13) ?_
      refine AO.sF rfl rfl (bD hc13) ?_
      refine AO.sF rfl rfl (bD hc13) ?_
      refine AO.c (Calm.pickT rfl (bD hc13) rfl) ?_
      cases hq11
      refine AO.nilE ⟨rfl, rfl⟩ ?_ ?_
      · exact ⟨rfl, rfl, rfl, trivial⟩
      · exact (Sub.refl _)
     ·refine AO.cG rfl rfl (bD (eq_false_of_ne_true hc13)) (Calm.load 1 rfl rfl rfl (At.cast At.here rfl) ag55 sz55) ?_
      obtain ⟨t14, et14, hq11⟩ := of_bind hq11
      refine AO.callG 3 false 62 [(e55 (S55.mk t4 x9 x8))] (eStr t14) 64 rfl (by decide) ok42 rfl rfl (bD (eq_false_of_ne_true hc13)) rfl rfl ⟨rfl, rfl, trivial⟩ (_op_Op_Line_spec et14) ?_
      refine AO.cG rfl rfl (bD (eq_false_of_ne_true hc13)) (Calm.move rfl rfl) ?_
      refine AO.cG (x := eBool (decide (t14 ≠ p0))) rfl rfl (bD (eq_false_of_ne_true hc13)) (Calm.str rfl rfl rfl rfl) ?_
      refine AO.c (Calm.pickF rfl (bD (eq_false_of_ne_true hc13)) rfl) ?_
      cases hq11
      refine AO.nilE ⟨rfl, rfl⟩ ?_ ?_
      · exact ⟨rfl, rfl, rfl, trivial⟩
      · exact (Sub.refl _)
    ·rcases of_ite h with ⟨hc15, h⟩ | ⟨hc15, h⟩
     ·refine AW.condT' _ rfl hc15 ?_
      refine AW.sr ?_
      refine AO.c (x := .st [(1, (eI64 (0 : Int))), (1, (eI64 (0 : Int))), (1, (eStr ByteArray.empty))]) (Calm.build (qs := []) rfl trivial Try.underlying55 rfl zr55 lay55 .nil rfl) ?_
      refine AO.store (X' := (e55 (S55.mk (0 : Int) (0 : Int) ByteArray.empty))) 0 rfl rfl rfl rfl rfl rfl (Put.cast Put.here rfl) rfl rfl sz55 rfl ?_
      refine AO.c (Calm.assign rfl rfl) ?_
      refine AO.nH [2, 3] (H' := [(n2, (.mem (e55 (S55.mk (0 : Int) (0 : Int) ByteArray.empty))))]) (Sub.cons 0 rfl (Sub.nil _)) ?_
      refine AW.rK [2, 3] ?_
      have hr := Option.some.inj h
      subst hr
      exact ⟨[(e55 (S55.mk (0 : Int) (0 : Int) ByteArray.empty)), (eI64 (24 : Int))], ⟨⟨_, 0, rfl, rfl, ag55, sz55⟩, rfl, rfl, trivial⟩, rfl⟩
     ·refine AW.condF' _ rfl hc15 ?_
      refine AW.sK [2, 7] ?_
      refine AW.sr ?_
      refine AO.c (Calm.load 1 rfl rfl rfl (At.cast At.here rfl) ag55 sz55) ?_
      refine AO.store (X' := (e55 (S55.mk t4 x9 x8))) 0 rfl rfl rfl rfl rfl rfl (Put.cast Put.here rfl) rfl rfl sz55 rfl ?_
      refine AO.c (Calm.assign rfl rfl) ?_
      refine AO.nH [2, 3] (H' := [(n2, (.mem (e55 (S55.mk t4 x9 x8))))]) (Sub.cons 0 rfl (Sub.nil _)) ?_
      refine AW.rK [2, 3] ?_
      have hr := Option.some.inj h
      subst hr
      exact ⟨[(e55 (S55.mk t4 x9 x8)), (eI64 (0 : Int))], ⟨⟨_, 0, rfl, rfl, ag55, sz55⟩, rfl, rfl, trivial⟩, rfl⟩
end Go.Avl.T2
/- bosket/bosketlaw47.awake; printed by avmain.py. -/
namespace Go.Avl.T2
open Go Go.RowKit Go.Proofs Go.Avl
set_option linter.unusedVariables false
set_option maxRecDepth 100000
set_option maxHeartbeats 4000000
attribute [local irreducible] AW AO AQ Spec SpecH Calm

def bosketlaw47_awake (k : Nat) : Option Bool :=
  (op_Read k (ByteArray.mk #[112, 114, 105, 110, 116, 32, 34, 40, 55, 41, 34, 32, 52, 48])).bind fun t1 =>
  Option.bind (α := Bool) (if t1.2 = (0 : Int) then some (decide (t1.1 = (S55.mk (5 : Int) (40 : Int) (ByteArray.mk #[40, 55, 41]))))
  else some (false)) fun b3 =>
  some (b3)
theorem bosketlaw47_awake_spec {k : Nat}  {r : Bool} (h : bosketlaw47_awake k = some r) : Spec Try.prog 39 [] (eBool r) := by
  rw [bosketlaw47_awake.eq_1] at h
  refine Spec.intro (res := [.tmp 0]) Try.func39 rfl rfl rfl (Nat.le_of_ble_eq_true rfl) ?_
  refine AW.sr ?_
  refine AO.c (Calm.assign rfl rfl) ?_
  refine AO.nK [] ?_
  refine AW.sr ?_
  obtain ⟨t1, et1, h⟩ := of_bind h
  refine AO.callS [(eStr (ByteArray.mk #[112, 114, 105, 110, 116, 32, 34, 40, 55, 41, 34, 32, 52, 48]))] (.tup [(e55 t1.1), (eI64 t1.2)]) 4 rfl (by decide) ok47 rfl rfl rfl ⟨rfl, rfl, trivial⟩ (op_Read_spec et1) ?_
  refine AO.c (Calm.move rfl rfl) ?_
  refine AO.c (Calm.extract rfl rfl rfl) ?_
  refine AO.c (Calm.extract rfl rfl rfl) ?_
  refine AO.alloc rfl 1 rfl (by decide) rfl zr55 lay55 fun n2 => ?_
  refine AO.store (X' := (e55 t1.1)) 0 rfl rfl rfl rfl rfl rfl (Put.cast Put.here rfl) rfl rfl sz55 rfl ?_
  refine AO.c (Calm.assign rfl rfl) ?_
  refine AO.nK [1, 2] ?_
  refine AW.seq ?_
  obtain ⟨b3, hq4, h⟩ := of_bind h
  refine AW.regM [(0, (eBool b3))] [] ?_ ?_
  ·refine AO.c (Calm.move rfl rfl) ?_
   refine AO.c (x := eBool (decide (t1.2 = (0 : Int)))) (Calm.int rfl rfl rfl rfl) ?_
   refine AO.c (Calm.move rfl rfl) ?_
   rcases of_ite hq4 with ⟨hc5, hq4⟩ | ⟨hc5, hq4⟩
   ·refine AO.cG rfl rfl (bD (decide_eq_true hc5)) (Calm.load 0 rfl rfl rfl (At.cast At.here rfl) ag55 sz55) ?_
    refine AO.cG (x := .st [(1, (eI64 (5 : Int))), (1, (eI64 (40 : Int))), (1, (eStr (ByteArray.mk #[40, 55, 41])))]) rfl rfl (bD (decide_eq_true hc5)) (Calm.build (qs := [(0, (eI64 (5 : Int))), (1, (eI64 (40 : Int))), (2, (eStr (ByteArray.mk #[40, 55, 41])))]) rfl ⟨rfl, rfl, rfl, rfl, rfl, rfl, rfl, rfl, rfl, trivial⟩ Try.underlying55 rfl zr55 lay55 (.cons rfl rfl rfl rfl (Put.cast (Put.fld0 Put.here) rfl) (.cons rfl rfl rfl rfl (Put.cast (Put.fldS (Put.fld0 Put.here)) rfl) (.cons rfl rfl rfl rfl (Put.cast (Put.fldS (Put.fldS (Put.fld0 Put.here))) rfl) .nil))) rfl) ?_
    refine AO.cG (x := eBool (decide (t1.1 = (S55.mk (5 : Int) (40 : Int) (ByteArray.mk #[40, 55, 41]))))) rfl rfl (bD (decide_eq_true hc5)) (Calm.eqS rfl rfl rfl eg55 (eqk55 t1.1 (S55.mk (5 : Int) (40 : Int) (ByteArray.mk #[40, 55, 41]))) (by decide)) ?_
    refine AO.c (Calm.pickT rfl (bD (decide_eq_true hc5)) rfl) ?_
    refine AO.c (Calm.assign rfl rfl) ?_
    cases hq4
    refine AO.nilE ⟨rfl, rfl⟩ ?_ ?_
    · exact ⟨rfl, trivial⟩
    · exact (Sub.nil _)
   ·refine AO.sT rfl rfl (bD (decide_eq_false hc5)) ?_
    refine AO.sT rfl rfl (bD (decide_eq_false hc5)) ?_
    refine AO.sT rfl rfl (bD (decide_eq_false hc5)) ?_
    refine AO.c (Calm.pickF rfl (bD (decide_eq_false hc5)) rfl) ?_
    refine AO.c (Calm.assign rfl rfl) ?_
    cases hq4
    refine AO.nilE ⟨rfl, rfl⟩ ?_ ?_
    · exact ⟨rfl, trivial⟩
    · exact (Sub.nil _)
  ·refine AW.rK [0] ?_
   have hr := Option.some.inj h
   subst hr
   exact ⟨[(eBool b3)], ⟨rfl, rfl, trivial⟩, rfl⟩
end Go.Avl.T2
/- bosket/bosketlaw47.Ref; printed by avmain.py. -/
namespace Go.Avl.T2
open Go Go.RowKit Go.Proofs Go.Avl
set_option linter.unusedVariables false
set_option maxRecDepth 100000
set_option maxHeartbeats 4000000
attribute [local irreducible] AW AO AQ Spec SpecH Calm

def bosketlaw47_Ref (k : Nat) (p0 : S55) : Option S60 :=
  some ((S60.mk p0.f0 p0.f1 p0.f2))
theorem bosketlaw47_Ref_spec {k : Nat} {p0 : S55} {r : S60} (h : bosketlaw47_Ref k p0 = some r) : Spec Try.prog 45 [(e55 p0)] (e60 r) := by
  rw [bosketlaw47_Ref.eq_1] at h
  refine Spec.intro (res := [.cell 2 60]) Try.func45 rfl rfl rfl (Nat.le_of_ble_eq_true rfl) ?_
  refine AW.sr ?_
  refine AO.box rfl 1 rfl (by decide) rfl rfl rfl fun n2 => ?_
  refine AO.alloc rfl 2 rfl (by decide) rfl zr60 lay60 fun n3 => ?_
  refine AO.nH [1, 2] (H' := [(n2, (.mem (e55 p0))), (n3, (.mem (.st [(1, (eI64 (0 : Int))), (1, (eI64 (0 : Int))), (1, (eStr ByteArray.empty))])))]) (Sub.cons 1 rfl (Sub.cons 0 rfl (Sub.nil _))) ?_
  refine AW.sr ?_
  refine AO.c (x := .ptr n2 0) (Calm.fldPtr rfl rfl Try.underlying55 rfl sz3 _ rfl) ?_
  refine AO.c (Calm.load 0 rfl rfl rfl (At.cast (At.fld0 At.here) rfl) ag3 sz3) ?_
  refine AO.c (x := .ptr n2 1) (Calm.fldPtr rfl rfl Try.underlying55 rfl sz3 _ rfl) ?_
  refine AO.c (Calm.load 0 rfl rfl rfl (At.cast (At.fldS (At.fld0 At.here)) rfl) ag3 sz3) ?_
  refine AO.c (x := .ptr n2 2) (Calm.fldPtr rfl rfl Try.underlying55 rfl sz9 _ rfl) ?_
  refine AO.c (Calm.load 0 rfl rfl rfl (At.cast (At.fldS (At.fldS (At.fld0 At.here))) rfl) ag9 sz9) ?_
  refine AO.c (x := .st [(1, (eI64 p0.f0)), (1, (eI64 p0.f1)), (1, (eStr p0.f2))]) (Calm.build (qs := [(0, (eI64 p0.f0)), (1, (eI64 p0.f1)), (2, (eStr p0.f2))]) rfl ⟨rfl, rfl, rfl, rfl, rfl, rfl, rfl, rfl, rfl, trivial⟩ Try.underlying60 rfl zr60 lay60 (.cons rfl rfl rfl rfl (Put.cast (Put.fld0 Put.here) rfl) (.cons rfl rfl rfl rfl (Put.cast (Put.fldS (Put.fld0 Put.here)) rfl) (.cons rfl rfl rfl rfl (Put.cast (Put.fldS (Put.fldS (Put.fld0 Put.here))) rfl) .nil))) rfl) ?_
  refine AO.store (X' := (e60 (S60.mk p0.f0 p0.f1 p0.f2))) 1 rfl rfl rfl rfl rfl rfl (Put.cast Put.here rfl) rfl rfl sz60 rfl ?_
  refine AO.nH [2] (H' := [(n3, (.mem (e60 (S60.mk p0.f0 p0.f1 p0.f2))))]) (Sub.cons 1 rfl (Sub.nil _)) ?_
  refine AW.rK [2] ?_
  have hr := Option.some.inj h
  subst hr
  exact ⟨[(e60 (S60.mk p0.f0 p0.f1 p0.f2))], ⟨⟨_, 0, rfl, rfl, ag60, sz60⟩, trivial⟩, rfl⟩
end Go.Avl.T2
/- bosket/bosketref47.Read; printed by avmain.py. -/
namespace Go.Avl.T2
open Go Go.RowKit Go.Proofs Go.Avl
set_option linter.unusedVariables false
set_option maxRecDepth 100000
set_option maxHeartbeats 4000000
attribute [local irreducible] AW AO AQ Spec SpecH Calm

end Go.Avl.T2
/- bosket/bosketlaw47.OpReads; printed by avmain.py. -/
namespace Go.Avl.T2
open Go Go.RowKit Go.Proofs Go.Avl
set_option linter.unusedVariables false
set_option maxRecDepth 100000
set_option maxHeartbeats 4000000
attribute [local irreducible] AW AO AQ Spec SpecH Calm

end Go.Avl.T2
/- bosket/bosketref13.Lines; printed by avmain.py. -/
namespace Go.Avl.T2
open Go Go.RowKit Go.Proofs Go.Avl
set_option linter.unusedVariables false
set_option maxRecDepth 100000
set_option maxHeartbeats 4000000
attribute [local irreducible] AW AO AQ Spec SpecH Calm

end Go.Avl.T2
/- op.Script, by hand: what it computes, and its walk. -/
namespace Go.Avl.T2
open Go Go.RowKit Go.Proofs Go.Avl
set_option linter.all false
set_option maxRecDepth 100000
set_option maxHeartbeats 4000000
attribute [local irreducible] AW AO AQ Spec SpecH Calm AWI

def op_Script_c (rec_ : ByteArray → Int → List S55 → Option (List S55 × Int × Int)) (t : ByteArray × ByteArray × Bool) (n : Int) (out : List S55) : Option (List S55 × Int × Int) :=
  if t.2.2 = true then rec_ t.2.1 (w64 (n + 1)) out else some (out, 0, 0)
def op_Script_l (k : Nat) : Nat → ByteArray → Int → List S55 → Option (List S55 × Int × Int)
  | 0, _, _, _ => none
  | j + 1, s, n, out =>
    (strings_Cut k s (ByteArray.mk #[10])).bind fun t =>
    if t.1 = ByteArray.mk #[] ∨ byteAt t.1 0 = 35 then op_Script_c (op_Script_l k j) t n out
    else (op_Read k t.1).bind fun r =>
    if r.2 ≠ (0 : Int) then some ([], n, r.2)
    else if (out ++ [r.1]).length * 32 ≤ 140737488355328 then op_Script_c (op_Script_l k j) t n (out ++ [r.1])
    else none
def op_Script (k : Nat) (p0 : ByteArray) : Option (List S55 × Int × Int) := op_Script_l k k p0 1 []
theorem sz70q : tySize Try.prog 70 = some 1 := by rfl
theorem ag70q : tyAgg Try.prog 70 = some false := by rfl
theorem zr70q : tyZero Try.prog 70 = some ([.slice none 0 0]) := by rfl
theorem lay70q : ∀ g, Sim g (.fl (.slice none 0 0)) ([.slice none 0 0]) := fun g => (lay_fl rfl)
theorem zr3q : tyZero Try.prog 3 = some ([.int .i64 0]) := by rfl
theorem lay3q : ∀ g, Sim g (eI64 0) ([.int .i64 0]) := fun g => (lay_fl rfl)
theorem sz28q : tySize Try.prog 28 = some 1 := by rfl
theorem zr28q : tyZero Try.prog 28 = some ([.int .i64 0]) := by rfl
theorem ag28q : tyAgg Try.prog 28 = some false := by rfl
theorem by55q : tyBytes Try.prog 55 = some 32 := by rfl

/-- The objects beside the loop's own. -/
def Hs (ns n2 n3 n4 n5 no : Nat) (s : ByteArray) (i e : Int) (out : List S55) : Heap :=
  [(ns, .mem (eStr s)), (n2, .mem (.fl (.slice none 0 0))), (n3, .mem (eI64 i)), (n4, .mem (eI64 e)), (n5, .mem (.own no 0 out.length)), (no, .mem (.ar 3 (out.map e55)))]
/-- What a round leaves. -/
def RS (k j : Nat) (res : List S55 × Int × Int) (nl nd ns n2 n3 n4 n5 : Nat) (r : Loop) (s : ByteArray) (t : ByteArray × ByteArray × Bool) (n : Int) (out : List S55) (jump : Option Code) (H : Heap) : Prop :=
  match jump with
  | none => ∃ out' no', H = (nl, .raw (.loop r)) :: (nd, .raw (.deferred (some []))) :: Hs ns n2 n3 n4 n5 no' s 0 0 out' ∧ op_Script_c (op_Script_l k j) t n out' = some res
  | some c => c = .ret ∧ ∃ no' out', H = (nl, .raw (.loop { r with state := .done, pending := some .ret })) :: (nd, .raw (.deferred (some []))) :: Hs ns n2 n3 n4 n5 no' s res.2.1 res.2.2 out' ∧ res.1 = []
def codeA : Option Code → Code
  | some (.seq _ (.seq _ (.seq (.seq _ (.block _ (.rangeFunc _ _ a _))) _))) => a
  | _ => .skip
def codeB : Option Code → Code
  | some (.seq _ (.seq _ (.seq (.seq _ (.block _ (.rangeFunc _ _ _ b))) _))) => b
  | _ => .skip
def codeR : Code → Code
  | .block _ (.seq _ c) => c
  | _ => .skip
def codeL : Code → List Oper
  | .block _ (.seq (.seq (.region _ l _) _) _) => l.toList
  | _ => []

theorem Then.ex {id : Nat} {K : Env → Heap → Prop} {Q : Exit → Env → Heap → Prop} {ρ : Env} {H : Heap} (h : Q (.exit id) ρ H) : Then K Q (.exit id) ρ H := h
theorem InBlock.hit {id : Nat} {Q : Exit → Env → Heap → Prop} {ρ : Env} {H : Heap} (h : Q .normal ρ H) : InBlock id Q (.exit id) ρ H := by simp [InBlock, h]
theorem round_assign (g : G) (l n2 n3 n4 n5 : Nat) (n : Int) (line : ByteArray) (Q : Env → Heap → Prop) (H : Heap) (h : Q [(2, .ptr n2 0), (3, .ptr n3 0), (4, .ptr n4 0), (5, .ptr n5 0), (6, eI64 n), (7, eStr line)] H) :
    AWI g (Fence.wide.inRound l) Try.prog 35 (codeA Try.f50.body) (Then Q (fun _ _ _ => False)) [(13, eStr line), (12, eI64 n), (2, .ptr n2 0), (3, .ptr n3 0), (4, .ptr n4 0), (5, .ptr n5 0)] H := by
  show AWI _ _ _ _ (.seq _ _) _ _ _
  refine AWI.sr (open_round _ _) rfl ?_
  refine AO.c (Calm.assign rfl rfl) ?_
  refine AO.nK [2, 3, 4, 5, 6, 13] ?_
  refine AWI.rg (open_round _ _) rfl ?_
  refine AO.c (Calm.assign rfl rfl) ?_
  refine AO.nK [2, 3, 4, 5, 6, 7] ?_
  exact h
theorem round_body {k j : Nat} {res : List S55 × Int × Int} (g : G) (l nl nd ns n2 n3 n4 n5 no : Nat) (r : Loop) (hst : r.state = .ready) (hpe : r.pending = none) (s : ByteArray) (t : ByteArray × ByteArray × Bool) (n : Int) (out : List S55)
    (h : (if t.1 = ByteArray.mk #[] ∨ byteAt t.1 0 = 35 then op_Script_c (op_Script_l k j) t n out
      else (op_Read k t.1).bind fun r =>
      if r.2 ≠ (0 : Int) then some ([], n, r.2)
      else if (out ++ [r.1]).length * 32 ≤ 140737488355328 then op_Script_c (op_Script_l k j) t n (out ++ [r.1])
      else none) = some res) :
    AWI g (Fence.wide.inRound l) Try.prog 35 (codeB Try.f50.body) (RoundQ 0 nl r (RS k j res nl nd ns n2 n3 n4 n5 r s t n out)) [(2, .ptr n2 0), (3, .ptr n3 0), (4, .ptr n4 0), (5, .ptr n5 0), (6, eI64 n), (7, eStr t.1)]
      ((nl, .raw (.loop { r with state := .busy })) :: (nd, .raw (.deferred (some []))) :: Hs ns n2 n3 n4 n5 no s 0 0 out) := by
  have hready : ({ r with state := .ready, pending := none } : Loop) = r := by cases r; simp_all
  show AWI _ _ _ _ (.block _ (.seq (.seq _ _) _)) _ _ _
  refine AWI.block ?_
  refine AWI.seq ?_
  refine AWI.seq ?_
  have skipQ : op_Script_c (op_Script_l k j) t n out = some res → ∀ b : Bool, b = true → AWI g (Fence.wide.inRound l) Try.prog 35 (.cond (.tmp 20) (.exit 1) .skip) (Then (AWI g (Fence.wide.inRound l) Try.prog 35 (codeR (codeB Try.f50.body)) (InBlock 1 (RoundQ 0 nl r (RS k j res nl nd ns n2 n3 n4 n5 r s t n out)))) (InBlock 1 (RoundQ 0 nl r (RS k j res nl nd ns n2 n3 n4 n5 r s t n out)))) [(20, .fl (.bool b))] ((nl, .raw (.loop { r with state := .busy })) :: (nd, .raw (.deferred (some []))) :: Hs ns n2 n3 n4 n5 no s 0 0 out) := by
    intro hc b hb
    subst hb
    refine AWI.cond true rfl (fun _ => ?_) (fun h => by cases h)
    refine AWI.exit (ρ' := []) trivial (Sub.refl _) ?_
    refine Then.ex (InBlock.hit ?_)
    refine ⟨rfl, ?_⟩
    refine ⟨out, no, ?_, hc⟩
    rw [hready]; rfl
  by_cases h1 : t.1 = ByteArray.mk #[]
  · rw [if_pos (.inl h1)] at h
    refine AWI.rg (open_round _ _) rfl ?_
    refine AO.c (Calm.move rfl rfl) ?_
    refine AO.c (x := eBool (decide (t.1 = ByteArray.mk #[]))) (Calm.str rfl rfl rfl rfl) ?_
    refine AO.c (Calm.move rfl rfl) ?_
    refine AO.sF rfl rfl (bD (decide_eq_true h1)) ?_
    refine AO.sF rfl rfl (bD (decide_eq_true h1)) ?_
    refine AO.sF rfl rfl (bD (decide_eq_true h1)) ?_
    refine AO.c (Calm.pickT rfl (bD (decide_eq_true h1)) rfl) ?_
    refine AO.nK [20] ?_
    exact skipQ h true rfl
  · have h1' := decide_eq_false h1
    have hz : 0 < t.1.size := by
      rcases Nat.eq_zero_or_pos t.1.size with e | e
      · exact absurd (by apply ByteArray.ext; exact Array.eq_empty_of_size_eq_zero e) h1
      · exact e
    have reg : ∀ (K : Env → Heap → Prop) (H : Heap), K [(2, .ptr n2 0), (3, .ptr n3 0), (4, .ptr n4 0), (5, .ptr n5 0), (6, eI64 n), (7, eStr t.1), (20, eBool (decide (byteAt t.1 0 = 35)))] H →
        AO Try.prog 35 (codeL (codeB Try.f50.body)).toArray (codeL (codeB Try.f50.body)) K [(2, .ptr n2 0), (3, .ptr n3 0), (4, .ptr n4 0), (5, .ptr n5 0), (6, eI64 n), (7, eStr t.1)] H := by
      intro K H hk
      refine AO.c (Calm.move rfl rfl) ?_
      refine AO.c (x := eBool (decide (t.1 = ByteArray.mk #[]))) (Calm.str rfl rfl rfl rfl) ?_
      refine AO.c (Calm.move rfl rfl) ?_
      refine AO.cG rfl rfl (bD h1') (Calm.move rfl rfl) ?_
      refine AO.cG rfl rfl (bD h1') (Calm.idxStr rfl rfl rfl (by omega) (by omega) Try.underlying9) ?_
      refine AO.cG (x := eBool (decide (byteAt t.1 0 = 35))) rfl rfl (bD h1') (Calm.int rfl rfl rfl rfl) ?_
      refine AO.c (Calm.pickF rfl (bD h1') rfl) ?_
      refine AO.nK [2, 3, 4, 5, 6, 7, 20] ?_
      exact hk
    refine AWI.rg (open_round _ _) rfl (reg _ _ ?_)
    by_cases h2 : byteAt t.1 0 = 35
    · rw [if_pos (.inr h2)] at h
      exact AWI.weak (ρ' := [(20, .fl (.bool (decide (byteAt t.1 0 = 35))))]) ⟨rfl, trivial⟩ (Sub.refl _) (skipQ h _ (decide_eq_true h2))
    · rw [if_neg (by simp [h1, h2])] at h
      obtain ⟨rr, er, h⟩ := of_bind h
      refine AWI.cond false (bD (decide_eq_false h2)) (fun h => by cases h) (fun _ => ?_)
      refine AWI.skip (ρ' := [(2, .ptr n2 0), (3, .ptr n3 0), (4, .ptr n4 0), (5, .ptr n5 0), (6, eI64 n), (7, eStr t.1)]) ⟨rfl, rfl, rfl, rfl, rfl, rfl, trivial⟩ (Sub.refl _) ?_
      refine AWI.sr (open_round _ _) rfl ?_
      refine AO.c (Calm.move rfl rfl) ?_
      refine AO.callS [(eStr t.1)] (.tup [(e55 rr.1), (eI64 rr.2)]) 23 rfl (by decide) ok47 rfl rfl rfl ⟨rfl, rfl, trivial⟩ (op_Read_spec er) ?_
      refine AO.c (Calm.move rfl rfl) ?_
      refine AO.c (Calm.extract rfl rfl rfl) ?_
      refine AO.c (Calm.extract rfl rfl rfl) ?_
      refine AO.alloc rfl 8 rfl (by decide) rfl zr55 lay55 fun n8 => ?_
      refine AO.store (X' := (e55 rr.1)) 0 rfl rfl rfl rfl rfl rfl (Put.cast Put.here rfl) rfl rfl sz55 rfl ?_
      refine AO.c (Calm.assign rfl rfl) ?_
      refine AO.nK [2, 3, 4, 5, 6, 8, 9] ?_
      refine AWI.seq ?_
      refine AWI.sr (open_round _ _) rfl ?_
      refine AO.c (Calm.move rfl rfl) ?_
      refine AO.c (x := eBool (decide (rr.2 ≠ 0))) (Calm.int rfl rfl rfl rfl) ?_
      refine AO.nK [2, 3, 4, 5, 6, 8, 9, 27] ?_
      by_cases h3 : rr.2 ≠ 0
      · rw [if_pos h3] at h
        have hr := (Option.some.inj h).symm
        refine AWI.cond true (bD (decide_eq_true h3)) (fun _ => ?_) (fun h => by cases h)
        refine AWI.sr (open_round _ _) rfl ?_
        refine AO.c (Calm.move rfl rfl) ?_
        refine AO.c (Calm.move rfl rfl) ?_
        refine AO.store (X' := (.fl (.slice none 0 0))) 4 rfl rfl rfl rfl rfl rfl (Put.cast Put.here rfl) rfl rfl sz70q rfl ?_
        refine AO.store (X' := (eI64 n)) 5 rfl rfl rfl rfl rfl rfl (Put.cast Put.here rfl) rfl rfl sz3 rfl ?_
        refine AO.store (X' := (eI64 rr.2)) 6 rfl rfl rfl rfl rfl rfl (Put.cast Put.here rfl) rfl rfl sz28q rfl ?_
        refine AO.nH [2] (H' := ((nl, .raw (.loop { r with state := .busy })) :: (nd, .raw (.deferred (some []))) :: Hs ns n2 n3 n4 n5 no s n rr.2 out)) (Sub.drop (Sub.refl _)) ?_
        refine AWI.ret (ρ' := []) trivial (Sub.refl _) ?_
        refine ⟨rfl, rfl, ?_⟩
        refine ⟨no, out, ?_, ?_⟩
        · rw [hr]; rfl
        · rw [hr]
      · rw [if_neg h3] at h
        refine AWI.cond false (bD (decide_eq_false h3)) (fun h => by cases h) (fun _ => ?_)
        refine AWI.skip (ρ' := [(2, .ptr n2 0), (3, .ptr n3 0), (4, .ptr n4 0), (5, .ptr n5 0), (6, eI64 n), (8, .ptr n8 0)]) ⟨rfl, rfl, rfl, rfl, rfl, rfl, trivial⟩ (Sub.refl _) ?_
        obtain ⟨hb, h⟩ := of_guard h
        refine AWI.rg (open_round _ _) rfl ?_
        refine AO.c (Calm.load 7 rfl rfl rfl (At.cast At.here rfl) ag70q sz70q) ?_
        refine AO.c (Calm.load 0 rfl rfl rfl (At.cast At.here rfl) ag55 sz55) ?_
        refine AO.lit (Z := (.st [(1, (eI64 (0 : Int))), (1, (eI64 (0 : Int))), (1, (eStr ByteArray.empty))])) (xs := (([rr.1] : List S55).map e55)) (qs := [(0, (e55 rr.1))]) rfl 32 rfl (by decide) rfl ⟨rfl, rfl, rfl, trivial⟩ Try.underlying70 sz55 zr55 lay55 rfl (by decide) (litOK (z := 3) [(e55 rr.1)] rfl ⟨⟨rfl, rfl⟩, trivial⟩) rfl fun n24 => ?_
        refine AO.appendL (l := out) (m := ([rr.1] : List S55)) 9 33 rfl (by decide) rfl rfl rfl rfl rfl (Src.ownL (f := e55) (l := ([rr.1] : List S55)) 0 rfl) Try.underlying70 Try.underlying70 sz55 by55q zr55 rfl hb (by decide) fun n25 => ?_
        refine AO.store (X' := (.own n25 0 (out ++ ([rr.1] : List S55)).length)) 8 rfl rfl rfl rfl rfl rfl (Put.cast Put.here rfl) rfl rfl sz70q rfl ?_
        refine AO.nH [2] (H' := ((nl, .raw (.loop { r with state := .busy })) :: (nd, .raw (.deferred (some []))) :: Hs ns n2 n3 n4 n5 n25 s 0 0 (out ++ [rr.1]))) (Sub.drop (Sub.drop (Sub.refl _))) ?_
        refine ⟨rfl, ?_⟩
        refine ⟨out ++ [rr.1], n25, ?_, h⟩
        rw [hready]; rfl

/-- What is left when the iterator has ended. -/
def TS (res : List S55 × Int × Int) (ns n2 n3 n4 n5 : Nat) (jump : Option Code) (H3 : Heap) : Prop :=
  match jump with
  | none => ∃ s out no, H3 = Hs ns n2 n3 n4 n5 no s 0 0 out ∧ res = (out, 0, 0)
  | some c => c = .ret ∧ ∃ s out no, H3 = Hs ns n2 n3 n4 n5 no s res.2.1 res.2.2 out ∧ res.1 = []
def codeH : Code → Code
  | .seq a _ => a
  | c => c
def codeT : Code → Code
  | .seq _ a => a
  | c => c
def codeI : Option Code → Code
  | some c => c
  | _ => .skip
abbrev AF (n2 n3 n4 n5 : Nat) : Env := [(2, .ptr n2 0), (3, .ptr n3 0), (4, .ptr n4 0), (5, .ptr n5 0)]
theorem iter_walk {k : Nat} {res : List S55 × Int × Int} (g1 : G) (l nl nd : Nat) (pl : Place) (tmps : Array Value) (hnl : g1.nm[nl]? = some pl) (hpl : pl.b = some l) (ns n2 n3 n4 n5 no : Nat)
    (htm : ESat g1 (AF n2 n3 n4 n5) { tmps := tmps, defers := [] }) (hN : tmps.size = 35) (r : Loop) (hr : RecOK r tmps #[12, 13] (codeA Try.f50.body) (codeB Try.f50.body)) (p0 : ByteArray) (h : op_Script_l k k p0 1 [] = some res) :
    AWI g1 Fence.wide Try.prog 25 (codeI Try.f90.body) (fun e ρ' H' => (e = .ret ∨ e = .normal) ∧ ∃ r' H3, H' = (nl, .raw (.loop r')) :: (nd, .raw (.deferred (some []))) :: H3 ∧ r'.state ≠ .busy ∧ TS res ns n2 n3 n4 n5 r'.pending H3)
      (params 0 [.fl (.func (.yield l) #[] #[]), .ptr ns 0]) ((nl, .raw (.loop r)) :: (nd, .raw (.deferred (some []))) :: Hs ns n2 n3 n4 n5 no p0 0 0 []) := by
  show AWI _ _ _ _ (.seq (.region _ _ _) (.block _ (.loop (.seq (.block _ (.seq (.region _ _ _) (.seq (.seq (.region _ _ _) (.cond _ _ _)) (.region _ _ _)))) (.region _ _ _))))) _ _ _
  refine AWI.sr (open_wide _) rfl ?_
  refine AO.c (Calm.assign rfl rfl) ?_
  refine AO.nK [0, 1, 3] ?_
  refine AWI.block ?_
  refine AWI.loop (fun kq ρ H => ∃ s n out no, ρ = [(0, .fl (.func (.yield l) #[] #[])), (1, .ptr ns 0), (3, eI64 n)] ∧ H = ((nl, .raw (.loop r)) :: (nd, .raw (.deferred (some []))) :: Hs ns n2 n3 n4 n5 no s 0 0 out) ∧ op_Script_l k kq s n out = some res) k ⟨p0, 1, [], no, rfl, rfl, h⟩ ?_
  clear h
  rintro kq _ _ ⟨s, n, out, no, rfl, rfl, h⟩
  cases kq with
  | zero => rw [op_Script_l.eq_1] at h; cases h
  | succ kq =>
  rw [op_Script_l.eq_2] at h
  obtain ⟨t, et, h⟩ := of_bind h
  refine AWI.seq ?_
  refine AWI.block ?_
  refine AWI.sr (open_wide _) rfl ?_
  refine AO.c (Calm.load 2 rfl rfl rfl (At.cast At.here rfl) ag9 sz9) ?_
  refine AO.callS [(eStr s), (eStr (ByteArray.mk #[10]))] (.tup [(eStr t.1), (eStr t.2.1), (eBool t.2.2)]) 11 rfl (by decide) ok67 rfl rfl rfl ⟨rfl, rfl, rfl, rfl, trivial⟩ (strings_Cut_spec et) ?_
  refine AO.c (Calm.move rfl rfl) ?_
  refine AO.c (Calm.extract rfl rfl rfl) ?_
  refine AO.c (Calm.extract rfl rfl rfl) ?_
  refine AO.c (Calm.extract rfl rfl rfl) ?_
  refine AO.c (Calm.assign rfl rfl) ?_
  refine AO.c (Calm.assign rfl rfl) ?_
  refine AO.c (Calm.assign rfl rfl) ?_
  refine AO.nK [0, 1, 3, 4, 5, 6] ?_
  refine AWI.seq ?_
  refine AWI.seq ?_
  refine AWI.regY (open_wide _) (l0 := l) (pre := _) (post := _) (o := _) (show _ = [_, _, _] ++ _ :: [_, _, _, _, _] from rfl) (noDef_ok rfl) rfl rfl (by decide) rfl
    (fun ρ H => ρ = [(0, .fl (.func (.yield l) #[] #[])), (1, .ptr ns 0), (3, eI64 n), (5, eStr t.2.1), (6, eBool t.2.2), (15, .fl (.func (.yield l) #[] #[])), (16, eI64 n), (17, eStr t.1)] ∧ H = ((nl, .raw (.loop r)) :: (nd, .raw (.deferred (some []))) :: Hs ns n2 n3 n4 n5 no s 0 0 out)) ?_ ?_
  · refine AO.c (Calm.move rfl rfl) ?_
    refine AO.c (Calm.move rfl rfl) ?_
    refine AO.c (Calm.move rfl rfl) ?_
    refine AO.nK [0, 1, 3, 5, 6, 15, 16, 17] ?_
    exact ⟨rfl, rfl⟩
  · rintro m Fr g ρ1 H1 a w hg ⟨rfl, rfl⟩ hs hN2 hw
    have ea : a.eval (.tmp 16) = .int .i64 n := hs.ev (x := .tmp 16) rfl
    have eb : a.eval (.tmp 17) = .string t.1 := hs.ev (x := .tmp 17) rfl
    refine ⟨hs.ev (x := .tmp 15) rfl, ?_⟩
    have hnl2 := hg.nm _ _ hnl
    have hsz : r.tmps.size = 35 := by rw [hr.tm]; exact hN
    have harg : (#[Operand.tmp 16, .tmp 17].map a.eval) = #[.int .i64 n, .string t.1] := by simp [ea, eb]
    rw [harg]
    have hfold : (r.params.zip #[Value.int .i64 n, .string t.1]).foldl (fun tmps (x : Tmp × Value) => tmps.setIfInBounds x.1 x.2) r.tmps = (r.tmps.setIfInBounds 12 (.int .i64 n)).setIfInBounds 13 (.string t.1) := by rw [hr.pa]; simp
    refine (yield_round (open_wide _) hw (j := 0) rfl hnl2 hpl hr.st (by rw [hr.pa]; rfl) (N := 35) (ρ0 := (13, eStr t.1) :: (12, eI64 n) :: AF n2 n3 n4 n5) ?_ ?_ (RS k kq res nl nd ns n2 n3 n4 n5 r s t n out) ?_).mono ?_
    · rw [hfold, hr.tm]
      have h1 := (htm.mono hg).put (d := 12) (x := eI64 n) (v := .int .i64 n) rfl (by show 12 < tmps.size; omega)
      exact h1.put (d := 13) (x := eStr t.1) (v := .string t.1) rfl (by rw [put_size]; show 13 < tmps.size; omega)
    · rw [hfold]; simp [hsz]
    · have hB := round_body g l nl nd ns n2 n3 n4 n5 no r hr.st hr.pe s t n out h
      have key := fun Q h => round_assign g l n2 n3 n4 n5 n t.1 Q ((nl, .raw (.loop r)) :: (nd, .raw (.deferred (some []))) :: Hs ns n2 n3 n4 n5 no s 0 0 out) h
      rw [← hr.as] at key
      rw [← hr.bo] at hB
      exact key _ ⟨rfl, hB⟩
    · rintro e w' ⟨jump, g', H', rfl, hg', hw', hS⟩
      refine ⟨_, rfl, g', eBool jump.isNone, H', hg', rfl, hw', ?_⟩
      cases jump with
      | none =>
        obtain ⟨out', no', rfl, hc⟩ := hS
        refine AO.c (Calm.not rfl rfl) ?_
        refine AO.c (Calm.move rfl rfl) ?_
        refine AO.cG rfl rfl rfl (Calm.move rfl rfl) ?_
        refine AO.cG rfl rfl rfl (Calm.not rfl rfl) ?_
        refine AO.c (Calm.pickF rfl rfl rfl) ?_
        refine AO.nK [0, 1, 3, 5, 23] ?_
        rw [op_Script_c.eq_1] at hc
        rcases of_ite hc with ⟨hm, hc⟩ | ⟨hm, hc⟩
        · refine AWI.cond false (bD (by rw [hm]; rfl)) (fun h => by cases h) (fun _ => ?_)
          refine AWI.skip (ρ' := [(0, .fl (.func (.yield l) #[] #[])), (1, .ptr ns 0), (3, eI64 n), (5, eStr t.2.1)]) ⟨rfl, rfl, rfl, rfl, trivial⟩ (Sub.refl _) ?_
          refine AWI.rg (open_wide _) rfl ?_
          refine AO.c (Calm.move rfl rfl) ?_
          refine AO.store (X' := (eStr t.2.1)) 2 rfl rfl rfl rfl rfl rfl (Put.cast Put.here rfl) rfl rfl sz9 rfl ?_
          refine AO.nK [0, 1, 3] ?_
          refine AWI.rg (open_wide _) rfl ?_
          refine AO.c (Calm.move rfl rfl) ?_
          refine AO.c (x := eI64 (w64 (n + (1 : Int)))) (Calm.int rfl rfl rfl rfl) ?_
          refine AO.c (Calm.assign rfl rfl) ?_
          refine AO.nK [0, 1, 3] ?_
          exact ⟨kq, Nat.lt_succ_self _, t.2.1, w64 (n + 1), out', no', rfl, rfl, hc⟩
        · refine AWI.cond true (bD (by simpa using hm)) (fun _ => ?_) (fun h => by cases h)
          refine AWI.ret (ρ' := []) trivial (Sub.refl _) ?_
          refine ⟨.inl rfl, r, _, rfl, by rw [hr.st]; simp, ?_⟩
          rw [hr.pe]
          exact ⟨s, out', no', rfl, (Option.some.inj hc).symm⟩
      | some c =>
        obtain ⟨rfl, no', out', rfl, hc⟩ := hS
        refine AO.c (Calm.not rfl rfl) ?_
        refine AO.c (Calm.move rfl rfl) ?_
        refine AO.sF rfl rfl rfl ?_
        refine AO.sF rfl rfl rfl ?_
        refine AO.c (Calm.pickT rfl rfl rfl) ?_
        refine AO.nK [23] ?_
        refine AWI.cond true rfl (fun _ => ?_) (fun h => by cases h)
        refine AWI.ret (ρ' := []) trivial (Sub.refl _) ?_
        exact ⟨.inl rfl, _, _, rfl, by simp, rfl, s, out', no', rfl, hc⟩

theorem ok71 : FnOK Try.prog 71 := FnOK.mk Try.func71 rfl rfl
/-- op.lines: a function over a box. -/
theorem lines_calls (s : ByteArray) {Fr : Fr} {g : G} {H : Heap} {w : World} (hs : WSat Fr g H w) :
    Calls Try.prog 71 #[.string s] w fun e w' => ∃ g' n p b, e = .returned (.func (.func 90) #[] #[.pointer (some ⟨b, p.base + 0, none⟩)]) ∧ g.le g' ∧ g'.nm[n]? = some p ∧ p.b = some b ∧ WSat Fr g' ((n, .mem (eStr s)) :: H) w' := by
  refine calls_of_wp Try.func71 rfl ?_
  have h0 : AW Try.prog 4 (.region 0 (codeL (.block 0 (.seq (.seq (match (codeI Try.f71.body) with | .seq r _ => r | c => c) .skip) .skip))).toArray false) (fun e ρ H' => e = .normal ∧ ∃ n, ρ = [(1, .ptr n 0)] ∧ H' = (n, .mem (eStr s)) :: H) (params 0 [eStr s]) H := by
    refine AW.reg ?_
    refine AO.box rfl 1 rfl (by decide) rfl rfl rfl fun n => ?_
    refine AO.c (Calm.assign rfl rfl) ?_
    refine AO.nK [1] ?_
    exact ⟨rfl, n, rfl, rfl⟩
  unfold AW at h0
  refine wp_seq (h0 Fr g _ w _ (init_sat (g := g) (args := [eStr s]) (cargs := [.string s]) (.cons (show V1 g (eStr s) (.string s) from rfl) .nil) _) (by rfl) hs ?_)
  rintro e g1 ρ1 H1 a1 w1 k1 k2 k3 k4 k5 ⟨rfl, n, rfl, rfl⟩
  have hp : Sim g1 (.ptr n 0) [a1.tmps.getD 1 undef] := k2 1 _ rfl
  generalize hv : a1.tmps.getD 1 undef = v at hp
  cases hp with
  | @ptr _ _ p b hn hb =>
  show Code.wp _ (.seq (.region _ _ _) .ret) _ _ _
  refine wp_seq (wp_region_lit ?_)
  refine wpList_val rfl (v := .func (.func 90) #[] #[.pointer (some ⟨b, p.base + 0, none⟩)]) ?_ ?_
  · have e1 : a1.eval (.tmp 1) = .pointer (some ⟨b, p.base + 0, none⟩) := hv
    simp [execOp, Instr.makeFunc, e1]
  refine wpList_val rfl (v := .func (.func 90) #[] #[.pointer (some ⟨b, p.base + 0, none⟩)]) ?_ ?_
  · have e2 : (a1.put (some 3) (.func (.func 90) #[] #[.pointer (some ⟨b, p.base + 0, none⟩)])).eval (.tmp 3) = .func (.func 90) #[] #[.pointer (some ⟨b, p.base + 0, none⟩)] := by
      show ((a1.put (some 3) _).tmps.getD 3 undef) = _
      simp [Act.put, k3]
    show (execOp _ _).run _ _ = _
    simp only [execOp]
    rw [e2]
    rfl
  refine wp_ret ?_
  refine ⟨by rw [put_defers, put_defers, k4], _, ?_, g1, n, p, b, rfl, k1, hn, hb, k5⟩
  simp [results, Act.put, k3]

theorem lo_then {Q : Exit → Act → World → Prop} {K : Act → World → Prop} (h : ¬ LetsOut Q) : ¬ LetsOut (Exit.then K Q) := fun ⟨a, w, k⟩ => h ⟨a, w, k⟩
theorem lo_block {Q : Exit → Act → World → Prop} {id : Nat} (h : ¬ LetsOut Q) : ¬ LetsOut (Exit.inBlock id Q) := fun ⟨a, w, k⟩ => h ⟨a, w, k⟩
theorem lo_body {P : Program} {F : Fence} {n : Nat} {fn : Func} {r : AV} {w0 : World} {g : G} : ¬ LetsOut (bodyPostM F n P fn (fun e w' => ∃ v g', e = .returned v ∧ g.le g' ∧ V g' r v ∧ (∀ b o y, g'.ro b o = some y → w'.cell? ⟨b, o, none⟩ = some y) ∧
      (∀ b o y, b < w0.heap.size → g'.ro b o = some y → g.ro b o = some y) ∧ Below w0.heap.size w0 w')) := by
  rintro ⟨_, _, h⟩
  obtain ⟨v, _, h, _⟩ := h
  cases h
theorem fin50 {g : G} {w : World} (htab : TabW w) {r : List S55 × Int × Int} {g' : G} {a' : Act} {w' : World} {n2 n3 n4 nd bd : Nat} {pd : Place} (hg : g.le g') (hs : ESat g' [(2, .ptr n2 0), (3, .ptr n3 0), (4, .ptr n4 0)] a') (hd : a'.defers = [{ target := .collected bd, args := #[] }])
    (hw : WSat ⟨w.heap.size, w, g.ro, htab.fr⟩ g' [(nd, .raw (.deferred (some []))), (n2, .mem (.fz 3 (r.1.map e55))), (n3, .mem (eI64 r.2.1)), (n4, .mem (eI64 r.2.2))] w') (hn : g'.nm[nd]? = some pd) (hb : pd.b = some bd) :
    bodyPostM Fence.wide 5 Try.prog Try.f50 (fun e w' => ∃ v g', e = .returned v ∧ g.le g' ∧ V g' (.tup [(.fz 3 (r.1.map e55)), (eI64 r.2.1), (eI64 r.2.2)]) v ∧ (∀ b o y, g'.ro b o = some y → w'.cell? ⟨b, o, none⟩ = some y) ∧
      (∀ b o y, b < w.heap.size → g'.ro b o = some y → g.ro b o = some y) ∧ Below w.heap.size w w') .ret a' w' := by
  show LeavesInM _ _ _ _ _ _ a'.defers _ _
  rw [hd]
  obtain ⟨p', b', q1, q2, q3⟩ := hw.rawAt (j := 0) rfl
  have e1 : p' = pd := Option.some.inj (q1.symm.trans hn)
  subst e1
  have e2 : b' = bd := Option.some.inj (q2.symm.trans hb)
  subst e2
  have hw2 := hw.putRaw (o' := .deferred none) (j := 0) rfl hn hb
  obtain ⟨v, h1, h2⟩ := body_end (P := Try.prog) (fn := Try.f50) (res := [.cell 2 70, .cell 3 3, .cell 4 28]) (xs := [(.fz 3 (r.1.map e55)), (eI64 r.2.1), (eI64 r.2.2)]) rfl hs hw2 ⟨⟨n2, 1, rfl, rfl, ag70q, sz70q⟩, ⟨n3, 2, rfl, rfl, ag3, sz3⟩, ⟨n4, 3, rfl, rfl, ag28q, sz28q⟩, trivial⟩
  refine ⟨by simp, .inl ⟨b', _, rfl, run_takeDeferred q3, ?_⟩⟩
  exact ⟨v, h1, v, g', rfl, hg, h2, hw2.ro, hw2.r0, hw2.below⟩
theorem op_Script_spec {k : Nat} {p0 : ByteArray} {r : List S55 × Int × Int} (h : op_Script k p0 = some r) : Spec Try.prog 50 [(eStr p0)] (.tup [(.fz 3 (r.1.map e55)), (eI64 r.2.1), (eI64 r.2.2)]) := by
  unfold Spec
  intro g cargs w hc hro htab
  cases hc with
  | @cons _ v _ vs h1 h2 =>
  cases h2
  obtain rfl : v = .string p0 := h1
  refine (callsIn_wide (n := 5)).1 (callsIn_of_wp_marks Try.func50 rfl trivial ?_)
  have hs0 : WSat ⟨w.heap.size, w, g.ro, htab.fr⟩ g [] w := ⟨Below.refl _ _, Nat.le_refl _, hro, fun _ _ _ _ h => h, fun n m h => by simp at h, List.Pairwise.nil⟩
  -- the objects of the call
  have h0 : AWI g Fence.wide Try.prog 35 (codeH (codeI Try.f50.body)) (fun e ρ H => e = .normal ∧ ∃ n2 n3 n4, ρ = [(0, eStr p0), (2, .ptr n2 0), (3, .ptr n3 0), (4, .ptr n4 0)] ∧ H = [(n2, .mem (.fl (.slice none 0 0))), (n3, .mem (eI64 0)), (n4, .mem (eI64 0))]) (params 0 [eStr p0]) [] := by
    show AWI _ _ _ _ (.region _ _ _) _ _ _
    refine AWI.rg (open_wide _) rfl ?_
    refine AO.alloc rfl 2 rfl (by decide) rfl zr70q lay70q fun n2 => ?_
    refine AO.alloc rfl 3 rfl (by decide) rfl zr3q lay3q fun n3 => ?_
    refine AO.alloc rfl 4 rfl (by decide) rfl zr28q lay3q fun n4 => ?_
    refine AO.nH [0, 2, 3, 4] (H' := [(n2, .mem (.fl (.slice none 0 0))), (n3, .mem (eI64 0)), (n4, .mem (eI64 0))]) (Sub.cons 2 rfl (Sub.cons 1 rfl (Sub.cons 0 rfl (Sub.nil _)))) ?_
    exact ⟨rfl, n2, n3, n4, rfl, rfl⟩
  unfold AWI at h0
  have hN0 : ∀ k, k + 1 = 35 → (#[Value.string p0] ++ Array.replicate k undef).size = 35 := by intro k hk; simp; omega
  have hI0 : ∀ k, ESat g (params 0 [eStr p0]) { tmps := #[Value.string p0] ++ Array.replicate k undef, defers := [] } := fun k => init_sat (g := g) (args := [eStr p0]) (cargs := [.string p0]) (.cons (show V1 g (eStr p0) (.string p0) from rfl) .nil) k
  show Code.wpIn _ _ _ (.seq (.region _ _ _) _) _ _ _
  refine wpIn_seq ?_
  refine h0 5 _ g _ w _ (.refl g) (hI0 _) (hN0 _ rfl) hs0 (lo_then lo_body) ?_
  rintro e g1 ρ1 H1 a1 w1 k1 k2 k3 k4 k5 ⟨rfl, n2, n3, n4, rfl, rfl⟩
  have h1 : AWI g Fence.wide Try.prog 35 (codeH (codeT (codeI Try.f50.body))) (fun e ρ H => e = .normal ∧ ∃ n5 no, ρ = (0, eStr p0) :: AF n2 n3 n4 n5 ∧ H = [(n2, .mem (.fl (.slice none 0 0))), (n3, .mem (eI64 0)), (n4, .mem (eI64 0)), (n5, .mem (.own no 0 0)), (no, .mem (.ar 3 []))]) [(0, eStr p0), (2, .ptr n2 0), (3, .ptr n3 0), (4, .ptr n4 0)] [(n2, .mem (.fl (.slice none 0 0))), (n3, .mem (eI64 0)), (n4, .mem (eI64 0))] := by
    show AWI _ _ _ _ (.region _ _ _) _ _ _
    refine AWI.rg (open_wide _) rfl ?_
    refine AO.alloc rfl 5 rfl (by decide) rfl zr70q lay70q fun n5 => ?_
    refine AO.nilOwnFld 0 3 (fun n => .own n 0 0) rfl (fun n => Put.here) (fun _ => rfl) (fun _ => rfl) fun no => ?_
    refine AO.nH [0, 2, 3, 4, 5] (H' := [(n2, .mem (.fl (.slice none 0 0))), (n3, .mem (eI64 0)), (n4, .mem (eI64 0)), (n5, .mem (.own no 0 0)), (no, .mem (.ar 3 []))]) (Sub.cons 2 rfl (Sub.cons 2 rfl (Sub.cons 2 rfl (Sub.cons 1 rfl (Sub.cons 0 rfl (Sub.nil _)))))) ?_
    exact ⟨rfl, n5, no, rfl, rfl⟩
  unfold AWI at h1
  show Code.wpIn _ _ _ (.seq _ _) _ _ _
  refine wpIn_seq (h1 5 _ g1 _ w1 _ k1 k2 k3 k5 (lo_then lo_body) ?_)
  rintro e g2 ρ2 H2 a2 w2 l1 l2 l3 l4 l5 ⟨rfl, n5, no, rfl, rfl⟩
  show Code.wpIn _ _ _ (.seq (.seq (.region _ _ _) (.block _ (.rangeFunc _ _ _ _))) (.seq (.region _ _ _) .ret)) _ _ _
  refine wpIn_seq (wpIn_seq ?_)
  -- the iterator is made
  refine wpIn_region_app (pre := [_]) (post := [_]) (N := 35) (open_wide _) rfl rfl ?_ (fun ρ H => ρ = (10, eStr p0) :: AF n2 n3 n4 n5 ∧ H = [(n2, .mem (.fl (.slice none 0 0))), (n3, .mem (eI64 0)), (n4, .mem (eI64 0)), (n5, .mem (.own no 0 0)), (no, .mem (.ar 3 []))]) l2 l3 l5 ?_ ?_
  · exact lo_then (lo_then lo_body)
  · refine AO.c (Calm.move rfl rfl) ?_
    refine AO.nK [10, 2, 3, 4, 5] ?_
    exact ⟨rfl, rfl⟩
  rintro g3 _ _ a3 w3 j1 j2 j3 j4 j5 ⟨rfl, rfl⟩
  have e10 : a3.eval (.tmp 10) = .string p0 := j2.ev (x := .tmp 10) rfl
  refine wpListIn_callRaw (ys := [.tmp 10]) (open_wide _) rfl rfl rfl rfl ok71 (R := fun e w' => ∃ g' n p b, e = .returned (.func (.func 90) #[] #[.pointer (some ⟨b, p.base + 0, none⟩)]) ∧ g3.le g' ∧ g'.nm[n]? = some p ∧ p.b = some b ∧ WSat ⟨w.heap.size, w, g.ro, htab.fr⟩ g' ((n, .mem (eStr p0)) :: [(n2, .mem (.fl (.slice none 0 0))), (n3, .mem (eI64 0)), (n4, .mem (eI64 0)), (n5, .mem (.own no 0 0)), (no, .mem (.ar 3 []))]) w') ?_ ?_
  · have := lines_calls p0 j5
    rw [show ([Operand.tmp 10].map a3.eval).toArray = #[.string p0] by simp [e10]]
    exact this
  rintro e w4 ⟨g4, ns, ps, bs, rfl, m1, m2, m3, m4⟩
  refine ⟨_, rfl, ?_⟩
  show Code.wpIn _ _ _ (.block _ (.rangeFunc _ _ _ _)) _ _ _
  refine wpIn_block ?_
  have hsat : ESat g4 (AF n2 n3 n4 n5) (a3.put (some 11) (.func (.func 90) #[] #[.pointer (some ⟨bs, ps.base + 0, none⟩)])) := by
    have h5 := (j2.mono m1).put (d := 11) (x := .fl (.func (.func 90) #[] #[.pointer (some ⟨bs, ps.base + 0, none⟩)])) rfl (by rw [j3]; decide)
    exact ESub.sat (ρ' := AF n2 n3 n4 n5) ⟨rfl, rfl, rfl, rfl, trivial⟩ h5
  have hx : (a3.put (some 11) (.func (.func 90) #[] #[.pointer (some ⟨bs, ps.base + 0, none⟩)])).eval (.tmp 11) = .func (.func 90) #[] #[.pointer (some ⟨bs, ps.base + 0, none⟩)] := by
    show ((a3.put (some 11) _).tmps.getD 11 undef) = _
    simp [Act.put, j3]
  have hsz : (a3.put (some 11) (.func (.func 90) #[] #[.pointer (some ⟨bs, ps.base + 0, none⟩)])).tmps.size = 35 := by rw [put_size]; exact j3
  have hdf : (a3.put (some 11) (.func (.func 90) #[] #[.pointer (some ⟨bs, ps.base + 0, none⟩)])).defers = [] := by rw [put_defers, j4, l4, k4]
  refine wpIn_range (fn := Try.f90) (N := 25) m4 ?_ hx Try.func90 rfl rfl rfl (by simp) rfl [.ptr ns 0] (.cons (Sim.ptr m2 m3) .nil) (TS r ns n2 n3 n4 n5) ?_ ?_
  · exact lo_block (lo_then lo_body)
  · intro g5 l nl nd pl rr q1 q2 q3 q4
    exact iter_walk g5 l nl nd pl _ q2 q3 ns n2 n3 n4 n5 no (hsat.mono q1) hsz rr q4 p0 h
  · intro g5 H3 jump w5 nl nd bd pd r' q1 q2 q3 q4 q5
    have le5 : g.le g5 := k1.trans (l1.trans (j1.trans (m1.trans q1)))
    cases jump with
    | none =>
      obtain ⟨s, out, no', rfl, rfl⟩ := q3
      have h2 : AWI g5 Fence.wide Try.prog 35 (codeT (codeT (codeT (codeI Try.f50.body)))) (fun e ρ H => e = .ret ∧ ρ = [(2, .ptr n2 0), (3, .ptr n3 0), (4, .ptr n4 0)] ∧ H = [(nd, .raw (.deferred (some []))), (n2, .mem (.fz 3 (out.map e55))), (n3, .mem (eI64 0)), (n4, .mem (eI64 0))]) (AF n2 n3 n4 n5) ((nl, .raw (.loop r')) :: (nd, .raw (.deferred (some []))) :: Hs ns n2 n3 n4 n5 no' s 0 0 out) := by
        show AWI _ _ _ _ (.seq (.region _ _ _) .ret) _ _ _
        refine AWI.sr (open_wide _) rfl ?_
        refine AO.c (Calm.load 6 rfl rfl rfl (At.cast At.here rfl) ag70q sz70q) ?_
        refine AO.store (X' := (.own no' 0 out.length)) 3 rfl rfl rfl rfl rfl rfl (Put.cast Put.here rfl) rfl rfl sz70q rfl ?_
        refine AO.store (X' := (eI64 0)) 4 rfl rfl rfl rfl rfl rfl (Put.cast Put.here rfl) rfl rfl sz3 rfl ?_
        refine AO.store (X' := (eI64 0)) 5 rfl rfl rfl rfl rfl rfl (Put.cast Put.here rfl) rfl rfl sz28q rfl ?_
        refine AO.freezeFld (X' := .fz 3 (out.map e55)) 7 3 rfl rfl Put.here (by simp) (by rw [own_all]) rfl rfl (by decide) ?_
        refine AO.nH [2, 3, 4] (H' := [(nd, .raw (.deferred (some []))), (n2, .mem (.fz 3 (out.map e55))), (n3, .mem (eI64 0)), (n4, .mem (eI64 0))]) (Sub.cons 1 rfl (Sub.cons 2 rfl (Sub.cons 2 rfl (Sub.cons 2 rfl (Sub.nil _))))) ?_
        refine AWI.ret (ρ' := [(2, .ptr n2 0), (3, .ptr n3 0), (4, .ptr n4 0)]) ⟨rfl, rfl, rfl, trivial⟩ (Sub.refl _) ?_
        exact ⟨rfl, rfl, rfl⟩
      unfold AWI at h2
      show Code.wpIn _ _ _ _ _ _ _
      refine h2 5 _ g5 { tmps := _, defers := _ } w5 _ (.refl g5) (hsat.mono q1) hsz q2 lo_body ?_
      rintro e g6 _ _ a6 w6 t1 t2 t3 t4 t5 ⟨rfl, rfl, rfl⟩
      exact fin50 htab (le5.trans t1) t2 (by rw [t4]; show _ :: _ = _; rw [hdf]) t5 (t1.nm _ _ q4) q5
    | some c =>
      obtain ⟨rfl, s, out, no', rfl, hr⟩ := q3
      refine wpIn_ret ?_
      have s1 : WSat ⟨w.heap.size, w, g.ro, htab.fr⟩ g5 [(nd, .raw (.deferred (some []))), (n2, .mem (.fl (.slice none 0 0))), (n3, .mem (eI64 r.2.1)), (n4, .mem (eI64 r.2.2))] w5 :=
        q2.sub (Sub.cons 1 rfl (Sub.cons 2 rfl (Sub.cons 2 rfl (Sub.cons 2 rfl (Sub.nil _)))))
      have s2 := s1.coeFld 1 (X' := .fz 3 []) rfl Put.here rfl (fun g v => nil_fz 3 g v) rfl rfl
      have s3 : ESat g5 [(2, .ptr n2 0), (3, .ptr n3 0), (4, .ptr n4 0)] { (a3.put (some 11) (.func (.func 90) #[] #[.pointer (some ⟨bs, ps.base + 0, none⟩)])) with defers := { target := .collected bd, args := #[] } :: (a3.put (some 11) (.func (.func 90) #[] #[.pointer (some ⟨bs, ps.base + 0, none⟩)])).defers } := ESub.sat (ρ := AF n2 n3 n4 n5) ⟨rfl, rfl, rfl, trivial⟩ (hsat.mono q1)
      refine fin50 htab le5 s3 (by show _ :: _ = _; rw [hdf]) (by rw [hr]; exact s2) q4 q5
end Go.Avl.T2
/- bosket/bosketref47.Script; printed by avmain.py. -/
namespace Go.Avl.T2
open Go Go.RowKit Go.Proofs Go.Avl
set_option linter.unusedVariables false
set_option maxRecDepth 100000
set_option maxHeartbeats 4000000
attribute [local irreducible] AW AO AQ Spec SpecH Calm

end Go.Avl.T2
/- bosket/bosketlaw47.Same; printed by avmain.py. -/
namespace Go.Avl.T2
open Go Go.RowKit Go.Proofs Go.Avl
set_option linter.unusedVariables false
set_option maxRecDepth 100000
set_option maxHeartbeats 4000000
attribute [local irreducible] AW AO AQ Spec SpecH Calm

def bosketlaw47_Same_c0 (k : Nat) : Option Bool :=
  some (true)
def bosketlaw47_Same_l1 (k : Nat) (p0 : (List S55)) (p1 : (List S60)) : Nat → Int → Option Bool
  | 0, _ => none
  | j + 1, x4 =>
    if x4 < (p0.length : Int) then if 0 ≤ x4 ∧ x4 < (p0.length : Int) then (bosketlaw47_Ref k (lget p0 x4)).bind fun t9 =>
    if 0 ≤ x4 ∧ x4 < (p1.length : Int) then if (!(decide (t9 = (lget p1 x4)))) = true then some (false)
    else (bosketlaw47_Same_l1 k p0 p1 j) (w64 (x4 + (1 : Int)))
    else none
    else none
    else bosketlaw47_Same_c0 k
def bosketlaw47_Same (k : Nat) (p0 : (List S55)) (p1 : (List S60)) : Option Bool :=
  if (p0.length : Int) ≠ (p1.length : Int) then some (false)
  else bosketlaw47_Same_l1 k p0 p1 k (0 : Int)
theorem bosketlaw47_Same_spec {k : Nat} {p0 : (List S55)} {p1 : (List S60)} {r : Bool} (h : bosketlaw47_Same k p0 p1 = some r) : Spec Try.prog 52 [(.fz 3 (p0.map e55)), (.fz 3 (p1.map e60))] (eBool r) := by
  rw [bosketlaw47_Same.eq_1] at h
  refine Spec.intro (res := [.tmp 4]) Try.func52 rfl rfl rfl (Nat.le_of_ble_eq_true rfl) ?_
  refine AW.sr ?_
  refine AO.c (Calm.assign rfl rfl) ?_
  refine AO.nK [0, 1] ?_
  refine AW.seq ?_
  refine AW.sr ?_
  refine AO.c (Calm.move rfl rfl) ?_
  refine AO.c (Calm.lenL rfl rfl Try.underlying70) ?_
  refine AO.c (Calm.move rfl rfl) ?_
  refine AO.c (Calm.lenL rfl rfl Try.underlying73) ?_
  refine AO.c (x := eBool (decide ((p0.length : Int) ≠ (p1.length : Int)))) (Calm.int rfl rfl rfl rfl) ?_
  refine AO.nK [0, 1, 10] ?_
  rcases of_ite h with ⟨hc3, h⟩ | ⟨hc3, h⟩
  ·refine AW.condP _ rfl hc3 ?_
   refine AW.sr ?_
   refine AO.c (Calm.assign rfl rfl) ?_
   refine AO.nK [4] ?_
   refine AW.rK [4] ?_
   have hr := Option.some.inj h
   subst hr
   exact ⟨[(eBool false)], ⟨rfl, rfl, trivial⟩, rfl⟩
  ·refine AW.condN _ rfl hc3 ?_
   refine AW.sK [0, 1] ?_
   refine AW.seq_mid (fun ρ H => ρ = [] ∧ H = [] ∧ bosketlaw47_Same_c0 k = some r) ?_ ?_
   ·refine AW.sr ?_
    refine AO.c (Calm.assign rfl rfl) ?_
    refine AO.nK [0, 1, 5] ?_
    refine AW.block ?_
    refine AW.wK [0, 1, 5] ?_
    refine AW.loop (fun kq ρ H => ∃ (x4 : Int), ρ = [(0, (.fz 3 (p0.map e55))), (1, (.fz 3 (p1.map e60))), (5, (eI64 x4))] ∧ H = [] ∧ bosketlaw47_Same_l1 k p0 p1 kq x4 = some r) k ⟨(0 : Int), rfl, rfl, h⟩ ?_
    rintro kq6 _ _ ⟨x4, rfl, rfl, h⟩
    cases kq6 with
    | zero => rw [bosketlaw47_Same_l1.eq_1] at h; cases h
    | succ kq6 =>
    rw [bosketlaw47_Same_l1.eq_2] at h
    generalize hrec5 : bosketlaw47_Same_l1 k p0 p1 kq6 = rec5 at h
    refine AW.seq ?_
    refine AW.sr ?_
    refine AO.c (Calm.move rfl rfl) ?_
    refine AO.c (Calm.move rfl rfl) ?_
    refine AO.c (Calm.lenL rfl rfl Try.underlying70) ?_
    refine AO.c (x := eBool (decide (x4 < (p0.length : Int)))) (Calm.int rfl rfl rfl rfl) ?_
    refine AO.nK [0, 1, 5, 14] ?_
    rcases of_ite h with ⟨hc7, h⟩ | ⟨hc7, h⟩
    ·refine AW.condP _ rfl hc7 ?_
     refine AW.sK [0, 1, 5] ?_
     refine AW.seq ?_
     refine AW.block ?_
     refine AW.seq ?_
     obtain ⟨hg8, h⟩ := of_guard h
     obtain ⟨t9, et9, h⟩ := of_bind h
     obtain ⟨hg10, h⟩ := of_guard h
     refine AW.regAny (by rfl) (by decide +kernel) [(.fz 3 (p0.map e55)), (eI64 x4), (.rp (e55 (lget p0 x4))), (e55 (lget p0 x4)), (e60 t9), (.fz 3 (p1.map e60)), (eI64 x4), (.rp (e60 (lget p1 x4))), (e60 (lget p1 x4)), (eBool (!(decide (t9 = (lget p1 x4)))))] [(0, (.fz 3 (p0.map e55))), (1, (.fz 3 (p1.map e60))), (5, (eI64 x4))] ⟨rfl, rfl, rfl, trivial⟩ rfl ?_ [(0, (.fz 3 (p0.map e55))), (1, (.fz 3 (p1.map e60))), (5, (eI64 x4)), (26, (eBool (!(decide (t9 = (lget p1 x4))))))] [] ⟨rfl, rfl, rfl, rfl, trivial⟩ (Sub.refl _) ?_
     ·refine ⟨?_, ?_, ?_, ?_, ?_, ?_, ?_, ?_, ?_, ?_, trivial⟩
      ·refine AO.wK [0] ?_
       refine AO.c (Calm.move rfl rfl) ?_
       exact AO.nE (d := 17) rfl ⟨⟨_, rfl, rfl⟩, Sub.refl _⟩
      ·refine AO.wK [5] ?_
       refine AO.c (Calm.move rfl rfl) ?_
       exact AO.nE (d := 18) rfl ⟨⟨_, rfl, rfl⟩, Sub.refl _⟩
      ·refine AO.wK [17, 18] ?_
       refine AO.c (Calm.idxL (f := e55) rfl rfl rfl hg8 Try.underlying70 sz55) ?_
       exact AO.nE (d := 19) rfl ⟨⟨_, rfl, rfl⟩, Sub.refl _⟩
      ·refine AO.wK [19] ?_
       refine AO.c (Calm.loadRp rfl rfl ag55 sz55) ?_
       exact AO.nE (d := 20) rfl ⟨⟨_, rfl, rfl⟩, Sub.refl _⟩
      ·refine AO.wK [20] ?_
       refine AO.callS [(e55 (lget p0 x4))] (e60 t9) 21 rfl (by decide) ok45 rfl rfl rfl ⟨rfl, rfl, trivial⟩ (bosketlaw47_Ref_spec et9) ?_
       exact AO.nE (d := 21) rfl ⟨⟨_, rfl, rfl⟩, Sub.refl _⟩
      ·refine AO.wK [1] ?_
       refine AO.c (Calm.move rfl rfl) ?_
       exact AO.nE (d := 22) rfl ⟨⟨_, rfl, rfl⟩, Sub.refl _⟩
      ·refine AO.wK [5] ?_
       refine AO.c (Calm.move rfl rfl) ?_
       exact AO.nE (d := 23) rfl ⟨⟨_, rfl, rfl⟩, Sub.refl _⟩
      ·refine AO.wK [22, 23] ?_
       refine AO.c (Calm.idxL (f := e60) rfl rfl rfl hg10 Try.underlying73 sz60) ?_
       exact AO.nE (d := 24) rfl ⟨⟨_, rfl, rfl⟩, Sub.refl _⟩
      ·refine AO.wK [24] ?_
       refine AO.c (Calm.loadRp rfl rfl ag60 sz60) ?_
       exact AO.nE (d := 25) rfl ⟨⟨_, rfl, rfl⟩, Sub.refl _⟩
      ·refine AO.wK [21, 25] ?_
       refine AO.c (x := eBool (!(decide (t9 = (lget p1 x4))))) (Calm.neS rfl rfl rfl eg60 (eqk60 t9 (lget p1 x4)) (by decide)) ?_
       exact AO.nE (d := 26) rfl ⟨⟨_, rfl, rfl⟩, Sub.refl _⟩
     ·rcases of_ite h with ⟨hc11, h⟩ | ⟨hc11, h⟩
      ·refine AW.condT' _ rfl hc11 ?_
       refine AW.sr ?_
       refine AO.c (Calm.assign rfl rfl) ?_
       refine AO.nK [4] ?_
       refine AW.rK [4] ?_
       have hr := Option.some.inj h
       subst hr
       exact ⟨[(eBool false)], ⟨rfl, rfl, trivial⟩, rfl⟩
      ·refine AW.condF' _ rfl hc11 ?_
       refine AW.sK [0, 1, 5] ?_
       refine AW.reg ?_
       refine AO.c (Calm.move rfl rfl) ?_
       refine AO.c (x := eI64 (w64 (x4 + (1 : Int)))) (Calm.int rfl rfl rfl rfl) ?_
       refine AO.c (Calm.assign rfl rfl) ?_
       refine AO.nK [0, 1, 5] ?_
       exact ⟨kq6, Nat.lt_succ_self _, (w64 (x4 + (1 : Int))), rfl, rfl, by rw [hrec5]; exact h⟩
    ·refine AW.condN _ rfl hc7 ?_
     refine AW.eK [] ?_
     exact ⟨rfl, rfl, h⟩
   ·rintro _ _ ⟨rfl, rfl, h⟩
    rw [bosketlaw47_Same_c0.eq_1] at h
    refine AW.sr ?_
    refine AO.c (Calm.assign rfl rfl) ?_
    refine AO.nK [4] ?_
    refine AW.rK [4] ?_
    have hr := Option.some.inj h
    subst hr
    exact ⟨[(eBool true)], ⟨rfl, rfl, trivial⟩, rfl⟩
end Go.Avl.T2
/- bosket/bosketlaw47.OpScripts; printed by avmain.py. -/
namespace Go.Avl.T2
open Go Go.RowKit Go.Proofs Go.Avl
set_option linter.unusedVariables false
set_option maxRecDepth 100000
set_option maxHeartbeats 4000000
attribute [local irreducible] AW AO AQ Spec SpecH Calm

end Go.Avl.T2
/- bosket/bosketlaw47.Few; printed by avmain.py. -/
namespace Go.Avl.T2
open Go Go.RowKit Go.Proofs Go.Avl
set_option linter.unusedVariables false
set_option maxRecDepth 100000
set_option maxHeartbeats 4000000
attribute [local irreducible] AW AO AQ Spec SpecH Calm

def bosketlaw47_Few_c0 (k : Nat) : Option Bool :=
  some (true)
def bosketlaw47_Few_l1 (k : Nat) (p0 : (List S55)) : Nat → Int → Option Bool
  | 0, _ => none
  | j + 1, x3 =>
    if x3 < (p0.length : Int) then if 0 ≤ x3 ∧ x3 < (p0.length : Int) then if (600 : Int) < (((lget p0 x3).f2).size : Int) then some (false)
    else (bosketlaw47_Few_l1 k p0 j) (w64 (x3 + (1 : Int)))
    else none
    else bosketlaw47_Few_c0 k
def bosketlaw47_Few (k : Nat) (p0 : (List S55)) : Option Bool :=
  if (12 : Int) < (p0.length : Int) then some (false)
  else bosketlaw47_Few_l1 k p0 k (0 : Int)
theorem bosketlaw47_Few_spec {k : Nat} {p0 : (List S55)} {r : Bool} (h : bosketlaw47_Few k p0 = some r) : Spec Try.prog 53 [(.fz 3 (p0.map e55))] (eBool r) := by
  rw [bosketlaw47_Few.eq_1] at h
  refine Spec.intro (res := [.tmp 2]) Try.func53 rfl rfl rfl (Nat.le_of_ble_eq_true rfl) ?_
  refine AW.sr ?_
  refine AO.c (Calm.assign rfl rfl) ?_
  refine AO.nK [0] ?_
  refine AW.seq ?_
  refine AW.sr ?_
  refine AO.c (Calm.move rfl rfl) ?_
  refine AO.c (Calm.lenL rfl rfl Try.underlying70) ?_
  refine AO.c (x := eBool (decide ((12 : Int) < (p0.length : Int)))) (Calm.int rfl rfl rfl rfl) ?_
  refine AO.nK [0, 6] ?_
  rcases of_ite h with ⟨hc2, h⟩ | ⟨hc2, h⟩
  ·refine AW.condP _ rfl hc2 ?_
   refine AW.sr ?_
   refine AO.c (Calm.assign rfl rfl) ?_
   refine AO.nK [2] ?_
   refine AW.rK [2] ?_
   have hr := Option.some.inj h
   subst hr
   exact ⟨[(eBool false)], ⟨rfl, rfl, trivial⟩, rfl⟩
  ·refine AW.condN _ rfl hc2 ?_
   refine AW.sK [0] ?_
   refine AW.seq_mid (fun ρ H => ρ = [] ∧ H = [] ∧ bosketlaw47_Few_c0 k = some r) ?_ ?_
   ·refine AW.sr ?_
    refine AO.c (Calm.assign rfl rfl) ?_
    refine AO.nK [0, 3] ?_
    refine AW.block ?_
    refine AW.wK [0, 3] ?_
    refine AW.loop (fun kq ρ H => ∃ (x3 : Int), ρ = [(0, (.fz 3 (p0.map e55))), (3, (eI64 x3))] ∧ H = [] ∧ bosketlaw47_Few_l1 k p0 kq x3 = some r) k ⟨(0 : Int), rfl, rfl, h⟩ ?_
    rintro kq5 _ _ ⟨x3, rfl, rfl, h⟩
    cases kq5 with
    | zero => rw [bosketlaw47_Few_l1.eq_1] at h; cases h
    | succ kq5 =>
    rw [bosketlaw47_Few_l1.eq_2] at h
    generalize hrec4 : bosketlaw47_Few_l1 k p0 kq5 = rec4 at h
    refine AW.seq ?_
    refine AW.sr ?_
    refine AO.c (Calm.move rfl rfl) ?_
    refine AO.c (Calm.move rfl rfl) ?_
    refine AO.c (Calm.lenL rfl rfl Try.underlying70) ?_
    refine AO.c (x := eBool (decide (x3 < (p0.length : Int)))) (Calm.int rfl rfl rfl rfl) ?_
    refine AO.nK [0, 3, 10] ?_
    rcases of_ite h with ⟨hc6, h⟩ | ⟨hc6, h⟩
    ·refine AW.condP _ rfl hc6 ?_
     refine AW.sK [0, 3] ?_
     refine AW.seq ?_
     refine AW.block ?_
     refine AW.sr ?_
     refine AO.c (Calm.move rfl rfl) ?_
     refine AO.c (Calm.move rfl rfl) ?_
     obtain ⟨hg7, h⟩ := of_guard h
     refine AO.c (Calm.idxL (f := e55) rfl rfl rfl hg7 Try.underlying70 sz55) ?_
     refine AO.c (Calm.fldRp rfl rfl Try.underlying55 rfl sz9 (At.cast (At.fldS (At.fldS (At.fld0 At.here))) rfl)) ?_
     refine AO.c (Calm.loadRp rfl rfl ag9 sz9) ?_
     refine AO.c (Calm.lenStr rfl rfl Try.underlying9) ?_
     refine AO.c (x := eBool (decide ((600 : Int) < (((lget p0 x3).f2).size : Int)))) (Calm.int rfl rfl rfl rfl) ?_
     refine AO.nK [0, 3, 19] ?_
     rcases of_ite h with ⟨hc8, h⟩ | ⟨hc8, h⟩
     ·refine AW.condP _ rfl hc8 ?_
      refine AW.sr ?_
      refine AO.c (Calm.assign rfl rfl) ?_
      refine AO.nK [2] ?_
      refine AW.rK [2] ?_
      have hr := Option.some.inj h
      subst hr
      exact ⟨[(eBool false)], ⟨rfl, rfl, trivial⟩, rfl⟩
     ·refine AW.condN _ rfl hc8 ?_
      refine AW.sK [0, 3] ?_
      refine AW.reg ?_
      refine AO.c (Calm.move rfl rfl) ?_
      refine AO.c (x := eI64 (w64 (x3 + (1 : Int)))) (Calm.int rfl rfl rfl rfl) ?_
      refine AO.c (Calm.assign rfl rfl) ?_
      refine AO.nK [0, 3] ?_
      exact ⟨kq5, Nat.lt_succ_self _, (w64 (x3 + (1 : Int))), rfl, rfl, by rw [hrec4]; exact h⟩
    ·refine AW.condN _ rfl hc6 ?_
     refine AW.eK [] ?_
     exact ⟨rfl, rfl, h⟩
   ·rintro _ _ ⟨rfl, rfl, h⟩
    rw [bosketlaw47_Few_c0.eq_1] at h
    refine AW.sr ?_
    refine AO.c (Calm.assign rfl rfl) ?_
    refine AO.nK [2] ?_
    refine AW.rK [2] ?_
    have hr := Option.some.inj h
    subst hr
    exact ⟨[(eBool true)], ⟨rfl, rfl, trivial⟩, rfl⟩
end Go.Avl.T2
/- bosket/op.Text; printed by avmain.py. -/
namespace Go.Avl.T2
open Go Go.RowKit Go.Proofs Go.Avl
set_option linter.unusedVariables false
set_option maxRecDepth 100000
set_option maxHeartbeats 4000000
attribute [local irreducible] AW AO AQ Spec SpecH Calm

def op_Text_c0 (k : Nat) (x2 : ByteArray) : Option ByteArray :=
  some (x2)
def op_Text_c1 (k : Nat) (rec5 : (ByteArray → Int → Option ByteArray)) (x4 : Int) (x8 : ByteArray) : Option ByteArray :=
  rec5 x8 (w64 (x4 + (1 : Int)))
def op_Text_l2 (k : Nat) (p0 : (List S55)) : Nat → ByteArray → Int → Option ByteArray
  | 0, _, _ => none
  | j + 1, x3, x4 =>
    if x4 < (p0.length : Int) then if 0 ≤ x4 ∧ x4 < (p0.length : Int) then (_op_Op_Right k (lget p0 x4)).bind fun t11 =>
    if t11 = true then (_op_Op_Line k (lget p0 x4)).bind fun t13 =>
    if t13.size + (ByteArray.mk #[10]).size ≤ 9223372036854775807 then if x3.size + (t13 ++ (ByteArray.mk #[10])).size ≤ 9223372036854775807 then op_Text_c1 k (op_Text_l2 k p0 j) x4 (x3 ++ (t13 ++ (ByteArray.mk #[10])))
    else none
    else none
    else op_Text_c1 k (op_Text_l2 k p0 j) x4 x3
    else none
    else op_Text_c0 k x3
def op_Text (k : Nat) (p0 : (List S55)) : Option ByteArray :=
  op_Text_l2 k p0 k (ByteArray.mk #[]) (0 : Int)
theorem op_Text_spec {k : Nat} {p0 : (List S55)} {r : ByteArray} (h : op_Text k p0 = some r) : Spec Try.prog 54 [(.fz 3 (p0.map e55))] (eStr r) := by
  rw [op_Text.eq_1] at h
  refine Spec.intro (res := [.tmp 2]) Try.func54 rfl rfl rfl (Nat.le_of_ble_eq_true rfl) ?_
  refine AW.sr ?_
  refine AO.c (Calm.assign rfl rfl) ?_
  refine AO.nK [0] ?_
  refine AW.sr ?_
  refine AO.c (Calm.assign rfl rfl) ?_
  refine AO.nK [0, 3] ?_
  refine AW.seq_mid (fun ρ H => ∃ (x2 : ByteArray), ρ = [(3, (eStr x2))] ∧ H = [] ∧ op_Text_c0 k x2 = some r) ?_ ?_
  ·refine AW.sr ?_
   refine AO.c (Calm.move rfl rfl) ?_
   refine AO.c (Calm.lenL rfl rfl Try.underlying70) ?_
   refine AO.c (Calm.move rfl rfl) ?_
   refine AO.nK [3, 6, 7, 8] ?_
   refine AW.block ?_
   refine AW.wK [3, 6, 7, 8] ?_
   refine AW.loop (fun kq ρ H => ∃ (x3 : ByteArray) (x4 : Int), ρ = [(3, (eStr x3)), (6, (.fz 3 (p0.map e55))), (7, (eI64 (p0.length : Int))), (8, (eI64 x4))] ∧ H = [] ∧ op_Text_l2 k p0 kq x3 x4 = some r) k ⟨(ByteArray.mk #[]), (0 : Int), rfl, rfl, h⟩ ?_
   rintro kq6 _ _ ⟨x3, x4, rfl, rfl, h⟩
   cases kq6 with
   | zero => rw [op_Text_l2.eq_1] at h; cases h
   | succ kq6 =>
   rw [op_Text_l2.eq_2] at h
   generalize hrec5 : op_Text_l2 k p0 kq6 = rec5 at h
   refine AW.sr ?_
   refine AO.c (x := eBool (decide (x4 < (p0.length : Int)))) (Calm.int rfl rfl rfl rfl) ?_
   refine AO.nK [3, 6, 7, 8, 9] ?_
   refine AW.seq ?_
   rcases of_ite h with ⟨hc7, h⟩ | ⟨hc7, h⟩
   ·refine AW.condP _ rfl hc7 ?_
    refine AW.sK [3, 6, 7, 8] ?_
    refine AW.seq_mid (fun ρ H => ∃ (x8 : ByteArray), ρ = [(3, (eStr x8)), (6, (.fz 3 (p0.map e55))), (7, (eI64 (p0.length : Int))), (8, (eI64 x4))] ∧ H = [] ∧ op_Text_c1 k rec5 x4 x8 = some r) ?_ ?_
    ·refine AW.block ?_
     refine AW.sr ?_
     obtain ⟨hg9, h⟩ := of_guard h
     refine AO.c (Calm.idxL (f := e55) rfl rfl rfl hg9 Try.underlying70 sz55) ?_
     refine AO.c (Calm.loadRp rfl rfl ag55 sz55) ?_
     refine AO.alloc rfl 5 rfl (by decide) rfl zr55 lay55 fun n10 => ?_
     refine AO.store (X' := (e55 (lget p0 x4))) 0 rfl rfl rfl rfl rfl rfl (Put.cast Put.here rfl) rfl rfl sz55 rfl ?_
     refine AO.nK [3, 5, 6, 7, 8] ?_
     refine AW.sr ?_
     refine AO.c (Calm.load 0 rfl rfl rfl (At.cast At.here rfl) ag55 sz55) ?_
     obtain ⟨t11, et11, h⟩ := of_bind h
     refine AO.callS [(e55 (lget p0 x4))] (eBool t11) 13 rfl (by decide) ok43 rfl rfl rfl ⟨rfl, rfl, trivial⟩ (_op_Op_Right_spec et11) ?_
     refine AO.nK [3, 5, 6, 7, 8, 13] ?_
     rcases of_ite h with ⟨hc12, h⟩ | ⟨hc12, h⟩
     ·refine AW.condT' _ rfl hc12 ?_
      refine AW.reg ?_
      refine AO.c (Calm.move rfl rfl) ?_
      refine AO.c (Calm.load 0 rfl rfl rfl (At.cast At.here rfl) ag55 sz55) ?_
      obtain ⟨t13, et13, h⟩ := of_bind h
      refine AO.callS [(e55 (lget p0 x4))] (eStr t13) 16 rfl (by decide) ok42 rfl rfl rfl ⟨rfl, rfl, trivial⟩ (_op_Op_Line_spec et13) ?_
      obtain ⟨hg14, h⟩ := of_guard h
      refine AO.c (x := eStr (t13 ++ (ByteArray.mk #[10]))) (Calm.cat rfl rfl rfl hg14) ?_
      obtain ⟨hg15, h⟩ := of_guard h
      refine AO.c (x := eStr (x3 ++ (t13 ++ (ByteArray.mk #[10])))) (Calm.cat rfl rfl rfl hg15) ?_
      refine AO.c (Calm.assign rfl rfl) ?_
      refine AO.nH [3, 6, 7, 8] (H' := []) (Sub.nil _) ?_
      exact ⟨(x3 ++ (t13 ++ (ByteArray.mk #[10]))), rfl, rfl, h⟩
     ·refine AW.condF' _ rfl hc12 ?_
      refine AW.sH [3, 6, 7, 8] (H' := []) (Sub.nil _) ?_
      exact ⟨x3, rfl, rfl, h⟩
    ·rintro _ _ ⟨x8, rfl, rfl, h⟩
     rw [op_Text_c1.eq_1] at h
     refine AW.reg ?_
     refine AO.c (x := eI64 (w64 (x4 + (1 : Int)))) (Calm.int rfl rfl rfl rfl) ?_
     refine AO.c (Calm.move rfl rfl) ?_
     refine AO.nK [3, 6, 7, 8] ?_
     exact ⟨kq6, Nat.lt_succ_self _, x8, (w64 (x4 + (1 : Int))), rfl, rfl, by rw [hrec5]; exact h⟩
   ·refine AW.condN _ rfl hc7 ?_
    refine AW.eK [3] ?_
    exact ⟨x3, rfl, rfl, h⟩
  ·rintro _ _ ⟨x2, rfl, rfl, h⟩
   rw [op_Text_c0.eq_1] at h
   refine AW.sr ?_
   refine AO.c (Calm.move rfl rfl) ?_
   refine AO.c (Calm.assign rfl rfl) ?_
   refine AO.nK [2] ?_
   refine AW.rK [2] ?_
   have hr := Option.some.inj h
   subst hr
   exact ⟨[(eStr x2)], ⟨rfl, rfl, trivial⟩, rfl⟩
end Go.Avl.T2
/- bosket/bosketlaw47.OpTexts; printed by avmain.py. -/
namespace Go.Avl.T2
open Go Go.RowKit Go.Proofs Go.Avl
set_option linter.unusedVariables false
set_option maxRecDepth 100000
set_option maxHeartbeats 4000000
attribute [local irreducible] AW AO AQ Spec SpecH Calm

def bosketlaw47_OpTexts_c0 (k : Nat) (t6 : ByteArray) (x7 : ByteArray) (x9 : (List S60)) : Option Bool :=
  (op_Script k t6).bind fun t10 =>
  Option.bind (α := Bool) (if t6 = x7 then if t10.2.2 = (0 : Int) then if t10.2.1 = (0 : Int) then (bosketlaw47_Same k t10.1 x9).bind fun t16 =>
  some (t16)
  else some (false)
  else some (false)
  else some (false)) fun b11 =>
  some (b11)
def bosketlaw47_OpTexts_c1 (k : Nat) (rec21 : (ByteArray → (List S60) → Int → Option Bool)) (x20 : Int) (x24 : ByteArray) (x26 : (List S60)) : Option Bool :=
  rec21 x24 x26 (w64 (x20 + (1 : Int)))
def bosketlaw47_OpTexts_l2 (k : Nat) (p0 : (List S55)) (t6 : ByteArray) : Nat → ByteArray → (List S60) → Int → Option Bool
  | 0, _, _, _ => none
  | j + 1, x17, x19, x20 =>
    if x20 < (p0.length : Int) then if 0 ≤ x20 ∧ x20 < (p0.length : Int) then (bosketlaw47_Ref k (lget p0 x20)).bind fun t28 =>
    (bosketref47_Right k t28).bind fun t30 =>
    if t30 = true then if (x19 ++ ([t28] : List S60)).length * 32 ≤ 140737488355328 then (bosketref47_Line k t28).bind fun t35 =>
    if x17.size + t35.size ≤ 9223372036854775807 then if (x17 ++ t35).size + (ByteArray.mk #[10]).size ≤ 9223372036854775807 then bosketlaw47_OpTexts_c1 k (bosketlaw47_OpTexts_l2 k p0 t6 j) x20 ((x17 ++ t35) ++ (ByteArray.mk #[10])) (x19 ++ ([t28] : List S60))
    else none
    else none
    else none
    else bosketlaw47_OpTexts_c1 k (bosketlaw47_OpTexts_l2 k p0 t6 j) x20 x17 x19
    else none
    else bosketlaw47_OpTexts_c0 k t6 x17 x19
def bosketlaw47_OpTexts (k : Nat) (p0 : (List S55)) : Option Bool :=
  (bosketlaw47_awake k).bind fun t2 =>
  if (!t2) = true then some (false)
  else (bosketlaw47_Few k p0).bind fun t4 =>
  if (!t4) = true then some (true)
  else (op_Text k p0).bind fun t6 =>
  bosketlaw47_OpTexts_l2 k p0 t6 k (ByteArray.mk #[]) ([] : List S60) (0 : Int)
theorem bosketlaw47_OpTexts_spec {k : Nat} {p0 : (List S55)} {r : Bool} (h : bosketlaw47_OpTexts k p0 = some r) : Spec Try.prog 11 [(.fz 3 (p0.map e55))] (eBool r) := by
  rw [bosketlaw47_OpTexts.eq_1] at h
  refine Spec.intro (res := [.tmp 2]) Try.func11 rfl rfl rfl (Nat.le_of_ble_eq_true rfl) ?_
  refine AW.sr ?_
  refine AO.c (Calm.assign rfl rfl) ?_
  refine AO.nK [0] ?_
  refine AW.seq ?_
  refine AW.sr ?_
  obtain ⟨t2, et2, h⟩ := of_bind h
  refine AO.callS [] (eBool t2) 11 rfl (by decide) ok39 rfl rfl rfl trivial (bosketlaw47_awake_spec et2) ?_
  refine AO.c (Calm.not rfl rfl) ?_
  refine AO.nK [0, 12] ?_
  rcases of_ite h with ⟨hc3, h⟩ | ⟨hc3, h⟩
  ·refine AW.condT' _ rfl hc3 ?_
   refine AW.sr ?_
   refine AO.c (Calm.assign rfl rfl) ?_
   refine AO.nK [2] ?_
   refine AW.rK [2] ?_
   have hr := Option.some.inj h
   subst hr
   exact ⟨[(eBool false)], ⟨rfl, rfl, trivial⟩, rfl⟩
  ·refine AW.condF' _ rfl hc3 ?_
   refine AW.sK [0] ?_
   refine AW.seq ?_
   refine AW.sr ?_
   refine AO.c (Calm.move rfl rfl) ?_
   obtain ⟨t4, et4, h⟩ := of_bind h
   refine AO.callS [(.fz 3 (p0.map e55))] (eBool t4) 14 rfl (by decide) ok53 rfl rfl rfl ⟨rfl, rfl, trivial⟩ (bosketlaw47_Few_spec et4) ?_
   refine AO.c (Calm.not rfl rfl) ?_
   refine AO.nK [0, 15] ?_
   rcases of_ite h with ⟨hc5, h⟩ | ⟨hc5, h⟩
   ·refine AW.condT' _ rfl hc5 ?_
    refine AW.sr ?_
    refine AO.c (Calm.assign rfl rfl) ?_
    refine AO.nK [2] ?_
    refine AW.rK [2] ?_
    have hr := Option.some.inj h
    subst hr
    exact ⟨[(eBool true)], ⟨rfl, rfl, trivial⟩, rfl⟩
   ·refine AW.condF' _ rfl hc5 ?_
    refine AW.sK [0] ?_
    refine AW.sr ?_
    refine AO.c (Calm.move rfl rfl) ?_
    obtain ⟨t6, et6, h⟩ := of_bind h
    refine AO.callS [(.fz 3 (p0.map e55))] (eStr t6) 17 rfl (by decide) ok54 rfl rfl rfl ⟨rfl, rfl, trivial⟩ (op_Text_spec et6) ?_
    refine AO.c (Calm.assign rfl rfl) ?_
    refine AO.c (Calm.assign rfl rfl) ?_
    refine AO.nK [0, 3, 4] ?_
    refine AW.sr ?_
    refine AO.c (Calm.assign rfl rfl) ?_
    refine AO.nK [0, 3, 4, 5] ?_
    refine AW.seq_mid (fun ρ H => ∃ (n8 : Nat) (x7 : ByteArray) (x9 : (List S60)), ρ = [(3, (eStr t6)), (4, (eStr x7)), (5, (.own n8 0 x9.length))] ∧ H = [(n8, (.mem (.ar 3 (x9.map e60))))] ∧ bosketlaw47_OpTexts_c0 k t6 x7 x9 = some r) ?_ ?_
    ·refine AW.sr ?_
     refine AO.c (Calm.assign rfl rfl) ?_
     refine AO.nK [0, 3, 4, 5, 6] ?_
     refine AW.block ?_
     refine AW.nilOwn 5 3 rfl fun n38 => ?_
     refine AW.wK [0, 3, 4, 5, 6] ?_
     refine AW.loop (fun kq ρ H => ∃ (n18 : Nat) (x17 : ByteArray) (x19 : (List S60)) (x20 : Int), ρ = [(0, (.fz 3 (p0.map e55))), (3, (eStr t6)), (4, (eStr x17)), (5, (.own n18 0 x19.length)), (6, (eI64 x20))] ∧ H = [(n18, (.mem (.ar 3 (x19.map e60))))] ∧ bosketlaw47_OpTexts_l2 k p0 t6 kq x17 x19 x20 = some r) k ⟨n38, (ByteArray.mk #[]), ([] : List S60), (0 : Int), rfl, rfl, h⟩ ?_
     rintro kq22 _ _ ⟨n18, x17, x19, x20, rfl, rfl, h⟩
     cases kq22 with
     | zero => rw [bosketlaw47_OpTexts_l2.eq_1] at h; cases h
     | succ kq22 =>
     rw [bosketlaw47_OpTexts_l2.eq_2] at h
     generalize hrec21 : bosketlaw47_OpTexts_l2 k p0 t6 kq22 = rec21 at h
     refine AW.seq ?_
     refine AW.sr ?_
     refine AO.c (Calm.move rfl rfl) ?_
     refine AO.c (Calm.move rfl rfl) ?_
     refine AO.c (Calm.lenL rfl rfl Try.underlying70) ?_
     refine AO.c (x := eBool (decide (x20 < (p0.length : Int)))) (Calm.int rfl rfl rfl rfl) ?_
     refine AO.nK [0, 3, 4, 5, 6, 21] ?_
     rcases of_ite h with ⟨hc23, h⟩ | ⟨hc23, h⟩
     ·refine AW.condP _ rfl hc23 ?_
      refine AW.sK [0, 3, 4, 5, 6] ?_
      refine AW.seq_mid (fun ρ H => ∃ (n25 : Nat) (x24 : ByteArray) (x26 : (List S60)), ρ = [(0, (.fz 3 (p0.map e55))), (3, (eStr t6)), (4, (eStr x24)), (5, (.own n25 0 x26.length)), (6, (eI64 x20))] ∧ H = [(n25, (.mem (.ar 3 (x26.map e60))))] ∧ bosketlaw47_OpTexts_c1 k rec21 x20 x24 x26 = some r) ?_ ?_
      ·refine AW.block ?_
       refine AW.sr ?_
       refine AO.c (Calm.move rfl rfl) ?_
       refine AO.c (Calm.move rfl rfl) ?_
       obtain ⟨hg27, h⟩ := of_guard h
       refine AO.c (Calm.idxL (f := e55) rfl rfl rfl hg27 Try.underlying70 sz55) ?_
       refine AO.c (Calm.loadRp rfl rfl ag55 sz55) ?_
       obtain ⟨t28, et28, h⟩ := of_bind h
       refine AO.callS [(e55 (lget p0 x20))] (e60 t28) 28 rfl (by decide) ok45 rfl rfl rfl ⟨rfl, rfl, trivial⟩ (bosketlaw47_Ref_spec et28) ?_
       refine AO.alloc rfl 7 rfl (by decide) rfl zr60 lay60 fun n29 => ?_
       refine AO.store (X' := (e60 t28)) 0 rfl rfl rfl rfl rfl rfl (Put.cast Put.here rfl) rfl rfl sz60 rfl ?_
       refine AO.nH [0, 3, 4, 5, 6, 7] (H' := [(n18, (.mem (.ar 3 (x19.map e60)))), (n29, (.mem (e60 t28)))]) (Sub.cons 1 rfl (Sub.cons 0 rfl (Sub.nil _))) ?_
       refine AW.sr ?_
       refine AO.c (Calm.load 1 rfl rfl rfl (At.cast At.here rfl) ag60 sz60) ?_
       obtain ⟨t30, et30, h⟩ := of_bind h
       refine AO.callS [(e60 t28)] (eBool t30) 30 rfl (by decide) ok44 rfl rfl rfl ⟨rfl, rfl, trivial⟩ (bosketref47_Right_spec et30) ?_
       refine AO.nK [0, 3, 4, 5, 6, 7, 30] ?_
       rcases of_ite h with ⟨hc31, h⟩ | ⟨hc31, h⟩
       ·refine AW.condT' _ rfl hc31 ?_
        refine AW.sr ?_
        refine AO.c (Calm.move rfl rfl) ?_
        refine AO.c (Calm.load 1 rfl rfl rfl (At.cast At.here rfl) ag60 sz60) ?_
        refine AO.lit (Z := (.st [(1, (eI64 (0 : Int))), (1, (eI64 (0 : Int))), (1, (eStr ByteArray.empty))])) (xs := (([t28] : List S60).map e60)) (qs := [(0, (e60 t28))]) rfl 33 rfl (by decide) rfl ⟨rfl, rfl, rfl, trivial⟩ Try.underlying73 sz60 zr60 lay60 rfl (by decide) (litOK (z := 3) [(e60 t28)] rfl ⟨⟨rfl, rfl⟩, trivial⟩) rfl fun n32 => ?_
        obtain ⟨hg34, h⟩ := of_guard h
        refine AO.appendL (l := x19) (m := ([t28] : List S60)) 1 34 rfl (by decide) rfl rfl rfl rfl rfl (Src.ownL (f := e60) (l := ([t28] : List S60)) 0 rfl) Try.underlying73 Try.underlying73 sz60 by60 zr60 rfl hg34 (by decide) fun n33 => ?_
        refine AO.c (Calm.assign rfl rfl) ?_
        refine AO.nH [0, 3, 4, 5, 6, 7] (H' := [(n33, (.mem (.ar 3 ((x19 ++ ([t28] : List S60)).map e60)))), (n29, (.mem (e60 t28)))]) (Sub.cons 1 rfl (Sub.cons 1 rfl (Sub.nil _))) ?_
        refine AW.reg ?_
        refine AO.c (Calm.move rfl rfl) ?_
        refine AO.c (Calm.load 1 rfl rfl rfl (At.cast At.here rfl) ag60 sz60) ?_
        obtain ⟨t35, et35, h⟩ := of_bind h
        refine AO.callS [(e60 t28)] (eStr t35) 37 rfl (by decide) ok46 rfl rfl rfl ⟨rfl, rfl, trivial⟩ (bosketref47_Line_spec et35) ?_
        obtain ⟨hg36, h⟩ := of_guard h
        refine AO.c (x := eStr (x17 ++ t35)) (Calm.cat rfl rfl rfl hg36) ?_
        obtain ⟨hg37, h⟩ := of_guard h
        refine AO.c (x := eStr ((x17 ++ t35) ++ (ByteArray.mk #[10]))) (Calm.cat rfl rfl rfl hg37) ?_
        refine AO.c (Calm.assign rfl rfl) ?_
        refine AO.nH [0, 3, 4, 5, 6] (H' := [(n33, (.mem (.ar 3 ((x19 ++ ([t28] : List S60)).map e60))))]) (Sub.cons 0 rfl (Sub.nil _)) ?_
        exact ⟨n33, ((x17 ++ t35) ++ (ByteArray.mk #[10])), (x19 ++ ([t28] : List S60)), rfl, rfl, h⟩
       ·refine AW.condF' _ rfl hc31 ?_
        refine AW.sH [0, 3, 4, 5, 6] (H' := [(n18, (.mem (.ar 3 (x19.map e60))))]) (Sub.cons 0 rfl (Sub.nil _)) ?_
        exact ⟨n18, x17, x19, rfl, rfl, h⟩
      ·rintro _ _ ⟨n25, x24, x26, rfl, rfl, h⟩
       rw [bosketlaw47_OpTexts_c1.eq_1] at h
       refine AW.reg ?_
       refine AO.c (Calm.move rfl rfl) ?_
       refine AO.c (x := eI64 (w64 (x20 + (1 : Int)))) (Calm.int rfl rfl rfl rfl) ?_
       refine AO.c (Calm.assign rfl rfl) ?_
       refine AO.nK [0, 3, 4, 5, 6] ?_
       exact ⟨kq22, Nat.lt_succ_self _, n25, x24, x26, (w64 (x20 + (1 : Int))), rfl, rfl, by rw [hrec21]; exact h⟩
     ·refine AW.condN _ rfl hc23 ?_
      refine AW.eK [3, 4, 5] ?_
      exact ⟨n18, x17, x19, rfl, rfl, h⟩
    ·rintro _ _ ⟨n8, x7, x9, rfl, rfl, h⟩
     rw [bosketlaw47_OpTexts_c0.eq_1] at h
     refine AW.sr ?_
     refine AO.c (Calm.move rfl rfl) ?_
     obtain ⟨t10, et10, h⟩ := of_bind h
     refine AO.callS [(eStr t6)] (.tup [(.fz 3 (t10.1.map e55)), (eI64 t10.2.1), (eI64 t10.2.2)]) 42 rfl (by decide) ok50 rfl rfl rfl ⟨rfl, rfl, trivial⟩ (op_Script_spec et10) ?_
     refine AO.c (Calm.move rfl rfl) ?_
     refine AO.c (Calm.extract rfl rfl rfl) ?_
     refine AO.c (Calm.extract rfl rfl rfl) ?_
     refine AO.c (Calm.extract rfl rfl rfl) ?_
     refine AO.c (Calm.assign rfl rfl) ?_
     refine AO.c (Calm.assign rfl rfl) ?_
     refine AO.c (Calm.assign rfl rfl) ?_
     refine AO.nK [3, 4, 5, 8, 9, 10] ?_
     refine AW.seq ?_
     obtain ⟨b11, hq12, h⟩ := of_bind h
     refine AW.regM [(2, (eBool b11))] [] ?_ ?_
     ·refine AO.c (Calm.move rfl rfl) ?_
      refine AO.c (Calm.move rfl rfl) ?_
      refine AO.c (x := eBool (decide (t6 = x7))) (Calm.str rfl rfl rfl rfl) ?_
      refine AO.c (Calm.move rfl rfl) ?_
      rcases of_ite hq12 with ⟨hc13, hq12⟩ | ⟨hc13, hq12⟩
      ·refine AO.cG rfl rfl (bD (decide_eq_true hc13)) (Calm.move rfl rfl) ?_
       refine AO.cG (x := eBool (decide (t10.2.2 = (0 : Int)))) rfl rfl (bD (decide_eq_true hc13)) (Calm.int rfl rfl rfl rfl) ?_
       refine AO.c (Calm.pickT rfl (bD (decide_eq_true hc13)) rfl) ?_
       refine AO.c (Calm.move rfl rfl) ?_
       rcases of_ite hq12 with ⟨hc14, hq12⟩ | ⟨hc14, hq12⟩
       ·refine AO.cG rfl rfl (bD (decide_eq_true hc14)) (Calm.move rfl rfl) ?_
        refine AO.cG (x := eBool (decide (t10.2.1 = (0 : Int)))) rfl rfl (bD (decide_eq_true hc14)) (Calm.int rfl rfl rfl rfl) ?_
        refine AO.c (Calm.pickT rfl (bD (decide_eq_true hc14)) rfl) ?_
        refine AO.c (Calm.move rfl rfl) ?_
        rcases of_ite hq12 with ⟨hc15, hq12⟩ | ⟨hc15, hq12⟩
        ·refine AO.cG rfl rfl (bD (decide_eq_true hc15)) (Calm.move rfl rfl) ?_
         refine AO.cG rfl rfl (bD (decide_eq_true hc15)) (Calm.move rfl rfl) ?_
         obtain ⟨t16, et16, hq12⟩ := of_bind hq12
         refine AO.cG rfl rfl (bD (decide_eq_true hc15)) (Calm.callB (args := [(.fz 3 (t10.1.map e55)), (.fz 3 (x9.map e60))]) rfl rfl ok52 ⟨.inl ⟨rfl, rfl⟩, .inr ⟨_, 0, _, _, _, 0, rfl, rfl, by simp, by rw [own_all]⟩, trivial⟩ rfl (bosketlaw47_Same_spec et16)) ?_
         refine AO.c (Calm.pickT rfl (bD (decide_eq_true hc15)) rfl) ?_
         refine AO.c (Calm.assign rfl rfl) ?_
         cases hq12
         refine AO.nilE ⟨rfl, rfl⟩ ?_ ?_
         · exact ⟨rfl, trivial⟩
         · exact (Sub.nil _)
        ·refine AO.sT rfl rfl (bD (decide_eq_false hc15)) ?_
         refine AO.sT rfl rfl (bD (decide_eq_false hc15)) ?_
         refine AO.sT rfl rfl (bD (decide_eq_false hc15)) ?_
         refine AO.c (Calm.pickF rfl (bD (decide_eq_false hc15)) rfl) ?_
         refine AO.c (Calm.assign rfl rfl) ?_
         cases hq12
         refine AO.nilE ⟨rfl, rfl⟩ ?_ ?_
         · exact ⟨rfl, trivial⟩
         · exact (Sub.nil _)
       ·refine AO.sT rfl rfl (bD (decide_eq_false hc14)) ?_
        refine AO.sT rfl rfl (bD (decide_eq_false hc14)) ?_
        refine AO.c (Calm.pickF rfl (bD (decide_eq_false hc14)) rfl) ?_
        refine AO.c (Calm.move rfl rfl) ?_
        refine AO.sT rfl rfl rfl ?_
        refine AO.sT rfl rfl rfl ?_
        refine AO.sT rfl rfl rfl ?_
        refine AO.c (Calm.pickF rfl rfl rfl) ?_
        refine AO.c (Calm.assign rfl rfl) ?_
        cases hq12
        refine AO.nilE ⟨rfl, rfl⟩ ?_ ?_
        · exact ⟨rfl, trivial⟩
        · exact (Sub.nil _)
      ·refine AO.sT rfl rfl (bD (decide_eq_false hc13)) ?_
       refine AO.sT rfl rfl (bD (decide_eq_false hc13)) ?_
       refine AO.c (Calm.pickF rfl (bD (decide_eq_false hc13)) rfl) ?_
       refine AO.c (Calm.move rfl rfl) ?_
       refine AO.sT rfl rfl rfl ?_
       refine AO.sT rfl rfl rfl ?_
       refine AO.c (Calm.pickF rfl rfl rfl) ?_
       refine AO.c (Calm.move rfl rfl) ?_
       refine AO.sT rfl rfl rfl ?_
       refine AO.sT rfl rfl rfl ?_
       refine AO.sT rfl rfl rfl ?_
       refine AO.c (Calm.pickF rfl rfl rfl) ?_
       refine AO.c (Calm.assign rfl rfl) ?_
       cases hq12
       refine AO.nilE ⟨rfl, rfl⟩ ?_ ?_
       · exact ⟨rfl, trivial⟩
       · exact (Sub.nil _)
     ·refine AW.rK [2] ?_
      have hr := Option.some.inj h
      subst hr
      exact ⟨[(eBool b11)], ⟨rfl, rfl, trivial⟩, rfl⟩
end Go.Avl.T2
