/- Parts: T7f12, T7f53, T7f52, T7f13, T7f4, T7f75, T7f101, T7f102, T7f78, T7f103, T7f104, T7f80, T7f79, T7f106, T7f127, T7f126, T7f105, T7f81, T7f107, T7f82, T7f63, T7f55, T7f60, T7f35, T7f34, T7f58, T7f29, T7f26. -/
import Derived.Test.YtpkgpmmcbpfenaaAF1
import Derived.Test.YtpkgpmmcbpfenaaAF8
import Derived.Test.YtpkgpmmcbpfenaaAF7
import Derived.Test.YtpkgpmmcbpfenaaAF3
import Derived.Test.YtpkgpmmcbpfenaaAF4
import Derived.Test.YtpkgpmmcbpfenaaAF6
/- bosket/gram.Same; printed by avmain.py. -/
namespace Go.Avl.T7
open Go Go.RowKit Go.Proofs Go.Avl
set_option linter.unusedVariables false
set_option maxRecDepth 100000
set_option maxHeartbeats 4000000
attribute [local irreducible] AW AO AQ Spec SpecH Calm

def gram_Same (k : Nat) (p0 : S27) (p1 : S27) : Option Bool :=
  Option.bind (α := Bool) ((slices_Equal_api_Rule_api_Rule_ k p0.f0 p1.f0).bind fun t7 =>
  if t7 = true then (slices_Equal_string_string_ k p0.f1 p1.f1).bind fun t9 =>
  if t9 = true then if p0.f4 = p1.f4 then (slices_EqualFunc_api_Prod_api_Prod_api_Prod_api_Prod_ k p0.f2 p1.f2).bind fun t12 =>
  if t12 = true then (slices_EqualFunc_api_Level_api_Level_api_Level_api_Level_ k p0.f3 p1.f3).bind fun t14 =>
  some (t14)
  else some (false)
  else some (false)
  else some (false)
  else some (false)) fun b5 =>
  some (b5)
theorem gram_Same_spec {k : Nat} {p0 : S27} {p1 : S27} {r : Bool} (h : gram_Same k p0 p1 = some r) : Spec Try.prog 12 [(e27 p0), (e27 p1)] (eBool r) := by
  rw [gram_Same.eq_1] at h
  refine Spec.intro (res := [.tmp 4]) Try.func12 rfl rfl rfl (Nat.le_of_ble_eq_true rfl) ?_
  refine AW.sr ?_
  refine AO.box rfl 2 rfl (by decide) rfl rfl rfl fun n3 => ?_
  refine AO.box rfl 3 rfl (by decide) rfl rfl rfl fun n4 => ?_
  refine AO.c (Calm.assign rfl rfl) ?_
  refine AO.nH [2, 3] (H' := [(n3, (.mem (e27 p0))), (n4, (.mem (e27 p1)))]) (Sub.cons 1 rfl (Sub.cons 0 rfl (Sub.nil _))) ?_
  refine AW.seq ?_
  obtain ⟨b5, hq6, h⟩ := of_bind h
  refine AW.regM [(4, (eBool b5))] [] ?_ ?_
  ·refine AO.c (x := .ptr n3 0) (Calm.fldPtr rfl rfl Try.underlying27 rfl sz22 _ rfl) ?_
   refine AO.c (Calm.load 0 rfl rfl rfl (At.cast (At.fld0 At.here) rfl) ag22 sz22) ?_
   refine AO.c (x := .ptr n4 0) (Calm.fldPtr rfl rfl Try.underlying27 rfl sz22 _ rfl) ?_
   refine AO.c (Calm.load 1 rfl rfl rfl (At.cast (At.fld0 At.here) rfl) ag22 sz22) ?_
   obtain ⟨t7, et7, hq6⟩ := of_bind hq6
   refine AO.callS [(.fz 3 (p0.f0.map e82)), (.fz 3 (p1.f0.map e82))] (eBool t7) 9 rfl (by decide) ok46 rfl rfl rfl ⟨rfl, rfl, rfl, rfl, trivial⟩ (slices_Equal_api_Rule_api_Rule__spec et7) ?_
   refine AO.c (Calm.move rfl rfl) ?_
   rcases of_ite hq6 with ⟨hc8, hq6⟩ | ⟨hc8, hq6⟩
   ·refine AO.cG (x := .ptr n3 1) rfl rfl (bD hc8) (Calm.fldPtr rfl rfl Try.underlying27 rfl sz23 _ rfl) ?_
    refine AO.cG rfl rfl (bD hc8) (Calm.load 0 rfl rfl rfl (At.cast (At.fldS (At.fld0 At.here)) rfl) ag23 sz23) ?_
    refine AO.cG (x := .ptr n4 1) rfl rfl (bD hc8) (Calm.fldPtr rfl rfl Try.underlying27 rfl sz23 _ rfl) ?_
    refine AO.cG rfl rfl (bD hc8) (Calm.load 1 rfl rfl rfl (At.cast (At.fldS (At.fld0 At.here)) rfl) ag23 sz23) ?_
    obtain ⟨t9, et9, hq6⟩ := of_bind hq6
    refine AO.callG 5 true 10 [(.fz 1 (p0.f1.map eStr)), (.fz 1 (p1.f1.map eStr))] (eBool t9) 15 rfl (by decide) ok47 rfl rfl (bD hc8) rfl rfl ⟨rfl, rfl, rfl, rfl, trivial⟩ (slices_Equal_string_string__spec et9) ?_
    refine AO.c (Calm.pickT rfl (bD hc8) rfl) ?_
    refine AO.c (Calm.move rfl rfl) ?_
    rcases of_ite hq6 with ⟨hc10, hq6⟩ | ⟨hc10, hq6⟩
    ·refine AO.cG (x := .ptr n3 4) rfl rfl (bD hc10) (Calm.fldPtr rfl rfl Try.underlying27 rfl sz3 _ rfl) ?_
     refine AO.cG rfl rfl (bD hc10) (Calm.load 0 rfl rfl rfl (At.cast (At.fldS (At.fldS (At.fldS (At.fldS (At.fld0 At.here))))) rfl) ag3 sz3) ?_
     refine AO.cG (x := .ptr n4 4) rfl rfl (bD hc10) (Calm.fldPtr rfl rfl Try.underlying27 rfl sz3 _ rfl) ?_
     refine AO.cG rfl rfl (bD hc10) (Calm.load 1 rfl rfl rfl (At.cast (At.fldS (At.fldS (At.fldS (At.fldS (At.fld0 At.here))))) rfl) ag3 sz3) ?_
     refine AO.cG (x := eBool (decide (p0.f4 = p1.f4))) rfl rfl (bD hc10) (Calm.int rfl rfl rfl rfl) ?_
     refine AO.c (Calm.pickT rfl (bD hc10) rfl) ?_
     refine AO.c (Calm.move rfl rfl) ?_
     rcases of_ite hq6 with ⟨hc11, hq6⟩ | ⟨hc11, hq6⟩
     ·refine AO.cG (x := .ptr n3 2) rfl rfl (bD (decide_eq_true hc11)) (Calm.fldPtr rfl rfl Try.underlying27 rfl sz24 _ rfl) ?_
      refine AO.cG rfl rfl (bD (decide_eq_true hc11)) (Calm.load 0 rfl rfl rfl (At.cast (At.fldS (At.fldS (At.fld0 At.here))) rfl) ag24 sz24) ?_
      refine AO.cG (x := .ptr n4 2) rfl rfl (bD (decide_eq_true hc11)) (Calm.fldPtr rfl rfl Try.underlying27 rfl sz24 _ rfl) ?_
      refine AO.cG rfl rfl (bD (decide_eq_true hc11)) (Calm.load 1 rfl rfl rfl (At.cast (At.fldS (At.fldS (At.fld0 At.here))) rfl) ag24 sz24) ?_
      obtain ⟨t12, et12, hq6⟩ := of_bind hq6
      refine AO.callG 19 true 24 [(.fz 6 (p0.f2.map e37)), (.fz 6 (p1.f2.map e37)), (.fl (.func (.func 49) #[] #[]))] (eBool t12) 29 rfl (by decide) ok48 rfl rfl (bD (decide_eq_true hc11)) rfl rfl ⟨rfl, rfl, rfl, rfl, rfl, rfl, trivial⟩ (slices_EqualFunc_api_Prod_api_Prod_api_Prod_api_Prod__spec et12) ?_
      refine AO.c (Calm.pickT rfl (bD (decide_eq_true hc11)) rfl) ?_
      refine AO.c (Calm.move rfl rfl) ?_
      rcases of_ite hq6 with ⟨hc13, hq6⟩ | ⟨hc13, hq6⟩
      ·refine AO.cG (x := .ptr n3 3) rfl rfl (bD hc13) (Calm.fldPtr rfl rfl Try.underlying27 rfl sz25 _ rfl) ?_
       refine AO.cG rfl rfl (bD hc13) (Calm.load 0 rfl rfl rfl (At.cast (At.fldS (At.fldS (At.fldS (At.fld0 At.here)))) rfl) ag25 sz25) ?_
       refine AO.cG (x := .ptr n4 3) rfl rfl (bD hc13) (Calm.fldPtr rfl rfl Try.underlying27 rfl sz25 _ rfl) ?_
       refine AO.cG rfl rfl (bD hc13) (Calm.load 1 rfl rfl rfl (At.cast (At.fldS (At.fldS (At.fldS (At.fld0 At.here)))) rfl) ag25 sz25) ?_
       obtain ⟨t14, et14, hq6⟩ := of_bind hq6
       refine AO.callG 26 true 31 [(.fz 2 (p0.f3.map e86)), (.fz 2 (p1.f3.map e86)), (.fl (.func (.func 51) #[] #[]))] (eBool t14) 36 rfl (by decide) ok50 rfl rfl (bD hc13) rfl rfl ⟨rfl, rfl, rfl, rfl, rfl, rfl, trivial⟩ (slices_EqualFunc_api_Level_api_Level_api_Level_api_Level__spec et14) ?_
       refine AO.c (Calm.pickT rfl (bD hc13) rfl) ?_
       refine AO.c (Calm.assign rfl rfl) ?_
       cases hq6
       refine AO.nilE ⟨rfl, rfl⟩ ?_ ?_
       · exact ⟨rfl, trivial⟩
       · exact (Sub.nil _)
      ·refine AO.sT rfl rfl (bD (eq_false_of_ne_true hc13)) ?_
       refine AO.sT rfl rfl (bD (eq_false_of_ne_true hc13)) ?_
       refine AO.sT rfl rfl (bD (eq_false_of_ne_true hc13)) ?_
       refine AO.sT rfl rfl (bD (eq_false_of_ne_true hc13)) ?_
       refine AO.sT rfl rfl (bD (eq_false_of_ne_true hc13)) ?_
       refine AO.c (Calm.pickF rfl (bD (eq_false_of_ne_true hc13)) rfl) ?_
       refine AO.c (Calm.assign rfl rfl) ?_
       cases hq6
       refine AO.nilE ⟨rfl, rfl⟩ ?_ ?_
       · exact ⟨rfl, trivial⟩
       · exact (Sub.nil _)
     ·refine AO.sT rfl rfl (bD (decide_eq_false hc11)) ?_
      refine AO.sT rfl rfl (bD (decide_eq_false hc11)) ?_
      refine AO.sT rfl rfl (bD (decide_eq_false hc11)) ?_
      refine AO.sT rfl rfl (bD (decide_eq_false hc11)) ?_
      refine AO.sT rfl rfl (bD (decide_eq_false hc11)) ?_
      refine AO.c (Calm.pickF rfl (bD (decide_eq_false hc11)) rfl) ?_
      refine AO.c (Calm.move rfl rfl) ?_
      refine AO.sT rfl rfl rfl ?_
      refine AO.sT rfl rfl rfl ?_
      refine AO.sT rfl rfl rfl ?_
      refine AO.sT rfl rfl rfl ?_
      refine AO.sT rfl rfl rfl ?_
      refine AO.c (Calm.pickF rfl rfl rfl) ?_
      refine AO.c (Calm.assign rfl rfl) ?_
      cases hq6
      refine AO.nilE ⟨rfl, rfl⟩ ?_ ?_
      · exact ⟨rfl, trivial⟩
      · exact (Sub.nil _)
    ·refine AO.sT rfl rfl (bD (eq_false_of_ne_true hc10)) ?_
     refine AO.sT rfl rfl (bD (eq_false_of_ne_true hc10)) ?_
     refine AO.sT rfl rfl (bD (eq_false_of_ne_true hc10)) ?_
     refine AO.sT rfl rfl (bD (eq_false_of_ne_true hc10)) ?_
     refine AO.sT rfl rfl (bD (eq_false_of_ne_true hc10)) ?_
     refine AO.c (Calm.pickF rfl (bD (eq_false_of_ne_true hc10)) rfl) ?_
     refine AO.c (Calm.move rfl rfl) ?_
     refine AO.sT rfl rfl rfl ?_
     refine AO.sT rfl rfl rfl ?_
     refine AO.sT rfl rfl rfl ?_
     refine AO.sT rfl rfl rfl ?_
     refine AO.sT rfl rfl rfl ?_
     refine AO.c (Calm.pickF rfl rfl rfl) ?_
     refine AO.c (Calm.move rfl rfl) ?_
     refine AO.sT rfl rfl rfl ?_
     refine AO.sT rfl rfl rfl ?_
     refine AO.sT rfl rfl rfl ?_
     refine AO.sT rfl rfl rfl ?_
     refine AO.sT rfl rfl rfl ?_
     refine AO.c (Calm.pickF rfl rfl rfl) ?_
     refine AO.c (Calm.assign rfl rfl) ?_
     cases hq6
     refine AO.nilE ⟨rfl, rfl⟩ ?_ ?_
     · exact ⟨rfl, trivial⟩
     · exact (Sub.nil _)
   ·refine AO.sT rfl rfl (bD (eq_false_of_ne_true hc8)) ?_
    refine AO.sT rfl rfl (bD (eq_false_of_ne_true hc8)) ?_
    refine AO.sT rfl rfl (bD (eq_false_of_ne_true hc8)) ?_
    refine AO.sT rfl rfl (bD (eq_false_of_ne_true hc8)) ?_
    refine AO.sT rfl rfl (bD (eq_false_of_ne_true hc8)) ?_
    refine AO.c (Calm.pickF rfl (bD (eq_false_of_ne_true hc8)) rfl) ?_
    refine AO.c (Calm.move rfl rfl) ?_
    refine AO.sT rfl rfl rfl ?_
    refine AO.sT rfl rfl rfl ?_
    refine AO.sT rfl rfl rfl ?_
    refine AO.sT rfl rfl rfl ?_
    refine AO.sT rfl rfl rfl ?_
    refine AO.c (Calm.pickF rfl rfl rfl) ?_
    refine AO.c (Calm.move rfl rfl) ?_
    refine AO.sT rfl rfl rfl ?_
    refine AO.sT rfl rfl rfl ?_
    refine AO.sT rfl rfl rfl ?_
    refine AO.sT rfl rfl rfl ?_
    refine AO.sT rfl rfl rfl ?_
    refine AO.c (Calm.pickF rfl rfl rfl) ?_
    refine AO.c (Calm.move rfl rfl) ?_
    refine AO.sT rfl rfl rfl ?_
    refine AO.sT rfl rfl rfl ?_
    refine AO.sT rfl rfl rfl ?_
    refine AO.sT rfl rfl rfl ?_
    refine AO.sT rfl rfl rfl ?_
    refine AO.c (Calm.pickF rfl rfl rfl) ?_
    refine AO.c (Calm.assign rfl rfl) ?_
    cases hq6
    refine AO.nilE ⟨rfl, rfl⟩ ?_ ?_
    · exact ⟨rfl, trivial⟩
    · exact (Sub.nil _)
  ·refine AW.rK [4] ?_
   have hr := Option.some.inj h
   subst hr
   exact ⟨[(eBool b5)], ⟨rfl, rfl, trivial⟩, rfl⟩
end Go.Avl.T7
/- bosket/bosketref17.same; printed by avmain.py. -/
namespace Go.Avl.T7
open Go Go.RowKit Go.Proofs Go.Avl
set_option linter.unusedVariables false
set_option maxRecDepth 100000
set_option maxHeartbeats 4000000
attribute [local irreducible] AW AO AQ Spec SpecH Calm

def bosketref17_same_c0 (k : Nat) : Option Bool :=
  some (true)
def bosketref17_same_l1 (k : Nat) (p0 : (List Int)) (p1 : (List Int)) : Nat → Int → Option Bool
  | 0, _ => none
  | j + 1, x4 =>
    if x4 < (p0.length : Int) then if 0 ≤ x4 ∧ x4 < (p0.length : Int) then if 0 ≤ x4 ∧ x4 < (p1.length : Int) then if (lget p0 x4) ≠ (lget p1 x4) then some (false)
    else (bosketref17_same_l1 k p0 p1 j) (w64 (x4 + (1 : Int)))
    else none
    else none
    else bosketref17_same_c0 k
def bosketref17_same (k : Nat) (p0 : (List Int)) (p1 : (List Int)) : Option Bool :=
  if (p0.length : Int) ≠ (p1.length : Int) then some (false)
  else bosketref17_same_l1 k p0 p1 k (0 : Int)
theorem bosketref17_same_spec {k : Nat} {p0 : (List Int)} {p1 : (List Int)} {r : Bool} (h : bosketref17_same k p0 p1 = some r) : Spec Try.prog 53 [(.fz 1 (p0.map eI64)), (.fz 1 (p1.map eI64))] (eBool r) := by
  rw [bosketref17_same.eq_1] at h
  refine Spec.intro (res := [.tmp 4]) Try.func53 rfl rfl rfl (Nat.le_of_ble_eq_true rfl) ?_
  refine AW.sr ?_
  refine AO.c (Calm.assign rfl rfl) ?_
  refine AO.nK [0, 1] ?_
  refine AW.seq ?_
  refine AW.sr ?_
  refine AO.c (Calm.move rfl rfl) ?_
  refine AO.c (Calm.lenL rfl rfl Try.underlying35) ?_
  refine AO.c (Calm.move rfl rfl) ?_
  refine AO.c (Calm.lenL rfl rfl Try.underlying35) ?_
  refine AO.c (x := eBool (decide ((p0.length : Int) ≠ (p1.length : Int)))) (Calm.int rfl rfl rfl rfl) ?_
  refine AO.nK [0, 1, 10] ?_
  rcases of_ite h with ⟨hc3, h⟩ | ⟨hc3, h⟩
  ·refine AW.condP _ rfl hc3 ?_
   refine AW.sr ?_
   refine AO.c (Calm.assign rfl rfl) ?_
   refine AO.nK [4] ?_
   refine AW.rK [4] ?_
   have hr := Option.some.inj h
   subst hr
   exact ⟨[(eBool false)], ⟨rfl, rfl, trivial⟩, rfl⟩
  ·refine AW.condN _ rfl hc3 ?_
   refine AW.sK [0, 1] ?_
   refine AW.seq_mid (fun ρ H => ρ = [] ∧ H = [] ∧ bosketref17_same_c0 k = some r) ?_ ?_
   ·refine AW.sr ?_
    refine AO.c (Calm.assign rfl rfl) ?_
    refine AO.nK [0, 1, 5] ?_
    refine AW.block ?_
    refine AW.wK [0, 1, 5] ?_
    refine AW.loop (fun kq ρ H => ∃ (x4 : Int), ρ = [(0, (.fz 1 (p0.map eI64))), (1, (.fz 1 (p1.map eI64))), (5, (eI64 x4))] ∧ H = [] ∧ bosketref17_same_l1 k p0 p1 kq x4 = some r) k ⟨(0 : Int), rfl, rfl, h⟩ ?_
    rintro kq6 _ _ ⟨x4, rfl, rfl, h⟩
    cases kq6 with
    | zero => rw [bosketref17_same_l1.eq_1] at h; cases h
    | succ kq6 =>
    rw [bosketref17_same_l1.eq_2] at h
    generalize hrec5 : bosketref17_same_l1 k p0 p1 kq6 = rec5 at h
    refine AW.seq ?_
    refine AW.sr ?_
    refine AO.c (Calm.move rfl rfl) ?_
    refine AO.c (Calm.move rfl rfl) ?_
    refine AO.c (Calm.lenL rfl rfl Try.underlying35) ?_
    refine AO.c (x := eBool (decide (x4 < (p0.length : Int)))) (Calm.int rfl rfl rfl rfl) ?_
    refine AO.nK [0, 1, 5, 14] ?_
    rcases of_ite h with ⟨hc7, h⟩ | ⟨hc7, h⟩
    ·refine AW.condP _ rfl hc7 ?_
     refine AW.sK [0, 1, 5] ?_
     refine AW.seq ?_
     refine AW.block ?_
     refine AW.seq ?_
     refine AW.regQ (by rfl) (by decide +kernel) ?_
     refine AQ.c (Calm.move rfl rfl) ?_
     refine AQ.c (Calm.move rfl rfl) ?_
     obtain ⟨hg8, h⟩ := of_guard h
     refine AQ.c (Calm.idxL (f := eI64) rfl rfl rfl hg8 Try.underlying35 sz3) ?_
     refine AQ.c (Calm.loadRp rfl rfl ag3 sz3) ?_
     refine AQ.c (Calm.move rfl rfl) ?_
     refine AQ.c (Calm.move rfl rfl) ?_
     obtain ⟨hg9, h⟩ := of_guard h
     refine AQ.c (Calm.idxL (f := eI64) rfl rfl rfl hg9 Try.underlying35 sz3) ?_
     refine AQ.c (Calm.loadRp rfl rfl ag3 sz3) ?_
     refine AQ.c (x := eBool (decide ((lget p0 x4) ≠ (lget p1 x4)))) (Calm.int rfl rfl rfl rfl) ?_
     refine AQ.nK [0, 1, 5, 25] ?_
     rcases of_ite h with ⟨hc10, h⟩ | ⟨hc10, h⟩
     ·refine AW.condP _ rfl hc10 ?_
      refine AW.sr ?_
      refine AO.c (Calm.assign rfl rfl) ?_
      refine AO.nK [4] ?_
      refine AW.rK [4] ?_
      have hr := Option.some.inj h
      subst hr
      exact ⟨[(eBool false)], ⟨rfl, rfl, trivial⟩, rfl⟩
     ·refine AW.condN _ rfl hc10 ?_
      refine AW.sK [0, 1, 5] ?_
      refine AW.reg ?_
      refine AO.c (Calm.move rfl rfl) ?_
      refine AO.c (x := eI64 (w64 (x4 + (1 : Int)))) (Calm.int rfl rfl rfl rfl) ?_
      refine AO.c (Calm.assign rfl rfl) ?_
      refine AO.nK [0, 1, 5] ?_
      exact ⟨kq6, Nat.lt_succ_self _, (w64 (x4 + (1 : Int))), rfl, rfl, by rw [hrec5]; exact h⟩
    ·refine AW.condN _ rfl hc7 ?_
     refine AW.eK [] ?_
     exact ⟨rfl, rfl, h⟩
   ·rintro _ _ ⟨rfl, rfl, h⟩
    rw [bosketref17_same_c0.eq_1] at h
    refine AW.sr ?_
    refine AO.c (Calm.assign rfl rfl) ?_
    refine AO.nK [4] ?_
    refine AW.rK [4] ?_
    have hr := Option.some.inj h
    subst hr
    exact ⟨[(eBool true)], ⟨rfl, rfl, trivial⟩, rfl⟩
end Go.Avl.T7
/- bosket/bosketref17.sameProd; printed by avmain.py. -/
namespace Go.Avl.T7
open Go Go.RowKit Go.Proofs Go.Avl
set_option linter.unusedVariables false
set_option maxRecDepth 100000
set_option maxHeartbeats 4000000
attribute [local irreducible] AW AO AQ Spec SpecH Calm

def bosketref17_sameProd_c0 (k : Nat) : Option Bool :=
  some (true)
def bosketref17_sameProd_l1 (k : Nat) (p0 : S37) (p1 : S37) : Nat → Int → Option Bool
  | 0, _ => none
  | j + 1, x14 =>
    if x14 < (p0.f2.length : Int) then if 0 ≤ x14 ∧ x14 < (p0.f2.length : Int) then if 0 ≤ x14 ∧ x14 < (p1.f2.length : Int) then if (!(decide ((lget p0.f2 x14) = (lget p1.f2 x14)))) = true then some (false)
    else (bosketref17_sameProd_l1 k p0 p1 j) (w64 (x14 + (1 : Int)))
    else none
    else none
    else bosketref17_sameProd_c0 k
def bosketref17_sameProd (k : Nat) (p0 : S37) (p1 : S37) : Option Bool :=
  Option.bind (α := Bool) (if p0.f0 ≠ p1.f0 then some (true)
  else if p0.f1 ≠ p1.f1 then some (true)
  else if (p0.f3 != p1.f3) = true then some (true)
  else if p0.f4 ≠ p1.f4 then some (true)
  else if (p0.f2.length : Int) ≠ (p1.f2.length : Int) then some (true)
  else (bosketref17_same k p0.f5 p1.f5).bind fun t12 =>
  some (!t12)) fun b5 =>
  if b5 = true then some (false)
  else bosketref17_sameProd_l1 k p0 p1 k (0 : Int)
theorem bosketref17_sameProd_spec {k : Nat} {p0 : S37} {p1 : S37} {r : Bool} (h : bosketref17_sameProd k p0 p1 = some r) : Spec Try.prog 52 [(e37 p0), (e37 p1)] (eBool r) := by
  rw [bosketref17_sameProd.eq_1] at h
  refine Spec.intro (res := [.tmp 4]) Try.func52 rfl rfl rfl (Nat.le_of_ble_eq_true rfl) ?_
  refine AW.sr ?_
  refine AO.box rfl 2 rfl (by decide) rfl rfl rfl fun n3 => ?_
  refine AO.box rfl 3 rfl (by decide) rfl rfl rfl fun n4 => ?_
  refine AO.c (Calm.assign rfl rfl) ?_
  refine AO.nH [2, 3] (H' := [(n3, (.mem (e37 p0))), (n4, (.mem (e37 p1)))]) (Sub.cons 1 rfl (Sub.cons 0 rfl (Sub.nil _))) ?_
  refine AW.seq ?_
  refine AW.seq ?_
  obtain ⟨b5, hq6, h⟩ := of_bind h
  refine AW.regM [(2, (.ptr n3 0)), (3, (.ptr n4 0)), (48, (eBool b5))] [(n3, (.mem (e37 p0))), (n4, (.mem (e37 p1)))] ?_ ?_
  ·refine AO.c (x := .ptr n3 0) (Calm.fldPtr rfl rfl Try.underlying37 rfl sz3 _ rfl) ?_
   refine AO.c (Calm.load 0 rfl rfl rfl (At.cast (At.fld0 At.here) rfl) ag3 sz3) ?_
   refine AO.c (x := .ptr n4 0) (Calm.fldPtr rfl rfl Try.underlying37 rfl sz3 _ rfl) ?_
   refine AO.c (Calm.load 1 rfl rfl rfl (At.cast (At.fld0 At.here) rfl) ag3 sz3) ?_
   refine AO.c (x := eBool (decide (p0.f0 ≠ p1.f0))) (Calm.int rfl rfl rfl rfl) ?_
   refine AO.c (Calm.move rfl rfl) ?_
   rcases of_ite hq6 with ⟨hc7, hq6⟩ | ⟨hc7, hq6⟩
   ·refine AO.sF rfl rfl (bD (decide_eq_true hc7)) ?_
    refine AO.sF rfl rfl (bD (decide_eq_true hc7)) ?_
    refine AO.sF rfl rfl (bD (decide_eq_true hc7)) ?_
    refine AO.sF rfl rfl (bD (decide_eq_true hc7)) ?_
    refine AO.sF rfl rfl (bD (decide_eq_true hc7)) ?_
    refine AO.c (Calm.pickT rfl (bD (decide_eq_true hc7)) rfl) ?_
    refine AO.c (Calm.move rfl rfl) ?_
    refine AO.sF rfl rfl rfl ?_
    refine AO.sF rfl rfl rfl ?_
    refine AO.sF rfl rfl rfl ?_
    refine AO.sF rfl rfl rfl ?_
    refine AO.sF rfl rfl rfl ?_
    refine AO.c (Calm.pickT rfl rfl rfl) ?_
    refine AO.c (Calm.move rfl rfl) ?_
    refine AO.sF rfl rfl rfl ?_
    refine AO.sF rfl rfl rfl ?_
    refine AO.sF rfl rfl rfl ?_
    refine AO.sF rfl rfl rfl ?_
    refine AO.sF rfl rfl rfl ?_
    refine AO.c (Calm.pickT rfl rfl rfl) ?_
    refine AO.c (Calm.move rfl rfl) ?_
    refine AO.sF rfl rfl rfl ?_
    refine AO.sF rfl rfl rfl ?_
    refine AO.sF rfl rfl rfl ?_
    refine AO.sF rfl rfl rfl ?_
    refine AO.sF rfl rfl rfl ?_
    refine AO.sF rfl rfl rfl ?_
    refine AO.sF rfl rfl rfl ?_
    refine AO.c (Calm.pickT rfl rfl rfl) ?_
    refine AO.c (Calm.move rfl rfl) ?_
    refine AO.sF rfl rfl rfl ?_
    refine AO.sF rfl rfl rfl ?_
    refine AO.sF rfl rfl rfl ?_
    refine AO.sF rfl rfl rfl ?_
    refine AO.sF rfl rfl rfl ?_
    refine AO.sF rfl rfl rfl ?_
    refine AO.c (Calm.pickT rfl rfl rfl) ?_
    cases hq6
    refine AO.nilE ⟨rfl, rfl⟩ ?_ ?_
    · exact ⟨rfl, rfl, rfl, trivial⟩
    · exact (Sub.refl _)
   ·refine AO.cG (x := .ptr n3 1) rfl rfl (bD (decide_eq_false hc7)) (Calm.fldPtr rfl rfl Try.underlying37 rfl sz9 _ rfl) ?_
    refine AO.cG rfl rfl (bD (decide_eq_false hc7)) (Calm.load 0 rfl rfl rfl (At.cast (At.fldS (At.fld0 At.here)) rfl) ag9 sz9) ?_
    refine AO.cG (x := .ptr n4 1) rfl rfl (bD (decide_eq_false hc7)) (Calm.fldPtr rfl rfl Try.underlying37 rfl sz9 _ rfl) ?_
    refine AO.cG rfl rfl (bD (decide_eq_false hc7)) (Calm.load 1 rfl rfl rfl (At.cast (At.fldS (At.fld0 At.here)) rfl) ag9 sz9) ?_
    refine AO.cG (x := eBool (decide (p0.f1 ≠ p1.f1))) rfl rfl (bD (decide_eq_false hc7)) (Calm.str rfl rfl rfl rfl) ?_
    refine AO.c (Calm.pickF rfl (bD (decide_eq_false hc7)) rfl) ?_
    refine AO.c (Calm.move rfl rfl) ?_
    rcases of_ite hq6 with ⟨hc8, hq6⟩ | ⟨hc8, hq6⟩
    ·refine AO.sF rfl rfl (bD (decide_eq_true hc8)) ?_
     refine AO.sF rfl rfl (bD (decide_eq_true hc8)) ?_
     refine AO.sF rfl rfl (bD (decide_eq_true hc8)) ?_
     refine AO.sF rfl rfl (bD (decide_eq_true hc8)) ?_
     refine AO.sF rfl rfl (bD (decide_eq_true hc8)) ?_
     refine AO.c (Calm.pickT rfl (bD (decide_eq_true hc8)) rfl) ?_
     refine AO.c (Calm.move rfl rfl) ?_
     refine AO.sF rfl rfl rfl ?_
     refine AO.sF rfl rfl rfl ?_
     refine AO.sF rfl rfl rfl ?_
     refine AO.sF rfl rfl rfl ?_
     refine AO.sF rfl rfl rfl ?_
     refine AO.c (Calm.pickT rfl rfl rfl) ?_
     refine AO.c (Calm.move rfl rfl) ?_
     refine AO.sF rfl rfl rfl ?_
     refine AO.sF rfl rfl rfl ?_
     refine AO.sF rfl rfl rfl ?_
     refine AO.sF rfl rfl rfl ?_
     refine AO.sF rfl rfl rfl ?_
     refine AO.sF rfl rfl rfl ?_
     refine AO.sF rfl rfl rfl ?_
     refine AO.c (Calm.pickT rfl rfl rfl) ?_
     refine AO.c (Calm.move rfl rfl) ?_
     refine AO.sF rfl rfl rfl ?_
     refine AO.sF rfl rfl rfl ?_
     refine AO.sF rfl rfl rfl ?_
     refine AO.sF rfl rfl rfl ?_
     refine AO.sF rfl rfl rfl ?_
     refine AO.sF rfl rfl rfl ?_
     refine AO.c (Calm.pickT rfl rfl rfl) ?_
     cases hq6
     refine AO.nilE ⟨rfl, rfl⟩ ?_ ?_
     · exact ⟨rfl, rfl, rfl, trivial⟩
     · exact (Sub.refl _)
    ·refine AO.cG (x := .ptr n3 3) rfl rfl (bD (decide_eq_false hc8)) (Calm.fldPtr rfl rfl Try.underlying37 rfl sz4 _ rfl) ?_
     refine AO.cG rfl rfl (bD (decide_eq_false hc8)) (Calm.load 0 rfl rfl rfl (At.cast (At.fldS (At.fldS (At.fldS (At.fld0 At.here)))) rfl) ag4 sz4) ?_
     refine AO.cG (x := .ptr n4 3) rfl rfl (bD (decide_eq_false hc8)) (Calm.fldPtr rfl rfl Try.underlying37 rfl sz4 _ rfl) ?_
     refine AO.cG rfl rfl (bD (decide_eq_false hc8)) (Calm.load 1 rfl rfl rfl (At.cast (At.fldS (At.fldS (At.fldS (At.fld0 At.here)))) rfl) ag4 sz4) ?_
     refine AO.cG (x := eBool (p0.f3 != p1.f3)) rfl rfl (bD (decide_eq_false hc8)) (Calm.boolNe rfl rfl rfl Try.underlying4) ?_
     refine AO.c (Calm.pickF rfl (bD (decide_eq_false hc8)) rfl) ?_
     refine AO.c (Calm.move rfl rfl) ?_
     rcases of_ite hq6 with ⟨hc9, hq6⟩ | ⟨hc9, hq6⟩
     ·refine AO.sF rfl rfl (bD hc9) ?_
      refine AO.sF rfl rfl (bD hc9) ?_
      refine AO.sF rfl rfl (bD hc9) ?_
      refine AO.sF rfl rfl (bD hc9) ?_
      refine AO.sF rfl rfl (bD hc9) ?_
      refine AO.c (Calm.pickT rfl (bD hc9) rfl) ?_
      refine AO.c (Calm.move rfl rfl) ?_
      refine AO.sF rfl rfl rfl ?_
      refine AO.sF rfl rfl rfl ?_
      refine AO.sF rfl rfl rfl ?_
      refine AO.sF rfl rfl rfl ?_
      refine AO.sF rfl rfl rfl ?_
      refine AO.sF rfl rfl rfl ?_
      refine AO.sF rfl rfl rfl ?_
      refine AO.c (Calm.pickT rfl rfl rfl) ?_
      refine AO.c (Calm.move rfl rfl) ?_
      refine AO.sF rfl rfl rfl ?_
      refine AO.sF rfl rfl rfl ?_
      refine AO.sF rfl rfl rfl ?_
      refine AO.sF rfl rfl rfl ?_
      refine AO.sF rfl rfl rfl ?_
      refine AO.sF rfl rfl rfl ?_
      refine AO.c (Calm.pickT rfl rfl rfl) ?_
      cases hq6
      refine AO.nilE ⟨rfl, rfl⟩ ?_ ?_
      · exact ⟨rfl, rfl, rfl, trivial⟩
      · exact (Sub.refl _)
     ·refine AO.cG (x := .ptr n3 4) rfl rfl (bD (eq_false_of_ne_true hc9)) (Calm.fldPtr rfl rfl Try.underlying37 rfl sz3 _ rfl) ?_
      refine AO.cG rfl rfl (bD (eq_false_of_ne_true hc9)) (Calm.load 0 rfl rfl rfl (At.cast (At.fldS (At.fldS (At.fldS (At.fldS (At.fld0 At.here))))) rfl) ag3 sz3) ?_
      refine AO.cG (x := .ptr n4 4) rfl rfl (bD (eq_false_of_ne_true hc9)) (Calm.fldPtr rfl rfl Try.underlying37 rfl sz3 _ rfl) ?_
      refine AO.cG rfl rfl (bD (eq_false_of_ne_true hc9)) (Calm.load 1 rfl rfl rfl (At.cast (At.fldS (At.fldS (At.fldS (At.fldS (At.fld0 At.here))))) rfl) ag3 sz3) ?_
      refine AO.cG (x := eBool (decide (p0.f4 ≠ p1.f4))) rfl rfl (bD (eq_false_of_ne_true hc9)) (Calm.int rfl rfl rfl rfl) ?_
      refine AO.c (Calm.pickF rfl (bD (eq_false_of_ne_true hc9)) rfl) ?_
      refine AO.c (Calm.move rfl rfl) ?_
      rcases of_ite hq6 with ⟨hc10, hq6⟩ | ⟨hc10, hq6⟩
      ·refine AO.sF rfl rfl (bD (decide_eq_true hc10)) ?_
       refine AO.sF rfl rfl (bD (decide_eq_true hc10)) ?_
       refine AO.sF rfl rfl (bD (decide_eq_true hc10)) ?_
       refine AO.sF rfl rfl (bD (decide_eq_true hc10)) ?_
       refine AO.sF rfl rfl (bD (decide_eq_true hc10)) ?_
       refine AO.sF rfl rfl (bD (decide_eq_true hc10)) ?_
       refine AO.sF rfl rfl (bD (decide_eq_true hc10)) ?_
       refine AO.c (Calm.pickT rfl (bD (decide_eq_true hc10)) rfl) ?_
       refine AO.c (Calm.move rfl rfl) ?_
       refine AO.sF rfl rfl rfl ?_
       refine AO.sF rfl rfl rfl ?_
       refine AO.sF rfl rfl rfl ?_
       refine AO.sF rfl rfl rfl ?_
       refine AO.sF rfl rfl rfl ?_
       refine AO.sF rfl rfl rfl ?_
       refine AO.c (Calm.pickT rfl rfl rfl) ?_
       cases hq6
       refine AO.nilE ⟨rfl, rfl⟩ ?_ ?_
       · exact ⟨rfl, rfl, rfl, trivial⟩
       · exact (Sub.refl _)
      ·refine AO.cG (x := .ptr n3 2) rfl rfl (bD (decide_eq_false hc10)) (Calm.fldPtr rfl rfl Try.underlying37 rfl sz34 _ rfl) ?_
       refine AO.cG rfl rfl (bD (decide_eq_false hc10)) (Calm.load 0 rfl rfl rfl (At.cast (At.fldS (At.fldS (At.fld0 At.here))) rfl) ag34 sz34) ?_
       refine AO.cG rfl rfl (bD (decide_eq_false hc10)) (Calm.lenL rfl rfl Try.underlying34) ?_
       refine AO.cG (x := .ptr n4 2) rfl rfl (bD (decide_eq_false hc10)) (Calm.fldPtr rfl rfl Try.underlying37 rfl sz34 _ rfl) ?_
       refine AO.cG rfl rfl (bD (decide_eq_false hc10)) (Calm.load 1 rfl rfl rfl (At.cast (At.fldS (At.fldS (At.fld0 At.here))) rfl) ag34 sz34) ?_
       refine AO.cG rfl rfl (bD (decide_eq_false hc10)) (Calm.lenL rfl rfl Try.underlying34) ?_
       refine AO.cG (x := eBool (decide ((p0.f2.length : Int) ≠ (p1.f2.length : Int)))) rfl rfl (bD (decide_eq_false hc10)) (Calm.int rfl rfl rfl rfl) ?_
       refine AO.c (Calm.pickF rfl (bD (decide_eq_false hc10)) rfl) ?_
       refine AO.c (Calm.move rfl rfl) ?_
       rcases of_ite hq6 with ⟨hc11, hq6⟩ | ⟨hc11, hq6⟩
       ·refine AO.sF rfl rfl (bD (decide_eq_true hc11)) ?_
        refine AO.sF rfl rfl (bD (decide_eq_true hc11)) ?_
        refine AO.sF rfl rfl (bD (decide_eq_true hc11)) ?_
        refine AO.sF rfl rfl (bD (decide_eq_true hc11)) ?_
        refine AO.sF rfl rfl (bD (decide_eq_true hc11)) ?_
        refine AO.sF rfl rfl (bD (decide_eq_true hc11)) ?_
        refine AO.c (Calm.pickT rfl (bD (decide_eq_true hc11)) rfl) ?_
        cases hq6
        refine AO.nilE ⟨rfl, rfl⟩ ?_ ?_
        · exact ⟨rfl, rfl, rfl, trivial⟩
        · exact (Sub.refl _)
       ·refine AO.cG (x := .ptr n3 5) rfl rfl (bD (decide_eq_false hc11)) (Calm.fldPtr rfl rfl Try.underlying37 rfl sz35 _ rfl) ?_
        refine AO.cG rfl rfl (bD (decide_eq_false hc11)) (Calm.load 0 rfl rfl rfl (At.cast (At.fldS (At.fldS (At.fldS (At.fldS (At.fldS (At.fld0 At.here)))))) rfl) ag35 sz35) ?_
        refine AO.cG (x := .ptr n4 5) rfl rfl (bD (decide_eq_false hc11)) (Calm.fldPtr rfl rfl Try.underlying37 rfl sz35 _ rfl) ?_
        refine AO.cG rfl rfl (bD (decide_eq_false hc11)) (Calm.load 1 rfl rfl rfl (At.cast (At.fldS (At.fldS (At.fldS (At.fldS (At.fldS (At.fld0 At.here)))))) rfl) ag35 sz35) ?_
        obtain ⟨t12, et12, hq6⟩ := of_bind hq6
        refine AO.callG 35 false 41 [(.fz 1 (p0.f5.map eI64)), (.fz 1 (p1.f5.map eI64))] (eBool t12) 46 rfl (by decide) ok53 rfl rfl (bD (decide_eq_false hc11)) rfl rfl ⟨rfl, rfl, rfl, rfl, trivial⟩ (bosketref17_same_spec et12) ?_
        refine AO.cG rfl rfl (bD (decide_eq_false hc11)) (Calm.not rfl rfl) ?_
        refine AO.c (Calm.pickF rfl (bD (decide_eq_false hc11)) rfl) ?_
        cases hq6
        refine AO.nilE ⟨rfl, rfl⟩ ?_ ?_
        · exact ⟨rfl, rfl, rfl, trivial⟩
        · exact (Sub.refl _)
  ·rcases of_ite h with ⟨hc13, h⟩ | ⟨hc13, h⟩
   ·refine AW.condT' _ rfl hc13 ?_
    refine AW.sr ?_
    refine AO.c (Calm.assign rfl rfl) ?_
    refine AO.nH [4] (H' := []) (Sub.nil _) ?_
    refine AW.rK [4] ?_
    have hr := Option.some.inj h
    subst hr
    exact ⟨[(eBool false)], ⟨rfl, rfl, trivial⟩, rfl⟩
   ·refine AW.condF' _ rfl hc13 ?_
    refine AW.sK [2, 3] ?_
    refine AW.seq_mid (fun ρ H => ρ = [] ∧ H = [] ∧ bosketref17_sameProd_c0 k = some r) ?_ ?_
    ·refine AW.sr ?_
     refine AO.c (Calm.assign rfl rfl) ?_
     refine AO.nK [2, 3, 5] ?_
     refine AW.block ?_
     refine AW.wK [2, 3, 5] ?_
     refine AW.loop (fun kq ρ H => ∃ (x14 : Int), ρ = [(2, (.ptr n3 0)), (3, (.ptr n4 0)), (5, (eI64 x14))] ∧ H = [(n3, (.mem (e37 p0))), (n4, (.mem (e37 p1)))] ∧ bosketref17_sameProd_l1 k p0 p1 kq x14 = some r) k ⟨(0 : Int), rfl, rfl, h⟩ ?_
     rintro kq16 _ _ ⟨x14, rfl, rfl, h⟩
     cases kq16 with
     | zero => rw [bosketref17_sameProd_l1.eq_1] at h; cases h
     | succ kq16 =>
     rw [bosketref17_sameProd_l1.eq_2] at h
     generalize hrec15 : bosketref17_sameProd_l1 k p0 p1 kq16 = rec15 at h
     refine AW.seq ?_
     refine AW.sr ?_
     refine AO.c (Calm.move rfl rfl) ?_
     refine AO.c (x := .ptr n3 2) (Calm.fldPtr rfl rfl Try.underlying37 rfl sz34 _ rfl) ?_
     refine AO.c (Calm.load 0 rfl rfl rfl (At.cast (At.fldS (At.fldS (At.fld0 At.here))) rfl) ag34 sz34) ?_
     refine AO.c (Calm.lenL rfl rfl Try.underlying34) ?_
     refine AO.c (x := eBool (decide (x14 < (p0.f2.length : Int)))) (Calm.int rfl rfl rfl rfl) ?_
     refine AO.nK [2, 3, 5, 53] ?_
     rcases of_ite h with ⟨hc17, h⟩ | ⟨hc17, h⟩
     ·refine AW.condP _ rfl hc17 ?_
      refine AW.sK [2, 3, 5] ?_
      refine AW.seq ?_
      refine AW.block ?_
      refine AW.seq ?_
      refine AW.regQ (by rfl) (by decide +kernel) ?_
      refine AQ.c (x := .ptr n3 2) (Calm.fldPtr rfl rfl Try.underlying37 rfl sz34 _ rfl) ?_
      refine AQ.c (Calm.load 0 rfl rfl rfl (At.cast (At.fldS (At.fldS (At.fld0 At.here))) rfl) ag34 sz34) ?_
      refine AQ.c (Calm.move rfl rfl) ?_
      obtain ⟨hg18, h⟩ := of_guard h
      refine AQ.c (Calm.idxL (f := e41) rfl rfl rfl hg18 Try.underlying34 sz41) ?_
      refine AQ.c (Calm.loadRp rfl rfl ag41 sz41) ?_
      refine AQ.c (x := .ptr n4 2) (Calm.fldPtr rfl rfl Try.underlying37 rfl sz34 _ rfl) ?_
      refine AQ.c (Calm.load 1 rfl rfl rfl (At.cast (At.fldS (At.fldS (At.fld0 At.here))) rfl) ag34 sz34) ?_
      refine AQ.c (Calm.move rfl rfl) ?_
      obtain ⟨hg19, h⟩ := of_guard h
      refine AQ.c (Calm.idxL (f := e41) rfl rfl rfl hg19 Try.underlying34 sz41) ?_
      refine AQ.c (Calm.loadRp rfl rfl ag41 sz41) ?_
      refine AQ.c (x := eBool (!(decide ((lget p0.f2 x14) = (lget p1.f2 x14))))) (Calm.neS rfl rfl rfl eg41 (eqk41 (lget p0.f2 x14) (lget p1.f2 x14)) (by decide)) ?_
      refine AQ.nK [2, 3, 5, 66] ?_
      rcases of_ite h with ⟨hc20, h⟩ | ⟨hc20, h⟩
      ·refine AW.condT' _ rfl hc20 ?_
       refine AW.sr ?_
       refine AO.c (Calm.assign rfl rfl) ?_
       refine AO.nH [4] (H' := []) (Sub.nil _) ?_
       refine AW.rK [4] ?_
       have hr := Option.some.inj h
       subst hr
       exact ⟨[(eBool false)], ⟨rfl, rfl, trivial⟩, rfl⟩
      ·refine AW.condF' _ rfl hc20 ?_
       refine AW.sK [2, 3, 5] ?_
       refine AW.reg ?_
       refine AO.c (Calm.move rfl rfl) ?_
       refine AO.c (x := eI64 (w64 (x14 + (1 : Int)))) (Calm.int rfl rfl rfl rfl) ?_
       refine AO.c (Calm.assign rfl rfl) ?_
       refine AO.nK [2, 3, 5] ?_
       exact ⟨kq16, Nat.lt_succ_self _, (w64 (x14 + (1 : Int))), rfl, rfl, by rw [hrec15]; exact h⟩
     ·refine AW.condN _ rfl hc17 ?_
      refine AW.eH [] (H' := []) (Sub.nil _) ?_
      exact ⟨rfl, rfl, h⟩
    ·rintro _ _ ⟨rfl, rfl, h⟩
     rw [bosketref17_sameProd_c0.eq_1] at h
     refine AW.sr ?_
     refine AO.c (Calm.assign rfl rfl) ?_
     refine AO.nK [4] ?_
     refine AW.rK [4] ?_
     have hr := Option.some.inj h
     subst hr
     exact ⟨[(eBool true)], ⟨rfl, rfl, trivial⟩, rfl⟩
end Go.Avl.T7
/- bosket/bosketref17.Same; printed by avmain.py. -/
namespace Go.Avl.T7
open Go Go.RowKit Go.Proofs Go.Avl
set_option linter.unusedVariables false
set_option maxRecDepth 100000
set_option maxHeartbeats 4000000
attribute [local irreducible] AW AO AQ Spec SpecH Calm

def bosketref17_Same_c0 (k : Nat) : Option Bool :=
  some (true)
def bosketref17_Same_l1 (k : Nat) (p0 : S27) (p1 : S27) : Nat → Int → Option Bool
  | 0, _ => none
  | j + 1, x12 =>
    if x12 < (p0.f3.length : Int) then Option.bind (α := Bool) (if 0 ≤ x12 ∧ x12 < (p0.f3.length : Int) then if 0 ≤ x12 ∧ x12 < (p1.f3.length : Int) then if ((lget p0.f3 x12).f0) ≠ ((lget p1.f3 x12).f0) then some (true)
    else if 0 ≤ x12 ∧ x12 < (p0.f3.length : Int) then if 0 ≤ x12 ∧ x12 < (p1.f3.length : Int) then (bosketref17_same k ((lget p0.f3 x12).f1) ((lget p1.f3 x12).f1)).bind fun t23 =>
    some (!t23)
    else none
    else none
    else none
    else none) fun b16 =>
    if b16 = true then some (false)
    else (bosketref17_Same_l1 k p0 p1 j) (w64 (x12 + (1 : Int)))
    else bosketref17_Same_c0 k
def bosketref17_Same_c2 (k : Nat) (p0 : S27) (p1 : S27) : Option Bool :=
  bosketref17_Same_l1 k p0 p1 k (0 : Int)
def bosketref17_Same_l3 (k : Nat) (p0 : S27) (p1 : S27) : Nat → Int → Option Bool
  | 0, _ => none
  | j + 1, x25 =>
    if x25 < (p0.f2.length : Int) then if 0 ≤ x25 ∧ x25 < (p0.f2.length : Int) then if 0 ≤ x25 ∧ x25 < (p1.f2.length : Int) then (bosketref17_sameProd k (lget p0.f2 x25) (lget p1.f2 x25)).bind fun t31 =>
    if (!t31) = true then some (false)
    else (bosketref17_Same_l3 k p0 p1 j) (w64 (x25 + (1 : Int)))
    else none
    else none
    else bosketref17_Same_c2 k p0 p1
def bosketref17_Same_c4 (k : Nat) (p0 : S27) (p1 : S27) : Option Bool :=
  bosketref17_Same_l3 k p0 p1 k (0 : Int)
def bosketref17_Same_l5 (k : Nat) (p0 : S27) (p1 : S27) : Nat → Int → Option Bool
  | 0, _ => none
  | j + 1, x33 =>
    if x33 < (p0.f1.length : Int) then if 0 ≤ x33 ∧ x33 < (p0.f1.length : Int) then if 0 ≤ x33 ∧ x33 < (p1.f1.length : Int) then if (lget p0.f1 x33) ≠ (lget p1.f1 x33) then some (false)
    else (bosketref17_Same_l5 k p0 p1 j) (w64 (x33 + (1 : Int)))
    else none
    else none
    else bosketref17_Same_c4 k p0 p1
def bosketref17_Same_c6 (k : Nat) (p0 : S27) (p1 : S27) : Option Bool :=
  bosketref17_Same_l5 k p0 p1 k (0 : Int)
def bosketref17_Same_l7 (k : Nat) (p0 : S27) (p1 : S27) : Nat → Int → Option Bool
  | 0, _ => none
  | j + 1, x40 =>
    if x40 < (p0.f0.length : Int) then if 0 ≤ x40 ∧ x40 < (p0.f0.length : Int) then if 0 ≤ x40 ∧ x40 < (p1.f0.length : Int) then if (!(decide ((lget p0.f0 x40) = (lget p1.f0 x40)))) = true then some (false)
    else (bosketref17_Same_l7 k p0 p1 j) (w64 (x40 + (1 : Int)))
    else none
    else none
    else bosketref17_Same_c6 k p0 p1
def bosketref17_Same (k : Nat) (p0 : S27) (p1 : S27) : Option Bool :=
  Option.bind (α := Bool) (if (p0.f0.length : Int) ≠ (p1.f0.length : Int) then some (true)
  else if (p0.f1.length : Int) ≠ (p1.f1.length : Int) then some (true)
  else if (p0.f2.length : Int) ≠ (p1.f2.length : Int) then some (true)
  else if (p0.f3.length : Int) ≠ (p1.f3.length : Int) then some (true)
  else some (decide (p0.f4 ≠ p1.f4))) fun b5 =>
  if b5 = true then some (false)
  else bosketref17_Same_l7 k p0 p1 k (0 : Int)
theorem bosketref17_Same_spec {k : Nat} {p0 : S27} {p1 : S27} {r : Bool} (h : bosketref17_Same k p0 p1 = some r) : Spec Try.prog 13 [(e27 p0), (e27 p1)] (eBool r) := by
  rw [bosketref17_Same.eq_1] at h
  refine Spec.intro (res := [.tmp 4]) Try.func13 rfl rfl rfl (Nat.le_of_ble_eq_true rfl) ?_
  refine AW.sr ?_
  refine AO.box rfl 2 rfl (by decide) rfl rfl rfl fun n3 => ?_
  refine AO.box rfl 3 rfl (by decide) rfl rfl rfl fun n4 => ?_
  refine AO.c (Calm.assign rfl rfl) ?_
  refine AO.nH [2, 3] (H' := [(n3, (.mem (e27 p0))), (n4, (.mem (e27 p1)))]) (Sub.cons 1 rfl (Sub.cons 0 rfl (Sub.nil _))) ?_
  refine AW.seq ?_
  refine AW.seq ?_
  obtain ⟨b5, hq6, h⟩ := of_bind h
  refine AW.regM [(2, (.ptr n3 0)), (3, (.ptr n4 0)), (49, (eBool b5))] [(n3, (.mem (e27 p0))), (n4, (.mem (e27 p1)))] ?_ ?_
  ·refine AO.c (x := .ptr n3 0) (Calm.fldPtr rfl rfl Try.underlying27 rfl sz22 _ rfl) ?_
   refine AO.c (Calm.load 0 rfl rfl rfl (At.cast (At.fld0 At.here) rfl) ag22 sz22) ?_
   refine AO.c (Calm.lenL rfl rfl Try.underlying22) ?_
   refine AO.c (x := .ptr n4 0) (Calm.fldPtr rfl rfl Try.underlying27 rfl sz22 _ rfl) ?_
   refine AO.c (Calm.load 1 rfl rfl rfl (At.cast (At.fld0 At.here) rfl) ag22 sz22) ?_
   refine AO.c (Calm.lenL rfl rfl Try.underlying22) ?_
   refine AO.c (x := eBool (decide ((p0.f0.length : Int) ≠ (p1.f0.length : Int)))) (Calm.int rfl rfl rfl rfl) ?_
   refine AO.c (Calm.move rfl rfl) ?_
   rcases of_ite hq6 with ⟨hc7, hq6⟩ | ⟨hc7, hq6⟩
   ·refine AO.sF rfl rfl (bD (decide_eq_true hc7)) ?_
    refine AO.sF rfl rfl (bD (decide_eq_true hc7)) ?_
    refine AO.sF rfl rfl (bD (decide_eq_true hc7)) ?_
    refine AO.sF rfl rfl (bD (decide_eq_true hc7)) ?_
    refine AO.sF rfl rfl (bD (decide_eq_true hc7)) ?_
    refine AO.sF rfl rfl (bD (decide_eq_true hc7)) ?_
    refine AO.sF rfl rfl (bD (decide_eq_true hc7)) ?_
    refine AO.c (Calm.pickT rfl (bD (decide_eq_true hc7)) rfl) ?_
    refine AO.c (Calm.move rfl rfl) ?_
    refine AO.sF rfl rfl rfl ?_
    refine AO.sF rfl rfl rfl ?_
    refine AO.sF rfl rfl rfl ?_
    refine AO.sF rfl rfl rfl ?_
    refine AO.sF rfl rfl rfl ?_
    refine AO.sF rfl rfl rfl ?_
    refine AO.sF rfl rfl rfl ?_
    refine AO.c (Calm.pickT rfl rfl rfl) ?_
    refine AO.c (Calm.move rfl rfl) ?_
    refine AO.sF rfl rfl rfl ?_
    refine AO.sF rfl rfl rfl ?_
    refine AO.sF rfl rfl rfl ?_
    refine AO.sF rfl rfl rfl ?_
    refine AO.sF rfl rfl rfl ?_
    refine AO.sF rfl rfl rfl ?_
    refine AO.sF rfl rfl rfl ?_
    refine AO.c (Calm.pickT rfl rfl rfl) ?_
    refine AO.c (Calm.move rfl rfl) ?_
    refine AO.sF rfl rfl rfl ?_
    refine AO.sF rfl rfl rfl ?_
    refine AO.sF rfl rfl rfl ?_
    refine AO.sF rfl rfl rfl ?_
    refine AO.sF rfl rfl rfl ?_
    refine AO.c (Calm.pickT rfl rfl rfl) ?_
    cases hq6
    refine AO.nilE ⟨rfl, rfl⟩ ?_ ?_
    · exact ⟨rfl, rfl, rfl, trivial⟩
    · exact (Sub.refl _)
   ·refine AO.cG (x := .ptr n3 1) rfl rfl (bD (decide_eq_false hc7)) (Calm.fldPtr rfl rfl Try.underlying27 rfl sz23 _ rfl) ?_
    refine AO.cG rfl rfl (bD (decide_eq_false hc7)) (Calm.load 0 rfl rfl rfl (At.cast (At.fldS (At.fld0 At.here)) rfl) ag23 sz23) ?_
    refine AO.cG rfl rfl (bD (decide_eq_false hc7)) (Calm.lenL rfl rfl Try.underlying23) ?_
    refine AO.cG (x := .ptr n4 1) rfl rfl (bD (decide_eq_false hc7)) (Calm.fldPtr rfl rfl Try.underlying27 rfl sz23 _ rfl) ?_
    refine AO.cG rfl rfl (bD (decide_eq_false hc7)) (Calm.load 1 rfl rfl rfl (At.cast (At.fldS (At.fld0 At.here)) rfl) ag23 sz23) ?_
    refine AO.cG rfl rfl (bD (decide_eq_false hc7)) (Calm.lenL rfl rfl Try.underlying23) ?_
    refine AO.cG (x := eBool (decide ((p0.f1.length : Int) ≠ (p1.f1.length : Int)))) rfl rfl (bD (decide_eq_false hc7)) (Calm.int rfl rfl rfl rfl) ?_
    refine AO.c (Calm.pickF rfl (bD (decide_eq_false hc7)) rfl) ?_
    refine AO.c (Calm.move rfl rfl) ?_
    rcases of_ite hq6 with ⟨hc8, hq6⟩ | ⟨hc8, hq6⟩
    ·refine AO.sF rfl rfl (bD (decide_eq_true hc8)) ?_
     refine AO.sF rfl rfl (bD (decide_eq_true hc8)) ?_
     refine AO.sF rfl rfl (bD (decide_eq_true hc8)) ?_
     refine AO.sF rfl rfl (bD (decide_eq_true hc8)) ?_
     refine AO.sF rfl rfl (bD (decide_eq_true hc8)) ?_
     refine AO.sF rfl rfl (bD (decide_eq_true hc8)) ?_
     refine AO.sF rfl rfl (bD (decide_eq_true hc8)) ?_
     refine AO.c (Calm.pickT rfl (bD (decide_eq_true hc8)) rfl) ?_
     refine AO.c (Calm.move rfl rfl) ?_
     refine AO.sF rfl rfl rfl ?_
     refine AO.sF rfl rfl rfl ?_
     refine AO.sF rfl rfl rfl ?_
     refine AO.sF rfl rfl rfl ?_
     refine AO.sF rfl rfl rfl ?_
     refine AO.sF rfl rfl rfl ?_
     refine AO.sF rfl rfl rfl ?_
     refine AO.c (Calm.pickT rfl rfl rfl) ?_
     refine AO.c (Calm.move rfl rfl) ?_
     refine AO.sF rfl rfl rfl ?_
     refine AO.sF rfl rfl rfl ?_
     refine AO.sF rfl rfl rfl ?_
     refine AO.sF rfl rfl rfl ?_
     refine AO.sF rfl rfl rfl ?_
     refine AO.c (Calm.pickT rfl rfl rfl) ?_
     cases hq6
     refine AO.nilE ⟨rfl, rfl⟩ ?_ ?_
     · exact ⟨rfl, rfl, rfl, trivial⟩
     · exact (Sub.refl _)
    ·refine AO.cG (x := .ptr n3 2) rfl rfl (bD (decide_eq_false hc8)) (Calm.fldPtr rfl rfl Try.underlying27 rfl sz24 _ rfl) ?_
     refine AO.cG rfl rfl (bD (decide_eq_false hc8)) (Calm.load 0 rfl rfl rfl (At.cast (At.fldS (At.fldS (At.fld0 At.here))) rfl) ag24 sz24) ?_
     refine AO.cG rfl rfl (bD (decide_eq_false hc8)) (Calm.lenL rfl rfl Try.underlying24) ?_
     refine AO.cG (x := .ptr n4 2) rfl rfl (bD (decide_eq_false hc8)) (Calm.fldPtr rfl rfl Try.underlying27 rfl sz24 _ rfl) ?_
     refine AO.cG rfl rfl (bD (decide_eq_false hc8)) (Calm.load 1 rfl rfl rfl (At.cast (At.fldS (At.fldS (At.fld0 At.here))) rfl) ag24 sz24) ?_
     refine AO.cG rfl rfl (bD (decide_eq_false hc8)) (Calm.lenL rfl rfl Try.underlying24) ?_
     refine AO.cG (x := eBool (decide ((p0.f2.length : Int) ≠ (p1.f2.length : Int)))) rfl rfl (bD (decide_eq_false hc8)) (Calm.int rfl rfl rfl rfl) ?_
     refine AO.c (Calm.pickF rfl (bD (decide_eq_false hc8)) rfl) ?_
     refine AO.c (Calm.move rfl rfl) ?_
     rcases of_ite hq6 with ⟨hc9, hq6⟩ | ⟨hc9, hq6⟩
     ·refine AO.sF rfl rfl (bD (decide_eq_true hc9)) ?_
      refine AO.sF rfl rfl (bD (decide_eq_true hc9)) ?_
      refine AO.sF rfl rfl (bD (decide_eq_true hc9)) ?_
      refine AO.sF rfl rfl (bD (decide_eq_true hc9)) ?_
      refine AO.sF rfl rfl (bD (decide_eq_true hc9)) ?_
      refine AO.sF rfl rfl (bD (decide_eq_true hc9)) ?_
      refine AO.sF rfl rfl (bD (decide_eq_true hc9)) ?_
      refine AO.c (Calm.pickT rfl (bD (decide_eq_true hc9)) rfl) ?_
      refine AO.c (Calm.move rfl rfl) ?_
      refine AO.sF rfl rfl rfl ?_
      refine AO.sF rfl rfl rfl ?_
      refine AO.sF rfl rfl rfl ?_
      refine AO.sF rfl rfl rfl ?_
      refine AO.sF rfl rfl rfl ?_
      refine AO.c (Calm.pickT rfl rfl rfl) ?_
      cases hq6
      refine AO.nilE ⟨rfl, rfl⟩ ?_ ?_
      · exact ⟨rfl, rfl, rfl, trivial⟩
      · exact (Sub.refl _)
     ·refine AO.cG (x := .ptr n3 3) rfl rfl (bD (decide_eq_false hc9)) (Calm.fldPtr rfl rfl Try.underlying27 rfl sz25 _ rfl) ?_
      refine AO.cG rfl rfl (bD (decide_eq_false hc9)) (Calm.load 0 rfl rfl rfl (At.cast (At.fldS (At.fldS (At.fldS (At.fld0 At.here)))) rfl) ag25 sz25) ?_
      refine AO.cG rfl rfl (bD (decide_eq_false hc9)) (Calm.lenL rfl rfl Try.underlying25) ?_
      refine AO.cG (x := .ptr n4 3) rfl rfl (bD (decide_eq_false hc9)) (Calm.fldPtr rfl rfl Try.underlying27 rfl sz25 _ rfl) ?_
      refine AO.cG rfl rfl (bD (decide_eq_false hc9)) (Calm.load 1 rfl rfl rfl (At.cast (At.fldS (At.fldS (At.fldS (At.fld0 At.here)))) rfl) ag25 sz25) ?_
      refine AO.cG rfl rfl (bD (decide_eq_false hc9)) (Calm.lenL rfl rfl Try.underlying25) ?_
      refine AO.cG (x := eBool (decide ((p0.f3.length : Int) ≠ (p1.f3.length : Int)))) rfl rfl (bD (decide_eq_false hc9)) (Calm.int rfl rfl rfl rfl) ?_
      refine AO.c (Calm.pickF rfl (bD (decide_eq_false hc9)) rfl) ?_
      refine AO.c (Calm.move rfl rfl) ?_
      rcases of_ite hq6 with ⟨hc10, hq6⟩ | ⟨hc10, hq6⟩
      ·refine AO.sF rfl rfl (bD (decide_eq_true hc10)) ?_
       refine AO.sF rfl rfl (bD (decide_eq_true hc10)) ?_
       refine AO.sF rfl rfl (bD (decide_eq_true hc10)) ?_
       refine AO.sF rfl rfl (bD (decide_eq_true hc10)) ?_
       refine AO.sF rfl rfl (bD (decide_eq_true hc10)) ?_
       refine AO.c (Calm.pickT rfl (bD (decide_eq_true hc10)) rfl) ?_
       cases hq6
       refine AO.nilE ⟨rfl, rfl⟩ ?_ ?_
       · exact ⟨rfl, rfl, rfl, trivial⟩
       · exact (Sub.refl _)
      ·refine AO.cG (x := .ptr n3 4) rfl rfl (bD (decide_eq_false hc10)) (Calm.fldPtr rfl rfl Try.underlying27 rfl sz3 _ rfl) ?_
       refine AO.cG rfl rfl (bD (decide_eq_false hc10)) (Calm.load 0 rfl rfl rfl (At.cast (At.fldS (At.fldS (At.fldS (At.fldS (At.fld0 At.here))))) rfl) ag3 sz3) ?_
       refine AO.cG (x := .ptr n4 4) rfl rfl (bD (decide_eq_false hc10)) (Calm.fldPtr rfl rfl Try.underlying27 rfl sz3 _ rfl) ?_
       refine AO.cG rfl rfl (bD (decide_eq_false hc10)) (Calm.load 1 rfl rfl rfl (At.cast (At.fldS (At.fldS (At.fldS (At.fldS (At.fld0 At.here))))) rfl) ag3 sz3) ?_
       refine AO.cG (x := eBool (decide (p0.f4 ≠ p1.f4))) rfl rfl (bD (decide_eq_false hc10)) (Calm.int rfl rfl rfl rfl) ?_
       refine AO.c (Calm.pickF rfl (bD (decide_eq_false hc10)) rfl) ?_
       cases hq6
       refine AO.nilE ⟨rfl, rfl⟩ ?_ ?_
       · exact ⟨rfl, rfl, rfl, trivial⟩
       · exact (Sub.refl _)
  ·rcases of_ite h with ⟨hc11, h⟩ | ⟨hc11, h⟩
   ·refine AW.condT' _ rfl hc11 ?_
    refine AW.sr ?_
    refine AO.c (Calm.assign rfl rfl) ?_
    refine AO.nH [4] (H' := []) (Sub.nil _) ?_
    refine AW.rK [4] ?_
    have hr := Option.some.inj h
    subst hr
    exact ⟨[(eBool false)], ⟨rfl, rfl, trivial⟩, rfl⟩
   ·refine AW.condF' _ rfl hc11 ?_
    refine AW.sK [2, 3] ?_
    refine AW.seq_mid (fun ρ H => ρ = [(2, (.ptr n3 0)), (3, (.ptr n4 0))] ∧ H = [(n3, (.mem (e27 p0))), (n4, (.mem (e27 p1)))] ∧ bosketref17_Same_c6 k p0 p1 = some r) ?_ ?_
    ·refine AW.sr ?_
     refine AO.c (Calm.assign rfl rfl) ?_
     refine AO.nK [2, 3, 5] ?_
     refine AW.block ?_
     refine AW.wK [2, 3, 5] ?_
     refine AW.loop (fun kq ρ H => ∃ (x40 : Int), ρ = [(2, (.ptr n3 0)), (3, (.ptr n4 0)), (5, (eI64 x40))] ∧ H = [(n3, (.mem (e27 p0))), (n4, (.mem (e27 p1)))] ∧ bosketref17_Same_l7 k p0 p1 kq x40 = some r) k ⟨(0 : Int), rfl, rfl, h⟩ ?_
     rintro kq42 _ _ ⟨x40, rfl, rfl, h⟩
     cases kq42 with
     | zero => rw [bosketref17_Same_l7.eq_1] at h; cases h
     | succ kq42 =>
     rw [bosketref17_Same_l7.eq_2] at h
     generalize hrec41 : bosketref17_Same_l7 k p0 p1 kq42 = rec41 at h
     refine AW.seq ?_
     refine AW.sr ?_
     refine AO.c (Calm.move rfl rfl) ?_
     refine AO.c (x := .ptr n3 0) (Calm.fldPtr rfl rfl Try.underlying27 rfl sz22 _ rfl) ?_
     refine AO.c (Calm.load 0 rfl rfl rfl (At.cast (At.fld0 At.here) rfl) ag22 sz22) ?_
     refine AO.c (Calm.lenL rfl rfl Try.underlying22) ?_
     refine AO.c (x := eBool (decide (x40 < (p0.f0.length : Int)))) (Calm.int rfl rfl rfl rfl) ?_
     refine AO.nK [2, 3, 5, 54] ?_
     rcases of_ite h with ⟨hc43, h⟩ | ⟨hc43, h⟩
     ·refine AW.condP _ rfl hc43 ?_
      refine AW.sK [2, 3, 5] ?_
      refine AW.seq ?_
      refine AW.block ?_
      refine AW.seq ?_
      refine AW.regQ (by rfl) (by decide +kernel) ?_
      refine AQ.c (x := .ptr n3 0) (Calm.fldPtr rfl rfl Try.underlying27 rfl sz22 _ rfl) ?_
      refine AQ.c (Calm.load 0 rfl rfl rfl (At.cast (At.fld0 At.here) rfl) ag22 sz22) ?_
      refine AQ.c (Calm.move rfl rfl) ?_
      obtain ⟨hg44, h⟩ := of_guard h
      refine AQ.c (Calm.idxL (f := e82) rfl rfl rfl hg44 Try.underlying22 sz82) ?_
      refine AQ.c (Calm.loadRp rfl rfl ag82 sz82) ?_
      refine AQ.c (x := .ptr n4 0) (Calm.fldPtr rfl rfl Try.underlying27 rfl sz22 _ rfl) ?_
      refine AQ.c (Calm.load 1 rfl rfl rfl (At.cast (At.fld0 At.here) rfl) ag22 sz22) ?_
      refine AQ.c (Calm.move rfl rfl) ?_
      obtain ⟨hg45, h⟩ := of_guard h
      refine AQ.c (Calm.idxL (f := e82) rfl rfl rfl hg45 Try.underlying22 sz82) ?_
      refine AQ.c (Calm.loadRp rfl rfl ag82 sz82) ?_
      refine AQ.c (x := eBool (!(decide ((lget p0.f0 x40) = (lget p1.f0 x40))))) (Calm.neS rfl rfl rfl eg82 (eqk82 (lget p0.f0 x40) (lget p1.f0 x40)) (by decide)) ?_
      refine AQ.nK [2, 3, 5, 67] ?_
      rcases of_ite h with ⟨hc46, h⟩ | ⟨hc46, h⟩
      ·refine AW.condT' _ rfl hc46 ?_
       refine AW.sr ?_
       refine AO.c (Calm.assign rfl rfl) ?_
       refine AO.nH [4] (H' := []) (Sub.nil _) ?_
       refine AW.rK [4] ?_
       have hr := Option.some.inj h
       subst hr
       exact ⟨[(eBool false)], ⟨rfl, rfl, trivial⟩, rfl⟩
      ·refine AW.condF' _ rfl hc46 ?_
       refine AW.sK [2, 3, 5] ?_
       refine AW.reg ?_
       refine AO.c (Calm.move rfl rfl) ?_
       refine AO.c (x := eI64 (w64 (x40 + (1 : Int)))) (Calm.int rfl rfl rfl rfl) ?_
       refine AO.c (Calm.assign rfl rfl) ?_
       refine AO.nK [2, 3, 5] ?_
       exact ⟨kq42, Nat.lt_succ_self _, (w64 (x40 + (1 : Int))), rfl, rfl, by rw [hrec41]; exact h⟩
     ·refine AW.condN _ rfl hc43 ?_
      refine AW.eK [2, 3] ?_
      exact ⟨rfl, rfl, h⟩
    ·rintro _ _ ⟨rfl, rfl, h⟩
     rw [bosketref17_Same_c6.eq_1] at h
     refine AW.seq_mid (fun ρ H => ρ = [(2, (.ptr n3 0)), (3, (.ptr n4 0))] ∧ H = [(n3, (.mem (e27 p0))), (n4, (.mem (e27 p1)))] ∧ bosketref17_Same_c4 k p0 p1 = some r) ?_ ?_
     ·refine AW.sr ?_
      refine AO.c (Calm.assign rfl rfl) ?_
      refine AO.nK [2, 3, 6] ?_
      refine AW.block ?_
      refine AW.wK [2, 3, 6] ?_
      refine AW.loop (fun kq ρ H => ∃ (x33 : Int), ρ = [(2, (.ptr n3 0)), (3, (.ptr n4 0)), (6, (eI64 x33))] ∧ H = [(n3, (.mem (e27 p0))), (n4, (.mem (e27 p1)))] ∧ bosketref17_Same_l5 k p0 p1 kq x33 = some r) k ⟨(0 : Int), rfl, rfl, h⟩ ?_
      rintro kq35 _ _ ⟨x33, rfl, rfl, h⟩
      cases kq35 with
      | zero => rw [bosketref17_Same_l5.eq_1] at h; cases h
      | succ kq35 =>
      rw [bosketref17_Same_l5.eq_2] at h
      generalize hrec34 : bosketref17_Same_l5 k p0 p1 kq35 = rec34 at h
      refine AW.seq ?_
      refine AW.sr ?_
      refine AO.c (Calm.move rfl rfl) ?_
      refine AO.c (x := .ptr n3 1) (Calm.fldPtr rfl rfl Try.underlying27 rfl sz23 _ rfl) ?_
      refine AO.c (Calm.load 0 rfl rfl rfl (At.cast (At.fldS (At.fld0 At.here)) rfl) ag23 sz23) ?_
      refine AO.c (Calm.lenL rfl rfl Try.underlying23) ?_
      refine AO.c (x := eBool (decide (x33 < (p0.f1.length : Int)))) (Calm.int rfl rfl rfl rfl) ?_
      refine AO.nK [2, 3, 6, 72] ?_
      rcases of_ite h with ⟨hc36, h⟩ | ⟨hc36, h⟩
      ·refine AW.condP _ rfl hc36 ?_
       refine AW.sK [2, 3, 6] ?_
       refine AW.seq ?_
       refine AW.block ?_
       refine AW.seq ?_
       refine AW.regQ (by rfl) (by decide +kernel) ?_
       refine AQ.c (x := .ptr n3 1) (Calm.fldPtr rfl rfl Try.underlying27 rfl sz23 _ rfl) ?_
       refine AQ.c (Calm.load 0 rfl rfl rfl (At.cast (At.fldS (At.fld0 At.here)) rfl) ag23 sz23) ?_
       refine AQ.c (Calm.move rfl rfl) ?_
       obtain ⟨hg37, h⟩ := of_guard h
       refine AQ.c (Calm.idxL (f := eStr) rfl rfl rfl hg37 Try.underlying23 sz9) ?_
       refine AQ.c (Calm.loadRp rfl rfl ag9 sz9) ?_
       refine AQ.c (x := .ptr n4 1) (Calm.fldPtr rfl rfl Try.underlying27 rfl sz23 _ rfl) ?_
       refine AQ.c (Calm.load 1 rfl rfl rfl (At.cast (At.fldS (At.fld0 At.here)) rfl) ag23 sz23) ?_
       refine AQ.c (Calm.move rfl rfl) ?_
       obtain ⟨hg38, h⟩ := of_guard h
       refine AQ.c (Calm.idxL (f := eStr) rfl rfl rfl hg38 Try.underlying23 sz9) ?_
       refine AQ.c (Calm.loadRp rfl rfl ag9 sz9) ?_
       refine AQ.c (x := eBool (decide ((lget p0.f1 x33) ≠ (lget p1.f1 x33)))) (Calm.str rfl rfl rfl rfl) ?_
       refine AQ.nK [2, 3, 6, 85] ?_
       rcases of_ite h with ⟨hc39, h⟩ | ⟨hc39, h⟩
       ·refine AW.condP _ rfl hc39 ?_
        refine AW.sr ?_
        refine AO.c (Calm.assign rfl rfl) ?_
        refine AO.nH [4] (H' := []) (Sub.nil _) ?_
        refine AW.rK [4] ?_
        have hr := Option.some.inj h
        subst hr
        exact ⟨[(eBool false)], ⟨rfl, rfl, trivial⟩, rfl⟩
       ·refine AW.condN _ rfl hc39 ?_
        refine AW.sK [2, 3, 6] ?_
        refine AW.reg ?_
        refine AO.c (Calm.move rfl rfl) ?_
        refine AO.c (x := eI64 (w64 (x33 + (1 : Int)))) (Calm.int rfl rfl rfl rfl) ?_
        refine AO.c (Calm.assign rfl rfl) ?_
        refine AO.nK [2, 3, 6] ?_
        exact ⟨kq35, Nat.lt_succ_self _, (w64 (x33 + (1 : Int))), rfl, rfl, by rw [hrec34]; exact h⟩
      ·refine AW.condN _ rfl hc36 ?_
       refine AW.eK [2, 3] ?_
       exact ⟨rfl, rfl, h⟩
     ·rintro _ _ ⟨rfl, rfl, h⟩
      rw [bosketref17_Same_c4.eq_1] at h
      refine AW.seq_mid (fun ρ H => ρ = [(2, (.ptr n3 0)), (3, (.ptr n4 0))] ∧ H = [(n3, (.mem (e27 p0))), (n4, (.mem (e27 p1)))] ∧ bosketref17_Same_c2 k p0 p1 = some r) ?_ ?_
      ·refine AW.sr ?_
       refine AO.c (Calm.assign rfl rfl) ?_
       refine AO.nK [2, 3, 7] ?_
       refine AW.block ?_
       refine AW.wK [2, 3, 7] ?_
       refine AW.loop (fun kq ρ H => ∃ (x25 : Int), ρ = [(2, (.ptr n3 0)), (3, (.ptr n4 0)), (7, (eI64 x25))] ∧ H = [(n3, (.mem (e27 p0))), (n4, (.mem (e27 p1)))] ∧ bosketref17_Same_l3 k p0 p1 kq x25 = some r) k ⟨(0 : Int), rfl, rfl, h⟩ ?_
       rintro kq27 _ _ ⟨x25, rfl, rfl, h⟩
       cases kq27 with
       | zero => rw [bosketref17_Same_l3.eq_1] at h; cases h
       | succ kq27 =>
       rw [bosketref17_Same_l3.eq_2] at h
       generalize hrec26 : bosketref17_Same_l3 k p0 p1 kq27 = rec26 at h
       refine AW.seq ?_
       refine AW.sr ?_
       refine AO.c (Calm.move rfl rfl) ?_
       refine AO.c (x := .ptr n3 2) (Calm.fldPtr rfl rfl Try.underlying27 rfl sz24 _ rfl) ?_
       refine AO.c (Calm.load 0 rfl rfl rfl (At.cast (At.fldS (At.fldS (At.fld0 At.here))) rfl) ag24 sz24) ?_
       refine AO.c (Calm.lenL rfl rfl Try.underlying24) ?_
       refine AO.c (x := eBool (decide (x25 < (p0.f2.length : Int)))) (Calm.int rfl rfl rfl rfl) ?_
       refine AO.nK [2, 3, 7, 90] ?_
       rcases of_ite h with ⟨hc28, h⟩ | ⟨hc28, h⟩
       ·refine AW.condP _ rfl hc28 ?_
        refine AW.sK [2, 3, 7] ?_
        refine AW.seq ?_
        refine AW.block ?_
        refine AW.seq ?_
        refine AW.regQ (by rfl) (by decide +kernel) ?_
        refine AQ.c (x := .ptr n3 2) (Calm.fldPtr rfl rfl Try.underlying27 rfl sz24 _ rfl) ?_
        refine AQ.c (Calm.load 0 rfl rfl rfl (At.cast (At.fldS (At.fldS (At.fld0 At.here))) rfl) ag24 sz24) ?_
        refine AQ.c (Calm.move rfl rfl) ?_
        obtain ⟨hg29, h⟩ := of_guard h
        refine AQ.c (Calm.idxL (f := e37) rfl rfl rfl hg29 Try.underlying24 sz37) ?_
        refine AQ.c (Calm.loadRp rfl rfl ag37 sz37) ?_
        refine AQ.c (x := .ptr n4 2) (Calm.fldPtr rfl rfl Try.underlying27 rfl sz24 _ rfl) ?_
        refine AQ.c (Calm.load 1 rfl rfl rfl (At.cast (At.fldS (At.fldS (At.fld0 At.here))) rfl) ag24 sz24) ?_
        refine AQ.c (Calm.move rfl rfl) ?_
        obtain ⟨hg30, h⟩ := of_guard h
        refine AQ.c (Calm.idxL (f := e37) rfl rfl rfl hg30 Try.underlying24 sz37) ?_
        refine AQ.c (Calm.loadRp rfl rfl ag37 sz37) ?_
        obtain ⟨t31, et31, h⟩ := of_bind h
        refine AQ.c (Calm.call (args := [(e37 (lget p0.f2 x25)), (e37 (lget p1.f2 x25))]) rfl rfl ok52 ⟨rfl, rfl, rfl, rfl, trivial⟩ rfl (bosketref17_sameProd_spec et31)) ?_
        refine AQ.c (Calm.not rfl rfl) ?_
        refine AQ.nK [2, 3, 7, 104] ?_
        rcases of_ite h with ⟨hc32, h⟩ | ⟨hc32, h⟩
        ·refine AW.condT' _ rfl hc32 ?_
         refine AW.sr ?_
         refine AO.c (Calm.assign rfl rfl) ?_
         refine AO.nH [4] (H' := []) (Sub.nil _) ?_
         refine AW.rK [4] ?_
         have hr := Option.some.inj h
         subst hr
         exact ⟨[(eBool false)], ⟨rfl, rfl, trivial⟩, rfl⟩
        ·refine AW.condF' _ rfl hc32 ?_
         refine AW.sK [2, 3, 7] ?_
         refine AW.reg ?_
         refine AO.c (Calm.move rfl rfl) ?_
         refine AO.c (x := eI64 (w64 (x25 + (1 : Int)))) (Calm.int rfl rfl rfl rfl) ?_
         refine AO.c (Calm.assign rfl rfl) ?_
         refine AO.nK [2, 3, 7] ?_
         exact ⟨kq27, Nat.lt_succ_self _, (w64 (x25 + (1 : Int))), rfl, rfl, by rw [hrec26]; exact h⟩
       ·refine AW.condN _ rfl hc28 ?_
        refine AW.eK [2, 3] ?_
        exact ⟨rfl, rfl, h⟩
      ·rintro _ _ ⟨rfl, rfl, h⟩
       rw [bosketref17_Same_c2.eq_1] at h
       refine AW.seq_mid (fun ρ H => ρ = [] ∧ H = [] ∧ bosketref17_Same_c0 k = some r) ?_ ?_
       ·refine AW.sr ?_
        refine AO.c (Calm.assign rfl rfl) ?_
        refine AO.nK [2, 3, 8] ?_
        refine AW.block ?_
        refine AW.wK [2, 3, 8] ?_
        refine AW.loop (fun kq ρ H => ∃ (x12 : Int), ρ = [(2, (.ptr n3 0)), (3, (.ptr n4 0)), (8, (eI64 x12))] ∧ H = [(n3, (.mem (e27 p0))), (n4, (.mem (e27 p1)))] ∧ bosketref17_Same_l1 k p0 p1 kq x12 = some r) k ⟨(0 : Int), rfl, rfl, h⟩ ?_
        rintro kq14 _ _ ⟨x12, rfl, rfl, h⟩
        cases kq14 with
        | zero => rw [bosketref17_Same_l1.eq_1] at h; cases h
        | succ kq14 =>
        rw [bosketref17_Same_l1.eq_2] at h
        generalize hrec13 : bosketref17_Same_l1 k p0 p1 kq14 = rec13 at h
        refine AW.seq ?_
        refine AW.sr ?_
        refine AO.c (Calm.move rfl rfl) ?_
        refine AO.c (x := .ptr n3 3) (Calm.fldPtr rfl rfl Try.underlying27 rfl sz25 _ rfl) ?_
        refine AO.c (Calm.load 0 rfl rfl rfl (At.cast (At.fldS (At.fldS (At.fldS (At.fld0 At.here)))) rfl) ag25 sz25) ?_
        refine AO.c (Calm.lenL rfl rfl Try.underlying25) ?_
        refine AO.c (x := eBool (decide (x12 < (p0.f3.length : Int)))) (Calm.int rfl rfl rfl rfl) ?_
        refine AO.nK [2, 3, 8, 109] ?_
        rcases of_ite h with ⟨hc15, h⟩ | ⟨hc15, h⟩
        ·refine AW.condP _ rfl hc15 ?_
         refine AW.sK [2, 3, 8] ?_
         refine AW.seq ?_
         refine AW.block ?_
         refine AW.seq ?_
         obtain ⟨b16, hq17, h⟩ := of_bind h
         refine AW.regQM (by rfl) (by decide +kernel) [(2, (.ptr n3 0)), (3, (.ptr n4 0)), (8, (eI64 x12)), (140, (eBool b16))] ?_ ?_
         ·refine AQ.c (x := .ptr n3 3) (Calm.fldPtr rfl rfl Try.underlying27 rfl sz25 _ rfl) ?_
          refine AQ.c (Calm.load 0 rfl rfl rfl (At.cast (At.fldS (At.fldS (At.fldS (At.fld0 At.here)))) rfl) ag25 sz25) ?_
          refine AQ.c (Calm.move rfl rfl) ?_
          obtain ⟨hg18, hq17⟩ := of_guard hq17
          refine AQ.c (Calm.idxL (f := e86) rfl rfl rfl hg18 Try.underlying25 sz86) ?_
          refine AQ.c (Calm.fldRp rfl rfl Try.underlying86 rfl sz3 (At.cast (At.fld0 At.here) rfl)) ?_
          refine AQ.c (Calm.loadRp rfl rfl ag3 sz3) ?_
          refine AQ.c (x := .ptr n4 3) (Calm.fldPtr rfl rfl Try.underlying27 rfl sz25 _ rfl) ?_
          refine AQ.c (Calm.load 1 rfl rfl rfl (At.cast (At.fldS (At.fldS (At.fldS (At.fld0 At.here)))) rfl) ag25 sz25) ?_
          refine AQ.c (Calm.move rfl rfl) ?_
          obtain ⟨hg19, hq17⟩ := of_guard hq17
          refine AQ.c (Calm.idxL (f := e86) rfl rfl rfl hg19 Try.underlying25 sz86) ?_
          refine AQ.c (Calm.fldRp rfl rfl Try.underlying86 rfl sz3 (At.cast (At.fld0 At.here) rfl)) ?_
          refine AQ.c (Calm.loadRp rfl rfl ag3 sz3) ?_
          refine AQ.c (x := eBool (decide (((lget p0.f3 x12).f0) ≠ ((lget p1.f3 x12).f0)))) (Calm.int rfl rfl rfl rfl) ?_
          refine AQ.c (Calm.move rfl rfl) ?_
          rcases of_ite hq17 with ⟨hc20, hq17⟩ | ⟨hc20, hq17⟩
          ·refine AQ.sF rfl rfl (bD (decide_eq_true hc20)) ?_
           refine AQ.sF rfl rfl (bD (decide_eq_true hc20)) ?_
           refine AQ.sF rfl rfl (bD (decide_eq_true hc20)) ?_
           refine AQ.sF rfl rfl (bD (decide_eq_true hc20)) ?_
           refine AQ.sF rfl rfl (bD (decide_eq_true hc20)) ?_
           refine AQ.sF rfl rfl (bD (decide_eq_true hc20)) ?_
           refine AQ.sF rfl rfl (bD (decide_eq_true hc20)) ?_
           refine AQ.sF rfl rfl (bD (decide_eq_true hc20)) ?_
           refine AQ.sF rfl rfl (bD (decide_eq_true hc20)) ?_
           refine AQ.sF rfl rfl (bD (decide_eq_true hc20)) ?_
           refine AQ.sF rfl rfl (bD (decide_eq_true hc20)) ?_
           refine AQ.sF rfl rfl (bD (decide_eq_true hc20)) ?_
           refine AQ.sF rfl rfl (bD (decide_eq_true hc20)) ?_
           refine AQ.sF rfl rfl (bD (decide_eq_true hc20)) ?_
           refine AQ.c (Calm.pickT rfl (bD (decide_eq_true hc20)) rfl) ?_
           cases hq17
           refine AQ.nilE rfl ?_
           exact ⟨rfl, rfl, rfl, rfl, trivial⟩
          ·refine AQ.cG (x := .ptr n3 3) rfl rfl (bD (decide_eq_false hc20)) (Calm.fldPtr rfl rfl Try.underlying27 rfl sz25 _ rfl) ?_
           refine AQ.cG rfl rfl (bD (decide_eq_false hc20)) (Calm.load 0 rfl rfl rfl (At.cast (At.fldS (At.fldS (At.fldS (At.fld0 At.here)))) rfl) ag25 sz25) ?_
           refine AQ.cG rfl rfl (bD (decide_eq_false hc20)) (Calm.move rfl rfl) ?_
           obtain ⟨hg21, hq17⟩ := of_guard hq17
           refine AQ.cG rfl rfl (bD (decide_eq_false hc20)) (Calm.idxL (f := e86) rfl rfl rfl hg21 Try.underlying25 sz86) ?_
           refine AQ.cG rfl rfl (bD (decide_eq_false hc20)) (Calm.fldRp rfl rfl Try.underlying86 rfl sz35 (At.cast (At.fldS (At.fld0 At.here)) rfl)) ?_
           refine AQ.cG rfl rfl (bD (decide_eq_false hc20)) (Calm.loadRp rfl rfl ag35 sz35) ?_
           refine AQ.cG (x := .ptr n4 3) rfl rfl (bD (decide_eq_false hc20)) (Calm.fldPtr rfl rfl Try.underlying27 rfl sz25 _ rfl) ?_
           refine AQ.cG rfl rfl (bD (decide_eq_false hc20)) (Calm.load 1 rfl rfl rfl (At.cast (At.fldS (At.fldS (At.fldS (At.fld0 At.here)))) rfl) ag25 sz25) ?_
           refine AQ.cG rfl rfl (bD (decide_eq_false hc20)) (Calm.move rfl rfl) ?_
           obtain ⟨hg22, hq17⟩ := of_guard hq17
           refine AQ.cG rfl rfl (bD (decide_eq_false hc20)) (Calm.idxL (f := e86) rfl rfl rfl hg22 Try.underlying25 sz86) ?_
           refine AQ.cG rfl rfl (bD (decide_eq_false hc20)) (Calm.fldRp rfl rfl Try.underlying86 rfl sz35 (At.cast (At.fldS (At.fld0 At.here)) rfl)) ?_
           refine AQ.cG rfl rfl (bD (decide_eq_false hc20)) (Calm.loadRp rfl rfl ag35 sz35) ?_
           obtain ⟨t23, et23, hq17⟩ := of_bind hq17
           refine AQ.cG rfl rfl (bD (decide_eq_false hc20)) (Calm.call (args := [(.fz 1 (((lget p0.f3 x12).f1).map eI64)), (.fz 1 (((lget p1.f3 x12).f1).map eI64))]) rfl rfl ok53 ⟨rfl, rfl, rfl, rfl, trivial⟩ rfl (bosketref17_same_spec et23)) ?_
           refine AQ.cG rfl rfl (bD (decide_eq_false hc20)) (Calm.not rfl rfl) ?_
           refine AQ.c (Calm.pickF rfl (bD (decide_eq_false hc20)) rfl) ?_
           cases hq17
           refine AQ.nilE rfl ?_
           exact ⟨rfl, rfl, rfl, rfl, trivial⟩
         ·rcases of_ite h with ⟨hc24, h⟩ | ⟨hc24, h⟩
          ·refine AW.condT' _ rfl hc24 ?_
           refine AW.sr ?_
           refine AO.c (Calm.assign rfl rfl) ?_
           refine AO.nH [4] (H' := []) (Sub.nil _) ?_
           refine AW.rK [4] ?_
           have hr := Option.some.inj h
           subst hr
           exact ⟨[(eBool false)], ⟨rfl, rfl, trivial⟩, rfl⟩
          ·refine AW.condF' _ rfl hc24 ?_
           refine AW.sK [2, 3, 8] ?_
           refine AW.reg ?_
           refine AO.c (Calm.move rfl rfl) ?_
           refine AO.c (x := eI64 (w64 (x12 + (1 : Int)))) (Calm.int rfl rfl rfl rfl) ?_
           refine AO.c (Calm.assign rfl rfl) ?_
           refine AO.nK [2, 3, 8] ?_
           exact ⟨kq14, Nat.lt_succ_self _, (w64 (x12 + (1 : Int))), rfl, rfl, by rw [hrec13]; exact h⟩
        ·refine AW.condN _ rfl hc15 ?_
         refine AW.eH [] (H' := []) (Sub.nil _) ?_
         exact ⟨rfl, rfl, h⟩
       ·rintro _ _ ⟨rfl, rfl, h⟩
        rw [bosketref17_Same_c0.eq_1] at h
        refine AW.sr ?_
        refine AO.c (Calm.assign rfl rfl) ?_
        refine AO.nK [4] ?_
        refine AW.rK [4] ?_
        have hr := Option.some.inj h
        subst hr
        exact ⟨[(eBool true)], ⟨rfl, rfl, trivial⟩, rfl⟩
end Go.Avl.T7
/- bosket/bosketlaw17.GramSame; printed by avmain.py. -/
namespace Go.Avl.T7
open Go Go.RowKit Go.Proofs Go.Avl
set_option linter.unusedVariables false
set_option maxRecDepth 100000
set_option maxHeartbeats 4000000
attribute [local irreducible] AW AO AQ Spec SpecH Calm

def bosketlaw17_GramSame (k : Nat) (p0 : S27) (p1 : S27) : Option Bool :=
  (bosketlaw17_awake k).bind fun t5 =>
  if (!t5) = true then some (false)
  else Option.bind (α := Bool) ((bosketlaw17_Few k p0).bind fun t9 =>
  if (!t9) = true then some (true)
  else (bosketlaw17_Few k p1).bind fun t11 =>
  if (!t11) = true then some (true)
  else (gram_Same k p0 p1).bind fun t13 =>
  (bosketref17_Same k p0 p1).bind fun t14 =>
  some ((t13 == t14))) fun b7 =>
  some (b7)
theorem bosketlaw17_GramSame_spec {k : Nat} {p0 : S27} {p1 : S27} {r : Bool} (h : bosketlaw17_GramSame k p0 p1 = some r) : Spec Try.prog 4 [(e27 p0), (e27 p1)] (eBool r) := by
  rw [bosketlaw17_GramSame.eq_1] at h
  refine Spec.intro (res := [.tmp 4]) Try.func4 rfl rfl rfl (Nat.le_of_ble_eq_true rfl) ?_
  refine AW.sr ?_
  refine AO.box rfl 2 rfl (by decide) rfl rfl rfl fun n3 => ?_
  refine AO.box rfl 3 rfl (by decide) rfl rfl rfl fun n4 => ?_
  refine AO.c (Calm.assign rfl rfl) ?_
  refine AO.nH [2, 3] (H' := [(n3, (.mem (e27 p0))), (n4, (.mem (e27 p1)))]) (Sub.cons 1 rfl (Sub.cons 0 rfl (Sub.nil _))) ?_
  refine AW.seq ?_
  refine AW.sr ?_
  obtain ⟨t5, et5, h⟩ := of_bind h
  refine AO.callS [] (eBool t5) 5 rfl (by decide) ok9 rfl rfl rfl trivial (bosketlaw17_awake_spec et5) ?_
  refine AO.c (Calm.not rfl rfl) ?_
  refine AO.nK [2, 3, 6] ?_
  rcases of_ite h with ⟨hc6, h⟩ | ⟨hc6, h⟩
  ·refine AW.condT' _ rfl hc6 ?_
   refine AW.sr ?_
   refine AO.c (Calm.assign rfl rfl) ?_
   refine AO.nH [4] (H' := []) (Sub.nil _) ?_
   refine AW.rK [4] ?_
   have hr := Option.some.inj h
   subst hr
   exact ⟨[(eBool false)], ⟨rfl, rfl, trivial⟩, rfl⟩
  ·refine AW.condF' _ rfl hc6 ?_
   refine AW.sK [2, 3] ?_
   refine AW.seq ?_
   obtain ⟨b7, hq8, h⟩ := of_bind h
   refine AW.regQM (by rfl) (by decide +kernel) [(4, (eBool b7))] ?_ ?_
   ·refine AQ.c (Calm.load 0 rfl rfl rfl (At.cast At.here rfl) ag27 sz27) ?_
    obtain ⟨t9, et9, hq8⟩ := of_bind hq8
    refine AQ.c (Calm.call (args := [(e27 p0)]) rfl rfl ok10 ⟨rfl, rfl, trivial⟩ rfl (bosketlaw17_Few_spec et9)) ?_
    refine AQ.c (Calm.not rfl rfl) ?_
    refine AQ.c (Calm.move rfl rfl) ?_
    rcases of_ite hq8 with ⟨hc10, hq8⟩ | ⟨hc10, hq8⟩
    ·refine AQ.sF rfl rfl (bD hc10) ?_
     refine AQ.sF rfl rfl (bD hc10) ?_
     refine AQ.sF rfl rfl (bD hc10) ?_
     refine AQ.c (Calm.pickT rfl (bD hc10) rfl) ?_
     refine AQ.c (Calm.move rfl rfl) ?_
     refine AQ.sF rfl rfl rfl ?_
     refine AQ.sF rfl rfl rfl ?_
     refine AQ.sF rfl rfl rfl ?_
     refine AQ.sF rfl rfl rfl ?_
     refine AQ.sF rfl rfl rfl ?_
     refine AQ.sF rfl rfl rfl ?_
     refine AQ.sF rfl rfl rfl ?_
     refine AQ.c (Calm.pickT rfl rfl rfl) ?_
     refine AQ.c (Calm.assign rfl rfl) ?_
     cases hq8
     refine AQ.nilE rfl ?_
     exact ⟨rfl, trivial⟩
    ·refine AQ.cG rfl rfl (bD (eq_false_of_ne_true hc10)) (Calm.load 1 rfl rfl rfl (At.cast At.here rfl) ag27 sz27) ?_
     obtain ⟨t11, et11, hq8⟩ := of_bind hq8
     refine AQ.cG rfl rfl (bD (eq_false_of_ne_true hc10)) (Calm.call (args := [(e27 p1)]) rfl rfl ok10 ⟨rfl, rfl, trivial⟩ rfl (bosketlaw17_Few_spec et11)) ?_
     refine AQ.cG rfl rfl (bD (eq_false_of_ne_true hc10)) (Calm.not rfl rfl) ?_
     refine AQ.c (Calm.pickF rfl (bD (eq_false_of_ne_true hc10)) rfl) ?_
     refine AQ.c (Calm.move rfl rfl) ?_
     rcases of_ite hq8 with ⟨hc12, hq8⟩ | ⟨hc12, hq8⟩
     ·refine AQ.sF rfl rfl (bD hc12) ?_
      refine AQ.sF rfl rfl (bD hc12) ?_
      refine AQ.sF rfl rfl (bD hc12) ?_
      refine AQ.sF rfl rfl (bD hc12) ?_
      refine AQ.sF rfl rfl (bD hc12) ?_
      refine AQ.sF rfl rfl (bD hc12) ?_
      refine AQ.sF rfl rfl (bD hc12) ?_
      refine AQ.c (Calm.pickT rfl (bD hc12) rfl) ?_
      refine AQ.c (Calm.assign rfl rfl) ?_
      cases hq8
      refine AQ.nilE rfl ?_
      exact ⟨rfl, trivial⟩
     ·refine AQ.cG rfl rfl (bD (eq_false_of_ne_true hc12)) (Calm.load 0 rfl rfl rfl (At.cast At.here rfl) ag27 sz27) ?_
      refine AQ.cG rfl rfl (bD (eq_false_of_ne_true hc12)) (Calm.load 1 rfl rfl rfl (At.cast At.here rfl) ag27 sz27) ?_
      obtain ⟨t13, et13, hq8⟩ := of_bind hq8
      refine AQ.cG rfl rfl (bD (eq_false_of_ne_true hc12)) (Calm.call (args := [(e27 p0), (e27 p1)]) rfl rfl ok12 ⟨rfl, rfl, rfl, rfl, trivial⟩ rfl (gram_Same_spec et13)) ?_
      refine AQ.cG rfl rfl (bD (eq_false_of_ne_true hc12)) (Calm.load 0 rfl rfl rfl (At.cast At.here rfl) ag27 sz27) ?_
      refine AQ.cG rfl rfl (bD (eq_false_of_ne_true hc12)) (Calm.load 1 rfl rfl rfl (At.cast At.here rfl) ag27 sz27) ?_
      obtain ⟨t14, et14, hq8⟩ := of_bind hq8
      refine AQ.cG rfl rfl (bD (eq_false_of_ne_true hc12)) (Calm.call (args := [(e27 p0), (e27 p1)]) rfl rfl ok13 ⟨rfl, rfl, rfl, rfl, trivial⟩ rfl (bosketref17_Same_spec et14)) ?_
      refine AQ.cG (x := eBool (t13 == t14)) rfl rfl (bD (eq_false_of_ne_true hc12)) (Calm.boolEq rfl rfl rfl Try.underlying4) ?_
      refine AQ.c (Calm.pickF rfl (bD (eq_false_of_ne_true hc12)) rfl) ?_
      refine AQ.c (Calm.assign rfl rfl) ?_
      cases hq8
      refine AQ.nilE rfl ?_
      exact ⟨rfl, trivial⟩
   ·refine AW.rH [4] (H' := []) (Sub.nil _) ?_
    have hr := Option.some.inj h
    subst hr
    exact ⟨[(eBool b7)], ⟨rfl, rfl, trivial⟩, rfl⟩
end Go.Avl.T7
/- bosket/nfa.Union; printed by avmain.py. -/
namespace Go.Avl.T7
open Go Go.RowKit Go.Proofs Go.Avl
set_option linter.unusedVariables false
set_option maxRecDepth 100000
set_option maxHeartbeats 4000000
attribute [local irreducible] AW AO AQ Spec SpecH Calm

end Go.Avl.T7
/- bosket/byteset.Count; printed by avmain.py. -/
namespace Go.Avl.T7
open Go Go.RowKit Go.Proofs Go.Avl
set_option linter.unusedVariables false
set_option maxRecDepth 100000
set_option maxHeartbeats 4000000
attribute [local irreducible] AW AO AQ Spec SpecH Calm

end Go.Avl.T7
/- bosket/dfa.gapless; printed by avmain.py. -/
namespace Go.Avl.T7
open Go Go.RowKit Go.Proofs Go.Avl
set_option linter.unusedVariables false
set_option maxRecDepth 100000
set_option maxHeartbeats 4000000
attribute [local irreducible] AW AO AQ Spec SpecH Calm

end Go.Avl.T7
/- bosket/dfa.Right; printed by avmain.py. -/
namespace Go.Avl.T7
open Go Go.RowKit Go.Proofs Go.Avl
set_option linter.unusedVariables false
set_option maxRecDepth 100000
set_option maxHeartbeats 4000000
attribute [local irreducible] AW AO AQ Spec SpecH Calm

end Go.Avl.T7
/- bosket/dfa.Alive; printed by avmain.py. -/
namespace Go.Avl.T7
open Go Go.RowKit Go.Proofs Go.Avl
set_option linter.unusedVariables false
set_option maxRecDepth 100000
set_option maxHeartbeats 4000000
attribute [local irreducible] AW AO AQ Spec SpecH Calm

end Go.Avl.T7
/- slices.Clone[[]int,int]; printed by avmain.py. -/
namespace Go.Avl.T7
open Go Go.RowKit Go.Proofs Go.Avl
set_option linter.unusedVariables false
set_option maxRecDepth 100000
set_option maxHeartbeats 4000000
attribute [local irreducible] AW AO AQ Spec SpecH Calm

end Go.Avl.T7
/- bosket/dfa.Trim; printed by avmain.py. -/
namespace Go.Avl.T7
open Go Go.RowKit Go.Proofs Go.Avl
set_option linter.unusedVariables false
set_option maxRecDepth 100000
set_option maxHeartbeats 4000000
set_option linter.unusedSimpArgs false
attribute [local irreducible] AW AO AQ Spec SpecH Calm

end Go.Avl.T7
/- bosket/dfa.Order; printed by avmain.py. -/
namespace Go.Avl.T7
open Go Go.RowKit Go.Proofs Go.Avl
set_option linter.unusedVariables false
set_option maxRecDepth 100000
set_option maxHeartbeats 4000000
set_option linter.unusedSimpArgs false
attribute [local irreducible] AW AO AQ Spec SpecH Calm

end Go.Avl.T7
/- bosket/mini.blocks; printed by avmain.py. -/
namespace Go.Avl.T7
open Go Go.RowKit Go.Proofs Go.Avl
set_option linter.unusedVariables false
set_option maxRecDepth 100000
set_option maxHeartbeats 4000000
attribute [local irreducible] AW AO AQ Spec SpecH Calm

end Go.Avl.T7
/- bosket/mini.word; printed by avmain.py. -/
namespace Go.Avl.T7
open Go Go.RowKit Go.Proofs Go.Avl
set_option linter.unusedVariables false
set_option maxRecDepth 100000
set_option maxHeartbeats 4000000
attribute [local irreducible] AW AO AQ Spec SpecH Calm

end Go.Avl.T7
/- bosket/mini.row; printed by avmain.py. -/
namespace Go.Avl.T7
open Go Go.RowKit Go.Proofs Go.Avl
set_option linter.unusedVariables false
set_option maxRecDepth 100000
set_option maxHeartbeats 4000000
attribute [local irreducible] AW AO AQ Spec SpecH Calm

end Go.Avl.T7
/- bosket/mini.split; printed by avmain.py. -/
namespace Go.Avl.T7
open Go Go.RowKit Go.Proofs Go.Avl
set_option linter.unusedVariables false
set_option maxRecDepth 100000
set_option maxHeartbeats 4000000
attribute [local irreducible] AW AO AQ Spec SpecH Calm

end Go.Avl.T7
/- bosket/mini.Blocks; printed by avmain.py. -/
namespace Go.Avl.T7
open Go Go.RowKit Go.Proofs Go.Avl
set_option linter.unusedVariables false
set_option maxRecDepth 100000
set_option maxHeartbeats 4000000
attribute [local irreducible] AW AO AQ Spec SpecH Calm

end Go.Avl.T7
/- bosket/mini.column; printed by avmain.py. -/
namespace Go.Avl.T7
open Go Go.RowKit Go.Proofs Go.Avl
set_option linter.unusedVariables false
set_option maxRecDepth 100000
set_option maxHeartbeats 4000000
attribute [local irreducible] AW AO AQ Spec SpecH Calm

end Go.Avl.T7
/- bosket/mini.classes; printed by avmain.py. -/
namespace Go.Avl.T7
open Go Go.RowKit Go.Proofs Go.Avl
set_option linter.unusedVariables false
set_option maxRecDepth 100000
set_option maxHeartbeats 4000000
attribute [local irreducible] AW AO AQ Spec SpecH Calm

end Go.Avl.T7
/- bosket/mini.Of; printed by avmain.py. -/
namespace Go.Avl.T7
open Go Go.RowKit Go.Proofs Go.Avl
set_option linter.unusedVariables false
set_option maxRecDepth 100000
set_option maxHeartbeats 4000000
set_option linter.unusedSimpArgs false
attribute [local irreducible] AW AO AQ Spec SpecH Calm

end Go.Avl.T7
/- bosket/rules.Machine; printed by avmain.py. -/
namespace Go.Avl.T7
open Go Go.RowKit Go.Proofs Go.Avl
set_option linter.unusedVariables false
set_option maxRecDepth 100000
set_option maxHeartbeats 4000000
attribute [local irreducible] AW AO AQ Spec SpecH Calm

end Go.Avl.T7
/- bosket/bosketref08.Step; printed by avmain.py. -/
namespace Go.Avl.T7
open Go Go.RowKit Go.Proofs Go.Avl
set_option linter.unusedVariables false
set_option maxRecDepth 100000
set_option maxHeartbeats 4000000
attribute [local irreducible] AW AO AQ Spec SpecH Calm

end Go.Avl.T7
/- bosket/bosketref08.Run; printed by avmain.py. -/
namespace Go.Avl.T7
open Go Go.RowKit Go.Proofs Go.Avl
set_option linter.unusedVariables false
set_option maxRecDepth 100000
set_option maxHeartbeats 4000000
attribute [local irreducible] AW AO AQ Spec SpecH Calm

end Go.Avl.T7
/- bosket/bosketref08.Mark; printed by avmain.py. -/
namespace Go.Avl.T7
open Go Go.RowKit Go.Proofs Go.Avl
set_option linter.unusedVariables false
set_option maxRecDepth 100000
set_option maxHeartbeats 4000000
attribute [local irreducible] AW AO AQ Spec SpecH Calm

end Go.Avl.T7
/- bosket/dfa.Reached; printed by avmain.py. -/
namespace Go.Avl.T7
open Go Go.RowKit Go.Proofs Go.Avl
set_option linter.unusedVariables false
set_option maxRecDepth 100000
set_option maxHeartbeats 4000000
attribute [local irreducible] AW AO AQ Spec SpecH Calm

end Go.Avl.T7
/- bosket/rules.Hidden; printed by avmain.py. -/
namespace Go.Avl.T7
open Go Go.RowKit Go.Proofs Go.Avl
set_option linter.unusedVariables false
set_option maxRecDepth 100000
set_option maxHeartbeats 4000000
attribute [local irreducible] AW AO AQ Spec SpecH Calm

end Go.Avl.T7
/- bosket/bosketlaw11.awake; printed by avmain.py. -/
namespace Go.Avl.T7
open Go Go.RowKit Go.Proofs Go.Avl
set_option linter.unusedVariables false
set_option maxRecDepth 100000
set_option maxHeartbeats 4000000
attribute [local irreducible] AW AO AQ Spec SpecH Calm

end Go.Avl.T7
