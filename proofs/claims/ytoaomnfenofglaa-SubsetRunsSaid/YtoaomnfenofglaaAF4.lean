/- Parts: T5f4. -/
import Derived.Test.YtoaomnfenofglaaAF1
import Derived.Test.YtoaomnfenofglaaAF3
import Derived.Test.YtoaomnfenofglaaAF2
/- bosket/bosketlaw07.SubsetRuns; printed by avmain.py. -/
namespace Go.Avl.T5
open Go Go.RowKit Go.Proofs Go.Avl
set_option linter.unusedVariables false
set_option maxRecDepth 100000
set_option maxHeartbeats 4000000
attribute [local irreducible] AW AO AQ Spec SpecH Calm

def bosketlaw07_SubsetRuns_c0 (k : Nat) (p0 : S24) (p1 : (List Int)) (p2 : ByteArray) (t15 : (S30 × Int)) (x20 : Int) : Option Bool :=
  Option.bind (α := Bool) (if t15.2 = (0 : Int) then (bosketref06_Run k p0 p2).bind fun t24 =>
  (bosketref07_Mark k p1 t24).bind fun t25 =>
  some (decide (x20 = t25))
  else some (false)) fun b21 =>
  some (b21)
def bosketlaw07_SubsetRuns_c1 (k : Nat) (p0 : S24) (p1 : (List Int)) (p2 : ByteArray) (t15 : (S30 × Int)) (x18 : Int) : Option Bool :=
  if (t15.1.f2.length : Int) ≤ x18 then some (false)
  else if (0 : Int) ≤ x18 then if 0 ≤ x18 ∧ x18 < (t15.1.f2.length : Int) then bosketlaw07_SubsetRuns_c0 k p0 p1 p2 t15 (lget t15.1.f2 x18)
  else none
  else bosketlaw07_SubsetRuns_c0 k p0 p1 p2 t15 (-1 : Int)
def bosketlaw07_SubsetRuns_l2 (k : Nat) (p0 : S24) (p1 : (List Int)) (p2 : ByteArray) (t15 : (S30 × Int)) : Nat → Int → Int → Option Bool
  | 0, _, _ => none
  | j + 1, x28, x29 =>
    Option.bind (α := Bool) (if x29 < (p2.size : Int) then some (decide ((0 : Int) ≤ x28))
    else some (false)) fun b32 =>
    if b32 = true then Option.bind (α := Bool) (if (t15.1.f1.length : Int) ≤ x28 then some (true)
    else if 0 ≤ x29 ∧ x29 < (p2.size : Int) then if 0 ≤ (byteAt p2 x29) ∧ (byteAt p2 x29) < (256 : Int) then if 0 ≤ x28 ∧ x28 < (t15.1.f1.length : Int) then some (decide (((lget t15.1.f1 x28).length : Int) ≤ (w64 (vget t15.1.f0 (byteAt p2 x29)))))
    else none
    else none
    else none) fun b36 =>
    if b36 = true then some (false)
    else if 0 ≤ x28 ∧ x28 < (t15.1.f1.length : Int) then if 0 ≤ x29 ∧ x29 < (p2.size : Int) then if 0 ≤ (byteAt p2 x29) ∧ (byteAt p2 x29) < (256 : Int) then if 0 ≤ (vget t15.1.f0 (byteAt p2 x29)) ∧ (vget t15.1.f0 (byteAt p2 x29)) < ((lget t15.1.f1 x28).length : Int) then (bosketlaw07_SubsetRuns_l2 k p0 p1 p2 t15 j) (lget (lget t15.1.f1 x28) (vget t15.1.f0 (byteAt p2 x29))) (w64 (x29 + (1 : Int)))
    else none
    else none
    else none
    else none
    else bosketlaw07_SubsetRuns_c1 k p0 p1 p2 t15 x28
def bosketlaw07_SubsetRuns (k : Nat) (p0 : S24) (p1 : (List Int)) (p2 : ByteArray) : Option Bool :=
  (bosketlaw07_awake k).bind fun t5 =>
  if (!t5) = true then some (false)
  else Option.bind (α := Bool) (if (12 : Int) < p0.f0 then some (true)
  else if (30 : Int) < (p0.f1.length : Int) then some (true)
  else if (40 : Int) < (p1.length : Int) then some (true)
  else if (30 : Int) < (p2.size : Int) then some (true)
  else (bosketref06_Right k p0).bind fun t13 =>
  some (!t13)) fun b7 =>
  if b7 = true then some (true)
  else (subset_Of k p0 p1).bind fun t15 =>
  if t15.2 = (6 : Int) then some (decide ((t15.1.f1.length : Int) = (0 : Int)))
  else bosketlaw07_SubsetRuns_l2 k p0 p1 p2 t15 k (0 : Int) (0 : Int)
theorem bosketlaw07_SubsetRuns_spec {k : Nat} {p0 : S24} {p1 : (List Int)} {p2 : ByteArray} {r : Bool} (h : bosketlaw07_SubsetRuns k p0 p1 p2 = some r) : Spec Try.prog 4 [(e24 p0), (.fz 1 (p1.map eI64)), (eStr p2)] (eBool r) := by
  rw [bosketlaw07_SubsetRuns.eq_1] at h
  refine Spec.intro (res := [.tmp 6]) Try.func4 rfl rfl rfl (Nat.le_of_ble_eq_true rfl) ?_
  refine AW.sr ?_
  refine AO.box rfl 3 rfl (by decide) rfl rfl rfl fun n4 => ?_
  refine AO.c (Calm.assign rfl rfl) ?_
  refine AO.nK [1, 2, 3] ?_
  refine AW.seq ?_
  refine AW.sr ?_
  obtain ⟨t5, et5, h⟩ := of_bind h
  refine AO.callS [] (eBool t5) 12 rfl (by decide) ok12 rfl rfl rfl trivial (bosketlaw07_awake_spec et5) ?_
  refine AO.c (Calm.not rfl rfl) ?_
  refine AO.nK [1, 2, 3, 13] ?_
  rcases of_ite h with ⟨hc6, h⟩ | ⟨hc6, h⟩
  ·refine AW.condT' _ rfl hc6 ?_
   refine AW.sr ?_
   refine AO.c (Calm.assign rfl rfl) ?_
   refine AO.nH [6] (H' := []) (Sub.nil _) ?_
   refine AW.rK [6] ?_
   have hr := Option.some.inj h
   subst hr
   exact ⟨[(eBool false)], ⟨rfl, rfl, trivial⟩, rfl⟩
  ·refine AW.condF' _ rfl hc6 ?_
   refine AW.sK [1, 2, 3] ?_
   refine AW.seq ?_
   refine AW.seq ?_
   obtain ⟨b7, hq8, h⟩ := of_bind h
   refine AW.regM [(1, (.fz 1 (p1.map eI64))), (2, (eStr p2)), (3, (.ptr n4 0)), (37, (eBool b7))] [(n4, (.mem (e24 p0)))] ?_ ?_
   ·refine AO.c (x := .ptr n4 0) (Calm.fldPtr rfl rfl Try.underlying24 rfl sz3 _ rfl) ?_
    refine AO.c (Calm.load 0 rfl rfl rfl (At.cast (At.fld0 At.here) rfl) ag3 sz3) ?_
    refine AO.c (x := eBool (decide ((12 : Int) < p0.f0))) (Calm.int rfl rfl rfl rfl) ?_
    refine AO.c (Calm.move rfl rfl) ?_
    rcases of_ite hq8 with ⟨hc9, hq8⟩ | ⟨hc9, hq8⟩
    ·refine AO.sF rfl rfl (bD (decide_eq_true hc9)) ?_
     refine AO.sF rfl rfl (bD (decide_eq_true hc9)) ?_
     refine AO.sF rfl rfl (bD (decide_eq_true hc9)) ?_
     refine AO.sF rfl rfl (bD (decide_eq_true hc9)) ?_
     refine AO.c (Calm.pickT rfl (bD (decide_eq_true hc9)) rfl) ?_
     refine AO.c (Calm.move rfl rfl) ?_
     refine AO.sF rfl rfl rfl ?_
     refine AO.sF rfl rfl rfl ?_
     refine AO.sF rfl rfl rfl ?_
     refine AO.c (Calm.pickT rfl rfl rfl) ?_
     refine AO.c (Calm.move rfl rfl) ?_
     refine AO.sF rfl rfl rfl ?_
     refine AO.sF rfl rfl rfl ?_
     refine AO.sF rfl rfl rfl ?_
     refine AO.c (Calm.pickT rfl rfl rfl) ?_
     refine AO.c (Calm.move rfl rfl) ?_
     refine AO.sF rfl rfl rfl ?_
     refine AO.sF rfl rfl rfl ?_
     refine AO.sF rfl rfl rfl ?_
     refine AO.c (Calm.pickT rfl rfl rfl) ?_
     cases hq8
     refine AO.nilE ⟨rfl, rfl⟩ ?_ ?_
     · exact ⟨rfl, rfl, rfl, rfl, trivial⟩
     · exact (Sub.refl _)
    ·refine AO.cG (x := .ptr n4 1) rfl rfl (bD (decide_eq_false hc9)) (Calm.fldPtr rfl rfl Try.underlying24 rfl sz22 _ rfl) ?_
     refine AO.cG rfl rfl (bD (decide_eq_false hc9)) (Calm.load 0 rfl rfl rfl (At.cast (At.fldS (At.fld0 At.here)) rfl) ag22 sz22) ?_
     refine AO.cG rfl rfl (bD (decide_eq_false hc9)) (Calm.lenL rfl rfl Try.underlying22) ?_
     refine AO.cG (x := eBool (decide ((30 : Int) < (p0.f1.length : Int)))) rfl rfl (bD (decide_eq_false hc9)) (Calm.int rfl rfl rfl rfl) ?_
     refine AO.c (Calm.pickF rfl (bD (decide_eq_false hc9)) rfl) ?_
     refine AO.c (Calm.move rfl rfl) ?_
     rcases of_ite hq8 with ⟨hc10, hq8⟩ | ⟨hc10, hq8⟩
     ·refine AO.sF rfl rfl (bD (decide_eq_true hc10)) ?_
      refine AO.sF rfl rfl (bD (decide_eq_true hc10)) ?_
      refine AO.sF rfl rfl (bD (decide_eq_true hc10)) ?_
      refine AO.c (Calm.pickT rfl (bD (decide_eq_true hc10)) rfl) ?_
      refine AO.c (Calm.move rfl rfl) ?_
      refine AO.sF rfl rfl rfl ?_
      refine AO.sF rfl rfl rfl ?_
      refine AO.sF rfl rfl rfl ?_
      refine AO.c (Calm.pickT rfl rfl rfl) ?_
      refine AO.c (Calm.move rfl rfl) ?_
      refine AO.sF rfl rfl rfl ?_
      refine AO.sF rfl rfl rfl ?_
      refine AO.sF rfl rfl rfl ?_
      refine AO.c (Calm.pickT rfl rfl rfl) ?_
      cases hq8
      refine AO.nilE ⟨rfl, rfl⟩ ?_ ?_
      · exact ⟨rfl, rfl, rfl, rfl, trivial⟩
      · exact (Sub.refl _)
     ·refine AO.cG rfl rfl (bD (decide_eq_false hc10)) (Calm.move rfl rfl) ?_
      refine AO.cG rfl rfl (bD (decide_eq_false hc10)) (Calm.lenL rfl rfl Try.underlying25) ?_
      refine AO.cG (x := eBool (decide ((40 : Int) < (p1.length : Int)))) rfl rfl (bD (decide_eq_false hc10)) (Calm.int rfl rfl rfl rfl) ?_
      refine AO.c (Calm.pickF rfl (bD (decide_eq_false hc10)) rfl) ?_
      refine AO.c (Calm.move rfl rfl) ?_
      rcases of_ite hq8 with ⟨hc11, hq8⟩ | ⟨hc11, hq8⟩
      ·refine AO.sF rfl rfl (bD (decide_eq_true hc11)) ?_
       refine AO.sF rfl rfl (bD (decide_eq_true hc11)) ?_
       refine AO.sF rfl rfl (bD (decide_eq_true hc11)) ?_
       refine AO.c (Calm.pickT rfl (bD (decide_eq_true hc11)) rfl) ?_
       refine AO.c (Calm.move rfl rfl) ?_
       refine AO.sF rfl rfl rfl ?_
       refine AO.sF rfl rfl rfl ?_
       refine AO.sF rfl rfl rfl ?_
       refine AO.c (Calm.pickT rfl rfl rfl) ?_
       cases hq8
       refine AO.nilE ⟨rfl, rfl⟩ ?_ ?_
       · exact ⟨rfl, rfl, rfl, rfl, trivial⟩
       · exact (Sub.refl _)
      ·refine AO.cG rfl rfl (bD (decide_eq_false hc11)) (Calm.move rfl rfl) ?_
       refine AO.cG rfl rfl (bD (decide_eq_false hc11)) (Calm.lenStr rfl rfl Try.underlying9) ?_
       refine AO.cG (x := eBool (decide ((30 : Int) < (p2.size : Int)))) rfl rfl (bD (decide_eq_false hc11)) (Calm.int rfl rfl rfl rfl) ?_
       refine AO.c (Calm.pickF rfl (bD (decide_eq_false hc11)) rfl) ?_
       refine AO.c (Calm.move rfl rfl) ?_
       rcases of_ite hq8 with ⟨hc12, hq8⟩ | ⟨hc12, hq8⟩
       ·refine AO.sF rfl rfl (bD (decide_eq_true hc12)) ?_
        refine AO.sF rfl rfl (bD (decide_eq_true hc12)) ?_
        refine AO.sF rfl rfl (bD (decide_eq_true hc12)) ?_
        refine AO.c (Calm.pickT rfl (bD (decide_eq_true hc12)) rfl) ?_
        cases hq8
        refine AO.nilE ⟨rfl, rfl⟩ ?_ ?_
        · exact ⟨rfl, rfl, rfl, rfl, trivial⟩
        · exact (Sub.refl _)
       ·refine AO.cG rfl rfl (bD (decide_eq_false hc12)) (Calm.load 0 rfl rfl rfl (At.cast At.here rfl) ag24 sz24) ?_
        obtain ⟨t13, et13, hq8⟩ := of_bind hq8
        refine AO.callG 19 false 33 [(e24 p0)] (eBool t13) 35 rfl (by decide) ok14 rfl rfl (bD (decide_eq_false hc12)) rfl rfl ⟨rfl, rfl, trivial⟩ (bosketref06_Right_spec et13) ?_
        refine AO.cG rfl rfl (bD (decide_eq_false hc12)) (Calm.not rfl rfl) ?_
        refine AO.c (Calm.pickF rfl (bD (decide_eq_false hc12)) rfl) ?_
        cases hq8
        refine AO.nilE ⟨rfl, rfl⟩ ?_ ?_
        · exact ⟨rfl, rfl, rfl, rfl, trivial⟩
        · exact (Sub.refl _)
   ·rcases of_ite h with ⟨hc14, h⟩ | ⟨hc14, h⟩
    ·refine AW.condT' _ rfl hc14 ?_
     refine AW.sr ?_
     refine AO.c (Calm.assign rfl rfl) ?_
     refine AO.nH [6] (H' := []) (Sub.nil _) ?_
     refine AW.rK [6] ?_
     have hr := Option.some.inj h
     subst hr
     exact ⟨[(eBool true)], ⟨rfl, rfl, trivial⟩, rfl⟩
    ·refine AW.condF' _ rfl hc14 ?_
     refine AW.sK [1, 2, 3] ?_
     refine AW.sr ?_
     refine AO.c (Calm.load 0 rfl rfl rfl (At.cast At.here rfl) ag24 sz24) ?_
     refine AO.c (Calm.move rfl rfl) ?_
     obtain ⟨t15, et15, h⟩ := of_bind h
     refine AO.callS [(e24 p0), (.fz 1 (p1.map eI64))] (.tup [(e30 t15.1), (eI64 t15.2)]) 41 rfl (by decide) ok13 rfl rfl rfl ⟨rfl, rfl, rfl, rfl, trivial⟩ (subset_Of_spec et15) ?_
     refine AO.c (Calm.move rfl rfl) ?_
     refine AO.c (Calm.extract rfl rfl rfl) ?_
     refine AO.c (Calm.extract rfl rfl rfl) ?_
     refine AO.alloc rfl 7 rfl (by decide) rfl zr30 lay30 fun n16 => ?_
     refine AO.store (X' := (e30 t15.1)) 0 rfl rfl rfl rfl rfl rfl (Put.cast Put.here rfl) rfl rfl sz30 rfl ?_
     refine AO.c (Calm.assign rfl rfl) ?_
     refine AO.nH [1, 2, 3, 7, 8] (H' := [(n4, (.mem (e24 p0))), (n16, (.mem (e30 t15.1)))]) (Sub.cons 1 rfl (Sub.cons 0 rfl (Sub.nil _))) ?_
     refine AW.seq ?_
     refine AW.sr ?_
     refine AO.c (Calm.move rfl rfl) ?_
     refine AO.c (x := eBool (decide (t15.2 = (6 : Int)))) (Calm.int rfl rfl rfl rfl) ?_
     refine AO.nK [1, 2, 3, 7, 8, 45] ?_
     rcases of_ite h with ⟨hc17, h⟩ | ⟨hc17, h⟩
     ·refine AW.condP _ rfl hc17 ?_
      refine AW.sr ?_
      refine AO.c (x := .ptr n16 256) (Calm.fldPtr rfl rfl Try.underlying30 rfl sz28 _ rfl) ?_
      refine AO.c (Calm.load 1 rfl rfl rfl (At.cast (At.fldS (At.fld0 At.here)) rfl) ag28 sz28) ?_
      refine AO.c (Calm.lenL rfl rfl Try.underlying28) ?_
      refine AO.c (x := eBool (decide ((t15.1.f1.length : Int) = (0 : Int)))) (Calm.int rfl rfl rfl rfl) ?_
      refine AO.c (Calm.assign rfl rfl) ?_
      refine AO.nH [6] (H' := []) (Sub.nil _) ?_
      refine AW.rK [6] ?_
      have hr := Option.some.inj h
      subst hr
      exact ⟨[(eBool (decide ((t15.1.f1.length : Int) = (0 : Int))))], ⟨rfl, rfl, trivial⟩, rfl⟩
     ·refine AW.condN _ rfl hc17 ?_
      refine AW.sK [1, 2, 3, 7, 8] ?_
      refine AW.sr ?_
      refine AO.c (Calm.assign rfl rfl) ?_
      refine AO.nK [1, 2, 3, 7, 8, 9] ?_
      refine AW.seq_mid (fun ρ H => ∃ (x18 : Int), ρ = [(1, (.fz 1 (p1.map eI64))), (2, (eStr p2)), (3, (.ptr n4 0)), (7, (.ptr n16 0)), (8, (eI64 t15.2)), (9, (eI64 x18))] ∧ H = [(n4, (.mem (e24 p0))), (n16, (.mem (e30 t15.1)))] ∧ bosketlaw07_SubsetRuns_c1 k p0 p1 p2 t15 x18 = some r) ?_ ?_
      ·refine AW.sr ?_
       refine AO.c (Calm.assign rfl rfl) ?_
       refine AO.nK [1, 2, 3, 7, 8, 9, 10] ?_
       refine AW.block ?_
       refine AW.wK [1, 2, 3, 7, 8, 9, 10] ?_
       refine AW.loop (fun kq ρ H => ∃ (x28 : Int) (x29 : Int), ρ = [(1, (.fz 1 (p1.map eI64))), (2, (eStr p2)), (3, (.ptr n4 0)), (7, (.ptr n16 0)), (8, (eI64 t15.2)), (9, (eI64 x28)), (10, (eI64 x29))] ∧ H = [(n4, (.mem (e24 p0))), (n16, (.mem (e30 t15.1)))] ∧ bosketlaw07_SubsetRuns_l2 k p0 p1 p2 t15 kq x28 x29 = some r) k ⟨(0 : Int), (0 : Int), rfl, rfl, h⟩ ?_
       rintro kq31 _ _ ⟨x28, x29, rfl, rfl, h⟩
       cases kq31 with
       | zero => rw [bosketlaw07_SubsetRuns_l2.eq_1] at h; cases h
       | succ kq31 =>
       rw [bosketlaw07_SubsetRuns_l2.eq_2] at h
       generalize hrec30 : bosketlaw07_SubsetRuns_l2 k p0 p1 p2 t15 kq31 = rec30 at h
       refine AW.seq ?_
       refine AW.seq ?_
       obtain ⟨b32, hq33, h⟩ := of_bind h
       refine AW.regM [(1, (.fz 1 (p1.map eI64))), (2, (eStr p2)), (3, (.ptr n4 0)), (7, (.ptr n16 0)), (8, (eI64 t15.2)), (9, (eI64 x28)), (10, (eI64 x29)), (57, (eBool b32))] [(n4, (.mem (e24 p0))), (n16, (.mem (e30 t15.1)))] ?_ ?_
       ·refine AO.c (Calm.move rfl rfl) ?_
        refine AO.c (Calm.move rfl rfl) ?_
        refine AO.c (Calm.lenStr rfl rfl Try.underlying9) ?_
        refine AO.c (x := eBool (decide (x29 < (p2.size : Int)))) (Calm.int rfl rfl rfl rfl) ?_
        refine AO.c (Calm.move rfl rfl) ?_
        rcases of_ite hq33 with ⟨hc34, hq33⟩ | ⟨hc34, hq33⟩
        ·refine AO.cG rfl rfl (bD (decide_eq_true hc34)) (Calm.move rfl rfl) ?_
         refine AO.cG (x := eBool (decide ((0 : Int) ≤ x28))) rfl rfl (bD (decide_eq_true hc34)) (Calm.int rfl rfl rfl rfl) ?_
         refine AO.c (Calm.pickT rfl (bD (decide_eq_true hc34)) rfl) ?_
         cases hq33
         refine AO.nilE ⟨rfl, rfl⟩ ?_ ?_
         · exact ⟨rfl, rfl, rfl, rfl, rfl, rfl, rfl, rfl, trivial⟩
         · exact (Sub.refl _)
        ·refine AO.sT rfl rfl (bD (decide_eq_false hc34)) ?_
         refine AO.sT rfl rfl (bD (decide_eq_false hc34)) ?_
         refine AO.c (Calm.pickF rfl (bD (decide_eq_false hc34)) rfl) ?_
         cases hq33
         refine AO.nilE ⟨rfl, rfl⟩ ?_ ?_
         · exact ⟨rfl, rfl, rfl, rfl, rfl, rfl, rfl, rfl, trivial⟩
         · exact (Sub.refl _)
       ·rcases of_ite h with ⟨hc35, h⟩ | ⟨hc35, h⟩
        ·refine AW.condT' _ rfl hc35 ?_
         refine AW.sK [1, 2, 3, 7, 8, 9, 10] ?_
         refine AW.seq ?_
         refine AW.block ?_
         refine AW.seq ?_
         refine AW.seq ?_
         obtain ⟨b36, hq37, h⟩ := of_bind h
         refine AW.regQM (by rfl) (by decide +kernel) [(1, (.fz 1 (p1.map eI64))), (2, (eStr p2)), (3, (.ptr n4 0)), (7, (.ptr n16 0)), (8, (eI64 t15.2)), (9, (eI64 x28)), (10, (eI64 x29)), (80, (eBool b36))] ?_ ?_
         ·refine AQ.c (Calm.move rfl rfl) ?_
          refine AQ.c (x := .ptr n16 256) (Calm.fldPtr rfl rfl Try.underlying30 rfl sz28 _ rfl) ?_
          refine AQ.c (Calm.load 1 rfl rfl rfl (At.cast (At.fldS (At.fld0 At.here)) rfl) ag28 sz28) ?_
          refine AQ.c (Calm.lenL rfl rfl Try.underlying28) ?_
          refine AQ.c (x := eBool (decide ((t15.1.f1.length : Int) ≤ x28))) (Calm.int rfl rfl rfl rfl) ?_
          refine AQ.c (Calm.move rfl rfl) ?_
          rcases of_ite hq37 with ⟨hc38, hq37⟩ | ⟨hc38, hq37⟩
          ·refine AQ.sF rfl rfl (bD (decide_eq_true hc38)) ?_
           refine AQ.sF rfl rfl (bD (decide_eq_true hc38)) ?_
           refine AQ.sF rfl rfl (bD (decide_eq_true hc38)) ?_
           refine AQ.sF rfl rfl (bD (decide_eq_true hc38)) ?_
           refine AQ.sF rfl rfl (bD (decide_eq_true hc38)) ?_
           refine AQ.sF rfl rfl (bD (decide_eq_true hc38)) ?_
           refine AQ.sF rfl rfl (bD (decide_eq_true hc38)) ?_
           refine AQ.sF rfl rfl (bD (decide_eq_true hc38)) ?_
           refine AQ.sF rfl rfl (bD (decide_eq_true hc38)) ?_
           refine AQ.sF rfl rfl (bD (decide_eq_true hc38)) ?_
           refine AQ.sF rfl rfl (bD (decide_eq_true hc38)) ?_
           refine AQ.sF rfl rfl (bD (decide_eq_true hc38)) ?_
           refine AQ.sF rfl rfl (bD (decide_eq_true hc38)) ?_
           refine AQ.sF rfl rfl (bD (decide_eq_true hc38)) ?_
           refine AQ.c (Calm.pickT rfl (bD (decide_eq_true hc38)) rfl) ?_
           cases hq37
           refine AQ.nilE rfl ?_
           exact ⟨rfl, rfl, rfl, rfl, rfl, rfl, rfl, rfl, trivial⟩
          ·refine AQ.cG rfl rfl (bD (decide_eq_false hc38)) (Calm.move rfl rfl) ?_
           refine AQ.cG rfl rfl (bD (decide_eq_false hc38)) (Calm.move rfl rfl) ?_
           obtain ⟨hg39, hq37⟩ := of_guard hq37
           refine AQ.cG (x := eU8 (byteAt p2 x29)) rfl rfl (bD (decide_eq_false hc38)) (Calm.idxS rfl rfl rfl hg39 Try.underlying9) ?_
           refine AQ.cG (x := .ptr n16 0) rfl rfl (bD (decide_eq_false hc38)) (Calm.fldPtr rfl rfl Try.underlying30 rfl sz27 _ rfl) ?_
           obtain ⟨hg40, hq37⟩ := of_guard hq37
           refine AQ.cG rfl rfl (bD (decide_eq_false hc38)) (Calm.idxP rfl rfl rfl hg40 Try.underlying27 sz5) ?_
           refine AQ.cG rfl rfl (bD (decide_eq_false hc38)) (Calm.load 1 rfl rfl rfl (At.cast (At.fld0 (At.vidx (byteAt p2 x29) hg40.1 hg40.2 At.here)) (by omega)) ag5 sz5) ?_
           refine AQ.cG (x := eI64 (w64 (vget t15.1.f0 (byteAt p2 x29)))) rfl rfl (bD (decide_eq_false hc38)) (Calm.conv rfl rfl Try.underlying5 Try.underlying3) ?_
           refine AQ.cG (x := .ptr n16 256) rfl rfl (bD (decide_eq_false hc38)) (Calm.fldPtr rfl rfl Try.underlying30 rfl sz28 _ rfl) ?_
           refine AQ.cG rfl rfl (bD (decide_eq_false hc38)) (Calm.load 1 rfl rfl rfl (At.cast (At.fldS (At.fld0 At.here)) rfl) ag28 sz28) ?_
           refine AQ.cG rfl rfl (bD (decide_eq_false hc38)) (Calm.move rfl rfl) ?_
           obtain ⟨hg41, hq37⟩ := of_guard hq37
           refine AQ.cG rfl rfl (bD (decide_eq_false hc38)) (Calm.idxL (f := e25) rfl rfl rfl hg41 Try.underlying28 sz25) ?_
           refine AQ.cG rfl rfl (bD (decide_eq_false hc38)) (Calm.loadRp rfl rfl ag25 sz25) ?_
           refine AQ.cG rfl rfl (bD (decide_eq_false hc38)) (Calm.lenL rfl rfl Try.underlying25) ?_
           refine AQ.cG (x := eBool (decide (((lget t15.1.f1 x28).length : Int) ≤ (w64 (vget t15.1.f0 (byteAt p2 x29)))))) rfl rfl (bD (decide_eq_false hc38)) (Calm.int rfl rfl rfl rfl) ?_
           refine AQ.c (Calm.pickF rfl (bD (decide_eq_false hc38)) rfl) ?_
           cases hq37
           refine AQ.nilE rfl ?_
           exact ⟨rfl, rfl, rfl, rfl, rfl, rfl, rfl, rfl, trivial⟩
         ·rcases of_ite h with ⟨hc42, h⟩ | ⟨hc42, h⟩
          ·refine AW.condT' _ rfl hc42 ?_
           refine AW.sr ?_
           refine AO.c (Calm.assign rfl rfl) ?_
           refine AO.nH [6] (H' := []) (Sub.nil _) ?_
           refine AW.rK [6] ?_
           have hr := Option.some.inj h
           subst hr
           exact ⟨[(eBool false)], ⟨rfl, rfl, trivial⟩, rfl⟩
          ·refine AW.condF' _ rfl hc42 ?_
           refine AW.sK [1, 2, 3, 7, 8, 9, 10] ?_
           refine AW.regQ (by rfl) (by decide +kernel) ?_
           refine AQ.c (x := .ptr n16 256) (Calm.fldPtr rfl rfl Try.underlying30 rfl sz28 _ rfl) ?_
           refine AQ.c (Calm.load 1 rfl rfl rfl (At.cast (At.fldS (At.fld0 At.here)) rfl) ag28 sz28) ?_
           refine AQ.c (Calm.move rfl rfl) ?_
           obtain ⟨hg43, h⟩ := of_guard h
           refine AQ.c (Calm.idxL (f := e25) rfl rfl rfl hg43 Try.underlying28 sz25) ?_
           refine AQ.c (Calm.loadRp rfl rfl ag25 sz25) ?_
           refine AQ.c (Calm.move rfl rfl) ?_
           refine AQ.c (Calm.move rfl rfl) ?_
           obtain ⟨hg44, h⟩ := of_guard h
           refine AQ.c (x := eU8 (byteAt p2 x29)) (Calm.idxS rfl rfl rfl hg44 Try.underlying9) ?_
           refine AQ.c (x := .ptr n16 0) (Calm.fldPtr rfl rfl Try.underlying30 rfl sz27 _ rfl) ?_
           obtain ⟨hg45, h⟩ := of_guard h
           refine AQ.c (Calm.idxP rfl rfl rfl hg45 Try.underlying27 sz5) ?_
           refine AQ.c (Calm.load 1 rfl rfl rfl (At.cast (At.fld0 (At.vidx (byteAt p2 x29) hg45.1 hg45.2 At.here)) (by omega)) ag5 sz5) ?_
           obtain ⟨hg46, h⟩ := of_guard h
           refine AQ.c (Calm.idxL (f := eI64) rfl rfl rfl hg46 Try.underlying25 sz3) ?_
           refine AQ.c (Calm.loadRp rfl rfl ag3 sz3) ?_
           refine AQ.c (Calm.assign rfl rfl) ?_
           refine AQ.nK [1, 2, 3, 7, 8, 9, 10] ?_
           refine AW.reg ?_
           refine AO.c (Calm.move rfl rfl) ?_
           refine AO.c (x := eI64 (w64 (x29 + (1 : Int)))) (Calm.int rfl rfl rfl rfl) ?_
           refine AO.c (Calm.assign rfl rfl) ?_
           refine AO.nK [1, 2, 3, 7, 8, 9, 10] ?_
           exact ⟨kq31, Nat.lt_succ_self _, (lget (lget t15.1.f1 x28) (vget t15.1.f0 (byteAt p2 x29))), (w64 (x29 + (1 : Int))), rfl, rfl, by rw [hrec30]; exact h⟩
        ·refine AW.condF' _ rfl hc35 ?_
         refine AW.eK [1, 2, 3, 7, 8, 9] ?_
         exact ⟨x28, rfl, rfl, h⟩
      ·rintro _ _ ⟨x18, rfl, rfl, h⟩
       rw [bosketlaw07_SubsetRuns_c1.eq_1] at h
       refine AW.sr ?_
       refine AO.c (Calm.assign rfl rfl) ?_
       refine AO.nK [1, 2, 3, 7, 8, 9, 11] ?_
       refine AW.seq ?_
       refine AW.sr ?_
       refine AO.c (Calm.move rfl rfl) ?_
       refine AO.c (x := .ptr n16 257) (Calm.fldPtr rfl rfl Try.underlying30 rfl sz25 _ rfl) ?_
       refine AO.c (Calm.load 1 rfl rfl rfl (At.cast (At.fldS (At.fldS (At.fld0 At.here))) rfl) ag25 sz25) ?_
       refine AO.c (Calm.lenL rfl rfl Try.underlying25) ?_
       refine AO.c (x := eBool (decide ((t15.1.f2.length : Int) ≤ x18))) (Calm.int rfl rfl rfl rfl) ?_
       refine AO.nK [1, 2, 3, 7, 8, 9, 11, 98] ?_
       rcases of_ite h with ⟨hc19, h⟩ | ⟨hc19, h⟩
       ·refine AW.condP _ rfl hc19 ?_
        refine AW.sr ?_
        refine AO.c (Calm.assign rfl rfl) ?_
        refine AO.nH [6] (H' := []) (Sub.nil _) ?_
        refine AW.rK [6] ?_
        have hr := Option.some.inj h
        subst hr
        exact ⟨[(eBool false)], ⟨rfl, rfl, trivial⟩, rfl⟩
       ·refine AW.condN _ rfl hc19 ?_
        refine AW.sK [1, 2, 3, 7, 8, 9, 11] ?_
        refine AW.seq_mid (fun ρ H => ∃ (x20 : Int), ρ = [(1, (.fz 1 (p1.map eI64))), (2, (eStr p2)), (3, (.ptr n4 0)), (8, (eI64 t15.2)), (11, (eI64 x20))] ∧ H = [(n4, (.mem (e24 p0)))] ∧ bosketlaw07_SubsetRuns_c0 k p0 p1 p2 t15 x20 = some r) ?_ ?_
        ·refine AW.sr ?_
         refine AO.c (Calm.move rfl rfl) ?_
         refine AO.c (x := eBool (decide ((0 : Int) ≤ x18))) (Calm.int rfl rfl rfl rfl) ?_
         refine AO.nK [1, 2, 3, 7, 8, 9, 11, 100] ?_
         rcases of_ite h with ⟨hc26, h⟩ | ⟨hc26, h⟩
         ·refine AW.condP _ rfl hc26 ?_
          refine AW.reg ?_
          refine AO.c (x := .ptr n16 257) (Calm.fldPtr rfl rfl Try.underlying30 rfl sz25 _ rfl) ?_
          refine AO.c (Calm.load 1 rfl rfl rfl (At.cast (At.fldS (At.fldS (At.fld0 At.here))) rfl) ag25 sz25) ?_
          refine AO.c (Calm.move rfl rfl) ?_
          obtain ⟨hg27, h⟩ := of_guard h
          refine AO.c (Calm.idxL (f := eI64) rfl rfl rfl hg27 Try.underlying25 sz3) ?_
          refine AO.c (Calm.loadRp rfl rfl ag3 sz3) ?_
          refine AO.c (Calm.assign rfl rfl) ?_
          refine AO.nH [1, 2, 3, 8, 11] (H' := [(n4, (.mem (e24 p0)))]) (Sub.cons 0 rfl (Sub.nil _)) ?_
          exact ⟨(lget t15.1.f2 x18), rfl, rfl, h⟩
         ·refine AW.condN _ rfl hc26 ?_
          refine AW.sH [1, 2, 3, 8, 11] (H' := [(n4, (.mem (e24 p0)))]) (Sub.cons 0 rfl (Sub.nil _)) ?_
          exact ⟨(-1 : Int), rfl, rfl, h⟩
        ·rintro _ _ ⟨x20, rfl, rfl, h⟩
         rw [bosketlaw07_SubsetRuns_c0.eq_1] at h
         refine AW.seq ?_
         obtain ⟨b21, hq22, h⟩ := of_bind h
         refine AW.regM [(6, (eBool b21))] [] ?_ ?_
         ·refine AO.c (Calm.move rfl rfl) ?_
          refine AO.c (x := eBool (decide (t15.2 = (0 : Int)))) (Calm.int rfl rfl rfl rfl) ?_
          refine AO.c (Calm.move rfl rfl) ?_
          rcases of_ite hq22 with ⟨hc23, hq22⟩ | ⟨hc23, hq22⟩
          ·refine AO.cG rfl rfl (bD (decide_eq_true hc23)) (Calm.move rfl rfl) ?_
           refine AO.cG rfl rfl (bD (decide_eq_true hc23)) (Calm.move rfl rfl) ?_
           refine AO.cG rfl rfl (bD (decide_eq_true hc23)) (Calm.load 0 rfl rfl rfl (At.cast At.here rfl) ag24 sz24) ?_
           refine AO.cG rfl rfl (bD (decide_eq_true hc23)) (Calm.move rfl rfl) ?_
           obtain ⟨t24, et24, hq22⟩ := of_bind hq22
           refine AO.callG 2 true 108 [(e24 p0), (eStr p2)] (.fz 1 (t24.map eBool)) 113 rfl (by decide) ok21 rfl rfl (bD (decide_eq_true hc23)) rfl rfl ⟨rfl, rfl, rfl, rfl, trivial⟩ (bosketref06_Run_spec et24) ?_
           obtain ⟨t25, et25, hq22⟩ := of_bind hq22
           refine AO.callG 2 true 108 [(.fz 1 (p1.map eI64)), (.fz 1 (t24.map eBool))] (eI64 t25) 114 rfl (by decide) ok20 rfl rfl (bD (decide_eq_true hc23)) rfl rfl ⟨rfl, rfl, rfl, rfl, trivial⟩ (bosketref07_Mark_spec et25) ?_
           refine AO.cG (x := eBool (decide (x20 = t25))) rfl rfl (bD (decide_eq_true hc23)) (Calm.int rfl rfl rfl rfl) ?_
           refine AO.c (Calm.pickT rfl (bD (decide_eq_true hc23)) rfl) ?_
           refine AO.c (Calm.assign rfl rfl) ?_
           cases hq22
           refine AO.nilE ⟨rfl, rfl⟩ ?_ ?_
           · exact ⟨rfl, trivial⟩
           · exact (Sub.nil _)
          ·refine AO.sT rfl rfl (bD (decide_eq_false hc23)) ?_
           refine AO.sT rfl rfl (bD (decide_eq_false hc23)) ?_
           refine AO.sT rfl rfl (bD (decide_eq_false hc23)) ?_
           refine AO.sT rfl rfl (bD (decide_eq_false hc23)) ?_
           refine AO.sT rfl rfl (bD (decide_eq_false hc23)) ?_
           refine AO.sT rfl rfl (bD (decide_eq_false hc23)) ?_
           refine AO.sT rfl rfl (bD (decide_eq_false hc23)) ?_
           refine AO.c (Calm.pickF rfl (bD (decide_eq_false hc23)) rfl) ?_
           refine AO.c (Calm.assign rfl rfl) ?_
           cases hq22
           refine AO.nilE ⟨rfl, rfl⟩ ?_ ?_
           · exact ⟨rfl, trivial⟩
           · exact (Sub.nil _)
         ·refine AW.rK [6] ?_
          have hr := Option.some.inj h
          subst hr
          exact ⟨[(eBool b21)], ⟨rfl, rfl, trivial⟩, rfl⟩
end Go.Avl.T5
