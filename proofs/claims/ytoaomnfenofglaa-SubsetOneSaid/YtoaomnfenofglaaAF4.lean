/- Parts: T5f5. -/
import Derived.Test.YtoaomnfenofglaaAF1
import Derived.Test.YtoaomnfenofglaaAF3
/- bosket/bosketlaw07.SubsetOne; printed by avmain.py. -/
namespace Go.Avl.T5
open Go Go.RowKit Go.Proofs Go.Avl
set_option linter.unusedVariables false
set_option maxRecDepth 100000
set_option maxHeartbeats 4000000
attribute [local irreducible] AW AO AQ Spec SpecH Calm

def bosketlaw07_SubsetOne_c0 (k : Nat) (p0 : S24) (t9 : (S30 × Int)) (x18 : (List Int)) : Option Bool :=
  if 0 ≤ p0.f3 ∧ p0.f3 < (x18.length : Int) then (subset_Of k p0 (lset x18 p0.f3 (0 : Int))).bind fun t20 =>
  Option.bind (α := Bool) (if t9.2 = t20.2 then (bosketref07_SameRows k t9.1.f1 t20.1.f1).bind fun t25 =>
  if t25 = true then (bosketref01_Same k t9.1.f2 t20.1.f2).bind fun t27 =>
  if t27 = true then some (decide (t9.1.f0 = t20.1.f0))
  else some (false)
  else some (false)
  else some (false)) fun b22 =>
  some (b22)
  else none
def bosketlaw07_SubsetOne_l1 (k : Nat) (p0 : S24) (t9 : (S30 × Int)) : Nat → (List Int) → Int → Option Bool
  | 0, _, _ => none
  | j + 1, x29, x30 =>
    if x30 < p0.f0 then if 0 ≤ x30 ∧ x30 < (x29.length : Int) then (bosketlaw07_SubsetOne_l1 k p0 t9 j) (lset x29 x30 (-1 : Int)) (w64 (x30 + (1 : Int)))
    else none
    else bosketlaw07_SubsetOne_c0 k p0 t9 x29
def bosketlaw07_SubsetOne (k : Nat) (p0 : S24) : Option Bool :=
  (bosketlaw07_awake k).bind fun t3 =>
  if (!t3) = true then some (false)
  else Option.bind (α := Bool) (if (12 : Int) < p0.f0 then some (true)
  else some (decide ((30 : Int) < (p0.f1.length : Int)))) fun b5 =>
  if b5 = true then some (true)
  else (subset_One k p0).bind fun t9 =>
  (bosketref06_Right k p0).bind fun t11 =>
  if (!t11) = true then Option.bind (α := Bool) (if t9.2 = (1 : Int) then some (decide ((t9.1.f1.length : Int) = (0 : Int)))
  else some (false)) fun b13 =>
  some (b13)
  else if 0 ≤ p0.f0 ∧ p0.f0 * (8 : Int) ≤ 140737488355328 ∧ p0.f0 ≤ 9223372036854775807 then bosketlaw07_SubsetOne_l1 k p0 t9 k (List.replicate p0.f0.toNat (0 : Int)) (0 : Int)
  else none
theorem bosketlaw07_SubsetOne_spec {k : Nat} {p0 : S24} {r : Bool} (h : bosketlaw07_SubsetOne k p0 = some r) : Spec Try.prog 5 [(e24 p0)] (eBool r) := by
  rw [bosketlaw07_SubsetOne.eq_1] at h
  refine Spec.intro (res := [.tmp 2]) Try.func5 rfl rfl rfl (Nat.le_of_ble_eq_true rfl) ?_
  refine AW.sr ?_
  refine AO.box rfl 1 rfl (by decide) rfl rfl rfl fun n2 => ?_
  refine AO.c (Calm.assign rfl rfl) ?_
  refine AO.nK [1] ?_
  refine AW.seq ?_
  refine AW.sr ?_
  obtain ⟨t3, et3, h⟩ := of_bind h
  refine AO.callS [] (eBool t3) 9 rfl (by decide) ok12 rfl rfl rfl trivial (bosketlaw07_awake_spec et3) ?_
  refine AO.c (Calm.not rfl rfl) ?_
  refine AO.nK [1, 10] ?_
  rcases of_ite h with ⟨hc4, h⟩ | ⟨hc4, h⟩
  ·refine AW.condT' _ rfl hc4 ?_
   refine AW.sr ?_
   refine AO.c (Calm.assign rfl rfl) ?_
   refine AO.nH [2] (H' := []) (Sub.nil _) ?_
   refine AW.rK [2] ?_
   have hr := Option.some.inj h
   subst hr
   exact ⟨[(eBool false)], ⟨rfl, rfl, trivial⟩, rfl⟩
  ·refine AW.condF' _ rfl hc4 ?_
   refine AW.sK [1] ?_
   refine AW.seq ?_
   refine AW.seq ?_
   obtain ⟨b5, hq6, h⟩ := of_bind h
   refine AW.regM [(1, (.ptr n2 0)), (19, (eBool b5))] [(n2, (.mem (e24 p0)))] ?_ ?_
   ·refine AO.c (x := .ptr n2 0) (Calm.fldPtr rfl rfl Try.underlying24 rfl sz3 _ rfl) ?_
    refine AO.c (Calm.load 0 rfl rfl rfl (At.cast (At.fld0 At.here) rfl) ag3 sz3) ?_
    refine AO.c (x := eBool (decide ((12 : Int) < p0.f0))) (Calm.int rfl rfl rfl rfl) ?_
    refine AO.c (Calm.move rfl rfl) ?_
    rcases of_ite hq6 with ⟨hc7, hq6⟩ | ⟨hc7, hq6⟩
    ·refine AO.sF rfl rfl (bD (decide_eq_true hc7)) ?_
     refine AO.sF rfl rfl (bD (decide_eq_true hc7)) ?_
     refine AO.sF rfl rfl (bD (decide_eq_true hc7)) ?_
     refine AO.sF rfl rfl (bD (decide_eq_true hc7)) ?_
     refine AO.c (Calm.pickT rfl (bD (decide_eq_true hc7)) rfl) ?_
     cases hq6
     refine AO.nilE ⟨rfl, rfl⟩ ?_ ?_
     · exact ⟨rfl, rfl, trivial⟩
     · exact (Sub.refl _)
    ·refine AO.cG (x := .ptr n2 1) rfl rfl (bD (decide_eq_false hc7)) (Calm.fldPtr rfl rfl Try.underlying24 rfl sz22 _ rfl) ?_
     refine AO.cG rfl rfl (bD (decide_eq_false hc7)) (Calm.load 0 rfl rfl rfl (At.cast (At.fldS (At.fld0 At.here)) rfl) ag22 sz22) ?_
     refine AO.cG rfl rfl (bD (decide_eq_false hc7)) (Calm.lenL rfl rfl Try.underlying22) ?_
     refine AO.cG (x := eBool (decide ((30 : Int) < (p0.f1.length : Int)))) rfl rfl (bD (decide_eq_false hc7)) (Calm.int rfl rfl rfl rfl) ?_
     refine AO.c (Calm.pickF rfl (bD (decide_eq_false hc7)) rfl) ?_
     cases hq6
     refine AO.nilE ⟨rfl, rfl⟩ ?_ ?_
     · exact ⟨rfl, rfl, trivial⟩
     · exact (Sub.refl _)
   ·rcases of_ite h with ⟨hc8, h⟩ | ⟨hc8, h⟩
    ·refine AW.condT' _ rfl hc8 ?_
     refine AW.sr ?_
     refine AO.c (Calm.assign rfl rfl) ?_
     refine AO.nH [2] (H' := []) (Sub.nil _) ?_
     refine AW.rK [2] ?_
     have hr := Option.some.inj h
     subst hr
     exact ⟨[(eBool true)], ⟨rfl, rfl, trivial⟩, rfl⟩
    ·refine AW.condF' _ rfl hc8 ?_
     refine AW.sK [1] ?_
     refine AW.sr ?_
     refine AO.c (Calm.load 0 rfl rfl rfl (At.cast At.here rfl) ag24 sz24) ?_
     obtain ⟨t9, et9, h⟩ := of_bind h
     refine AO.callS [(e24 p0)] (.tup [(e30 t9.1), (eI64 t9.2)]) 22 rfl (by decide) ok22 rfl rfl rfl ⟨rfl, rfl, trivial⟩ (subset_One_spec et9) ?_
     refine AO.c (Calm.move rfl rfl) ?_
     refine AO.c (Calm.extract rfl rfl rfl) ?_
     refine AO.c (Calm.extract rfl rfl rfl) ?_
     refine AO.alloc rfl 3 rfl (by decide) rfl zr30 lay30 fun n10 => ?_
     refine AO.store (X' := (e30 t9.1)) 0 rfl rfl rfl rfl rfl rfl (Put.cast Put.here rfl) rfl rfl sz30 rfl ?_
     refine AO.c (Calm.assign rfl rfl) ?_
     refine AO.nH [1, 3, 4] (H' := [(n2, (.mem (e24 p0))), (n10, (.mem (e30 t9.1)))]) (Sub.cons 1 rfl (Sub.cons 0 rfl (Sub.nil _))) ?_
     refine AW.seq ?_
     refine AW.sr ?_
     refine AO.c (Calm.load 0 rfl rfl rfl (At.cast At.here rfl) ag24 sz24) ?_
     obtain ⟨t11, et11, h⟩ := of_bind h
     refine AO.callS [(e24 p0)] (eBool t11) 26 rfl (by decide) ok14 rfl rfl rfl ⟨rfl, rfl, trivial⟩ (bosketref06_Right_spec et11) ?_
     refine AO.c (Calm.not rfl rfl) ?_
     refine AO.nK [1, 3, 4, 27] ?_
     rcases of_ite h with ⟨hc12, h⟩ | ⟨hc12, h⟩
     ·refine AW.condT' _ rfl hc12 ?_
      refine AW.seq ?_
      obtain ⟨b13, hq14, h⟩ := of_bind h
      refine AW.regM [(2, (eBool b13))] [] ?_ ?_
      ·refine AO.c (Calm.move rfl rfl) ?_
       refine AO.c (x := eBool (decide (t9.2 = (1 : Int)))) (Calm.int rfl rfl rfl rfl) ?_
       refine AO.c (Calm.move rfl rfl) ?_
       rcases of_ite hq14 with ⟨hc15, hq14⟩ | ⟨hc15, hq14⟩
       ·refine AO.cG (x := .ptr n10 256) rfl rfl (bD (decide_eq_true hc15)) (Calm.fldPtr rfl rfl Try.underlying30 rfl sz28 _ rfl) ?_
        refine AO.cG rfl rfl (bD (decide_eq_true hc15)) (Calm.load 1 rfl rfl rfl (At.cast (At.fldS (At.fld0 At.here)) rfl) ag28 sz28) ?_
        refine AO.cG rfl rfl (bD (decide_eq_true hc15)) (Calm.lenL rfl rfl Try.underlying28) ?_
        refine AO.cG (x := eBool (decide ((t9.1.f1.length : Int) = (0 : Int)))) rfl rfl (bD (decide_eq_true hc15)) (Calm.int rfl rfl rfl rfl) ?_
        refine AO.c (Calm.pickT rfl (bD (decide_eq_true hc15)) rfl) ?_
        refine AO.c (Calm.assign rfl rfl) ?_
        cases hq14
        refine AO.nilE ⟨rfl, rfl⟩ ?_ ?_
        · exact ⟨rfl, trivial⟩
        · exact (Sub.nil _)
       ·refine AO.sT rfl rfl (bD (decide_eq_false hc15)) ?_
        refine AO.sT rfl rfl (bD (decide_eq_false hc15)) ?_
        refine AO.sT rfl rfl (bD (decide_eq_false hc15)) ?_
        refine AO.sT rfl rfl (bD (decide_eq_false hc15)) ?_
        refine AO.c (Calm.pickF rfl (bD (decide_eq_false hc15)) rfl) ?_
        refine AO.c (Calm.assign rfl rfl) ?_
        cases hq14
        refine AO.nilE ⟨rfl, rfl⟩ ?_ ?_
        · exact ⟨rfl, trivial⟩
        · exact (Sub.nil _)
      ·refine AW.rK [2] ?_
       have hr := Option.some.inj h
       subst hr
       exact ⟨[(eBool b13)], ⟨rfl, rfl, trivial⟩, rfl⟩
     ·refine AW.condF' _ rfl hc12 ?_
      refine AW.sK [1, 3, 4] ?_
      refine AW.sr ?_
      refine AO.c (x := .ptr n2 0) (Calm.fldPtr rfl rfl Try.underlying24 rfl sz3 _ rfl) ?_
      refine AO.c (Calm.load 0 rfl rfl rfl (At.cast (At.fld0 At.here) rfl) ag3 sz3) ?_
      obtain ⟨hg17, h⟩ := of_guard h
      refine AO.makeL (f := eI64) (0 : Int) rfl 38 rfl (by decide) rfl rfl rfl Try.underlying25 sz3 by3 zr3 lay3 rfl hg17 fun n16 => ?_
      refine AO.c (Calm.assign rfl rfl) ?_
      refine AO.nH [1, 3, 4, 5] (H' := [(n2, (.mem (e24 p0))), (n10, (.mem (e30 t9.1))), (n16, (.mem (.ar 1 ((List.replicate p0.f0.toNat (0 : Int)).map eI64))))]) (Sub.cons 1 rfl (Sub.cons 1 rfl (Sub.cons 0 rfl (Sub.nil _)))) ?_
      refine AW.seq_mid (fun ρ H => ∃ (x18 : (List Int)), ρ = [(1, (.ptr n2 0)), (3, (.ptr n10 0)), (4, (eI64 t9.2)), (5, (.own n16 0 x18.length))] ∧ H = [(n2, (.mem (e24 p0))), (n10, (.mem (e30 t9.1))), (n16, (.mem (.ar 1 (x18.map eI64))))] ∧ bosketlaw07_SubsetOne_c0 k p0 t9 x18 = some r) ?_ ?_
      ·refine AW.sr ?_
       refine AO.c (Calm.assign rfl rfl) ?_
       refine AO.nK [1, 3, 4, 5, 6] ?_
       refine AW.block ?_
       refine AW.wK [1, 3, 4, 5, 6] ?_
       refine AW.loop (fun kq ρ H => ∃ (x29 : (List Int)) (x30 : Int), ρ = [(1, (.ptr n2 0)), (3, (.ptr n10 0)), (4, (eI64 t9.2)), (5, (.own n16 0 x29.length)), (6, (eI64 x30))] ∧ H = [(n2, (.mem (e24 p0))), (n10, (.mem (e30 t9.1))), (n16, (.mem (.ar 1 (x29.map eI64))))] ∧ bosketlaw07_SubsetOne_l1 k p0 t9 kq x29 x30 = some r) k ⟨(List.replicate p0.f0.toNat (0 : Int)), (0 : Int), rfl, rfl, h⟩ ?_
       rintro kq32 _ _ ⟨x29, x30, rfl, rfl, h⟩
       cases kq32 with
       | zero => rw [bosketlaw07_SubsetOne_l1.eq_1] at h; cases h
       | succ kq32 =>
       rw [bosketlaw07_SubsetOne_l1.eq_2] at h
       generalize hrec31 : bosketlaw07_SubsetOne_l1 k p0 t9 kq32 = rec31 at h
       refine AW.seq ?_
       refine AW.sr ?_
       refine AO.c (Calm.move rfl rfl) ?_
       refine AO.c (x := .ptr n2 0) (Calm.fldPtr rfl rfl Try.underlying24 rfl sz3 _ rfl) ?_
       refine AO.c (Calm.load 0 rfl rfl rfl (At.cast (At.fld0 At.here) rfl) ag3 sz3) ?_
       refine AO.c (x := eBool (decide (x30 < p0.f0))) (Calm.int rfl rfl rfl rfl) ?_
       refine AO.nK [1, 3, 4, 5, 6, 42] ?_
       rcases of_ite h with ⟨hc33, h⟩ | ⟨hc33, h⟩
       ·refine AW.condP _ rfl hc33 ?_
        refine AW.sK [1, 3, 4, 5, 6] ?_
        refine AW.seq ?_
        refine AW.block ?_
        refine AW.reg ?_
        refine AO.c (Calm.move rfl rfl) ?_
        refine AO.c (Calm.move rfl rfl) ?_
        obtain ⟨hg34, h⟩ := of_guard h
        refine AO.c (Calm.idxO 2 rfl rfl rfl rfl hg34 Try.underlying25 sz3) ?_
        refine AO.store (X' := (.ar 1 ((lset x29 x30 (-1 : Int)).map eI64))) 2 rfl rfl rfl rfl rfl rfl (Put.cast (Put.lidx x30 (-1 : Int) hg34.1 hg34.2 Put.here) (by omega)) rfl rfl sz3 rfl ?_
        refine AO.coe 5 (y' := (.own n16 0 (lset x29 x30 (-1 : Int)).length)) rfl (fun _ _ h => lset_own h) ?_
        refine AO.coe 45 (y' := (.own n16 0 (lset x29 x30 (-1 : Int)).length)) rfl (fun _ _ h => lset_own h) ?_
        refine AO.nK [1, 3, 4, 5, 6] ?_
        refine AW.reg ?_
        refine AO.c (Calm.move rfl rfl) ?_
        refine AO.c (x := eI64 (w64 (x30 + (1 : Int)))) (Calm.int rfl rfl rfl rfl) ?_
        refine AO.c (Calm.assign rfl rfl) ?_
        refine AO.nK [1, 3, 4, 5, 6] ?_
        exact ⟨kq32, Nat.lt_succ_self _, (lset x29 x30 (-1 : Int)), (w64 (x30 + (1 : Int))), rfl, rfl, by rw [hrec31]; exact h⟩
       ·refine AW.condN _ rfl hc33 ?_
        refine AW.eK [1, 3, 4, 5] ?_
        exact ⟨x29, rfl, rfl, h⟩
      ·rintro _ _ ⟨x18, rfl, rfl, h⟩
       rw [bosketlaw07_SubsetOne_c0.eq_1] at h
       refine AW.sr ?_
       refine AO.c (Calm.move rfl rfl) ?_
       refine AO.c (x := .ptr n2 3) (Calm.fldPtr rfl rfl Try.underlying24 rfl sz3 _ rfl) ?_
       refine AO.c (Calm.load 0 rfl rfl rfl (At.cast (At.fldS (At.fldS (At.fldS (At.fld0 At.here)))) rfl) ag3 sz3) ?_
       obtain ⟨hg19, h⟩ := of_guard h
       refine AO.c (Calm.idxO 2 rfl rfl rfl rfl hg19 Try.underlying25 sz3) ?_
       refine AO.store (X' := (.ar 1 ((lset x18 p0.f3 (0 : Int)).map eI64))) 2 rfl rfl rfl rfl rfl rfl (Put.cast (Put.lidx p0.f3 (0 : Int) hg19.1 hg19.2 Put.here) (by omega)) rfl rfl sz3 rfl ?_
       refine AO.coe 5 (y' := (.own n16 0 (lset x18 p0.f3 (0 : Int)).length)) rfl (fun _ _ h => lset_own h) ?_
       refine AO.coe 48 (y' := (.own n16 0 (lset x18 p0.f3 (0 : Int)).length)) rfl (fun _ _ h => lset_own h) ?_
       refine AO.nK [1, 3, 4, 5] ?_
       refine AW.sr ?_
       refine AO.c (Calm.load 0 rfl rfl rfl (At.cast At.here rfl) ag24 sz24) ?_
       refine AO.c (Calm.move rfl rfl) ?_
       obtain ⟨t20, et20, h⟩ := of_bind h
       refine AO.freezeS 2 [(5, (.fz 1 ((lset x18 p0.f3 (0 : Int)).map eI64))), (54, (.fz 1 ((lset x18 p0.f3 (0 : Int)).map eI64)))] rfl ⟨fz_all rfl, fz_all rfl, trivial⟩ ?_
       refine AO.callS [(e24 p0), (.fz 1 ((lset x18 p0.f3 (0 : Int)).map eI64))] (.tup [(e30 t20.1), (eI64 t20.2)]) 55 rfl (by decide) ok13 rfl rfl rfl ⟨rfl, rfl, rfl, rfl, trivial⟩ (subset_Of_spec et20) ?_
       refine AO.c (Calm.move rfl rfl) ?_
       refine AO.c (Calm.extract rfl rfl rfl) ?_
       refine AO.c (Calm.extract rfl rfl rfl) ?_
       refine AO.alloc rfl 7 rfl (by decide) rfl zr30 lay30 fun n21 => ?_
       refine AO.store (X' := (e30 t20.1)) 0 rfl rfl rfl rfl rfl rfl (Put.cast Put.here rfl) rfl rfl sz30 rfl ?_
       refine AO.c (Calm.assign rfl rfl) ?_
       refine AO.nH [3, 4, 7, 8] (H' := [(n10, (.mem (e30 t9.1))), (n21, (.mem (e30 t20.1)))]) (Sub.cons 2 rfl (Sub.cons 0 rfl (Sub.nil _))) ?_
       refine AW.seq ?_
       obtain ⟨b22, hq23, h⟩ := of_bind h
       refine AW.regM [(2, (eBool b22))] [] ?_ ?_
       ·refine AO.c (Calm.move rfl rfl) ?_
        refine AO.c (Calm.move rfl rfl) ?_
        refine AO.c (x := eBool (decide (t9.2 = t20.2))) (Calm.int rfl rfl rfl rfl) ?_
        refine AO.c (Calm.move rfl rfl) ?_
        rcases of_ite hq23 with ⟨hc24, hq23⟩ | ⟨hc24, hq23⟩
        ·refine AO.cG (x := .ptr n10 256) rfl rfl (bD (decide_eq_true hc24)) (Calm.fldPtr rfl rfl Try.underlying30 rfl sz28 _ rfl) ?_
         refine AO.cG rfl rfl (bD (decide_eq_true hc24)) (Calm.load 0 rfl rfl rfl (At.cast (At.fldS (At.fld0 At.here)) rfl) ag28 sz28) ?_
         refine AO.cG (x := .ptr n21 256) rfl rfl (bD (decide_eq_true hc24)) (Calm.fldPtr rfl rfl Try.underlying30 rfl sz28 _ rfl) ?_
         refine AO.cG rfl rfl (bD (decide_eq_true hc24)) (Calm.load 1 rfl rfl rfl (At.cast (At.fldS (At.fld0 At.here)) rfl) ag28 sz28) ?_
         obtain ⟨t25, et25, hq23⟩ := of_bind hq23
         refine AO.callG 3 true 61 [(.fz 1 (t9.1.f1.map e25)), (.fz 1 (t20.1.f1.map e25))] (eBool t25) 66 rfl (by decide) ok18 rfl rfl (bD (decide_eq_true hc24)) rfl rfl ⟨rfl, rfl, rfl, rfl, trivial⟩ (bosketref07_SameRows_spec et25) ?_
         refine AO.c (Calm.pickT rfl (bD (decide_eq_true hc24)) rfl) ?_
         refine AO.c (Calm.move rfl rfl) ?_
         rcases of_ite hq23 with ⟨hc26, hq23⟩ | ⟨hc26, hq23⟩
         ·refine AO.cG (x := .ptr n10 257) rfl rfl (bD hc26) (Calm.fldPtr rfl rfl Try.underlying30 rfl sz25 _ rfl) ?_
          refine AO.cG rfl rfl (bD hc26) (Calm.load 0 rfl rfl rfl (At.cast (At.fldS (At.fldS (At.fld0 At.here))) rfl) ag25 sz25) ?_
          refine AO.cG (x := .ptr n21 257) rfl rfl (bD hc26) (Calm.fldPtr rfl rfl Try.underlying30 rfl sz25 _ rfl) ?_
          refine AO.cG rfl rfl (bD hc26) (Calm.load 1 rfl rfl rfl (At.cast (At.fldS (At.fldS (At.fld0 At.here))) rfl) ag25 sz25) ?_
          obtain ⟨t27, et27, hq23⟩ := of_bind hq23
          refine AO.callG 10 true 68 [(.fz 1 (t9.1.f2.map eI64)), (.fz 1 (t20.1.f2.map eI64))] (eBool t27) 73 rfl (by decide) ok19 rfl rfl (bD hc26) rfl rfl ⟨rfl, rfl, rfl, rfl, trivial⟩ (bosketref01_Same_spec et27) ?_
          refine AO.c (Calm.pickT rfl (bD hc26) rfl) ?_
          refine AO.c (Calm.move rfl rfl) ?_
          rcases of_ite hq23 with ⟨hc28, hq23⟩ | ⟨hc28, hq23⟩
          ·refine AO.cG (x := .ptr n10 0) rfl rfl (bD hc28) (Calm.fldPtr rfl rfl Try.underlying30 rfl sz27 _ rfl) ?_
           refine AO.cG rfl rfl (bD hc28) (Calm.load 0 rfl rfl rfl (At.cast (At.fld0 At.here) rfl) ag27 (by rw [sz27]; simp [AV.size])) ?_
           refine AO.cG (x := .ptr n21 0) rfl rfl (bD hc28) (Calm.fldPtr rfl rfl Try.underlying30 rfl sz27 _ rfl) ?_
           refine AO.cG rfl rfl (bD hc28) (Calm.load 1 rfl rfl rfl (At.cast (At.fld0 At.here) rfl) ag27 (by rw [sz27]; simp [AV.size])) ?_
           refine AO.cG (x := eBool (decide (t9.1.f0 = t20.1.f0))) rfl rfl (bD hc28) (Calm.eqA rfl rfl rfl eg27 (eqa27 t9.1.f0 t20.1.f0) (by decide)) ?_
           refine AO.c (Calm.pickT rfl (bD hc28) rfl) ?_
           refine AO.c (Calm.assign rfl rfl) ?_
           cases hq23
           refine AO.nilE ⟨rfl, rfl⟩ ?_ ?_
           · exact ⟨rfl, trivial⟩
           · exact (Sub.nil _)
          ·refine AO.sT rfl rfl (bD (eq_false_of_ne_true hc28)) ?_
           refine AO.sT rfl rfl (bD (eq_false_of_ne_true hc28)) ?_
           refine AO.sT rfl rfl (bD (eq_false_of_ne_true hc28)) ?_
           refine AO.sT rfl rfl (bD (eq_false_of_ne_true hc28)) ?_
           refine AO.sT rfl rfl (bD (eq_false_of_ne_true hc28)) ?_
           refine AO.c (Calm.pickF rfl (bD (eq_false_of_ne_true hc28)) rfl) ?_
           refine AO.c (Calm.assign rfl rfl) ?_
           cases hq23
           refine AO.nilE ⟨rfl, rfl⟩ ?_ ?_
           · exact ⟨rfl, trivial⟩
           · exact (Sub.nil _)
         ·refine AO.sT rfl rfl (bD (eq_false_of_ne_true hc26)) ?_
          refine AO.sT rfl rfl (bD (eq_false_of_ne_true hc26)) ?_
          refine AO.sT rfl rfl (bD (eq_false_of_ne_true hc26)) ?_
          refine AO.sT rfl rfl (bD (eq_false_of_ne_true hc26)) ?_
          refine AO.sT rfl rfl (bD (eq_false_of_ne_true hc26)) ?_
          refine AO.c (Calm.pickF rfl (bD (eq_false_of_ne_true hc26)) rfl) ?_
          refine AO.c (Calm.move rfl rfl) ?_
          refine AO.sT rfl rfl rfl ?_
          refine AO.sT rfl rfl rfl ?_
          refine AO.sT rfl rfl rfl ?_
          refine AO.sT rfl rfl rfl ?_
          refine AO.sT rfl rfl rfl ?_
          refine AO.c (Calm.pickF rfl rfl rfl) ?_
          refine AO.c (Calm.assign rfl rfl) ?_
          cases hq23
          refine AO.nilE ⟨rfl, rfl⟩ ?_ ?_
          · exact ⟨rfl, trivial⟩
          · exact (Sub.nil _)
        ·refine AO.sT rfl rfl (bD (decide_eq_false hc24)) ?_
         refine AO.sT rfl rfl (bD (decide_eq_false hc24)) ?_
         refine AO.sT rfl rfl (bD (decide_eq_false hc24)) ?_
         refine AO.sT rfl rfl (bD (decide_eq_false hc24)) ?_
         refine AO.sT rfl rfl (bD (decide_eq_false hc24)) ?_
         refine AO.c (Calm.pickF rfl (bD (decide_eq_false hc24)) rfl) ?_
         refine AO.c (Calm.move rfl rfl) ?_
         refine AO.sT rfl rfl rfl ?_
         refine AO.sT rfl rfl rfl ?_
         refine AO.sT rfl rfl rfl ?_
         refine AO.sT rfl rfl rfl ?_
         refine AO.sT rfl rfl rfl ?_
         refine AO.c (Calm.pickF rfl rfl rfl) ?_
         refine AO.c (Calm.move rfl rfl) ?_
         refine AO.sT rfl rfl rfl ?_
         refine AO.sT rfl rfl rfl ?_
         refine AO.sT rfl rfl rfl ?_
         refine AO.sT rfl rfl rfl ?_
         refine AO.sT rfl rfl rfl ?_
         refine AO.c (Calm.pickF rfl rfl rfl) ?_
         refine AO.c (Calm.assign rfl rfl) ?_
         cases hq23
         refine AO.nilE ⟨rfl, rfl⟩ ?_ ?_
         · exact ⟨rfl, trivial⟩
         · exact (Sub.nil _)
       ·refine AW.rK [2] ?_
        have hr := Option.some.inj h
        subst hr
        exact ⟨[(eBool b22)], ⟨rfl, rfl, trivial⟩, rfl⟩
end Go.Avl.T5
