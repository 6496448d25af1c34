/- Parts: T7f11, T7f9, T7f38, T7f10, T7f14, T7f15, T7f17, T7f19, T7f20, T7f23, T7f24, T7f25. -/
import Derived.Test.YtpkgpmmcbpfenaaAF1
import Derived.Test.YtpkgpmmcbpfenaaAF7
/- bosket/gram.Check; printed by avmain.py. -/
namespace Go.Avl.T7
open Go Go.RowKit Go.Proofs Go.Avl
set_option linter.unusedVariables false
set_option maxRecDepth 100000
set_option maxHeartbeats 4000000
attribute [local irreducible] AW AO AQ Spec SpecH Calm

def gram_Check_c0 (k : Nat) (p0 : S27) : Option S32 :=
  (gram_levels k p0).bind fun t10 =>
  if t10.f0 ≠ (0 : Int) then some (t10)
  else Option.bind (α := Bool) (if p0.f4 < (0 : Int) then some (true)
  else some (decide ((p0.f1.length : Int) ≤ p0.f4))) fun b13 =>
  if b13 = true then some ((S32.mk (11 : Int) (5 : Int) (0 : Int)))
  else some ((S32.mk (0 : Int) (0 : Int) (0 : Int)))
def gram_Check_l1 (k : Nat) (p0 : S27) : Nat → Int → Option S32
  | 0, _ => none
  | j + 1, x17 =>
    if x17 < (p0.f2.length : Int) then (gram_prod k p0 x17).bind fun t21 =>
    if t21 ≠ (0 : Int) then some ((S32.mk t21 (3 : Int) x17))
    else (gram_Check_l1 k p0 j) (w64 (x17 + (1 : Int)))
    else gram_Check_c0 k p0
def gram_Check (k : Nat) (p0 : S27) : Option S32 :=
  (rules_Check k p0.f0).bind fun t4 =>
  if t4.2 ≠ (0 : Int) then some ((S32.mk t4.2 (1 : Int) t4.1))
  else (gram_sorts k p0).bind fun t6 =>
  if t6.f0 ≠ (0 : Int) then some (t6)
  else if (200 : Int) < (p0.f2.length : Int) then some ((S32.mk (6 : Int) (3 : Int) (p0.f2.length : Int)))
  else gram_Check_l1 k p0 k (0 : Int)
theorem gram_Check_spec {k : Nat} {p0 : S27} {r : S32} (h : gram_Check k p0 = some r) : Spec Try.prog 11 [(e27 p0)] (e32 r) := by
  rw [gram_Check.eq_1] at h
  refine Spec.intro (res := [.cell 2 32]) Try.func11 rfl rfl rfl (Nat.le_of_ble_eq_true rfl) ?_
  refine AW.sr ?_
  refine AO.box rfl 1 rfl (by decide) rfl rfl rfl fun n2 => ?_
  refine AO.alloc rfl 2 rfl (by decide) rfl zr32 lay32 fun n3 => ?_
  refine AO.nH [1, 2] (H' := [(n2, (.mem (e27 p0))), (n3, (.mem (.st [(1, (eI64 (0 : Int))), (1, (eI64 (0 : Int))), (1, (eI64 (0 : Int)))])))]) (Sub.cons 1 rfl (Sub.cons 0 rfl (Sub.nil _))) ?_
  refine AW.seq ?_
  refine AW.sr ?_
  refine AO.c (x := .ptr n2 0) (Calm.fldPtr rfl rfl Try.underlying27 rfl sz22 _ rfl) ?_
  refine AO.c (Calm.load 0 rfl rfl rfl (At.cast (At.fld0 At.here) rfl) ag22 sz22) ?_
  obtain ⟨t4, et4, h⟩ := of_bind h
  refine AO.callS [(.fz 3 (p0.f0.map e82))] (.tup [(eI64 t4.1), (eI64 t4.2)]) 12 rfl (by decide) ok39 rfl rfl rfl ⟨rfl, rfl, trivial⟩ (rules_Check_spec et4) ?_
  refine AO.c (Calm.move rfl rfl) ?_
  refine AO.c (Calm.extract rfl rfl rfl) ?_
  refine AO.c (Calm.extract rfl rfl rfl) ?_
  refine AO.c (Calm.assign rfl rfl) ?_
  refine AO.c (Calm.assign rfl rfl) ?_
  refine AO.nK [1, 2, 3, 4] ?_
  refine AW.sr ?_
  refine AO.c (Calm.move rfl rfl) ?_
  refine AO.c (x := eBool (decide (t4.2 ≠ (0 : Int)))) (Calm.int rfl rfl rfl rfl) ?_
  refine AO.nK [1, 2, 3, 4, 16] ?_
  rcases of_ite h with ⟨hc5, h⟩ | ⟨hc5, h⟩
  ·refine AW.condP _ rfl hc5 ?_
   refine AW.sr ?_
   refine AO.c (Calm.move rfl rfl) ?_
   refine AO.c (Calm.move rfl rfl) ?_
   refine AO.c (x := .st [(1, (eI64 t4.2)), (1, (eI64 (1 : Int))), (1, (eI64 t4.1))]) (Calm.build (qs := [(0, (eI64 t4.2)), (1, (eI64 (1 : Int))), (2, (eI64 t4.1))]) rfl ⟨rfl, rfl, rfl, rfl, rfl, rfl, rfl, rfl, rfl, trivial⟩ Try.underlying32 rfl zr32 lay32 (.cons rfl rfl rfl rfl (Put.cast (Put.fld0 Put.here) rfl) (.cons rfl rfl rfl rfl (Put.cast (Put.fldS (Put.fld0 Put.here)) rfl) (.cons rfl rfl rfl rfl (Put.cast (Put.fldS (Put.fldS (Put.fld0 Put.here))) rfl) .nil))) rfl) ?_
   refine AO.store (X' := (e32 (S32.mk t4.2 (1 : Int) t4.1))) 1 rfl rfl rfl rfl rfl rfl (Put.cast Put.here rfl) rfl rfl sz32 rfl ?_
   refine AO.nH [2] (H' := [(n3, (.mem (e32 (S32.mk t4.2 (1 : Int) t4.1))))]) (Sub.cons 1 rfl (Sub.nil _)) ?_
   refine AW.rK [2] ?_
   have hr := Option.some.inj h
   subst hr
   exact ⟨[(e32 (S32.mk t4.2 (1 : Int) t4.1))], ⟨⟨_, 0, rfl, rfl, ag32, sz32⟩, trivial⟩, rfl⟩
  ·refine AW.condN _ rfl hc5 ?_
   refine AW.sK [1, 2] ?_
   refine AW.seq ?_
   refine AW.sr ?_
   refine AO.c (Calm.load 0 rfl rfl rfl (At.cast At.here rfl) ag27 sz27) ?_
   obtain ⟨t6, et6, h⟩ := of_bind h
   refine AO.callS [(e27 p0)] (e32 t6) 21 rfl (by decide) ok43 rfl rfl rfl ⟨rfl, rfl, trivial⟩ (gram_sorts_spec et6) ?_
   refine AO.alloc rfl 5 rfl (by decide) rfl zr32 lay32 fun n7 => ?_
   refine AO.store (X' := (e32 t6)) 0 rfl rfl rfl rfl rfl rfl (Put.cast Put.here rfl) rfl rfl sz32 rfl ?_
   refine AO.nH [1, 2, 5] (H' := [(n2, (.mem (e27 p0))), (n3, (.mem (.st [(1, (eI64 (0 : Int))), (1, (eI64 (0 : Int))), (1, (eI64 (0 : Int)))]))), (n7, (.mem (e32 t6)))]) (Sub.cons 1 rfl (Sub.cons 1 rfl (Sub.cons 0 rfl (Sub.nil _)))) ?_
   refine AW.sr ?_
   refine AO.c (x := .ptr n7 0) (Calm.fldPtr rfl rfl Try.underlying32 rfl sz30 _ rfl) ?_
   refine AO.c (Calm.load 2 rfl rfl rfl (At.cast (At.fld0 At.here) rfl) ag30 sz30) ?_
   refine AO.c (x := eBool (decide (t6.f0 ≠ (0 : Int)))) (Calm.int rfl rfl rfl rfl) ?_
   refine AO.nK [1, 2, 5, 24] ?_
   rcases of_ite h with ⟨hc8, h⟩ | ⟨hc8, h⟩
   ·refine AW.condP _ rfl hc8 ?_
    refine AW.sr ?_
    refine AO.c (Calm.load 2 rfl rfl rfl (At.cast At.here rfl) ag32 sz32) ?_
    refine AO.store (X' := (e32 t6)) 1 rfl rfl rfl rfl rfl rfl (Put.cast Put.here rfl) rfl rfl sz32 rfl ?_
    refine AO.nH [2] (H' := [(n3, (.mem (e32 t6)))]) (Sub.cons 1 rfl (Sub.nil _)) ?_
    refine AW.rK [2] ?_
    have hr := Option.some.inj h
    subst hr
    exact ⟨[(e32 t6)], ⟨⟨_, 0, rfl, rfl, ag32, sz32⟩, trivial⟩, rfl⟩
   ·refine AW.condN _ rfl hc8 ?_
    refine AW.sH [1, 2] (H' := [(n2, (.mem (e27 p0))), (n3, (.mem (.st [(1, (eI64 (0 : Int))), (1, (eI64 (0 : Int))), (1, (eI64 (0 : Int)))])))]) (Sub.cons 0 rfl (Sub.cons 0 rfl (Sub.nil _))) ?_
    refine AW.seq ?_
    refine AW.sr ?_
    refine AO.c (x := .ptr n2 2) (Calm.fldPtr rfl rfl Try.underlying27 rfl sz24 _ rfl) ?_
    refine AO.c (Calm.load 0 rfl rfl rfl (At.cast (At.fldS (At.fldS (At.fld0 At.here))) rfl) ag24 sz24) ?_
    refine AO.c (Calm.lenL rfl rfl Try.underlying24) ?_
    refine AO.c (x := eBool (decide ((200 : Int) < (p0.f2.length : Int)))) (Calm.int rfl rfl rfl rfl) ?_
    refine AO.nK [1, 2, 29] ?_
    rcases of_ite h with ⟨hc9, h⟩ | ⟨hc9, h⟩
    ·refine AW.condP _ rfl hc9 ?_
     refine AW.sr ?_
     refine AO.c (x := .ptr n2 2) (Calm.fldPtr rfl rfl Try.underlying27 rfl sz24 _ rfl) ?_
     refine AO.c (Calm.load 0 rfl rfl rfl (At.cast (At.fldS (At.fldS (At.fld0 At.here))) rfl) ag24 sz24) ?_
     refine AO.c (Calm.lenL rfl rfl Try.underlying24) ?_
     refine AO.c (x := .st [(1, (eI64 (6 : Int))), (1, (eI64 (3 : Int))), (1, (eI64 (p0.f2.length : Int)))]) (Calm.build (qs := [(0, (eI64 (6 : Int))), (1, (eI64 (3 : Int))), (2, (eI64 (p0.f2.length : Int)))]) rfl ⟨rfl, rfl, rfl, rfl, rfl, rfl, rfl, rfl, rfl, trivial⟩ Try.underlying32 rfl zr32 lay32 (.cons rfl rfl rfl rfl (Put.cast (Put.fld0 Put.here) rfl) (.cons rfl rfl rfl rfl (Put.cast (Put.fldS (Put.fld0 Put.here)) rfl) (.cons rfl rfl rfl rfl (Put.cast (Put.fldS (Put.fldS (Put.fld0 Put.here))) rfl) .nil))) rfl) ?_
     refine AO.store (X' := (e32 (S32.mk (6 : Int) (3 : Int) (p0.f2.length : Int)))) 1 rfl rfl rfl rfl rfl rfl (Put.cast Put.here rfl) rfl rfl sz32 rfl ?_
     refine AO.nH [2] (H' := [(n3, (.mem (e32 (S32.mk (6 : Int) (3 : Int) (p0.f2.length : Int)))))]) (Sub.cons 1 rfl (Sub.nil _)) ?_
     refine AW.rK [2] ?_
     have hr := Option.some.inj h
     subst hr
     exact ⟨[(e32 (S32.mk (6 : Int) (3 : Int) (p0.f2.length : Int)))], ⟨⟨_, 0, rfl, rfl, ag32, sz32⟩, trivial⟩, rfl⟩
    ·refine AW.condN _ rfl hc9 ?_
     refine AW.sK [1, 2] ?_
     refine AW.seq_mid (fun ρ H => ρ = [(1, (.ptr n2 0)), (2, (.ptr n3 0))] ∧ H = [(n2, (.mem (e27 p0))), (n3, (.mem (.st [(1, (eI64 (0 : Int))), (1, (eI64 (0 : Int))), (1, (eI64 (0 : Int)))])))] ∧ gram_Check_c0 k p0 = some r) ?_ ?_
     ·refine AW.sr ?_
      refine AO.c (x := .ptr n2 2) (Calm.fldPtr rfl rfl Try.underlying27 rfl sz24 _ rfl) ?_
      refine AO.c (Calm.load 0 rfl rfl rfl (At.cast (At.fldS (At.fldS (At.fld0 At.here))) rfl) ag24 sz24) ?_
      refine AO.c (Calm.lenL rfl rfl Try.underlying24) ?_
      refine AO.c (Calm.move rfl rfl) ?_
      refine AO.nK [1, 2, 36, 37] ?_
      refine AW.block ?_
      refine AW.wK [1, 2, 36, 37] ?_
      refine AW.loop (fun kq ρ H => ∃ (x17 : Int), ρ = [(1, (.ptr n2 0)), (2, (.ptr n3 0)), (36, (eI64 (p0.f2.length : Int))), (37, (eI64 x17))] ∧ H = [(n2, (.mem (e27 p0))), (n3, (.mem (.st [(1, (eI64 (0 : Int))), (1, (eI64 (0 : Int))), (1, (eI64 (0 : Int)))])))] ∧ gram_Check_l1 k p0 kq x17 = some r) k ⟨(0 : Int), rfl, rfl, h⟩ ?_
      rintro kq19 _ _ ⟨x17, rfl, rfl, h⟩
      cases kq19 with
      | zero => rw [gram_Check_l1.eq_1] at h; cases h
      | succ kq19 =>
      rw [gram_Check_l1.eq_2] at h
      generalize hrec18 : gram_Check_l1 k p0 kq19 = rec18 at h
      refine AW.sr ?_
      refine AO.c (x := eBool (decide (x17 < (p0.f2.length : Int)))) (Calm.int rfl rfl rfl rfl) ?_
      refine AO.nK [1, 2, 36, 37, 38] ?_
      refine AW.seq ?_
      rcases of_ite h with ⟨hc20, h⟩ | ⟨hc20, h⟩
      ·refine AW.condP _ rfl hc20 ?_
       refine AW.sK [1, 2, 36, 37] ?_
       refine AW.seq ?_
       refine AW.block ?_
       refine AW.sr ?_
       refine AO.c (Calm.move rfl rfl) ?_
       refine AO.c (Calm.assign rfl rfl) ?_
       refine AO.nK [1, 2, 6, 36, 37] ?_
       refine AW.sr ?_
       refine AO.c (Calm.load 0 rfl rfl rfl (At.cast At.here rfl) ag27 sz27) ?_
       refine AO.c (Calm.move rfl rfl) ?_
       obtain ⟨t21, et21, h⟩ := of_bind h
       refine AO.callS [(e27 p0), (eI64 x17)] (eI64 t21) 42 rfl (by decide) ok44 rfl rfl rfl ⟨rfl, rfl, rfl, rfl, trivial⟩ (gram_prod_spec et21) ?_
       refine AO.c (Calm.assign rfl rfl) ?_
       refine AO.nK [1, 2, 6, 7, 36, 37] ?_
       refine AW.sr ?_
       refine AO.c (Calm.move rfl rfl) ?_
       refine AO.c (x := eBool (decide (t21 ≠ (0 : Int)))) (Calm.int rfl rfl rfl rfl) ?_
       refine AO.nK [1, 2, 6, 7, 36, 37, 44] ?_
       rcases of_ite h with ⟨hc22, h⟩ | ⟨hc22, h⟩
       ·refine AW.condP _ rfl hc22 ?_
        refine AW.sr ?_
        refine AO.c (Calm.move rfl rfl) ?_
        refine AO.c (Calm.move rfl rfl) ?_
        refine AO.c (x := .st [(1, (eI64 t21)), (1, (eI64 (3 : Int))), (1, (eI64 x17))]) (Calm.build (qs := [(0, (eI64 t21)), (1, (eI64 (3 : Int))), (2, (eI64 x17))]) rfl ⟨rfl, rfl, rfl, rfl, rfl, rfl, rfl, rfl, rfl, trivial⟩ Try.underlying32 rfl zr32 lay32 (.cons rfl rfl rfl rfl (Put.cast (Put.fld0 Put.here) rfl) (.cons rfl rfl rfl rfl (Put.cast (Put.fldS (Put.fld0 Put.here)) rfl) (.cons rfl rfl rfl rfl (Put.cast (Put.fldS (Put.fldS (Put.fld0 Put.here))) rfl) .nil))) rfl) ?_
        refine AO.store (X' := (e32 (S32.mk t21 (3 : Int) x17))) 1 rfl rfl rfl rfl rfl rfl (Put.cast Put.here rfl) rfl rfl sz32 rfl ?_
        refine AO.nH [2] (H' := [(n3, (.mem (e32 (S32.mk t21 (3 : Int) x17))))]) (Sub.cons 1 rfl (Sub.nil _)) ?_
        refine AW.rK [2] ?_
        have hr := Option.some.inj h
        subst hr
        exact ⟨[(e32 (S32.mk t21 (3 : Int) x17))], ⟨⟨_, 0, rfl, rfl, ag32, sz32⟩, trivial⟩, rfl⟩
       ·refine AW.condN _ rfl hc22 ?_
        refine AW.sK [1, 2, 36, 37] ?_
        refine AW.reg ?_
        refine AO.c (x := eI64 (w64 (x17 + (1 : Int)))) (Calm.int rfl rfl rfl rfl) ?_
        refine AO.c (Calm.move rfl rfl) ?_
        refine AO.nK [1, 2, 36, 37] ?_
        exact ⟨kq19, Nat.lt_succ_self _, (w64 (x17 + (1 : Int))), rfl, rfl, by rw [hrec18]; exact h⟩
      ·refine AW.condN _ rfl hc20 ?_
       refine AW.eK [1, 2] ?_
       exact ⟨rfl, rfl, h⟩
     ·rintro _ _ ⟨rfl, rfl, h⟩
      rw [gram_Check_c0.eq_1] at h
      refine AW.seq ?_
      refine AW.sr ?_
      refine AO.c (Calm.load 0 rfl rfl rfl (At.cast At.here rfl) ag27 sz27) ?_
      obtain ⟨t10, et10, h⟩ := of_bind h
      refine AO.callS [(e27 p0)] (e32 t10) 50 rfl (by decide) ok45 rfl rfl rfl ⟨rfl, rfl, trivial⟩ (gram_levels_spec et10) ?_
      refine AO.alloc rfl 8 rfl (by decide) rfl zr32 lay32 fun n11 => ?_
      refine AO.store (X' := (e32 t10)) 0 rfl rfl rfl rfl rfl rfl (Put.cast Put.here rfl) rfl rfl sz32 rfl ?_
      refine AO.nH [1, 2, 8] (H' := [(n2, (.mem (e27 p0))), (n3, (.mem (.st [(1, (eI64 (0 : Int))), (1, (eI64 (0 : Int))), (1, (eI64 (0 : Int)))]))), (n11, (.mem (e32 t10)))]) (Sub.cons 1 rfl (Sub.cons 1 rfl (Sub.cons 0 rfl (Sub.nil _)))) ?_
      refine AW.sr ?_
      refine AO.c (x := .ptr n11 0) (Calm.fldPtr rfl rfl Try.underlying32 rfl sz30 _ rfl) ?_
      refine AO.c (Calm.load 2 rfl rfl rfl (At.cast (At.fld0 At.here) rfl) ag30 sz30) ?_
      refine AO.c (x := eBool (decide (t10.f0 ≠ (0 : Int)))) (Calm.int rfl rfl rfl rfl) ?_
      refine AO.nK [1, 2, 8, 53] ?_
      rcases of_ite h with ⟨hc12, h⟩ | ⟨hc12, h⟩
      ·refine AW.condP _ rfl hc12 ?_
       refine AW.sr ?_
       refine AO.c (Calm.load 2 rfl rfl rfl (At.cast At.here rfl) ag32 sz32) ?_
       refine AO.store (X' := (e32 t10)) 1 rfl rfl rfl rfl rfl rfl (Put.cast Put.here rfl) rfl rfl sz32 rfl ?_
       refine AO.nH [2] (H' := [(n3, (.mem (e32 t10)))]) (Sub.cons 1 rfl (Sub.nil _)) ?_
       refine AW.rK [2] ?_
       have hr := Option.some.inj h
       subst hr
       exact ⟨[(e32 t10)], ⟨⟨_, 0, rfl, rfl, ag32, sz32⟩, trivial⟩, rfl⟩
      ·refine AW.condN _ rfl hc12 ?_
       refine AW.sH [1, 2] (H' := [(n2, (.mem (e27 p0))), (n3, (.mem (.st [(1, (eI64 (0 : Int))), (1, (eI64 (0 : Int))), (1, (eI64 (0 : Int)))])))]) (Sub.cons 0 rfl (Sub.cons 0 rfl (Sub.nil _))) ?_
       refine AW.seq ?_
       refine AW.seq ?_
       obtain ⟨b13, hq14, h⟩ := of_bind h
       refine AW.regM [(2, (.ptr n3 0)), (65, (eBool b13))] [(n3, (.mem (.st [(1, (eI64 (0 : Int))), (1, (eI64 (0 : Int))), (1, (eI64 (0 : Int)))])))] ?_ ?_
       ·refine AO.c (x := .ptr n2 4) (Calm.fldPtr rfl rfl Try.underlying27 rfl sz3 _ rfl) ?_
        refine AO.c (Calm.load 0 rfl rfl rfl (At.cast (At.fldS (At.fldS (At.fldS (At.fldS (At.fld0 At.here))))) rfl) ag3 sz3) ?_
        refine AO.c (x := eBool (decide (p0.f4 < (0 : Int)))) (Calm.int rfl rfl rfl rfl) ?_
        refine AO.c (Calm.move rfl rfl) ?_
        rcases of_ite hq14 with ⟨hc15, hq14⟩ | ⟨hc15, hq14⟩
        ·refine AO.sF rfl rfl (bD (decide_eq_true hc15)) ?_
         refine AO.sF rfl rfl (bD (decide_eq_true hc15)) ?_
         refine AO.sF rfl rfl (bD (decide_eq_true hc15)) ?_
         refine AO.sF rfl rfl (bD (decide_eq_true hc15)) ?_
         refine AO.sF rfl rfl (bD (decide_eq_true hc15)) ?_
         refine AO.sF rfl rfl (bD (decide_eq_true hc15)) ?_
         refine AO.c (Calm.pickT rfl (bD (decide_eq_true hc15)) rfl) ?_
         cases hq14
         refine AO.nilE ⟨rfl, rfl⟩ ?_ ?_
         · exact ⟨rfl, rfl, trivial⟩
         · exact (Sub.cons 1 rfl (Sub.nil _))
        ·refine AO.cG (x := .ptr n2 4) rfl rfl (bD (decide_eq_false hc15)) (Calm.fldPtr rfl rfl Try.underlying27 rfl sz3 _ rfl) ?_
         refine AO.cG rfl rfl (bD (decide_eq_false hc15)) (Calm.load 0 rfl rfl rfl (At.cast (At.fldS (At.fldS (At.fldS (At.fldS (At.fld0 At.here))))) rfl) ag3 sz3) ?_
         refine AO.cG (x := .ptr n2 1) rfl rfl (bD (decide_eq_false hc15)) (Calm.fldPtr rfl rfl Try.underlying27 rfl sz23 _ rfl) ?_
         refine AO.cG rfl rfl (bD (decide_eq_false hc15)) (Calm.load 0 rfl rfl rfl (At.cast (At.fldS (At.fld0 At.here)) rfl) ag23 sz23) ?_
         refine AO.cG rfl rfl (bD (decide_eq_false hc15)) (Calm.lenL rfl rfl Try.underlying23) ?_
         refine AO.cG (x := eBool (decide ((p0.f1.length : Int) ≤ p0.f4))) rfl rfl (bD (decide_eq_false hc15)) (Calm.int rfl rfl rfl rfl) ?_
         refine AO.c (Calm.pickF rfl (bD (decide_eq_false hc15)) rfl) ?_
         cases hq14
         refine AO.nilE ⟨rfl, rfl⟩ ?_ ?_
         · exact ⟨rfl, rfl, trivial⟩
         · exact (Sub.cons 1 rfl (Sub.nil _))
       ·rcases of_ite h with ⟨hc16, h⟩ | ⟨hc16, h⟩
        ·refine AW.condT' _ rfl hc16 ?_
         refine AW.sr ?_
         refine AO.c (x := .st [(1, (eI64 (11 : Int))), (1, (eI64 (5 : Int))), (1, (eI64 (0 : Int)))]) (Calm.build (qs := [(0, (eI64 (11 : Int))), (1, (eI64 (5 : Int)))]) rfl ⟨rfl, rfl, rfl, rfl, rfl, rfl, trivial⟩ Try.underlying32 rfl zr32 lay32 (.cons rfl rfl rfl rfl (Put.cast (Put.fld0 Put.here) rfl) (.cons rfl rfl rfl rfl (Put.cast (Put.fldS (Put.fld0 Put.here)) rfl) .nil)) rfl) ?_
         refine AO.store (X' := (e32 (S32.mk (11 : Int) (5 : Int) (0 : Int)))) 0 rfl rfl rfl rfl rfl rfl (Put.cast Put.here rfl) rfl rfl sz32 rfl ?_
         refine AO.nK [2] ?_
         refine AW.rK [2] ?_
         have hr := Option.some.inj h
         subst hr
         exact ⟨[(e32 (S32.mk (11 : Int) (5 : Int) (0 : Int)))], ⟨⟨_, 0, rfl, rfl, ag32, sz32⟩, trivial⟩, rfl⟩
        ·refine AW.condF' _ rfl hc16 ?_
         refine AW.sK [2] ?_
         refine AW.sr ?_
         refine AO.c (x := .st [(1, (eI64 (0 : Int))), (1, (eI64 (0 : Int))), (1, (eI64 (0 : Int)))]) (Calm.build (qs := []) rfl trivial Try.underlying32 rfl zr32 lay32 .nil rfl) ?_
         refine AO.store (X' := (e32 (S32.mk (0 : Int) (0 : Int) (0 : Int)))) 0 rfl rfl rfl rfl rfl rfl (Put.cast Put.here rfl) rfl rfl sz32 rfl ?_
         refine AO.nK [2] ?_
         refine AW.rK [2] ?_
         have hr := Option.some.inj h
         subst hr
         exact ⟨[(e32 (S32.mk (0 : Int) (0 : Int) (0 : Int)))], ⟨⟨_, 0, rfl, rfl, ag32, sz32⟩, trivial⟩, rfl⟩
end Go.Avl.T7
/- bosket/bosketlaw17.awake; printed by avmain.py. -/
namespace Go.Avl.T7
open Go Go.RowKit Go.Proofs Go.Avl
set_option linter.unusedVariables false
set_option maxRecDepth 100000
set_option maxHeartbeats 4000000
attribute [local irreducible] AW AO AQ Spec SpecH Calm

def bosketlaw17_awake (k : Nat) : Option Bool :=
  Option.bind (α := Bool) ((gram_Line k (S27.mk [(S82.mk (ByteArray.mk #[80, 76, 85, 83]) (0 : Int) (ByteArray.mk #[92, 43]))] ([(ByteArray.mk #[69])] : List ByteArray) ([(S37.mk (0 : Int) (ByteArray.mk #[65, 100, 100]) [(S41.mk true (0 : Int)), (S41.mk false (0 : Int)), (S41.mk true (0 : Int))] false (-1 : Int) [(0 : Int), (0 : Int)])] : List S37) ([] : List S86) (0 : Int)) (0 : Int)).bind fun t9 =>
  if t9 = (ByteArray.mk #[69, 46, 65, 100, 100, 32, 61, 32, 69, 32, 80, 76, 85, 83, 32, 69]) then (gram_Check k (S27.mk [(S82.mk (ByteArray.mk #[80, 76, 85, 83]) (0 : Int) (ByteArray.mk #[92, 43]))] ([(ByteArray.mk #[69])] : List ByteArray) ([(S37.mk (0 : Int) (ByteArray.mk #[65, 100, 100]) [(S41.mk true (0 : Int)), (S41.mk false (0 : Int)), (S41.mk true (0 : Int))] false (-1 : Int) [(0 : Int), (0 : Int)])] : List S37) ([] : List S86) (0 : Int))).bind fun t11 =>
  some (decide (t11 = (S32.mk (0 : Int) (0 : Int) (0 : Int))))
  else some (false)) fun b7 =>
  some (b7)
theorem bosketlaw17_awake_spec {k : Nat}  {r : Bool} (h : bosketlaw17_awake k = some r) : Spec Try.prog 9 [] (eBool r) := by
  rw [bosketlaw17_awake.eq_1] at h
  refine Spec.intro (res := [.tmp 0]) Try.func9 rfl rfl rfl (Nat.le_of_ble_eq_true rfl) ?_
  refine AW.sr ?_
  refine AO.c (Calm.assign rfl rfl) ?_
  refine AO.nK [] ?_
  refine AW.sr ?_
  refine AO.c (x := .st [(1, (eStr (ByteArray.mk #[80, 76, 85, 83]))), (1, (eI64 (0 : Int))), (1, (eStr (ByteArray.mk #[92, 43])))]) (Calm.build (qs := [(0, (eStr (ByteArray.mk #[80, 76, 85, 83]))), (2, (eStr (ByteArray.mk #[92, 43])))]) rfl ⟨rfl, rfl, rfl, rfl, rfl, rfl, trivial⟩ Try.underlying82 rfl zr82 lay82 (.cons rfl rfl rfl rfl (Put.cast (Put.fld0 Put.here) rfl) (.cons rfl rfl rfl rfl (Put.cast (Put.fldS (Put.fldS (Put.fld0 Put.here))) rfl) .nil)) rfl) ?_
  refine AO.lit (Z := (.st [(1, (eStr ByteArray.empty)), (1, (eI64 (0 : Int))), (1, (eStr ByteArray.empty))])) (xs := (([(S82.mk (ByteArray.mk #[80, 76, 85, 83]) (0 : Int) (ByteArray.mk #[92, 43]))] : List S82).map e82)) (qs := [(0, (e82 (S82.mk (ByteArray.mk #[80, 76, 85, 83]) (0 : Int) (ByteArray.mk #[92, 43]))))]) rfl 3 rfl (by decide) rfl ⟨rfl, rfl, rfl, trivial⟩ Try.underlying22 sz82 zr82 lay82 rfl (by decide) (litOK (z := 3) [(e82 (S82.mk (ByteArray.mk #[80, 76, 85, 83]) (0 : Int) (ByteArray.mk #[92, 43])))] rfl ⟨⟨rfl, rfl⟩, trivial⟩) rfl fun n1 => ?_
  refine AO.lit (Z := (eStr ByteArray.empty)) (xs := (([(ByteArray.mk #[69])] : List ByteArray).map eStr)) (qs := [(0, (eStr (ByteArray.mk #[69])))]) rfl 4 rfl (by decide) rfl ⟨rfl, rfl, rfl, trivial⟩ Try.underlying23 sz9 zr9 lay9 rfl (by decide) (litOK (z := 1) [(eStr (ByteArray.mk #[69]))] rfl ⟨⟨rfl, rfl⟩, trivial⟩) rfl fun n2 => ?_
  refine AO.c (x := .st [(1, (eBool true)), (1, (eI64 (0 : Int)))]) (Calm.build (qs := [(0, (eBool true))]) rfl ⟨rfl, rfl, rfl, trivial⟩ Try.underlying41 rfl zr41 lay41 (.cons rfl rfl rfl rfl (Put.cast (Put.fld0 Put.here) rfl) .nil) rfl) ?_
  refine AO.c (x := .st [(1, (eBool false)), (1, (eI64 (0 : Int)))]) (Calm.build (qs := []) rfl trivial Try.underlying41 rfl zr41 lay41 .nil rfl) ?_
  refine AO.c (x := .st [(1, (eBool true)), (1, (eI64 (0 : Int)))]) (Calm.build (qs := [(0, (eBool true))]) rfl ⟨rfl, rfl, rfl, trivial⟩ Try.underlying41 rfl zr41 lay41 (.cons rfl rfl rfl rfl (Put.cast (Put.fld0 Put.here) rfl) .nil) rfl) ?_
  refine AO.lit (Z := (.st [(1, (eBool false)), (1, (eI64 (0 : Int)))])) (xs := (([(S41.mk true (0 : Int)), (S41.mk false (0 : Int)), (S41.mk true (0 : Int))] : List S41).map e41)) (qs := [(0, (e41 (S41.mk true (0 : Int)))), (1, (e41 (S41.mk false (0 : Int)))), (2, (e41 (S41.mk true (0 : Int))))]) rfl 8 rfl (by decide) rfl ⟨rfl, rfl, rfl, rfl, rfl, rfl, rfl, rfl, rfl, trivial⟩ Try.underlying34 sz41 zr41 lay41 rfl (by decide) (litOK (z := 2) [(e41 (S41.mk true (0 : Int))), (e41 (S41.mk false (0 : Int))), (e41 (S41.mk true (0 : Int)))] rfl ⟨⟨rfl, rfl⟩, ⟨rfl, rfl⟩, ⟨rfl, rfl⟩, trivial⟩) rfl fun n3 => ?_
  refine AO.lit (Z := (eI64 (0 : Int))) (xs := (([(0 : Int), (0 : Int)] : List Int).map eI64)) (qs := [(0, (eI64 (0 : Int))), (1, (eI64 (0 : Int)))]) rfl 9 rfl (by decide) rfl ⟨rfl, rfl, rfl, rfl, rfl, rfl, trivial⟩ Try.underlying35 sz3 zr3 lay3 rfl (by decide) (litOK (z := 1) [(eI64 (0 : Int)), (eI64 (0 : Int))] rfl ⟨⟨rfl, rfl⟩, ⟨rfl, rfl⟩, trivial⟩) rfl fun n4 => ?_
  refine AO.freezeS 1 [(8, (.fz 2 (([(S41.mk true (0 : Int)), (S41.mk false (0 : Int)), (S41.mk true (0 : Int))] : List S41).map e41)))] rfl ⟨fz_all rfl, trivial⟩ ?_
  refine AO.freezeS 0 [(9, (.fz 1 (([(0 : Int), (0 : Int)] : List Int).map eI64)))] rfl ⟨fz_all rfl, trivial⟩ ?_
  refine AO.c (x := .st [(1, (eI64 (0 : Int))), (1, (eStr (ByteArray.mk #[65, 100, 100]))), (1, (.fz 2 (([(S41.mk true (0 : Int)), (S41.mk false (0 : Int)), (S41.mk true (0 : Int))] : List S41).map e41))), (1, (eBool false)), (1, (eI64 (-1 : Int))), (1, (.fz 1 (([(0 : Int), (0 : Int)] : List Int).map eI64)))]) (Calm.build (qs := [(1, (eStr (ByteArray.mk #[65, 100, 100]))), (4, (eI64 (-1 : Int))), (2, (.fz 2 (([(S41.mk true (0 : Int)), (S41.mk false (0 : Int)), (S41.mk true (0 : Int))] : List S41).map e41))), (5, (.fz 1 (([(0 : Int), (0 : Int)] : List Int).map eI64)))]) rfl ⟨rfl, rfl, rfl, rfl, rfl, rfl, rfl, rfl, rfl, rfl, rfl, rfl, trivial⟩ Try.underlying37 rfl zr37 lay37 (.cons rfl rfl rfl rfl (Put.cast (Put.fldS (Put.fld0 Put.here)) rfl) (.cons rfl rfl rfl rfl (Put.cast (Put.fldS (Put.fldS (Put.fldS (Put.fldS (Put.fld0 Put.here))))) rfl) (.cons rfl rfl rfl rfl (Put.cast (Put.fldS (Put.fldS (Put.fld0 Put.here))) rfl) (.cons rfl rfl rfl rfl (Put.cast (Put.fldS (Put.fldS (Put.fldS (Put.fldS (Put.fldS (Put.fld0 Put.here)))))) rfl) .nil)))) rfl) ?_
  refine AO.lit (Z := (.st [(1, (eI64 (0 : Int))), (1, (eStr ByteArray.empty)), (1, (.fl (.slice none 0 0))), (1, (eBool false)), (1, (eI64 (0 : Int))), (1, (.fl (.slice none 0 0)))])) (xs := (([(S37.mk (0 : Int) (ByteArray.mk #[65, 100, 100]) [(S41.mk true (0 : Int)), (S41.mk false (0 : Int)), (S41.mk true (0 : Int))] false (-1 : Int) [(0 : Int), (0 : Int)])] : List S37).map e37)) (qs := [(0, (e37 (S37.mk (0 : Int) (ByteArray.mk #[65, 100, 100]) [(S41.mk true (0 : Int)), (S41.mk false (0 : Int)), (S41.mk true (0 : Int))] false (-1 : Int) [(0 : Int), (0 : Int)])))]) rfl 11 rfl (by decide) rfl ⟨rfl, rfl, rfl, trivial⟩ Try.underlying24 sz37 zr37 lay37 rfl (by decide) (litOK (z := 6) [(e37 (S37.mk (0 : Int) (ByteArray.mk #[65, 100, 100]) [(S41.mk true (0 : Int)), (S41.mk false (0 : Int)), (S41.mk true (0 : Int))] false (-1 : Int) [(0 : Int), (0 : Int)]))] rfl ⟨⟨rfl, rfl⟩, trivial⟩) rfl fun n5 => ?_
  refine AO.freezeS 2 [(3, (.fz 3 (([(S82.mk (ByteArray.mk #[80, 76, 85, 83]) (0 : Int) (ByteArray.mk #[92, 43]))] : List S82).map e82)))] rfl ⟨fz_all rfl, trivial⟩ ?_
  refine AO.c (x := .st [(1, (.fz 3 (([(S82.mk (ByteArray.mk #[80, 76, 85, 83]) (0 : Int) (ByteArray.mk #[92, 43]))] : List S82).map e82))), (1, (.own n2 0 ([(ByteArray.mk #[69])] : List ByteArray).length)), (1, (.own n5 0 ([(S37.mk (0 : Int) (ByteArray.mk #[65, 100, 100]) [(S41.mk true (0 : Int)), (S41.mk false (0 : Int)), (S41.mk true (0 : Int))] false (-1 : Int) [(0 : Int), (0 : Int)])] : List S37).length)), (1, (.fl (.slice none 0 0))), (1, (eI64 (0 : Int)))]) (Calm.build (qs := [(0, (.fz 3 (([(S82.mk (ByteArray.mk #[80, 76, 85, 83]) (0 : Int) (ByteArray.mk #[92, 43]))] : List S82).map e82))), (1, (.own n2 0 ([(ByteArray.mk #[69])] : List ByteArray).length)), (2, (.own n5 0 ([(S37.mk (0 : Int) (ByteArray.mk #[65, 100, 100]) [(S41.mk true (0 : Int)), (S41.mk false (0 : Int)), (S41.mk true (0 : Int))] false (-1 : Int) [(0 : Int), (0 : Int)])] : List S37).length))]) rfl ⟨rfl, rfl, rfl, rfl, rfl, rfl, rfl, rfl, rfl, trivial⟩ Try.underlying27 rfl zr27 lay27 (.cons rfl rfl rfl rfl (Put.cast (Put.fld0 Put.here) rfl) (.cons rfl rfl rfl rfl (Put.cast (Put.fldS (Put.fld0 Put.here)) rfl) (.cons rfl rfl rfl rfl (Put.cast (Put.fldS (Put.fldS (Put.fld0 Put.here))) rfl) .nil))) rfl) ?_
  refine AO.alloc rfl 1 rfl (by decide) rfl zr27 lay27 fun n6 => ?_
  refine AO.store (X' := (.st [(1, (.fz 3 (([(S82.mk (ByteArray.mk #[80, 76, 85, 83]) (0 : Int) (ByteArray.mk #[92, 43]))] : List S82).map e82))), (1, (.own n2 0 ([(ByteArray.mk #[69])] : List ByteArray).length)), (1, (.own n5 0 ([(S37.mk (0 : Int) (ByteArray.mk #[65, 100, 100]) [(S41.mk true (0 : Int)), (S41.mk false (0 : Int)), (S41.mk true (0 : Int))] false (-1 : Int) [(0 : Int), (0 : Int)])] : List S37).length)), (1, (.fl (.slice none 0 0))), (1, (eI64 (0 : Int)))])) 0 rfl rfl rfl rfl rfl rfl (Put.cast Put.here rfl) rfl rfl sz27 rfl ?_
  refine AO.nH [1] (H' := [(n6, (.mem (.st [(1, (.fz 3 (([(S82.mk (ByteArray.mk #[80, 76, 85, 83]) (0 : Int) (ByteArray.mk #[92, 43]))] : List S82).map e82))), (1, (.own n2 0 ([(ByteArray.mk #[69])] : List ByteArray).length)), (1, (.own n5 0 ([(S37.mk (0 : Int) (ByteArray.mk #[65, 100, 100]) [(S41.mk true (0 : Int)), (S41.mk false (0 : Int)), (S41.mk true (0 : Int))] false (-1 : Int) [(0 : Int), (0 : Int)])] : List S37).length)), (1, (.fl (.slice none 0 0))), (1, (eI64 (0 : Int)))]))), (n2, (.mem (.ar 1 (([(ByteArray.mk #[69])] : List ByteArray).map eStr)))), (n5, (.mem (.ar 6 (([(S37.mk (0 : Int) (ByteArray.mk #[65, 100, 100]) [(S41.mk true (0 : Int)), (S41.mk false (0 : Int)), (S41.mk true (0 : Int))] false (-1 : Int) [(0 : Int), (0 : Int)])] : List S37).map e37))))]) (Sub.cons 0 rfl (Sub.cons 1 rfl (Sub.cons 0 rfl (Sub.nil _)))) ?_
  refine AW.seq ?_
  obtain ⟨b7, hq8, h⟩ := of_bind h
  refine AW.regM [(0, (eBool b7))] [] ?_ ?_
  ·refine AO.freezeFld (X' := (.st [(1, (.fz 3 (([(S82.mk (ByteArray.mk #[80, 76, 85, 83]) (0 : Int) (ByteArray.mk #[92, 43]))] : List S82).map e82))), (1, (.fz 1 (([(ByteArray.mk #[69])] : List ByteArray).map eStr))), (1, (.own n5 0 ([(S37.mk (0 : Int) (ByteArray.mk #[65, 100, 100]) [(S41.mk true (0 : Int)), (S41.mk false (0 : Int)), (S41.mk true (0 : Int))] false (-1 : Int) [(0 : Int), (0 : Int)])] : List S37).length)), (1, (.fl (.slice none 0 0))), (1, (eI64 (0 : Int)))])) (els' := (([(ByteArray.mk #[69])] : List ByteArray).map eStr)) 1 0 rfl rfl (Put.cast (Put.fldS (Put.fld0 Put.here)) rfl) (by simp) (by rw [own_all]) rfl rfl (by decide) ?_
   refine AO.freezeFld (X' := (.st [(1, (.fz 3 (([(S82.mk (ByteArray.mk #[80, 76, 85, 83]) (0 : Int) (ByteArray.mk #[92, 43]))] : List S82).map e82))), (1, (.fz 1 (([(ByteArray.mk #[69])] : List ByteArray).map eStr))), (1, (.fz 6 (([(S37.mk (0 : Int) (ByteArray.mk #[65, 100, 100]) [(S41.mk true (0 : Int)), (S41.mk false (0 : Int)), (S41.mk true (0 : Int))] false (-1 : Int) [(0 : Int), (0 : Int)])] : List S37).map e37))), (1, (.fl (.slice none 0 0))), (1, (eI64 (0 : Int)))])) (els' := (([(S37.mk (0 : Int) (ByteArray.mk #[65, 100, 100]) [(S41.mk true (0 : Int)), (S41.mk false (0 : Int)), (S41.mk true (0 : Int))] false (-1 : Int) [(0 : Int), (0 : Int)])] : List S37).map e37)) 1 0 rfl rfl (Put.cast (Put.fldS (Put.fldS (Put.fld0 Put.here))) rfl) (by simp) (by rw [own_all]) rfl rfl (by decide) ?_
   refine AO.coeFld (X' := (.st [(1, (.fz 3 (([(S82.mk (ByteArray.mk #[80, 76, 85, 83]) (0 : Int) (ByteArray.mk #[92, 43]))] : List S82).map e82))), (1, (.fz 1 (([(ByteArray.mk #[69])] : List ByteArray).map eStr))), (1, (.fz 6 (([(S37.mk (0 : Int) (ByteArray.mk #[65, 100, 100]) [(S41.mk true (0 : Int)), (S41.mk false (0 : Int)), (S41.mk true (0 : Int))] false (-1 : Int) [(0 : Int), (0 : Int)])] : List S37).map e37))), (1, (.fz 2 (([] : List S86).map e86))), (1, (eI64 (0 : Int)))])) 0 rfl (Put.cast (Put.fldS (Put.fldS (Put.fldS (Put.fld0 Put.here)))) rfl) rfl (nil_fz 2) rfl rfl ?_
   refine AO.c (x := e27 (S27.mk [(S82.mk (ByteArray.mk #[80, 76, 85, 83]) (0 : Int) (ByteArray.mk #[92, 43]))] ([(ByteArray.mk #[69])] : List ByteArray) ([(S37.mk (0 : Int) (ByteArray.mk #[65, 100, 100]) [(S41.mk true (0 : Int)), (S41.mk false (0 : Int)), (S41.mk true (0 : Int))] false (-1 : Int) [(0 : Int), (0 : Int)])] : List S37) ([] : List S86) (0 : Int))) (Calm.load 0 rfl rfl rfl (At.cast At.here rfl) ag27 sz27) ?_
   obtain ⟨t9, et9, hq8⟩ := of_bind hq8
   refine AO.callS [(e27 (S27.mk [(S82.mk (ByteArray.mk #[80, 76, 85, 83]) (0 : Int) (ByteArray.mk #[92, 43]))] ([(ByteArray.mk #[69])] : List ByteArray) ([(S37.mk (0 : Int) (ByteArray.mk #[65, 100, 100]) [(S41.mk true (0 : Int)), (S41.mk false (0 : Int)), (S41.mk true (0 : Int))] false (-1 : Int) [(0 : Int), (0 : Int)])] : List S37) ([] : List S86) (0 : Int))), (eI64 (0 : Int))] (eStr t9) 14 rfl (by decide) ok21 rfl rfl rfl ⟨rfl, rfl, rfl, rfl, trivial⟩ (gram_Line_spec et9) ?_
   refine AO.c (x := eBool (decide (t9 = (ByteArray.mk #[69, 46, 65, 100, 100, 32, 61, 32, 69, 32, 80, 76, 85, 83, 32, 69])))) (Calm.str rfl rfl rfl rfl) ?_
   refine AO.c (Calm.move rfl rfl) ?_
   rcases of_ite hq8 with ⟨hc10, hq8⟩ | ⟨hc10, hq8⟩
   ·refine AO.cG rfl rfl (bD (decide_eq_true hc10)) (Calm.load 0 rfl rfl rfl (At.cast At.here rfl) ag27 sz27) ?_
    obtain ⟨t11, et11, hq8⟩ := of_bind hq8
    refine AO.callG 3 true 16 [(e27 (S27.mk [(S82.mk (ByteArray.mk #[80, 76, 85, 83]) (0 : Int) (ByteArray.mk #[92, 43]))] ([(ByteArray.mk #[69])] : List ByteArray) ([(S37.mk (0 : Int) (ByteArray.mk #[65, 100, 100]) [(S41.mk true (0 : Int)), (S41.mk false (0 : Int)), (S41.mk true (0 : Int))] false (-1 : Int) [(0 : Int), (0 : Int)])] : List S37) ([] : List S86) (0 : Int)))] (e32 t11) 18 rfl (by decide) ok11 rfl rfl (bD (decide_eq_true hc10)) rfl rfl ⟨rfl, rfl, trivial⟩ (gram_Check_spec et11) ?_
    refine AO.cG (x := .st [(1, (eI64 (0 : Int))), (1, (eI64 (0 : Int))), (1, (eI64 (0 : Int)))]) rfl rfl (bD (decide_eq_true hc10)) (Calm.build (qs := []) rfl trivial Try.underlying32 rfl zr32 lay32 .nil rfl) ?_
    refine AO.cG (x := eBool (decide (t11 = (S32.mk (0 : Int) (0 : Int) (0 : Int))))) rfl rfl (bD (decide_eq_true hc10)) (Calm.eqS rfl rfl rfl eg32 (eqk32 t11 (S32.mk (0 : Int) (0 : Int) (0 : Int))) (by decide)) ?_
    refine AO.c (Calm.pickT rfl (bD (decide_eq_true hc10)) rfl) ?_
    refine AO.c (Calm.assign rfl rfl) ?_
    cases hq8
    refine AO.nilE ⟨rfl, rfl⟩ ?_ ?_
    · exact ⟨rfl, trivial⟩
    · exact (Sub.nil _)
   ·refine AO.sT rfl rfl (bD (decide_eq_false hc10)) ?_
    refine AO.sT rfl rfl (bD (decide_eq_false hc10)) ?_
    refine AO.sT rfl rfl (bD (decide_eq_false hc10)) ?_
    refine AO.sT rfl rfl (bD (decide_eq_false hc10)) ?_
    refine AO.c (Calm.pickF rfl (bD (decide_eq_false hc10)) rfl) ?_
    refine AO.c (Calm.assign rfl rfl) ?_
    cases hq8
    refine AO.nilE ⟨rfl, rfl⟩ ?_ ?_
    · exact ⟨rfl, trivial⟩
    · exact (Sub.nil _)
  ·refine AW.rK [0] ?_
   have hr := Option.some.inj h
   subst hr
   exact ⟨[(eBool b7)], ⟨rfl, rfl, trivial⟩, rfl⟩
end Go.Avl.T7
/- bosket/bosketlaw11.Few; printed by avmain.py. -/
namespace Go.Avl.T7
open Go Go.RowKit Go.Proofs Go.Avl
set_option linter.unusedVariables false
set_option maxRecDepth 100000
set_option maxHeartbeats 4000000
attribute [local irreducible] AW AO AQ Spec SpecH Calm

def bosketlaw11_Few_c0 (k : Nat) : Option Bool :=
  some (true)
def bosketlaw11_Few_l1 (k : Nat) (p0 : (List S82)) : Nat → Int → Option Bool
  | 0, _ => none
  | j + 1, x3 =>
    if x3 < (p0.length : Int) then Option.bind (α := Bool) (if 0 ≤ x3 ∧ x3 < (p0.length : Int) then if (40 : Int) < (((lget p0 x3).f2).size : Int) then some (true)
    else if 0 ≤ x3 ∧ x3 < (p0.length : Int) then some (decide ((100 : Int) < (((lget p0 x3).f0).size : Int)))
    else none
    else none) fun b7 =>
    if b7 = true then some (false)
    else (bosketlaw11_Few_l1 k p0 j) (w64 (x3 + (1 : Int)))
    else bosketlaw11_Few_c0 k
def bosketlaw11_Few (k : Nat) (p0 : (List S82)) : Option Bool :=
  if (20 : Int) < (p0.length : Int) then some (false)
  else bosketlaw11_Few_l1 k p0 k (0 : Int)
theorem bosketlaw11_Few_spec {k : Nat} {p0 : (List S82)} {r : Bool} (h : bosketlaw11_Few k p0 = some r) : Spec Try.prog 38 [(.fz 3 (p0.map e82))] (eBool r) := by
  rw [bosketlaw11_Few.eq_1] at h
  refine Spec.intro (res := [.tmp 2]) Try.func38 rfl rfl rfl (Nat.le_of_ble_eq_true rfl) ?_
  refine AW.sr ?_
  refine AO.c (Calm.assign rfl rfl) ?_
  refine AO.nK [0] ?_
  refine AW.seq ?_
  refine AW.sr ?_
  refine AO.c (Calm.move rfl rfl) ?_
  refine AO.c (Calm.lenL rfl rfl Try.underlying22) ?_
  refine AO.c (x := eBool (decide ((20 : Int) < (p0.length : Int)))) (Calm.int rfl rfl rfl rfl) ?_
  refine AO.nK [0, 6] ?_
  rcases of_ite h with ⟨hc2, h⟩ | ⟨hc2, h⟩
  ·refine AW.condP _ rfl hc2 ?_
   refine AW.sr ?_
   refine AO.c (Calm.assign rfl rfl) ?_
   refine AO.nK [2] ?_
   refine AW.rK [2] ?_
   have hr := Option.some.inj h
   subst hr
   exact ⟨[(eBool false)], ⟨rfl, rfl, trivial⟩, rfl⟩
  ·refine AW.condN _ rfl hc2 ?_
   refine AW.sK [0] ?_
   refine AW.seq_mid (fun ρ H => ρ = [] ∧ H = [] ∧ bosketlaw11_Few_c0 k = some r) ?_ ?_
   ·refine AW.sr ?_
    refine AO.c (Calm.assign rfl rfl) ?_
    refine AO.nK [0, 3] ?_
    refine AW.block ?_
    refine AW.wK [0, 3] ?_
    refine AW.loop (fun kq ρ H => ∃ (x3 : Int), ρ = [(0, (.fz 3 (p0.map e82))), (3, (eI64 x3))] ∧ H = [] ∧ bosketlaw11_Few_l1 k p0 kq x3 = some r) k ⟨(0 : Int), rfl, rfl, h⟩ ?_
    rintro kq5 _ _ ⟨x3, rfl, rfl, h⟩
    cases kq5 with
    | zero => rw [bosketlaw11_Few_l1.eq_1] at h; cases h
    | succ kq5 =>
    rw [bosketlaw11_Few_l1.eq_2] at h
    generalize hrec4 : bosketlaw11_Few_l1 k p0 kq5 = rec4 at h
    refine AW.seq ?_
    refine AW.sr ?_
    refine AO.c (Calm.move rfl rfl) ?_
    refine AO.c (Calm.move rfl rfl) ?_
    refine AO.c (Calm.lenL rfl rfl Try.underlying22) ?_
    refine AO.c (x := eBool (decide (x3 < (p0.length : Int)))) (Calm.int rfl rfl rfl rfl) ?_
    refine AO.nK [0, 3, 10] ?_
    rcases of_ite h with ⟨hc6, h⟩ | ⟨hc6, h⟩
    ·refine AW.condP _ rfl hc6 ?_
     refine AW.sK [0, 3] ?_
     refine AW.seq ?_
     refine AW.block ?_
     refine AW.seq ?_
     obtain ⟨b7, hq8, h⟩ := of_bind h
     refine AW.regM [(0, (.fz 3 (p0.map e82))), (3, (eI64 x3)), (28, (eBool b7))] [] ?_ ?_
     ·refine AO.c (Calm.move rfl rfl) ?_
      refine AO.c (Calm.move rfl rfl) ?_
      obtain ⟨hg9, hq8⟩ := of_guard hq8
      refine AO.c (Calm.idxL (f := e82) rfl rfl rfl hg9 Try.underlying22 sz82) ?_
      refine AO.c (Calm.fldRp rfl rfl Try.underlying82 rfl sz9 (At.cast (At.fldS (At.fldS (At.fld0 At.here))) rfl)) ?_
      refine AO.c (Calm.loadRp rfl rfl ag9 sz9) ?_
      refine AO.c (Calm.lenStr rfl rfl Try.underlying9) ?_
      refine AO.c (x := eBool (decide ((40 : Int) < (((lget p0 x3).f2).size : Int)))) (Calm.int rfl rfl rfl rfl) ?_
      refine AO.c (Calm.move rfl rfl) ?_
      rcases of_ite hq8 with ⟨hc10, hq8⟩ | ⟨hc10, hq8⟩
      ·refine AO.sF rfl rfl (bD (decide_eq_true hc10)) ?_
       refine AO.sF rfl rfl (bD (decide_eq_true hc10)) ?_
       refine AO.sF rfl rfl (bD (decide_eq_true hc10)) ?_
       refine AO.sF rfl rfl (bD (decide_eq_true hc10)) ?_
       refine AO.sF rfl rfl (bD (decide_eq_true hc10)) ?_
       refine AO.sF rfl rfl (bD (decide_eq_true hc10)) ?_
       refine AO.sF rfl rfl (bD (decide_eq_true hc10)) ?_
       refine AO.c (Calm.pickT rfl (bD (decide_eq_true hc10)) rfl) ?_
       cases hq8
       refine AO.nilE ⟨rfl, rfl⟩ ?_ ?_
       · exact ⟨rfl, rfl, rfl, trivial⟩
       · exact (Sub.refl _)
      ·refine AO.cG rfl rfl (bD (decide_eq_false hc10)) (Calm.move rfl rfl) ?_
       refine AO.cG rfl rfl (bD (decide_eq_false hc10)) (Calm.move rfl rfl) ?_
       obtain ⟨hg11, hq8⟩ := of_guard hq8
       refine AO.cG rfl rfl (bD (decide_eq_false hc10)) (Calm.idxL (f := e82) rfl rfl rfl hg11 Try.underlying22 sz82) ?_
       refine AO.cG rfl rfl (bD (decide_eq_false hc10)) (Calm.fldRp rfl rfl Try.underlying82 rfl sz9 (At.cast (At.fld0 At.here) rfl)) ?_
       refine AO.cG rfl rfl (bD (decide_eq_false hc10)) (Calm.loadRp rfl rfl ag9 sz9) ?_
       refine AO.cG rfl rfl (bD (decide_eq_false hc10)) (Calm.lenStr rfl rfl Try.underlying9) ?_
       refine AO.cG (x := eBool (decide ((100 : Int) < (((lget p0 x3).f0).size : Int)))) rfl rfl (bD (decide_eq_false hc10)) (Calm.int rfl rfl rfl rfl) ?_
       refine AO.c (Calm.pickF rfl (bD (decide_eq_false hc10)) rfl) ?_
       cases hq8
       refine AO.nilE ⟨rfl, rfl⟩ ?_ ?_
       · exact ⟨rfl, rfl, rfl, trivial⟩
       · exact (Sub.refl _)
     ·rcases of_ite h with ⟨hc12, h⟩ | ⟨hc12, h⟩
      ·refine AW.condT' _ rfl hc12 ?_
       refine AW.sr ?_
       refine AO.c (Calm.assign rfl rfl) ?_
       refine AO.nK [2] ?_
       refine AW.rK [2] ?_
       have hr := Option.some.inj h
       subst hr
       exact ⟨[(eBool false)], ⟨rfl, rfl, trivial⟩, rfl⟩
      ·refine AW.condF' _ rfl hc12 ?_
       refine AW.sK [0, 3] ?_
       refine AW.reg ?_
       refine AO.c (Calm.move rfl rfl) ?_
       refine AO.c (x := eI64 (w64 (x3 + (1 : Int)))) (Calm.int rfl rfl rfl rfl) ?_
       refine AO.c (Calm.assign rfl rfl) ?_
       refine AO.nK [0, 3] ?_
       exact ⟨kq5, Nat.lt_succ_self _, (w64 (x3 + (1 : Int))), rfl, rfl, by rw [hrec4]; exact h⟩
    ·refine AW.condN _ rfl hc6 ?_
     refine AW.eK [] ?_
     exact ⟨rfl, rfl, h⟩
   ·rintro _ _ ⟨rfl, rfl, h⟩
    rw [bosketlaw11_Few_c0.eq_1] at h
    refine AW.sr ?_
    refine AO.c (Calm.assign rfl rfl) ?_
    refine AO.nK [2] ?_
    refine AW.rK [2] ?_
    have hr := Option.some.inj h
    subst hr
    exact ⟨[(eBool true)], ⟨rfl, rfl, trivial⟩, rfl⟩
end Go.Avl.T7
/- bosket/bosketlaw17.Few; printed by avmain.py. -/
namespace Go.Avl.T7
open Go Go.RowKit Go.Proofs Go.Avl
set_option linter.unusedVariables false
set_option maxRecDepth 100000
set_option maxHeartbeats 4000000
attribute [local irreducible] AW AO AQ Spec SpecH Calm

def bosketlaw17_Few_c0 (k : Nat) : Option Bool :=
  some (true)
def bosketlaw17_Few_l1 (k : Nat) (p0 : S27) : Nat → Int → Option Bool
  | 0, _ => none
  | j + 1, x10 =>
    if x10 < (p0.f3.length : Int) then if 0 ≤ x10 ∧ x10 < (p0.f3.length : Int) then if (20 : Int) < (((lget p0.f3 x10).f1).length : Int) then some (false)
    else (bosketlaw17_Few_l1 k p0 j) (w64 (x10 + (1 : Int)))
    else none
    else bosketlaw17_Few_c0 k
def bosketlaw17_Few_c2 (k : Nat) (p0 : S27) : Option Bool :=
  bosketlaw17_Few_l1 k p0 k (0 : Int)
def bosketlaw17_Few_l3 (k : Nat) (p0 : S27) : Nat → Int → Option Bool
  | 0, _ => none
  | j + 1, x16 =>
    if x16 < (p0.f2.length : Int) then Option.bind (α := Bool) (if 0 ≤ x16 ∧ x16 < (p0.f2.length : Int) then if (20 : Int) < (((lget p0.f2 x16).f2).length : Int) then some (true)
    else if 0 ≤ x16 ∧ x16 < (p0.f2.length : Int) then if (20 : Int) < (((lget p0.f2 x16).f5).length : Int) then some (true)
    else if 0 ≤ x16 ∧ x16 < (p0.f2.length : Int) then some (decide ((100 : Int) < (((lget p0.f2 x16).f1).size : Int)))
    else none
    else none
    else none) fun b20 =>
    if b20 = true then some (false)
    else (bosketlaw17_Few_l3 k p0 j) (w64 (x16 + (1 : Int)))
    else bosketlaw17_Few_c2 k p0
def bosketlaw17_Few_c4 (k : Nat) (p0 : S27) : Option Bool :=
  bosketlaw17_Few_l3 k p0 k (0 : Int)
def bosketlaw17_Few_l5 (k : Nat) (p0 : S27) : Nat → Int → Option Bool
  | 0, _ => none
  | j + 1, x28 =>
    if x28 < (p0.f1.length : Int) then if 0 ≤ x28 ∧ x28 < (p0.f1.length : Int) then if (100 : Int) < ((lget p0.f1 x28).size : Int) then some (false)
    else (bosketlaw17_Few_l5 k p0 j) (w64 (x28 + (1 : Int)))
    else none
    else bosketlaw17_Few_c4 k p0
def bosketlaw17_Few (k : Nat) (p0 : S27) : Option Bool :=
  Option.bind (α := Bool) ((bosketlaw11_Few k p0.f0).bind fun t5 =>
  if (!t5) = true then some (true)
  else if (20 : Int) < (p0.f1.length : Int) then some (true)
  else if (40 : Int) < (p0.f2.length : Int) then some (true)
  else some (decide ((20 : Int) < (p0.f3.length : Int)))) fun b3 =>
  if b3 = true then some (false)
  else bosketlaw17_Few_l5 k p0 k (0 : Int)
theorem bosketlaw17_Few_spec {k : Nat} {p0 : S27} {r : Bool} (h : bosketlaw17_Few k p0 = some r) : Spec Try.prog 10 [(e27 p0)] (eBool r) := by
  rw [bosketlaw17_Few.eq_1] at h
  refine Spec.intro (res := [.tmp 2]) Try.func10 rfl rfl rfl (Nat.le_of_ble_eq_true rfl) ?_
  refine AW.sr ?_
  refine AO.box rfl 1 rfl (by decide) rfl rfl rfl fun n2 => ?_
  refine AO.c (Calm.assign rfl rfl) ?_
  refine AO.nK [1] ?_
  refine AW.seq ?_
  refine AW.seq ?_
  obtain ⟨b3, hq4, h⟩ := of_bind h
  refine AW.regM [(1, (.ptr n2 0)), (27, (eBool b3))] [(n2, (.mem (e27 p0)))] ?_ ?_
  ·refine AO.c (x := .ptr n2 0) (Calm.fldPtr rfl rfl Try.underlying27 rfl sz22 _ rfl) ?_
   refine AO.c (Calm.load 0 rfl rfl rfl (At.cast (At.fld0 At.here) rfl) ag22 sz22) ?_
   obtain ⟨t5, et5, hq4⟩ := of_bind hq4
   refine AO.callS [(.fz 3 (p0.f0.map e82))] (eBool t5) 8 rfl (by decide) ok38 rfl rfl rfl ⟨rfl, rfl, trivial⟩ (bosketlaw11_Few_spec et5) ?_
   refine AO.c (Calm.not rfl rfl) ?_
   refine AO.c (Calm.move rfl rfl) ?_
   rcases of_ite hq4 with ⟨hc6, hq4⟩ | ⟨hc6, hq4⟩
   ·refine AO.sF rfl rfl (bD hc6) ?_
    refine AO.sF rfl rfl (bD hc6) ?_
    refine AO.sF rfl rfl (bD hc6) ?_
    refine AO.sF rfl rfl (bD hc6) ?_
    refine AO.c (Calm.pickT rfl (bD hc6) rfl) ?_
    refine AO.c (Calm.move rfl rfl) ?_
    refine AO.sF rfl rfl rfl ?_
    refine AO.sF rfl rfl rfl ?_
    refine AO.sF rfl rfl rfl ?_
    refine AO.sF rfl rfl rfl ?_
    refine AO.c (Calm.pickT rfl rfl rfl) ?_
    refine AO.c (Calm.move rfl rfl) ?_
    refine AO.sF rfl rfl rfl ?_
    refine AO.sF rfl rfl rfl ?_
    refine AO.sF rfl rfl rfl ?_
    refine AO.sF rfl rfl rfl ?_
    refine AO.c (Calm.pickT rfl rfl rfl) ?_
    cases hq4
    refine AO.nilE ⟨rfl, rfl⟩ ?_ ?_
    · exact ⟨rfl, rfl, trivial⟩
    · exact (Sub.refl _)
   ·refine AO.cG (x := .ptr n2 1) rfl rfl (bD (eq_false_of_ne_true hc6)) (Calm.fldPtr rfl rfl Try.underlying27 rfl sz23 _ rfl) ?_
    refine AO.cG rfl rfl (bD (eq_false_of_ne_true hc6)) (Calm.load 0 rfl rfl rfl (At.cast (At.fldS (At.fld0 At.here)) rfl) ag23 sz23) ?_
    refine AO.cG rfl rfl (bD (eq_false_of_ne_true hc6)) (Calm.lenL rfl rfl Try.underlying23) ?_
    refine AO.cG (x := eBool (decide ((20 : Int) < (p0.f1.length : Int)))) rfl rfl (bD (eq_false_of_ne_true hc6)) (Calm.int rfl rfl rfl rfl) ?_
    refine AO.c (Calm.pickF rfl (bD (eq_false_of_ne_true hc6)) rfl) ?_
    refine AO.c (Calm.move rfl rfl) ?_
    rcases of_ite hq4 with ⟨hc7, hq4⟩ | ⟨hc7, hq4⟩
    ·refine AO.sF rfl rfl (bD (decide_eq_true hc7)) ?_
     refine AO.sF rfl rfl (bD (decide_eq_true hc7)) ?_
     refine AO.sF rfl rfl (bD (decide_eq_true hc7)) ?_
     refine AO.sF rfl rfl (bD (decide_eq_true hc7)) ?_
     refine AO.c (Calm.pickT rfl (bD (decide_eq_true hc7)) rfl) ?_
     refine AO.c (Calm.move rfl rfl) ?_
     refine AO.sF rfl rfl rfl ?_
     refine AO.sF rfl rfl rfl ?_
     refine AO.sF rfl rfl rfl ?_
     refine AO.sF rfl rfl rfl ?_
     refine AO.c (Calm.pickT rfl rfl rfl) ?_
     cases hq4
     refine AO.nilE ⟨rfl, rfl⟩ ?_ ?_
     · exact ⟨rfl, rfl, trivial⟩
     · exact (Sub.refl _)
    ·refine AO.cG (x := .ptr n2 2) rfl rfl (bD (decide_eq_false hc7)) (Calm.fldPtr rfl rfl Try.underlying27 rfl sz24 _ rfl) ?_
     refine AO.cG rfl rfl (bD (decide_eq_false hc7)) (Calm.load 0 rfl rfl rfl (At.cast (At.fldS (At.fldS (At.fld0 At.here))) rfl) ag24 sz24) ?_
     refine AO.cG rfl rfl (bD (decide_eq_false hc7)) (Calm.lenL rfl rfl Try.underlying24) ?_
     refine AO.cG (x := eBool (decide ((40 : Int) < (p0.f2.length : Int)))) rfl rfl (bD (decide_eq_false hc7)) (Calm.int rfl rfl rfl rfl) ?_
     refine AO.c (Calm.pickF rfl (bD (decide_eq_false hc7)) rfl) ?_
     refine AO.c (Calm.move rfl rfl) ?_
     rcases of_ite hq4 with ⟨hc8, hq4⟩ | ⟨hc8, hq4⟩
     ·refine AO.sF rfl rfl (bD (decide_eq_true hc8)) ?_
      refine AO.sF rfl rfl (bD (decide_eq_true hc8)) ?_
      refine AO.sF rfl rfl (bD (decide_eq_true hc8)) ?_
      refine AO.sF rfl rfl (bD (decide_eq_true hc8)) ?_
      refine AO.c (Calm.pickT rfl (bD (decide_eq_true hc8)) rfl) ?_
      cases hq4
      refine AO.nilE ⟨rfl, rfl⟩ ?_ ?_
      · exact ⟨rfl, rfl, trivial⟩
      · exact (Sub.refl _)
     ·refine AO.cG (x := .ptr n2 3) rfl rfl (bD (decide_eq_false hc8)) (Calm.fldPtr rfl rfl Try.underlying27 rfl sz25 _ rfl) ?_
      refine AO.cG rfl rfl (bD (decide_eq_false hc8)) (Calm.load 0 rfl rfl rfl (At.cast (At.fldS (At.fldS (At.fldS (At.fld0 At.here)))) rfl) ag25 sz25) ?_
      refine AO.cG rfl rfl (bD (decide_eq_false hc8)) (Calm.lenL rfl rfl Try.underlying25) ?_
      refine AO.cG (x := eBool (decide ((20 : Int) < (p0.f3.length : Int)))) rfl rfl (bD (decide_eq_false hc8)) (Calm.int rfl rfl rfl rfl) ?_
      refine AO.c (Calm.pickF rfl (bD (decide_eq_false hc8)) rfl) ?_
      cases hq4
      refine AO.nilE ⟨rfl, rfl⟩ ?_ ?_
      · exact ⟨rfl, rfl, trivial⟩
      · exact (Sub.refl _)
  ·rcases of_ite h with ⟨hc9, h⟩ | ⟨hc9, h⟩
   ·refine AW.condT' _ rfl hc9 ?_
    refine AW.sr ?_
    refine AO.c (Calm.assign rfl rfl) ?_
    refine AO.nH [2] (H' := []) (Sub.nil _) ?_
    refine AW.rK [2] ?_
    have hr := Option.some.inj h
    subst hr
    exact ⟨[(eBool false)], ⟨rfl, rfl, trivial⟩, rfl⟩
   ·refine AW.condF' _ rfl hc9 ?_
    refine AW.sK [1] ?_
    refine AW.seq_mid (fun ρ H => ρ = [(1, (.ptr n2 0))] ∧ H = [(n2, (.mem (e27 p0)))] ∧ bosketlaw17_Few_c4 k p0 = some r) ?_ ?_
    ·refine AW.sr ?_
     refine AO.c (Calm.assign rfl rfl) ?_
     refine AO.nK [1, 3] ?_
     refine AW.block ?_
     refine AW.wK [1, 3] ?_
     refine AW.loop (fun kq ρ H => ∃ (x28 : Int), ρ = [(1, (.ptr n2 0)), (3, (eI64 x28))] ∧ H = [(n2, (.mem (e27 p0)))] ∧ bosketlaw17_Few_l5 k p0 kq x28 = some r) k ⟨(0 : Int), rfl, rfl, h⟩ ?_
     rintro kq30 _ _ ⟨x28, rfl, rfl, h⟩
     cases kq30 with
     | zero => rw [bosketlaw17_Few_l5.eq_1] at h; cases h
     | succ kq30 =>
     rw [bosketlaw17_Few_l5.eq_2] at h
     generalize hrec29 : bosketlaw17_Few_l5 k p0 kq30 = rec29 at h
     refine AW.seq ?_
     refine AW.sr ?_
     refine AO.c (Calm.move rfl rfl) ?_
     refine AO.c (x := .ptr n2 1) (Calm.fldPtr rfl rfl Try.underlying27 rfl sz23 _ rfl) ?_
     refine AO.c (Calm.load 0 rfl rfl rfl (At.cast (At.fldS (At.fld0 At.here)) rfl) ag23 sz23) ?_
     refine AO.c (Calm.lenL rfl rfl Try.underlying23) ?_
     refine AO.c (x := eBool (decide (x28 < (p0.f1.length : Int)))) (Calm.int rfl rfl rfl rfl) ?_
     refine AO.nK [1, 3, 32] ?_
     rcases of_ite h with ⟨hc31, h⟩ | ⟨hc31, h⟩
     ·refine AW.condP _ rfl hc31 ?_
      refine AW.sK [1, 3] ?_
      refine AW.seq ?_
      refine AW.block ?_
      refine AW.sr ?_
      refine AO.c (x := .ptr n2 1) (Calm.fldPtr rfl rfl Try.underlying27 rfl sz23 _ rfl) ?_
      refine AO.c (Calm.load 0 rfl rfl rfl (At.cast (At.fldS (At.fld0 At.here)) rfl) ag23 sz23) ?_
      refine AO.c (Calm.move rfl rfl) ?_
      obtain ⟨hg32, h⟩ := of_guard h
      refine AO.c (Calm.idxL (f := eStr) rfl rfl rfl hg32 Try.underlying23 sz9) ?_
      refine AO.c (Calm.loadRp rfl rfl ag9 sz9) ?_
      refine AO.c (Calm.lenStr rfl rfl Try.underlying9) ?_
      refine AO.c (x := eBool (decide ((100 : Int) < ((lget p0.f1 x28).size : Int)))) (Calm.int rfl rfl rfl rfl) ?_
      refine AO.nK [1, 3, 41] ?_
      rcases of_ite h with ⟨hc33, h⟩ | ⟨hc33, h⟩
      ·refine AW.condP _ rfl hc33 ?_
       refine AW.sr ?_
       refine AO.c (Calm.assign rfl rfl) ?_
       refine AO.nH [2] (H' := []) (Sub.nil _) ?_
       refine AW.rK [2] ?_
       have hr := Option.some.inj h
       subst hr
       exact ⟨[(eBool false)], ⟨rfl, rfl, trivial⟩, rfl⟩
      ·refine AW.condN _ rfl hc33 ?_
       refine AW.sK [1, 3] ?_
       refine AW.reg ?_
       refine AO.c (Calm.move rfl rfl) ?_
       refine AO.c (x := eI64 (w64 (x28 + (1 : Int)))) (Calm.int rfl rfl rfl rfl) ?_
       refine AO.c (Calm.assign rfl rfl) ?_
       refine AO.nK [1, 3] ?_
       exact ⟨kq30, Nat.lt_succ_self _, (w64 (x28 + (1 : Int))), rfl, rfl, by rw [hrec29]; exact h⟩
     ·refine AW.condN _ rfl hc31 ?_
      refine AW.eK [1] ?_
      exact ⟨rfl, rfl, h⟩
    ·rintro _ _ ⟨rfl, rfl, h⟩
     rw [bosketlaw17_Few_c4.eq_1] at h
     refine AW.seq_mid (fun ρ H => ρ = [(1, (.ptr n2 0))] ∧ H = [(n2, (.mem (e27 p0)))] ∧ bosketlaw17_Few_c2 k p0 = some r) ?_ ?_
     ·refine AW.sr ?_
      refine AO.c (Calm.assign rfl rfl) ?_
      refine AO.nK [1, 4] ?_
      refine AW.block ?_
      refine AW.wK [1, 4] ?_
      refine AW.loop (fun kq ρ H => ∃ (x16 : Int), ρ = [(1, (.ptr n2 0)), (4, (eI64 x16))] ∧ H = [(n2, (.mem (e27 p0)))] ∧ bosketlaw17_Few_l3 k p0 kq x16 = some r) k ⟨(0 : Int), rfl, rfl, h⟩ ?_
      rintro kq18 _ _ ⟨x16, rfl, rfl, h⟩
      cases kq18 with
      | zero => rw [bosketlaw17_Few_l3.eq_1] at h; cases h
      | succ kq18 =>
      rw [bosketlaw17_Few_l3.eq_2] at h
      generalize hrec17 : bosketlaw17_Few_l3 k p0 kq18 = rec17 at h
      refine AW.seq ?_
      refine AW.sr ?_
      refine AO.c (Calm.move rfl rfl) ?_
      refine AO.c (x := .ptr n2 2) (Calm.fldPtr rfl rfl Try.underlying27 rfl sz24 _ rfl) ?_
      refine AO.c (Calm.load 0 rfl rfl rfl (At.cast (At.fldS (At.fldS (At.fld0 At.here))) rfl) ag24 sz24) ?_
      refine AO.c (Calm.lenL rfl rfl Try.underlying24) ?_
      refine AO.c (x := eBool (decide (x16 < (p0.f2.length : Int)))) (Calm.int rfl rfl rfl rfl) ?_
      refine AO.nK [1, 4, 46] ?_
      rcases of_ite h with ⟨hc19, h⟩ | ⟨hc19, h⟩
      ·refine AW.condP _ rfl hc19 ?_
       refine AW.sK [1, 4] ?_
       refine AW.seq ?_
       refine AW.block ?_
       refine AW.seq ?_
       obtain ⟨b20, hq21, h⟩ := of_bind h
       refine AW.regM [(1, (.ptr n2 0)), (4, (eI64 x16)), (76, (eBool b20))] [(n2, (.mem (e27 p0)))] ?_ ?_
       ·refine AO.c (x := .ptr n2 2) (Calm.fldPtr rfl rfl Try.underlying27 rfl sz24 _ rfl) ?_
        refine AO.c (Calm.load 0 rfl rfl rfl (At.cast (At.fldS (At.fldS (At.fld0 At.here))) rfl) ag24 sz24) ?_
        refine AO.c (Calm.move rfl rfl) ?_
        obtain ⟨hg22, hq21⟩ := of_guard hq21
        refine AO.c (Calm.idxL (f := e37) rfl rfl rfl hg22 Try.underlying24 sz37) ?_
        refine AO.c (Calm.fldRp rfl rfl Try.underlying37 rfl sz34 (At.cast (At.fldS (At.fldS (At.fld0 At.here))) rfl)) ?_
        refine AO.c (Calm.loadRp rfl rfl ag34 sz34) ?_
        refine AO.c (Calm.lenL rfl rfl Try.underlying34) ?_
        refine AO.c (x := eBool (decide ((20 : Int) < (((lget p0.f2 x16).f2).length : Int)))) (Calm.int rfl rfl rfl rfl) ?_
        refine AO.c (Calm.move rfl rfl) ?_
        rcases of_ite hq21 with ⟨hc23, hq21⟩ | ⟨hc23, hq21⟩
        ·refine AO.sF rfl rfl (bD (decide_eq_true hc23)) ?_
         refine AO.sF rfl rfl (bD (decide_eq_true hc23)) ?_
         refine AO.sF rfl rfl (bD (decide_eq_true hc23)) ?_
         refine AO.sF rfl rfl (bD (decide_eq_true hc23)) ?_
         refine AO.sF rfl rfl (bD (decide_eq_true hc23)) ?_
         refine AO.sF rfl rfl (bD (decide_eq_true hc23)) ?_
         refine AO.sF rfl rfl (bD (decide_eq_true hc23)) ?_
         refine AO.sF rfl rfl (bD (decide_eq_true hc23)) ?_
         refine AO.c (Calm.pickT rfl (bD (decide_eq_true hc23)) rfl) ?_
         refine AO.c (Calm.move rfl rfl) ?_
         refine AO.sF rfl rfl rfl ?_
         refine AO.sF rfl rfl rfl ?_
         refine AO.sF rfl rfl rfl ?_
         refine AO.sF rfl rfl rfl ?_
         refine AO.sF rfl rfl rfl ?_
         refine AO.sF rfl rfl rfl ?_
         refine AO.sF rfl rfl rfl ?_
         refine AO.sF rfl rfl rfl ?_
         refine AO.c (Calm.pickT rfl rfl rfl) ?_
         cases hq21
         refine AO.nilE ⟨rfl, rfl⟩ ?_ ?_
         · exact ⟨rfl, rfl, rfl, trivial⟩
         · exact (Sub.refl _)
        ·refine AO.cG (x := .ptr n2 2) rfl rfl (bD (decide_eq_false hc23)) (Calm.fldPtr rfl rfl Try.underlying27 rfl sz24 _ rfl) ?_
         refine AO.cG rfl rfl (bD (decide_eq_false hc23)) (Calm.load 0 rfl rfl rfl (At.cast (At.fldS (At.fldS (At.fld0 At.here))) rfl) ag24 sz24) ?_
         refine AO.cG rfl rfl (bD (decide_eq_false hc23)) (Calm.move rfl rfl) ?_
         obtain ⟨hg24, hq21⟩ := of_guard hq21
         refine AO.cG rfl rfl (bD (decide_eq_false hc23)) (Calm.idxL (f := e37) rfl rfl rfl hg24 Try.underlying24 sz37) ?_
         refine AO.cG rfl rfl (bD (decide_eq_false hc23)) (Calm.fldRp rfl rfl Try.underlying37 rfl sz35 (At.cast (At.fldS (At.fldS (At.fldS (At.fldS (At.fldS (At.fld0 At.here)))))) rfl)) ?_
         refine AO.cG rfl rfl (bD (decide_eq_false hc23)) (Calm.loadRp rfl rfl ag35 sz35) ?_
         refine AO.cG rfl rfl (bD (decide_eq_false hc23)) (Calm.lenL rfl rfl Try.underlying35) ?_
         refine AO.cG (x := eBool (decide ((20 : Int) < (((lget p0.f2 x16).f5).length : Int)))) rfl rfl (bD (decide_eq_false hc23)) (Calm.int rfl rfl rfl rfl) ?_
         refine AO.c (Calm.pickF rfl (bD (decide_eq_false hc23)) rfl) ?_
         refine AO.c (Calm.move rfl rfl) ?_
         rcases of_ite hq21 with ⟨hc25, hq21⟩ | ⟨hc25, hq21⟩
         ·refine AO.sF rfl rfl (bD (decide_eq_true hc25)) ?_
          refine AO.sF rfl rfl (bD (decide_eq_true hc25)) ?_
          refine AO.sF rfl rfl (bD (decide_eq_true hc25)) ?_
          refine AO.sF rfl rfl (bD (decide_eq_true hc25)) ?_
          refine AO.sF rfl rfl (bD (decide_eq_true hc25)) ?_
          refine AO.sF rfl rfl (bD (decide_eq_true hc25)) ?_
          refine AO.sF rfl rfl (bD (decide_eq_true hc25)) ?_
          refine AO.sF rfl rfl (bD (decide_eq_true hc25)) ?_
          refine AO.c (Calm.pickT rfl (bD (decide_eq_true hc25)) rfl) ?_
          cases hq21
          refine AO.nilE ⟨rfl, rfl⟩ ?_ ?_
          · exact ⟨rfl, rfl, rfl, trivial⟩
          · exact (Sub.refl _)
         ·refine AO.cG (x := .ptr n2 2) rfl rfl (bD (decide_eq_false hc25)) (Calm.fldPtr rfl rfl Try.underlying27 rfl sz24 _ rfl) ?_
          refine AO.cG rfl rfl (bD (decide_eq_false hc25)) (Calm.load 0 rfl rfl rfl (At.cast (At.fldS (At.fldS (At.fld0 At.here))) rfl) ag24 sz24) ?_
          refine AO.cG rfl rfl (bD (decide_eq_false hc25)) (Calm.move rfl rfl) ?_
          obtain ⟨hg26, hq21⟩ := of_guard hq21
          refine AO.cG rfl rfl (bD (decide_eq_false hc25)) (Calm.idxL (f := e37) rfl rfl rfl hg26 Try.underlying24 sz37) ?_
          refine AO.cG rfl rfl (bD (decide_eq_false hc25)) (Calm.fldRp rfl rfl Try.underlying37 rfl sz9 (At.cast (At.fldS (At.fld0 At.here)) rfl)) ?_
          refine AO.cG rfl rfl (bD (decide_eq_false hc25)) (Calm.loadRp rfl rfl ag9 sz9) ?_
          refine AO.cG rfl rfl (bD (decide_eq_false hc25)) (Calm.lenStr rfl rfl Try.underlying9) ?_
          refine AO.cG (x := eBool (decide ((100 : Int) < (((lget p0.f2 x16).f1).size : Int)))) rfl rfl (bD (decide_eq_false hc25)) (Calm.int rfl rfl rfl rfl) ?_
          refine AO.c (Calm.pickF rfl (bD (decide_eq_false hc25)) rfl) ?_
          cases hq21
          refine AO.nilE ⟨rfl, rfl⟩ ?_ ?_
          · exact ⟨rfl, rfl, rfl, trivial⟩
          · exact (Sub.refl _)
       ·rcases of_ite h with ⟨hc27, h⟩ | ⟨hc27, h⟩
        ·refine AW.condT' _ rfl hc27 ?_
         refine AW.sr ?_
         refine AO.c (Calm.assign rfl rfl) ?_
         refine AO.nH [2] (H' := []) (Sub.nil _) ?_
         refine AW.rK [2] ?_
         have hr := Option.some.inj h
         subst hr
         exact ⟨[(eBool false)], ⟨rfl, rfl, trivial⟩, rfl⟩
        ·refine AW.condF' _ rfl hc27 ?_
         refine AW.sK [1, 4] ?_
         refine AW.reg ?_
         refine AO.c (Calm.move rfl rfl) ?_
         refine AO.c (x := eI64 (w64 (x16 + (1 : Int)))) (Calm.int rfl rfl rfl rfl) ?_
         refine AO.c (Calm.assign rfl rfl) ?_
         refine AO.nK [1, 4] ?_
         exact ⟨kq18, Nat.lt_succ_self _, (w64 (x16 + (1 : Int))), rfl, rfl, by rw [hrec17]; exact h⟩
      ·refine AW.condN _ rfl hc19 ?_
       refine AW.eK [1] ?_
       exact ⟨rfl, rfl, h⟩
     ·rintro _ _ ⟨rfl, rfl, h⟩
      rw [bosketlaw17_Few_c2.eq_1] at h
      refine AW.seq_mid (fun ρ H => ρ = [] ∧ H = [] ∧ bosketlaw17_Few_c0 k = some r) ?_ ?_
      ·refine AW.sr ?_
       refine AO.c (Calm.assign rfl rfl) ?_
       refine AO.nK [1, 5] ?_
       refine AW.block ?_
       refine AW.wK [1, 5] ?_
       refine AW.loop (fun kq ρ H => ∃ (x10 : Int), ρ = [(1, (.ptr n2 0)), (5, (eI64 x10))] ∧ H = [(n2, (.mem (e27 p0)))] ∧ bosketlaw17_Few_l1 k p0 kq x10 = some r) k ⟨(0 : Int), rfl, rfl, h⟩ ?_
       rintro kq12 _ _ ⟨x10, rfl, rfl, h⟩
       cases kq12 with
       | zero => rw [bosketlaw17_Few_l1.eq_1] at h; cases h
       | succ kq12 =>
       rw [bosketlaw17_Few_l1.eq_2] at h
       generalize hrec11 : bosketlaw17_Few_l1 k p0 kq12 = rec11 at h
       refine AW.seq ?_
       refine AW.sr ?_
       refine AO.c (Calm.move rfl rfl) ?_
       refine AO.c (x := .ptr n2 3) (Calm.fldPtr rfl rfl Try.underlying27 rfl sz25 _ rfl) ?_
       refine AO.c (Calm.load 0 rfl rfl rfl (At.cast (At.fldS (At.fldS (At.fldS (At.fld0 At.here)))) rfl) ag25 sz25) ?_
       refine AO.c (Calm.lenL rfl rfl Try.underlying25) ?_
       refine AO.c (x := eBool (decide (x10 < (p0.f3.length : Int)))) (Calm.int rfl rfl rfl rfl) ?_
       refine AO.nK [1, 5, 81] ?_
       rcases of_ite h with ⟨hc13, h⟩ | ⟨hc13, h⟩
       ·refine AW.condP _ rfl hc13 ?_
        refine AW.sK [1, 5] ?_
        refine AW.seq ?_
        refine AW.block ?_
        refine AW.sr ?_
        refine AO.c (x := .ptr n2 3) (Calm.fldPtr rfl rfl Try.underlying27 rfl sz25 _ rfl) ?_
        refine AO.c (Calm.load 0 rfl rfl rfl (At.cast (At.fldS (At.fldS (At.fldS (At.fld0 At.here)))) rfl) ag25 sz25) ?_
        refine AO.c (Calm.move rfl rfl) ?_
        obtain ⟨hg14, h⟩ := of_guard h
        refine AO.c (Calm.idxL (f := e86) rfl rfl rfl hg14 Try.underlying25 sz86) ?_
        refine AO.c (Calm.fldRp rfl rfl Try.underlying86 rfl sz35 (At.cast (At.fldS (At.fld0 At.here)) rfl)) ?_
        refine AO.c (Calm.loadRp rfl rfl ag35 sz35) ?_
        refine AO.c (Calm.lenL rfl rfl Try.underlying35) ?_
        refine AO.c (x := eBool (decide ((20 : Int) < (((lget p0.f3 x10).f1).length : Int)))) (Calm.int rfl rfl rfl rfl) ?_
        refine AO.nK [1, 5, 91] ?_
        rcases of_ite h with ⟨hc15, h⟩ | ⟨hc15, h⟩
        ·refine AW.condP _ rfl hc15 ?_
         refine AW.sr ?_
         refine AO.c (Calm.assign rfl rfl) ?_
         refine AO.nH [2] (H' := []) (Sub.nil _) ?_
         refine AW.rK [2] ?_
         have hr := Option.some.inj h
         subst hr
         exact ⟨[(eBool false)], ⟨rfl, rfl, trivial⟩, rfl⟩
        ·refine AW.condN _ rfl hc15 ?_
         refine AW.sK [1, 5] ?_
         refine AW.reg ?_
         refine AO.c (Calm.move rfl rfl) ?_
         refine AO.c (x := eI64 (w64 (x10 + (1 : Int)))) (Calm.int rfl rfl rfl rfl) ?_
         refine AO.c (Calm.assign rfl rfl) ?_
         refine AO.nK [1, 5] ?_
         exact ⟨kq12, Nat.lt_succ_self _, (w64 (x10 + (1 : Int))), rfl, rfl, by rw [hrec11]; exact h⟩
       ·refine AW.condN _ rfl hc13 ?_
        refine AW.eH [] (H' := []) (Sub.nil _) ?_
        exact ⟨rfl, rfl, h⟩
      ·rintro _ _ ⟨rfl, rfl, h⟩
       rw [bosketlaw17_Few_c0.eq_1] at h
       refine AW.sr ?_
       refine AO.c (Calm.assign rfl rfl) ?_
       refine AO.nK [2] ?_
       refine AW.rK [2] ?_
       have hr := Option.some.inj h
       subst hr
       exact ⟨[(eBool true)], ⟨rfl, rfl, trivial⟩, rfl⟩
end Go.Avl.T7
/- bosket/gram.Find; printed by avmain.py. -/
namespace Go.Avl.T7
open Go Go.RowKit Go.Proofs Go.Avl
set_option linter.unusedVariables false
set_option maxRecDepth 100000
set_option maxHeartbeats 4000000
attribute [local irreducible] AW AO AQ Spec SpecH Calm

def gram_Find (k : Nat) (p0 : S27) (p1 : ByteArray) : Option (S41 × Bool) :=
  (rules_Find k p0.f0 p1).bind fun t5 =>
  if (0 : Int) ≤ t5 then some ((S41.mk false t5), true)
  else (slices_Index_string_string_ k p0.f1 p1).bind fun t7 =>
  if (0 : Int) ≤ t7 then some ((S41.mk true t7), true)
  else some ((S41.mk false (0 : Int)), false)
theorem gram_Find_spec {k : Nat} {p0 : S27} {p1 : ByteArray} {r : (S41 × Bool)} (h : gram_Find k p0 p1 = some r) : Spec Try.prog 14 [(e27 p0), (eStr p1)] (.tup [(e41 r.1), (eBool r.2)]) := by
  rw [gram_Find.eq_1] at h
  refine Spec.intro (res := [.cell 4 41, .tmp 5]) Try.func14 rfl rfl rfl (Nat.le_of_ble_eq_true rfl) ?_
  refine AW.sr ?_
  refine AO.box rfl 2 rfl (by decide) rfl rfl rfl fun n3 => ?_
  refine AO.alloc rfl 4 rfl (by decide) rfl zr41 lay41 fun n4 => ?_
  refine AO.c (Calm.assign rfl rfl) ?_
  refine AO.nH [1, 2, 4] (H' := [(n3, (.mem (e27 p0))), (n4, (.mem (.st [(1, (eBool false)), (1, (eI64 (0 : Int)))])))]) (Sub.cons 1 rfl (Sub.cons 0 rfl (Sub.nil _))) ?_
  refine AW.seq ?_
  refine AW.sr ?_
  refine AO.c (x := .ptr n3 0) (Calm.fldPtr rfl rfl Try.underlying27 rfl sz22 _ rfl) ?_
  refine AO.c (Calm.load 0 rfl rfl rfl (At.cast (At.fld0 At.here) rfl) ag22 sz22) ?_
  refine AO.c (Calm.move rfl rfl) ?_
  obtain ⟨t5, et5, h⟩ := of_bind h
  refine AO.callS [(.fz 3 (p0.f0.map e82)), (eStr p1)] (eI64 t5) 11 rfl (by decide) ok42 rfl rfl rfl ⟨rfl, rfl, rfl, rfl, trivial⟩ (rules_Find_spec et5) ?_
  refine AO.c (Calm.assign rfl rfl) ?_
  refine AO.nK [1, 2, 4, 6] ?_
  refine AW.sr ?_
  refine AO.c (Calm.move rfl rfl) ?_
  refine AO.c (x := eBool (decide ((0 : Int) ≤ t5))) (Calm.int rfl rfl rfl rfl) ?_
  refine AO.nK [1, 2, 4, 6, 13] ?_
  rcases of_ite h with ⟨hc6, h⟩ | ⟨hc6, h⟩
  ·refine AW.condP _ rfl hc6 ?_
   refine AW.sr ?_
   refine AO.c (Calm.move rfl rfl) ?_
   refine AO.c (x := .st [(1, (eBool false)), (1, (eI64 t5))]) (Calm.build (qs := [(1, (eI64 t5))]) rfl ⟨rfl, rfl, rfl, trivial⟩ Try.underlying41 rfl zr41 lay41 (.cons rfl rfl rfl rfl (Put.cast (Put.fldS (Put.fld0 Put.here)) rfl) .nil) rfl) ?_
   refine AO.store (X' := (e41 (S41.mk false t5))) 1 rfl rfl rfl rfl rfl rfl (Put.cast Put.here rfl) rfl rfl sz41 rfl ?_
   refine AO.c (Calm.assign rfl rfl) ?_
   refine AO.nH [4, 5] (H' := [(n4, (.mem (e41 (S41.mk false t5))))]) (Sub.cons 1 rfl (Sub.nil _)) ?_
   refine AW.rK [4, 5] ?_
   have hr := Option.some.inj h
   subst hr
   exact ⟨[(e41 (S41.mk false t5)), (eBool true)], ⟨⟨_, 0, rfl, rfl, ag41, sz41⟩, rfl, rfl, trivial⟩, rfl⟩
  ·refine AW.condN _ rfl hc6 ?_
   refine AW.sK [1, 2, 4] ?_
   refine AW.seq ?_
   refine AW.sr ?_
   refine AO.c (x := .ptr n3 1) (Calm.fldPtr rfl rfl Try.underlying27 rfl sz23 _ rfl) ?_
   refine AO.c (Calm.load 0 rfl rfl rfl (At.cast (At.fldS (At.fld0 At.here)) rfl) ag23 sz23) ?_
   refine AO.c (Calm.move rfl rfl) ?_
   obtain ⟨t7, et7, h⟩ := of_bind h
   refine AO.callS [(.fz 1 (p0.f1.map eStr)), (eStr p1)] (eI64 t7) 19 rfl (by decide) ok54 rfl rfl rfl ⟨rfl, rfl, rfl, rfl, trivial⟩ (slices_Index_string_string__spec et7) ?_
   refine AO.c (Calm.assign rfl rfl) ?_
   refine AO.nH [4, 7] (H' := [(n4, (.mem (.st [(1, (eBool false)), (1, (eI64 (0 : Int)))])))]) (Sub.cons 1 rfl (Sub.nil _)) ?_
   refine AW.sr ?_
   refine AO.c (Calm.move rfl rfl) ?_
   refine AO.c (x := eBool (decide ((0 : Int) ≤ t7))) (Calm.int rfl rfl rfl rfl) ?_
   refine AO.nK [4, 7, 21] ?_
   rcases of_ite h with ⟨hc8, h⟩ | ⟨hc8, h⟩
   ·refine AW.condP _ rfl hc8 ?_
    refine AW.sr ?_
    refine AO.c (Calm.move rfl rfl) ?_
    refine AO.c (x := .st [(1, (eBool true)), (1, (eI64 t7))]) (Calm.build (qs := [(0, (eBool true)), (1, (eI64 t7))]) rfl ⟨rfl, rfl, rfl, rfl, rfl, rfl, trivial⟩ Try.underlying41 rfl zr41 lay41 (.cons rfl rfl rfl rfl (Put.cast (Put.fld0 Put.here) rfl) (.cons rfl rfl rfl rfl (Put.cast (Put.fldS (Put.fld0 Put.here)) rfl) .nil)) rfl) ?_
    refine AO.store (X' := (e41 (S41.mk true t7))) 0 rfl rfl rfl rfl rfl rfl (Put.cast Put.here rfl) rfl rfl sz41 rfl ?_
    refine AO.c (Calm.assign rfl rfl) ?_
    refine AO.nK [4, 5] ?_
    refine AW.rK [4, 5] ?_
    have hr := Option.some.inj h
    subst hr
    exact ⟨[(e41 (S41.mk true t7)), (eBool true)], ⟨⟨_, 0, rfl, rfl, ag41, sz41⟩, rfl, rfl, trivial⟩, rfl⟩
   ·refine AW.condN _ rfl hc8 ?_
    refine AW.sK [4] ?_
    refine AW.sr ?_
    refine AO.c (x := .st [(1, (eBool false)), (1, (eI64 (0 : Int)))]) (Calm.build (qs := []) rfl trivial Try.underlying41 rfl zr41 lay41 .nil rfl) ?_
    refine AO.store (X' := (e41 (S41.mk false (0 : Int)))) 0 rfl rfl rfl rfl rfl rfl (Put.cast Put.here rfl) rfl rfl sz41 rfl ?_
    refine AO.c (Calm.assign rfl rfl) ?_
    refine AO.nK [4, 5] ?_
    refine AW.rK [4, 5] ?_
    have hr := Option.some.inj h
    subst hr
    exact ⟨[(e41 (S41.mk false (0 : Int))), (eBool false)], ⟨⟨_, 0, rfl, rfl, ag41, sz41⟩, rfl, rfl, trivial⟩, rfl⟩
end Go.Avl.T7
/- bosket/bosketref17.Find; printed by avmain.py. -/
namespace Go.Avl.T7
open Go Go.RowKit Go.Proofs Go.Avl
set_option linter.unusedVariables false
set_option maxRecDepth 100000
set_option maxHeartbeats 4000000
attribute [local irreducible] AW AO AQ Spec SpecH Calm

def bosketref17_Find_c0 (k : Nat) : Option (S41 × Bool) :=
  some ((S41.mk false (0 : Int)), false)
def bosketref17_Find_l1 (k : Nat) (p0 : S27) (p1 : ByteArray) : Nat → Int → Option (S41 × Bool)
  | 0, _ => none
  | j + 1, x5 =>
    if x5 < (p0.f1.length : Int) then if 0 ≤ x5 ∧ x5 < (p0.f1.length : Int) then if (lget p0.f1 x5) = p1 then some ((S41.mk true x5), true)
    else (bosketref17_Find_l1 k p0 p1 j) (w64 (x5 + (1 : Int)))
    else none
    else bosketref17_Find_c0 k
def bosketref17_Find_c2 (k : Nat) (p0 : S27) (p1 : ByteArray) : Option (S41 × Bool) :=
  bosketref17_Find_l1 k p0 p1 k (0 : Int)
def bosketref17_Find_l3 (k : Nat) (p0 : S27) (p1 : ByteArray) : Nat → Int → Option (S41 × Bool)
  | 0, _ => none
  | j + 1, x11 =>
    if x11 < (p0.f0.length : Int) then if 0 ≤ x11 ∧ x11 < (p0.f0.length : Int) then if ((lget p0.f0 x11).f0) = p1 then some ((S41.mk false x11), true)
    else (bosketref17_Find_l3 k p0 p1 j) (w64 (x11 + (1 : Int)))
    else none
    else bosketref17_Find_c2 k p0 p1
def bosketref17_Find (k : Nat) (p0 : S27) (p1 : ByteArray) : Option (S41 × Bool) :=
  bosketref17_Find_l3 k p0 p1 k (0 : Int)
theorem bosketref17_Find_spec {k : Nat} {p0 : S27} {p1 : ByteArray} {r : (S41 × Bool)} (h : bosketref17_Find k p0 p1 = some r) : Spec Try.prog 15 [(e27 p0), (eStr p1)] (.tup [(e41 r.1), (eBool r.2)]) := by
  rw [bosketref17_Find.eq_1] at h
  refine Spec.intro (res := [.cell 4 41, .tmp 5]) Try.func15 rfl rfl rfl (Nat.le_of_ble_eq_true rfl) ?_
  refine AW.sr ?_
  refine AO.box rfl 2 rfl (by decide) rfl rfl rfl fun n3 => ?_
  refine AO.alloc rfl 4 rfl (by decide) rfl zr41 lay41 fun n4 => ?_
  refine AO.c (Calm.assign rfl rfl) ?_
  refine AO.nH [1, 2, 4] (H' := [(n3, (.mem (e27 p0))), (n4, (.mem (.st [(1, (eBool false)), (1, (eI64 (0 : Int)))])))]) (Sub.cons 1 rfl (Sub.cons 0 rfl (Sub.nil _))) ?_
  refine AW.seq_mid (fun ρ H => ρ = [(1, (eStr p1)), (2, (.ptr n3 0)), (4, (.ptr n4 0))] ∧ H = [(n3, (.mem (e27 p0))), (n4, (.mem (.st [(1, (eBool false)), (1, (eI64 (0 : Int)))])))] ∧ bosketref17_Find_c2 k p0 p1 = some r) ?_ ?_
  ·refine AW.sr ?_
   refine AO.c (Calm.assign rfl rfl) ?_
   refine AO.nK [1, 2, 4, 6] ?_
   refine AW.block ?_
   refine AW.wK [1, 2, 4, 6] ?_
   refine AW.loop (fun kq ρ H => ∃ (x11 : Int), ρ = [(1, (eStr p1)), (2, (.ptr n3 0)), (4, (.ptr n4 0)), (6, (eI64 x11))] ∧ H = [(n3, (.mem (e27 p0))), (n4, (.mem (.st [(1, (eBool false)), (1, (eI64 (0 : Int)))])))] ∧ bosketref17_Find_l3 k p0 p1 kq x11 = some r) k ⟨(0 : Int), rfl, rfl, h⟩ ?_
   rintro kq13 _ _ ⟨x11, rfl, rfl, h⟩
   cases kq13 with
   | zero => rw [bosketref17_Find_l3.eq_1] at h; cases h
   | succ kq13 =>
   rw [bosketref17_Find_l3.eq_2] at h
   generalize hrec12 : bosketref17_Find_l3 k p0 p1 kq13 = rec12 at h
   refine AW.seq ?_
   refine AW.sr ?_
   refine AO.c (Calm.move rfl rfl) ?_
   refine AO.c (x := .ptr n3 0) (Calm.fldPtr rfl rfl Try.underlying27 rfl sz22 _ rfl) ?_
   refine AO.c (Calm.load 0 rfl rfl rfl (At.cast (At.fld0 At.here) rfl) ag22 sz22) ?_
   refine AO.c (Calm.lenL rfl rfl Try.underlying22) ?_
   refine AO.c (x := eBool (decide (x11 < (p0.f0.length : Int)))) (Calm.int rfl rfl rfl rfl) ?_
   refine AO.nK [1, 2, 4, 6, 12] ?_
   rcases of_ite h with ⟨hc14, h⟩ | ⟨hc14, h⟩
   ·refine AW.condP _ rfl hc14 ?_
    refine AW.sK [1, 2, 4, 6] ?_
    refine AW.seq ?_
    refine AW.block ?_
    refine AW.sr ?_
    refine AO.c (x := .ptr n3 0) (Calm.fldPtr rfl rfl Try.underlying27 rfl sz22 _ rfl) ?_
    refine AO.c (Calm.load 0 rfl rfl rfl (At.cast (At.fld0 At.here) rfl) ag22 sz22) ?_
    refine AO.c (Calm.move rfl rfl) ?_
    obtain ⟨hg15, h⟩ := of_guard h
    refine AO.c (Calm.idxL (f := e82) rfl rfl rfl hg15 Try.underlying22 sz82) ?_
    refine AO.c (Calm.fldRp rfl rfl Try.underlying82 rfl sz9 (At.cast (At.fld0 At.here) rfl)) ?_
    refine AO.c (Calm.loadRp rfl rfl ag9 sz9) ?_
    refine AO.c (Calm.move rfl rfl) ?_
    refine AO.c (x := eBool (decide (((lget p0.f0 x11).f0) = p1))) (Calm.str rfl rfl rfl rfl) ?_
    refine AO.nK [1, 2, 4, 6, 22] ?_
    rcases of_ite h with ⟨hc16, h⟩ | ⟨hc16, h⟩
    ·refine AW.condP _ rfl hc16 ?_
     refine AW.sr ?_
     refine AO.c (Calm.move rfl rfl) ?_
     refine AO.c (x := .st [(1, (eBool false)), (1, (eI64 x11))]) (Calm.build (qs := [(1, (eI64 x11))]) rfl ⟨rfl, rfl, rfl, trivial⟩ Try.underlying41 rfl zr41 lay41 (.cons rfl rfl rfl rfl (Put.cast (Put.fldS (Put.fld0 Put.here)) rfl) .nil) rfl) ?_
     refine AO.store (X' := (e41 (S41.mk false x11))) 1 rfl rfl rfl rfl rfl rfl (Put.cast Put.here rfl) rfl rfl sz41 rfl ?_
     refine AO.c (Calm.assign rfl rfl) ?_
     refine AO.nH [4, 5] (H' := [(n4, (.mem (e41 (S41.mk false x11))))]) (Sub.cons 1 rfl (Sub.nil _)) ?_
     refine AW.rK [4, 5] ?_
     have hr := Option.some.inj h
     subst hr
     exact ⟨[(e41 (S41.mk false x11)), (eBool true)], ⟨⟨_, 0, rfl, rfl, ag41, sz41⟩, rfl, rfl, trivial⟩, rfl⟩
    ·refine AW.condN _ rfl hc16 ?_
     refine AW.sK [1, 2, 4, 6] ?_
     refine AW.reg ?_
     refine AO.c (Calm.move rfl rfl) ?_
     refine AO.c (x := eI64 (w64 (x11 + (1 : Int)))) (Calm.int rfl rfl rfl rfl) ?_
     refine AO.c (Calm.assign rfl rfl) ?_
     refine AO.nK [1, 2, 4, 6] ?_
     exact ⟨kq13, Nat.lt_succ_self _, (w64 (x11 + (1 : Int))), rfl, rfl, by rw [hrec12]; exact h⟩
   ·refine AW.condN _ rfl hc14 ?_
    refine AW.eK [1, 2, 4] ?_
    exact ⟨rfl, rfl, h⟩
  ·rintro _ _ ⟨rfl, rfl, h⟩
   rw [bosketref17_Find_c2.eq_1] at h
   refine AW.seq_mid (fun ρ H => ρ = [(4, (.ptr n4 0))] ∧ H = [(n4, (.mem (.st [(1, (eBool false)), (1, (eI64 (0 : Int)))])))] ∧ bosketref17_Find_c0 k = some r) ?_ ?_
   ·refine AW.sr ?_
    refine AO.c (Calm.assign rfl rfl) ?_
    refine AO.nK [1, 2, 4, 7] ?_
    refine AW.block ?_
    refine AW.wK [1, 2, 4, 7] ?_
    refine AW.loop (fun kq ρ H => ∃ (x5 : Int), ρ = [(1, (eStr p1)), (2, (.ptr n3 0)), (4, (.ptr n4 0)), (7, (eI64 x5))] ∧ H = [(n3, (.mem (e27 p0))), (n4, (.mem (.st [(1, (eBool false)), (1, (eI64 (0 : Int)))])))] ∧ bosketref17_Find_l1 k p0 p1 kq x5 = some r) k ⟨(0 : Int), rfl, rfl, h⟩ ?_
    rintro kq7 _ _ ⟨x5, rfl, rfl, h⟩
    cases kq7 with
    | zero => rw [bosketref17_Find_l1.eq_1] at h; cases h
    | succ kq7 =>
    rw [bosketref17_Find_l1.eq_2] at h
    generalize hrec6 : bosketref17_Find_l1 k p0 p1 kq7 = rec6 at h
    refine AW.seq ?_
    refine AW.sr ?_
    refine AO.c (Calm.move rfl rfl) ?_
    refine AO.c (x := .ptr n3 1) (Calm.fldPtr rfl rfl Try.underlying27 rfl sz23 _ rfl) ?_
    refine AO.c (Calm.load 0 rfl rfl rfl (At.cast (At.fldS (At.fld0 At.here)) rfl) ag23 sz23) ?_
    refine AO.c (Calm.lenL rfl rfl Try.underlying23) ?_
    refine AO.c (x := eBool (decide (x5 < (p0.f1.length : Int)))) (Calm.int rfl rfl rfl rfl) ?_
    refine AO.nK [1, 2, 4, 7, 29] ?_
    rcases of_ite h with ⟨hc8, h⟩ | ⟨hc8, h⟩
    ·refine AW.condP _ rfl hc8 ?_
     refine AW.sK [1, 2, 4, 7] ?_
     refine AW.seq ?_
     refine AW.block ?_
     refine AW.sr ?_
     refine AO.c (x := .ptr n3 1) (Calm.fldPtr rfl rfl Try.underlying27 rfl sz23 _ rfl) ?_
     refine AO.c (Calm.load 0 rfl rfl rfl (At.cast (At.fldS (At.fld0 At.here)) rfl) ag23 sz23) ?_
     refine AO.c (Calm.move rfl rfl) ?_
     obtain ⟨hg9, h⟩ := of_guard h
     refine AO.c (Calm.idxL (f := eStr) rfl rfl rfl hg9 Try.underlying23 sz9) ?_
     refine AO.c (Calm.loadRp rfl rfl ag9 sz9) ?_
     refine AO.c (Calm.move rfl rfl) ?_
     refine AO.c (x := eBool (decide ((lget p0.f1 x5) = p1))) (Calm.str rfl rfl rfl rfl) ?_
     refine AO.nK [1, 2, 4, 7, 38] ?_
     rcases of_ite h with ⟨hc10, h⟩ | ⟨hc10, h⟩
     ·refine AW.condP _ rfl hc10 ?_
      refine AW.sr ?_
      refine AO.c (Calm.move rfl rfl) ?_
      refine AO.c (x := .st [(1, (eBool true)), (1, (eI64 x5))]) (Calm.build (qs := [(0, (eBool true)), (1, (eI64 x5))]) rfl ⟨rfl, rfl, rfl, rfl, rfl, rfl, trivial⟩ Try.underlying41 rfl zr41 lay41 (.cons rfl rfl rfl rfl (Put.cast (Put.fld0 Put.here) rfl) (.cons rfl rfl rfl rfl (Put.cast (Put.fldS (Put.fld0 Put.here)) rfl) .nil)) rfl) ?_
      refine AO.store (X' := (e41 (S41.mk true x5))) 1 rfl rfl rfl rfl rfl rfl (Put.cast Put.here rfl) rfl rfl sz41 rfl ?_
      refine AO.c (Calm.assign rfl rfl) ?_
      refine AO.nH [4, 5] (H' := [(n4, (.mem (e41 (S41.mk true x5))))]) (Sub.cons 1 rfl (Sub.nil _)) ?_
      refine AW.rK [4, 5] ?_
      have hr := Option.some.inj h
      subst hr
      exact ⟨[(e41 (S41.mk true x5)), (eBool true)], ⟨⟨_, 0, rfl, rfl, ag41, sz41⟩, rfl, rfl, trivial⟩, rfl⟩
     ·refine AW.condN _ rfl hc10 ?_
      refine AW.sK [1, 2, 4, 7] ?_
      refine AW.reg ?_
      refine AO.c (Calm.move rfl rfl) ?_
      refine AO.c (x := eI64 (w64 (x5 + (1 : Int)))) (Calm.int rfl rfl rfl rfl) ?_
      refine AO.c (Calm.assign rfl rfl) ?_
      refine AO.nK [1, 2, 4, 7] ?_
      exact ⟨kq7, Nat.lt_succ_self _, (w64 (x5 + (1 : Int))), rfl, rfl, by rw [hrec6]; exact h⟩
    ·refine AW.condN _ rfl hc8 ?_
     refine AW.eH [4] (H' := [(n4, (.mem (.st [(1, (eBool false)), (1, (eI64 (0 : Int)))])))]) (Sub.cons 1 rfl (Sub.nil _)) ?_
     exact ⟨rfl, rfl, h⟩
   ·rintro _ _ ⟨rfl, rfl, h⟩
    rw [bosketref17_Find_c0.eq_1] at h
    refine AW.sr ?_
    refine AO.c (x := .st [(1, (eBool false)), (1, (eI64 (0 : Int)))]) (Calm.build (qs := []) rfl trivial Try.underlying41 rfl zr41 lay41 .nil rfl) ?_
    refine AO.store (X' := (e41 (S41.mk false (0 : Int)))) 0 rfl rfl rfl rfl rfl rfl (Put.cast Put.here rfl) rfl rfl sz41 rfl ?_
    refine AO.c (Calm.assign rfl rfl) ?_
    refine AO.nK [4, 5] ?_
    refine AW.rK [4, 5] ?_
    have hr := Option.some.inj h
    subst hr
    exact ⟨[(e41 (S41.mk false (0 : Int))), (eBool false)], ⟨⟨_, 0, rfl, rfl, ag41, sz41⟩, rfl, rfl, trivial⟩, rfl⟩
end Go.Avl.T7
/- bosket/bosketref17.Has; printed by avmain.py. -/
namespace Go.Avl.T7
open Go Go.RowKit Go.Proofs Go.Avl
set_option linter.unusedVariables false
set_option maxRecDepth 100000
set_option maxHeartbeats 4000000
attribute [local irreducible] AW AO AQ Spec SpecH Calm

def bosketref17_Has (k : Nat) (p0 : S27) (p1 : S41) : Option Bool :=
  if p1.f0 = true then Option.bind (α := Bool) (if (0 : Int) ≤ p1.f1 then some (decide (p1.f1 < (p0.f1.length : Int)))
  else some (false)) fun b6 =>
  some (b6)
  else Option.bind (α := Bool) (if (0 : Int) ≤ p1.f1 then if p1.f1 < (p0.f0.length : Int) then if 0 ≤ p1.f1 ∧ p1.f1 < (p0.f0.length : Int) then some (decide (((lget p0.f0 p1.f1).f1) = (0 : Int)))
  else none
  else some (false)
  else some (false)) fun b9 =>
  some (b9)
theorem bosketref17_Has_spec {k : Nat} {p0 : S27} {p1 : S41} {r : Bool} (h : bosketref17_Has k p0 p1 = some r) : Spec Try.prog 17 [(e27 p0), (e41 p1)] (eBool r) := by
  rw [bosketref17_Has.eq_1] at h
  refine Spec.intro (res := [.tmp 4]) Try.func17 rfl rfl rfl (Nat.le_of_ble_eq_true rfl) ?_
  refine AW.sr ?_
  refine AO.box rfl 2 rfl (by decide) rfl rfl rfl fun n3 => ?_
  refine AO.box rfl 3 rfl (by decide) rfl rfl rfl fun n4 => ?_
  refine AO.c (Calm.assign rfl rfl) ?_
  refine AO.nH [2, 3] (H' := [(n3, (.mem (e27 p0))), (n4, (.mem (e41 p1)))]) (Sub.cons 1 rfl (Sub.cons 0 rfl (Sub.nil _))) ?_
  refine AW.seq ?_
  refine AW.sr ?_
  refine AO.c (x := .ptr n4 0) (Calm.fldPtr rfl rfl Try.underlying41 rfl sz4 _ rfl) ?_
  refine AO.c (Calm.load 1 rfl rfl rfl (At.cast (At.fld0 At.here) rfl) ag4 sz4) ?_
  refine AO.nK [2, 3, 6] ?_
  rcases of_ite h with ⟨hc5, h⟩ | ⟨hc5, h⟩
  ·refine AW.condT' _ rfl hc5 ?_
   refine AW.seq ?_
   obtain ⟨b6, hq7, h⟩ := of_bind h
   refine AW.regM [(4, (eBool b6))] [] ?_ ?_
   ·refine AO.c (x := .ptr n4 1) (Calm.fldPtr rfl rfl Try.underlying41 rfl sz3 _ rfl) ?_
    refine AO.c (Calm.load 1 rfl rfl rfl (At.cast (At.fldS (At.fld0 At.here)) rfl) ag3 sz3) ?_
    refine AO.c (x := eBool (decide ((0 : Int) ≤ p1.f1))) (Calm.int rfl rfl rfl rfl) ?_
    refine AO.c (Calm.move rfl rfl) ?_
    rcases of_ite hq7 with ⟨hc8, hq7⟩ | ⟨hc8, hq7⟩
    ·refine AO.cG (x := .ptr n4 1) rfl rfl (bD (decide_eq_true hc8)) (Calm.fldPtr rfl rfl Try.underlying41 rfl sz3 _ rfl) ?_
     refine AO.cG rfl rfl (bD (decide_eq_true hc8)) (Calm.load 1 rfl rfl rfl (At.cast (At.fldS (At.fld0 At.here)) rfl) ag3 sz3) ?_
     refine AO.cG (x := .ptr n3 1) rfl rfl (bD (decide_eq_true hc8)) (Calm.fldPtr rfl rfl Try.underlying27 rfl sz23 _ rfl) ?_
     refine AO.cG rfl rfl (bD (decide_eq_true hc8)) (Calm.load 0 rfl rfl rfl (At.cast (At.fldS (At.fld0 At.here)) rfl) ag23 sz23) ?_
     refine AO.cG rfl rfl (bD (decide_eq_true hc8)) (Calm.lenL rfl rfl Try.underlying23) ?_
     refine AO.cG (x := eBool (decide (p1.f1 < (p0.f1.length : Int)))) rfl rfl (bD (decide_eq_true hc8)) (Calm.int rfl rfl rfl rfl) ?_
     refine AO.c (Calm.pickT rfl (bD (decide_eq_true hc8)) rfl) ?_
     refine AO.c (Calm.assign rfl rfl) ?_
     cases hq7
     refine AO.nilE ⟨rfl, rfl⟩ ?_ ?_
     · exact ⟨rfl, trivial⟩
     · exact (Sub.nil _)
    ·refine AO.sT rfl rfl (bD (decide_eq_false hc8)) ?_
     refine AO.sT rfl rfl (bD (decide_eq_false hc8)) ?_
     refine AO.sT rfl rfl (bD (decide_eq_false hc8)) ?_
     refine AO.sT rfl rfl (bD (decide_eq_false hc8)) ?_
     refine AO.sT rfl rfl (bD (decide_eq_false hc8)) ?_
     refine AO.sT rfl rfl (bD (decide_eq_false hc8)) ?_
     refine AO.c (Calm.pickF rfl (bD (decide_eq_false hc8)) rfl) ?_
     refine AO.c (Calm.assign rfl rfl) ?_
     cases hq7
     refine AO.nilE ⟨rfl, rfl⟩ ?_ ?_
     · exact ⟨rfl, trivial⟩
     · exact (Sub.nil _)
   ·refine AW.rK [4] ?_
    have hr := Option.some.inj h
    subst hr
    exact ⟨[(eBool b6)], ⟨rfl, rfl, trivial⟩, rfl⟩
  ·refine AW.condF' _ rfl hc5 ?_
   refine AW.sK [2, 3] ?_
   refine AW.seq ?_
   obtain ⟨b9, hq10, h⟩ := of_bind h
   refine AW.regM [(4, (eBool b9))] [] ?_ ?_
   ·refine AO.c (x := .ptr n4 1) (Calm.fldPtr rfl rfl Try.underlying41 rfl sz3 _ rfl) ?_
    refine AO.c (Calm.load 1 rfl rfl rfl (At.cast (At.fldS (At.fld0 At.here)) rfl) ag3 sz3) ?_
    refine AO.c (x := eBool (decide ((0 : Int) ≤ p1.f1))) (Calm.int rfl rfl rfl rfl) ?_
    refine AO.c (Calm.move rfl rfl) ?_
    rcases of_ite hq10 with ⟨hc11, hq10⟩ | ⟨hc11, hq10⟩
    ·refine AO.cG (x := .ptr n4 1) rfl rfl (bD (decide_eq_true hc11)) (Calm.fldPtr rfl rfl Try.underlying41 rfl sz3 _ rfl) ?_
     refine AO.cG rfl rfl (bD (decide_eq_true hc11)) (Calm.load 1 rfl rfl rfl (At.cast (At.fldS (At.fld0 At.here)) rfl) ag3 sz3) ?_
     refine AO.cG (x := .ptr n3 0) rfl rfl (bD (decide_eq_true hc11)) (Calm.fldPtr rfl rfl Try.underlying27 rfl sz22 _ rfl) ?_
     refine AO.cG rfl rfl (bD (decide_eq_true hc11)) (Calm.load 0 rfl rfl rfl (At.cast (At.fld0 At.here) rfl) ag22 sz22) ?_
     refine AO.cG rfl rfl (bD (decide_eq_true hc11)) (Calm.lenL rfl rfl Try.underlying22) ?_
     refine AO.cG (x := eBool (decide (p1.f1 < (p0.f0.length : Int)))) rfl rfl (bD (decide_eq_true hc11)) (Calm.int rfl rfl rfl rfl) ?_
     refine AO.c (Calm.pickT rfl (bD (decide_eq_true hc11)) rfl) ?_
     refine AO.c (Calm.move rfl rfl) ?_
     rcases of_ite hq10 with ⟨hc12, hq10⟩ | ⟨hc12, hq10⟩
     ·refine AO.cG (x := .ptr n3 0) rfl rfl (bD (decide_eq_true hc12)) (Calm.fldPtr rfl rfl Try.underlying27 rfl sz22 _ rfl) ?_
      refine AO.cG rfl rfl (bD (decide_eq_true hc12)) (Calm.load 0 rfl rfl rfl (At.cast (At.fld0 At.here) rfl) ag22 sz22) ?_
      refine AO.cG (x := .ptr n4 1) rfl rfl (bD (decide_eq_true hc12)) (Calm.fldPtr rfl rfl Try.underlying41 rfl sz3 _ rfl) ?_
      refine AO.cG rfl rfl (bD (decide_eq_true hc12)) (Calm.load 1 rfl rfl rfl (At.cast (At.fldS (At.fld0 At.here)) rfl) ag3 sz3) ?_
      obtain ⟨hg13, hq10⟩ := of_guard hq10
      refine AO.cG rfl rfl (bD (decide_eq_true hc12)) (Calm.idxL (f := e82) rfl rfl rfl hg13 Try.underlying22 sz82) ?_
      refine AO.cG rfl rfl (bD (decide_eq_true hc12)) (Calm.fldRp rfl rfl Try.underlying82 rfl sz3 (At.cast (At.fldS (At.fld0 At.here)) rfl)) ?_
      refine AO.cG rfl rfl (bD (decide_eq_true hc12)) (Calm.loadRp rfl rfl ag3 sz3) ?_
      refine AO.cG (x := eBool (decide (((lget p0.f0 p1.f1).f1) = (0 : Int)))) rfl rfl (bD (decide_eq_true hc12)) (Calm.int rfl rfl rfl rfl) ?_
      refine AO.c (Calm.pickT rfl (bD (decide_eq_true hc12)) rfl) ?_
      refine AO.c (Calm.assign rfl rfl) ?_
      cases hq10
      refine AO.nilE ⟨rfl, rfl⟩ ?_ ?_
      · exact ⟨rfl, trivial⟩
      · exact (Sub.nil _)
     ·refine AO.sT rfl rfl (bD (decide_eq_false hc12)) ?_
      refine AO.sT rfl rfl (bD (decide_eq_false hc12)) ?_
      refine AO.sT rfl rfl (bD (decide_eq_false hc12)) ?_
      refine AO.sT rfl rfl (bD (decide_eq_false hc12)) ?_
      refine AO.sT rfl rfl (bD (decide_eq_false hc12)) ?_
      refine AO.sT rfl rfl (bD (decide_eq_false hc12)) ?_
      refine AO.sT rfl rfl (bD (decide_eq_false hc12)) ?_
      refine AO.sT rfl rfl (bD (decide_eq_false hc12)) ?_
      refine AO.c (Calm.pickF rfl (bD (decide_eq_false hc12)) rfl) ?_
      refine AO.c (Calm.assign rfl rfl) ?_
      cases hq10
      refine AO.nilE ⟨rfl, rfl⟩ ?_ ?_
      · exact ⟨rfl, trivial⟩
      · exact (Sub.nil _)
    ·refine AO.sT rfl rfl (bD (decide_eq_false hc11)) ?_
     refine AO.sT rfl rfl (bD (decide_eq_false hc11)) ?_
     refine AO.sT rfl rfl (bD (decide_eq_false hc11)) ?_
     refine AO.sT rfl rfl (bD (decide_eq_false hc11)) ?_
     refine AO.sT rfl rfl (bD (decide_eq_false hc11)) ?_
     refine AO.sT rfl rfl (bD (decide_eq_false hc11)) ?_
     refine AO.c (Calm.pickF rfl (bD (decide_eq_false hc11)) rfl) ?_
     refine AO.c (Calm.move rfl rfl) ?_
     refine AO.sT rfl rfl rfl ?_
     refine AO.sT rfl rfl rfl ?_
     refine AO.sT rfl rfl rfl ?_
     refine AO.sT rfl rfl rfl ?_
     refine AO.sT rfl rfl rfl ?_
     refine AO.sT rfl rfl rfl ?_
     refine AO.sT rfl rfl rfl ?_
     refine AO.sT rfl rfl rfl ?_
     refine AO.c (Calm.pickF rfl rfl rfl) ?_
     refine AO.c (Calm.assign rfl rfl) ?_
     cases hq10
     refine AO.nilE ⟨rfl, rfl⟩ ?_ ?_
     · exact ⟨rfl, trivial⟩
     · exact (Sub.nil _)
   ·refine AW.rK [4] ?_
    have hr := Option.some.inj h
    subst hr
    exact ⟨[(eBool b9)], ⟨rfl, rfl, trivial⟩, rfl⟩
end Go.Avl.T7
/- bosket/bosketref17.Name; printed by avmain.py. -/
namespace Go.Avl.T7
open Go Go.RowKit Go.Proofs Go.Avl
set_option linter.unusedVariables false
set_option maxRecDepth 100000
set_option maxHeartbeats 4000000
attribute [local irreducible] AW AO AQ Spec SpecH Calm

def bosketref17_Name (k : Nat) (p0 : S27) (p1 : S41) : Option ByteArray :=
  if p1.f1 < (0 : Int) then some ((ByteArray.mk #[63]))
  else Option.bind (α := Bool) (if p1.f0 = true then some (decide (p1.f1 < (p0.f1.length : Int)))
  else some (false)) fun b6 =>
  if b6 = true then if 0 ≤ p1.f1 ∧ p1.f1 < (p0.f1.length : Int) then some ((lget p0.f1 p1.f1))
  else none
  else Option.bind (α := Bool) (if (!p1.f0) = true then some (decide (p1.f1 < (p0.f0.length : Int)))
  else some (false)) fun b11 =>
  if b11 = true then if 0 ≤ p1.f1 ∧ p1.f1 < (p0.f0.length : Int) then some ((lget p0.f0 p1.f1).f0)
  else none
  else some ((ByteArray.mk #[63]))
theorem bosketref17_Name_spec {k : Nat} {p0 : S27} {p1 : S41} {r : ByteArray} (h : bosketref17_Name k p0 p1 = some r) : Spec Try.prog 19 [(e27 p0), (e41 p1)] (eStr r) := by
  rw [bosketref17_Name.eq_1] at h
  refine Spec.intro (res := [.tmp 4]) Try.func19 rfl rfl rfl (Nat.le_of_ble_eq_true rfl) ?_
  refine AW.sr ?_
  refine AO.box rfl 2 rfl (by decide) rfl rfl rfl fun n3 => ?_
  refine AO.box rfl 3 rfl (by decide) rfl rfl rfl fun n4 => ?_
  refine AO.c (Calm.assign rfl rfl) ?_
  refine AO.nH [2, 3] (H' := [(n3, (.mem (e27 p0))), (n4, (.mem (e41 p1)))]) (Sub.cons 1 rfl (Sub.cons 0 rfl (Sub.nil _))) ?_
  refine AW.seq ?_
  refine AW.sr ?_
  refine AO.c (x := .ptr n4 1) (Calm.fldPtr rfl rfl Try.underlying41 rfl sz3 _ rfl) ?_
  refine AO.c (Calm.load 1 rfl rfl rfl (At.cast (At.fldS (At.fld0 At.here)) rfl) ag3 sz3) ?_
  refine AO.c (x := eBool (decide (p1.f1 < (0 : Int)))) (Calm.int rfl rfl rfl rfl) ?_
  refine AO.nK [2, 3, 7] ?_
  rcases of_ite h with ⟨hc5, h⟩ | ⟨hc5, h⟩
  ·refine AW.condP _ rfl hc5 ?_
   refine AW.sr ?_
   refine AO.c (Calm.assign rfl rfl) ?_
   refine AO.nH [4] (H' := []) (Sub.nil _) ?_
   refine AW.rK [4] ?_
   have hr := Option.some.inj h
   subst hr
   exact ⟨[(eStr (ByteArray.mk #[63]))], ⟨rfl, rfl, trivial⟩, rfl⟩
  ·refine AW.condN _ rfl hc5 ?_
   refine AW.sK [2, 3] ?_
   refine AW.seq ?_
   refine AW.seq ?_
   obtain ⟨b6, hq7, h⟩ := of_bind h
   refine AW.regM [(2, (.ptr n3 0)), (3, (.ptr n4 0)), (17, (eBool b6))] [(n3, (.mem (e27 p0))), (n4, (.mem (e41 p1)))] ?_ ?_
   ·refine AO.c (x := .ptr n4 0) (Calm.fldPtr rfl rfl Try.underlying41 rfl sz4 _ rfl) ?_
    refine AO.c (Calm.load 1 rfl rfl rfl (At.cast (At.fld0 At.here) rfl) ag4 sz4) ?_
    refine AO.c (Calm.move rfl rfl) ?_
    rcases of_ite hq7 with ⟨hc8, hq7⟩ | ⟨hc8, hq7⟩
    ·refine AO.cG (x := .ptr n4 1) rfl rfl (bD hc8) (Calm.fldPtr rfl rfl Try.underlying41 rfl sz3 _ rfl) ?_
     refine AO.cG rfl rfl (bD hc8) (Calm.load 1 rfl rfl rfl (At.cast (At.fldS (At.fld0 At.here)) rfl) ag3 sz3) ?_
     refine AO.cG (x := .ptr n3 1) rfl rfl (bD hc8) (Calm.fldPtr rfl rfl Try.underlying27 rfl sz23 _ rfl) ?_
     refine AO.cG rfl rfl (bD hc8) (Calm.load 0 rfl rfl rfl (At.cast (At.fldS (At.fld0 At.here)) rfl) ag23 sz23) ?_
     refine AO.cG rfl rfl (bD hc8) (Calm.lenL rfl rfl Try.underlying23) ?_
     refine AO.cG (x := eBool (decide (p1.f1 < (p0.f1.length : Int)))) rfl rfl (bD hc8) (Calm.int rfl rfl rfl rfl) ?_
     refine AO.c (Calm.pickT rfl (bD hc8) rfl) ?_
     cases hq7
     refine AO.nilE ⟨rfl, rfl⟩ ?_ ?_
     · exact ⟨rfl, rfl, rfl, trivial⟩
     · exact (Sub.refl _)
    ·refine AO.sT rfl rfl (bD (eq_false_of_ne_true hc8)) ?_
     refine AO.sT rfl rfl (bD (eq_false_of_ne_true hc8)) ?_
     refine AO.sT rfl rfl (bD (eq_false_of_ne_true hc8)) ?_
     refine AO.sT rfl rfl (bD (eq_false_of_ne_true hc8)) ?_
     refine AO.sT rfl rfl (bD (eq_false_of_ne_true hc8)) ?_
     refine AO.sT rfl rfl (bD (eq_false_of_ne_true hc8)) ?_
     refine AO.c (Calm.pickF rfl (bD (eq_false_of_ne_true hc8)) rfl) ?_
     cases hq7
     refine AO.nilE ⟨rfl, rfl⟩ ?_ ?_
     · exact ⟨rfl, rfl, rfl, trivial⟩
     · exact (Sub.refl _)
   ·rcases of_ite h with ⟨hc9, h⟩ | ⟨hc9, h⟩
    ·refine AW.condT' _ rfl hc9 ?_
     refine AW.sr ?_
     refine AO.c (x := .ptr n3 1) (Calm.fldPtr rfl rfl Try.underlying27 rfl sz23 _ rfl) ?_
     refine AO.c (Calm.load 0 rfl rfl rfl (At.cast (At.fldS (At.fld0 At.here)) rfl) ag23 sz23) ?_
     refine AO.c (x := .ptr n4 1) (Calm.fldPtr rfl rfl Try.underlying41 rfl sz3 _ rfl) ?_
     refine AO.c (Calm.load 1 rfl rfl rfl (At.cast (At.fldS (At.fld0 At.here)) rfl) ag3 sz3) ?_
     obtain ⟨hg10, h⟩ := of_guard h
     refine AO.c (Calm.idxL (f := eStr) rfl rfl rfl hg10 Try.underlying23 sz9) ?_
     refine AO.c (Calm.loadRp rfl rfl ag9 sz9) ?_
     refine AO.c (Calm.assign rfl rfl) ?_
     refine AO.nH [4] (H' := []) (Sub.nil _) ?_
     refine AW.rK [4] ?_
     have hr := Option.some.inj h
     subst hr
     exact ⟨[(eStr (lget p0.f1 p1.f1))], ⟨rfl, rfl, trivial⟩, rfl⟩
    ·refine AW.condF' _ rfl hc9 ?_
     refine AW.sK [2, 3] ?_
     refine AW.seq ?_
     refine AW.seq ?_
     obtain ⟨b11, hq12, h⟩ := of_bind h
     refine AW.regM [(2, (.ptr n3 0)), (3, (.ptr n4 0)), (34, (eBool b11))] [(n3, (.mem (e27 p0))), (n4, (.mem (e41 p1)))] ?_ ?_
     ·refine AO.c (x := .ptr n4 0) (Calm.fldPtr rfl rfl Try.underlying41 rfl sz4 _ rfl) ?_
      refine AO.c (Calm.load 1 rfl rfl rfl (At.cast (At.fld0 At.here) rfl) ag4 sz4) ?_
      refine AO.c (Calm.not rfl rfl) ?_
      refine AO.c (Calm.move rfl rfl) ?_
      rcases of_ite hq12 with ⟨hc13, hq12⟩ | ⟨hc13, hq12⟩
      ·refine AO.cG (x := .ptr n4 1) rfl rfl (bD hc13) (Calm.fldPtr rfl rfl Try.underlying41 rfl sz3 _ rfl) ?_
       refine AO.cG rfl rfl (bD hc13) (Calm.load 1 rfl rfl rfl (At.cast (At.fldS (At.fld0 At.here)) rfl) ag3 sz3) ?_
       refine AO.cG (x := .ptr n3 0) rfl rfl (bD hc13) (Calm.fldPtr rfl rfl Try.underlying27 rfl sz22 _ rfl) ?_
       refine AO.cG rfl rfl (bD hc13) (Calm.load 0 rfl rfl rfl (At.cast (At.fld0 At.here) rfl) ag22 sz22) ?_
       refine AO.cG rfl rfl (bD hc13) (Calm.lenL rfl rfl Try.underlying22) ?_
       refine AO.cG (x := eBool (decide (p1.f1 < (p0.f0.length : Int)))) rfl rfl (bD hc13) (Calm.int rfl rfl rfl rfl) ?_
       refine AO.c (Calm.pickT rfl (bD hc13) rfl) ?_
       cases hq12
       refine AO.nilE ⟨rfl, rfl⟩ ?_ ?_
       · exact ⟨rfl, rfl, rfl, trivial⟩
       · exact (Sub.refl _)
      ·refine AO.sT rfl rfl (bD (eq_false_of_ne_true hc13)) ?_
       refine AO.sT rfl rfl (bD (eq_false_of_ne_true hc13)) ?_
       refine AO.sT rfl rfl (bD (eq_false_of_ne_true hc13)) ?_
       refine AO.sT rfl rfl (bD (eq_false_of_ne_true hc13)) ?_
       refine AO.sT rfl rfl (bD (eq_false_of_ne_true hc13)) ?_
       refine AO.sT rfl rfl (bD (eq_false_of_ne_true hc13)) ?_
       refine AO.c (Calm.pickF rfl (bD (eq_false_of_ne_true hc13)) rfl) ?_
       cases hq12
       refine AO.nilE ⟨rfl, rfl⟩ ?_ ?_
       · exact ⟨rfl, rfl, rfl, trivial⟩
       · exact (Sub.refl _)
     ·rcases of_ite h with ⟨hc14, h⟩ | ⟨hc14, h⟩
      ·refine AW.condT' _ rfl hc14 ?_
       refine AW.sr ?_
       refine AO.c (x := .ptr n3 0) (Calm.fldPtr rfl rfl Try.underlying27 rfl sz22 _ rfl) ?_
       refine AO.c (Calm.load 0 rfl rfl rfl (At.cast (At.fld0 At.here) rfl) ag22 sz22) ?_
       refine AO.c (x := .ptr n4 1) (Calm.fldPtr rfl rfl Try.underlying41 rfl sz3 _ rfl) ?_
       refine AO.c (Calm.load 1 rfl rfl rfl (At.cast (At.fldS (At.fld0 At.here)) rfl) ag3 sz3) ?_
       obtain ⟨hg15, h⟩ := of_guard h
       refine AO.c (Calm.idxL (f := e82) rfl rfl rfl hg15 Try.underlying22 sz82) ?_
       refine AO.c (Calm.fldRp rfl rfl Try.underlying82 rfl sz9 (At.cast (At.fld0 At.here) rfl)) ?_
       refine AO.c (Calm.loadRp rfl rfl ag9 sz9) ?_
       refine AO.c (Calm.assign rfl rfl) ?_
       refine AO.nH [4] (H' := []) (Sub.nil _) ?_
       refine AW.rK [4] ?_
       have hr := Option.some.inj h
       subst hr
       exact ⟨[(eStr ((lget p0.f0 p1.f1).f0))], ⟨rfl, rfl, trivial⟩, rfl⟩
      ·refine AW.condF' _ rfl hc14 ?_
       refine AW.sH [] (H' := []) (Sub.nil _) ?_
       refine AW.sr ?_
       refine AO.c (Calm.assign rfl rfl) ?_
       refine AO.nK [4] ?_
       refine AW.rK [4] ?_
       have hr := Option.some.inj h
       subst hr
       exact ⟨[(eStr (ByteArray.mk #[63]))], ⟨rfl, rfl, trivial⟩, rfl⟩
end Go.Avl.T7
/- bosket/gram.Of; printed by avmain.py. -/
namespace Go.Avl.T7
open Go Go.RowKit Go.Proofs Go.Avl
set_option linter.unusedVariables false
set_option maxRecDepth 100000
set_option maxHeartbeats 4000000
attribute [local irreducible] AW AO AQ Spec SpecH Calm

def gram_Of_c0 (k : Nat) (x5 : (List Int)) : Option (List Int) :=
  some (x5)
def gram_Of_c1 (k : Nat) (rec9 : ((List Int) → Int → Option (List Int))) (x8 : Int) (x13 : (List Int)) : Option (List Int) :=
  rec9 x13 (w64 (x8 + (1 : Int)))
def gram_Of_l2 (k : Nat) (p0 : S27) (p1 : Int) : Nat → (List Int) → Int → Option (List Int)
  | 0, _, _ => none
  | j + 1, x7, x8 =>
    if x8 < (p0.f2.length : Int) then if 0 ≤ x8 ∧ x8 < (p0.f2.length : Int) then if ((lget p0.f2 x8).f0) = p1 then if (x7 ++ ([x8] : List Int)).length * 8 ≤ 140737488355328 then gram_Of_c1 k (gram_Of_l2 k p0 p1 j) x8 (x7 ++ ([x8] : List Int))
    else none
    else gram_Of_c1 k (gram_Of_l2 k p0 p1 j) x8 x7
    else none
    else gram_Of_c0 k x7
def gram_Of (k : Nat) (p0 : S27) (p1 : Int) : Option (List Int) :=
  gram_Of_l2 k p0 p1 k ([] : List Int) (0 : Int)
theorem gram_Of_spec {k : Nat} {p0 : S27} {p1 : Int} {r : (List Int)} (h : gram_Of k p0 p1 = some r) : Spec Try.prog 20 [(e27 p0), (eI64 p1)] (e35 r) := by
  rw [gram_Of.eq_1] at h
  refine Spec.intro (res := [.tmp 4]) Try.func20 rfl rfl rfl (Nat.le_of_ble_eq_true rfl) ?_
  refine AW.sr ?_
  refine AO.box rfl 2 rfl (by decide) rfl rfl rfl fun n3 => ?_
  refine AO.c (Calm.assign rfl rfl) ?_
  refine AO.nK [1, 2] ?_
  refine AW.sr ?_
  refine AO.c (Calm.assign rfl rfl) ?_
  refine AO.nK [1, 2, 5] ?_
  refine AW.seq_mid (fun ρ H => ∃ (n4 : Nat) (x5 : (List Int)), ρ = [(5, (.own n4 0 x5.length))] ∧ H = [(n4, (.mem (.ar 1 (x5.map eI64))))] ∧ gram_Of_c0 k x5 = some r) ?_ ?_
  ·refine AW.sr ?_
   refine AO.c (x := .ptr n3 2) (Calm.fldPtr rfl rfl Try.underlying27 rfl sz24 _ rfl) ?_
   refine AO.c (Calm.load 0 rfl rfl rfl (At.cast (At.fldS (At.fldS (At.fld0 At.here))) rfl) ag24 sz24) ?_
   refine AO.c (Calm.lenL rfl rfl Try.underlying24) ?_
   refine AO.c (Calm.move rfl rfl) ?_
   refine AO.nH [1, 5, 9, 10, 11] (H' := []) (Sub.nil _) ?_
   refine AW.block ?_
   refine AW.nilOwn 5 1 rfl fun n20 => ?_
   refine AW.wK [1, 5, 9, 10, 11] ?_
   refine AW.loop (fun kq ρ H => ∃ (n6 : Nat) (x7 : (List Int)) (x8 : Int), ρ = [(1, (eI64 p1)), (5, (.own n6 0 x7.length)), (9, (.fz 6 (p0.f2.map e37))), (10, (eI64 (p0.f2.length : Int))), (11, (eI64 x8))] ∧ H = [(n6, (.mem (.ar 1 (x7.map eI64))))] ∧ gram_Of_l2 k p0 p1 kq x7 x8 = some r) k ⟨n20, ([] : List Int), (0 : Int), rfl, rfl, h⟩ ?_
   rintro kq10 _ _ ⟨n6, x7, x8, rfl, rfl, h⟩
   cases kq10 with
   | zero => rw [gram_Of_l2.eq_1] at h; cases h
   | succ kq10 =>
   rw [gram_Of_l2.eq_2] at h
   generalize hrec9 : gram_Of_l2 k p0 p1 kq10 = rec9 at h
   refine AW.sr ?_
   refine AO.c (x := eBool (decide (x8 < (p0.f2.length : Int)))) (Calm.int rfl rfl rfl rfl) ?_
   refine AO.nK [1, 5, 9, 10, 11, 12] ?_
   refine AW.seq ?_
   rcases of_ite h with ⟨hc11, h⟩ | ⟨hc11, h⟩
   ·refine AW.condP _ rfl hc11 ?_
    refine AW.sK [1, 5, 9, 10, 11] ?_
    refine AW.seq_mid (fun ρ H => ∃ (n12 : Nat) (x13 : (List Int)), ρ = [(1, (eI64 p1)), (5, (.own n12 0 x13.length)), (9, (.fz 6 (p0.f2.map e37))), (10, (eI64 (p0.f2.length : Int))), (11, (eI64 x8))] ∧ H = [(n12, (.mem (.ar 1 (x13.map eI64))))] ∧ gram_Of_c1 k rec9 x8 x13 = some r) ?_ ?_
    ·refine AW.block ?_
     refine AW.sr ?_
     refine AO.c (Calm.move rfl rfl) ?_
     obtain ⟨hg14, h⟩ := of_guard h
     refine AO.c (Calm.idxL (f := e37) rfl rfl rfl hg14 Try.underlying24 sz37) ?_
     refine AO.c (Calm.loadRp rfl rfl ag37 sz37) ?_
     refine AO.alloc rfl 7 rfl (by decide) rfl zr37 lay37 fun n15 => ?_
     refine AO.c (Calm.assign rfl rfl) ?_
     refine AO.store (X' := (e37 (lget p0.f2 x8))) 0 rfl rfl rfl rfl rfl rfl (Put.cast Put.here rfl) rfl rfl sz37 rfl ?_
     refine AO.nH [1, 5, 6, 7, 9, 10, 11] (H' := [(n6, (.mem (.ar 1 (x7.map eI64)))), (n15, (.mem (e37 (lget p0.f2 x8))))]) (Sub.cons 1 rfl (Sub.cons 0 rfl (Sub.nil _))) ?_
     refine AW.sr ?_
     refine AO.c (x := .ptr n15 0) (Calm.fldPtr rfl rfl Try.underlying37 rfl sz3 _ rfl) ?_
     refine AO.c (Calm.load 1 rfl rfl rfl (At.cast (At.fld0 At.here) rfl) ag3 sz3) ?_
     refine AO.c (Calm.move rfl rfl) ?_
     refine AO.c (x := eBool (decide (((lget p0.f2 x8).f0) = p1))) (Calm.int rfl rfl rfl rfl) ?_
     refine AO.nH [1, 5, 6, 9, 10, 11, 19] (H' := [(n6, (.mem (.ar 1 (x7.map eI64))))]) (Sub.cons 0 rfl (Sub.nil _)) ?_
     rcases of_ite h with ⟨hc16, h⟩ | ⟨hc16, h⟩
     ·refine AW.condP _ rfl hc16 ?_
      refine AW.reg ?_
      refine AO.c (Calm.move rfl rfl) ?_
      refine AO.c (Calm.move rfl rfl) ?_
      refine AO.lit (Z := (eI64 (0 : Int))) (xs := (([x8] : List Int).map eI64)) (qs := [(0, (eI64 x8))]) rfl 22 rfl (by decide) rfl ⟨rfl, rfl, rfl, trivial⟩ Try.underlying35 sz3 zr3 lay3 rfl (by decide) (litOK (z := 1) [(eI64 x8)] rfl ⟨⟨rfl, rfl⟩, trivial⟩) rfl fun n17 => ?_
      obtain ⟨hg19, h⟩ := of_guard h
      refine AO.appendL (l := x7) (m := ([x8] : List Int)) 1 23 rfl (by decide) rfl rfl rfl rfl rfl (Src.ownL (f := eI64) (l := ([x8] : List Int)) 0 rfl) Try.underlying35 Try.underlying35 sz3 by3 zr3 rfl hg19 (by decide) fun n18 => ?_
      refine AO.c (Calm.assign rfl rfl) ?_
      refine AO.nH [1, 5, 9, 10, 11] (H' := [(n18, (.mem (.ar 1 ((x7 ++ ([x8] : List Int)).map eI64))))]) (Sub.cons 1 rfl (Sub.nil _)) ?_
      exact ⟨n18, (x7 ++ ([x8] : List Int)), rfl, rfl, h⟩
     ·refine AW.condN _ rfl hc16 ?_
      refine AW.sK [1, 5, 9, 10, 11] ?_
      exact ⟨n6, x7, rfl, rfl, h⟩
    ·rintro _ _ ⟨n12, x13, rfl, rfl, h⟩
     rw [gram_Of_c1.eq_1] at h
     refine AW.reg ?_
     refine AO.c (x := eI64 (w64 (x8 + (1 : Int)))) (Calm.int rfl rfl rfl rfl) ?_
     refine AO.c (Calm.move rfl rfl) ?_
     refine AO.nK [1, 5, 9, 10, 11] ?_
     exact ⟨kq10, Nat.lt_succ_self _, n12, x13, (w64 (x8 + (1 : Int))), rfl, rfl, by rw [hrec9]; exact h⟩
   ·refine AW.condN _ rfl hc11 ?_
    refine AW.eK [5] ?_
    exact ⟨n6, x7, rfl, rfl, h⟩
  ·rintro _ _ ⟨n4, x5, rfl, rfl, h⟩
   rw [gram_Of_c0.eq_1] at h
   refine AW.sr ?_
   refine AO.c (Calm.move rfl rfl) ?_
   refine AO.c (Calm.assign rfl rfl) ?_
   refine AO.nK [4] ?_
   refine AW.freezeS 0 [(4, (.fz 1 (x5.map eI64)))] rfl ⟨fz_all rfl, trivial⟩ ?_
   refine AW.rK [4] ?_
   have hr := Option.some.inj h
   subst hr
   exact ⟨[(.fz 1 (x5.map eI64))], ⟨rfl, rfl, trivial⟩, rfl⟩
end Go.Avl.T7
/- bosket/bosketref17.Encloses; printed by avmain.py. -/
namespace Go.Avl.T7
open Go Go.RowKit Go.Proofs Go.Avl
set_option linter.unusedVariables false
set_option maxRecDepth 100000
set_option maxHeartbeats 4000000
attribute [local irreducible] AW AO AQ Spec SpecH Calm

def bosketref17_Encloses (k : Nat) (p0 : S37) : Option Bool :=
  Option.bind (α := Bool) (if (p0.f2.length : Int) = (3 : Int) then if 0 ≤ (0 : Int) ∧ (0 : Int) < (p0.f2.length : Int) then if (!((lget p0.f2 (0 : Int)).f0)) = true then if 0 ≤ (1 : Int) ∧ (1 : Int) < (p0.f2.length : Int) then if ((lget p0.f2 (1 : Int)).f0) = true then if 0 ≤ (1 : Int) ∧ (1 : Int) < (p0.f2.length : Int) then if ((lget p0.f2 (1 : Int)).f1) = p0.f0 then if 0 ≤ (2 : Int) ∧ (2 : Int) < (p0.f2.length : Int) then some (!((lget p0.f2 (2 : Int)).f0))
  else none
  else some (false)
  else none
  else some (false)
  else none
  else some (false)
  else none
  else some (false)) fun b3 =>
  some (b3)
theorem bosketref17_Encloses_spec {k : Nat} {p0 : S37} {r : Bool} (h : bosketref17_Encloses k p0 = some r) : Spec Try.prog 23 [(e37 p0)] (eBool r) := by
  rw [bosketref17_Encloses.eq_1] at h
  refine Spec.intro (res := [.tmp 2]) Try.func23 rfl rfl rfl (Nat.le_of_ble_eq_true rfl) ?_
  refine AW.sr ?_
  refine AO.box rfl 1 rfl (by decide) rfl rfl rfl fun n2 => ?_
  refine AO.c (Calm.assign rfl rfl) ?_
  refine AO.nK [1] ?_
  refine AW.seq ?_
  obtain ⟨b3, hq4, h⟩ := of_bind h
  refine AW.regQM (by rfl) (by decide +kernel) [(2, (eBool b3))] ?_ ?_
  ·refine AQ.c (x := .ptr n2 2) (Calm.fldPtr rfl rfl Try.underlying37 rfl sz34 _ rfl) ?_
   refine AQ.c (Calm.load 0 rfl rfl rfl (At.cast (At.fldS (At.fldS (At.fld0 At.here))) rfl) ag34 sz34) ?_
   refine AQ.c (Calm.lenL rfl rfl Try.underlying34) ?_
   refine AQ.c (x := eBool (decide ((p0.f2.length : Int) = (3 : Int)))) (Calm.int rfl rfl rfl rfl) ?_
   refine AQ.c (Calm.move rfl rfl) ?_
   rcases of_ite hq4 with ⟨hc5, hq4⟩ | ⟨hc5, hq4⟩
   ·refine AQ.cG (x := .ptr n2 2) rfl rfl (bD (decide_eq_true hc5)) (Calm.fldPtr rfl rfl Try.underlying37 rfl sz34 _ rfl) ?_
    refine AQ.cG rfl rfl (bD (decide_eq_true hc5)) (Calm.load 0 rfl rfl rfl (At.cast (At.fldS (At.fldS (At.fld0 At.here))) rfl) ag34 sz34) ?_
    obtain ⟨hg6, hq4⟩ := of_guard hq4
    refine AQ.cG rfl rfl (bD (decide_eq_true hc5)) (Calm.idxL (f := e41) rfl rfl rfl hg6 Try.underlying34 sz41) ?_
    refine AQ.cG rfl rfl (bD (decide_eq_true hc5)) (Calm.fldRp rfl rfl Try.underlying41 rfl sz4 (At.cast (At.fld0 At.here) rfl)) ?_
    refine AQ.cG rfl rfl (bD (decide_eq_true hc5)) (Calm.loadRp rfl rfl ag4 sz4) ?_
    refine AQ.cG rfl rfl (bD (decide_eq_true hc5)) (Calm.not rfl rfl) ?_
    refine AQ.c (Calm.pickT rfl (bD (decide_eq_true hc5)) rfl) ?_
    refine AQ.c (Calm.move rfl rfl) ?_
    rcases of_ite hq4 with ⟨hc7, hq4⟩ | ⟨hc7, hq4⟩
    ·refine AQ.cG (x := .ptr n2 2) rfl rfl (bD hc7) (Calm.fldPtr rfl rfl Try.underlying37 rfl sz34 _ rfl) ?_
     refine AQ.cG rfl rfl (bD hc7) (Calm.load 0 rfl rfl rfl (At.cast (At.fldS (At.fldS (At.fld0 At.here))) rfl) ag34 sz34) ?_
     obtain ⟨hg8, hq4⟩ := of_guard hq4
     refine AQ.cG rfl rfl (bD hc7) (Calm.idxL (f := e41) rfl rfl rfl hg8 Try.underlying34 sz41) ?_
     refine AQ.cG rfl rfl (bD hc7) (Calm.fldRp rfl rfl Try.underlying41 rfl sz4 (At.cast (At.fld0 At.here) rfl)) ?_
     refine AQ.cG rfl rfl (bD hc7) (Calm.loadRp rfl rfl ag4 sz4) ?_
     refine AQ.c (Calm.pickT rfl (bD hc7) rfl) ?_
     refine AQ.c (Calm.move rfl rfl) ?_
     rcases of_ite hq4 with ⟨hc9, hq4⟩ | ⟨hc9, hq4⟩
     ·refine AQ.cG (x := .ptr n2 2) rfl rfl (bD hc9) (Calm.fldPtr rfl rfl Try.underlying37 rfl sz34 _ rfl) ?_
      refine AQ.cG rfl rfl (bD hc9) (Calm.load 0 rfl rfl rfl (At.cast (At.fldS (At.fldS (At.fld0 At.here))) rfl) ag34 sz34) ?_
      obtain ⟨hg10, hq4⟩ := of_guard hq4
      refine AQ.cG rfl rfl (bD hc9) (Calm.idxL (f := e41) rfl rfl rfl hg10 Try.underlying34 sz41) ?_
      refine AQ.cG rfl rfl (bD hc9) (Calm.fldRp rfl rfl Try.underlying41 rfl sz3 (At.cast (At.fldS (At.fld0 At.here)) rfl)) ?_
      refine AQ.cG rfl rfl (bD hc9) (Calm.loadRp rfl rfl ag3 sz3) ?_
      refine AQ.cG (x := .ptr n2 0) rfl rfl (bD hc9) (Calm.fldPtr rfl rfl Try.underlying37 rfl sz3 _ rfl) ?_
      refine AQ.cG rfl rfl (bD hc9) (Calm.load 0 rfl rfl rfl (At.cast (At.fld0 At.here) rfl) ag3 sz3) ?_
      refine AQ.cG (x := eBool (decide (((lget p0.f2 (1 : Int)).f1) = p0.f0))) rfl rfl (bD hc9) (Calm.int rfl rfl rfl rfl) ?_
      refine AQ.c (Calm.pickT rfl (bD hc9) rfl) ?_
      refine AQ.c (Calm.move rfl rfl) ?_
      rcases of_ite hq4 with ⟨hc11, hq4⟩ | ⟨hc11, hq4⟩
      ·refine AQ.cG (x := .ptr n2 2) rfl rfl (bD (decide_eq_true hc11)) (Calm.fldPtr rfl rfl Try.underlying37 rfl sz34 _ rfl) ?_
       refine AQ.cG rfl rfl (bD (decide_eq_true hc11)) (Calm.load 0 rfl rfl rfl (At.cast (At.fldS (At.fldS (At.fld0 At.here))) rfl) ag34 sz34) ?_
       obtain ⟨hg12, hq4⟩ := of_guard hq4
       refine AQ.cG rfl rfl (bD (decide_eq_true hc11)) (Calm.idxL (f := e41) rfl rfl rfl hg12 Try.underlying34 sz41) ?_
       refine AQ.cG rfl rfl (bD (decide_eq_true hc11)) (Calm.fldRp rfl rfl Try.underlying41 rfl sz4 (At.cast (At.fld0 At.here) rfl)) ?_
       refine AQ.cG rfl rfl (bD (decide_eq_true hc11)) (Calm.loadRp rfl rfl ag4 sz4) ?_
       refine AQ.cG rfl rfl (bD (decide_eq_true hc11)) (Calm.not rfl rfl) ?_
       refine AQ.c (Calm.pickT rfl (bD (decide_eq_true hc11)) rfl) ?_
       refine AQ.c (Calm.assign rfl rfl) ?_
       cases hq4
       refine AQ.nilE rfl ?_
       exact ⟨rfl, trivial⟩
      ·refine AQ.sT rfl rfl (bD (decide_eq_false hc11)) ?_
       refine AQ.sT rfl rfl (bD (decide_eq_false hc11)) ?_
       refine AQ.sT rfl rfl (bD (decide_eq_false hc11)) ?_
       refine AQ.sT rfl rfl (bD (decide_eq_false hc11)) ?_
       refine AQ.sT rfl rfl (bD (decide_eq_false hc11)) ?_
       refine AQ.sT rfl rfl (bD (decide_eq_false hc11)) ?_
       refine AQ.c (Calm.pickF rfl (bD (decide_eq_false hc11)) rfl) ?_
       refine AQ.c (Calm.assign rfl rfl) ?_
       cases hq4
       refine AQ.nilE rfl ?_
       exact ⟨rfl, trivial⟩
     ·refine AQ.sT rfl rfl (bD (eq_false_of_ne_true hc9)) ?_
      refine AQ.sT rfl rfl (bD (eq_false_of_ne_true hc9)) ?_
      refine AQ.sT rfl rfl (bD (eq_false_of_ne_true hc9)) ?_
      refine AQ.sT rfl rfl (bD (eq_false_of_ne_true hc9)) ?_
      refine AQ.sT rfl rfl (bD (eq_false_of_ne_true hc9)) ?_
      refine AQ.sT rfl rfl (bD (eq_false_of_ne_true hc9)) ?_
      refine AQ.sT rfl rfl (bD (eq_false_of_ne_true hc9)) ?_
      refine AQ.sT rfl rfl (bD (eq_false_of_ne_true hc9)) ?_
      refine AQ.c (Calm.pickF rfl (bD (eq_false_of_ne_true hc9)) rfl) ?_
      refine AQ.c (Calm.move rfl rfl) ?_
      refine AQ.sT rfl rfl rfl ?_
      refine AQ.sT rfl rfl rfl ?_
      refine AQ.sT rfl rfl rfl ?_
      refine AQ.sT rfl rfl rfl ?_
      refine AQ.sT rfl rfl rfl ?_
      refine AQ.sT rfl rfl rfl ?_
      refine AQ.c (Calm.pickF rfl rfl rfl) ?_
      refine AQ.c (Calm.assign rfl rfl) ?_
      cases hq4
      refine AQ.nilE rfl ?_
      exact ⟨rfl, trivial⟩
    ·refine AQ.sT rfl rfl (bD (eq_false_of_ne_true hc7)) ?_
     refine AQ.sT rfl rfl (bD (eq_false_of_ne_true hc7)) ?_
     refine AQ.sT rfl rfl (bD (eq_false_of_ne_true hc7)) ?_
     refine AQ.sT rfl rfl (bD (eq_false_of_ne_true hc7)) ?_
     refine AQ.sT rfl rfl (bD (eq_false_of_ne_true hc7)) ?_
     refine AQ.c (Calm.pickF rfl (bD (eq_false_of_ne_true hc7)) rfl) ?_
     refine AQ.c (Calm.move rfl rfl) ?_
     refine AQ.sT rfl rfl rfl ?_
     refine AQ.sT rfl rfl rfl ?_
     refine AQ.sT rfl rfl rfl ?_
     refine AQ.sT rfl rfl rfl ?_
     refine AQ.sT rfl rfl rfl ?_
     refine AQ.sT rfl rfl rfl ?_
     refine AQ.sT rfl rfl rfl ?_
     refine AQ.sT rfl rfl rfl ?_
     refine AQ.c (Calm.pickF rfl rfl rfl) ?_
     refine AQ.c (Calm.move rfl rfl) ?_
     refine AQ.sT rfl rfl rfl ?_
     refine AQ.sT rfl rfl rfl ?_
     refine AQ.sT rfl rfl rfl ?_
     refine AQ.sT rfl rfl rfl ?_
     refine AQ.sT rfl rfl rfl ?_
     refine AQ.sT rfl rfl rfl ?_
     refine AQ.c (Calm.pickF rfl rfl rfl) ?_
     refine AQ.c (Calm.assign rfl rfl) ?_
     cases hq4
     refine AQ.nilE rfl ?_
     exact ⟨rfl, trivial⟩
   ·refine AQ.sT rfl rfl (bD (decide_eq_false hc5)) ?_
    refine AQ.sT rfl rfl (bD (decide_eq_false hc5)) ?_
    refine AQ.sT rfl rfl (bD (decide_eq_false hc5)) ?_
    refine AQ.sT rfl rfl (bD (decide_eq_false hc5)) ?_
    refine AQ.sT rfl rfl (bD (decide_eq_false hc5)) ?_
    refine AQ.sT rfl rfl (bD (decide_eq_false hc5)) ?_
    refine AQ.c (Calm.pickF rfl (bD (decide_eq_false hc5)) rfl) ?_
    refine AQ.c (Calm.move rfl rfl) ?_
    refine AQ.sT rfl rfl rfl ?_
    refine AQ.sT rfl rfl rfl ?_
    refine AQ.sT rfl rfl rfl ?_
    refine AQ.sT rfl rfl rfl ?_
    refine AQ.sT rfl rfl rfl ?_
    refine AQ.c (Calm.pickF rfl rfl rfl) ?_
    refine AQ.c (Calm.move rfl rfl) ?_
    refine AQ.sT rfl rfl rfl ?_
    refine AQ.sT rfl rfl rfl ?_
    refine AQ.sT rfl rfl rfl ?_
    refine AQ.sT rfl rfl rfl ?_
    refine AQ.sT rfl rfl rfl ?_
    refine AQ.sT rfl rfl rfl ?_
    refine AQ.sT rfl rfl rfl ?_
    refine AQ.sT rfl rfl rfl ?_
    refine AQ.c (Calm.pickF rfl rfl rfl) ?_
    refine AQ.c (Calm.move rfl rfl) ?_
    refine AQ.sT rfl rfl rfl ?_
    refine AQ.sT rfl rfl rfl ?_
    refine AQ.sT rfl rfl rfl ?_
    refine AQ.sT rfl rfl rfl ?_
    refine AQ.sT rfl rfl rfl ?_
    refine AQ.sT rfl rfl rfl ?_
    refine AQ.c (Calm.pickF rfl rfl rfl) ?_
    refine AQ.c (Calm.assign rfl rfl) ?_
    cases hq4
    refine AQ.nilE rfl ?_
    exact ⟨rfl, trivial⟩
  ·refine AW.rH [2] (H' := []) (Sub.nil _) ?_
   have hr := Option.some.inj h
   subst hr
   exact ⟨[(eBool b3)], ⟨rfl, rfl, trivial⟩, rfl⟩
end Go.Avl.T7
/- bosket/gram.Paren; printed by avmain.py. -/
namespace Go.Avl.T7
open Go Go.RowKit Go.Proofs Go.Avl
set_option linter.unusedVariables false
set_option maxRecDepth 100000
set_option maxHeartbeats 4000000
attribute [local irreducible] AW AO AQ Spec SpecH Calm

def gram_Paren_c0 (k : Nat) : Option Int :=
  some ((-1 : Int))
def gram_Paren_l1 (k : Nat) (p0 : S27) (t4 : (List Int)) : Nat → Int → Option Int
  | 0, _ => none
  | j + 1, x5 =>
    if x5 < (t4.length : Int) then if 0 ≤ x5 ∧ x5 < (t4.length : Int) then if 0 ≤ (lget t4 x5) ∧ (lget t4 x5) < (p0.f2.length : Int) then if ((lget p0.f2 (lget t4 x5)).f3) = true then some ((lget t4 x5))
    else (gram_Paren_l1 k p0 t4 j) (w64 (x5 + (1 : Int)))
    else none
    else none
    else gram_Paren_c0 k
def gram_Paren (k : Nat) (p0 : S27) (p1 : Int) : Option Int :=
  (gram_Of k p0 p1).bind fun t4 =>
  gram_Paren_l1 k p0 t4 k (0 : Int)
theorem gram_Paren_spec {k : Nat} {p0 : S27} {p1 : Int} {r : Int} (h : gram_Paren k p0 p1 = some r) : Spec Try.prog 24 [(e27 p0), (eI64 p1)] (eI64 r) := by
  rw [gram_Paren.eq_1] at h
  refine Spec.intro (res := [.tmp 4]) Try.func24 rfl rfl rfl (Nat.le_of_ble_eq_true rfl) ?_
  refine AW.sr ?_
  refine AO.box rfl 2 rfl (by decide) rfl rfl rfl fun n3 => ?_
  refine AO.c (Calm.assign rfl rfl) ?_
  refine AO.nK [1, 2] ?_
  refine AW.seq_mid (fun ρ H => ρ = [] ∧ H = [] ∧ gram_Paren_c0 k = some r) ?_ ?_
  ·refine AW.sr ?_
   refine AO.c (Calm.load 0 rfl rfl rfl (At.cast At.here rfl) ag27 sz27) ?_
   refine AO.c (Calm.move rfl rfl) ?_
   obtain ⟨t4, et4, h⟩ := of_bind h
   refine AO.callS [(e27 p0), (eI64 p1)] (.fz 1 (t4.map eI64)) 9 rfl (by decide) ok20 rfl rfl rfl ⟨rfl, rfl, rfl, rfl, trivial⟩ (gram_Of_spec et4) ?_
   refine AO.c (Calm.lenL rfl rfl Try.underlying35) ?_
   refine AO.c (Calm.move rfl rfl) ?_
   refine AO.nK [2, 9, 10, 11] ?_
   refine AW.block ?_
   refine AW.wK [2, 9, 10, 11] ?_
   refine AW.loop (fun kq ρ H => ∃ (x5 : Int), ρ = [(2, (.ptr n3 0)), (9, (.fz 1 (t4.map eI64))), (10, (eI64 (t4.length : Int))), (11, (eI64 x5))] ∧ H = [(n3, (.mem (e27 p0)))] ∧ gram_Paren_l1 k p0 t4 kq x5 = some r) k ⟨(0 : Int), rfl, rfl, h⟩ ?_
   rintro kq7 _ _ ⟨x5, rfl, rfl, h⟩
   cases kq7 with
   | zero => rw [gram_Paren_l1.eq_1] at h; cases h
   | succ kq7 =>
   rw [gram_Paren_l1.eq_2] at h
   generalize hrec6 : gram_Paren_l1 k p0 t4 kq7 = rec6 at h
   refine AW.sr ?_
   refine AO.c (x := eBool (decide (x5 < (t4.length : Int)))) (Calm.int rfl rfl rfl rfl) ?_
   refine AO.nK [2, 9, 10, 11, 12] ?_
   refine AW.seq ?_
   rcases of_ite h with ⟨hc8, h⟩ | ⟨hc8, h⟩
   ·refine AW.condP _ rfl hc8 ?_
    refine AW.sK [2, 9, 10, 11] ?_
    refine AW.seq ?_
    refine AW.block ?_
    refine AW.sr ?_
    obtain ⟨hg9, h⟩ := of_guard h
    refine AO.c (Calm.idxL (f := eI64) rfl rfl rfl hg9 Try.underlying35 sz3) ?_
    refine AO.c (Calm.loadRp rfl rfl ag3 sz3) ?_
    refine AO.c (Calm.assign rfl rfl) ?_
    refine AO.nK [2, 6, 9, 10, 11] ?_
    refine AW.sr ?_
    refine AO.c (x := .ptr n3 2) (Calm.fldPtr rfl rfl Try.underlying27 rfl sz24 _ rfl) ?_
    refine AO.c (Calm.load 0 rfl rfl rfl (At.cast (At.fldS (At.fldS (At.fld0 At.here))) rfl) ag24 sz24) ?_
    refine AO.c (Calm.move rfl rfl) ?_
    obtain ⟨hg10, h⟩ := of_guard h
    refine AO.c (Calm.idxL (f := e37) rfl rfl rfl hg10 Try.underlying24 sz37) ?_
    refine AO.c (Calm.fldRp rfl rfl Try.underlying37 rfl sz4 (At.cast (At.fldS (At.fldS (At.fldS (At.fld0 At.here)))) rfl)) ?_
    refine AO.c (Calm.loadRp rfl rfl ag4 sz4) ?_
    refine AO.nK [2, 6, 9, 10, 11, 20] ?_
    rcases of_ite h with ⟨hc11, h⟩ | ⟨hc11, h⟩
    ·refine AW.condT' _ rfl hc11 ?_
     refine AW.sr ?_
     refine AO.c (Calm.move rfl rfl) ?_
     refine AO.c (Calm.assign rfl rfl) ?_
     refine AO.nH [4] (H' := []) (Sub.nil _) ?_
     refine AW.rK [4] ?_
     have hr := Option.some.inj h
     subst hr
     exact ⟨[(eI64 (lget t4 x5))], ⟨rfl, rfl, trivial⟩, rfl⟩
    ·refine AW.condF' _ rfl hc11 ?_
     refine AW.sK [2, 9, 10, 11] ?_
     refine AW.reg ?_
     refine AO.c (x := eI64 (w64 (x5 + (1 : Int)))) (Calm.int rfl rfl rfl rfl) ?_
     refine AO.c (Calm.move rfl rfl) ?_
     refine AO.nK [2, 9, 10, 11] ?_
     exact ⟨kq7, Nat.lt_succ_self _, (w64 (x5 + (1 : Int))), rfl, rfl, by rw [hrec6]; exact h⟩
   ·refine AW.condN _ rfl hc8 ?_
    refine AW.eH [] (H' := []) (Sub.nil _) ?_
    exact ⟨rfl, rfl, h⟩
  ·rintro _ _ ⟨rfl, rfl, h⟩
   rw [gram_Paren_c0.eq_1] at h
   refine AW.sr ?_
   refine AO.c (Calm.assign rfl rfl) ?_
   refine AO.nK [4] ?_
   refine AW.rK [4] ?_
   have hr := Option.some.inj h
   subst hr
   exact ⟨[(eI64 (-1 : Int))], ⟨rfl, rfl, trivial⟩, rfl⟩
end Go.Avl.T7
/- bosket/gram.Con; printed by avmain.py. -/
namespace Go.Avl.T7
open Go Go.RowKit Go.Proofs Go.Avl
set_option linter.unusedVariables false
set_option maxRecDepth 100000
set_option maxHeartbeats 4000000
attribute [local irreducible] AW AO AQ Spec SpecH Calm

def gram_Con_c0 (k : Nat) : Option Int :=
  some ((-1 : Int))
def gram_Con_l1 (k : Nat) (p0 : S27) (p1 : ByteArray) : Nat → Int → Option Int
  | 0, _ => none
  | j + 1, x4 =>
    if x4 < (p0.f2.length : Int) then if 0 ≤ x4 ∧ x4 < (p0.f2.length : Int) then if ((lget p0.f2 x4).f1) = p1 then some (x4)
    else (gram_Con_l1 k p0 p1 j) (w64 (x4 + (1 : Int)))
    else none
    else gram_Con_c0 k
def gram_Con (k : Nat) (p0 : S27) (p1 : ByteArray) : Option Int :=
  gram_Con_l1 k p0 p1 k (0 : Int)
theorem gram_Con_spec {k : Nat} {p0 : S27} {p1 : ByteArray} {r : Int} (h : gram_Con k p0 p1 = some r) : Spec Try.prog 25 [(e27 p0), (eStr p1)] (eI64 r) := by
  rw [gram_Con.eq_1] at h
  refine Spec.intro (res := [.tmp 4]) Try.func25 rfl rfl rfl (Nat.le_of_ble_eq_true rfl) ?_
  refine AW.sr ?_
  refine AO.box rfl 2 rfl (by decide) rfl rfl rfl fun n3 => ?_
  refine AO.c (Calm.assign rfl rfl) ?_
  refine AO.nK [1, 2] ?_
  refine AW.seq_mid (fun ρ H => ρ = [] ∧ H = [] ∧ gram_Con_c0 k = some r) ?_ ?_
  ·refine AW.sr ?_
   refine AO.c (x := .ptr n3 2) (Calm.fldPtr rfl rfl Try.underlying27 rfl sz24 _ rfl) ?_
   refine AO.c (Calm.load 0 rfl rfl rfl (At.cast (At.fldS (At.fldS (At.fld0 At.here))) rfl) ag24 sz24) ?_
   refine AO.c (Calm.lenL rfl rfl Try.underlying24) ?_
   refine AO.c (Calm.move rfl rfl) ?_
   refine AO.nH [1, 8, 9, 10] (H' := []) (Sub.nil _) ?_
   refine AW.block ?_
   refine AW.wK [1, 8, 9, 10] ?_
   refine AW.loop (fun kq ρ H => ∃ (x4 : Int), ρ = [(1, (eStr p1)), (8, (.fz 6 (p0.f2.map e37))), (9, (eI64 (p0.f2.length : Int))), (10, (eI64 x4))] ∧ H = [] ∧ gram_Con_l1 k p0 p1 kq x4 = some r) k ⟨(0 : Int), rfl, rfl, h⟩ ?_
   rintro kq6 _ _ ⟨x4, rfl, rfl, h⟩
   cases kq6 with
   | zero => rw [gram_Con_l1.eq_1] at h; cases h
   | succ kq6 =>
   rw [gram_Con_l1.eq_2] at h
   generalize hrec5 : gram_Con_l1 k p0 p1 kq6 = rec5 at h
   refine AW.sr ?_
   refine AO.c (x := eBool (decide (x4 < (p0.f2.length : Int)))) (Calm.int rfl rfl rfl rfl) ?_
   refine AO.nK [1, 8, 9, 10, 11] ?_
   refine AW.seq ?_
   rcases of_ite h with ⟨hc7, h⟩ | ⟨hc7, h⟩
   ·refine AW.condP _ rfl hc7 ?_
    refine AW.sK [1, 8, 9, 10] ?_
    refine AW.seq ?_
    refine AW.block ?_
    refine AW.sr ?_
    refine AO.c (Calm.move rfl rfl) ?_
    obtain ⟨hg8, h⟩ := of_guard h
    refine AO.c (Calm.idxL (f := e37) rfl rfl rfl hg8 Try.underlying24 sz37) ?_
    refine AO.c (Calm.loadRp rfl rfl ag37 sz37) ?_
    refine AO.alloc rfl 6 rfl (by decide) rfl zr37 lay37 fun n9 => ?_
    refine AO.c (Calm.assign rfl rfl) ?_
    refine AO.store (X' := (e37 (lget p0.f2 x4))) 0 rfl rfl rfl rfl rfl rfl (Put.cast Put.here rfl) rfl rfl sz37 rfl ?_
    refine AO.nK [1, 5, 6, 8, 9, 10] ?_
    refine AW.sr ?_
    refine AO.c (x := .ptr n9 1) (Calm.fldPtr rfl rfl Try.underlying37 rfl sz9 _ rfl) ?_
    refine AO.c (Calm.load 0 rfl rfl rfl (At.cast (At.fldS (At.fld0 At.here)) rfl) ag9 sz9) ?_
    refine AO.c (Calm.move rfl rfl) ?_
    refine AO.c (x := eBool (decide (((lget p0.f2 x4).f1) = p1))) (Calm.str rfl rfl rfl rfl) ?_
    refine AO.nH [1, 5, 8, 9, 10, 18] (H' := []) (Sub.nil _) ?_
    rcases of_ite h with ⟨hc10, h⟩ | ⟨hc10, h⟩
    ·refine AW.condP _ rfl hc10 ?_
     refine AW.sr ?_
     refine AO.c (Calm.move rfl rfl) ?_
     refine AO.c (Calm.assign rfl rfl) ?_
     refine AO.nK [4] ?_
     refine AW.rK [4] ?_
     have hr := Option.some.inj h
     subst hr
     exact ⟨[(eI64 x4)], ⟨rfl, rfl, trivial⟩, rfl⟩
    ·refine AW.condN _ rfl hc10 ?_
     refine AW.sK [1, 8, 9, 10] ?_
     refine AW.reg ?_
     refine AO.c (x := eI64 (w64 (x4 + (1 : Int)))) (Calm.int rfl rfl rfl rfl) ?_
     refine AO.c (Calm.move rfl rfl) ?_
     refine AO.nK [1, 8, 9, 10] ?_
     exact ⟨kq6, Nat.lt_succ_self _, (w64 (x4 + (1 : Int))), rfl, rfl, by rw [hrec5]; exact h⟩
   ·refine AW.condN _ rfl hc7 ?_
    refine AW.eK [] ?_
    exact ⟨rfl, rfl, h⟩
  ·rintro _ _ ⟨rfl, rfl, h⟩
   rw [gram_Con_c0.eq_1] at h
   refine AW.sr ?_
   refine AO.c (Calm.assign rfl rfl) ?_
   refine AO.nK [4] ?_
   refine AW.rK [4] ?_
   have hr := Option.some.inj h
   subst hr
   exact ⟨[(eI64 (-1 : Int))], ⟨rfl, rfl, trivial⟩, rfl⟩
end Go.Avl.T7
