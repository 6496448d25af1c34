/- Parts: T5f65, T5f69, T5f103, T5f95, T5f68, T5f34, T5f94. -/
import Derived.Test.YtoaomnfenofglaaAF1
/- bosket/dfa.Order; printed by avmain.py. -/
namespace Go.Avl.T5
open Go Go.RowKit Go.Proofs Go.Avl
set_option linter.unusedVariables false
set_option maxRecDepth 100000
set_option maxHeartbeats 4000000
set_option linter.unusedSimpArgs false
attribute [local irreducible] AW AO AQ Spec SpecH Calm

def dfa_Order_c0 (k : Nat) (p0 : S30) (x12 : (List (List Int))) (x14 : (List Int)) : Option S30 :=
  some ((S30.mk p0.f0 x12 x14))
def dfa_Order_c1 (k : Nat) (rec23 : ((List Int) → (List (List Int)) → (List Int) → (List Int) → Int → Option S30)) (x22 : Int) (x26 : (List Int)) (x28 : (List (List Int))) (x30 : (List Int)) (x32 : (List Int)) : Option S30 :=
  rec23 x26 x28 x30 x32 (w64 (x22 + (1 : Int)))
def dfa_Order_c2 (k : Nat) (rec23 : ((List Int) → (List (List Int)) → (List Int) → (List Int) → Int → Option S30)) (p0 : S30) (x17 : (List (List Int))) (x19 : (List Int)) (x22 : Int) (x37 : (List Int)) (x39 : (List Int)) (x41 : (List Int)) : Option S30 :=
  if (x17 ++ ([x41] : List (List Int))).length * 24 ≤ 140737488355328 then if 0 ≤ x22 ∧ x22 < (x39.length : Int) then if 0 ≤ (lget x39 x22) ∧ (lget x39 x22) < (p0.f2.length : Int) then if (x19 ++ ([(lget p0.f2 (lget x39 x22))] : List Int)).length * 8 ≤ 140737488355328 then dfa_Order_c1 k rec23 x22 x37 (x17 ++ ([x41] : List (List Int))) (x19 ++ ([(lget p0.f2 (lget x39 x22))] : List Int)) x39
  else none
  else none
  else none
  else none
def dfa_Order_c3 (k : Nat) (rec58 : ((List Int) → (List Int) → (List Int) → Int → Option S30)) (x56 : (List Int)) (x57 : Int) (x62 : (List Int)) (x64 : (List Int)) (x65 : Int) : Option S30 :=
  if (x56 ++ ([x65] : List Int)).length * 8 ≤ 140737488355328 then rec58 x62 x64 (x56 ++ ([x65] : List Int)) (w64 (x57 + (1 : Int)))
  else none
def dfa_Order_c4 (k : Nat) (rec58 : ((List Int) → (List Int) → (List Int) → Int → Option S30)) (p0 : S30) (x21 : (List Int)) (x22 : Int) (x56 : (List Int)) (x57 : Int) (x62 : (List Int)) (x64 : (List Int)) : Option S30 :=
  if (0 : Int) ≤ (lget (lget p0.f1 (lget x21 x22)) x57) then if 0 ≤ (lget (lget p0.f1 (lget x21 x22)) x57) ∧ (lget (lget p0.f1 (lget x21 x22)) x57) < (x62.length : Int) then dfa_Order_c3 k rec58 x56 x57 x62 x64 (lget x62 (lget (lget p0.f1 (lget x21 x22)) x57))
  else none
  else dfa_Order_c3 k rec58 x56 x57 x62 x64 (lget (lget p0.f1 (lget x21 x22)) x57)
def dfa_Order_l5 (k : Nat) (rec23 : ((List Int) → (List (List Int)) → (List Int) → (List Int) → Int → Option S30)) (p0 : S30) (x17 : (List (List Int))) (x19 : (List Int)) (x21 : (List Int)) (x22 : Int) : Nat → (List Int) → (List Int) → (List Int) → Int → Option S30
  | 0, _, _, _, _ => none
  | j + 1, x52, x54, x56, x57 =>
    if x57 < ((lget p0.f1 (lget x21 x22)).length : Int) then if 0 ≤ x57 ∧ x57 < ((lget p0.f1 (lget x21 x22)).length : Int) then Option.bind (α := Bool) (if (0 : Int) ≤ (lget (lget p0.f1 (lget x21 x22)) x57) then if 0 ≤ (lget (lget p0.f1 (lget x21 x22)) x57) ∧ (lget (lget p0.f1 (lget x21 x22)) x57) < (x52.length : Int) then some (decide ((lget x52 (lget (lget p0.f1 (lget x21 x22)) x57)) = (-1 : Int)))
    else none
    else some (false)) fun b71 =>
    if b71 = true then if 0 ≤ (lget (lget p0.f1 (lget x21 x22)) x57) ∧ (lget (lget p0.f1 (lget x21 x22)) x57) < (x52.length : Int) then if (x54 ++ ([(lget (lget p0.f1 (lget x21 x22)) x57)] : List Int)).length * 8 ≤ 140737488355328 then dfa_Order_c4 k (dfa_Order_l5 k rec23 p0 x17 x19 x21 x22 j) p0 x21 x22 x56 x57 (lset x52 (lget (lget p0.f1 (lget x21 x22)) x57) (x54.length : Int)) (x54 ++ ([(lget (lget p0.f1 (lget x21 x22)) x57)] : List Int))
    else none
    else none
    else dfa_Order_c4 k (dfa_Order_l5 k rec23 p0 x17 x19 x21 x22 j) p0 x21 x22 x56 x57 x52 x54
    else none
    else dfa_Order_c2 k rec23 p0 x17 x19 x22 x52 x54 x56
def dfa_Order_l6 (k : Nat) (p0 : S30) : Nat → (List Int) → (List (List Int)) → (List Int) → (List Int) → Int → Option S30
  | 0, _, _, _, _, _ => none
  | j + 1, x15, x17, x19, x21, x22 =>
    if x22 < (x21.length : Int) then if 0 ≤ x22 ∧ x22 < (x21.length : Int) then if 0 ≤ (lget x21 x22) ∧ (lget x21 x22) < (p0.f1.length : Int) then if 0 ≤ ((lget p0.f1 (lget x21 x22)).length : Int) ∧ ((lget p0.f1 (lget x21 x22)).length : Int) * (8 : Int) ≤ 140737488355328 ∧ ((lget p0.f1 (lget x21 x22)).length : Int) ≤ 9223372036854775807 then if 0 ≤ x22 ∧ x22 < (x21.length : Int) then if 0 ≤ (lget x21 x22) ∧ (lget x21 x22) < (p0.f1.length : Int) then dfa_Order_l5 k (dfa_Order_l6 k p0 j) p0 x17 x19 x21 x22 k x15 x21 ([] : List Int) (0 : Int)
    else none
    else none
    else none
    else none
    else none
    else dfa_Order_c0 k p0 x17 x19
def dfa_Order_c7 (k : Nat) (p0 : S30) (x6 : (List Int)) : Option S30 :=
  if (p0.f1.length : Int) = (0 : Int) then some ((S30.mk p0.f0 ([] : List (List Int)) ([] : List Int)))
  else if 0 ≤ (0 : Int) ∧ (0 : Int) < (x6.length : Int) then dfa_Order_l6 k p0 k (lset x6 (0 : Int) (0 : Int)) ([] : List (List Int)) ([] : List Int) ([(0 : Int)] : List Int) (0 : Int)
  else none
def dfa_Order_l8 (k : Nat) (p0 : S30) : Nat → (List Int) → Int → Option S30
  | 0, _, _ => none
  | j + 1, x82, x83 =>
    if x83 < ((List.replicate (p0.f1.length : Int).toNat (0 : Int)).length : Int) then if 0 ≤ x83 ∧ x83 < (x82.length : Int) then (dfa_Order_l8 k p0 j) (lset x82 x83 (-1 : Int)) (w64 (x83 + (1 : Int)))
    else none
    else dfa_Order_c7 k p0 x82
def dfa_Order (k : Nat) (p0 : S30) : Option S30 :=
  if 0 ≤ (p0.f1.length : Int) ∧ (p0.f1.length : Int) * (8 : Int) ≤ 140737488355328 ∧ (p0.f1.length : Int) ≤ 9223372036854775807 then dfa_Order_l8 k p0 k (List.replicate (p0.f1.length : Int).toNat (0 : Int)) (0 : Int)
  else none
theorem dfa_Order_spec {k : Nat} {p0 : S30} {r : S30} (h : dfa_Order k p0 = some r) : Spec Try.prog 65 [(e30 p0)] (e30 r) := by
  rw [dfa_Order.eq_1] at h
  refine Spec.intro (res := [.cell 2 30]) Try.func65 rfl rfl rfl (Nat.le_of_ble_eq_true rfl) ?_
  refine AW.sr ?_
  refine AO.box rfl 1 rfl (by decide) rfl rfl rfl fun n2 => ?_
  refine AO.alloc rfl 2 rfl (by decide) rfl zr30 lay30 fun n3 => ?_
  refine AO.nH [1, 2] (H' := [(n2, (.mem (e30 p0))), (n3, (.mem (.st [(256, (.ar 1 ((Vector.replicate 256 (0 : Int)).toList.map eU8))), (1, (.fl (.slice none 0 0))), (1, (.fl (.slice none 0 0)))])))]) (Sub.cons 1 rfl (Sub.cons 0 rfl (Sub.nil _))) ?_
  refine AW.sr ?_
  refine AO.c (x := .ptr n2 256) (Calm.fldPtr rfl rfl Try.underlying30 rfl sz28 _ rfl) ?_
  refine AO.c (Calm.load 0 rfl rfl rfl (At.cast (At.fldS (At.fld0 At.here)) rfl) ag28 sz28) ?_
  refine AO.c (Calm.lenL rfl rfl Try.underlying28) ?_
  obtain ⟨hg5, h⟩ := of_guard h
  refine AO.makeL (f := eI64) (0 : Int) rfl 14 rfl (by decide) rfl rfl rfl Try.underlying25 sz3 by3 zr3 lay3 rfl hg5 fun n4 => ?_
  refine AO.c (Calm.assign rfl rfl) ?_
  refine AO.nH [1, 2, 3] (H' := [(n2, (.mem (e30 p0))), (n3, (.mem (.st [(256, (.ar 1 ((Vector.replicate 256 (0 : Int)).toList.map eU8))), (1, (.fl (.slice none 0 0))), (1, (.fl (.slice none 0 0)))]))), (n4, (.mem (.ar 1 ((List.replicate (p0.f1.length : Int).toNat (0 : Int)).map eI64))))]) (Sub.cons 1 rfl (Sub.cons 1 rfl (Sub.cons 0 rfl (Sub.nil _)))) ?_
  refine AW.seq_mid (fun ρ H => ∃ (x6 : (List Int)), ρ = [(1, (.ptr n2 0)), (2, (.ptr n3 0)), (3, (.own n4 0 x6.length))] ∧ H = [(n2, (.mem (e30 p0))), (n3, (.mem (.st [(256, (.ar 1 ((Vector.replicate 256 (0 : Int)).toList.map eU8))), (1, (.fl (.slice none 0 0))), (1, (.fl (.slice none 0 0)))]))), (n4, (.mem (.ar 1 (x6.map eI64))))] ∧ dfa_Order_c7 k p0 x6 = some r) ?_ ?_
  ·refine AW.sr ?_
   refine AO.c (Calm.move rfl rfl) ?_
   refine AO.c (Calm.lenOwn rfl rfl Try.underlying25) ?_
   refine AO.c (Calm.move rfl rfl) ?_
   refine AO.nK [1, 2, 3, 16, 17] ?_
   refine AW.block ?_
   refine AW.wK [1, 2, 3, 16, 17] ?_
   refine AW.loop (fun kq ρ H => ∃ (x82 : (List Int)) (x83 : Int), ρ = [(1, (.ptr n2 0)), (2, (.ptr n3 0)), (3, (.own n4 0 x82.length)), (16, (eI64 ((List.replicate (p0.f1.length : Int).toNat (0 : Int)).length : Int))), (17, (eI64 x83))] ∧ H = [(n2, (.mem (e30 p0))), (n3, (.mem (.st [(256, (.ar 1 ((Vector.replicate 256 (0 : Int)).toList.map eU8))), (1, (.fl (.slice none 0 0))), (1, (.fl (.slice none 0 0)))]))), (n4, (.mem (.ar 1 (x82.map eI64))))] ∧ dfa_Order_l8 k p0 kq x82 x83 = some r) k ⟨(List.replicate (p0.f1.length : Int).toNat (0 : Int)), (0 : Int), rfl, rfl, h⟩ ?_
   rintro kq85 _ _ ⟨x82, x83, rfl, rfl, h⟩
   cases kq85 with
   | zero => rw [dfa_Order_l8.eq_1] at h; cases h
   | succ kq85 =>
   rw [dfa_Order_l8.eq_2] at h
   generalize hrec84 : dfa_Order_l8 k p0 kq85 = rec84 at h
   refine AW.sr ?_
   refine AO.c (x := eBool (decide (x83 < ((List.replicate (p0.f1.length : Int).toNat (0 : Int)).length : Int)))) (Calm.int rfl rfl rfl rfl) ?_
   refine AO.nK [1, 2, 3, 16, 17, 18] ?_
   refine AW.seq ?_
   rcases of_ite h with ⟨hc86, h⟩ | ⟨hc86, h⟩
   ·refine AW.condP _ rfl hc86 ?_
    refine AW.sK [1, 2, 3, 16, 17] ?_
    refine AW.seq ?_
    refine AW.block ?_
    refine AW.sr ?_
    refine AO.c (Calm.move rfl rfl) ?_
    refine AO.c (Calm.assign rfl rfl) ?_
    refine AO.nK [1, 2, 3, 4, 16, 17] ?_
    refine AW.reg ?_
    refine AO.c (Calm.move rfl rfl) ?_
    refine AO.c (Calm.move rfl rfl) ?_
    obtain ⟨hg87, h⟩ := of_guard h
    refine AO.c (Calm.idxO 2 rfl rfl rfl rfl hg87 Try.underlying25 sz3) ?_
    refine AO.store (X' := (.ar 1 ((lset x82 x83 (-1 : Int)).map eI64))) 2 rfl rfl rfl rfl rfl rfl (Put.cast (Put.lidx x83 (-1 : Int) hg87.1 hg87.2 Put.here) (by omega)) rfl rfl sz3 rfl ?_
    refine AO.coe 3 (y' := (.own n4 0 (lset x82 x83 (-1 : Int)).length)) rfl (fun _ _ h => lset_own h) ?_
    refine AO.coe 20 (y' := (.own n4 0 (lset x82 x83 (-1 : Int)).length)) rfl (fun _ _ h => lset_own h) ?_
    refine AO.nK [1, 2, 3, 16, 17] ?_
    refine AW.reg ?_
    refine AO.c (x := eI64 (w64 (x83 + (1 : Int)))) (Calm.int rfl rfl rfl rfl) ?_
    refine AO.c (Calm.move rfl rfl) ?_
    refine AO.nK [1, 2, 3, 16, 17] ?_
    exact ⟨kq85, Nat.lt_succ_self _, (lset x82 x83 (-1 : Int)), (w64 (x83 + (1 : Int))), rfl, rfl, by rw [hrec84]; exact h⟩
   ·refine AW.condN _ rfl hc86 ?_
    refine AW.eK [1, 2, 3] ?_
    exact ⟨x82, rfl, rfl, h⟩
  ·rintro _ _ ⟨x6, rfl, rfl, h⟩
   rw [dfa_Order_c7.eq_1] at h
   refine AW.sr ?_
   refine AO.c (x := .ptr n2 0) (Calm.fldPtr rfl rfl Try.underlying30 rfl sz27 _ rfl) ?_
   refine AO.c (Calm.load 0 rfl rfl rfl (At.cast (At.fld0 At.here) rfl) ag27 (by rw [sz27]; simp [AV.size])) ?_
   refine AO.c (x := .st [(256, (.ar 1 (p0.f0.toList.map eU8))), (1, (.fl (.slice none 0 0))), (1, (.fl (.slice none 0 0)))]) (Calm.build (qs := [(0, (.ar 1 (p0.f0.toList.map eU8)))]) rfl ⟨rfl, rfl, rfl, trivial⟩ Try.underlying30 rfl zr30 lay30 (.cons rfl rfl (vec_size _ _) (vec_size _ _) (Put.cast (Put.fld0 Put.here) rfl) .nil) rfl) ?_
   refine AO.alloc rfl 5 rfl (by decide) rfl zr30 lay30 fun n7 => ?_
   refine AO.store (X' := (.st [(256, (.ar 1 (p0.f0.toList.map eU8))), (1, (.fl (.slice none 0 0))), (1, (.fl (.slice none 0 0)))])) 0 rfl rfl rfl rfl rfl rfl (Put.cast Put.here rfl) rfl rfl sz30 rfl ?_
   refine AO.nH [1, 2, 3, 5] (H' := [(n2, (.mem (e30 p0))), (n3, (.mem (.st [(256, (.ar 1 ((Vector.replicate 256 (0 : Int)).toList.map eU8))), (1, (.fl (.slice none 0 0))), (1, (.fl (.slice none 0 0)))]))), (n4, (.mem (.ar 1 (x6.map eI64)))), (n7, (.mem (.st [(256, (.ar 1 (p0.f0.toList.map eU8))), (1, (.fl (.slice none 0 0))), (1, (.fl (.slice none 0 0)))])))]) (Sub.cons 1 rfl (Sub.cons 1 rfl (Sub.cons 1 rfl (Sub.cons 0 rfl (Sub.nil _))))) ?_
   refine AW.seq ?_
   refine AW.sr ?_
   refine AO.c (x := .ptr n2 256) (Calm.fldPtr rfl rfl Try.underlying30 rfl sz28 _ rfl) ?_
   refine AO.c (Calm.load 0 rfl rfl rfl (At.cast (At.fldS (At.fld0 At.here)) rfl) ag28 sz28) ?_
   refine AO.c (Calm.lenL rfl rfl Try.underlying28) ?_
   refine AO.c (x := eBool (decide ((p0.f1.length : Int) = (0 : Int)))) (Calm.int rfl rfl rfl rfl) ?_
   refine AO.nK [1, 2, 3, 5, 30] ?_
   rcases of_ite h with ⟨hc8, h⟩ | ⟨hc8, h⟩
   ·refine AW.condP _ rfl hc8 ?_
    refine AW.sr ?_
    refine AO.c (Calm.load 3 rfl rfl rfl (At.cast At.here rfl) ag30 sz30) ?_
    refine AO.store (X' := (.st [(256, (.ar 1 (p0.f0.toList.map eU8))), (1, (.fl (.slice none 0 0))), (1, (.fl (.slice none 0 0)))])) 1 rfl rfl rfl rfl rfl rfl (Put.cast Put.here rfl) rfl rfl sz30 rfl ?_
    refine AO.nH [2] (H' := [(n3, (.mem (.st [(256, (.ar 1 (p0.f0.toList.map eU8))), (1, (.fl (.slice none 0 0))), (1, (.fl (.slice none 0 0)))])))]) (Sub.cons 1 rfl (Sub.nil _)) ?_
    refine AW.coeFld (X' := (.st [(256, (.ar 1 (p0.f0.toList.map eU8))), (1, (.fz 1 (([] : List (List Int)).map e25))), (1, (.fl (.slice none 0 0)))])) 0 rfl (Put.cast (Put.fldS (Put.fld0 Put.here)) rfl) rfl (nil_fz 1) rfl rfl ?_
    refine AW.coeFld (X' := (.st [(256, (.ar 1 (p0.f0.toList.map eU8))), (1, (.fz 1 (([] : List (List Int)).map e25))), (1, (.fz 1 (([] : List Int).map eI64)))])) 0 rfl (Put.cast (Put.fldS (Put.fldS (Put.fld0 Put.here))) rfl) rfl (nil_fz 1) rfl rfl ?_
    refine AW.rK [2] ?_
    have hr := Option.some.inj h
    subst hr
    exact ⟨[(e30 (S30.mk p0.f0 ([] : List (List Int)) ([] : List Int)))], ⟨⟨_, 0, rfl, rfl, ag30, sz30⟩, trivial⟩, rfl⟩
   ·refine AW.condN _ rfl hc8 ?_
    refine AW.sK [1, 2, 3, 5] ?_
    refine AW.sr ?_
    refine AO.lit (Z := (eI64 (0 : Int))) (xs := (([(0 : Int)] : List Int).map eI64)) (qs := [(0, (eI64 (0 : Int)))]) rfl 32 rfl (by decide) rfl ⟨rfl, rfl, rfl, trivial⟩ Try.underlying25 sz3 zr3 lay3 rfl (by decide) (litOK (z := 1) [(eI64 (0 : Int))] rfl ⟨⟨rfl, rfl⟩, trivial⟩) rfl fun n9 => ?_
    refine AO.c (Calm.assign rfl rfl) ?_
    refine AO.nH [1, 2, 3, 5, 6] (H' := [(n2, (.mem (e30 p0))), (n3, (.mem (.st [(256, (.ar 1 ((Vector.replicate 256 (0 : Int)).toList.map eU8))), (1, (.fl (.slice none 0 0))), (1, (.fl (.slice none 0 0)))]))), (n4, (.mem (.ar 1 (x6.map eI64)))), (n7, (.mem (.st [(256, (.ar 1 (p0.f0.toList.map eU8))), (1, (.fl (.slice none 0 0))), (1, (.fl (.slice none 0 0)))]))), (n9, (.mem (.ar 1 (([(0 : Int)] : List Int).map eI64))))]) (Sub.cons 1 rfl (Sub.cons 1 rfl (Sub.cons 1 rfl (Sub.cons 1 rfl (Sub.cons 0 rfl (Sub.nil _)))))) ?_
    refine AW.sr ?_
    refine AO.c (Calm.move rfl rfl) ?_
    obtain ⟨hg10, h⟩ := of_guard h
    refine AO.c (Calm.idxO 2 rfl rfl rfl rfl hg10 Try.underlying25 sz3) ?_
    refine AO.store (X' := (.ar 1 ((lset x6 (0 : Int) (0 : Int)).map eI64))) 2 rfl rfl rfl rfl rfl rfl (Put.cast (Put.lidx (0 : Int) (0 : Int) hg10.1 hg10.2 Put.here) (by omega)) rfl rfl sz3 rfl ?_
    refine AO.coe 3 (y' := (.own n4 0 (lset x6 (0 : Int) (0 : Int)).length)) rfl (fun _ _ h => lset_own h) ?_
    refine AO.coe 33 (y' := (.own n4 0 (lset x6 (0 : Int) (0 : Int)).length)) rfl (fun _ _ h => lset_own h) ?_
    refine AO.nK [1, 2, 3, 5, 6] ?_
    refine AW.seq_mid (fun ρ H => ∃ (n11 : Nat) (n13 : Nat) (x12 : (List (List Int))) (x14 : (List Int)), ρ = [(2, (.ptr n3 0)), (5, (.ptr n7 0))] ∧ H = [(n3, (.mem (.st [(256, (.ar 1 ((Vector.replicate 256 (0 : Int)).toList.map eU8))), (1, (.fl (.slice none 0 0))), (1, (.fl (.slice none 0 0)))]))), (n7, (.mem (.st [(256, (.ar 1 (p0.f0.toList.map eU8))), (1, (.own n11 0 x12.length)), (1, (.own n13 0 x14.length))]))), (n11, (.mem (.ar 1 (x12.map e25)))), (n13, (.mem (.ar 1 (x14.map eI64))))] ∧ dfa_Order_c0 k p0 x12 x14 = some r) ?_ ?_
    ·refine AW.sr ?_
     refine AO.c (Calm.assign rfl rfl) ?_
     refine AO.nK [1, 2, 3, 5, 6, 7] ?_
     refine AW.block ?_
     refine AW.nilOwnFld 3 1 (fun n80 => (.st [(256, (.ar 1 (p0.f0.toList.map eU8))), (1, (.own n80 0 0)), (1, (.fl (.slice none 0 0)))])) rfl (fun _ => (Put.cast (Put.fldS (Put.fld0 Put.here)) rfl)) (fun _ => rfl) (fun _ => rfl) fun n80 => ?_
     refine AW.nilOwnFld 4 1 (fun n81 => (.st [(256, (.ar 1 (p0.f0.toList.map eU8))), (1, (.own n80 0 ([] : List (List Int)).length)), (1, (.own n81 0 0))])) rfl (fun _ => (Put.cast (Put.fldS (Put.fldS (Put.fld0 Put.here))) rfl)) (fun _ => rfl) (fun _ => rfl) fun n81 => ?_
     refine AW.wH [1, 2, 3, 5, 6, 7] (H' := [(n2, (.mem (e30 p0))), (n3, (.mem (.st [(256, (.ar 1 ((Vector.replicate 256 (0 : Int)).toList.map eU8))), (1, (.fl (.slice none 0 0))), (1, (.fl (.slice none 0 0)))]))), (n4, (.mem (.ar 1 ((lset x6 (0 : Int) (0 : Int)).map eI64)))), (n7, (.mem (.st [(256, (.ar 1 (p0.f0.toList.map eU8))), (1, (.own n80 0 ([] : List (List Int)).length)), (1, (.own n81 0 ([] : List Int).length))]))), (n80, (.mem (.ar 1 (([] : List (List Int)).map e25)))), (n81, (.mem (.ar 1 (([] : List Int).map eI64)))), (n9, (.mem (.ar 1 (([(0 : Int)] : List Int).map eI64))))]) (Sub.cons 2 rfl (Sub.cons 2 rfl (Sub.cons 2 rfl (Sub.cons 2 rfl (Sub.cons 1 rfl (Sub.cons 0 rfl (Sub.cons 0 rfl (Sub.nil _)))))))) ?_
     refine AW.loop (fun kq ρ H => ∃ (n16 : Nat) (n18 : Nat) (n20 : Nat) (x15 : (List Int)) (x17 : (List (List Int))) (x19 : (List Int)) (x21 : (List Int)) (x22 : Int), ρ = [(1, (.ptr n2 0)), (2, (.ptr n3 0)), (3, (.own n4 0 x15.length)), (5, (.ptr n7 0)), (6, (.own n20 0 x21.length)), (7, (eI64 x22))] ∧ H = [(n2, (.mem (e30 p0))), (n3, (.mem (.st [(256, (.ar 1 ((Vector.replicate 256 (0 : Int)).toList.map eU8))), (1, (.fl (.slice none 0 0))), (1, (.fl (.slice none 0 0)))]))), (n4, (.mem (.ar 1 (x15.map eI64)))), (n7, (.mem (.st [(256, (.ar 1 (p0.f0.toList.map eU8))), (1, (.own n16 0 x17.length)), (1, (.own n18 0 x19.length))]))), (n16, (.mem (.ar 1 (x17.map e25)))), (n18, (.mem (.ar 1 (x19.map eI64)))), (n20, (.mem (.ar 1 (x21.map eI64))))] ∧ dfa_Order_l6 k p0 kq x15 x17 x19 x21 x22 = some r) k ⟨n80, n81, n9, (lset x6 (0 : Int) (0 : Int)), ([] : List (List Int)), ([] : List Int), ([(0 : Int)] : List Int), (0 : Int), rfl, rfl, h⟩ ?_
     rintro kq24 _ _ ⟨n16, n18, n20, x15, x17, x19, x21, x22, rfl, rfl, h⟩
     cases kq24 with
     | zero => rw [dfa_Order_l6.eq_1] at h; cases h
     | succ kq24 =>
     rw [dfa_Order_l6.eq_2] at h
     generalize hrec23 : dfa_Order_l6 k p0 kq24 = rec23 at h
     refine AW.seq ?_
     refine AW.sr ?_
     refine AO.c (Calm.move rfl rfl) ?_
     refine AO.c (Calm.move rfl rfl) ?_
     refine AO.c (Calm.lenOwn rfl rfl Try.underlying25) ?_
     refine AO.c (x := eBool (decide (x22 < (x21.length : Int)))) (Calm.int rfl rfl rfl rfl) ?_
     refine AO.nK [1, 2, 3, 5, 6, 7, 38] ?_
     rcases of_ite h with ⟨hc25, h⟩ | ⟨hc25, h⟩
     ·refine AW.condP _ rfl hc25 ?_
      refine AW.sK [1, 2, 3, 5, 6, 7] ?_
      refine AW.seq_mid (fun ρ H => ∃ (n27 : Nat) (n29 : Nat) (n31 : Nat) (x26 : (List Int)) (x28 : (List (List Int))) (x30 : (List Int)) (x32 : (List Int)), ρ = [(1, (.ptr n2 0)), (2, (.ptr n3 0)), (3, (.own n4 0 x26.length)), (5, (.ptr n7 0)), (6, (.own n31 0 x32.length)), (7, (eI64 x22))] ∧ H = [(n2, (.mem (e30 p0))), (n3, (.mem (.st [(256, (.ar 1 ((Vector.replicate 256 (0 : Int)).toList.map eU8))), (1, (.fl (.slice none 0 0))), (1, (.fl (.slice none 0 0)))]))), (n4, (.mem (.ar 1 (x26.map eI64)))), (n7, (.mem (.st [(256, (.ar 1 (p0.f0.toList.map eU8))), (1, (.own n27 0 x28.length)), (1, (.own n29 0 x30.length))]))), (n27, (.mem (.ar 1 (x28.map e25)))), (n29, (.mem (.ar 1 (x30.map eI64)))), (n31, (.mem (.ar 1 (x32.map eI64))))] ∧ dfa_Order_c1 k rec23 x22 x26 x28 x30 x32 = some r) ?_ ?_
      ·refine AW.block ?_
       refine AW.seq ?_
       obtain ⟨hg33, h⟩ := of_guard h
       obtain ⟨hg34, h⟩ := of_guard h
       obtain ⟨hg36, h⟩ := of_guard h
       refine AW.regEff (by rfl) (by decide +kernel) (fun (σ : Nat → Nat) => ([(.ptr n2 256), (.fz 1 (p0.f1.map e25)), (.own n20 0 x21.length), (eI64 x22), (.ptr n20 (x22.toNat * 1 + 0)), (eI64 (lget x21 x22)), (.rp (.fz 1 ((lget p0.f1 (lget x21 x22)).map eI64))), (.fz 1 ((lget p0.f1 (lget x21 x22)).map eI64)), (eI64 ((lget p0.f1 (lget x21 x22)).length : Int)), (.own (σ 9) 0 ([] : List Int).length), (.own (σ 9) 0 ([] : List Int).length)] : List AV)) (fun (L : Nat → Bool) (σ : Nat → Nat) => ((n2, (.mem (e30 p0))) :: (n3, (.mem (.st [(256, (.ar 1 ((Vector.replicate 256 (0 : Int)).toList.map eU8))), (1, (.fl (.slice none 0 0))), (1, (.fl (.slice none 0 0)))]))) :: (n4, (.mem (.ar 1 (x15.map eI64)))) :: (n7, (.mem (.st [(256, (.ar 1 (p0.f0.toList.map eU8))), (1, (.own n16 0 x17.length)), (1, (.own n18 0 x19.length))]))) :: (n16, (.mem (.ar 1 (x17.map e25)))) :: (n18, (.mem (.ar 1 (x19.map eI64)))) :: (n20, (.mem (.ar 1 (x21.map eI64)))) :: (bif L 9 then (((σ 9), (.mem (.ar 1 (([] : List Int).map eI64)))) :: []) else ([])) : Heap)) [(1, (.ptr n2 0)), (2, (.ptr n3 0)), (3, (.own n4 0 x15.length)), (5, (.ptr n7 0)), (6, (.own n20 0 x21.length)), (7, (eI64 x22))] ⟨rfl, rfl, rfl, rfl, rfl, rfl, trivial⟩ (fun _ => rfl) (fun σ => (Sub.refl _)) ⟨?_, ?_, ?_, ?_, ?_, ?_, ?_, ?_, ?_, ?_, ?_, trivial⟩ (fun σ => [(1, (.ptr n2 0)), (2, (.ptr n3 0)), (3, (.own n4 0 x15.length)), (5, (.ptr n7 0)), (6, (.own n20 0 x21.length)), (7, (eI64 x22)), (8, (.own (σ 9) 0 ([] : List Int).length))]) (fun σ => ((n2, (.mem (e30 p0))) :: (n3, (.mem (.st [(256, (.ar 1 ((Vector.replicate 256 (0 : Int)).toList.map eU8))), (1, (.fl (.slice none 0 0))), (1, (.fl (.slice none 0 0)))]))) :: (n4, (.mem (.ar 1 (x15.map eI64)))) :: (n7, (.mem (.st [(256, (.ar 1 (p0.f0.toList.map eU8))), (1, (.own n16 0 x17.length)), (1, (.own n18 0 x19.length))]))) :: (n16, (.mem (.ar 1 (x17.map e25)))) :: (n18, (.mem (.ar 1 (x19.map eI64)))) :: (n20, (.mem (.ar 1 (x21.map eI64)))) :: ((σ 9), (.mem (.ar 1 (([] : List Int).map eI64)))) :: [])) (fun σ => ⟨rfl, rfl, rfl, rfl, rfl, rfl, rfl, trivial⟩) (fun σ => Sub.refl _) (fun σ => ?_)
       ·refine StepE.calm (fun _ _ => rfl) fun L σ hc hi hd => ?_
        refine AO.wK [1] ?_
        refine AO.c (x := .ptr n2 256) (Calm.fldPtr rfl rfl Try.underlying30 rfl sz28 _ rfl) ?_
        exact AO.nE (d := 41) rfl ⟨⟨41, _, rfl, rfl, rfl⟩, Sub.refl _⟩
       ·refine StepE.calm (fun _ _ => rfl) fun L σ hc hi hd => ?_
        refine AO.wK [41] ?_
        refine AO.c (Calm.load 0 rfl rfl rfl (At.cast (At.fldS (At.fld0 At.here)) rfl) ag28 sz28) ?_
        exact AO.nE (d := 42) rfl ⟨⟨42, _, rfl, rfl, rfl⟩, Sub.refl _⟩
       ·refine StepE.calm (fun _ _ => rfl) fun L σ hc hi hd => ?_
        refine AO.wK [6] ?_
        refine AO.c (Calm.move rfl rfl) ?_
        exact AO.nE (d := 43) rfl ⟨⟨43, _, rfl, rfl, rfl⟩, Sub.refl _⟩
       ·refine StepE.calm (fun _ _ => rfl) fun L σ hc hi hd => ?_
        refine AO.wK [7] ?_
        refine AO.c (Calm.move rfl rfl) ?_
        exact AO.nE (d := 44) rfl ⟨⟨44, _, rfl, rfl, rfl⟩, Sub.refl _⟩
       ·refine StepE.calm (fun _ _ => rfl) fun L σ hc hi hd => ?_
        refine AO.wK [43, 44] ?_
        refine AO.c (Calm.idxO 6 rfl rfl rfl rfl hg33 Try.underlying25 sz3) ?_
        exact AO.nE (d := 45) rfl ⟨⟨45, _, rfl, rfl, rfl⟩, Sub.refl _⟩
       ·refine StepE.calm (fun _ _ => rfl) fun L σ hc hi hd => ?_
        refine AO.wK [45] ?_
        refine AO.c (Calm.load 6 rfl rfl rfl (At.cast (At.lidx x22 hg33.1 hg33.2 At.here) (by omega)) ag3 sz3) ?_
        exact AO.nE (d := 46) rfl ⟨⟨46, _, rfl, rfl, rfl⟩, Sub.refl _⟩
       ·refine StepE.calm (fun _ _ => rfl) fun L σ hc hi hd => ?_
        refine AO.wK [42, 46] ?_
        refine AO.c (Calm.idxL (f := e25) rfl rfl rfl hg34 Try.underlying28 sz25) ?_
        exact AO.nE (d := 47) rfl ⟨⟨47, _, rfl, rfl, rfl⟩, Sub.refl _⟩
       ·refine StepE.calm (fun _ _ => rfl) fun L σ hc hi hd => ?_
        refine AO.wK [47] ?_
        refine AO.c (Calm.loadRp rfl rfl ag25 sz25) ?_
        exact AO.nE (d := 48) rfl ⟨⟨48, _, rfl, rfl, rfl⟩, Sub.refl _⟩
       ·refine StepE.calm (fun _ _ => rfl) fun L σ hc hi hd => ?_
        refine AO.wK [48] ?_
        refine AO.c (Calm.lenL rfl rfl Try.underlying25) ?_
        exact AO.nE (d := 49) rfl ⟨⟨49, _, rfl, rfl, rfl⟩, Sub.refl _⟩
       ·intro L σ hc hi hd
        refine AO.heq (H' := ((n2, (.mem (e30 p0))) :: (n3, (.mem (.st [(256, (.ar 1 ((Vector.replicate 256 (0 : Int)).toList.map eU8))), (1, (.fl (.slice none 0 0))), (1, (.fl (.slice none 0 0)))]))) :: (n4, (.mem (.ar 1 (x15.map eI64)))) :: (n7, (.mem (.st [(256, (.ar 1 (p0.f0.toList.map eU8))), (1, (.own n16 0 x17.length)), (1, (.own n18 0 x19.length))]))) :: (n16, (.mem (.ar 1 (x17.map e25)))) :: (n18, (.mem (.ar 1 (x19.map eI64)))) :: (n20, (.mem (.ar 1 (x21.map eI64)))) :: [])) (by first | rfl | simp only [hi, cond_true, cond_false]) ?_
        refine AO.wK [49] ?_
        refine AO.makeRoom (f := eI64) (0 : Int) rfl 50 rfl (by decide) rfl rfl rfl Try.underlying25 sz3 by3 zr3 lay3 rfl hg36 fun n35 => ?_
        have a9 : addL L 9 9 = true := rfl
        have u9 : upd σ 9 n35 9 = n35 := rfl
        have m10 : L 10 = false := hc.neg (i := 9) (j := 10) rfl (by rfl) hi
        exact AO.nE (d := 50) rfl ⟨(upd σ 9 n35), (fun j hj => match j, hj with | 0, _ => rfl | 1, _ => rfl | 2, _ => rfl | 3, _ => rfl | 4, _ => rfl | 5, _ => rfl | 6, _ => rfl | 7, _ => rfl | 8, _ => rfl | 9, hj => Bool.noConfusion (hj.symm.trans hi) | 10, hj => Bool.noConfusion (hj.symm.trans m10) | _ + 11, _ => rfl), (fun d' hd' => ⟨_, rfl, by cases hd'; rfl⟩), Sub.of_eq (B := ((n2, (.mem (e30 p0))) :: (n3, (.mem (.st [(256, (.ar 1 ((Vector.replicate 256 (0 : Int)).toList.map eU8))), (1, (.fl (.slice none 0 0))), (1, (.fl (.slice none 0 0)))]))) :: (n4, (.mem (.ar 1 (x15.map eI64)))) :: (n7, (.mem (.st [(256, (.ar 1 (p0.f0.toList.map eU8))), (1, (.own n16 0 x17.length)), (1, (.own n18 0 x19.length))]))) :: (n16, (.mem (.ar 1 (x17.map e25)))) :: (n18, (.mem (.ar 1 (x19.map eI64)))) :: (n20, (.mem (.ar 1 (x21.map eI64)))) :: (n35, (.mem (.ar 1 (([] : List Int).map eI64)))) :: [])) (by simp only [a9, u9, cond_true, cond_false]) (Sub.cons 1 rfl (Sub.cons 1 rfl (Sub.cons 1 rfl (Sub.cons 1 rfl (Sub.cons 1 rfl (Sub.cons 1 rfl (Sub.cons 1 rfl (Sub.cons 0 rfl (Sub.refl _)))))))))⟩
       ·refine StepE.calm (fun _ _ => rfl) fun L σ hc hi hd => ?_
        have y9 : L 9 = true := on_get hd (i := 9) (by rfl)
        refine AO.heq (H' := ((n2, (.mem (e30 p0))) :: (n3, (.mem (.st [(256, (.ar 1 ((Vector.replicate 256 (0 : Int)).toList.map eU8))), (1, (.fl (.slice none 0 0))), (1, (.fl (.slice none 0 0)))]))) :: (n4, (.mem (.ar 1 (x15.map eI64)))) :: (n7, (.mem (.st [(256, (.ar 1 (p0.f0.toList.map eU8))), (1, (.own n16 0 x17.length)), (1, (.own n18 0 x19.length))]))) :: (n16, (.mem (.ar 1 (x17.map e25)))) :: (n18, (.mem (.ar 1 (x19.map eI64)))) :: (n20, (.mem (.ar 1 (x21.map eI64)))) :: ((σ 9), (.mem (.ar 1 (([] : List Int).map eI64)))) :: [])) (by first | rfl | simp only [y9, cond_true, cond_false]) ?_
        refine AO.wK [50] ?_
        refine AO.c (Calm.assign rfl rfl) ?_
        exact AO.nE (d := 8) rfl ⟨⟨8, _, rfl, rfl, rfl⟩, Sub.of_eq (by first | rfl | simp only [y9, cond_true, cond_false]) (Sub.refl _)⟩
       ·generalize σ 9 = n35
        refine AO.nK [1, 2, 3, 5, 6, 7, 8] ?_
        refine AW.seq_mid (fun ρ H => ∃ (n38 : Nat) (n40 : Nat) (x37 : (List Int)) (x39 : (List Int)) (x41 : (List Int)), ρ = [(1, (.ptr n2 0)), (2, (.ptr n3 0)), (3, (.own n4 0 x37.length)), (5, (.ptr n7 0)), (6, (.own n38 0 x39.length)), (7, (eI64 x22)), (8, (.own n40 0 x41.length))] ∧ H = [(n2, (.mem (e30 p0))), (n3, (.mem (.st [(256, (.ar 1 ((Vector.replicate 256 (0 : Int)).toList.map eU8))), (1, (.fl (.slice none 0 0))), (1, (.fl (.slice none 0 0)))]))), (n4, (.mem (.ar 1 (x37.map eI64)))), (n7, (.mem (.st [(256, (.ar 1 (p0.f0.toList.map eU8))), (1, (.own n16 0 x17.length)), (1, (.own n18 0 x19.length))]))), (n16, (.mem (.ar 1 (x17.map e25)))), (n18, (.mem (.ar 1 (x19.map eI64)))), (n38, (.mem (.ar 1 (x39.map eI64)))), (n40, (.mem (.ar 1 (x41.map eI64))))] ∧ dfa_Order_c2 k rec23 p0 x17 x19 x22 x37 x39 x41 = some r) ?_ ?_
        ·refine AW.seq ?_
         refine AW.regQ (by rfl) (by decide +kernel) ?_
         refine AQ.c (x := .ptr n2 256) (Calm.fldPtr rfl rfl Try.underlying30 rfl sz28 _ rfl) ?_
         refine AQ.c (Calm.load 0 rfl rfl rfl (At.cast (At.fldS (At.fld0 At.here)) rfl) ag28 sz28) ?_
         refine AQ.c (Calm.move rfl rfl) ?_
         refine AQ.c (Calm.move rfl rfl) ?_
         obtain ⟨hg50, h⟩ := of_guard h
         refine AQ.c (Calm.idxO 6 rfl rfl rfl rfl hg50 Try.underlying25 sz3) ?_
         refine AQ.c (Calm.load 6 rfl rfl rfl (At.cast (At.lidx x22 hg50.1 hg50.2 At.here) (by omega)) ag3 sz3) ?_
         obtain ⟨hg51, h⟩ := of_guard h
         refine AQ.c (Calm.idxL (f := e25) rfl rfl rfl hg51 Try.underlying28 sz25) ?_
         refine AQ.c (Calm.loadRp rfl rfl ag25 sz25) ?_
         refine AQ.c (Calm.lenL rfl rfl Try.underlying25) ?_
         refine AQ.c (Calm.move rfl rfl) ?_
         refine AQ.nK [1, 2, 3, 5, 6, 7, 8, 58, 59, 60] ?_
         refine AW.block ?_
         refine AW.wK [1, 2, 3, 5, 6, 7, 8, 58, 59, 60] ?_
         refine AW.loop (fun kq ρ H => ∃ (n53 : Nat) (n55 : Nat) (x52 : (List Int)) (x54 : (List Int)) (x56 : (List Int)) (x57 : Int), ρ = [(1, (.ptr n2 0)), (2, (.ptr n3 0)), (3, (.own n4 0 x52.length)), (5, (.ptr n7 0)), (6, (.own n53 0 x54.length)), (7, (eI64 x22)), (8, (.own n55 0 x56.length)), (58, (.fz 1 ((lget p0.f1 (lget x21 x22)).map eI64))), (59, (eI64 ((lget p0.f1 (lget x21 x22)).length : Int))), (60, (eI64 x57))] ∧ H = [(n2, (.mem (e30 p0))), (n3, (.mem (.st [(256, (.ar 1 ((Vector.replicate 256 (0 : Int)).toList.map eU8))), (1, (.fl (.slice none 0 0))), (1, (.fl (.slice none 0 0)))]))), (n4, (.mem (.ar 1 (x52.map eI64)))), (n7, (.mem (.st [(256, (.ar 1 (p0.f0.toList.map eU8))), (1, (.own n16 0 x17.length)), (1, (.own n18 0 x19.length))]))), (n16, (.mem (.ar 1 (x17.map e25)))), (n18, (.mem (.ar 1 (x19.map eI64)))), (n53, (.mem (.ar 1 (x54.map eI64)))), (n55, (.mem (.ar 1 (x56.map eI64))))] ∧ dfa_Order_l5 k rec23 p0 x17 x19 x21 x22 kq x52 x54 x56 x57 = some r) k ⟨n20, n35, x15, x21, ([] : List Int), (0 : Int), rfl, rfl, h⟩ ?_
         rintro kq59 _ _ ⟨n53, n55, x52, x54, x56, x57, rfl, rfl, h⟩
         cases kq59 with
         | zero => rw [dfa_Order_l5.eq_1] at h; cases h
         | succ kq59 =>
         rw [dfa_Order_l5.eq_2] at h
         generalize hrec58 : dfa_Order_l5 k rec23 p0 x17 x19 x21 x22 kq59 = rec58 at h
         refine AW.sr ?_
         refine AO.c (x := eBool (decide (x57 < ((lget p0.f1 (lget x21 x22)).length : Int)))) (Calm.int rfl rfl rfl rfl) ?_
         refine AO.nK [1, 2, 3, 5, 6, 7, 8, 58, 59, 60, 61] ?_
         refine AW.seq ?_
         rcases of_ite h with ⟨hc60, h⟩ | ⟨hc60, h⟩
         ·refine AW.condP _ rfl hc60 ?_
          refine AW.sK [1, 2, 3, 5, 6, 7, 8, 58, 59, 60] ?_
          refine AW.seq ?_
          refine AW.block ?_
          refine AW.sr ?_
          obtain ⟨hg61, h⟩ := of_guard h
          refine AO.c (Calm.idxL (f := eI64) rfl rfl rfl hg61 Try.underlying25 sz3) ?_
          refine AO.c (Calm.loadRp rfl rfl ag3 sz3) ?_
          refine AO.c (Calm.assign rfl rfl) ?_
          refine AO.nK [1, 2, 3, 5, 6, 7, 8, 10, 58, 59, 60] ?_
          refine AW.seq_mid (fun ρ H => ∃ (n63 : Nat) (x62 : (List Int)) (x64 : (List Int)), ρ = [(1, (.ptr n2 0)), (2, (.ptr n3 0)), (3, (.own n4 0 x62.length)), (5, (.ptr n7 0)), (6, (.own n63 0 x64.length)), (7, (eI64 x22)), (8, (.own n55 0 x56.length)), (10, (eI64 (lget (lget p0.f1 (lget x21 x22)) x57))), (58, (.fz 1 ((lget p0.f1 (lget x21 x22)).map eI64))), (59, (eI64 ((lget p0.f1 (lget x21 x22)).length : Int))), (60, (eI64 x57))] ∧ H = [(n2, (.mem (e30 p0))), (n3, (.mem (.st [(256, (.ar 1 ((Vector.replicate 256 (0 : Int)).toList.map eU8))), (1, (.fl (.slice none 0 0))), (1, (.fl (.slice none 0 0)))]))), (n4, (.mem (.ar 1 (x62.map eI64)))), (n7, (.mem (.st [(256, (.ar 1 (p0.f0.toList.map eU8))), (1, (.own n16 0 x17.length)), (1, (.own n18 0 x19.length))]))), (n16, (.mem (.ar 1 (x17.map e25)))), (n18, (.mem (.ar 1 (x19.map eI64)))), (n63, (.mem (.ar 1 (x64.map eI64)))), (n55, (.mem (.ar 1 (x56.map eI64))))] ∧ dfa_Order_c4 k rec58 p0 x21 x22 x56 x57 x62 x64 = some r) ?_ ?_
          ·refine AW.seq ?_
           obtain ⟨b71, hq72, h⟩ := of_bind h
           refine AW.regM [(1, (.ptr n2 0)), (2, (.ptr n3 0)), (3, (.own n4 0 x52.length)), (5, (.ptr n7 0)), (6, (.own n53 0 x54.length)), (7, (eI64 x22)), (8, (.own n55 0 x56.length)), (10, (eI64 (lget (lget p0.f1 (lget x21 x22)) x57))), (58, (.fz 1 ((lget p0.f1 (lget x21 x22)).map eI64))), (59, (eI64 ((lget p0.f1 (lget x21 x22)).length : Int))), (60, (eI64 x57)), (72, (eBool b71))] [(n2, (.mem (e30 p0))), (n3, (.mem (.st [(256, (.ar 1 ((Vector.replicate 256 (0 : Int)).toList.map eU8))), (1, (.fl (.slice none 0 0))), (1, (.fl (.slice none 0 0)))]))), (n4, (.mem (.ar 1 (x52.map eI64)))), (n7, (.mem (.st [(256, (.ar 1 (p0.f0.toList.map eU8))), (1, (.own n16 0 x17.length)), (1, (.own n18 0 x19.length))]))), (n16, (.mem (.ar 1 (x17.map e25)))), (n18, (.mem (.ar 1 (x19.map eI64)))), (n53, (.mem (.ar 1 (x54.map eI64)))), (n55, (.mem (.ar 1 (x56.map eI64))))] ?_ ?_
           ·refine AO.c (Calm.move rfl rfl) ?_
            refine AO.c (x := eBool (decide ((0 : Int) ≤ (lget (lget p0.f1 (lget x21 x22)) x57)))) (Calm.int rfl rfl rfl rfl) ?_
            refine AO.c (Calm.move rfl rfl) ?_
            rcases of_ite hq72 with ⟨hc73, hq72⟩ | ⟨hc73, hq72⟩
            ·refine AO.cG rfl rfl (bD (decide_eq_true hc73)) (Calm.move rfl rfl) ?_
             refine AO.cG rfl rfl (bD (decide_eq_true hc73)) (Calm.move rfl rfl) ?_
             obtain ⟨hg74, hq72⟩ := of_guard hq72
             refine AO.cG rfl rfl (bD (decide_eq_true hc73)) (Calm.idxO 2 rfl rfl rfl rfl hg74 Try.underlying25 sz3) ?_
             refine AO.cG rfl rfl (bD (decide_eq_true hc73)) (Calm.load 2 rfl rfl rfl (At.cast (At.lidx (lget (lget p0.f1 (lget x21 x22)) x57) hg74.1 hg74.2 At.here) (by omega)) ag3 sz3) ?_
             refine AO.cG (x := eBool (decide ((lget x52 (lget (lget p0.f1 (lget x21 x22)) x57)) = (-1 : Int)))) rfl rfl (bD (decide_eq_true hc73)) (Calm.int rfl rfl rfl rfl) ?_
             refine AO.c (Calm.pickT rfl (bD (decide_eq_true hc73)) rfl) ?_
             cases hq72
             refine AO.nilE ⟨rfl, rfl⟩ ?_ ?_
             · exact ⟨rfl, rfl, rfl, rfl, rfl, rfl, rfl, rfl, rfl, rfl, rfl, rfl, trivial⟩
             · exact (Sub.refl _)
            ·refine AO.sT rfl rfl (bD (decide_eq_false hc73)) ?_
             refine AO.sT rfl rfl (bD (decide_eq_false hc73)) ?_
             refine AO.sT rfl rfl (bD (decide_eq_false hc73)) ?_
             refine AO.sT rfl rfl (bD (decide_eq_false hc73)) ?_
             refine AO.sT rfl rfl (bD (decide_eq_false hc73)) ?_
             refine AO.c (Calm.pickF rfl (bD (decide_eq_false hc73)) rfl) ?_
             cases hq72
             refine AO.nilE ⟨rfl, rfl⟩ ?_ ?_
             · exact ⟨rfl, rfl, rfl, rfl, rfl, rfl, rfl, rfl, rfl, rfl, rfl, rfl, trivial⟩
             · exact (Sub.refl _)
           ·rcases of_ite h with ⟨hc75, h⟩ | ⟨hc75, h⟩
            ·refine AW.condT' _ rfl hc75 ?_
             refine AW.sr ?_
             refine AO.c (Calm.move rfl rfl) ?_
             refine AO.c (Calm.move rfl rfl) ?_
             refine AO.c (Calm.move rfl rfl) ?_
             refine AO.c (Calm.lenOwn rfl rfl Try.underlying25) ?_
             obtain ⟨hg76, h⟩ := of_guard h
             refine AO.c (Calm.idxO 2 rfl rfl rfl rfl hg76 Try.underlying25 sz3) ?_
             refine AO.store (X' := (.ar 1 ((lset x52 (lget (lget p0.f1 (lget x21 x22)) x57) (x54.length : Int)).map eI64))) 2 rfl rfl rfl rfl rfl rfl (Put.cast (Put.lidx (lget (lget p0.f1 (lget x21 x22)) x57) (x54.length : Int) hg76.1 hg76.2 Put.here) (by omega)) rfl rfl sz3 rfl ?_
             refine AO.coe 3 (y' := (.own n4 0 (lset x52 (lget (lget p0.f1 (lget x21 x22)) x57) (x54.length : Int)).length)) rfl (fun _ _ h => lset_own h) ?_
             refine AO.coe 73 (y' := (.own n4 0 (lset x52 (lget (lget p0.f1 (lget x21 x22)) x57) (x54.length : Int)).length)) rfl (fun _ _ h => lset_own h) ?_
             refine AO.nK [1, 2, 3, 5, 6, 7, 8, 10, 58, 59, 60] ?_
             refine AW.reg ?_
             refine AO.c (Calm.move rfl rfl) ?_
             refine AO.c (Calm.move rfl rfl) ?_
             refine AO.lit (Z := (eI64 (0 : Int))) (xs := (([(lget (lget p0.f1 (lget x21 x22)) x57)] : List Int).map eI64)) (qs := [(0, (eI64 (lget (lget p0.f1 (lget x21 x22)) x57)))]) rfl 80 rfl (by decide) rfl ⟨rfl, rfl, rfl, trivial⟩ Try.underlying25 sz3 zr3 lay3 rfl (by decide) (litOK (z := 1) [(eI64 (lget (lget p0.f1 (lget x21 x22)) x57))] rfl ⟨⟨rfl, rfl⟩, trivial⟩) rfl fun n77 => ?_
             obtain ⟨hg79, h⟩ := of_guard h
             refine AO.appendL (l := x54) (m := ([(lget (lget p0.f1 (lget x21 x22)) x57)] : List Int)) 7 81 rfl (by decide) rfl rfl rfl rfl rfl (Src.ownL (f := eI64) (l := ([(lget (lget p0.f1 (lget x21 x22)) x57)] : List Int)) 0 rfl) Try.underlying25 Try.underlying25 sz3 by3 zr3 rfl hg79 (by decide) fun n78 => ?_
             refine AO.c (Calm.assign rfl rfl) ?_
             refine AO.nH [1, 2, 3, 5, 6, 7, 8, 10, 58, 59, 60] (H' := [(n2, (.mem (e30 p0))), (n3, (.mem (.st [(256, (.ar 1 ((Vector.replicate 256 (0 : Int)).toList.map eU8))), (1, (.fl (.slice none 0 0))), (1, (.fl (.slice none 0 0)))]))), (n4, (.mem (.ar 1 ((lset x52 (lget (lget p0.f1 (lget x21 x22)) x57) (x54.length : Int)).map eI64)))), (n7, (.mem (.st [(256, (.ar 1 (p0.f0.toList.map eU8))), (1, (.own n16 0 x17.length)), (1, (.own n18 0 x19.length))]))), (n16, (.mem (.ar 1 (x17.map e25)))), (n18, (.mem (.ar 1 (x19.map eI64)))), (n78, (.mem (.ar 1 ((x54 ++ ([(lget (lget p0.f1 (lget x21 x22)) x57)] : List Int)).map eI64)))), (n55, (.mem (.ar 1 (x56.map eI64))))]) (Sub.cons 1 rfl (Sub.cons 1 rfl (Sub.cons 1 rfl (Sub.cons 1 rfl (Sub.cons 1 rfl (Sub.cons 1 rfl (Sub.cons 1 rfl (Sub.cons 1 rfl (Sub.nil _))))))))) ?_
             exact ⟨n78, (lset x52 (lget (lget p0.f1 (lget x21 x22)) x57) (x54.length : Int)), (x54 ++ ([(lget (lget p0.f1 (lget x21 x22)) x57)] : List Int)), rfl, rfl, h⟩
            ·refine AW.condF' _ rfl hc75 ?_
             refine AW.sK [1, 2, 3, 5, 6, 7, 8, 10, 58, 59, 60] ?_
             exact ⟨n53, x52, x54, rfl, rfl, h⟩
          ·rintro _ _ ⟨n63, x62, x64, rfl, rfl, h⟩
           rw [dfa_Order_c4.eq_1] at h
           refine AW.seq_mid (fun ρ H => ∃ (x65 : Int), ρ = [(1, (.ptr n2 0)), (2, (.ptr n3 0)), (3, (.own n4 0 x62.length)), (5, (.ptr n7 0)), (6, (.own n63 0 x64.length)), (7, (eI64 x22)), (8, (.own n55 0 x56.length)), (10, (eI64 x65)), (58, (.fz 1 ((lget p0.f1 (lget x21 x22)).map eI64))), (59, (eI64 ((lget p0.f1 (lget x21 x22)).length : Int))), (60, (eI64 x57))] ∧ H = [(n2, (.mem (e30 p0))), (n3, (.mem (.st [(256, (.ar 1 ((Vector.replicate 256 (0 : Int)).toList.map eU8))), (1, (.fl (.slice none 0 0))), (1, (.fl (.slice none 0 0)))]))), (n4, (.mem (.ar 1 (x62.map eI64)))), (n7, (.mem (.st [(256, (.ar 1 (p0.f0.toList.map eU8))), (1, (.own n16 0 x17.length)), (1, (.own n18 0 x19.length))]))), (n16, (.mem (.ar 1 (x17.map e25)))), (n18, (.mem (.ar 1 (x19.map eI64)))), (n63, (.mem (.ar 1 (x64.map eI64)))), (n55, (.mem (.ar 1 (x56.map eI64))))] ∧ dfa_Order_c3 k rec58 x56 x57 x62 x64 x65 = some r) ?_ ?_
           ·refine AW.sr ?_
            refine AO.c (Calm.move rfl rfl) ?_
            refine AO.c (x := eBool (decide ((0 : Int) ≤ (lget (lget p0.f1 (lget x21 x22)) x57)))) (Calm.int rfl rfl rfl rfl) ?_
            refine AO.nK [1, 2, 3, 5, 6, 7, 8, 10, 58, 59, 60, 83] ?_
            rcases of_ite h with ⟨hc69, h⟩ | ⟨hc69, h⟩
            ·refine AW.condP _ rfl hc69 ?_
             refine AW.reg ?_
             refine AO.c (Calm.move rfl rfl) ?_
             refine AO.c (Calm.move rfl rfl) ?_
             obtain ⟨hg70, h⟩ := of_guard h
             refine AO.c (Calm.idxO 2 rfl rfl rfl rfl hg70 Try.underlying25 sz3) ?_
             refine AO.c (Calm.load 2 rfl rfl rfl (At.cast (At.lidx (lget (lget p0.f1 (lget x21 x22)) x57) hg70.1 hg70.2 At.here) (by omega)) ag3 sz3) ?_
             refine AO.c (Calm.assign rfl rfl) ?_
             refine AO.nK [1, 2, 3, 5, 6, 7, 8, 10, 58, 59, 60] ?_
             exact ⟨(lget x62 (lget (lget p0.f1 (lget x21 x22)) x57)), rfl, rfl, h⟩
            ·refine AW.condN _ rfl hc69 ?_
             refine AW.sK [1, 2, 3, 5, 6, 7, 8, 10, 58, 59, 60] ?_
             exact ⟨(lget (lget p0.f1 (lget x21 x22)) x57), rfl, rfl, h⟩
           ·rintro _ _ ⟨x65, rfl, rfl, h⟩
            rw [dfa_Order_c3.eq_1] at h
            refine AW.reg ?_
            refine AO.c (Calm.move rfl rfl) ?_
            refine AO.c (Calm.move rfl rfl) ?_
            refine AO.lit (Z := (eI64 (0 : Int))) (xs := (([x65] : List Int).map eI64)) (qs := [(0, (eI64 x65))]) rfl 90 rfl (by decide) rfl ⟨rfl, rfl, rfl, trivial⟩ Try.underlying25 sz3 zr3 lay3 rfl (by decide) (litOK (z := 1) [(eI64 x65)] rfl ⟨⟨rfl, rfl⟩, trivial⟩) rfl fun n66 => ?_
            obtain ⟨hg68, h⟩ := of_guard h
            refine AO.appendL (l := x56) (m := ([x65] : List Int)) 8 91 rfl (by decide) rfl rfl rfl rfl rfl (Src.ownL (f := eI64) (l := ([x65] : List Int)) 0 rfl) Try.underlying25 Try.underlying25 sz3 by3 zr3 rfl hg68 (by decide) fun n67 => ?_
            refine AO.c (Calm.assign rfl rfl) ?_
            refine AO.nH [1, 2, 3, 5, 6, 7, 8, 58, 59, 60] (H' := [(n2, (.mem (e30 p0))), (n3, (.mem (.st [(256, (.ar 1 ((Vector.replicate 256 (0 : Int)).toList.map eU8))), (1, (.fl (.slice none 0 0))), (1, (.fl (.slice none 0 0)))]))), (n4, (.mem (.ar 1 (x62.map eI64)))), (n7, (.mem (.st [(256, (.ar 1 (p0.f0.toList.map eU8))), (1, (.own n16 0 x17.length)), (1, (.own n18 0 x19.length))]))), (n16, (.mem (.ar 1 (x17.map e25)))), (n18, (.mem (.ar 1 (x19.map eI64)))), (n63, (.mem (.ar 1 (x64.map eI64)))), (n67, (.mem (.ar 1 ((x56 ++ ([x65] : List Int)).map eI64))))]) (Sub.cons 1 rfl (Sub.cons 1 rfl (Sub.cons 1 rfl (Sub.cons 1 rfl (Sub.cons 1 rfl (Sub.cons 1 rfl (Sub.cons 1 rfl (Sub.cons 1 rfl (Sub.nil _))))))))) ?_
            refine AW.reg ?_
            refine AO.c (x := eI64 (w64 (x57 + (1 : Int)))) (Calm.int rfl rfl rfl rfl) ?_
            refine AO.c (Calm.move rfl rfl) ?_
            refine AO.nK [1, 2, 3, 5, 6, 7, 8, 58, 59, 60] ?_
            exact ⟨kq59, Nat.lt_succ_self _, n63, n67, x62, x64, (x56 ++ ([x65] : List Int)), (w64 (x57 + (1 : Int))), rfl, rfl, by rw [hrec58]; exact h⟩
         ·refine AW.condN _ rfl hc60 ?_
          refine AW.eK [1, 2, 3, 5, 6, 7, 8] ?_
          exact ⟨n53, n55, x52, x54, x56, rfl, rfl, h⟩
        ·rintro _ _ ⟨n38, n40, x37, x39, x41, rfl, rfl, h⟩
         rw [dfa_Order_c2.eq_1] at h
         refine AW.sr ?_
         refine AO.c (x := .ptr n7 256) (Calm.fldPtr rfl rfl Try.underlying30 rfl sz28 _ rfl) ?_
         refine AO.c (Calm.load 3 rfl rfl rfl (At.cast (At.fldS (At.fld0 At.here)) rfl) ag28 sz28) ?_
         refine AO.c (Calm.move rfl rfl) ?_
         refine AO.freezeS 7 [(8, (.fz 1 (x41.map eI64))), (95, (.fz 1 (x41.map eI64)))] rfl ⟨fz_all rfl, fz_all rfl, trivial⟩ ?_
         refine AO.lit (Z := (.fl (.slice none 0 0))) (xs := (([x41] : List (List Int)).map e25)) (qs := [(0, (.fz 1 (x41.map eI64)))]) rfl 96 rfl (by decide) rfl ⟨rfl, rfl, rfl, trivial⟩ Try.underlying28 sz25 zr25 lay25 rfl (by decide) (litOK (z := 1) [(.fz 1 (x41.map eI64))] rfl ⟨⟨rfl, rfl⟩, trivial⟩) rfl fun n42 => ?_
         obtain ⟨hg44, h⟩ := of_guard h
         refine AO.appendL (l := x17) (m := ([x41] : List (List Int))) 5 97 rfl (by decide) rfl rfl rfl rfl rfl (Src.ownL (f := e25) (l := ([x41] : List (List Int))) 0 rfl) Try.underlying28 Try.underlying28 sz25 by25 zr25 rfl hg44 (by decide) fun n43 => ?_
         refine AO.c (x := .ptr n7 256) (Calm.fldPtr rfl rfl Try.underlying30 rfl sz28 _ rfl) ?_
         refine AO.store (X' := (.st [(256, (.ar 1 (p0.f0.toList.map eU8))), (1, (.own n43 0 (x17 ++ ([x41] : List (List Int))).length)), (1, (.own n18 0 x19.length))])) 4 rfl rfl rfl rfl rfl rfl (Put.cast (Put.fldS (Put.fld0 Put.here)) rfl) rfl rfl sz28 rfl ?_
         refine AO.nH [1, 2, 3, 5, 6, 7] (H' := [(n2, (.mem (e30 p0))), (n3, (.mem (.st [(256, (.ar 1 ((Vector.replicate 256 (0 : Int)).toList.map eU8))), (1, (.fl (.slice none 0 0))), (1, (.fl (.slice none 0 0)))]))), (n4, (.mem (.ar 1 (x37.map eI64)))), (n7, (.mem (.st [(256, (.ar 1 (p0.f0.toList.map eU8))), (1, (.own n43 0 (x17 ++ ([x41] : List (List Int))).length)), (1, (.own n18 0 x19.length))]))), (n43, (.mem (.ar 1 ((x17 ++ ([x41] : List (List Int))).map e25)))), (n18, (.mem (.ar 1 (x19.map eI64)))), (n38, (.mem (.ar 1 (x39.map eI64))))]) (Sub.cons 1 rfl (Sub.cons 1 rfl (Sub.cons 1 rfl (Sub.cons 1 rfl (Sub.cons 1 rfl (Sub.cons 1 rfl (Sub.cons 1 rfl (Sub.nil _)))))))) ?_
         obtain ⟨hg45, h⟩ := of_guard h
         obtain ⟨hg46, h⟩ := of_guard h
         obtain ⟨hg49, h⟩ := of_guard h
         refine AW.regEff (by rfl) (by decide +kernel) (fun (σ : Nat → Nat) => ([(.ptr n7 257), (.own n18 0 x19.length), (.ptr n2 257), (.fz 1 (p0.f2.map eI64)), (.own n38 0 x39.length), (eI64 x22), (.ptr n38 (x22.toNat * 1 + 0)), (eI64 (lget x39 x22)), (.rp (eI64 (lget p0.f2 (lget x39 x22)))), (eI64 (lget p0.f2 (lget x39 x22))), (.fz 1 (([(lget p0.f2 (lget x39 x22))] : List Int).map eI64)), (.own (σ 11) 0 (x19 ++ ([(lget p0.f2 (lget x39 x22))] : List Int)).length), (.ptr n7 257), (.fl undef)] : List AV)) (fun (L : Nat → Bool) (σ : Nat → Nat) => ((n2, (.mem (e30 p0))) :: (n3, (.mem (.st [(256, (.ar 1 ((Vector.replicate 256 (0 : Int)).toList.map eU8))), (1, (.fl (.slice none 0 0))), (1, (.fl (.slice none 0 0)))]))) :: (n4, (.mem (.ar 1 (x37.map eI64)))) :: (n43, (.mem (.ar 1 ((x17 ++ ([x41] : List (List Int))).map e25)))) :: (n38, (.mem (.ar 1 (x39.map eI64)))) :: (bif L 11 then (bif L 13 then ((n7, (.mem (.st [(256, (.ar 1 (p0.f0.toList.map eU8))), (1, (.own n43 0 (x17 ++ ([x41] : List (List Int))).length)), (1, (.own (σ 11) 0 (x19 ++ ([(lget p0.f2 (lget x39 x22))] : List Int)).length))]))) :: ((σ 11), (.mem (.ar 1 ((x19 ++ ([(lget p0.f2 (lget x39 x22))] : List Int)).map eI64)))) :: []) else ((n7, (.mem (.st [(256, (.ar 1 (p0.f0.toList.map eU8))), (1, (.own n43 0 (x17 ++ ([x41] : List (List Int))).length)), (1, (.own n18 0 x19.length))]))) :: ((σ 11), (.mem (.ar 1 ((x19 ++ ([(lget p0.f2 (lget x39 x22))] : List Int)).map eI64)))) :: [])) else ((n7, (.mem (.st [(256, (.ar 1 (p0.f0.toList.map eU8))), (1, (.own n43 0 (x17 ++ ([x41] : List (List Int))).length)), (1, (.own n18 0 x19.length))]))) :: (n18, (.mem (.ar 1 (x19.map eI64)))) :: [])) : Heap)) [(1, (.ptr n2 0)), (2, (.ptr n3 0)), (3, (.own n4 0 x37.length)), (5, (.ptr n7 0)), (6, (.own n38 0 x39.length)), (7, (eI64 x22))] ⟨rfl, rfl, rfl, rfl, rfl, rfl, trivial⟩ (fun _ => rfl) (fun σ => (Sub.cons 0 rfl (Sub.cons 0 rfl (Sub.cons 0 rfl (Sub.cons 1 rfl (Sub.cons 2 rfl (Sub.cons 0 rfl (Sub.cons 0 rfl (Sub.refl _))))))))) ⟨?_, ?_, ?_, ?_, ?_, ?_, ?_, ?_, ?_, ?_, ?_, ?_, ?_, ?_, trivial⟩ (fun σ => [(1, (.ptr n2 0)), (2, (.ptr n3 0)), (3, (.own n4 0 x37.length)), (5, (.ptr n7 0)), (6, (.own n38 0 x39.length)), (7, (eI64 x22))]) (fun σ => ((n2, (.mem (e30 p0))) :: (n3, (.mem (.st [(256, (.ar 1 ((Vector.replicate 256 (0 : Int)).toList.map eU8))), (1, (.fl (.slice none 0 0))), (1, (.fl (.slice none 0 0)))]))) :: (n4, (.mem (.ar 1 (x37.map eI64)))) :: (n43, (.mem (.ar 1 ((x17 ++ ([x41] : List (List Int))).map e25)))) :: (n38, (.mem (.ar 1 (x39.map eI64)))) :: (n7, (.mem (.st [(256, (.ar 1 (p0.f0.toList.map eU8))), (1, (.own n43 0 (x17 ++ ([x41] : List (List Int))).length)), (1, (.own (σ 11) 0 (x19 ++ ([(lget p0.f2 (lget x39 x22))] : List Int)).length))]))) :: ((σ 11), (.mem (.ar 1 ((x19 ++ ([(lget p0.f2 (lget x39 x22))] : List Int)).map eI64)))) :: [])) (fun σ => ⟨rfl, rfl, rfl, rfl, rfl, rfl, trivial⟩) (fun σ => Sub.refl _) (fun σ => ?_)
         ·refine StepE.calm (fun _ _ => rfl) fun L σ hc hi hd => ?_
          have m1 : L 1 = false := hc.neg (i := 0) (j := 1) rfl (by rfl) hi
          have m11 : L 11 = false := hc.neg (i := 1) (j := 11) rfl (by rfl) m1
          have m13 : L 13 = false := hc.neg (i := 0) (j := 13) rfl (by rfl) hi
          refine AO.heq (H' := ((n2, (.mem (e30 p0))) :: (n3, (.mem (.st [(256, (.ar 1 ((Vector.replicate 256 (0 : Int)).toList.map eU8))), (1, (.fl (.slice none 0 0))), (1, (.fl (.slice none 0 0)))]))) :: (n4, (.mem (.ar 1 (x37.map eI64)))) :: (n43, (.mem (.ar 1 ((x17 ++ ([x41] : List (List Int))).map e25)))) :: (n38, (.mem (.ar 1 (x39.map eI64)))) :: (n7, (.mem (.st [(256, (.ar 1 (p0.f0.toList.map eU8))), (1, (.own n43 0 (x17 ++ ([x41] : List (List Int))).length)), (1, (.own n18 0 x19.length))]))) :: (n18, (.mem (.ar 1 (x19.map eI64)))) :: [])) (by first | rfl | simp only [m11, m13, cond_true, cond_false]) ?_
          refine AO.wK [5] ?_
          refine AO.c (x := .ptr n7 257) (Calm.fldPtr rfl rfl Try.underlying30 rfl sz25 _ rfl) ?_
          exact AO.nE (d := 99) rfl ⟨⟨99, _, rfl, rfl, rfl⟩, Sub.of_eq (by first | rfl | simp only [m11, m13, cond_true, cond_false]) (Sub.refl _)⟩
         ·refine StepE.calm (fun _ _ => rfl) fun L σ hc hi hd => ?_
          have m11 : L 11 = false := hc.neg (i := 1) (j := 11) rfl (by rfl) hi
          have m13 : L 13 = false := hc.neg (i := 1) (j := 13) rfl (by rfl) hi
          refine AO.heq (H' := ((n2, (.mem (e30 p0))) :: (n3, (.mem (.st [(256, (.ar 1 ((Vector.replicate 256 (0 : Int)).toList.map eU8))), (1, (.fl (.slice none 0 0))), (1, (.fl (.slice none 0 0)))]))) :: (n4, (.mem (.ar 1 (x37.map eI64)))) :: (n43, (.mem (.ar 1 ((x17 ++ ([x41] : List (List Int))).map e25)))) :: (n38, (.mem (.ar 1 (x39.map eI64)))) :: (n7, (.mem (.st [(256, (.ar 1 (p0.f0.toList.map eU8))), (1, (.own n43 0 (x17 ++ ([x41] : List (List Int))).length)), (1, (.own n18 0 x19.length))]))) :: (n18, (.mem (.ar 1 (x19.map eI64)))) :: [])) (by first | rfl | simp only [m11, m13, cond_true, cond_false]) ?_
          refine AO.wK [99] ?_
          refine AO.c (Calm.load 5 rfl rfl rfl (At.cast (At.fldS (At.fldS (At.fld0 At.here))) rfl) ag25 sz25) ?_
          exact AO.nE (d := 100) rfl ⟨⟨100, _, rfl, rfl, rfl⟩, Sub.of_eq (by first | rfl | simp only [m11, m13, cond_true, cond_false]) (Sub.refl _)⟩
         ·refine StepE.calm (fun _ _ => rfl) fun L σ hc hi hd => ?_
          refine AO.wK [1] ?_
          refine AO.c (x := .ptr n2 257) (Calm.fldPtr rfl rfl Try.underlying30 rfl sz25 _ rfl) ?_
          exact AO.nE (d := 101) rfl ⟨⟨101, _, rfl, rfl, rfl⟩, Sub.refl _⟩
         ·refine StepE.calm (fun _ _ => rfl) fun L σ hc hi hd => ?_
          refine AO.wK [101] ?_
          refine AO.c (Calm.load 0 rfl rfl rfl (At.cast (At.fldS (At.fldS (At.fld0 At.here))) rfl) ag25 sz25) ?_
          exact AO.nE (d := 102) rfl ⟨⟨102, _, rfl, rfl, rfl⟩, Sub.refl _⟩
         ·refine StepE.calm (fun _ _ => rfl) fun L σ hc hi hd => ?_
          refine AO.wK [6] ?_
          refine AO.c (Calm.move rfl rfl) ?_
          exact AO.nE (d := 103) rfl ⟨⟨103, _, rfl, rfl, rfl⟩, Sub.refl _⟩
         ·refine StepE.calm (fun _ _ => rfl) fun L σ hc hi hd => ?_
          refine AO.wK [7] ?_
          refine AO.c (Calm.move rfl rfl) ?_
          exact AO.nE (d := 104) rfl ⟨⟨104, _, rfl, rfl, rfl⟩, Sub.refl _⟩
         ·refine StepE.calm (fun _ _ => rfl) fun L σ hc hi hd => ?_
          refine AO.wK [103, 104] ?_
          refine AO.c (Calm.idxO 4 rfl rfl rfl rfl hg45 Try.underlying25 sz3) ?_
          exact AO.nE (d := 105) rfl ⟨⟨105, _, rfl, rfl, rfl⟩, Sub.refl _⟩
         ·refine StepE.calm (fun _ _ => rfl) fun L σ hc hi hd => ?_
          refine AO.wK [105] ?_
          refine AO.c (Calm.load 4 rfl rfl rfl (At.cast (At.lidx x22 hg45.1 hg45.2 At.here) (by omega)) ag3 sz3) ?_
          exact AO.nE (d := 106) rfl ⟨⟨106, _, rfl, rfl, rfl⟩, Sub.refl _⟩
         ·refine StepE.calm (fun _ _ => rfl) fun L σ hc hi hd => ?_
          refine AO.wK [102, 106] ?_
          refine AO.c (Calm.idxL (f := eI64) rfl rfl rfl hg46 Try.underlying25 sz3) ?_
          exact AO.nE (d := 107) rfl ⟨⟨107, _, rfl, rfl, rfl⟩, Sub.refl _⟩
         ·refine StepE.calm (fun _ _ => rfl) fun L σ hc hi hd => ?_
          refine AO.wK [107] ?_
          refine AO.c (Calm.loadRp rfl rfl ag3 sz3) ?_
          exact AO.nE (d := 108) rfl ⟨⟨108, _, rfl, rfl, rfl⟩, Sub.refl _⟩
         ·refine StepE.calm (fun _ _ => rfl) fun L σ hc hi hd => ?_
          refine AO.wK [108] ?_
          refine AO.lit (Z := (eI64 (0 : Int))) (xs := (([(lget p0.f2 (lget x39 x22))] : List Int).map eI64)) (qs := [(0, (eI64 (lget p0.f2 (lget x39 x22))))]) rfl 109 rfl (by decide) rfl ⟨rfl, rfl, rfl, trivial⟩ Try.underlying25 sz3 zr3 lay3 rfl (by decide) (litOK (z := 1) [(eI64 (lget p0.f2 (lget x39 x22)))] rfl ⟨⟨rfl, rfl⟩, trivial⟩) rfl fun n47 => ?_
          refine AO.freezeS 0 [(109, (.fz 1 (([(lget p0.f2 (lget x39 x22))] : List Int).map eI64)))] rfl ⟨fz_all rfl, trivial⟩ ?_
          exact AO.nE (d := 109) rfl ⟨⟨109, _, rfl, rfl, rfl⟩, Sub.refl _⟩
         ·intro L σ hc hi hd
          have m13 : L 13 = false := hc.neg (i := 11) (j := 13) rfl (by rfl) hi
          refine AO.heq (H' := ((n2, (.mem (e30 p0))) :: (n3, (.mem (.st [(256, (.ar 1 ((Vector.replicate 256 (0 : Int)).toList.map eU8))), (1, (.fl (.slice none 0 0))), (1, (.fl (.slice none 0 0)))]))) :: (n4, (.mem (.ar 1 (x37.map eI64)))) :: (n43, (.mem (.ar 1 ((x17 ++ ([x41] : List (List Int))).map e25)))) :: (n38, (.mem (.ar 1 (x39.map eI64)))) :: (n7, (.mem (.st [(256, (.ar 1 (p0.f0.toList.map eU8))), (1, (.own n43 0 (x17 ++ ([x41] : List (List Int))).length)), (1, (.own n18 0 x19.length))]))) :: (n18, (.mem (.ar 1 (x19.map eI64)))) :: [])) (by first | rfl | simp only [hi, m13, cond_true, cond_false]) ?_
          refine AO.wK [100, 109] ?_
          refine AO.appendL (l := x19) (m := ([(lget p0.f2 (lget x39 x22))] : List Int)) 6 110 rfl (by decide) rfl rfl rfl rfl rfl Src.fz Try.underlying25 Try.underlying25 sz3 by3 zr3 rfl hg49 (by decide) fun n48 => ?_
          have a11 : addL L 11 11 = true := rfl
          have a13 : addL L 11 13 = false := m13
          have u11 : upd σ 11 n48 11 = n48 := rfl
          exact AO.nE (d := 110) rfl ⟨(upd σ 11 n48), (fun j hj => match j, hj with | 0, _ => rfl | 1, _ => rfl | 2, _ => rfl | 3, _ => rfl | 4, _ => rfl | 5, _ => rfl | 6, _ => rfl | 7, _ => rfl | 8, _ => rfl | 9, _ => rfl | 10, _ => rfl | 11, hj => Bool.noConfusion (hj.symm.trans hi) | 12, _ => rfl | 13, _ => rfl | _ + 14, _ => rfl), (fun d' hd' => ⟨_, rfl, by cases hd'; rfl⟩), Sub.of_eq (B := ((n2, (.mem (e30 p0))) :: (n3, (.mem (.st [(256, (.ar 1 ((Vector.replicate 256 (0 : Int)).toList.map eU8))), (1, (.fl (.slice none 0 0))), (1, (.fl (.slice none 0 0)))]))) :: (n4, (.mem (.ar 1 (x37.map eI64)))) :: (n43, (.mem (.ar 1 ((x17 ++ ([x41] : List (List Int))).map e25)))) :: (n38, (.mem (.ar 1 (x39.map eI64)))) :: (n7, (.mem (.st [(256, (.ar 1 (p0.f0.toList.map eU8))), (1, (.own n43 0 (x17 ++ ([x41] : List (List Int))).length)), (1, (.own n18 0 x19.length))]))) :: (n48, (.mem (.ar 1 ((x19 ++ ([(lget p0.f2 (lget x39 x22))] : List Int)).map eI64)))) :: [])) (by simp only [a11, a13, u11, cond_true, cond_false]) (Sub.refl _)⟩
         ·refine StepE.calm (fun _ _ => rfl) fun L σ hc hi hd => ?_
          have y11 : L 11 = true := on_get hd (i := 11) (by rfl)
          have m13 : L 13 = false := hc.neg (i := 12) (j := 13) rfl (by rfl) hi
          refine AO.heq (H' := ((n2, (.mem (e30 p0))) :: (n3, (.mem (.st [(256, (.ar 1 ((Vector.replicate 256 (0 : Int)).toList.map eU8))), (1, (.fl (.slice none 0 0))), (1, (.fl (.slice none 0 0)))]))) :: (n4, (.mem (.ar 1 (x37.map eI64)))) :: (n43, (.mem (.ar 1 ((x17 ++ ([x41] : List (List Int))).map e25)))) :: (n38, (.mem (.ar 1 (x39.map eI64)))) :: (n7, (.mem (.st [(256, (.ar 1 (p0.f0.toList.map eU8))), (1, (.own n43 0 (x17 ++ ([x41] : List (List Int))).length)), (1, (.own n18 0 x19.length))]))) :: ((σ 11), (.mem (.ar 1 ((x19 ++ ([(lget p0.f2 (lget x39 x22))] : List Int)).map eI64)))) :: [])) (by first | rfl | simp only [y11, m13, cond_true, cond_false]) ?_
          refine AO.wK [5] ?_
          refine AO.c (x := .ptr n7 257) (Calm.fldPtr rfl rfl Try.underlying30 rfl sz25 _ rfl) ?_
          exact AO.nE (d := 111) rfl ⟨⟨111, _, rfl, rfl, rfl⟩, Sub.of_eq (by first | rfl | simp only [y11, m13, cond_true, cond_false]) (Sub.refl _)⟩
         ·intro L σ hc hi hd
          have y11 : L 11 = true := on_get hd (i := 11) (by rfl)
          refine AO.heq (H' := ((n2, (.mem (e30 p0))) :: (n3, (.mem (.st [(256, (.ar 1 ((Vector.replicate 256 (0 : Int)).toList.map eU8))), (1, (.fl (.slice none 0 0))), (1, (.fl (.slice none 0 0)))]))) :: (n4, (.mem (.ar 1 (x37.map eI64)))) :: (n43, (.mem (.ar 1 ((x17 ++ ([x41] : List (List Int))).map e25)))) :: (n38, (.mem (.ar 1 (x39.map eI64)))) :: (n7, (.mem (.st [(256, (.ar 1 (p0.f0.toList.map eU8))), (1, (.own n43 0 (x17 ++ ([x41] : List (List Int))).length)), (1, (.own n18 0 x19.length))]))) :: ((σ 11), (.mem (.ar 1 ((x19 ++ ([(lget p0.f2 (lget x39 x22))] : List Int)).map eI64)))) :: [])) (by first | rfl | simp only [hi, y11, cond_true, cond_false]) ?_
          refine AO.wK [110, 111] ?_
          refine AO.store (X' := (.st [(256, (.ar 1 (p0.f0.toList.map eU8))), (1, (.own n43 0 (x17 ++ ([x41] : List (List Int))).length)), (1, (.own (σ 11) 0 (x19 ++ ([(lget p0.f2 (lget x39 x22))] : List Int)).length))])) 5 rfl rfl rfl rfl rfl rfl (Put.cast (Put.fldS (Put.fldS (Put.fld0 Put.here))) rfl) rfl rfl sz25 rfl ?_
          have a11 : addL L 13 11 = true := y11
          have a13 : addL L 13 13 = true := rfl
          exact AO.n0 ⟨σ, (fun _ _ => rfl), (fun d' hd' => by cases hd'), Sub.of_eq (B := ((n2, (.mem (e30 p0))) :: (n3, (.mem (.st [(256, (.ar 1 ((Vector.replicate 256 (0 : Int)).toList.map eU8))), (1, (.fl (.slice none 0 0))), (1, (.fl (.slice none 0 0)))]))) :: (n4, (.mem (.ar 1 (x37.map eI64)))) :: (n43, (.mem (.ar 1 ((x17 ++ ([x41] : List (List Int))).map e25)))) :: (n38, (.mem (.ar 1 (x39.map eI64)))) :: (n7, (.mem (.st [(256, (.ar 1 (p0.f0.toList.map eU8))), (1, (.own n43 0 (x17 ++ ([x41] : List (List Int))).length)), (1, (.own (σ 11) 0 (x19 ++ ([(lget p0.f2 (lget x39 x22))] : List Int)).length))]))) :: ((σ 11), (.mem (.ar 1 ((x19 ++ ([(lget p0.f2 (lget x39 x22))] : List Int)).map eI64)))) :: [])) (by simp only [a11, a13, cond_true, cond_false]) (Sub.refl _)⟩
         ·generalize σ 11 = n48
          refine AO.nH [1, 2, 3, 5, 6, 7] (H' := [(n2, (.mem (e30 p0))), (n3, (.mem (.st [(256, (.ar 1 ((Vector.replicate 256 (0 : Int)).toList.map eU8))), (1, (.fl (.slice none 0 0))), (1, (.fl (.slice none 0 0)))]))), (n4, (.mem (.ar 1 (x37.map eI64)))), (n7, (.mem (.st [(256, (.ar 1 (p0.f0.toList.map eU8))), (1, (.own n43 0 (x17 ++ ([x41] : List (List Int))).length)), (1, (.own n48 0 (x19 ++ ([(lget p0.f2 (lget x39 x22))] : List Int)).length))]))), (n43, (.mem (.ar 1 ((x17 ++ ([x41] : List (List Int))).map e25)))), (n48, (.mem (.ar 1 ((x19 ++ ([(lget p0.f2 (lget x39 x22))] : List Int)).map eI64)))), (n38, (.mem (.ar 1 (x39.map eI64))))]) (Sub.cons 0 rfl (Sub.cons 0 rfl (Sub.cons 0 rfl (Sub.cons 2 rfl (Sub.cons 0 rfl (Sub.cons 1 rfl (Sub.cons 0 rfl (Sub.nil _)))))))) ?_
          exact ⟨n43, n48, n38, x37, (x17 ++ ([x41] : List (List Int))), (x19 ++ ([(lget p0.f2 (lget x39 x22))] : List Int)), x39, rfl, rfl, h⟩
      ·rintro _ _ ⟨n27, n29, n31, x26, x28, x30, x32, rfl, rfl, h⟩
       rw [dfa_Order_c1.eq_1] at h
       refine AW.reg ?_
       refine AO.c (Calm.move rfl rfl) ?_
       refine AO.c (x := eI64 (w64 (x22 + (1 : Int)))) (Calm.int rfl rfl rfl rfl) ?_
       refine AO.c (Calm.assign rfl rfl) ?_
       refine AO.nK [1, 2, 3, 5, 6, 7] ?_
       exact ⟨kq24, Nat.lt_succ_self _, n27, n29, n31, x26, x28, x30, x32, (w64 (x22 + (1 : Int))), rfl, rfl, by rw [hrec23]; exact h⟩
     ·refine AW.condN _ rfl hc25 ?_
      refine AW.eH [2, 5] (H' := [(n3, (.mem (.st [(256, (.ar 1 ((Vector.replicate 256 (0 : Int)).toList.map eU8))), (1, (.fl (.slice none 0 0))), (1, (.fl (.slice none 0 0)))]))), (n7, (.mem (.st [(256, (.ar 1 (p0.f0.toList.map eU8))), (1, (.own n16 0 x17.length)), (1, (.own n18 0 x19.length))]))), (n16, (.mem (.ar 1 (x17.map e25)))), (n18, (.mem (.ar 1 (x19.map eI64))))]) (Sub.cons 1 rfl (Sub.cons 2 rfl (Sub.cons 2 rfl (Sub.cons 2 rfl (Sub.nil _))))) ?_
      exact ⟨n16, n18, x17, x19, rfl, rfl, h⟩
    ·rintro _ _ ⟨n11, n13, x12, x14, rfl, rfl, h⟩
     rw [dfa_Order_c0.eq_1] at h
     refine AW.sr ?_
     refine AO.freezeFld (X' := (.st [(256, (.ar 1 (p0.f0.toList.map eU8))), (1, (.fz 1 (x12.map e25))), (1, (.own n13 0 x14.length))])) (els' := (x12.map e25)) 2 1 rfl rfl (Put.cast (Put.fldS (Put.fld0 Put.here)) rfl) (by simp) (by rw [own_all]) rfl rfl (by decide) ?_
     refine AO.freezeFld (X' := (.st [(256, (.ar 1 (p0.f0.toList.map eU8))), (1, (.fz 1 (x12.map e25))), (1, (.fz 1 (x14.map eI64)))])) (els' := (x14.map eI64)) 2 1 rfl rfl (Put.cast (Put.fldS (Put.fldS (Put.fld0 Put.here))) rfl) (by simp) (by rw [own_all]) rfl rfl (by decide) ?_
     refine AO.c (x := e30 (S30.mk p0.f0 x12 x14)) (Calm.load 1 rfl rfl rfl (At.cast At.here rfl) ag30 sz30) ?_
     refine AO.store (X' := (e30 (S30.mk p0.f0 x12 x14))) 0 rfl rfl rfl rfl rfl rfl (Put.cast Put.here rfl) rfl rfl sz30 rfl ?_
     refine AO.nH [2] (H' := [(n3, (.mem (e30 (S30.mk p0.f0 x12 x14))))]) (Sub.cons 0 rfl (Sub.nil _)) ?_
     refine AW.rK [2] ?_
     have hr := Option.some.inj h
     subst hr
     exact ⟨[(e30 (S30.mk p0.f0 x12 x14))], ⟨⟨_, 0, rfl, rfl, ag30, sz30⟩, trivial⟩, rfl⟩
end Go.Avl.T5
/- bosket/mini.blocks; printed by avmain.py. -/
namespace Go.Avl.T5
open Go Go.RowKit Go.Proofs Go.Avl
set_option linter.unusedVariables false
set_option maxRecDepth 100000
set_option maxHeartbeats 4000000
attribute [local irreducible] AW AO AQ Spec SpecH Calm

def mini_blocks_c0 (k : Nat) (x5 : (List Int)) : Option (List Int) :=
  some (x5)
def mini_blocks_l1 (k : Nat) (p0 : S30) : Nat → (List Int) → Int → Option (List Int)
  | 0, _, _ => none
  | j + 1, x6, x7 =>
    if x7 < (p0.f2.length : Int) then if 0 ≤ x7 ∧ x7 < (p0.f2.length : Int) then if 0 ≤ x7 ∧ x7 < (x6.length : Int) then (mini_blocks_l1 k p0 j) (lset x6 x7 (w64 ((lget p0.f2 x7) + (1 : Int)))) (w64 (x7 + (1 : Int)))
    else none
    else none
    else mini_blocks_c0 k x6
def mini_blocks (k : Nat) (p0 : S30) : Option (List Int) :=
  if 0 ≤ (w64 ((p0.f1.length : Int) + (1 : Int))) ∧ (w64 ((p0.f1.length : Int) + (1 : Int))) * (8 : Int) ≤ 140737488355328 ∧ (w64 ((p0.f1.length : Int) + (1 : Int))) ≤ 9223372036854775807 then mini_blocks_l1 k p0 k (List.replicate (w64 ((p0.f1.length : Int) + (1 : Int))).toNat (0 : Int)) (0 : Int)
  else none
theorem mini_blocks_spec {k : Nat} {p0 : S30} {r : (List Int)} (h : mini_blocks k p0 = some r) : Spec Try.prog 69 [(e30 p0)] (e25 r) := by
  rw [mini_blocks.eq_1] at h
  refine Spec.intro (res := [.tmp 2]) Try.func69 rfl rfl rfl (Nat.le_of_ble_eq_true rfl) ?_
  refine AW.sr ?_
  refine AO.box rfl 1 rfl (by decide) rfl rfl rfl fun n2 => ?_
  refine AO.c (Calm.assign rfl rfl) ?_
  refine AO.nK [1] ?_
  refine AW.sr ?_
  refine AO.c (x := .ptr n2 256) (Calm.fldPtr rfl rfl Try.underlying30 rfl sz28 _ rfl) ?_
  refine AO.c (Calm.load 0 rfl rfl rfl (At.cast (At.fldS (At.fld0 At.here)) rfl) ag28 sz28) ?_
  refine AO.c (Calm.lenL rfl rfl Try.underlying28) ?_
  refine AO.c (x := eI64 (w64 ((p0.f1.length : Int) + (1 : Int)))) (Calm.int rfl rfl rfl rfl) ?_
  obtain ⟨hg4, h⟩ := of_guard h
  refine AO.makeL (f := eI64) (0 : Int) rfl 10 rfl (by decide) rfl rfl rfl Try.underlying25 sz3 by3 zr3 lay3 rfl hg4 fun n3 => ?_
  refine AO.c (Calm.assign rfl rfl) ?_
  refine AO.nH [1, 3] (H' := [(n2, (.mem (e30 p0))), (n3, (.mem (.ar 1 ((List.replicate (w64 ((p0.f1.length : Int) + (1 : Int))).toNat (0 : Int)).map eI64))))]) (Sub.cons 1 rfl (Sub.cons 0 rfl (Sub.nil _))) ?_
  refine AW.seq_mid (fun ρ H => ∃ (x5 : (List Int)), ρ = [(3, (.own n3 0 x5.length))] ∧ H = [(n3, (.mem (.ar 1 (x5.map eI64))))] ∧ mini_blocks_c0 k x5 = some r) ?_ ?_
  ·refine AW.sr ?_
   refine AO.c (x := .ptr n2 257) (Calm.fldPtr rfl rfl Try.underlying30 rfl sz25 _ rfl) ?_
   refine AO.c (Calm.load 0 rfl rfl rfl (At.cast (At.fldS (At.fldS (At.fld0 At.here))) rfl) ag25 sz25) ?_
   refine AO.c (Calm.lenL rfl rfl Try.underlying25) ?_
   refine AO.c (Calm.move rfl rfl) ?_
   refine AO.nH [3, 12, 13, 14] (H' := [(n3, (.mem (.ar 1 ((List.replicate (w64 ((p0.f1.length : Int) + (1 : Int))).toNat (0 : Int)).map eI64))))]) (Sub.cons 1 rfl (Sub.nil _)) ?_
   refine AW.block ?_
   refine AW.wK [3, 12, 13, 14] ?_
   refine AW.loop (fun kq ρ H => ∃ (x6 : (List Int)) (x7 : Int), ρ = [(3, (.own n3 0 x6.length)), (12, (.fz 1 (p0.f2.map eI64))), (13, (eI64 (p0.f2.length : Int))), (14, (eI64 x7))] ∧ H = [(n3, (.mem (.ar 1 (x6.map eI64))))] ∧ mini_blocks_l1 k p0 kq x6 x7 = some r) k ⟨(List.replicate (w64 ((p0.f1.length : Int) + (1 : Int))).toNat (0 : Int)), (0 : Int), rfl, rfl, h⟩ ?_
   rintro kq9 _ _ ⟨x6, x7, rfl, rfl, h⟩
   cases kq9 with
   | zero => rw [mini_blocks_l1.eq_1] at h; cases h
   | succ kq9 =>
   rw [mini_blocks_l1.eq_2] at h
   generalize hrec8 : mini_blocks_l1 k p0 kq9 = rec8 at h
   refine AW.sr ?_
   refine AO.c (x := eBool (decide (x7 < (p0.f2.length : Int)))) (Calm.int rfl rfl rfl rfl) ?_
   refine AO.nK [3, 12, 13, 14, 15] ?_
   refine AW.seq ?_
   rcases of_ite h with ⟨hc10, h⟩ | ⟨hc10, h⟩
   ·refine AW.condP _ rfl hc10 ?_
    refine AW.sK [3, 12, 13, 14] ?_
    refine AW.seq ?_
    refine AW.block ?_
    refine AW.sr ?_
    refine AO.c (Calm.move rfl rfl) ?_
    obtain ⟨hg11, h⟩ := of_guard h
    refine AO.c (Calm.idxL (f := eI64) rfl rfl rfl hg11 Try.underlying25 sz3) ?_
    refine AO.c (Calm.loadRp rfl rfl ag3 sz3) ?_
    refine AO.c (Calm.assign rfl rfl) ?_
    refine AO.c (Calm.assign rfl rfl) ?_
    refine AO.nK [3, 4, 5, 12, 13, 14] ?_
    refine AW.reg ?_
    refine AO.c (Calm.move rfl rfl) ?_
    refine AO.c (Calm.move rfl rfl) ?_
    refine AO.c (Calm.move rfl rfl) ?_
    refine AO.c (x := eI64 (w64 ((lget p0.f2 x7) + (1 : Int)))) (Calm.int rfl rfl rfl rfl) ?_
    obtain ⟨hg12, h⟩ := of_guard h
    refine AO.c (Calm.idxO 0 rfl rfl rfl rfl hg12 Try.underlying25 sz3) ?_
    refine AO.store (X' := (.ar 1 ((lset x6 x7 (w64 ((lget p0.f2 x7) + (1 : Int)))).map eI64))) 0 rfl rfl rfl rfl rfl rfl (Put.cast (Put.lidx x7 (w64 ((lget p0.f2 x7) + (1 : Int))) hg12.1 hg12.2 Put.here) (by omega)) rfl rfl sz3 rfl ?_
    refine AO.coe 3 (y' := (.own n3 0 (lset x6 x7 (w64 ((lget p0.f2 x7) + (1 : Int)))).length)) rfl (fun _ _ h => lset_own h) ?_
    refine AO.coe 19 (y' := (.own n3 0 (lset x6 x7 (w64 ((lget p0.f2 x7) + (1 : Int)))).length)) rfl (fun _ _ h => lset_own h) ?_
    refine AO.nK [3, 12, 13, 14] ?_
    refine AW.reg ?_
    refine AO.c (x := eI64 (w64 (x7 + (1 : Int)))) (Calm.int rfl rfl rfl rfl) ?_
    refine AO.c (Calm.move rfl rfl) ?_
    refine AO.nK [3, 12, 13, 14] ?_
    exact ⟨kq9, Nat.lt_succ_self _, (lset x6 x7 (w64 ((lget p0.f2 x7) + (1 : Int)))), (w64 (x7 + (1 : Int))), rfl, rfl, by rw [hrec8]; exact h⟩
   ·refine AW.condN _ rfl hc10 ?_
    refine AW.eK [3] ?_
    exact ⟨x6, rfl, rfl, h⟩
  ·rintro _ _ ⟨x5, rfl, rfl, h⟩
   rw [mini_blocks_c0.eq_1] at h
   refine AW.sr ?_
   refine AO.c (Calm.move rfl rfl) ?_
   refine AO.c (Calm.assign rfl rfl) ?_
   refine AO.nK [2] ?_
   refine AW.freezeS 0 [(2, (.fz 1 (x5.map eI64)))] rfl ⟨fz_all rfl, trivial⟩ ?_
   refine AW.rK [2] ?_
   have hr := Option.some.inj h
   subst hr
   exact ⟨[(.fz 1 (x5.map eI64))], ⟨rfl, rfl, trivial⟩, rfl⟩
end Go.Avl.T5
/- bosket/mini.word; printed by avmain.py. -/
namespace Go.Avl.T5
open Go Go.RowKit Go.Proofs Go.Avl
set_option linter.unusedVariables false
set_option maxRecDepth 100000
set_option maxHeartbeats 4000000
attribute [local irreducible] AW AO AQ Spec SpecH Calm

def mini_word (k : Nat) (p0 : Int) : Option ByteArray :=
  (some (strOfNums ([(w8 (Int.fdiv p0 (2 ^ (min (8 : Int).toNat IntKind.i64.bits)))), (w8 p0)] : List Int))).bind fun x3 =>
  some (x3)
theorem mini_word_spec {k : Nat} {p0 : Int} {r : ByteArray} (h : mini_word k p0 = some r) : Spec Try.prog 103 [(eI64 p0)] (eStr r) := by
  rw [mini_word.eq_1] at h
  refine Spec.intro (res := [.tmp 2]) Try.func103 rfl rfl rfl (Nat.le_of_ble_eq_true rfl) ?_
  refine AW.sr ?_
  refine AO.c (Calm.assign rfl rfl) ?_
  refine AO.nK [0] ?_
  refine AW.sr ?_
  refine AO.c (Calm.move rfl rfl) ?_
  refine AO.c (x := eI64 (Int.fdiv p0 (2 ^ (min (8 : Int).toNat IntKind.i64.bits)))) (Calm.shr rfl rfl rfl (by decide)) ?_
  refine AO.c (x := eU8 (w8 (Int.fdiv p0 (2 ^ (min (8 : Int).toNat IntKind.i64.bits))))) (Calm.conv rfl rfl Try.underlying3 Try.underlying5) ?_
  refine AO.c (Calm.move rfl rfl) ?_
  refine AO.c (x := eU8 (w8 p0)) (Calm.conv rfl rfl Try.underlying3 Try.underlying5) ?_
  refine AO.lit (Z := (eU8 (0 : Int))) (xs := (([(w8 (Int.fdiv p0 (2 ^ (min (8 : Int).toNat IntKind.i64.bits)))), (w8 p0)] : List Int).map eU8)) (qs := [(0, (eU8 (w8 (Int.fdiv p0 (2 ^ (min (8 : Int).toNat IntKind.i64.bits)))))), (1, (eU8 (w8 p0)))]) rfl 8 rfl (by decide) rfl ⟨rfl, rfl, rfl, rfl, rfl, rfl, trivial⟩ Try.underlying77 sz5 zr5 lay5 rfl (by decide) (litOK (z := 1) [(eU8 (w8 (Int.fdiv p0 (2 ^ (min (8 : Int).toNat IntKind.i64.bits))))), (eU8 (w8 p0))] rfl ⟨⟨rfl, rfl⟩, ⟨rfl, rfl⟩, trivial⟩) rfl fun n2 => ?_
  refine AO.c (x := eStr (strOfNums ([(w8 (Int.fdiv p0 (2 ^ (min (8 : Int).toNat IntKind.i64.bits)))), (w8 p0)] : List Int))) (Calm.strO 0 rfl rfl rfl Try.underlying77 Try.underlying9 Try.underlying5) ?_
  obtain ⟨x3, ex3, h⟩ := of_bind h
  refine AO.c (Calm.assign rfl (congrArg (fun x => some (eStr x)) (Option.some.inj ex3))) ?_
  refine AO.nH [2] (H' := []) (Sub.nil _) ?_
  refine AW.rK [2] ?_
  have hr := Option.some.inj h
  subst hr
  exact ⟨[(eStr x3)], ⟨rfl, rfl, trivial⟩, rfl⟩
end Go.Avl.T5
/- bosket/mini.row; printed by avmain.py. -/
namespace Go.Avl.T5
open Go Go.RowKit Go.Proofs Go.Avl
set_option linter.unusedVariables false
set_option maxRecDepth 100000
set_option maxHeartbeats 4000000
attribute [local irreducible] AW AO AQ Spec SpecH Calm

def mini_row_c0 (k : Nat) (x7 : ByteArray) : Option ByteArray :=
  some (x7)
def mini_row_c1 (k : Nat) (rec11 : (ByteArray → Int → Option ByteArray)) (p1 : (List Int)) (x9 : ByteArray) (x10 : Int) (x14 : Int) : Option ByteArray :=
  if 0 ≤ x14 ∧ x14 < (p1.length : Int) then (mini_word k (lget p1 x14)).bind fun t16 =>
  if x9.size + t16.size ≤ 9223372036854775807 then rec11 (x9 ++ t16) (w64 (x10 + (1 : Int)))
  else none
  else none
def mini_row_l2 (k : Nat) (p0 : S30) (p1 : (List Int)) (p2 : Int) (t8 : Int) : Nat → ByteArray → Int → Option ByteArray
  | 0, _, _ => none
  | j + 1, x9, x10 =>
    if x10 < t8 then Option.bind (α := Bool) (if p2 < (p0.f1.length : Int) then if 0 ≤ p2 ∧ p2 < (p0.f1.length : Int) then if 0 ≤ x10 ∧ x10 < ((lget p0.f1 p2).length : Int) then some (decide ((0 : Int) ≤ (lget (lget p0.f1 p2) x10)))
    else none
    else none
    else some (false)) fun b18 =>
    if b18 = true then if 0 ≤ p2 ∧ p2 < (p0.f1.length : Int) then if 0 ≤ x10 ∧ x10 < ((lget p0.f1 p2).length : Int) then mini_row_c1 k (mini_row_l2 k p0 p1 p2 t8 j) p1 x9 x10 (lget (lget p0.f1 p2) x10)
    else none
    else none
    else mini_row_c1 k (mini_row_l2 k p0 p1 p2 t8 j) p1 x9 x10 (p0.f1.length : Int)
    else mini_row_c0 k x9
def mini_row (k : Nat) (p0 : S30) (p1 : (List Int)) (p2 : Int) : Option ByteArray :=
  if 0 ≤ p2 ∧ p2 < (p1.length : Int) then (mini_word k (lget p1 p2)).bind fun t6 =>
  (byteset_Count k p0.f0).bind fun t8 =>
  mini_row_l2 k p0 p1 p2 t8 k t6 (0 : Int)
  else none
theorem mini_row_spec {k : Nat} {p0 : S30} {p1 : (List Int)} {p2 : Int} {r : ByteArray} (h : mini_row k p0 p1 p2 = some r) : Spec Try.prog 95 [(e30 p0), (.fz 1 (p1.map eI64)), (eI64 p2)] (eStr r) := by
  rw [mini_row.eq_1] at h
  refine Spec.intro (res := [.tmp 6]) Try.func95 rfl rfl rfl (Nat.le_of_ble_eq_true rfl) ?_
  refine AW.sr ?_
  refine AO.box rfl 3 rfl (by decide) rfl rfl rfl fun n4 => ?_
  refine AO.c (Calm.assign rfl rfl) ?_
  refine AO.nK [1, 2, 3] ?_
  refine AW.sr ?_
  refine AO.c (Calm.move rfl rfl) ?_
  refine AO.c (Calm.move rfl rfl) ?_
  obtain ⟨hg5, h⟩ := of_guard h
  refine AO.c (Calm.idxL (f := eI64) rfl rfl rfl hg5 Try.underlying25 sz3) ?_
  refine AO.c (Calm.loadRp rfl rfl ag3 sz3) ?_
  obtain ⟨t6, et6, h⟩ := of_bind h
  refine AO.callS [(eI64 (lget p1 p2))] (eStr t6) 14 rfl (by decide) ok103 rfl rfl rfl ⟨rfl, rfl, trivial⟩ (mini_word_spec et6) ?_
  refine AO.c (Calm.assign rfl rfl) ?_
  refine AO.nK [1, 2, 3, 7] ?_
  refine AW.seq_mid (fun ρ H => ∃ (x7 : ByteArray), ρ = [(7, (eStr x7))] ∧ H = [] ∧ mini_row_c0 k x7 = some r) ?_ ?_
  ·refine AW.sr ?_
   refine AO.c (x := .ptr n4 0) (Calm.fldPtr rfl rfl Try.underlying30 rfl sz27 _ rfl) ?_
   refine AO.c (Calm.load 0 rfl rfl rfl (At.cast (At.fld0 At.here) rfl) ag27 (by rw [sz27]; simp [AV.size])) ?_
   obtain ⟨t8, et8, h⟩ := of_bind h
   refine AO.callS [(.ar 1 (p0.f0.toList.map eU8))] (eI64 t8) 17 rfl (by decide) ok90 rfl rfl rfl ⟨rfl, rfl, trivial⟩ (byteset_Count_spec et8) ?_
   refine AO.c (Calm.move rfl rfl) ?_
   refine AO.nK [1, 2, 3, 7, 17, 18] ?_
   refine AW.block ?_
   refine AW.wK [1, 2, 3, 7, 17, 18] ?_
   refine AW.loop (fun kq ρ H => ∃ (x9 : ByteArray) (x10 : Int), ρ = [(1, (.fz 1 (p1.map eI64))), (2, (eI64 p2)), (3, (.ptr n4 0)), (7, (eStr x9)), (17, (eI64 t8)), (18, (eI64 x10))] ∧ H = [(n4, (.mem (e30 p0)))] ∧ mini_row_l2 k p0 p1 p2 t8 kq x9 x10 = some r) k ⟨t6, (0 : Int), rfl, rfl, h⟩ ?_
   rintro kq12 _ _ ⟨x9, x10, rfl, rfl, h⟩
   cases kq12 with
   | zero => rw [mini_row_l2.eq_1] at h; cases h
   | succ kq12 =>
   rw [mini_row_l2.eq_2] at h
   generalize hrec11 : mini_row_l2 k p0 p1 p2 t8 kq12 = rec11 at h
   refine AW.sr ?_
   refine AO.c (x := eBool (decide (x10 < t8))) (Calm.int rfl rfl rfl rfl) ?_
   refine AO.nK [1, 2, 3, 7, 17, 18, 19] ?_
   refine AW.seq ?_
   rcases of_ite h with ⟨hc13, h⟩ | ⟨hc13, h⟩
   ·refine AW.condP _ rfl hc13 ?_
    refine AW.sK [1, 2, 3, 7, 17, 18] ?_
    refine AW.seq ?_
    refine AW.block ?_
    refine AW.sr ?_
    refine AO.c (Calm.move rfl rfl) ?_
    refine AO.c (Calm.assign rfl rfl) ?_
    refine AO.nK [1, 2, 3, 7, 8, 17, 18] ?_
    refine AW.sr ?_
    refine AO.c (x := .ptr n4 256) (Calm.fldPtr rfl rfl Try.underlying30 rfl sz28 _ rfl) ?_
    refine AO.c (Calm.load 0 rfl rfl rfl (At.cast (At.fldS (At.fld0 At.here)) rfl) ag28 sz28) ?_
    refine AO.c (Calm.lenL rfl rfl Try.underlying28) ?_
    refine AO.c (Calm.assign rfl rfl) ?_
    refine AO.nK [1, 2, 3, 7, 8, 9, 17, 18] ?_
    refine AW.seq_mid (fun ρ H => ∃ (x14 : Int), ρ = [(1, (.fz 1 (p1.map eI64))), (2, (eI64 p2)), (3, (.ptr n4 0)), (7, (eStr x9)), (9, (eI64 x14)), (17, (eI64 t8)), (18, (eI64 x10))] ∧ H = [(n4, (.mem (e30 p0)))] ∧ mini_row_c1 k rec11 p1 x9 x10 x14 = some r) ?_ ?_
    ·refine AW.seq ?_
     obtain ⟨b18, hq19, h⟩ := of_bind h
     refine AW.regM [(1, (.fz 1 (p1.map eI64))), (2, (eI64 p2)), (3, (.ptr n4 0)), (7, (eStr x9)), (8, (eI64 x10)), (9, (eI64 (p0.f1.length : Int))), (17, (eI64 t8)), (18, (eI64 x10)), (39, (eBool b18))] [(n4, (.mem (e30 p0)))] ?_ ?_
     ·refine AO.c (Calm.move rfl rfl) ?_
      refine AO.c (x := .ptr n4 256) (Calm.fldPtr rfl rfl Try.underlying30 rfl sz28 _ rfl) ?_
      refine AO.c (Calm.load 0 rfl rfl rfl (At.cast (At.fldS (At.fld0 At.here)) rfl) ag28 sz28) ?_
      refine AO.c (Calm.lenL rfl rfl Try.underlying28) ?_
      refine AO.c (x := eBool (decide (p2 < (p0.f1.length : Int)))) (Calm.int rfl rfl rfl rfl) ?_
      refine AO.c (Calm.move rfl rfl) ?_
      rcases of_ite hq19 with ⟨hc20, hq19⟩ | ⟨hc20, hq19⟩
      ·refine AO.cG (x := .ptr n4 256) rfl rfl (bD (decide_eq_true hc20)) (Calm.fldPtr rfl rfl Try.underlying30 rfl sz28 _ rfl) ?_
       refine AO.cG rfl rfl (bD (decide_eq_true hc20)) (Calm.load 0 rfl rfl rfl (At.cast (At.fldS (At.fld0 At.here)) rfl) ag28 sz28) ?_
       refine AO.cG rfl rfl (bD (decide_eq_true hc20)) (Calm.move rfl rfl) ?_
       obtain ⟨hg21, hq19⟩ := of_guard hq19
       refine AO.cG rfl rfl (bD (decide_eq_true hc20)) (Calm.idxL (f := e25) rfl rfl rfl hg21 Try.underlying28 sz25) ?_
       refine AO.cG rfl rfl (bD (decide_eq_true hc20)) (Calm.loadRp rfl rfl ag25 sz25) ?_
       refine AO.cG rfl rfl (bD (decide_eq_true hc20)) (Calm.move rfl rfl) ?_
       obtain ⟨hg22, hq19⟩ := of_guard hq19
       refine AO.cG rfl rfl (bD (decide_eq_true hc20)) (Calm.idxL (f := eI64) rfl rfl rfl hg22 Try.underlying25 sz3) ?_
       refine AO.cG rfl rfl (bD (decide_eq_true hc20)) (Calm.loadRp rfl rfl ag3 sz3) ?_
       refine AO.cG (x := eBool (decide ((0 : Int) ≤ (lget (lget p0.f1 p2) x10)))) rfl rfl (bD (decide_eq_true hc20)) (Calm.int rfl rfl rfl rfl) ?_
       refine AO.c (Calm.pickT rfl (bD (decide_eq_true hc20)) rfl) ?_
       cases hq19
       refine AO.nilE ⟨rfl, rfl⟩ ?_ ?_
       · exact ⟨rfl, rfl, rfl, rfl, rfl, rfl, rfl, rfl, rfl, trivial⟩
       · exact (Sub.refl _)
      ·refine AO.sT rfl rfl (bD (decide_eq_false hc20)) ?_
       refine AO.sT rfl rfl (bD (decide_eq_false hc20)) ?_
       refine AO.sT rfl rfl (bD (decide_eq_false hc20)) ?_
       refine AO.sT rfl rfl (bD (decide_eq_false hc20)) ?_
       refine AO.sT rfl rfl (bD (decide_eq_false hc20)) ?_
       refine AO.sT rfl rfl (bD (decide_eq_false hc20)) ?_
       refine AO.sT rfl rfl (bD (decide_eq_false hc20)) ?_
       refine AO.sT rfl rfl (bD (decide_eq_false hc20)) ?_
       refine AO.sT rfl rfl (bD (decide_eq_false hc20)) ?_
       refine AO.c (Calm.pickF rfl (bD (decide_eq_false hc20)) rfl) ?_
       cases hq19
       refine AO.nilE ⟨rfl, rfl⟩ ?_ ?_
       · exact ⟨rfl, rfl, rfl, rfl, rfl, rfl, rfl, rfl, rfl, trivial⟩
       · exact (Sub.refl _)
     ·rcases of_ite h with ⟨hc23, h⟩ | ⟨hc23, h⟩
      ·refine AW.condT' _ rfl hc23 ?_
       refine AW.reg ?_
       refine AO.c (x := .ptr n4 256) (Calm.fldPtr rfl rfl Try.underlying30 rfl sz28 _ rfl) ?_
       refine AO.c (Calm.load 0 rfl rfl rfl (At.cast (At.fldS (At.fld0 At.here)) rfl) ag28 sz28) ?_
       refine AO.c (Calm.move rfl rfl) ?_
       obtain ⟨hg24, h⟩ := of_guard h
       refine AO.c (Calm.idxL (f := e25) rfl rfl rfl hg24 Try.underlying28 sz25) ?_
       refine AO.c (Calm.loadRp rfl rfl ag25 sz25) ?_
       refine AO.c (Calm.move rfl rfl) ?_
       obtain ⟨hg25, h⟩ := of_guard h
       refine AO.c (Calm.idxL (f := eI64) rfl rfl rfl hg25 Try.underlying25 sz3) ?_
       refine AO.c (Calm.loadRp rfl rfl ag3 sz3) ?_
       refine AO.c (Calm.assign rfl rfl) ?_
       refine AO.nK [1, 2, 3, 7, 9, 17, 18] ?_
       exact ⟨(lget (lget p0.f1 p2) x10), rfl, rfl, h⟩
      ·refine AW.condF' _ rfl hc23 ?_
       refine AW.sK [1, 2, 3, 7, 9, 17, 18] ?_
       exact ⟨(p0.f1.length : Int), rfl, rfl, h⟩
    ·rintro _ _ ⟨x14, rfl, rfl, h⟩
     rw [mini_row_c1.eq_1] at h
     refine AW.reg ?_
     refine AO.c (Calm.move rfl rfl) ?_
     refine AO.c (Calm.move rfl rfl) ?_
     refine AO.c (Calm.move rfl rfl) ?_
     obtain ⟨hg15, h⟩ := of_guard h
     refine AO.c (Calm.idxL (f := eI64) rfl rfl rfl hg15 Try.underlying25 sz3) ?_
     refine AO.c (Calm.loadRp rfl rfl ag3 sz3) ?_
     obtain ⟨t16, et16, h⟩ := of_bind h
     refine AO.callS [(eI64 (lget p1 x14))] (eStr t16) 53 rfl (by decide) ok103 rfl rfl rfl ⟨rfl, rfl, trivial⟩ (mini_word_spec et16) ?_
     obtain ⟨hg17, h⟩ := of_guard h
     refine AO.c (x := eStr (x9 ++ t16)) (Calm.cat rfl rfl rfl hg17) ?_
     refine AO.c (Calm.assign rfl rfl) ?_
     refine AO.nK [1, 2, 3, 7, 17, 18] ?_
     refine AW.reg ?_
     refine AO.c (x := eI64 (w64 (x10 + (1 : Int)))) (Calm.int rfl rfl rfl rfl) ?_
     refine AO.c (Calm.move rfl rfl) ?_
     refine AO.nK [1, 2, 3, 7, 17, 18] ?_
     exact ⟨kq12, Nat.lt_succ_self _, (x9 ++ t16), (w64 (x10 + (1 : Int))), rfl, rfl, by rw [hrec11]; exact h⟩
   ·refine AW.condN _ rfl hc13 ?_
    refine AW.eH [7] (H' := []) (Sub.nil _) ?_
    exact ⟨x9, rfl, rfl, h⟩
  ·rintro _ _ ⟨x7, rfl, rfl, h⟩
   rw [mini_row_c0.eq_1] at h
   refine AW.sr ?_
   refine AO.c (Calm.move rfl rfl) ?_
   refine AO.c (Calm.assign rfl rfl) ?_
   refine AO.nK [6] ?_
   refine AW.rK [6] ?_
   have hr := Option.some.inj h
   subst hr
   exact ⟨[(eStr x7)], ⟨rfl, rfl, trivial⟩, rfl⟩
end Go.Avl.T5
/- bosket/mini.split; printed by avmain.py. -/
namespace Go.Avl.T5
open Go Go.RowKit Go.Proofs Go.Avl
set_option linter.unusedVariables false
set_option maxRecDepth 100000
set_option maxHeartbeats 4000000
attribute [local irreducible] AW AO AQ Spec SpecH Calm

def mini_split_c0 (k : Nat) (x7 : (List (ByteArray × Int))) (x8 : (List Int)) : Option ((List Int) × Int) :=
  some (x8, (x7.length : Int))
def mini_split_c1 (k : Nat) (rec12 : ((List (ByteArray × Int)) → (List Int) → Int → Option ((List Int) × Int))) (x10 : (List Int)) (x11 : Int) (x16 : (List (ByteArray × Int))) (x17 : Int) : Option ((List Int) × Int) :=
  if 0 ≤ x11 ∧ x11 < (x10.length : Int) then rec12 x16 (lset x10 x11 x17) (w64 (x11 + (1 : Int)))
  else none
def mini_split_l2 (k : Nat) (p0 : S30) (p1 : (List Int)) : Nat → (List (ByteArray × Int)) → (List Int) → Int → Option ((List Int) × Int)
  | 0, _, _, _ => none
  | j + 1, x9, x10, x11 =>
    if x11 < (p1.length : Int) then (mini_row k p0 p1 x11).bind fun t15 =>
    if (!((mget x9 t15).isSome)) = true then mini_split_c1 k (mini_split_l2 k p0 p1 j) x10 x11 (mput x9 t15 (x9.length : Int)) (x9.length : Int)
    else mini_split_c1 k (mini_split_l2 k p0 p1 j) x10 x11 x9 ((mget x9 t15).getD (0 : Int))
    else mini_split_c0 k x9 x10
def mini_split (k : Nat) (p0 : S30) (p1 : (List Int)) : Option ((List Int) × Int) :=
  if 0 ≤ (p1.length : Int) ∧ (p1.length : Int) * (8 : Int) ≤ 140737488355328 ∧ (p1.length : Int) ≤ 9223372036854775807 then mini_split_l2 k p0 p1 k ([] : List (ByteArray × Int)) (List.replicate (p1.length : Int).toNat (0 : Int)) (0 : Int)
  else none
theorem mini_split_spec {k : Nat} {p0 : S30} {p1 : (List Int)} {r : ((List Int) × Int)} (h : mini_split k p0 p1 = some r) : Spec Try.prog 68 [(e30 p0), (.fz 1 (p1.map eI64))] (.tup [(.fz 1 (r.1.map eI64)), (eI64 r.2)]) := by
  rw [mini_split.eq_1] at h
  refine Spec.intro (res := [.tmp 4, .tmp 5]) Try.func68 rfl rfl rfl (Nat.le_of_ble_eq_true rfl) ?_
  refine AW.sr ?_
  refine AO.box rfl 2 rfl (by decide) rfl rfl rfl fun n3 => ?_
  refine AO.c (Calm.assign rfl rfl) ?_
  refine AO.c (Calm.assign rfl rfl) ?_
  refine AO.nK [1, 2] ?_
  refine AW.sr ?_
  refine AO.makeMap rfl 12 rfl (by decide) rfl fun n4 => ?_
  refine AO.c (Calm.assign rfl rfl) ?_
  refine AO.nH [1, 2, 6] (H' := [(n3, (.mem (e30 p0))), (n4, (.map (encM Value.string eI64 ([] : List (ByteArray × Int)))))]) (Sub.cons 1 rfl (Sub.cons 0 rfl (Sub.nil _))) ?_
  refine AW.sr ?_
  refine AO.c (Calm.move rfl rfl) ?_
  refine AO.c (Calm.lenL rfl rfl Try.underlying25) ?_
  obtain ⟨hg6, h⟩ := of_guard h
  refine AO.makeL (f := eI64) (0 : Int) rfl 15 rfl (by decide) rfl rfl rfl Try.underlying25 sz3 by3 zr3 lay3 rfl hg6 fun n5 => ?_
  refine AO.c (Calm.assign rfl rfl) ?_
  refine AO.nH [1, 2, 6, 7] (H' := [(n3, (.mem (e30 p0))), (n4, (.map (encM Value.string eI64 ([] : List (ByteArray × Int))))), (n5, (.mem (.ar 1 ((List.replicate (p1.length : Int).toNat (0 : Int)).map eI64))))]) (Sub.cons 1 rfl (Sub.cons 1 rfl (Sub.cons 0 rfl (Sub.nil _)))) ?_
  refine AW.seq_mid (fun ρ H => ∃ (x7 : (List (ByteArray × Int))) (x8 : (List Int)), ρ = [(6, (.mp n4)), (7, (.own n5 0 x8.length))] ∧ H = [(n4, (.map (encM Value.string eI64 x7))), (n5, (.mem (.ar 1 (x8.map eI64))))] ∧ mini_split_c0 k x7 x8 = some r) ?_ ?_
  ·refine AW.sr ?_
   refine AO.c (Calm.move rfl rfl) ?_
   refine AO.c (Calm.lenL rfl rfl Try.underlying25) ?_
   refine AO.c (Calm.move rfl rfl) ?_
   refine AO.nK [1, 2, 6, 7, 17, 18] ?_
   refine AW.block ?_
   refine AW.wK [1, 2, 6, 7, 17, 18] ?_
   refine AW.loop (fun kq ρ H => ∃ (x9 : (List (ByteArray × Int))) (x10 : (List Int)) (x11 : Int), ρ = [(1, (.fz 1 (p1.map eI64))), (2, (.ptr n3 0)), (6, (.mp n4)), (7, (.own n5 0 x10.length)), (17, (eI64 (p1.length : Int))), (18, (eI64 x11))] ∧ H = [(n3, (.mem (e30 p0))), (n4, (.map (encM Value.string eI64 x9))), (n5, (.mem (.ar 1 (x10.map eI64))))] ∧ mini_split_l2 k p0 p1 kq x9 x10 x11 = some r) k ⟨([] : List (ByteArray × Int)), (List.replicate (p1.length : Int).toNat (0 : Int)), (0 : Int), rfl, rfl, h⟩ ?_
   rintro kq13 _ _ ⟨x9, x10, x11, rfl, rfl, h⟩
   cases kq13 with
   | zero => rw [mini_split_l2.eq_1] at h; cases h
   | succ kq13 =>
   rw [mini_split_l2.eq_2] at h
   generalize hrec12 : mini_split_l2 k p0 p1 kq13 = rec12 at h
   refine AW.sr ?_
   refine AO.c (x := eBool (decide (x11 < (p1.length : Int)))) (Calm.int rfl rfl rfl rfl) ?_
   refine AO.nK [1, 2, 6, 7, 17, 18, 19] ?_
   refine AW.seq ?_
   rcases of_ite h with ⟨hc14, h⟩ | ⟨hc14, h⟩
   ·refine AW.condP _ rfl hc14 ?_
    refine AW.sK [1, 2, 6, 7, 17, 18] ?_
    refine AW.seq ?_
    refine AW.block ?_
    refine AW.sr ?_
    refine AO.c (Calm.move rfl rfl) ?_
    refine AO.c (Calm.assign rfl rfl) ?_
    refine AO.nK [1, 2, 6, 7, 8, 17, 18] ?_
    refine AW.sr ?_
    refine AO.c (Calm.load 0 rfl rfl rfl (At.cast At.here rfl) ag30 sz30) ?_
    refine AO.c (Calm.move rfl rfl) ?_
    refine AO.c (Calm.move rfl rfl) ?_
    obtain ⟨t15, et15, h⟩ := of_bind h
    refine AO.callS [(e30 p0), (.fz 1 (p1.map eI64)), (eI64 x11)] (eStr t15) 24 rfl (by decide) ok95 rfl rfl rfl ⟨rfl, rfl, rfl, rfl, rfl, rfl, trivial⟩ (mini_row_spec et15) ?_
    refine AO.c (Calm.assign rfl rfl) ?_
    refine AO.nK [1, 2, 6, 7, 8, 9, 17, 18] ?_
    refine AW.sr ?_
    refine AO.c (Calm.move rfl rfl) ?_
    refine AO.c (Calm.move rfl rfl) ?_
    refine AO.c (x := .tup [(eI64 ((mget x9 t15).getD (0 : Int))), (eBool ((mget x9 t15).isSome))]) (Calm.look2 (f := eI64) string_inj string_key (0 : Int) 1 rfl rfl rfl rfl Try.underlying76 Try.underlying9 mz3) ?_
    refine AO.c (Calm.move rfl rfl) ?_
    refine AO.c (Calm.extract rfl rfl rfl) ?_
    refine AO.c (Calm.extract rfl rfl rfl) ?_
    refine AO.c (Calm.assign rfl rfl) ?_
    refine AO.c (Calm.assign rfl rfl) ?_
    refine AO.nK [1, 2, 6, 7, 8, 9, 10, 11, 17, 18] ?_
    refine AW.seq_mid (fun ρ H => ∃ (x16 : (List (ByteArray × Int))) (x17 : Int), ρ = [(1, (.fz 1 (p1.map eI64))), (2, (.ptr n3 0)), (6, (.mp n4)), (7, (.own n5 0 x10.length)), (8, (eI64 x11)), (10, (eI64 x17)), (17, (eI64 (p1.length : Int))), (18, (eI64 x11))] ∧ H = [(n3, (.mem (e30 p0))), (n4, (.map (encM Value.string eI64 x16))), (n5, (.mem (.ar 1 (x10.map eI64))))] ∧ mini_split_c1 k rec12 x10 x11 x16 x17 = some r) ?_ ?_
    ·refine AW.sr ?_
     refine AO.c (Calm.move rfl rfl) ?_
     refine AO.c (Calm.not rfl rfl) ?_
     refine AO.nK [1, 2, 6, 7, 8, 9, 10, 17, 18, 32] ?_
     rcases of_ite h with ⟨hc19, h⟩ | ⟨hc19, h⟩
     ·refine AW.condT' _ rfl hc19 ?_
      refine AW.sr ?_
      refine AO.c (Calm.move rfl rfl) ?_
      refine AO.c (x := eI64 (x9.length : Int)) (Calm.lenMap 1 rfl rfl rfl Try.underlying76) ?_
      refine AO.c (Calm.assign rfl rfl) ?_
      refine AO.nK [1, 2, 6, 7, 8, 9, 10, 17, 18] ?_
      refine AW.reg ?_
      refine AO.c (Calm.move rfl rfl) ?_
      refine AO.c (Calm.move rfl rfl) ?_
      refine AO.c (Calm.move rfl rfl) ?_
      refine AO.mapPut (f := eI64) string_inj string_key 1 rfl rfl rfl rfl rfl rfl rfl rfl Try.underlying76 Try.underlying9 ?_
      refine AO.nK [1, 2, 6, 7, 8, 10, 17, 18] ?_
      exact ⟨(mput x9 t15 (x9.length : Int)), (x9.length : Int), rfl, rfl, h⟩
     ·refine AW.condF' _ rfl hc19 ?_
      refine AW.sK [1, 2, 6, 7, 8, 10, 17, 18] ?_
      exact ⟨x9, ((mget x9 t15).getD (0 : Int)), rfl, rfl, h⟩
    ·rintro _ _ ⟨x16, x17, rfl, rfl, h⟩
     rw [mini_split_c1.eq_1] at h
     refine AW.reg ?_
     refine AO.c (Calm.move rfl rfl) ?_
     refine AO.c (Calm.move rfl rfl) ?_
     refine AO.c (Calm.move rfl rfl) ?_
     obtain ⟨hg18, h⟩ := of_guard h
     refine AO.c (Calm.idxO 2 rfl rfl rfl rfl hg18 Try.underlying25 sz3) ?_
     refine AO.store (X' := (.ar 1 ((lset x10 x11 x17).map eI64))) 2 rfl rfl rfl rfl rfl rfl (Put.cast (Put.lidx x11 x17 hg18.1 hg18.2 Put.here) (by omega)) rfl rfl sz3 rfl ?_
     refine AO.coe 7 (y' := (.own n5 0 (lset x10 x11 x17).length)) rfl (fun _ _ h => lset_own h) ?_
     refine AO.coe 38 (y' := (.own n5 0 (lset x10 x11 x17).length)) rfl (fun _ _ h => lset_own h) ?_
     refine AO.nK [1, 2, 6, 7, 17, 18] ?_
     refine AW.reg ?_
     refine AO.c (x := eI64 (w64 (x11 + (1 : Int)))) (Calm.int rfl rfl rfl rfl) ?_
     refine AO.c (Calm.move rfl rfl) ?_
     refine AO.nK [1, 2, 6, 7, 17, 18] ?_
     exact ⟨kq13, Nat.lt_succ_self _, x16, (lset x10 x11 x17), (w64 (x11 + (1 : Int))), rfl, rfl, by rw [hrec12]; exact h⟩
   ·refine AW.condN _ rfl hc14 ?_
    refine AW.eH [6, 7] (H' := [(n4, (.map (encM Value.string eI64 x9))), (n5, (.mem (.ar 1 (x10.map eI64))))]) (Sub.cons 1 rfl (Sub.cons 1 rfl (Sub.nil _))) ?_
    exact ⟨x9, x10, rfl, rfl, h⟩
  ·rintro _ _ ⟨x7, x8, rfl, rfl, h⟩
   rw [mini_split_c0.eq_1] at h
   refine AW.sr ?_
   refine AO.c (Calm.move rfl rfl) ?_
   refine AO.c (Calm.move rfl rfl) ?_
   refine AO.c (x := eI64 (x7.length : Int)) (Calm.lenMap 0 rfl rfl rfl Try.underlying76) ?_
   refine AO.c (Calm.assign rfl rfl) ?_
   refine AO.c (Calm.assign rfl rfl) ?_
   refine AO.nH [4, 5] (H' := [(n5, (.mem (.ar 1 (x8.map eI64))))]) (Sub.cons 1 rfl (Sub.nil _)) ?_
   refine AW.freezeS 0 [(4, (.fz 1 (x8.map eI64)))] rfl ⟨fz_all rfl, trivial⟩ ?_
   refine AW.rK [4, 5] ?_
   have hr := Option.some.inj h
   subst hr
   exact ⟨[(.fz 1 (x8.map eI64)), (eI64 (x7.length : Int))], ⟨rfl, rfl, rfl, rfl, trivial⟩, rfl⟩
end Go.Avl.T5
/- bosket/mini.Blocks; printed by avmain.py. -/
namespace Go.Avl.T5
open Go Go.RowKit Go.Proofs Go.Avl
set_option linter.unusedVariables false
set_option maxRecDepth 100000
set_option maxHeartbeats 4000000
attribute [local irreducible] AW AO AQ Spec SpecH Calm

def mini_Blocks_l0 (k : Nat) (p0 : S30) : Nat → (List Int) → Int → Option (List Int)
  | 0, _, _ => none
  | j + 1, x7, x8 =>
    (mini_split k p0 x7).bind fun t11 =>
    if t11.2 = x8 then if 0 ≤ (0 : Int) ∧ (0 : Int) ≤ (p0.f1.length : Int) ∧ (p0.f1.length : Int) ≤ (t11.1.length : Int) then some ((lcut t11.1 (0 : Int) (p0.f1.length : Int)))
    else none
    else (mini_Blocks_l0 k p0 j) t11.1 t11.2
def mini_Blocks (k : Nat) (p0 : S30) : Option (List Int) :=
  (dfa_Right k p0).bind fun t3 =>
  if (!t3) = true then some ([])
  else (mini_blocks k p0).bind fun t5 =>
  (mini_split k p0 t5).bind fun t6 =>
  mini_Blocks_l0 k p0 k t6.1 t6.2
theorem mini_Blocks_spec {k : Nat} {p0 : S30} {r : (List Int)} (h : mini_Blocks k p0 = some r) : Spec Try.prog 34 [(e30 p0)] (e25 r) := by
  rw [mini_Blocks.eq_1] at h
  refine Spec.intro (res := [.tmp 2]) Try.func34 rfl rfl rfl (Nat.le_of_ble_eq_true rfl) ?_
  refine AW.sr ?_
  refine AO.box rfl 1 rfl (by decide) rfl rfl rfl fun n2 => ?_
  refine AO.c (Calm.assign rfl rfl) ?_
  refine AO.nK [1] ?_
  refine AW.seq ?_
  refine AW.sr ?_
  refine AO.c (Calm.load 0 rfl rfl rfl (At.cast At.here rfl) ag30 sz30) ?_
  obtain ⟨t3, et3, h⟩ := of_bind h
  refine AO.callS [(e30 p0)] (eBool t3) 8 rfl (by decide) ok64 rfl rfl rfl ⟨rfl, rfl, trivial⟩ (dfa_Right_spec et3) ?_
  refine AO.c (Calm.not rfl rfl) ?_
  refine AO.nK [1, 9] ?_
  rcases of_ite h with ⟨hc4, h⟩ | ⟨hc4, h⟩
  ·refine AW.condT' _ rfl hc4 ?_
   refine AW.sr ?_
   refine AO.c (Calm.assign rfl rfl) ?_
   refine AO.nH [2] (H' := []) (Sub.nil _) ?_
   refine AW.coeC 2 (y' := (.fz 1 (([] : List Int).map eI64))) rfl Coe.nil ?_
   refine AW.rK [2] ?_
   have hr := Option.some.inj h
   subst hr
   exact ⟨[(.fz 1 (([] : List Int).map eI64))], ⟨rfl, rfl, trivial⟩, rfl⟩
  ·refine AW.condF' _ rfl hc4 ?_
   refine AW.sK [1] ?_
   refine AW.seq ?_
   obtain ⟨t5, et5, h⟩ := of_bind h
   obtain ⟨t6, et6, h⟩ := of_bind h
   refine AW.regAny (by rfl) (by decide +kernel) [(e30 p0), (e30 p0), (.fz 1 (t5.map eI64)), (.tup [(.fz 1 (t6.1.map eI64)), (eI64 t6.2)]), (.tup [(.fz 1 (t6.1.map eI64)), (eI64 t6.2)]), (.fz 1 (t6.1.map eI64)), (eI64 t6.2), (.fz 1 (t6.1.map eI64)), (eI64 t6.2)] [(1, (.ptr n2 0))] ⟨rfl, trivial⟩ rfl ?_ [(1, (.ptr n2 0)), (3, (.fz 1 (t6.1.map eI64))), (4, (eI64 t6.2))] [(n2, (.mem (e30 p0)))] ⟨rfl, rfl, rfl, trivial⟩ (Sub.refl _) ?_
   ·refine ⟨?_, ?_, ?_, ?_, ?_, ?_, ?_, ?_, ?_, trivial⟩
    ·refine AO.wK [1] ?_
     refine AO.c (Calm.load 0 rfl rfl rfl (At.cast At.here rfl) ag30 sz30) ?_
     exact AO.nE (d := 11) rfl ⟨⟨_, rfl, rfl⟩, Sub.refl _⟩
    ·refine AO.wK [1] ?_
     refine AO.c (Calm.load 0 rfl rfl rfl (At.cast At.here rfl) ag30 sz30) ?_
     exact AO.nE (d := 12) rfl ⟨⟨_, rfl, rfl⟩, Sub.refl _⟩
    ·refine AO.wK [12] ?_
     refine AO.callS [(e30 p0)] (.fz 1 (t5.map eI64)) 13 rfl (by decide) ok69 rfl rfl rfl ⟨rfl, rfl, trivial⟩ (mini_blocks_spec et5) ?_
     exact AO.nE (d := 13) rfl ⟨⟨_, rfl, rfl⟩, Sub.refl _⟩
    ·refine AO.wK [11, 13] ?_
     refine AO.callS [(e30 p0), (.fz 1 (t5.map eI64))] (.tup [(.fz 1 (t6.1.map eI64)), (eI64 t6.2)]) 14 rfl (by decide) ok68 rfl rfl rfl ⟨rfl, rfl, rfl, rfl, trivial⟩ (mini_split_spec et6) ?_
     exact AO.nE (d := 14) rfl ⟨⟨_, rfl, rfl⟩, Sub.refl _⟩
    ·refine AO.wK [14] ?_
     refine AO.c (Calm.move rfl rfl) ?_
     exact AO.nE (d := 10) rfl ⟨⟨_, rfl, rfl⟩, Sub.refl _⟩
    ·refine AO.wK [10] ?_
     refine AO.c (Calm.extract rfl rfl rfl) ?_
     exact AO.nE (d := 15) rfl ⟨⟨_, rfl, rfl⟩, Sub.refl _⟩
    ·refine AO.wK [10] ?_
     refine AO.c (Calm.extract rfl rfl rfl) ?_
     exact AO.nE (d := 16) rfl ⟨⟨_, rfl, rfl⟩, Sub.refl _⟩
    ·refine AO.wK [15] ?_
     refine AO.c (Calm.assign rfl rfl) ?_
     exact AO.nE (d := 3) rfl ⟨⟨_, rfl, rfl⟩, Sub.refl _⟩
    ·refine AO.wK [16] ?_
     refine AO.c (Calm.assign rfl rfl) ?_
     exact AO.nE (d := 4) rfl ⟨⟨_, rfl, rfl⟩, Sub.refl _⟩
   ·refine AW.block ?_
    refine AW.wK [1, 3, 4] ?_
    refine AW.loop (fun kq ρ H => ∃ (x7 : (List Int)) (x8 : Int), ρ = [(1, (.ptr n2 0)), (3, (.fz 1 (x7.map eI64))), (4, (eI64 x8))] ∧ H = [(n2, (.mem (e30 p0)))] ∧ mini_Blocks_l0 k p0 kq x7 x8 = some r) k ⟨t6.1, t6.2, rfl, rfl, h⟩ ?_
    rintro kq10 _ _ ⟨x7, x8, rfl, rfl, h⟩
    cases kq10 with
    | zero => rw [mini_Blocks_l0.eq_1] at h; cases h
    | succ kq10 =>
    rw [mini_Blocks_l0.eq_2] at h
    generalize hrec9 : mini_Blocks_l0 k p0 kq10 = rec9 at h
    refine AW.block ?_
    refine AW.sr ?_
    refine AO.c (Calm.load 0 rfl rfl rfl (At.cast At.here rfl) ag30 sz30) ?_
    refine AO.c (Calm.move rfl rfl) ?_
    obtain ⟨t11, et11, h⟩ := of_bind h
    refine AO.callS [(e30 p0), (.fz 1 (x7.map eI64))] (.tup [(.fz 1 (t11.1.map eI64)), (eI64 t11.2)]) 20 rfl (by decide) ok68 rfl rfl rfl ⟨rfl, rfl, rfl, rfl, trivial⟩ (mini_split_spec et11) ?_
    refine AO.c (Calm.move rfl rfl) ?_
    refine AO.c (Calm.extract rfl rfl rfl) ?_
    refine AO.c (Calm.extract rfl rfl rfl) ?_
    refine AO.c (Calm.assign rfl rfl) ?_
    refine AO.c (Calm.assign rfl rfl) ?_
    refine AO.nK [1, 4, 5, 6] ?_
    refine AW.sr ?_
    refine AO.c (Calm.move rfl rfl) ?_
    refine AO.c (Calm.assign rfl rfl) ?_
    refine AO.nK [1, 3, 4, 6] ?_
    refine AW.seq ?_
    refine AW.sr ?_
    refine AO.c (Calm.move rfl rfl) ?_
    refine AO.c (Calm.move rfl rfl) ?_
    refine AO.c (x := eBool (decide (t11.2 = x8))) (Calm.int rfl rfl rfl rfl) ?_
    refine AO.nK [1, 3, 6, 26] ?_
    rcases of_ite h with ⟨hc12, h⟩ | ⟨hc12, h⟩
    ·refine AW.condP _ rfl hc12 ?_
     refine AW.sr ?_
     refine AO.c (Calm.move rfl rfl) ?_
     refine AO.c (x := .ptr n2 256) (Calm.fldPtr rfl rfl Try.underlying30 rfl sz28 _ rfl) ?_
     refine AO.c (Calm.load 0 rfl rfl rfl (At.cast (At.fldS (At.fld0 At.here)) rfl) ag28 sz28) ?_
     refine AO.c (Calm.lenL rfl rfl Try.underlying28) ?_
     obtain ⟨hg13, h⟩ := of_guard h
     refine AO.c (x := .fz 1 ((lcut t11.1 (0 : Int) (p0.f1.length : Int)).map eI64)) (Calm.sliceL rfl rfl rfl rfl hg13 Try.underlying25 sz3) ?_
     refine AO.c (Calm.assign rfl rfl) ?_
     refine AO.nH [2] (H' := []) (Sub.nil _) ?_
     refine AW.rK [2] ?_
     have hr := Option.some.inj h
     subst hr
     exact ⟨[(.fz 1 ((lcut t11.1 (0 : Int) (p0.f1.length : Int)).map eI64))], ⟨rfl, rfl, trivial⟩, rfl⟩
    ·refine AW.condN _ rfl hc12 ?_
     refine AW.sK [1, 3, 6] ?_
     refine AW.reg ?_
     refine AO.c (Calm.move rfl rfl) ?_
     refine AO.c (Calm.assign rfl rfl) ?_
     refine AO.nK [1, 3, 4] ?_
     exact ⟨kq10, Nat.lt_succ_self _, t11.1, t11.2, rfl, rfl, by rw [hrec9]; exact h⟩
end Go.Avl.T5
/- bosket/mini.column; printed by avmain.py. -/
namespace Go.Avl.T5
open Go Go.RowKit Go.Proofs Go.Avl
set_option linter.unusedVariables false
set_option maxRecDepth 100000
set_option maxHeartbeats 4000000
attribute [local irreducible] AW AO AQ Spec SpecH Calm

def mini_column_c0 (k : Nat) (x4 : ByteArray) : Option ByteArray :=
  some (x4)
def mini_column_l1 (k : Nat) (p0 : S30) (p1 : Int) : Nat → ByteArray → Int → Option ByteArray
  | 0, _, _ => none
  | j + 1, x5, x6 =>
    if x6 < (p0.f1.length : Int) then if 0 ≤ x6 ∧ x6 < (p0.f1.length : Int) then if 0 ≤ p1 ∧ p1 < ((lget p0.f1 x6).length : Int) then (mini_word k (w64 ((lget (lget p0.f1 x6) p1) + (1 : Int)))).bind fun t12 =>
    if x5.size + t12.size ≤ 9223372036854775807 then (mini_column_l1 k p0 p1 j) (x5 ++ t12) (w64 (x6 + (1 : Int)))
    else none
    else none
    else none
    else mini_column_c0 k x5
def mini_column (k : Nat) (p0 : S30) (p1 : Int) : Option ByteArray :=
  mini_column_l1 k p0 p1 k (ByteArray.mk #[]) (0 : Int)
theorem mini_column_spec {k : Nat} {p0 : S30} {p1 : Int} {r : ByteArray} (h : mini_column k p0 p1 = some r) : Spec Try.prog 94 [(e30 p0), (eI64 p1)] (eStr r) := by
  rw [mini_column.eq_1] at h
  refine Spec.intro (res := [.tmp 4]) Try.func94 rfl rfl rfl (Nat.le_of_ble_eq_true rfl) ?_
  refine AW.sr ?_
  refine AO.box rfl 2 rfl (by decide) rfl rfl rfl fun n3 => ?_
  refine AO.c (Calm.assign rfl rfl) ?_
  refine AO.nK [1, 2] ?_
  refine AW.sr ?_
  refine AO.c (Calm.assign rfl rfl) ?_
  refine AO.nK [1, 2, 5] ?_
  refine AW.seq_mid (fun ρ H => ∃ (x4 : ByteArray), ρ = [(5, (eStr x4))] ∧ H = [] ∧ mini_column_c0 k x4 = some r) ?_ ?_
  ·refine AW.sr ?_
   refine AO.c (x := .ptr n3 256) (Calm.fldPtr rfl rfl Try.underlying30 rfl sz28 _ rfl) ?_
   refine AO.c (Calm.load 0 rfl rfl rfl (At.cast (At.fldS (At.fld0 At.here)) rfl) ag28 sz28) ?_
   refine AO.c (Calm.lenL rfl rfl Try.underlying28) ?_
   refine AO.c (Calm.move rfl rfl) ?_
   refine AO.nH [1, 5, 9, 10, 11] (H' := []) (Sub.nil _) ?_
   refine AW.block ?_
   refine AW.wK [1, 5, 9, 10, 11] ?_
   refine AW.loop (fun kq ρ H => ∃ (x5 : ByteArray) (x6 : Int), ρ = [(1, (eI64 p1)), (5, (eStr x5)), (9, (.fz 1 (p0.f1.map e25))), (10, (eI64 (p0.f1.length : Int))), (11, (eI64 x6))] ∧ H = [] ∧ mini_column_l1 k p0 p1 kq x5 x6 = some r) k ⟨(ByteArray.mk #[]), (0 : Int), rfl, rfl, h⟩ ?_
   rintro kq8 _ _ ⟨x5, x6, rfl, rfl, h⟩
   cases kq8 with
   | zero => rw [mini_column_l1.eq_1] at h; cases h
   | succ kq8 =>
   rw [mini_column_l1.eq_2] at h
   generalize hrec7 : mini_column_l1 k p0 p1 kq8 = rec7 at h
   refine AW.sr ?_
   refine AO.c (x := eBool (decide (x6 < (p0.f1.length : Int)))) (Calm.int rfl rfl rfl rfl) ?_
   refine AO.nK [1, 5, 9, 10, 11, 12] ?_
   refine AW.seq ?_
   rcases of_ite h with ⟨hc9, h⟩ | ⟨hc9, h⟩
   ·refine AW.condP _ rfl hc9 ?_
    refine AW.sK [1, 5, 9, 10, 11] ?_
    refine AW.seq ?_
    refine AW.block ?_
    refine AW.sr ?_
    obtain ⟨hg10, h⟩ := of_guard h
    refine AO.c (Calm.idxL (f := e25) rfl rfl rfl hg10 Try.underlying28 sz25) ?_
    refine AO.c (Calm.loadRp rfl rfl ag25 sz25) ?_
    refine AO.c (Calm.assign rfl rfl) ?_
    refine AO.nK [1, 5, 7, 9, 10, 11] ?_
    refine AW.reg ?_
    refine AO.c (Calm.move rfl rfl) ?_
    refine AO.c (Calm.move rfl rfl) ?_
    refine AO.c (Calm.move rfl rfl) ?_
    obtain ⟨hg11, h⟩ := of_guard h
    refine AO.c (Calm.idxL (f := eI64) rfl rfl rfl hg11 Try.underlying25 sz3) ?_
    refine AO.c (Calm.loadRp rfl rfl ag3 sz3) ?_
    refine AO.c (x := eI64 (w64 ((lget (lget p0.f1 x6) p1) + (1 : Int)))) (Calm.int rfl rfl rfl rfl) ?_
    obtain ⟨t12, et12, h⟩ := of_bind h
    refine AO.callS [(eI64 (w64 ((lget (lget p0.f1 x6) p1) + (1 : Int))))] (eStr t12) 21 rfl (by decide) ok103 rfl rfl rfl ⟨rfl, rfl, trivial⟩ (mini_word_spec et12) ?_
    obtain ⟨hg13, h⟩ := of_guard h
    refine AO.c (x := eStr (x5 ++ t12)) (Calm.cat rfl rfl rfl hg13) ?_
    refine AO.c (Calm.assign rfl rfl) ?_
    refine AO.nK [1, 5, 9, 10, 11] ?_
    refine AW.reg ?_
    refine AO.c (x := eI64 (w64 (x6 + (1 : Int)))) (Calm.int rfl rfl rfl rfl) ?_
    refine AO.c (Calm.move rfl rfl) ?_
    refine AO.nK [1, 5, 9, 10, 11] ?_
    exact ⟨kq8, Nat.lt_succ_self _, (x5 ++ t12), (w64 (x6 + (1 : Int))), rfl, rfl, by rw [hrec7]; exact h⟩
   ·refine AW.condN _ rfl hc9 ?_
    refine AW.eK [5] ?_
    exact ⟨x5, rfl, rfl, h⟩
  ·rintro _ _ ⟨x4, rfl, rfl, h⟩
   rw [mini_column_c0.eq_1] at h
   refine AW.sr ?_
   refine AO.c (Calm.move rfl rfl) ?_
   refine AO.c (Calm.assign rfl rfl) ?_
   refine AO.nK [4] ?_
   refine AW.rK [4] ?_
   have hr := Option.some.inj h
   subst hr
   exact ⟨[(eStr x4)], ⟨rfl, rfl, trivial⟩, rfl⟩
end Go.Avl.T5
