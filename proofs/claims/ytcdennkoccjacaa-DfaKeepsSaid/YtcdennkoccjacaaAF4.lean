/- Parts: T3f25, T3f61, T3f39, T3f47, T3f24, T3f21, T3f5. -/
import Derived.Test.YtcdennkoccjacaaAF1
import Derived.Test.YtcdennkoccjacaaAF2
import Derived.Test.YtcdennkoccjacaaAF3
/- bosket/dfa.Order; printed by avmain.py. -/
namespace Go.Avl.T3
open Go Go.RowKit Go.Proofs Go.Avl
set_option linter.unusedVariables false
set_option maxRecDepth 100000
set_option maxHeartbeats 4000000
set_option linter.unusedSimpArgs false
attribute [local irreducible] AW AO AQ Spec SpecH Calm

def dfa_Order_c0 (k : Nat) (p0 : S50) (x12 : (List (List Int))) (x14 : (List Int)) : Option S50 :=
  some ((S50.mk p0.f0 x12 x14))
def dfa_Order_c1 (k : Nat) (rec23 : ((List Int) → (List (List Int)) → (List Int) → (List Int) → Int → Option S50)) (x22 : Int) (x26 : (List Int)) (x28 : (List (List Int))) (x30 : (List Int)) (x32 : (List Int)) : Option S50 :=
  rec23 x26 x28 x30 x32 (w64 (x22 + (1 : Int)))
def dfa_Order_c2 (k : Nat) (rec23 : ((List Int) → (List (List Int)) → (List Int) → (List Int) → Int → Option S50)) (p0 : S50) (x17 : (List (List Int))) (x19 : (List Int)) (x22 : Int) (x37 : (List Int)) (x39 : (List Int)) (x41 : (List Int)) : Option S50 :=
  if (x17 ++ ([x41] : List (List Int))).length * 24 ≤ 140737488355328 then if 0 ≤ x22 ∧ x22 < (x39.length : Int) then if 0 ≤ (lget x39 x22) ∧ (lget x39 x22) < (p0.f2.length : Int) then if (x19 ++ ([(lget p0.f2 (lget x39 x22))] : List Int)).length * 8 ≤ 140737488355328 then dfa_Order_c1 k rec23 x22 x37 (x17 ++ ([x41] : List (List Int))) (x19 ++ ([(lget p0.f2 (lget x39 x22))] : List Int)) x39
  else none
  else none
  else none
  else none
def dfa_Order_c3 (k : Nat) (rec58 : ((List Int) → (List Int) → (List Int) → Int → Option S50)) (x56 : (List Int)) (x57 : Int) (x62 : (List Int)) (x64 : (List Int)) (x65 : Int) : Option S50 :=
  if (x56 ++ ([x65] : List Int)).length * 8 ≤ 140737488355328 then rec58 x62 x64 (x56 ++ ([x65] : List Int)) (w64 (x57 + (1 : Int)))
  else none
def dfa_Order_c4 (k : Nat) (rec58 : ((List Int) → (List Int) → (List Int) → Int → Option S50)) (p0 : S50) (x21 : (List Int)) (x22 : Int) (x56 : (List Int)) (x57 : Int) (x62 : (List Int)) (x64 : (List Int)) : Option S50 :=
  if (0 : Int) ≤ (lget (lget p0.f1 (lget x21 x22)) x57) then if 0 ≤ (lget (lget p0.f1 (lget x21 x22)) x57) ∧ (lget (lget p0.f1 (lget x21 x22)) x57) < (x62.length : Int) then dfa_Order_c3 k rec58 x56 x57 x62 x64 (lget x62 (lget (lget p0.f1 (lget x21 x22)) x57))
  else none
  else dfa_Order_c3 k rec58 x56 x57 x62 x64 (lget (lget p0.f1 (lget x21 x22)) x57)
def dfa_Order_l5 (k : Nat) (rec23 : ((List Int) → (List (List Int)) → (List Int) → (List Int) → Int → Option S50)) (p0 : S50) (x17 : (List (List Int))) (x19 : (List Int)) (x21 : (List Int)) (x22 : Int) : Nat → (List Int) → (List Int) → (List Int) → Int → Option S50
  | 0, _, _, _, _ => none
  | j + 1, x52, x54, x56, x57 =>
    if x57 < ((lget p0.f1 (lget x21 x22)).length : Int) then if 0 ≤ x57 ∧ x57 < ((lget p0.f1 (lget x21 x22)).length : Int) then Option.bind (α := Bool) (if (0 : Int) ≤ (lget (lget p0.f1 (lget x21 x22)) x57) then if 0 ≤ (lget (lget p0.f1 (lget x21 x22)) x57) ∧ (lget (lget p0.f1 (lget x21 x22)) x57) < (x52.length : Int) then some (decide ((lget x52 (lget (lget p0.f1 (lget x21 x22)) x57)) = (-1 : Int)))
    else none
    else some (false)) fun b71 =>
    if b71 = true then if 0 ≤ (lget (lget p0.f1 (lget x21 x22)) x57) ∧ (lget (lget p0.f1 (lget x21 x22)) x57) < (x52.length : Int) then if (x54 ++ ([(lget (lget p0.f1 (lget x21 x22)) x57)] : List Int)).length * 8 ≤ 140737488355328 then dfa_Order_c4 k (dfa_Order_l5 k rec23 p0 x17 x19 x21 x22 j) p0 x21 x22 x56 x57 (lset x52 (lget (lget p0.f1 (lget x21 x22)) x57) (x54.length : Int)) (x54 ++ ([(lget (lget p0.f1 (lget x21 x22)) x57)] : List Int))
    else none
    else none
    else dfa_Order_c4 k (dfa_Order_l5 k rec23 p0 x17 x19 x21 x22 j) p0 x21 x22 x56 x57 x52 x54
    else none
    else dfa_Order_c2 k rec23 p0 x17 x19 x22 x52 x54 x56
def dfa_Order_l6 (k : Nat) (p0 : S50) : Nat → (List Int) → (List (List Int)) → (List Int) → (List Int) → Int → Option S50
  | 0, _, _, _, _, _ => none
  | j + 1, x15, x17, x19, x21, x22 =>
    if x22 < (x21.length : Int) then if 0 ≤ x22 ∧ x22 < (x21.length : Int) then if 0 ≤ (lget x21 x22) ∧ (lget x21 x22) < (p0.f1.length : Int) then if 0 ≤ ((lget p0.f1 (lget x21 x22)).length : Int) ∧ ((lget p0.f1 (lget x21 x22)).length : Int) * (8 : Int) ≤ 140737488355328 ∧ ((lget p0.f1 (lget x21 x22)).length : Int) ≤ 9223372036854775807 then if 0 ≤ x22 ∧ x22 < (x21.length : Int) then if 0 ≤ (lget x21 x22) ∧ (lget x21 x22) < (p0.f1.length : Int) then dfa_Order_l5 k (dfa_Order_l6 k p0 j) p0 x17 x19 x21 x22 k x15 x21 ([] : List Int) (0 : Int)
    else none
    else none
    else none
    else none
    else none
    else dfa_Order_c0 k p0 x17 x19
def dfa_Order_c7 (k : Nat) (p0 : S50) (x6 : (List Int)) : Option S50 :=
  if (p0.f1.length : Int) = (0 : Int) then some ((S50.mk p0.f0 ([] : List (List Int)) ([] : List Int)))
  else if 0 ≤ (0 : Int) ∧ (0 : Int) < (x6.length : Int) then dfa_Order_l6 k p0 k (lset x6 (0 : Int) (0 : Int)) ([] : List (List Int)) ([] : List Int) ([(0 : Int)] : List Int) (0 : Int)
  else none
def dfa_Order_l8 (k : Nat) (p0 : S50) : Nat → (List Int) → Int → Option S50
  | 0, _, _ => none
  | j + 1, x82, x83 =>
    if x83 < ((List.replicate (p0.f1.length : Int).toNat (0 : Int)).length : Int) then if 0 ≤ x83 ∧ x83 < (x82.length : Int) then (dfa_Order_l8 k p0 j) (lset x82 x83 (-1 : Int)) (w64 (x83 + (1 : Int)))
    else none
    else dfa_Order_c7 k p0 x82
def dfa_Order (k : Nat) (p0 : S50) : Option S50 :=
  if 0 ≤ (p0.f1.length : Int) ∧ (p0.f1.length : Int) * (8 : Int) ≤ 140737488355328 ∧ (p0.f1.length : Int) ≤ 9223372036854775807 then dfa_Order_l8 k p0 k (List.replicate (p0.f1.length : Int).toNat (0 : Int)) (0 : Int)
  else none
theorem dfa_Order_spec {k : Nat} {p0 : S50} {r : S50} (h : dfa_Order k p0 = some r) : Spec Try.prog 25 [(e50 p0)] (e50 r) := by
  rw [dfa_Order.eq_1] at h
  refine Spec.intro (res := [.cell 2 50]) Try.func25 rfl rfl rfl (Nat.le_of_ble_eq_true rfl) ?_
  refine AW.sr ?_
  refine AO.box rfl 1 rfl (by decide) rfl rfl rfl fun n2 => ?_
  refine AO.alloc rfl 2 rfl (by decide) rfl zr50 lay50 fun n3 => ?_
  refine AO.nH [1, 2] (H' := [(n2, (.mem (e50 p0))), (n3, (.mem (.st [(256, (.ar 1 ((Vector.replicate 256 (0 : Int)).toList.map eU8))), (1, (.fl (.slice none 0 0))), (1, (.fl (.slice none 0 0)))])))]) (Sub.cons 1 rfl (Sub.cons 0 rfl (Sub.nil _))) ?_
  refine AW.sr ?_
  refine AO.c (x := .ptr n2 256) (Calm.fldPtr rfl rfl Try.underlying50 rfl sz48 _ rfl) ?_
  refine AO.c (Calm.load 0 rfl rfl rfl (At.cast (At.fldS (At.fld0 At.here)) rfl) ag48 sz48) ?_
  refine AO.c (Calm.lenL rfl rfl Try.underlying48) ?_
  obtain ⟨hg5, h⟩ := of_guard h
  refine AO.makeL (f := eI64) (0 : Int) rfl 14 rfl (by decide) rfl rfl rfl Try.underlying43 sz3 by3 zr3 lay3 rfl hg5 fun n4 => ?_
  refine AO.c (Calm.assign rfl rfl) ?_
  refine AO.nH [1, 2, 3] (H' := [(n2, (.mem (e50 p0))), (n3, (.mem (.st [(256, (.ar 1 ((Vector.replicate 256 (0 : Int)).toList.map eU8))), (1, (.fl (.slice none 0 0))), (1, (.fl (.slice none 0 0)))]))), (n4, (.mem (.ar 1 ((List.replicate (p0.f1.length : Int).toNat (0 : Int)).map eI64))))]) (Sub.cons 1 rfl (Sub.cons 1 rfl (Sub.cons 0 rfl (Sub.nil _)))) ?_
  refine AW.seq_mid (fun ρ H => ∃ (x6 : (List Int)), ρ = [(1, (.ptr n2 0)), (2, (.ptr n3 0)), (3, (.own n4 0 x6.length))] ∧ H = [(n2, (.mem (e50 p0))), (n3, (.mem (.st [(256, (.ar 1 ((Vector.replicate 256 (0 : Int)).toList.map eU8))), (1, (.fl (.slice none 0 0))), (1, (.fl (.slice none 0 0)))]))), (n4, (.mem (.ar 1 (x6.map eI64))))] ∧ dfa_Order_c7 k p0 x6 = some r) ?_ ?_
  ·refine AW.sr ?_
   refine AO.c (Calm.move rfl rfl) ?_
   refine AO.c (Calm.lenOwn rfl rfl Try.underlying43) ?_
   refine AO.c (Calm.move rfl rfl) ?_
   refine AO.nK [1, 2, 3, 16, 17] ?_
   refine AW.block ?_
   refine AW.wK [1, 2, 3, 16, 17] ?_
   refine AW.loop (fun kq ρ H => ∃ (x82 : (List Int)) (x83 : Int), ρ = [(1, (.ptr n2 0)), (2, (.ptr n3 0)), (3, (.own n4 0 x82.length)), (16, (eI64 ((List.replicate (p0.f1.length : Int).toNat (0 : Int)).length : Int))), (17, (eI64 x83))] ∧ H = [(n2, (.mem (e50 p0))), (n3, (.mem (.st [(256, (.ar 1 ((Vector.replicate 256 (0 : Int)).toList.map eU8))), (1, (.fl (.slice none 0 0))), (1, (.fl (.slice none 0 0)))]))), (n4, (.mem (.ar 1 (x82.map eI64))))] ∧ dfa_Order_l8 k p0 kq x82 x83 = some r) k ⟨(List.replicate (p0.f1.length : Int).toNat (0 : Int)), (0 : Int), rfl, rfl, h⟩ ?_
   rintro kq85 _ _ ⟨x82, x83, rfl, rfl, h⟩
   cases kq85 with
   | zero => rw [dfa_Order_l8.eq_1] at h; cases h
   | succ kq85 =>
   rw [dfa_Order_l8.eq_2] at h
   generalize hrec84 : dfa_Order_l8 k p0 kq85 = rec84 at h
   refine AW.sr ?_
   refine AO.c (x := eBool (decide (x83 < ((List.replicate (p0.f1.length : Int).toNat (0 : Int)).length : Int)))) (Calm.int rfl rfl rfl rfl) ?_
   refine AO.nK [1, 2, 3, 16, 17, 18] ?_
   refine AW.seq ?_
   rcases of_ite h with ⟨hc86, h⟩ | ⟨hc86, h⟩
   ·refine AW.condP _ rfl hc86 ?_
    refine AW.sK [1, 2, 3, 16, 17] ?_
    refine AW.seq ?_
    refine AW.block ?_
    refine AW.sr ?_
    refine AO.c (Calm.move rfl rfl) ?_
    refine AO.c (Calm.assign rfl rfl) ?_
    refine AO.nK [1, 2, 3, 4, 16, 17] ?_
    refine AW.reg ?_
    refine AO.c (Calm.move rfl rfl) ?_
    refine AO.c (Calm.move rfl rfl) ?_
    obtain ⟨hg87, h⟩ := of_guard h
    refine AO.c (Calm.idxO 2 rfl rfl rfl rfl hg87 Try.underlying43 sz3) ?_
    refine AO.store (X' := (.ar 1 ((lset x82 x83 (-1 : Int)).map eI64))) 2 rfl rfl rfl rfl rfl rfl (Put.cast (Put.lidx x83 (-1 : Int) hg87.1 hg87.2 Put.here) (by omega)) rfl rfl sz3 rfl ?_
    refine AO.coe 3 (y' := (.own n4 0 (lset x82 x83 (-1 : Int)).length)) rfl (fun _ _ h => lset_own h) ?_
    refine AO.coe 20 (y' := (.own n4 0 (lset x82 x83 (-1 : Int)).length)) rfl (fun _ _ h => lset_own h) ?_
    refine AO.nK [1, 2, 3, 16, 17] ?_
    refine AW.reg ?_
    refine AO.c (x := eI64 (w64 (x83 + (1 : Int)))) (Calm.int rfl rfl rfl rfl) ?_
    refine AO.c (Calm.move rfl rfl) ?_
    refine AO.nK [1, 2, 3, 16, 17] ?_
    exact ⟨kq85, Nat.lt_succ_self _, (lset x82 x83 (-1 : Int)), (w64 (x83 + (1 : Int))), rfl, rfl, by rw [hrec84]; exact h⟩
   ·refine AW.condN _ rfl hc86 ?_
    refine AW.eK [1, 2, 3] ?_
    exact ⟨x82, rfl, rfl, h⟩
  ·rintro _ _ ⟨x6, rfl, rfl, h⟩
   rw [dfa_Order_c7.eq_1] at h
   refine AW.sr ?_
   refine AO.c (x := .ptr n2 0) (Calm.fldPtr rfl rfl Try.underlying50 rfl sz47 _ rfl) ?_
   refine AO.c (Calm.load 0 rfl rfl rfl (At.cast (At.fld0 At.here) rfl) ag47 (by rw [sz47]; simp [AV.size])) ?_
   refine AO.c (x := .st [(256, (.ar 1 (p0.f0.toList.map eU8))), (1, (.fl (.slice none 0 0))), (1, (.fl (.slice none 0 0)))]) (Calm.build (qs := [(0, (.ar 1 (p0.f0.toList.map eU8)))]) rfl ⟨rfl, rfl, rfl, trivial⟩ Try.underlying50 rfl zr50 lay50 (.cons rfl rfl (vec_size _ _) (vec_size _ _) (Put.cast (Put.fld0 Put.here) rfl) .nil) rfl) ?_
   refine AO.alloc rfl 5 rfl (by decide) rfl zr50 lay50 fun n7 => ?_
   refine AO.store (X' := (.st [(256, (.ar 1 (p0.f0.toList.map eU8))), (1, (.fl (.slice none 0 0))), (1, (.fl (.slice none 0 0)))])) 0 rfl rfl rfl rfl rfl rfl (Put.cast Put.here rfl) rfl rfl sz50 rfl ?_
   refine AO.nH [1, 2, 3, 5] (H' := [(n2, (.mem (e50 p0))), (n3, (.mem (.st [(256, (.ar 1 ((Vector.replicate 256 (0 : Int)).toList.map eU8))), (1, (.fl (.slice none 0 0))), (1, (.fl (.slice none 0 0)))]))), (n4, (.mem (.ar 1 (x6.map eI64)))), (n7, (.mem (.st [(256, (.ar 1 (p0.f0.toList.map eU8))), (1, (.fl (.slice none 0 0))), (1, (.fl (.slice none 0 0)))])))]) (Sub.cons 1 rfl (Sub.cons 1 rfl (Sub.cons 1 rfl (Sub.cons 0 rfl (Sub.nil _))))) ?_
   refine AW.seq ?_
   refine AW.sr ?_
   refine AO.c (x := .ptr n2 256) (Calm.fldPtr rfl rfl Try.underlying50 rfl sz48 _ rfl) ?_
   refine AO.c (Calm.load 0 rfl rfl rfl (At.cast (At.fldS (At.fld0 At.here)) rfl) ag48 sz48) ?_
   refine AO.c (Calm.lenL rfl rfl Try.underlying48) ?_
   refine AO.c (x := eBool (decide ((p0.f1.length : Int) = (0 : Int)))) (Calm.int rfl rfl rfl rfl) ?_
   refine AO.nK [1, 2, 3, 5, 30] ?_
   rcases of_ite h with ⟨hc8, h⟩ | ⟨hc8, h⟩
   ·refine AW.condP _ rfl hc8 ?_
    refine AW.sr ?_
    refine AO.c (Calm.load 3 rfl rfl rfl (At.cast At.here rfl) ag50 sz50) ?_
    refine AO.store (X' := (.st [(256, (.ar 1 (p0.f0.toList.map eU8))), (1, (.fl (.slice none 0 0))), (1, (.fl (.slice none 0 0)))])) 1 rfl rfl rfl rfl rfl rfl (Put.cast Put.here rfl) rfl rfl sz50 rfl ?_
    refine AO.nH [2] (H' := [(n3, (.mem (.st [(256, (.ar 1 (p0.f0.toList.map eU8))), (1, (.fl (.slice none 0 0))), (1, (.fl (.slice none 0 0)))])))]) (Sub.cons 1 rfl (Sub.nil _)) ?_
    refine AW.coeFld (X' := (.st [(256, (.ar 1 (p0.f0.toList.map eU8))), (1, (.fz 1 (([] : List (List Int)).map e43))), (1, (.fl (.slice none 0 0)))])) 0 rfl (Put.cast (Put.fldS (Put.fld0 Put.here)) rfl) rfl (nil_fz 1) rfl rfl ?_
    refine AW.coeFld (X' := (.st [(256, (.ar 1 (p0.f0.toList.map eU8))), (1, (.fz 1 (([] : List (List Int)).map e43))), (1, (.fz 1 (([] : List Int).map eI64)))])) 0 rfl (Put.cast (Put.fldS (Put.fldS (Put.fld0 Put.here))) rfl) rfl (nil_fz 1) rfl rfl ?_
    refine AW.rK [2] ?_
    have hr := Option.some.inj h
    subst hr
    exact ⟨[(e50 (S50.mk p0.f0 ([] : List (List Int)) ([] : List Int)))], ⟨⟨_, 0, rfl, rfl, ag50, sz50⟩, trivial⟩, rfl⟩
   ·refine AW.condN _ rfl hc8 ?_
    refine AW.sK [1, 2, 3, 5] ?_
    refine AW.sr ?_
    refine AO.lit (Z := (eI64 (0 : Int))) (xs := (([(0 : Int)] : List Int).map eI64)) (qs := [(0, (eI64 (0 : Int)))]) rfl 32 rfl (by decide) rfl ⟨rfl, rfl, rfl, trivial⟩ Try.underlying43 sz3 zr3 lay3 rfl (by decide) (litOK (z := 1) [(eI64 (0 : Int))] rfl ⟨⟨rfl, rfl⟩, trivial⟩) rfl fun n9 => ?_
    refine AO.c (Calm.assign rfl rfl) ?_
    refine AO.nH [1, 2, 3, 5, 6] (H' := [(n2, (.mem (e50 p0))), (n3, (.mem (.st [(256, (.ar 1 ((Vector.replicate 256 (0 : Int)).toList.map eU8))), (1, (.fl (.slice none 0 0))), (1, (.fl (.slice none 0 0)))]))), (n4, (.mem (.ar 1 (x6.map eI64)))), (n7, (.mem (.st [(256, (.ar 1 (p0.f0.toList.map eU8))), (1, (.fl (.slice none 0 0))), (1, (.fl (.slice none 0 0)))]))), (n9, (.mem (.ar 1 (([(0 : Int)] : List Int).map eI64))))]) (Sub.cons 1 rfl (Sub.cons 1 rfl (Sub.cons 1 rfl (Sub.cons 1 rfl (Sub.cons 0 rfl (Sub.nil _)))))) ?_
    refine AW.sr ?_
    refine AO.c (Calm.move rfl rfl) ?_
    obtain ⟨hg10, h⟩ := of_guard h
    refine AO.c (Calm.idxO 2 rfl rfl rfl rfl hg10 Try.underlying43 sz3) ?_
    refine AO.store (X' := (.ar 1 ((lset x6 (0 : Int) (0 : Int)).map eI64))) 2 rfl rfl rfl rfl rfl rfl (Put.cast (Put.lidx (0 : Int) (0 : Int) hg10.1 hg10.2 Put.here) (by omega)) rfl rfl sz3 rfl ?_
    refine AO.coe 3 (y' := (.own n4 0 (lset x6 (0 : Int) (0 : Int)).length)) rfl (fun _ _ h => lset_own h) ?_
    refine AO.coe 33 (y' := (.own n4 0 (lset x6 (0 : Int) (0 : Int)).length)) rfl (fun _ _ h => lset_own h) ?_
    refine AO.nK [1, 2, 3, 5, 6] ?_
    refine AW.seq_mid (fun ρ H => ∃ (n11 : Nat) (n13 : Nat) (x12 : (List (List Int))) (x14 : (List Int)), ρ = [(2, (.ptr n3 0)), (5, (.ptr n7 0))] ∧ H = [(n3, (.mem (.st [(256, (.ar 1 ((Vector.replicate 256 (0 : Int)).toList.map eU8))), (1, (.fl (.slice none 0 0))), (1, (.fl (.slice none 0 0)))]))), (n7, (.mem (.st [(256, (.ar 1 (p0.f0.toList.map eU8))), (1, (.own n11 0 x12.length)), (1, (.own n13 0 x14.length))]))), (n11, (.mem (.ar 1 (x12.map e43)))), (n13, (.mem (.ar 1 (x14.map eI64))))] ∧ dfa_Order_c0 k p0 x12 x14 = some r) ?_ ?_
    ·refine AW.sr ?_
     refine AO.c (Calm.assign rfl rfl) ?_
     refine AO.nK [1, 2, 3, 5, 6, 7] ?_
     refine AW.block ?_
     refine AW.nilOwnFld 3 1 (fun n80 => (.st [(256, (.ar 1 (p0.f0.toList.map eU8))), (1, (.own n80 0 0)), (1, (.fl (.slice none 0 0)))])) rfl (fun _ => (Put.cast (Put.fldS (Put.fld0 Put.here)) rfl)) (fun _ => rfl) (fun _ => rfl) fun n80 => ?_
     refine AW.nilOwnFld 4 1 (fun n81 => (.st [(256, (.ar 1 (p0.f0.toList.map eU8))), (1, (.own n80 0 ([] : List (List Int)).length)), (1, (.own n81 0 0))])) rfl (fun _ => (Put.cast (Put.fldS (Put.fldS (Put.fld0 Put.here))) rfl)) (fun _ => rfl) (fun _ => rfl) fun n81 => ?_
     refine AW.wH [1, 2, 3, 5, 6, 7] (H' := [(n2, (.mem (e50 p0))), (n3, (.mem (.st [(256, (.ar 1 ((Vector.replicate 256 (0 : Int)).toList.map eU8))), (1, (.fl (.slice none 0 0))), (1, (.fl (.slice none 0 0)))]))), (n4, (.mem (.ar 1 ((lset x6 (0 : Int) (0 : Int)).map eI64)))), (n7, (.mem (.st [(256, (.ar 1 (p0.f0.toList.map eU8))), (1, (.own n80 0 ([] : List (List Int)).length)), (1, (.own n81 0 ([] : List Int).length))]))), (n80, (.mem (.ar 1 (([] : List (List Int)).map e43)))), (n81, (.mem (.ar 1 (([] : List Int).map eI64)))), (n9, (.mem (.ar 1 (([(0 : Int)] : List Int).map eI64))))]) (Sub.cons 2 rfl (Sub.cons 2 rfl (Sub.cons 2 rfl (Sub.cons 2 rfl (Sub.cons 1 rfl (Sub.cons 0 rfl (Sub.cons 0 rfl (Sub.nil _)))))))) ?_
     refine AW.loop (fun kq ρ H => ∃ (n16 : Nat) (n18 : Nat) (n20 : Nat) (x15 : (List Int)) (x17 : (List (List Int))) (x19 : (List Int)) (x21 : (List Int)) (x22 : Int), ρ = [(1, (.ptr n2 0)), (2, (.ptr n3 0)), (3, (.own n4 0 x15.length)), (5, (.ptr n7 0)), (6, (.own n20 0 x21.length)), (7, (eI64 x22))] ∧ H = [(n2, (.mem (e50 p0))), (n3, (.mem (.st [(256, (.ar 1 ((Vector.replicate 256 (0 : Int)).toList.map eU8))), (1, (.fl (.slice none 0 0))), (1, (.fl (.slice none 0 0)))]))), (n4, (.mem (.ar 1 (x15.map eI64)))), (n7, (.mem (.st [(256, (.ar 1 (p0.f0.toList.map eU8))), (1, (.own n16 0 x17.length)), (1, (.own n18 0 x19.length))]))), (n16, (.mem (.ar 1 (x17.map e43)))), (n18, (.mem (.ar 1 (x19.map eI64)))), (n20, (.mem (.ar 1 (x21.map eI64))))] ∧ dfa_Order_l6 k p0 kq x15 x17 x19 x21 x22 = some r) k ⟨n80, n81, n9, (lset x6 (0 : Int) (0 : Int)), ([] : List (List Int)), ([] : List Int), ([(0 : Int)] : List Int), (0 : Int), rfl, rfl, h⟩ ?_
     rintro kq24 _ _ ⟨n16, n18, n20, x15, x17, x19, x21, x22, rfl, rfl, h⟩
     cases kq24 with
     | zero => rw [dfa_Order_l6.eq_1] at h; cases h
     | succ kq24 =>
     rw [dfa_Order_l6.eq_2] at h
     generalize hrec23 : dfa_Order_l6 k p0 kq24 = rec23 at h
     refine AW.seq ?_
     refine AW.sr ?_
     refine AO.c (Calm.move rfl rfl) ?_
     refine AO.c (Calm.move rfl rfl) ?_
     refine AO.c (Calm.lenOwn rfl rfl Try.underlying43) ?_
     refine AO.c (x := eBool (decide (x22 < (x21.length : Int)))) (Calm.int rfl rfl rfl rfl) ?_
     refine AO.nK [1, 2, 3, 5, 6, 7, 38] ?_
     rcases of_ite h with ⟨hc25, h⟩ | ⟨hc25, h⟩
     ·refine AW.condP _ rfl hc25 ?_
      refine AW.sK [1, 2, 3, 5, 6, 7] ?_
      refine AW.seq_mid (fun ρ H => ∃ (n27 : Nat) (n29 : Nat) (n31 : Nat) (x26 : (List Int)) (x28 : (List (List Int))) (x30 : (List Int)) (x32 : (List Int)), ρ = [(1, (.ptr n2 0)), (2, (.ptr n3 0)), (3, (.own n4 0 x26.length)), (5, (.ptr n7 0)), (6, (.own n31 0 x32.length)), (7, (eI64 x22))] ∧ H = [(n2, (.mem (e50 p0))), (n3, (.mem (.st [(256, (.ar 1 ((Vector.replicate 256 (0 : Int)).toList.map eU8))), (1, (.fl (.slice none 0 0))), (1, (.fl (.slice none 0 0)))]))), (n4, (.mem (.ar 1 (x26.map eI64)))), (n7, (.mem (.st [(256, (.ar 1 (p0.f0.toList.map eU8))), (1, (.own n27 0 x28.length)), (1, (.own n29 0 x30.length))]))), (n27, (.mem (.ar 1 (x28.map e43)))), (n29, (.mem (.ar 1 (x30.map eI64)))), (n31, (.mem (.ar 1 (x32.map eI64))))] ∧ dfa_Order_c1 k rec23 x22 x26 x28 x30 x32 = some r) ?_ ?_
      ·refine AW.block ?_
       refine AW.seq ?_
       obtain ⟨hg33, h⟩ := of_guard h
       obtain ⟨hg34, h⟩ := of_guard h
       obtain ⟨hg36, h⟩ := of_guard h
       refine AW.regEff (by rfl) (by decide +kernel) (fun (σ : Nat → Nat) => ([(.ptr n2 256), (.fz 1 (p0.f1.map e43)), (.own n20 0 x21.length), (eI64 x22), (.ptr n20 (x22.toNat * 1 + 0)), (eI64 (lget x21 x22)), (.rp (.fz 1 ((lget p0.f1 (lget x21 x22)).map eI64))), (.fz 1 ((lget p0.f1 (lget x21 x22)).map eI64)), (eI64 ((lget p0.f1 (lget x21 x22)).length : Int)), (.own (σ 9) 0 ([] : List Int).length), (.own (σ 9) 0 ([] : List Int).length)] : List AV)) (fun (L : Nat → Bool) (σ : Nat → Nat) => ((n2, (.mem (e50 p0))) :: (n3, (.mem (.st [(256, (.ar 1 ((Vector.replicate 256 (0 : Int)).toList.map eU8))), (1, (.fl (.slice none 0 0))), (1, (.fl (.slice none 0 0)))]))) :: (n4, (.mem (.ar 1 (x15.map eI64)))) :: (n7, (.mem (.st [(256, (.ar 1 (p0.f0.toList.map eU8))), (1, (.own n16 0 x17.length)), (1, (.own n18 0 x19.length))]))) :: (n16, (.mem (.ar 1 (x17.map e43)))) :: (n18, (.mem (.ar 1 (x19.map eI64)))) :: (n20, (.mem (.ar 1 (x21.map eI64)))) :: (bif L 9 then (((σ 9), (.mem (.ar 1 (([] : List Int).map eI64)))) :: []) else ([])) : Heap)) [(1, (.ptr n2 0)), (2, (.ptr n3 0)), (3, (.own n4 0 x15.length)), (5, (.ptr n7 0)), (6, (.own n20 0 x21.length)), (7, (eI64 x22))] ⟨rfl, rfl, rfl, rfl, rfl, rfl, trivial⟩ (fun _ => rfl) (fun σ => (Sub.refl _)) ⟨?_, ?_, ?_, ?_, ?_, ?_, ?_, ?_, ?_, ?_, ?_, trivial⟩ (fun σ => [(1, (.ptr n2 0)), (2, (.ptr n3 0)), (3, (.own n4 0 x15.length)), (5, (.ptr n7 0)), (6, (.own n20 0 x21.length)), (7, (eI64 x22)), (8, (.own (σ 9) 0 ([] : List Int).length))]) (fun σ => ((n2, (.mem (e50 p0))) :: (n3, (.mem (.st [(256, (.ar 1 ((Vector.replicate 256 (0 : Int)).toList.map eU8))), (1, (.fl (.slice none 0 0))), (1, (.fl (.slice none 0 0)))]))) :: (n4, (.mem (.ar 1 (x15.map eI64)))) :: (n7, (.mem (.st [(256, (.ar 1 (p0.f0.toList.map eU8))), (1, (.own n16 0 x17.length)), (1, (.own n18 0 x19.length))]))) :: (n16, (.mem (.ar 1 (x17.map e43)))) :: (n18, (.mem (.ar 1 (x19.map eI64)))) :: (n20, (.mem (.ar 1 (x21.map eI64)))) :: ((σ 9), (.mem (.ar 1 (([] : List Int).map eI64)))) :: [])) (fun σ => ⟨rfl, rfl, rfl, rfl, rfl, rfl, rfl, trivial⟩) (fun σ => Sub.refl _) (fun σ => ?_)
       ·refine StepE.calm (fun _ _ => rfl) fun L σ hc hi hd => ?_
        refine AO.wK [1] ?_
        refine AO.c (x := .ptr n2 256) (Calm.fldPtr rfl rfl Try.underlying50 rfl sz48 _ rfl) ?_
        exact AO.nE (d := 41) rfl ⟨⟨41, _, rfl, rfl, rfl⟩, Sub.refl _⟩
       ·refine StepE.calm (fun _ _ => rfl) fun L σ hc hi hd => ?_
        refine AO.wK [41] ?_
        refine AO.c (Calm.load 0 rfl rfl rfl (At.cast (At.fldS (At.fld0 At.here)) rfl) ag48 sz48) ?_
        exact AO.nE (d := 42) rfl ⟨⟨42, _, rfl, rfl, rfl⟩, Sub.refl _⟩
       ·refine StepE.calm (fun _ _ => rfl) fun L σ hc hi hd => ?_
        refine AO.wK [6] ?_
        refine AO.c (Calm.move rfl rfl) ?_
        exact AO.nE (d := 43) rfl ⟨⟨43, _, rfl, rfl, rfl⟩, Sub.refl _⟩
       ·refine StepE.calm (fun _ _ => rfl) fun L σ hc hi hd => ?_
        refine AO.wK [7] ?_
        refine AO.c (Calm.move rfl rfl) ?_
        exact AO.nE (d := 44) rfl ⟨⟨44, _, rfl, rfl, rfl⟩, Sub.refl _⟩
       ·refine StepE.calm (fun _ _ => rfl) fun L σ hc hi hd => ?_
        refine AO.wK [43, 44] ?_
        refine AO.c (Calm.idxO 6 rfl rfl rfl rfl hg33 Try.underlying43 sz3) ?_
        exact AO.nE (d := 45) rfl ⟨⟨45, _, rfl, rfl, rfl⟩, Sub.refl _⟩
       ·refine StepE.calm (fun _ _ => rfl) fun L σ hc hi hd => ?_
        refine AO.wK [45] ?_
        refine AO.c (Calm.load 6 rfl rfl rfl (At.cast (At.lidx x22 hg33.1 hg33.2 At.here) (by omega)) ag3 sz3) ?_
        exact AO.nE (d := 46) rfl ⟨⟨46, _, rfl, rfl, rfl⟩, Sub.refl _⟩
       ·refine StepE.calm (fun _ _ => rfl) fun L σ hc hi hd => ?_
        refine AO.wK [42, 46] ?_
        refine AO.c (Calm.idxL (f := e43) rfl rfl rfl hg34 Try.underlying48 sz43) ?_
        exact AO.nE (d := 47) rfl ⟨⟨47, _, rfl, rfl, rfl⟩, Sub.refl _⟩
       ·refine StepE.calm (fun _ _ => rfl) fun L σ hc hi hd => ?_
        refine AO.wK [47] ?_
        refine AO.c (Calm.loadRp rfl rfl ag43 sz43) ?_
        exact AO.nE (d := 48) rfl ⟨⟨48, _, rfl, rfl, rfl⟩, Sub.refl _⟩
       ·refine StepE.calm (fun _ _ => rfl) fun L σ hc hi hd => ?_
        refine AO.wK [48] ?_
        refine AO.c (Calm.lenL rfl rfl Try.underlying43) ?_
        exact AO.nE (d := 49) rfl ⟨⟨49, _, rfl, rfl, rfl⟩, Sub.refl _⟩
       ·intro L σ hc hi hd
        refine AO.heq (H' := ((n2, (.mem (e50 p0))) :: (n3, (.mem (.st [(256, (.ar 1 ((Vector.replicate 256 (0 : Int)).toList.map eU8))), (1, (.fl (.slice none 0 0))), (1, (.fl (.slice none 0 0)))]))) :: (n4, (.mem (.ar 1 (x15.map eI64)))) :: (n7, (.mem (.st [(256, (.ar 1 (p0.f0.toList.map eU8))), (1, (.own n16 0 x17.length)), (1, (.own n18 0 x19.length))]))) :: (n16, (.mem (.ar 1 (x17.map e43)))) :: (n18, (.mem (.ar 1 (x19.map eI64)))) :: (n20, (.mem (.ar 1 (x21.map eI64)))) :: [])) (by first | rfl | simp only [hi, cond_true, cond_false]) ?_
        refine AO.wK [49] ?_
        refine AO.makeRoom (f := eI64) (0 : Int) rfl 50 rfl (by decide) rfl rfl rfl Try.underlying43 sz3 by3 zr3 lay3 rfl hg36 fun n35 => ?_
        have a9 : addL L 9 9 = true := rfl
        have u9 : upd σ 9 n35 9 = n35 := rfl
        have m10 : L 10 = false := hc.neg (i := 9) (j := 10) rfl (by rfl) hi
        exact AO.nE (d := 50) rfl ⟨(upd σ 9 n35), (fun j hj => match j, hj with | 0, _ => rfl | 1, _ => rfl | 2, _ => rfl | 3, _ => rfl | 4, _ => rfl | 5, _ => rfl | 6, _ => rfl | 7, _ => rfl | 8, _ => rfl | 9, hj => Bool.noConfusion (hj.symm.trans hi) | 10, hj => Bool.noConfusion (hj.symm.trans m10) | _ + 11, _ => rfl), (fun d' hd' => ⟨_, rfl, by cases hd'; rfl⟩), Sub.of_eq (B := ((n2, (.mem (e50 p0))) :: (n3, (.mem (.st [(256, (.ar 1 ((Vector.replicate 256 (0 : Int)).toList.map eU8))), (1, (.fl (.slice none 0 0))), (1, (.fl (.slice none 0 0)))]))) :: (n4, (.mem (.ar 1 (x15.map eI64)))) :: (n7, (.mem (.st [(256, (.ar 1 (p0.f0.toList.map eU8))), (1, (.own n16 0 x17.length)), (1, (.own n18 0 x19.length))]))) :: (n16, (.mem (.ar 1 (x17.map e43)))) :: (n18, (.mem (.ar 1 (x19.map eI64)))) :: (n20, (.mem (.ar 1 (x21.map eI64)))) :: (n35, (.mem (.ar 1 (([] : List Int).map eI64)))) :: [])) (by simp only [a9, u9, cond_true, cond_false]) (Sub.cons 1 rfl (Sub.cons 1 rfl (Sub.cons 1 rfl (Sub.cons 1 rfl (Sub.cons 1 rfl (Sub.cons 1 rfl (Sub.cons 1 rfl (Sub.cons 0 rfl (Sub.refl _)))))))))⟩
       ·refine StepE.calm (fun _ _ => rfl) fun L σ hc hi hd => ?_
        have y9 : L 9 = true := on_get hd (i := 9) (by rfl)
        refine AO.heq (H' := ((n2, (.mem (e50 p0))) :: (n3, (.mem (.st [(256, (.ar 1 ((Vector.replicate 256 (0 : Int)).toList.map eU8))), (1, (.fl (.slice none 0 0))), (1, (.fl (.slice none 0 0)))]))) :: (n4, (.mem (.ar 1 (x15.map eI64)))) :: (n7, (.mem (.st [(256, (.ar 1 (p0.f0.toList.map eU8))), (1, (.own n16 0 x17.length)), (1, (.own n18 0 x19.length))]))) :: (n16, (.mem (.ar 1 (x17.map e43)))) :: (n18, (.mem (.ar 1 (x19.map eI64)))) :: (n20, (.mem (.ar 1 (x21.map eI64)))) :: ((σ 9), (.mem (.ar 1 (([] : List Int).map eI64)))) :: [])) (by first | rfl | simp only [y9, cond_true, cond_false]) ?_
        refine AO.wK [50] ?_
        refine AO.c (Calm.assign rfl rfl) ?_
        exact AO.nE (d := 8) rfl ⟨⟨8, _, rfl, rfl, rfl⟩, Sub.of_eq (by first | rfl | simp only [y9, cond_true, cond_false]) (Sub.refl _)⟩
       ·generalize σ 9 = n35
        refine AO.nK [1, 2, 3, 5, 6, 7, 8] ?_
        refine AW.seq_mid (fun ρ H => ∃ (n38 : Nat) (n40 : Nat) (x37 : (List Int)) (x39 : (List Int)) (x41 : (List Int)), ρ = [(1, (.ptr n2 0)), (2, (.ptr n3 0)), (3, (.own n4 0 x37.length)), (5, (.ptr n7 0)), (6, (.own n38 0 x39.length)), (7, (eI64 x22)), (8, (.own n40 0 x41.length))] ∧ H = [(n2, (.mem (e50 p0))), (n3, (.mem (.st [(256, (.ar 1 ((Vector.replicate 256 (0 : Int)).toList.map eU8))), (1, (.fl (.slice none 0 0))), (1, (.fl (.slice none 0 0)))]))), (n4, (.mem (.ar 1 (x37.map eI64)))), (n7, (.mem (.st [(256, (.ar 1 (p0.f0.toList.map eU8))), (1, (.own n16 0 x17.length)), (1, (.own n18 0 x19.length))]))), (n16, (.mem (.ar 1 (x17.map e43)))), (n18, (.mem (.ar 1 (x19.map eI64)))), (n38, (.mem (.ar 1 (x39.map eI64)))), (n40, (.mem (.ar 1 (x41.map eI64))))] ∧ dfa_Order_c2 k rec23 p0 x17 x19 x22 x37 x39 x41 = some r) ?_ ?_
        ·refine AW.seq ?_
         refine AW.regQ (by rfl) (by decide +kernel) ?_
         refine AQ.c (x := .ptr n2 256) (Calm.fldPtr rfl rfl Try.underlying50 rfl sz48 _ rfl) ?_
         refine AQ.c (Calm.load 0 rfl rfl rfl (At.cast (At.fldS (At.fld0 At.here)) rfl) ag48 sz48) ?_
         refine AQ.c (Calm.move rfl rfl) ?_
         refine AQ.c (Calm.move rfl rfl) ?_
         obtain ⟨hg50, h⟩ := of_guard h
         refine AQ.c (Calm.idxO 6 rfl rfl rfl rfl hg50 Try.underlying43 sz3) ?_
         refine AQ.c (Calm.load 6 rfl rfl rfl (At.cast (At.lidx x22 hg50.1 hg50.2 At.here) (by omega)) ag3 sz3) ?_
         obtain ⟨hg51, h⟩ := of_guard h
         refine AQ.c (Calm.idxL (f := e43) rfl rfl rfl hg51 Try.underlying48 sz43) ?_
         refine AQ.c (Calm.loadRp rfl rfl ag43 sz43) ?_
         refine AQ.c (Calm.lenL rfl rfl Try.underlying43) ?_
         refine AQ.c (Calm.move rfl rfl) ?_
         refine AQ.nK [1, 2, 3, 5, 6, 7, 8, 58, 59, 60] ?_
         refine AW.block ?_
         refine AW.wK [1, 2, 3, 5, 6, 7, 8, 58, 59, 60] ?_
         refine AW.loop (fun kq ρ H => ∃ (n53 : Nat) (n55 : Nat) (x52 : (List Int)) (x54 : (List Int)) (x56 : (List Int)) (x57 : Int), ρ = [(1, (.ptr n2 0)), (2, (.ptr n3 0)), (3, (.own n4 0 x52.length)), (5, (.ptr n7 0)), (6, (.own n53 0 x54.length)), (7, (eI64 x22)), (8, (.own n55 0 x56.length)), (58, (.fz 1 ((lget p0.f1 (lget x21 x22)).map eI64))), (59, (eI64 ((lget p0.f1 (lget x21 x22)).length : Int))), (60, (eI64 x57))] ∧ H = [(n2, (.mem (e50 p0))), (n3, (.mem (.st [(256, (.ar 1 ((Vector.replicate 256 (0 : Int)).toList.map eU8))), (1, (.fl (.slice none 0 0))), (1, (.fl (.slice none 0 0)))]))), (n4, (.mem (.ar 1 (x52.map eI64)))), (n7, (.mem (.st [(256, (.ar 1 (p0.f0.toList.map eU8))), (1, (.own n16 0 x17.length)), (1, (.own n18 0 x19.length))]))), (n16, (.mem (.ar 1 (x17.map e43)))), (n18, (.mem (.ar 1 (x19.map eI64)))), (n53, (.mem (.ar 1 (x54.map eI64)))), (n55, (.mem (.ar 1 (x56.map eI64))))] ∧ dfa_Order_l5 k rec23 p0 x17 x19 x21 x22 kq x52 x54 x56 x57 = some r) k ⟨n20, n35, x15, x21, ([] : List Int), (0 : Int), rfl, rfl, h⟩ ?_
         rintro kq59 _ _ ⟨n53, n55, x52, x54, x56, x57, rfl, rfl, h⟩
         cases kq59 with
         | zero => rw [dfa_Order_l5.eq_1] at h; cases h
         | succ kq59 =>
         rw [dfa_Order_l5.eq_2] at h
         generalize hrec58 : dfa_Order_l5 k rec23 p0 x17 x19 x21 x22 kq59 = rec58 at h
         refine AW.sr ?_
         refine AO.c (x := eBool (decide (x57 < ((lget p0.f1 (lget x21 x22)).length : Int)))) (Calm.int rfl rfl rfl rfl) ?_
         refine AO.nK [1, 2, 3, 5, 6, 7, 8, 58, 59, 60, 61] ?_
         refine AW.seq ?_
         rcases of_ite h with ⟨hc60, h⟩ | ⟨hc60, h⟩
         ·refine AW.condP _ rfl hc60 ?_
          refine AW.sK [1, 2, 3, 5, 6, 7, 8, 58, 59, 60] ?_
          refine AW.seq ?_
          refine AW.block ?_
          refine AW.sr ?_
          obtain ⟨hg61, h⟩ := of_guard h
          refine AO.c (Calm.idxL (f := eI64) rfl rfl rfl hg61 Try.underlying43 sz3) ?_
          refine AO.c (Calm.loadRp rfl rfl ag3 sz3) ?_
          refine AO.c (Calm.assign rfl rfl) ?_
          refine AO.nK [1, 2, 3, 5, 6, 7, 8, 10, 58, 59, 60] ?_
          refine AW.seq_mid (fun ρ H => ∃ (n63 : Nat) (x62 : (List Int)) (x64 : (List Int)), ρ = [(1, (.ptr n2 0)), (2, (.ptr n3 0)), (3, (.own n4 0 x62.length)), (5, (.ptr n7 0)), (6, (.own n63 0 x64.length)), (7, (eI64 x22)), (8, (.own n55 0 x56.length)), (10, (eI64 (lget (lget p0.f1 (lget x21 x22)) x57))), (58, (.fz 1 ((lget p0.f1 (lget x21 x22)).map eI64))), (59, (eI64 ((lget p0.f1 (lget x21 x22)).length : Int))), (60, (eI64 x57))] ∧ H = [(n2, (.mem (e50 p0))), (n3, (.mem (.st [(256, (.ar 1 ((Vector.replicate 256 (0 : Int)).toList.map eU8))), (1, (.fl (.slice none 0 0))), (1, (.fl (.slice none 0 0)))]))), (n4, (.mem (.ar 1 (x62.map eI64)))), (n7, (.mem (.st [(256, (.ar 1 (p0.f0.toList.map eU8))), (1, (.own n16 0 x17.length)), (1, (.own n18 0 x19.length))]))), (n16, (.mem (.ar 1 (x17.map e43)))), (n18, (.mem (.ar 1 (x19.map eI64)))), (n63, (.mem (.ar 1 (x64.map eI64)))), (n55, (.mem (.ar 1 (x56.map eI64))))] ∧ dfa_Order_c4 k rec58 p0 x21 x22 x56 x57 x62 x64 = some r) ?_ ?_
          ·refine AW.seq ?_
           obtain ⟨b71, hq72, h⟩ := of_bind h
           refine AW.regM [(1, (.ptr n2 0)), (2, (.ptr n3 0)), (3, (.own n4 0 x52.length)), (5, (.ptr n7 0)), (6, (.own n53 0 x54.length)), (7, (eI64 x22)), (8, (.own n55 0 x56.length)), (10, (eI64 (lget (lget p0.f1 (lget x21 x22)) x57))), (58, (.fz 1 ((lget p0.f1 (lget x21 x22)).map eI64))), (59, (eI64 ((lget p0.f1 (lget x21 x22)).length : Int))), (60, (eI64 x57)), (72, (eBool b71))] [(n2, (.mem (e50 p0))), (n3, (.mem (.st [(256, (.ar 1 ((Vector.replicate 256 (0 : Int)).toList.map eU8))), (1, (.fl (.slice none 0 0))), (1, (.fl (.slice none 0 0)))]))), (n4, (.mem (.ar 1 (x52.map eI64)))), (n7, (.mem (.st [(256, (.ar 1 (p0.f0.toList.map eU8))), (1, (.own n16 0 x17.length)), (1, (.own n18 0 x19.length))]))), (n16, (.mem (.ar 1 (x17.map e43)))), (n18, (.mem (.ar 1 (x19.map eI64)))), (n53, (.mem (.ar 1 (x54.map eI64)))), (n55, (.mem (.ar 1 (x56.map eI64))))] ?_ ?_
           ·refine AO.c (Calm.move rfl rfl) ?_
            refine AO.c (x := eBool (decide ((0 : Int) ≤ (lget (lget p0.f1 (lget x21 x22)) x57)))) (Calm.int rfl rfl rfl rfl) ?_
            refine AO.c (Calm.move rfl rfl) ?_
            rcases of_ite hq72 with ⟨hc73, hq72⟩ | ⟨hc73, hq72⟩
            ·refine AO.cG rfl rfl (bD (decide_eq_true hc73)) (Calm.move rfl rfl) ?_
             refine AO.cG rfl rfl (bD (decide_eq_true hc73)) (Calm.move rfl rfl) ?_
             obtain ⟨hg74, hq72⟩ := of_guard hq72
             refine AO.cG rfl rfl (bD (decide_eq_true hc73)) (Calm.idxO 2 rfl rfl rfl rfl hg74 Try.underlying43 sz3) ?_
             refine AO.cG rfl rfl (bD (decide_eq_true hc73)) (Calm.load 2 rfl rfl rfl (At.cast (At.lidx (lget (lget p0.f1 (lget x21 x22)) x57) hg74.1 hg74.2 At.here) (by omega)) ag3 sz3) ?_
             refine AO.cG (x := eBool (decide ((lget x52 (lget (lget p0.f1 (lget x21 x22)) x57)) = (-1 : Int)))) rfl rfl (bD (decide_eq_true hc73)) (Calm.int rfl rfl rfl rfl) ?_
             refine AO.c (Calm.pickT rfl (bD (decide_eq_true hc73)) rfl) ?_
             cases hq72
             refine AO.nilE ⟨rfl, rfl⟩ ?_ ?_
             · exact ⟨rfl, rfl, rfl, rfl, rfl, rfl, rfl, rfl, rfl, rfl, rfl, rfl, trivial⟩
             · exact (Sub.refl _)
            ·refine AO.sT rfl rfl (bD (decide_eq_false hc73)) ?_
             refine AO.sT rfl rfl (bD (decide_eq_false hc73)) ?_
             refine AO.sT rfl rfl (bD (decide_eq_false hc73)) ?_
             refine AO.sT rfl rfl (bD (decide_eq_false hc73)) ?_
             refine AO.sT rfl rfl (bD (decide_eq_false hc73)) ?_
             refine AO.c (Calm.pickF rfl (bD (decide_eq_false hc73)) rfl) ?_
             cases hq72
             refine AO.nilE ⟨rfl, rfl⟩ ?_ ?_
             · exact ⟨rfl, rfl, rfl, rfl, rfl, rfl, rfl, rfl, rfl, rfl, rfl, rfl, trivial⟩
             · exact (Sub.refl _)
           ·rcases of_ite h with ⟨hc75, h⟩ | ⟨hc75, h⟩
            ·refine AW.condT' _ rfl hc75 ?_
             refine AW.sr ?_
             refine AO.c (Calm.move rfl rfl) ?_
             refine AO.c (Calm.move rfl rfl) ?_
             refine AO.c (Calm.move rfl rfl) ?_
             refine AO.c (Calm.lenOwn rfl rfl Try.underlying43) ?_
             obtain ⟨hg76, h⟩ := of_guard h
             refine AO.c (Calm.idxO 2 rfl rfl rfl rfl hg76 Try.underlying43 sz3) ?_
             refine AO.store (X' := (.ar 1 ((lset x52 (lget (lget p0.f1 (lget x21 x22)) x57) (x54.length : Int)).map eI64))) 2 rfl rfl rfl rfl rfl rfl (Put.cast (Put.lidx (lget (lget p0.f1 (lget x21 x22)) x57) (x54.length : Int) hg76.1 hg76.2 Put.here) (by omega)) rfl rfl sz3 rfl ?_
             refine AO.coe 3 (y' := (.own n4 0 (lset x52 (lget (lget p0.f1 (lget x21 x22)) x57) (x54.length : Int)).length)) rfl (fun _ _ h => lset_own h) ?_
             refine AO.coe 73 (y' := (.own n4 0 (lset x52 (lget (lget p0.f1 (lget x21 x22)) x57) (x54.length : Int)).length)) rfl (fun _ _ h => lset_own h) ?_
             refine AO.nK [1, 2, 3, 5, 6, 7, 8, 10, 58, 59, 60] ?_
             refine AW.reg ?_
             refine AO.c (Calm.move rfl rfl) ?_
             refine AO.c (Calm.move rfl rfl) ?_
             refine AO.lit (Z := (eI64 (0 : Int))) (xs := (([(lget (lget p0.f1 (lget x21 x22)) x57)] : List Int).map eI64)) (qs := [(0, (eI64 (lget (lget p0.f1 (lget x21 x22)) x57)))]) rfl 80 rfl (by decide) rfl ⟨rfl, rfl, rfl, trivial⟩ Try.underlying43 sz3 zr3 lay3 rfl (by decide) (litOK (z := 1) [(eI64 (lget (lget p0.f1 (lget x21 x22)) x57))] rfl ⟨⟨rfl, rfl⟩, trivial⟩) rfl fun n77 => ?_
             obtain ⟨hg79, h⟩ := of_guard h
             refine AO.appendL (l := x54) (m := ([(lget (lget p0.f1 (lget x21 x22)) x57)] : List Int)) 7 81 rfl (by decide) rfl rfl rfl rfl rfl (Src.ownL (f := eI64) (l := ([(lget (lget p0.f1 (lget x21 x22)) x57)] : List Int)) 0 rfl) Try.underlying43 Try.underlying43 sz3 by3 zr3 rfl hg79 (by decide) fun n78 => ?_
             refine AO.c (Calm.assign rfl rfl) ?_
             refine AO.nH [1, 2, 3, 5, 6, 7, 8, 10, 58, 59, 60] (H' := [(n2, (.mem (e50 p0))), (n3, (.mem (.st [(256, (.ar 1 ((Vector.replicate 256 (0 : Int)).toList.map eU8))), (1, (.fl (.slice none 0 0))), (1, (.fl (.slice none 0 0)))]))), (n4, (.mem (.ar 1 ((lset x52 (lget (lget p0.f1 (lget x21 x22)) x57) (x54.length : Int)).map eI64)))), (n7, (.mem (.st [(256, (.ar 1 (p0.f0.toList.map eU8))), (1, (.own n16 0 x17.length)), (1, (.own n18 0 x19.length))]))), (n16, (.mem (.ar 1 (x17.map e43)))), (n18, (.mem (.ar 1 (x19.map eI64)))), (n78, (.mem (.ar 1 ((x54 ++ ([(lget (lget p0.f1 (lget x21 x22)) x57)] : List Int)).map eI64)))), (n55, (.mem (.ar 1 (x56.map eI64))))]) (Sub.cons 1 rfl (Sub.cons 1 rfl (Sub.cons 1 rfl (Sub.cons 1 rfl (Sub.cons 1 rfl (Sub.cons 1 rfl (Sub.cons 1 rfl (Sub.cons 1 rfl (Sub.nil _))))))))) ?_
             exact ⟨n78, (lset x52 (lget (lget p0.f1 (lget x21 x22)) x57) (x54.length : Int)), (x54 ++ ([(lget (lget p0.f1 (lget x21 x22)) x57)] : List Int)), rfl, rfl, h⟩
            ·refine AW.condF' _ rfl hc75 ?_
             refine AW.sK [1, 2, 3, 5, 6, 7, 8, 10, 58, 59, 60] ?_
             exact ⟨n53, x52, x54, rfl, rfl, h⟩
          ·rintro _ _ ⟨n63, x62, x64, rfl, rfl, h⟩
           rw [dfa_Order_c4.eq_1] at h
           refine AW.seq_mid (fun ρ H => ∃ (x65 : Int), ρ = [(1, (.ptr n2 0)), (2, (.ptr n3 0)), (3, (.own n4 0 x62.length)), (5, (.ptr n7 0)), (6, (.own n63 0 x64.length)), (7, (eI64 x22)), (8, (.own n55 0 x56.length)), (10, (eI64 x65)), (58, (.fz 1 ((lget p0.f1 (lget x21 x22)).map eI64))), (59, (eI64 ((lget p0.f1 (lget x21 x22)).length : Int))), (60, (eI64 x57))] ∧ H = [(n2, (.mem (e50 p0))), (n3, (.mem (.st [(256, (.ar 1 ((Vector.replicate 256 (0 : Int)).toList.map eU8))), (1, (.fl (.slice none 0 0))), (1, (.fl (.slice none 0 0)))]))), (n4, (.mem (.ar 1 (x62.map eI64)))), (n7, (.mem (.st [(256, (.ar 1 (p0.f0.toList.map eU8))), (1, (.own n16 0 x17.length)), (1, (.own n18 0 x19.length))]))), (n16, (.mem (.ar 1 (x17.map e43)))), (n18, (.mem (.ar 1 (x19.map eI64)))), (n63, (.mem (.ar 1 (x64.map eI64)))), (n55, (.mem (.ar 1 (x56.map eI64))))] ∧ dfa_Order_c3 k rec58 x56 x57 x62 x64 x65 = some r) ?_ ?_
           ·refine AW.sr ?_
            refine AO.c (Calm.move rfl rfl) ?_
            refine AO.c (x := eBool (decide ((0 : Int) ≤ (lget (lget p0.f1 (lget x21 x22)) x57)))) (Calm.int rfl rfl rfl rfl) ?_
            refine AO.nK [1, 2, 3, 5, 6, 7, 8, 10, 58, 59, 60, 83] ?_
            rcases of_ite h with ⟨hc69, h⟩ | ⟨hc69, h⟩
            ·refine AW.condP _ rfl hc69 ?_
             refine AW.reg ?_
             refine AO.c (Calm.move rfl rfl) ?_
             refine AO.c (Calm.move rfl rfl) ?_
             obtain ⟨hg70, h⟩ := of_guard h
             refine AO.c (Calm.idxO 2 rfl rfl rfl rfl hg70 Try.underlying43 sz3) ?_
             refine AO.c (Calm.load 2 rfl rfl rfl (At.cast (At.lidx (lget (lget p0.f1 (lget x21 x22)) x57) hg70.1 hg70.2 At.here) (by omega)) ag3 sz3) ?_
             refine AO.c (Calm.assign rfl rfl) ?_
             refine AO.nK [1, 2, 3, 5, 6, 7, 8, 10, 58, 59, 60] ?_
             exact ⟨(lget x62 (lget (lget p0.f1 (lget x21 x22)) x57)), rfl, rfl, h⟩
            ·refine AW.condN _ rfl hc69 ?_
             refine AW.sK [1, 2, 3, 5, 6, 7, 8, 10, 58, 59, 60] ?_
             exact ⟨(lget (lget p0.f1 (lget x21 x22)) x57), rfl, rfl, h⟩
           ·rintro _ _ ⟨x65, rfl, rfl, h⟩
            rw [dfa_Order_c3.eq_1] at h
            refine AW.reg ?_
            refine AO.c (Calm.move rfl rfl) ?_
            refine AO.c (Calm.move rfl rfl) ?_
            refine AO.lit (Z := (eI64 (0 : Int))) (xs := (([x65] : List Int).map eI64)) (qs := [(0, (eI64 x65))]) rfl 90 rfl (by decide) rfl ⟨rfl, rfl, rfl, trivial⟩ Try.underlying43 sz3 zr3 lay3 rfl (by decide) (litOK (z := 1) [(eI64 x65)] rfl ⟨⟨rfl, rfl⟩, trivial⟩) rfl fun n66 => ?_
            obtain ⟨hg68, h⟩ := of_guard h
            refine AO.appendL (l := x56) (m := ([x65] : List Int)) 8 91 rfl (by decide) rfl rfl rfl rfl rfl (Src.ownL (f := eI64) (l := ([x65] : List Int)) 0 rfl) Try.underlying43 Try.underlying43 sz3 by3 zr3 rfl hg68 (by decide) fun n67 => ?_
            refine AO.c (Calm.assign rfl rfl) ?_
            refine AO.nH [1, 2, 3, 5, 6, 7, 8, 58, 59, 60] (H' := [(n2, (.mem (e50 p0))), (n3, (.mem (.st [(256, (.ar 1 ((Vector.replicate 256 (0 : Int)).toList.map eU8))), (1, (.fl (.slice none 0 0))), (1, (.fl (.slice none 0 0)))]))), (n4, (.mem (.ar 1 (x62.map eI64)))), (n7, (.mem (.st [(256, (.ar 1 (p0.f0.toList.map eU8))), (1, (.own n16 0 x17.length)), (1, (.own n18 0 x19.length))]))), (n16, (.mem (.ar 1 (x17.map e43)))), (n18, (.mem (.ar 1 (x19.map eI64)))), (n63, (.mem (.ar 1 (x64.map eI64)))), (n67, (.mem (.ar 1 ((x56 ++ ([x65] : List Int)).map eI64))))]) (Sub.cons 1 rfl (Sub.cons 1 rfl (Sub.cons 1 rfl (Sub.cons 1 rfl (Sub.cons 1 rfl (Sub.cons 1 rfl (Sub.cons 1 rfl (Sub.cons 1 rfl (Sub.nil _))))))))) ?_
            refine AW.reg ?_
            refine AO.c (x := eI64 (w64 (x57 + (1 : Int)))) (Calm.int rfl rfl rfl rfl) ?_
            refine AO.c (Calm.move rfl rfl) ?_
            refine AO.nK [1, 2, 3, 5, 6, 7, 8, 58, 59, 60] ?_
            exact ⟨kq59, Nat.lt_succ_self _, n63, n67, x62, x64, (x56 ++ ([x65] : List Int)), (w64 (x57 + (1 : Int))), rfl, rfl, by rw [hrec58]; exact h⟩
         ·refine AW.condN _ rfl hc60 ?_
          refine AW.eK [1, 2, 3, 5, 6, 7, 8] ?_
          exact ⟨n53, n55, x52, x54, x56, rfl, rfl, h⟩
        ·rintro _ _ ⟨n38, n40, x37, x39, x41, rfl, rfl, h⟩
         rw [dfa_Order_c2.eq_1] at h
         refine AW.sr ?_
         refine AO.c (x := .ptr n7 256) (Calm.fldPtr rfl rfl Try.underlying50 rfl sz48 _ rfl) ?_
         refine AO.c (Calm.load 3 rfl rfl rfl (At.cast (At.fldS (At.fld0 At.here)) rfl) ag48 sz48) ?_
         refine AO.c (Calm.move rfl rfl) ?_
         refine AO.freezeS 7 [(8, (.fz 1 (x41.map eI64))), (95, (.fz 1 (x41.map eI64)))] rfl ⟨fz_all rfl, fz_all rfl, trivial⟩ ?_
         refine AO.lit (Z := (.fl (.slice none 0 0))) (xs := (([x41] : List (List Int)).map e43)) (qs := [(0, (.fz 1 (x41.map eI64)))]) rfl 96 rfl (by decide) rfl ⟨rfl, rfl, rfl, trivial⟩ Try.underlying48 sz43 zr43 lay43 rfl (by decide) (litOK (z := 1) [(.fz 1 (x41.map eI64))] rfl ⟨⟨rfl, rfl⟩, trivial⟩) rfl fun n42 => ?_
         obtain ⟨hg44, h⟩ := of_guard h
         refine AO.appendL (l := x17) (m := ([x41] : List (List Int))) 5 97 rfl (by decide) rfl rfl rfl rfl rfl (Src.ownL (f := e43) (l := ([x41] : List (List Int))) 0 rfl) Try.underlying48 Try.underlying48 sz43 by43 zr43 rfl hg44 (by decide) fun n43 => ?_
         refine AO.c (x := .ptr n7 256) (Calm.fldPtr rfl rfl Try.underlying50 rfl sz48 _ rfl) ?_
         refine AO.store (X' := (.st [(256, (.ar 1 (p0.f0.toList.map eU8))), (1, (.own n43 0 (x17 ++ ([x41] : List (List Int))).length)), (1, (.own n18 0 x19.length))])) 4 rfl rfl rfl rfl rfl rfl (Put.cast (Put.fldS (Put.fld0 Put.here)) rfl) rfl rfl sz48 rfl ?_
         refine AO.nH [1, 2, 3, 5, 6, 7] (H' := [(n2, (.mem (e50 p0))), (n3, (.mem (.st [(256, (.ar 1 ((Vector.replicate 256 (0 : Int)).toList.map eU8))), (1, (.fl (.slice none 0 0))), (1, (.fl (.slice none 0 0)))]))), (n4, (.mem (.ar 1 (x37.map eI64)))), (n7, (.mem (.st [(256, (.ar 1 (p0.f0.toList.map eU8))), (1, (.own n43 0 (x17 ++ ([x41] : List (List Int))).length)), (1, (.own n18 0 x19.length))]))), (n43, (.mem (.ar 1 ((x17 ++ ([x41] : List (List Int))).map e43)))), (n18, (.mem (.ar 1 (x19.map eI64)))), (n38, (.mem (.ar 1 (x39.map eI64))))]) (Sub.cons 1 rfl (Sub.cons 1 rfl (Sub.cons 1 rfl (Sub.cons 1 rfl (Sub.cons 1 rfl (Sub.cons 1 rfl (Sub.cons 1 rfl (Sub.nil _)))))))) ?_
         obtain ⟨hg45, h⟩ := of_guard h
         obtain ⟨hg46, h⟩ := of_guard h
         obtain ⟨hg49, h⟩ := of_guard h
         refine AW.regEff (by rfl) (by decide +kernel) (fun (σ : Nat → Nat) => ([(.ptr n7 257), (.own n18 0 x19.length), (.ptr n2 257), (.fz 1 (p0.f2.map eI64)), (.own n38 0 x39.length), (eI64 x22), (.ptr n38 (x22.toNat * 1 + 0)), (eI64 (lget x39 x22)), (.rp (eI64 (lget p0.f2 (lget x39 x22)))), (eI64 (lget p0.f2 (lget x39 x22))), (.fz 1 (([(lget p0.f2 (lget x39 x22))] : List Int).map eI64)), (.own (σ 11) 0 (x19 ++ ([(lget p0.f2 (lget x39 x22))] : List Int)).length), (.ptr n7 257), (.fl undef)] : List AV)) (fun (L : Nat → Bool) (σ : Nat → Nat) => ((n2, (.mem (e50 p0))) :: (n3, (.mem (.st [(256, (.ar 1 ((Vector.replicate 256 (0 : Int)).toList.map eU8))), (1, (.fl (.slice none 0 0))), (1, (.fl (.slice none 0 0)))]))) :: (n4, (.mem (.ar 1 (x37.map eI64)))) :: (n43, (.mem (.ar 1 ((x17 ++ ([x41] : List (List Int))).map e43)))) :: (n38, (.mem (.ar 1 (x39.map eI64)))) :: (bif L 11 then (bif L 13 then ((n7, (.mem (.st [(256, (.ar 1 (p0.f0.toList.map eU8))), (1, (.own n43 0 (x17 ++ ([x41] : List (List Int))).length)), (1, (.own (σ 11) 0 (x19 ++ ([(lget p0.f2 (lget x39 x22))] : List Int)).length))]))) :: ((σ 11), (.mem (.ar 1 ((x19 ++ ([(lget p0.f2 (lget x39 x22))] : List Int)).map eI64)))) :: []) else ((n7, (.mem (.st [(256, (.ar 1 (p0.f0.toList.map eU8))), (1, (.own n43 0 (x17 ++ ([x41] : List (List Int))).length)), (1, (.own n18 0 x19.length))]))) :: ((σ 11), (.mem (.ar 1 ((x19 ++ ([(lget p0.f2 (lget x39 x22))] : List Int)).map eI64)))) :: [])) else ((n7, (.mem (.st [(256, (.ar 1 (p0.f0.toList.map eU8))), (1, (.own n43 0 (x17 ++ ([x41] : List (List Int))).length)), (1, (.own n18 0 x19.length))]))) :: (n18, (.mem (.ar 1 (x19.map eI64)))) :: [])) : Heap)) [(1, (.ptr n2 0)), (2, (.ptr n3 0)), (3, (.own n4 0 x37.length)), (5, (.ptr n7 0)), (6, (.own n38 0 x39.length)), (7, (eI64 x22))] ⟨rfl, rfl, rfl, rfl, rfl, rfl, trivial⟩ (fun _ => rfl) (fun σ => (Sub.cons 0 rfl (Sub.cons 0 rfl (Sub.cons 0 rfl (Sub.cons 1 rfl (Sub.cons 2 rfl (Sub.cons 0 rfl (Sub.cons 0 rfl (Sub.refl _))))))))) ⟨?_, ?_, ?_, ?_, ?_, ?_, ?_, ?_, ?_, ?_, ?_, ?_, ?_, ?_, trivial⟩ (fun σ => [(1, (.ptr n2 0)), (2, (.ptr n3 0)), (3, (.own n4 0 x37.length)), (5, (.ptr n7 0)), (6, (.own n38 0 x39.length)), (7, (eI64 x22))]) (fun σ => ((n2, (.mem (e50 p0))) :: (n3, (.mem (.st [(256, (.ar 1 ((Vector.replicate 256 (0 : Int)).toList.map eU8))), (1, (.fl (.slice none 0 0))), (1, (.fl (.slice none 0 0)))]))) :: (n4, (.mem (.ar 1 (x37.map eI64)))) :: (n43, (.mem (.ar 1 ((x17 ++ ([x41] : List (List Int))).map e43)))) :: (n38, (.mem (.ar 1 (x39.map eI64)))) :: (n7, (.mem (.st [(256, (.ar 1 (p0.f0.toList.map eU8))), (1, (.own n43 0 (x17 ++ ([x41] : List (List Int))).length)), (1, (.own (σ 11) 0 (x19 ++ ([(lget p0.f2 (lget x39 x22))] : List Int)).length))]))) :: ((σ 11), (.mem (.ar 1 ((x19 ++ ([(lget p0.f2 (lget x39 x22))] : List Int)).map eI64)))) :: [])) (fun σ => ⟨rfl, rfl, rfl, rfl, rfl, rfl, trivial⟩) (fun σ => Sub.refl _) (fun σ => ?_)
         ·refine StepE.calm (fun _ _ => rfl) fun L σ hc hi hd => ?_
          have m1 : L 1 = false := hc.neg (i := 0) (j := 1) rfl (by rfl) hi
          have m11 : L 11 = false := hc.neg (i := 1) (j := 11) rfl (by rfl) m1
          have m13 : L 13 = false := hc.neg (i := 0) (j := 13) rfl (by rfl) hi
          refine AO.heq (H' := ((n2, (.mem (e50 p0))) :: (n3, (.mem (.st [(256, (.ar 1 ((Vector.replicate 256 (0 : Int)).toList.map eU8))), (1, (.fl (.slice none 0 0))), (1, (.fl (.slice none 0 0)))]))) :: (n4, (.mem (.ar 1 (x37.map eI64)))) :: (n43, (.mem (.ar 1 ((x17 ++ ([x41] : List (List Int))).map e43)))) :: (n38, (.mem (.ar 1 (x39.map eI64)))) :: (n7, (.mem (.st [(256, (.ar 1 (p0.f0.toList.map eU8))), (1, (.own n43 0 (x17 ++ ([x41] : List (List Int))).length)), (1, (.own n18 0 x19.length))]))) :: (n18, (.mem (.ar 1 (x19.map eI64)))) :: [])) (by first | rfl | simp only [m11, m13, cond_true, cond_false]) ?_
          refine AO.wK [5] ?_
          refine AO.c (x := .ptr n7 257) (Calm.fldPtr rfl rfl Try.underlying50 rfl sz43 _ rfl) ?_
          exact AO.nE (d := 99) rfl ⟨⟨99, _, rfl, rfl, rfl⟩, Sub.of_eq (by first | rfl | simp only [m11, m13, cond_true, cond_false]) (Sub.refl _)⟩
         ·refine StepE.calm (fun _ _ => rfl) fun L σ hc hi hd => ?_
          have m11 : L 11 = false := hc.neg (i := 1) (j := 11) rfl (by rfl) hi
          have m13 : L 13 = false := hc.neg (i := 1) (j := 13) rfl (by rfl) hi
          refine AO.heq (H' := ((n2, (.mem (e50 p0))) :: (n3, (.mem (.st [(256, (.ar 1 ((Vector.replicate 256 (0 : Int)).toList.map eU8))), (1, (.fl (.slice none 0 0))), (1, (.fl (.slice none 0 0)))]))) :: (n4, (.mem (.ar 1 (x37.map eI64)))) :: (n43, (.mem (.ar 1 ((x17 ++ ([x41] : List (List Int))).map e43)))) :: (n38, (.mem (.ar 1 (x39.map eI64)))) :: (n7, (.mem (.st [(256, (.ar 1 (p0.f0.toList.map eU8))), (1, (.own n43 0 (x17 ++ ([x41] : List (List Int))).length)), (1, (.own n18 0 x19.length))]))) :: (n18, (.mem (.ar 1 (x19.map eI64)))) :: [])) (by first | rfl | simp only [m11, m13, cond_true, cond_false]) ?_
          refine AO.wK [99] ?_
          refine AO.c (Calm.load 5 rfl rfl rfl (At.cast (At.fldS (At.fldS (At.fld0 At.here))) rfl) ag43 sz43) ?_
          exact AO.nE (d := 100) rfl ⟨⟨100, _, rfl, rfl, rfl⟩, Sub.of_eq (by first | rfl | simp only [m11, m13, cond_true, cond_false]) (Sub.refl _)⟩
         ·refine StepE.calm (fun _ _ => rfl) fun L σ hc hi hd => ?_
          refine AO.wK [1] ?_
          refine AO.c (x := .ptr n2 257) (Calm.fldPtr rfl rfl Try.underlying50 rfl sz43 _ rfl) ?_
          exact AO.nE (d := 101) rfl ⟨⟨101, _, rfl, rfl, rfl⟩, Sub.refl _⟩
         ·refine StepE.calm (fun _ _ => rfl) fun L σ hc hi hd => ?_
          refine AO.wK [101] ?_
          refine AO.c (Calm.load 0 rfl rfl rfl (At.cast (At.fldS (At.fldS (At.fld0 At.here))) rfl) ag43 sz43) ?_
          exact AO.nE (d := 102) rfl ⟨⟨102, _, rfl, rfl, rfl⟩, Sub.refl _⟩
         ·refine StepE.calm (fun _ _ => rfl) fun L σ hc hi hd => ?_
          refine AO.wK [6] ?_
          refine AO.c (Calm.move rfl rfl) ?_
          exact AO.nE (d := 103) rfl ⟨⟨103, _, rfl, rfl, rfl⟩, Sub.refl _⟩
         ·refine StepE.calm (fun _ _ => rfl) fun L σ hc hi hd => ?_
          refine AO.wK [7] ?_
          refine AO.c (Calm.move rfl rfl) ?_
          exact AO.nE (d := 104) rfl ⟨⟨104, _, rfl, rfl, rfl⟩, Sub.refl _⟩
         ·refine StepE.calm (fun _ _ => rfl) fun L σ hc hi hd => ?_
          refine AO.wK [103, 104] ?_
          refine AO.c (Calm.idxO 4 rfl rfl rfl rfl hg45 Try.underlying43 sz3) ?_
          exact AO.nE (d := 105) rfl ⟨⟨105, _, rfl, rfl, rfl⟩, Sub.refl _⟩
         ·refine StepE.calm (fun _ _ => rfl) fun L σ hc hi hd => ?_
          refine AO.wK [105] ?_
          refine AO.c (Calm.load 4 rfl rfl rfl (At.cast (At.lidx x22 hg45.1 hg45.2 At.here) (by omega)) ag3 sz3) ?_
          exact AO.nE (d := 106) rfl ⟨⟨106, _, rfl, rfl, rfl⟩, Sub.refl _⟩
         ·refine StepE.calm (fun _ _ => rfl) fun L σ hc hi hd => ?_
          refine AO.wK [102, 106] ?_
          refine AO.c (Calm.idxL (f := eI64) rfl rfl rfl hg46 Try.underlying43 sz3) ?_
          exact AO.nE (d := 107) rfl ⟨⟨107, _, rfl, rfl, rfl⟩, Sub.refl _⟩
         ·refine StepE.calm (fun _ _ => rfl) fun L σ hc hi hd => ?_
          refine AO.wK [107] ?_
          refine AO.c (Calm.loadRp rfl rfl ag3 sz3) ?_
          exact AO.nE (d := 108) rfl ⟨⟨108, _, rfl, rfl, rfl⟩, Sub.refl _⟩
         ·refine StepE.calm (fun _ _ => rfl) fun L σ hc hi hd => ?_
          refine AO.wK [108] ?_
          refine AO.lit (Z := (eI64 (0 : Int))) (xs := (([(lget p0.f2 (lget x39 x22))] : List Int).map eI64)) (qs := [(0, (eI64 (lget p0.f2 (lget x39 x22))))]) rfl 109 rfl (by decide) rfl ⟨rfl, rfl, rfl, trivial⟩ Try.underlying43 sz3 zr3 lay3 rfl (by decide) (litOK (z := 1) [(eI64 (lget p0.f2 (lget x39 x22)))] rfl ⟨⟨rfl, rfl⟩, trivial⟩) rfl fun n47 => ?_
          refine AO.freezeS 0 [(109, (.fz 1 (([(lget p0.f2 (lget x39 x22))] : List Int).map eI64)))] rfl ⟨fz_all rfl, trivial⟩ ?_
          exact AO.nE (d := 109) rfl ⟨⟨109, _, rfl, rfl, rfl⟩, Sub.refl _⟩
         ·intro L σ hc hi hd
          have m13 : L 13 = false := hc.neg (i := 11) (j := 13) rfl (by rfl) hi
          refine AO.heq (H' := ((n2, (.mem (e50 p0))) :: (n3, (.mem (.st [(256, (.ar 1 ((Vector.replicate 256 (0 : Int)).toList.map eU8))), (1, (.fl (.slice none 0 0))), (1, (.fl (.slice none 0 0)))]))) :: (n4, (.mem (.ar 1 (x37.map eI64)))) :: (n43, (.mem (.ar 1 ((x17 ++ ([x41] : List (List Int))).map e43)))) :: (n38, (.mem (.ar 1 (x39.map eI64)))) :: (n7, (.mem (.st [(256, (.ar 1 (p0.f0.toList.map eU8))), (1, (.own n43 0 (x17 ++ ([x41] : List (List Int))).length)), (1, (.own n18 0 x19.length))]))) :: (n18, (.mem (.ar 1 (x19.map eI64)))) :: [])) (by first | rfl | simp only [hi, m13, cond_true, cond_false]) ?_
          refine AO.wK [100, 109] ?_
          refine AO.appendL (l := x19) (m := ([(lget p0.f2 (lget x39 x22))] : List Int)) 6 110 rfl (by decide) rfl rfl rfl rfl rfl Src.fz Try.underlying43 Try.underlying43 sz3 by3 zr3 rfl hg49 (by decide) fun n48 => ?_
          have a11 : addL L 11 11 = true := rfl
          have a13 : addL L 11 13 = false := m13
          have u11 : upd σ 11 n48 11 = n48 := rfl
          exact AO.nE (d := 110) rfl ⟨(upd σ 11 n48), (fun j hj => match j, hj with | 0, _ => rfl | 1, _ => rfl | 2, _ => rfl | 3, _ => rfl | 4, _ => rfl | 5, _ => rfl | 6, _ => rfl | 7, _ => rfl | 8, _ => rfl | 9, _ => rfl | 10, _ => rfl | 11, hj => Bool.noConfusion (hj.symm.trans hi) | 12, _ => rfl | 13, _ => rfl | _ + 14, _ => rfl), (fun d' hd' => ⟨_, rfl, by cases hd'; rfl⟩), Sub.of_eq (B := ((n2, (.mem (e50 p0))) :: (n3, (.mem (.st [(256, (.ar 1 ((Vector.replicate 256 (0 : Int)).toList.map eU8))), (1, (.fl (.slice none 0 0))), (1, (.fl (.slice none 0 0)))]))) :: (n4, (.mem (.ar 1 (x37.map eI64)))) :: (n43, (.mem (.ar 1 ((x17 ++ ([x41] : List (List Int))).map e43)))) :: (n38, (.mem (.ar 1 (x39.map eI64)))) :: (n7, (.mem (.st [(256, (.ar 1 (p0.f0.toList.map eU8))), (1, (.own n43 0 (x17 ++ ([x41] : List (List Int))).length)), (1, (.own n18 0 x19.length))]))) :: (n48, (.mem (.ar 1 ((x19 ++ ([(lget p0.f2 (lget x39 x22))] : List Int)).map eI64)))) :: [])) (by simp only [a11, a13, u11, cond_true, cond_false]) (Sub.refl _)⟩
         ·refine StepE.calm (fun _ _ => rfl) fun L σ hc hi hd => ?_
          have y11 : L 11 = true := on_get hd (i := 11) (by rfl)
          have m13 : L 13 = false := hc.neg (i := 12) (j := 13) rfl (by rfl) hi
          refine AO.heq (H' := ((n2, (.mem (e50 p0))) :: (n3, (.mem (.st [(256, (.ar 1 ((Vector.replicate 256 (0 : Int)).toList.map eU8))), (1, (.fl (.slice none 0 0))), (1, (.fl (.slice none 0 0)))]))) :: (n4, (.mem (.ar 1 (x37.map eI64)))) :: (n43, (.mem (.ar 1 ((x17 ++ ([x41] : List (List Int))).map e43)))) :: (n38, (.mem (.ar 1 (x39.map eI64)))) :: (n7, (.mem (.st [(256, (.ar 1 (p0.f0.toList.map eU8))), (1, (.own n43 0 (x17 ++ ([x41] : List (List Int))).length)), (1, (.own n18 0 x19.length))]))) :: ((σ 11), (.mem (.ar 1 ((x19 ++ ([(lget p0.f2 (lget x39 x22))] : List Int)).map eI64)))) :: [])) (by first | rfl | simp only [y11, m13, cond_true, cond_false]) ?_
          refine AO.wK [5] ?_
          refine AO.c (x := .ptr n7 257) (Calm.fldPtr rfl rfl Try.underlying50 rfl sz43 _ rfl) ?_
          exact AO.nE (d := 111) rfl ⟨⟨111, _, rfl, rfl, rfl⟩, Sub.of_eq (by first | rfl | simp only [y11, m13, cond_true, cond_false]) (Sub.refl _)⟩
         ·intro L σ hc hi hd
          have y11 : L 11 = true := on_get hd (i := 11) (by rfl)
          refine AO.heq (H' := ((n2, (.mem (e50 p0))) :: (n3, (.mem (.st [(256, (.ar 1 ((Vector.replicate 256 (0 : Int)).toList.map eU8))), (1, (.fl (.slice none 0 0))), (1, (.fl (.slice none 0 0)))]))) :: (n4, (.mem (.ar 1 (x37.map eI64)))) :: (n43, (.mem (.ar 1 ((x17 ++ ([x41] : List (List Int))).map e43)))) :: (n38, (.mem (.ar 1 (x39.map eI64)))) :: (n7, (.mem (.st [(256, (.ar 1 (p0.f0.toList.map eU8))), (1, (.own n43 0 (x17 ++ ([x41] : List (List Int))).length)), (1, (.own n18 0 x19.length))]))) :: ((σ 11), (.mem (.ar 1 ((x19 ++ ([(lget p0.f2 (lget x39 x22))] : List Int)).map eI64)))) :: [])) (by first | rfl | simp only [hi, y11, cond_true, cond_false]) ?_
          refine AO.wK [110, 111] ?_
          refine AO.store (X' := (.st [(256, (.ar 1 (p0.f0.toList.map eU8))), (1, (.own n43 0 (x17 ++ ([x41] : List (List Int))).length)), (1, (.own (σ 11) 0 (x19 ++ ([(lget p0.f2 (lget x39 x22))] : List Int)).length))])) 5 rfl rfl rfl rfl rfl rfl (Put.cast (Put.fldS (Put.fldS (Put.fld0 Put.here))) rfl) rfl rfl sz43 rfl ?_
          have a11 : addL L 13 11 = true := y11
          have a13 : addL L 13 13 = true := rfl
          exact AO.n0 ⟨σ, (fun _ _ => rfl), (fun d' hd' => by cases hd'), Sub.of_eq (B := ((n2, (.mem (e50 p0))) :: (n3, (.mem (.st [(256, (.ar 1 ((Vector.replicate 256 (0 : Int)).toList.map eU8))), (1, (.fl (.slice none 0 0))), (1, (.fl (.slice none 0 0)))]))) :: (n4, (.mem (.ar 1 (x37.map eI64)))) :: (n43, (.mem (.ar 1 ((x17 ++ ([x41] : List (List Int))).map e43)))) :: (n38, (.mem (.ar 1 (x39.map eI64)))) :: (n7, (.mem (.st [(256, (.ar 1 (p0.f0.toList.map eU8))), (1, (.own n43 0 (x17 ++ ([x41] : List (List Int))).length)), (1, (.own (σ 11) 0 (x19 ++ ([(lget p0.f2 (lget x39 x22))] : List Int)).length))]))) :: ((σ 11), (.mem (.ar 1 ((x19 ++ ([(lget p0.f2 (lget x39 x22))] : List Int)).map eI64)))) :: [])) (by simp only [a11, a13, cond_true, cond_false]) (Sub.refl _)⟩
         ·generalize σ 11 = n48
          refine AO.nH [1, 2, 3, 5, 6, 7] (H' := [(n2, (.mem (e50 p0))), (n3, (.mem (.st [(256, (.ar 1 ((Vector.replicate 256 (0 : Int)).toList.map eU8))), (1, (.fl (.slice none 0 0))), (1, (.fl (.slice none 0 0)))]))), (n4, (.mem (.ar 1 (x37.map eI64)))), (n7, (.mem (.st [(256, (.ar 1 (p0.f0.toList.map eU8))), (1, (.own n43 0 (x17 ++ ([x41] : List (List Int))).length)), (1, (.own n48 0 (x19 ++ ([(lget p0.f2 (lget x39 x22))] : List Int)).length))]))), (n43, (.mem (.ar 1 ((x17 ++ ([x41] : List (List Int))).map e43)))), (n48, (.mem (.ar 1 ((x19 ++ ([(lget p0.f2 (lget x39 x22))] : List Int)).map eI64)))), (n38, (.mem (.ar 1 (x39.map eI64))))]) (Sub.cons 0 rfl (Sub.cons 0 rfl (Sub.cons 0 rfl (Sub.cons 2 rfl (Sub.cons 0 rfl (Sub.cons 1 rfl (Sub.cons 0 rfl (Sub.nil _)))))))) ?_
          exact ⟨n43, n48, n38, x37, (x17 ++ ([x41] : List (List Int))), (x19 ++ ([(lget p0.f2 (lget x39 x22))] : List Int)), x39, rfl, rfl, h⟩
      ·rintro _ _ ⟨n27, n29, n31, x26, x28, x30, x32, rfl, rfl, h⟩
       rw [dfa_Order_c1.eq_1] at h
       refine AW.reg ?_
       refine AO.c (Calm.move rfl rfl) ?_
       refine AO.c (x := eI64 (w64 (x22 + (1 : Int)))) (Calm.int rfl rfl rfl rfl) ?_
       refine AO.c (Calm.assign rfl rfl) ?_
       refine AO.nK [1, 2, 3, 5, 6, 7] ?_
       exact ⟨kq24, Nat.lt_succ_self _, n27, n29, n31, x26, x28, x30, x32, (w64 (x22 + (1 : Int))), rfl, rfl, by rw [hrec23]; exact h⟩
     ·refine AW.condN _ rfl hc25 ?_
      refine AW.eH [2, 5] (H' := [(n3, (.mem (.st [(256, (.ar 1 ((Vector.replicate 256 (0 : Int)).toList.map eU8))), (1, (.fl (.slice none 0 0))), (1, (.fl (.slice none 0 0)))]))), (n7, (.mem (.st [(256, (.ar 1 (p0.f0.toList.map eU8))), (1, (.own n16 0 x17.length)), (1, (.own n18 0 x19.length))]))), (n16, (.mem (.ar 1 (x17.map e43)))), (n18, (.mem (.ar 1 (x19.map eI64))))]) (Sub.cons 1 rfl (Sub.cons 2 rfl (Sub.cons 2 rfl (Sub.cons 2 rfl (Sub.nil _))))) ?_
      exact ⟨n16, n18, x17, x19, rfl, rfl, h⟩
    ·rintro _ _ ⟨n11, n13, x12, x14, rfl, rfl, h⟩
     rw [dfa_Order_c0.eq_1] at h
     refine AW.sr ?_
     refine AO.freezeFld (X' := (.st [(256, (.ar 1 (p0.f0.toList.map eU8))), (1, (.fz 1 (x12.map e43))), (1, (.own n13 0 x14.length))])) (els' := (x12.map e43)) 2 1 rfl rfl (Put.cast (Put.fldS (Put.fld0 Put.here)) rfl) (by simp) (by rw [own_all]) rfl rfl (by decide) ?_
     refine AO.freezeFld (X' := (.st [(256, (.ar 1 (p0.f0.toList.map eU8))), (1, (.fz 1 (x12.map e43))), (1, (.fz 1 (x14.map eI64)))])) (els' := (x14.map eI64)) 2 1 rfl rfl (Put.cast (Put.fldS (Put.fldS (Put.fld0 Put.here))) rfl) (by simp) (by rw [own_all]) rfl rfl (by decide) ?_
     refine AO.c (x := e50 (S50.mk p0.f0 x12 x14)) (Calm.load 1 rfl rfl rfl (At.cast At.here rfl) ag50 sz50) ?_
     refine AO.store (X' := (e50 (S50.mk p0.f0 x12 x14))) 0 rfl rfl rfl rfl rfl rfl (Put.cast Put.here rfl) rfl rfl sz50 rfl ?_
     refine AO.nH [2] (H' := [(n3, (.mem (e50 (S50.mk p0.f0 x12 x14))))]) (Sub.cons 0 rfl (Sub.nil _)) ?_
     refine AW.rK [2] ?_
     have hr := Option.some.inj h
     subst hr
     exact ⟨[(e50 (S50.mk p0.f0 x12 x14))], ⟨⟨_, 0, rfl, rfl, ag50, sz50⟩, trivial⟩, rfl⟩
end Go.Avl.T3
/- bosket/bosketref08.place; printed by avmain.py. -/
namespace Go.Avl.T3
open Go Go.RowKit Go.Proofs Go.Avl
set_option linter.unusedVariables false
set_option maxRecDepth 100000
set_option maxHeartbeats 4000000
attribute [local irreducible] AW AO AQ Spec SpecH Calm

end Go.Avl.T3
/- bosket/bosketref08.Order; printed by avmain.py. -/
namespace Go.Avl.T3
open Go Go.RowKit Go.Proofs Go.Avl
set_option linter.unusedVariables false
set_option maxRecDepth 100000
set_option maxHeartbeats 4000000
set_option linter.unusedSimpArgs false
attribute [local irreducible] AW AO AQ Spec SpecH Calm

end Go.Avl.T3
/- bosket/dfa.Run; printed by avmain.py. -/
namespace Go.Avl.T3
open Go Go.RowKit Go.Proofs Go.Avl
set_option linter.unusedVariables false
set_option maxRecDepth 100000
set_option maxHeartbeats 4000000
attribute [local irreducible] AW AO AQ Spec SpecH Calm

def dfa_Run_c0 (k : Nat) (x5 : Int) : Option Int :=
  some (x5)
def dfa_Run_l1 (k : Nat) (p0 : S50) (p2 : ByteArray) : Nat → Int → Int → Option Int
  | 0, _, _ => none
  | j + 1, x6, x7 =>
    Option.bind (α := Bool) (if x7 < (p2.size : Int) then some (decide (x6 ≠ (-1 : Int)))
    else some (false)) fun b10 =>
    if b10 = true then if 0 ≤ x7 ∧ x7 < (p2.size : Int) then (dfa_Step k p0 x6 (byteAt p2 x7)).bind fun t15 =>
    (dfa_Run_l1 k p0 p2 j) t15 (w64 (x7 + (1 : Int)))
    else none
    else dfa_Run_c0 k x6
def dfa_Run (k : Nat) (p0 : S50) (p1 : Int) (p2 : ByteArray) : Option Int :=
  dfa_Run_l1 k p0 p2 k p1 (0 : Int)
theorem dfa_Run_spec {k : Nat} {p0 : S50} {p1 : Int} {p2 : ByteArray} {r : Int} (h : dfa_Run k p0 p1 p2 = some r) : Spec Try.prog 47 [(e50 p0), (eI64 p1), (eStr p2)] (eI64 r) := by
  rw [dfa_Run.eq_1] at h
  refine Spec.intro (res := [.tmp 6]) Try.func47 rfl rfl rfl (Nat.le_of_ble_eq_true rfl) ?_
  refine AW.sr ?_
  refine AO.box rfl 3 rfl (by decide) rfl rfl rfl fun n4 => ?_
  refine AO.c (Calm.assign rfl rfl) ?_
  refine AO.nK [1, 2, 3] ?_
  refine AW.seq_mid (fun ρ H => ∃ (x5 : Int), ρ = [(1, (eI64 x5))] ∧ H = [] ∧ dfa_Run_c0 k x5 = some r) ?_ ?_
  ·refine AW.sr ?_
   refine AO.c (Calm.assign rfl rfl) ?_
   refine AO.nK [1, 2, 3, 7] ?_
   refine AW.block ?_
   refine AW.wK [1, 2, 3, 7] ?_
   refine AW.loop (fun kq ρ H => ∃ (x6 : Int) (x7 : Int), ρ = [(1, (eI64 x6)), (2, (eStr p2)), (3, (.ptr n4 0)), (7, (eI64 x7))] ∧ H = [(n4, (.mem (e50 p0)))] ∧ dfa_Run_l1 k p0 p2 kq x6 x7 = some r) k ⟨p1, (0 : Int), rfl, rfl, h⟩ ?_
   rintro kq9 _ _ ⟨x6, x7, rfl, rfl, h⟩
   cases kq9 with
   | zero => rw [dfa_Run_l1.eq_1] at h; cases h
   | succ kq9 =>
   rw [dfa_Run_l1.eq_2] at h
   generalize hrec8 : dfa_Run_l1 k p0 p2 kq9 = rec8 at h
   refine AW.seq ?_
   refine AW.seq ?_
   obtain ⟨b10, hq11, h⟩ := of_bind h
   refine AW.regM [(1, (eI64 x6)), (2, (eStr p2)), (3, (.ptr n4 0)), (7, (eI64 x7)), (15, (eBool b10))] [(n4, (.mem (e50 p0)))] ?_ ?_
   ·refine AO.c (Calm.move rfl rfl) ?_
    refine AO.c (Calm.move rfl rfl) ?_
    refine AO.c (Calm.lenStr rfl rfl Try.underlying9) ?_
    refine AO.c (x := eBool (decide (x7 < (p2.size : Int)))) (Calm.int rfl rfl rfl rfl) ?_
    refine AO.c (Calm.move rfl rfl) ?_
    rcases of_ite hq11 with ⟨hc12, hq11⟩ | ⟨hc12, hq11⟩
    ·refine AO.cG rfl rfl (bD (decide_eq_true hc12)) (Calm.move rfl rfl) ?_
     refine AO.cG (x := eBool (decide (x6 ≠ (-1 : Int)))) rfl rfl (bD (decide_eq_true hc12)) (Calm.int rfl rfl rfl rfl) ?_
     refine AO.c (Calm.pickT rfl (bD (decide_eq_true hc12)) rfl) ?_
     cases hq11
     refine AO.nilE ⟨rfl, rfl⟩ ?_ ?_
     · exact ⟨rfl, rfl, rfl, rfl, rfl, trivial⟩
     · exact (Sub.refl _)
    ·refine AO.sT rfl rfl (bD (decide_eq_false hc12)) ?_
     refine AO.sT rfl rfl (bD (decide_eq_false hc12)) ?_
     refine AO.c (Calm.pickF rfl (bD (decide_eq_false hc12)) rfl) ?_
     cases hq11
     refine AO.nilE ⟨rfl, rfl⟩ ?_ ?_
     · exact ⟨rfl, rfl, rfl, rfl, rfl, trivial⟩
     · exact (Sub.refl _)
   ·rcases of_ite h with ⟨hc13, h⟩ | ⟨hc13, h⟩
    ·refine AW.condT' _ rfl hc13 ?_
     refine AW.sK [1, 2, 3, 7] ?_
     refine AW.seq ?_
     refine AW.block ?_
     refine AW.regQ (by rfl) (by decide +kernel) ?_
     refine AQ.c (Calm.load 0 rfl rfl rfl (At.cast At.here rfl) ag50 sz50) ?_
     refine AQ.c (Calm.move rfl rfl) ?_
     refine AQ.c (Calm.move rfl rfl) ?_
     refine AQ.c (Calm.move rfl rfl) ?_
     obtain ⟨hg14, h⟩ := of_guard h
     refine AQ.c (x := eU8 (byteAt p2 x7)) (Calm.idxS rfl rfl rfl hg14 Try.underlying9) ?_
     obtain ⟨t15, et15, h⟩ := of_bind h
     refine AQ.c (Calm.call (args := [(e50 p0), (eI64 x6), (eU8 (byteAt p2 x7))]) rfl rfl ok66 ⟨rfl, rfl, rfl, rfl, rfl, rfl, trivial⟩ rfl (dfa_Step_spec et15)) ?_
     refine AQ.c (Calm.assign rfl rfl) ?_
     refine AQ.nK [1, 2, 3, 7] ?_
     refine AW.reg ?_
     refine AO.c (Calm.move rfl rfl) ?_
     refine AO.c (x := eI64 (w64 (x7 + (1 : Int)))) (Calm.int rfl rfl rfl rfl) ?_
     refine AO.c (Calm.assign rfl rfl) ?_
     refine AO.nK [1, 2, 3, 7] ?_
     exact ⟨kq9, Nat.lt_succ_self _, t15, (w64 (x7 + (1 : Int))), rfl, rfl, by rw [hrec8]; exact h⟩
    ·refine AW.condF' _ rfl hc13 ?_
     refine AW.eH [1] (H' := []) (Sub.nil _) ?_
     exact ⟨x6, rfl, rfl, h⟩
  ·rintro _ _ ⟨x5, rfl, rfl, h⟩
   rw [dfa_Run_c0.eq_1] at h
   refine AW.sr ?_
   refine AO.c (Calm.move rfl rfl) ?_
   refine AO.c (Calm.assign rfl rfl) ?_
   refine AO.nK [6] ?_
   refine AW.rK [6] ?_
   have hr := Option.some.inj h
   subst hr
   exact ⟨[(eI64 x5)], ⟨rfl, rfl, trivial⟩, rfl⟩
end Go.Avl.T3
/- bosket/dfa.Has; printed by avmain.py. -/
namespace Go.Avl.T3
open Go Go.RowKit Go.Proofs Go.Avl
set_option linter.unusedVariables false
set_option maxRecDepth 100000
set_option maxHeartbeats 4000000
attribute [local irreducible] AW AO AQ Spec SpecH Calm

def dfa_Has (k : Nat) (p0 : S50) (p1 : ByteArray) : Option Int :=
  (dfa_Run k p0 (0 : Int) p1).bind fun t4 =>
  (dfa_Mark k p0 t4).bind fun t5 =>
  some (t5)
theorem dfa_Has_spec {k : Nat} {p0 : S50} {p1 : ByteArray} {r : Int} (h : dfa_Has k p0 p1 = some r) : Spec Try.prog 24 [(e50 p0), (eStr p1)] (eI64 r) := by
  rw [dfa_Has.eq_1] at h
  refine Spec.intro (res := [.tmp 4]) Try.func24 rfl rfl rfl (Nat.le_of_ble_eq_true rfl) ?_
  refine AW.sr ?_
  refine AO.box rfl 2 rfl (by decide) rfl rfl rfl fun n3 => ?_
  refine AO.c (Calm.assign rfl rfl) ?_
  refine AO.nK [1, 2] ?_
  refine AW.seq ?_
  refine AW.regQ (by rfl) (by decide +kernel) ?_
  refine AQ.c (Calm.load 0 rfl rfl rfl (At.cast At.here rfl) ag50 sz50) ?_
  refine AQ.c (Calm.load 0 rfl rfl rfl (At.cast At.here rfl) ag50 sz50) ?_
  refine AQ.c (Calm.move rfl rfl) ?_
  obtain ⟨t4, et4, h⟩ := of_bind h
  refine AQ.c (Calm.call (args := [(e50 p0), (eI64 (0 : Int)), (eStr p1)]) rfl rfl ok47 ⟨rfl, rfl, rfl, rfl, rfl, rfl, trivial⟩ rfl (dfa_Run_spec et4)) ?_
  obtain ⟨t5, et5, h⟩ := of_bind h
  refine AQ.c (Calm.call (args := [(e50 p0), (eI64 t4)]) rfl rfl ok50 ⟨rfl, rfl, rfl, rfl, trivial⟩ rfl (dfa_Mark_spec et5)) ?_
  refine AQ.c (Calm.assign rfl rfl) ?_
  refine AQ.nK [4] ?_
  refine AW.rH [4] (H' := []) (Sub.nil _) ?_
  have hr := Option.some.inj h
  subst hr
  exact ⟨[(eI64 t5)], ⟨rfl, rfl, trivial⟩, rfl⟩
end Go.Avl.T3
/- bosket/bosketlaw08.awake; printed by avmain.py. -/
namespace Go.Avl.T3
open Go Go.RowKit Go.Proofs Go.Avl
set_option linter.unusedVariables false
set_option maxRecDepth 100000
set_option maxHeartbeats 4000000
attribute [local irreducible] AW AO AQ Spec SpecH Calm

def bosketlaw08_awake (k : Nat) : Option Bool :=
  Option.bind (α := Bool) ((dfa_Right k (S50.mk (Vector.replicate 256 (0 : Int)) ([[(0 : Int)]] : List (List Int)) ([(3 : Int)] : List Int))).bind fun t7 =>
  if t7 = true then (dfa_Has k (S50.mk (Vector.replicate 256 (0 : Int)) ([[(0 : Int)]] : List (List Int)) ([(3 : Int)] : List Int)) (ByteArray.mk #[97, 98, 99])).bind fun t9 =>
  if t9 = (3 : Int) then (dfa_Run k (S50.mk (Vector.replicate 256 (0 : Int)) ([[(0 : Int)]] : List (List Int)) ([(3 : Int)] : List Int)) (3 : Int) (ByteArray.mk #[])).bind fun t11 =>
  if t11 = (3 : Int) then some (true)
  else some (false)
  else some (false)
  else some (false)) fun b5 =>
  some (b5)
theorem bosketlaw08_awake_spec {k : Nat}  {r : Bool} (h : bosketlaw08_awake k = some r) : Spec Try.prog 21 [] (eBool r) := by
  rw [bosketlaw08_awake.eq_1] at h
  refine Spec.intro (res := [.tmp 0]) Try.func21 rfl rfl rfl (Nat.le_of_ble_eq_true rfl) ?_
  refine AW.sr ?_
  refine AO.c (Calm.assign rfl rfl) ?_
  refine AO.nK [] ?_
  refine AW.sr ?_
  refine AO.lit (Z := (eI64 (0 : Int))) (xs := (([(0 : Int)] : List Int).map eI64)) (qs := [(0, (eI64 (0 : Int)))]) rfl 2 rfl (by decide) rfl ⟨rfl, rfl, rfl, trivial⟩ Try.underlying43 sz3 zr3 lay3 rfl (by decide) (litOK (z := 1) [(eI64 (0 : Int))] rfl ⟨⟨rfl, rfl⟩, trivial⟩) rfl fun n1 => ?_
  refine AO.freezeS 0 [(2, (.fz 1 (([(0 : Int)] : List Int).map eI64)))] rfl ⟨fz_all rfl, trivial⟩ ?_
  refine AO.lit (Z := (.fl (.slice none 0 0))) (xs := (([[(0 : Int)]] : List (List Int)).map e43)) (qs := [(0, (.fz 1 (([(0 : Int)] : List Int).map eI64)))]) rfl 3 rfl (by decide) rfl ⟨rfl, rfl, rfl, trivial⟩ Try.underlying48 sz43 zr43 lay43 rfl (by decide) (litOK (z := 1) [(.fz 1 (([(0 : Int)] : List Int).map eI64))] rfl ⟨⟨rfl, rfl⟩, trivial⟩) rfl fun n2 => ?_
  refine AO.lit (Z := (eI64 (0 : Int))) (xs := (([(3 : Int)] : List Int).map eI64)) (qs := [(0, (eI64 (3 : Int)))]) rfl 4 rfl (by decide) rfl ⟨rfl, rfl, rfl, trivial⟩ Try.underlying43 sz3 zr3 lay3 rfl (by decide) (litOK (z := 1) [(eI64 (3 : Int))] rfl ⟨⟨rfl, rfl⟩, trivial⟩) rfl fun n3 => ?_
  refine AO.c (x := .st [(256, (.ar 1 ((Vector.replicate 256 (0 : Int)).toList.map eU8))), (1, (.own n2 0 ([[(0 : Int)]] : List (List Int)).length)), (1, (.own n3 0 ([(3 : Int)] : List Int).length))]) (Calm.build (qs := [(1, (.own n2 0 ([[(0 : Int)]] : List (List Int)).length)), (2, (.own n3 0 ([(3 : Int)] : List Int).length))]) rfl ⟨rfl, rfl, rfl, rfl, rfl, rfl, trivial⟩ Try.underlying50 rfl zr50 lay50 (.cons rfl rfl rfl rfl (Put.cast (Put.fldS (Put.fld0 Put.here)) rfl) (.cons rfl rfl rfl rfl (Put.cast (Put.fldS (Put.fldS (Put.fld0 Put.here))) rfl) .nil)) rfl) ?_
  refine AO.alloc rfl 1 rfl (by decide) rfl zr50 lay50 fun n4 => ?_
  refine AO.store (X' := (.st [(256, (.ar 1 ((Vector.replicate 256 (0 : Int)).toList.map eU8))), (1, (.own n2 0 ([[(0 : Int)]] : List (List Int)).length)), (1, (.own n3 0 ([(3 : Int)] : List Int).length))])) 0 rfl rfl rfl rfl rfl rfl (Put.cast Put.here rfl) rfl rfl sz50 rfl ?_
  refine AO.nH [1] (H' := [(n4, (.mem (.st [(256, (.ar 1 ((Vector.replicate 256 (0 : Int)).toList.map eU8))), (1, (.own n2 0 ([[(0 : Int)]] : List (List Int)).length)), (1, (.own n3 0 ([(3 : Int)] : List Int).length))]))), (n2, (.mem (.ar 1 (([[(0 : Int)]] : List (List Int)).map e43)))), (n3, (.mem (.ar 1 (([(3 : Int)] : List Int).map eI64))))]) (Sub.cons 0 rfl (Sub.cons 1 rfl (Sub.cons 0 rfl (Sub.nil _)))) ?_
  refine AW.seq ?_
  obtain ⟨b5, hq6, h⟩ := of_bind h
  refine AW.regM [(0, (eBool b5))] [] ?_ ?_
  ·refine AO.freezeFld (X' := (.st [(256, (.ar 1 ((Vector.replicate 256 (0 : Int)).toList.map eU8))), (1, (.fz 1 (([[(0 : Int)]] : List (List Int)).map e43))), (1, (.own n3 0 ([(3 : Int)] : List Int).length))])) (els' := (([[(0 : Int)]] : List (List Int)).map e43)) 1 0 rfl rfl (Put.cast (Put.fldS (Put.fld0 Put.here)) rfl) (by simp) (by rw [own_all]) rfl rfl (by decide) ?_
   refine AO.freezeFld (X' := (.st [(256, (.ar 1 ((Vector.replicate 256 (0 : Int)).toList.map eU8))), (1, (.fz 1 (([[(0 : Int)]] : List (List Int)).map e43))), (1, (.fz 1 (([(3 : Int)] : List Int).map eI64)))])) (els' := (([(3 : Int)] : List Int).map eI64)) 1 0 rfl rfl (Put.cast (Put.fldS (Put.fldS (Put.fld0 Put.here))) rfl) (by simp) (by rw [own_all]) rfl rfl (by decide) ?_
   refine AO.c (x := e50 (S50.mk (Vector.replicate 256 (0 : Int)) ([[(0 : Int)]] : List (List Int)) ([(3 : Int)] : List Int))) (Calm.load 0 rfl rfl rfl (At.cast At.here rfl) ag50 sz50) ?_
   obtain ⟨t7, et7, hq6⟩ := of_bind hq6
   refine AO.callS [(e50 (S50.mk (Vector.replicate 256 (0 : Int)) ([[(0 : Int)]] : List (List Int)) ([(3 : Int)] : List Int)))] (eBool t7) 7 rfl (by decide) ok27 rfl rfl rfl ⟨rfl, rfl, trivial⟩ (dfa_Right_spec et7) ?_
   refine AO.c (Calm.move rfl rfl) ?_
   rcases of_ite hq6 with ⟨hc8, hq6⟩ | ⟨hc8, hq6⟩
   ·refine AO.cG rfl rfl (bD hc8) (Calm.load 0 rfl rfl rfl (At.cast At.here rfl) ag50 sz50) ?_
    obtain ⟨t9, et9, hq6⟩ := of_bind hq6
    refine AO.callG 2 true 8 [(e50 (S50.mk (Vector.replicate 256 (0 : Int)) ([[(0 : Int)]] : List (List Int)) ([(3 : Int)] : List Int))), (eStr (ByteArray.mk #[97, 98, 99]))] (eI64 t9) 10 rfl (by decide) ok24 rfl rfl (bD hc8) rfl rfl ⟨rfl, rfl, rfl, rfl, trivial⟩ (dfa_Has_spec et9) ?_
    refine AO.cG (x := eBool (decide (t9 = (3 : Int)))) rfl rfl (bD hc8) (Calm.int rfl rfl rfl rfl) ?_
    refine AO.c (Calm.pickT rfl (bD hc8) rfl) ?_
    refine AO.c (Calm.move rfl rfl) ?_
    rcases of_ite hq6 with ⟨hc10, hq6⟩ | ⟨hc10, hq6⟩
    ·refine AO.cG rfl rfl (bD (decide_eq_true hc10)) (Calm.load 0 rfl rfl rfl (At.cast At.here rfl) ag50 sz50) ?_
     obtain ⟨t11, et11, hq6⟩ := of_bind hq6
     refine AO.callG 7 true 13 [(e50 (S50.mk (Vector.replicate 256 (0 : Int)) ([[(0 : Int)]] : List (List Int)) ([(3 : Int)] : List Int))), (eI64 (3 : Int)), (eStr (ByteArray.mk #[]))] (eI64 t11) 15 rfl (by decide) ok47 rfl rfl (bD (decide_eq_true hc10)) rfl rfl ⟨rfl, rfl, rfl, rfl, rfl, rfl, trivial⟩ (dfa_Run_spec et11) ?_
     refine AO.cG (x := eBool (decide (t11 = (3 : Int)))) rfl rfl (bD (decide_eq_true hc10)) (Calm.int rfl rfl rfl rfl) ?_
     refine AO.c (Calm.pickT rfl (bD (decide_eq_true hc10)) rfl) ?_
     refine AO.c (Calm.move rfl rfl) ?_
     rcases of_ite hq6 with ⟨hc12, hq6⟩ | ⟨hc12, hq6⟩
     ·refine AO.c (Calm.pickT rfl (bD (decide_eq_true hc12)) rfl) ?_
      refine AO.c (Calm.move rfl rfl) ?_
      refine AO.c (Calm.pickT rfl rfl rfl) ?_
      refine AO.c (Calm.assign rfl rfl) ?_
      cases hq6
      refine AO.nilE ⟨rfl, rfl⟩ ?_ ?_
      · exact ⟨rfl, trivial⟩
      · exact (Sub.nil _)
     ·refine AO.c (Calm.pickF rfl (bD (decide_eq_false hc12)) rfl) ?_
      refine AO.c (Calm.move rfl rfl) ?_
      refine AO.c (Calm.pickF rfl rfl rfl) ?_
      refine AO.c (Calm.assign rfl rfl) ?_
      cases hq6
      refine AO.nilE ⟨rfl, rfl⟩ ?_ ?_
      · exact ⟨rfl, trivial⟩
      · exact (Sub.nil _)
    ·refine AO.sT rfl rfl (bD (decide_eq_false hc10)) ?_
     refine AO.sT rfl rfl (bD (decide_eq_false hc10)) ?_
     refine AO.sT rfl rfl (bD (decide_eq_false hc10)) ?_
     refine AO.c (Calm.pickF rfl (bD (decide_eq_false hc10)) rfl) ?_
     refine AO.c (Calm.move rfl rfl) ?_
     refine AO.c (Calm.pickF rfl rfl rfl) ?_
     refine AO.c (Calm.move rfl rfl) ?_
     refine AO.c (Calm.pickF rfl rfl rfl) ?_
     refine AO.c (Calm.assign rfl rfl) ?_
     cases hq6
     refine AO.nilE ⟨rfl, rfl⟩ ?_ ?_
     · exact ⟨rfl, trivial⟩
     · exact (Sub.nil _)
   ·refine AO.sT rfl rfl (bD (eq_false_of_ne_true hc8)) ?_
    refine AO.sT rfl rfl (bD (eq_false_of_ne_true hc8)) ?_
    refine AO.sT rfl rfl (bD (eq_false_of_ne_true hc8)) ?_
    refine AO.c (Calm.pickF rfl (bD (eq_false_of_ne_true hc8)) rfl) ?_
    refine AO.c (Calm.move rfl rfl) ?_
    refine AO.sT rfl rfl rfl ?_
    refine AO.sT rfl rfl rfl ?_
    refine AO.sT rfl rfl rfl ?_
    refine AO.c (Calm.pickF rfl rfl rfl) ?_
    refine AO.c (Calm.move rfl rfl) ?_
    refine AO.c (Calm.pickF rfl rfl rfl) ?_
    refine AO.c (Calm.move rfl rfl) ?_
    refine AO.c (Calm.pickF rfl rfl rfl) ?_
    refine AO.c (Calm.assign rfl rfl) ?_
    cases hq6
    refine AO.nilE ⟨rfl, rfl⟩ ?_ ?_
    · exact ⟨rfl, trivial⟩
    · exact (Sub.nil _)
  ·refine AW.rK [0] ?_
   have hr := Option.some.inj h
   subst hr
   exact ⟨[(eBool b5)], ⟨rfl, rfl, trivial⟩, rfl⟩
end Go.Avl.T3
/- bosket/bosketlaw08.DfaKeeps; printed by avmain.py. -/
namespace Go.Avl.T3
open Go Go.RowKit Go.Proofs Go.Avl
set_option linter.unusedVariables false
set_option maxRecDepth 100000
set_option maxHeartbeats 4000000
set_option linter.unusedSimpArgs false
attribute [local irreducible] AW AO AQ Spec SpecH Calm

def bosketlaw08_DfaKeeps (k : Nat) (p0 : S50) (p1 : ByteArray) (p2 : (Vector Int 2)) : Option Bool :=
  (bosketlaw08_awake k).bind fun t6 =>
  if (!t6) = true then some (false)
  else Option.bind (α := Bool) ((bosketlaw08_Small k p0).bind fun t10 =>
  if (!t10) = true then some (true)
  else (bosketref08_Right k p0).bind fun t12 =>
  if (!t12) = true then some (true)
  else some (decide ((30 : Int) < (p1.size : Int)))) fun b8 =>
  if b8 = true then some (true)
  else (dfa_Has k p0 p1).bind fun t15 =>
  (dfa_Trim k p0).bind fun t16 =>
  (dfa_Order k t16).bind fun t17 =>
  Option.bind (α := Bool) ((dfa_Trim k p0).bind fun t21 =>
  (dfa_Has k t21 p1).bind fun t22 =>
  if t22 ≠ t15 then some (true)
  else (dfa_Order k p0).bind fun t24 =>
  (dfa_Has k t24 p1).bind fun t25 =>
  if t25 ≠ t15 then some (true)
  else (dfa_Has k t17 p1).bind fun t27 =>
  if t27 ≠ t15 then some (true)
  else (dfa_Right k t17).bind fun t29 =>
  if (!t29) = true then some (true)
  else some (decide ((p0.f1.length : Int) < (t17.f1.length : Int)))) fun b19 =>
  if b19 = true then some (false)
  else (bosketref08_Trim_own k p0).bind fun t32 =>
  if (t32.f2.length : Int) ≠ 0 then if 0 ≤ ((w64 (vget p2 (0 : Int))).tmod (t32.f2.length : Int)) ∧ ((w64 (vget p2 (0 : Int))).tmod (t32.f2.length : Int)) < (t32.f2.length : Int) then if 0 ≤ ((w64 (vget p2 (0 : Int))).tmod (t32.f2.length : Int)) ∧ ((w64 (vget p2 (0 : Int))).tmod (t32.f2.length : Int)) < (t32.f2.length : Int) then Option.bind (α := Bool) ((bosketref08_Trim k p0).bind fun t41 =>
  (dfa_Same k (S50.mk t32.f0 t32.f1 (lset t32.f2 ((w64 (vget p2 (0 : Int))).tmod (t32.f2.length : Int)) (w64 ((lget t32.f2 ((w64 (vget p2 (0 : Int))).tmod (t32.f2.length : Int))) + (1 : Int))))) t41).bind fun t42 =>
  if (!t42) = true then (bosketref08_Trim k p0).bind fun t44 =>
  (dfa_Same k t44 (S50.mk t32.f0 t32.f1 (lset t32.f2 ((w64 (vget p2 (0 : Int))).tmod (t32.f2.length : Int)) (w64 ((lget t32.f2 ((w64 (vget p2 (0 : Int))).tmod (t32.f2.length : Int))) + (1 : Int)))))).bind fun t45 =>
  some (!t45)
  else some (false)) fun b39 =>
  some (b39)
  else none
  else none
  else none
theorem bosketlaw08_DfaKeeps_spec {k : Nat} {p0 : S50} {p1 : ByteArray} {p2 : (Vector Int 2)} {r : Bool} (h : bosketlaw08_DfaKeeps k p0 p1 p2 = some r) : Spec Try.prog 5 [(e50 p0), (eStr p1), (.ar 1 (p2.toList.map eU8))] (eBool r) := by
  rw [bosketlaw08_DfaKeeps.eq_1] at h
  refine Spec.intro (res := [.tmp 6]) Try.func5 rfl rfl rfl (Nat.le_of_ble_eq_true rfl) ?_
  refine AW.sr ?_
  refine AO.box rfl 3 rfl (by decide) rfl rfl rfl fun n4 => ?_
  refine AO.box rfl 5 rfl (by decide) rfl rfl rfl fun n5 => ?_
  refine AO.c (Calm.assign rfl rfl) ?_
  refine AO.nH [1, 3, 5] (H' := [(n4, (.mem (e50 p0))), (n5, (.mem (.ar 1 (p2.toList.map eU8))))]) (Sub.cons 1 rfl (Sub.cons 0 rfl (Sub.nil _))) ?_
  refine AW.seq ?_
  refine AW.sr ?_
  obtain ⟨t6, et6, h⟩ := of_bind h
  refine AO.callS [] (eBool t6) 11 rfl (by decide) ok21 rfl rfl rfl trivial (bosketlaw08_awake_spec et6) ?_
  refine AO.c (Calm.not rfl rfl) ?_
  refine AO.nK [1, 3, 5, 12] ?_
  rcases of_ite h with ⟨hc7, h⟩ | ⟨hc7, h⟩
  ·refine AW.condT' _ rfl hc7 ?_
   refine AW.sr ?_
   refine AO.c (Calm.assign rfl rfl) ?_
   refine AO.nH [6] (H' := []) (Sub.nil _) ?_
   refine AW.rK [6] ?_
   have hr := Option.some.inj h
   subst hr
   exact ⟨[(eBool false)], ⟨rfl, rfl, trivial⟩, rfl⟩
  ·refine AW.condF' _ rfl hc7 ?_
   refine AW.sK [1, 3, 5] ?_
   refine AW.seq ?_
   refine AW.seq ?_
   obtain ⟨b8, hq9, h⟩ := of_bind h
   refine AW.regM [(1, (eStr p1)), (3, (.ptr n4 0)), (5, (.ptr n5 0)), (25, (eBool b8))] [(n4, (.mem (e50 p0))), (n5, (.mem (.ar 1 (p2.toList.map eU8))))] ?_ ?_
   ·refine AO.c (Calm.load 0 rfl rfl rfl (At.cast At.here rfl) ag50 sz50) ?_
    obtain ⟨t10, et10, hq9⟩ := of_bind hq9
    refine AO.callS [(e50 p0)] (eBool t10) 14 rfl (by decide) ok22 rfl rfl rfl ⟨rfl, rfl, trivial⟩ (bosketlaw08_Small_spec et10) ?_
    refine AO.c (Calm.not rfl rfl) ?_
    refine AO.c (Calm.move rfl rfl) ?_
    rcases of_ite hq9 with ⟨hc11, hq9⟩ | ⟨hc11, hq9⟩
    ·refine AO.sF rfl rfl (bD hc11) ?_
     refine AO.sF rfl rfl (bD hc11) ?_
     refine AO.sF rfl rfl (bD hc11) ?_
     refine AO.c (Calm.pickT rfl (bD hc11) rfl) ?_
     refine AO.c (Calm.move rfl rfl) ?_
     refine AO.sF rfl rfl rfl ?_
     refine AO.sF rfl rfl rfl ?_
     refine AO.sF rfl rfl rfl ?_
     refine AO.c (Calm.pickT rfl rfl rfl) ?_
     cases hq9
     refine AO.nilE ⟨rfl, rfl⟩ ?_ ?_
     · exact ⟨rfl, rfl, rfl, rfl, trivial⟩
     · exact (Sub.refl _)
    ·refine AO.cG rfl rfl (bD (eq_false_of_ne_true hc11)) (Calm.load 0 rfl rfl rfl (At.cast At.here rfl) ag50 sz50) ?_
     obtain ⟨t12, et12, hq9⟩ := of_bind hq9
     refine AO.callG 3 false 16 [(e50 p0)] (eBool t12) 18 rfl (by decide) ok23 rfl rfl (bD (eq_false_of_ne_true hc11)) rfl rfl ⟨rfl, rfl, trivial⟩ (bosketref08_Right_spec et12) ?_
     refine AO.cG rfl rfl (bD (eq_false_of_ne_true hc11)) (Calm.not rfl rfl) ?_
     refine AO.c (Calm.pickF rfl (bD (eq_false_of_ne_true hc11)) rfl) ?_
     refine AO.c (Calm.move rfl rfl) ?_
     rcases of_ite hq9 with ⟨hc13, hq9⟩ | ⟨hc13, hq9⟩
     ·refine AO.sF rfl rfl (bD hc13) ?_
      refine AO.sF rfl rfl (bD hc13) ?_
      refine AO.sF rfl rfl (bD hc13) ?_
      refine AO.c (Calm.pickT rfl (bD hc13) rfl) ?_
      cases hq9
      refine AO.nilE ⟨rfl, rfl⟩ ?_ ?_
      · exact ⟨rfl, rfl, rfl, rfl, trivial⟩
      · exact (Sub.refl _)
     ·refine AO.cG rfl rfl (bD (eq_false_of_ne_true hc13)) (Calm.move rfl rfl) ?_
      refine AO.cG rfl rfl (bD (eq_false_of_ne_true hc13)) (Calm.lenStr rfl rfl Try.underlying9) ?_
      refine AO.cG (x := eBool (decide ((30 : Int) < (p1.size : Int)))) rfl rfl (bD (eq_false_of_ne_true hc13)) (Calm.int rfl rfl rfl rfl) ?_
      refine AO.c (Calm.pickF rfl (bD (eq_false_of_ne_true hc13)) rfl) ?_
      cases hq9
      refine AO.nilE ⟨rfl, rfl⟩ ?_ ?_
      · exact ⟨rfl, rfl, rfl, rfl, trivial⟩
      · exact (Sub.refl _)
   ·rcases of_ite h with ⟨hc14, h⟩ | ⟨hc14, h⟩
    ·refine AW.condT' _ rfl hc14 ?_
     refine AW.sr ?_
     refine AO.c (Calm.assign rfl rfl) ?_
     refine AO.nH [6] (H' := []) (Sub.nil _) ?_
     refine AW.rK [6] ?_
     have hr := Option.some.inj h
     subst hr
     exact ⟨[(eBool true)], ⟨rfl, rfl, trivial⟩, rfl⟩
    ·refine AW.condF' _ rfl hc14 ?_
     refine AW.sK [1, 3, 5] ?_
     refine AW.sr ?_
     refine AO.c (Calm.load 0 rfl rfl rfl (At.cast At.here rfl) ag50 sz50) ?_
     refine AO.c (Calm.move rfl rfl) ?_
     obtain ⟨t15, et15, h⟩ := of_bind h
     refine AO.callS [(e50 p0), (eStr p1)] (eI64 t15) 28 rfl (by decide) ok24 rfl rfl rfl ⟨rfl, rfl, rfl, rfl, trivial⟩ (dfa_Has_spec et15) ?_
     refine AO.c (Calm.assign rfl rfl) ?_
     refine AO.nK [1, 3, 5, 7] ?_
     refine AW.sr ?_
     refine AO.c (Calm.load 0 rfl rfl rfl (At.cast At.here rfl) ag50 sz50) ?_
     obtain ⟨t16, et16, h⟩ := of_bind h
     refine AO.callS [(e50 p0)] (e50 t16) 30 rfl (by decide) ok26 rfl rfl rfl ⟨rfl, rfl, trivial⟩ (dfa_Trim_spec et16) ?_
     obtain ⟨t17, et17, h⟩ := of_bind h
     refine AO.callS [(e50 t16)] (e50 t17) 31 rfl (by decide) ok25 rfl rfl rfl ⟨rfl, rfl, trivial⟩ (dfa_Order_spec et17) ?_
     refine AO.alloc rfl 8 rfl (by decide) rfl zr50 lay50 fun n18 => ?_
     refine AO.store (X' := (e50 t17)) 0 rfl rfl rfl rfl rfl rfl (Put.cast Put.here rfl) rfl rfl sz50 rfl ?_
     refine AO.nH [1, 3, 5, 7, 8] (H' := [(n4, (.mem (e50 p0))), (n5, (.mem (.ar 1 (p2.toList.map eU8)))), (n18, (.mem (e50 t17)))]) (Sub.cons 1 rfl (Sub.cons 1 rfl (Sub.cons 0 rfl (Sub.nil _)))) ?_
     refine AW.seq ?_
     refine AW.seq ?_
     obtain ⟨b19, hq20, h⟩ := of_bind h
     refine AW.regM [(3, (.ptr n4 0)), (5, (.ptr n5 0)), (66, (eBool b19))] [(n4, (.mem (e50 p0))), (n5, (.mem (.ar 1 (p2.toList.map eU8))))] ?_ ?_
     ·refine AO.c (Calm.load 0 rfl rfl rfl (At.cast At.here rfl) ag50 sz50) ?_
      obtain ⟨t21, et21, hq20⟩ := of_bind hq20
      refine AO.callS [(e50 p0)] (e50 t21) 33 rfl (by decide) ok26 rfl rfl rfl ⟨rfl, rfl, trivial⟩ (dfa_Trim_spec et21) ?_
      refine AO.c (Calm.move rfl rfl) ?_
      obtain ⟨t22, et22, hq20⟩ := of_bind hq20
      refine AO.callS [(e50 t21), (eStr p1)] (eI64 t22) 35 rfl (by decide) ok24 rfl rfl rfl ⟨rfl, rfl, rfl, rfl, trivial⟩ (dfa_Has_spec et22) ?_
      refine AO.c (Calm.move rfl rfl) ?_
      refine AO.c (x := eBool (decide (t22 ≠ t15))) (Calm.int rfl rfl rfl rfl) ?_
      refine AO.c (Calm.move rfl rfl) ?_
      rcases of_ite hq20 with ⟨hc23, hq20⟩ | ⟨hc23, hq20⟩
      ·refine AO.sF rfl rfl (bD (decide_eq_true hc23)) ?_
       refine AO.sF rfl rfl (bD (decide_eq_true hc23)) ?_
       refine AO.sF rfl rfl (bD (decide_eq_true hc23)) ?_
       refine AO.sF rfl rfl (bD (decide_eq_true hc23)) ?_
       refine AO.sF rfl rfl (bD (decide_eq_true hc23)) ?_
       refine AO.sF rfl rfl (bD (decide_eq_true hc23)) ?_
       refine AO.c (Calm.pickT rfl (bD (decide_eq_true hc23)) rfl) ?_
       refine AO.c (Calm.move rfl rfl) ?_
       refine AO.sF rfl rfl rfl ?_
       refine AO.sF rfl rfl rfl ?_
       refine AO.sF rfl rfl rfl ?_
       refine AO.sF rfl rfl rfl ?_
       refine AO.sF rfl rfl rfl ?_
       refine AO.c (Calm.pickT rfl rfl rfl) ?_
       refine AO.c (Calm.move rfl rfl) ?_
       refine AO.sF rfl rfl rfl ?_
       refine AO.sF rfl rfl rfl ?_
       refine AO.sF rfl rfl rfl ?_
       refine AO.c (Calm.pickT rfl rfl rfl) ?_
       refine AO.c (Calm.move rfl rfl) ?_
       refine AO.sF rfl rfl rfl ?_
       refine AO.sF rfl rfl rfl ?_
       refine AO.sF rfl rfl rfl ?_
       refine AO.sF rfl rfl rfl ?_
       refine AO.sF rfl rfl rfl ?_
       refine AO.sF rfl rfl rfl ?_
       refine AO.sF rfl rfl rfl ?_
       refine AO.c (Calm.pickT rfl rfl rfl) ?_
       cases hq20
       refine AO.nilE ⟨rfl, rfl⟩ ?_ ?_
       · exact ⟨rfl, rfl, rfl, trivial⟩
       · exact (Sub.cons 0 rfl (Sub.cons 0 rfl (Sub.nil _)))
      ·refine AO.cG rfl rfl (bD (decide_eq_false hc23)) (Calm.load 0 rfl rfl rfl (At.cast At.here rfl) ag50 sz50) ?_
       obtain ⟨t24, et24, hq20⟩ := of_bind hq20
       refine AO.callG 6 false 38 [(e50 p0)] (e50 t24) 40 rfl (by decide) ok25 rfl rfl (bD (decide_eq_false hc23)) rfl rfl ⟨rfl, rfl, trivial⟩ (dfa_Order_spec et24) ?_
       refine AO.cG rfl rfl (bD (decide_eq_false hc23)) (Calm.move rfl rfl) ?_
       obtain ⟨t25, et25, hq20⟩ := of_bind hq20
       refine AO.callG 6 false 38 [(e50 t24), (eStr p1)] (eI64 t25) 42 rfl (by decide) ok24 rfl rfl (bD (decide_eq_false hc23)) rfl rfl ⟨rfl, rfl, rfl, rfl, trivial⟩ (dfa_Has_spec et25) ?_
       refine AO.cG rfl rfl (bD (decide_eq_false hc23)) (Calm.move rfl rfl) ?_
       refine AO.cG (x := eBool (decide (t25 ≠ t15))) rfl rfl (bD (decide_eq_false hc23)) (Calm.int rfl rfl rfl rfl) ?_
       refine AO.c (Calm.pickF rfl (bD (decide_eq_false hc23)) rfl) ?_
       refine AO.c (Calm.move rfl rfl) ?_
       rcases of_ite hq20 with ⟨hc26, hq20⟩ | ⟨hc26, hq20⟩
       ·refine AO.sF rfl rfl (bD (decide_eq_true hc26)) ?_
        refine AO.sF rfl rfl (bD (decide_eq_true hc26)) ?_
        refine AO.sF rfl rfl (bD (decide_eq_true hc26)) ?_
        refine AO.sF rfl rfl (bD (decide_eq_true hc26)) ?_
        refine AO.sF rfl rfl (bD (decide_eq_true hc26)) ?_
        refine AO.c (Calm.pickT rfl (bD (decide_eq_true hc26)) rfl) ?_
        refine AO.c (Calm.move rfl rfl) ?_
        refine AO.sF rfl rfl rfl ?_
        refine AO.sF rfl rfl rfl ?_
        refine AO.sF rfl rfl rfl ?_
        refine AO.c (Calm.pickT rfl rfl rfl) ?_
        refine AO.c (Calm.move rfl rfl) ?_
        refine AO.sF rfl rfl rfl ?_
        refine AO.sF rfl rfl rfl ?_
        refine AO.sF rfl rfl rfl ?_
        refine AO.sF rfl rfl rfl ?_
        refine AO.sF rfl rfl rfl ?_
        refine AO.sF rfl rfl rfl ?_
        refine AO.sF rfl rfl rfl ?_
        refine AO.c (Calm.pickT rfl rfl rfl) ?_
        cases hq20
        refine AO.nilE ⟨rfl, rfl⟩ ?_ ?_
        · exact ⟨rfl, rfl, rfl, trivial⟩
        · exact (Sub.cons 0 rfl (Sub.cons 0 rfl (Sub.nil _)))
       ·refine AO.cG rfl rfl (bD (decide_eq_false hc26)) (Calm.load 2 rfl rfl rfl (At.cast At.here rfl) ag50 sz50) ?_
        refine AO.cG rfl rfl (bD (decide_eq_false hc26)) (Calm.move rfl rfl) ?_
        obtain ⟨t27, et27, hq20⟩ := of_bind hq20
        refine AO.callG 14 false 46 [(e50 t17), (eStr p1)] (eI64 t27) 49 rfl (by decide) ok24 rfl rfl (bD (decide_eq_false hc26)) rfl rfl ⟨rfl, rfl, rfl, rfl, trivial⟩ (dfa_Has_spec et27) ?_
        refine AO.cG rfl rfl (bD (decide_eq_false hc26)) (Calm.move rfl rfl) ?_
        refine AO.cG (x := eBool (decide (t27 ≠ t15))) rfl rfl (bD (decide_eq_false hc26)) (Calm.int rfl rfl rfl rfl) ?_
        refine AO.c (Calm.pickF rfl (bD (decide_eq_false hc26)) rfl) ?_
        refine AO.c (Calm.move rfl rfl) ?_
        rcases of_ite hq20 with ⟨hc28, hq20⟩ | ⟨hc28, hq20⟩
        ·refine AO.sF rfl rfl (bD (decide_eq_true hc28)) ?_
         refine AO.sF rfl rfl (bD (decide_eq_true hc28)) ?_
         refine AO.sF rfl rfl (bD (decide_eq_true hc28)) ?_
         refine AO.c (Calm.pickT rfl (bD (decide_eq_true hc28)) rfl) ?_
         refine AO.c (Calm.move rfl rfl) ?_
         refine AO.sF rfl rfl rfl ?_
         refine AO.sF rfl rfl rfl ?_
         refine AO.sF rfl rfl rfl ?_
         refine AO.sF rfl rfl rfl ?_
         refine AO.sF rfl rfl rfl ?_
         refine AO.sF rfl rfl rfl ?_
         refine AO.sF rfl rfl rfl ?_
         refine AO.c (Calm.pickT rfl rfl rfl) ?_
         cases hq20
         refine AO.nilE ⟨rfl, rfl⟩ ?_ ?_
         · exact ⟨rfl, rfl, rfl, trivial⟩
         · exact (Sub.cons 0 rfl (Sub.cons 0 rfl (Sub.nil _)))
        ·refine AO.cG rfl rfl (bD (decide_eq_false hc28)) (Calm.load 2 rfl rfl rfl (At.cast At.here rfl) ag50 sz50) ?_
         obtain ⟨t29, et29, hq20⟩ := of_bind hq20
         refine AO.callG 21 false 53 [(e50 t17)] (eBool t29) 55 rfl (by decide) ok27 rfl rfl (bD (decide_eq_false hc28)) rfl rfl ⟨rfl, rfl, trivial⟩ (dfa_Right_spec et29) ?_
         refine AO.cG rfl rfl (bD (decide_eq_false hc28)) (Calm.not rfl rfl) ?_
         refine AO.c (Calm.pickF rfl (bD (decide_eq_false hc28)) rfl) ?_
         refine AO.c (Calm.move rfl rfl) ?_
         rcases of_ite hq20 with ⟨hc30, hq20⟩ | ⟨hc30, hq20⟩
         ·refine AO.sF rfl rfl (bD hc30) ?_
          refine AO.sF rfl rfl (bD hc30) ?_
          refine AO.sF rfl rfl (bD hc30) ?_
          refine AO.sF rfl rfl (bD hc30) ?_
          refine AO.sF rfl rfl (bD hc30) ?_
          refine AO.sF rfl rfl (bD hc30) ?_
          refine AO.sF rfl rfl (bD hc30) ?_
          refine AO.c (Calm.pickT rfl (bD hc30) rfl) ?_
          cases hq20
          refine AO.nilE ⟨rfl, rfl⟩ ?_ ?_
          · exact ⟨rfl, rfl, rfl, trivial⟩
          · exact (Sub.cons 0 rfl (Sub.cons 0 rfl (Sub.nil _)))
         ·refine AO.cG (x := .ptr n18 256) rfl rfl (bD (eq_false_of_ne_true hc30)) (Calm.fldPtr rfl rfl Try.underlying50 rfl sz48 _ rfl) ?_
          refine AO.cG rfl rfl (bD (eq_false_of_ne_true hc30)) (Calm.load 2 rfl rfl rfl (At.cast (At.fldS (At.fld0 At.here)) rfl) ag48 sz48) ?_
          refine AO.cG rfl rfl (bD (eq_false_of_ne_true hc30)) (Calm.lenL rfl rfl Try.underlying48) ?_
          refine AO.cG (x := .ptr n4 256) rfl rfl (bD (eq_false_of_ne_true hc30)) (Calm.fldPtr rfl rfl Try.underlying50 rfl sz48 _ rfl) ?_
          refine AO.cG rfl rfl (bD (eq_false_of_ne_true hc30)) (Calm.load 0 rfl rfl rfl (At.cast (At.fldS (At.fld0 At.here)) rfl) ag48 sz48) ?_
          refine AO.cG rfl rfl (bD (eq_false_of_ne_true hc30)) (Calm.lenL rfl rfl Try.underlying48) ?_
          refine AO.cG (x := eBool (decide ((p0.f1.length : Int) < (t17.f1.length : Int)))) rfl rfl (bD (eq_false_of_ne_true hc30)) (Calm.int rfl rfl rfl rfl) ?_
          refine AO.c (Calm.pickF rfl (bD (eq_false_of_ne_true hc30)) rfl) ?_
          cases hq20
          refine AO.nilE ⟨rfl, rfl⟩ ?_ ?_
          · exact ⟨rfl, rfl, rfl, trivial⟩
          · exact (Sub.cons 0 rfl (Sub.cons 0 rfl (Sub.nil _)))
     ·rcases of_ite h with ⟨hc31, h⟩ | ⟨hc31, h⟩
      ·refine AW.condT' _ rfl hc31 ?_
       refine AW.sr ?_
       refine AO.c (Calm.assign rfl rfl) ?_
       refine AO.nH [6] (H' := []) (Sub.nil _) ?_
       refine AW.rK [6] ?_
       have hr := Option.some.inj h
       subst hr
       exact ⟨[(eBool false)], ⟨rfl, rfl, trivial⟩, rfl⟩
      ·refine AW.condF' _ rfl hc31 ?_
       refine AW.sK [3, 5] ?_
       refine AW.sr ?_
       refine AO.c (Calm.load 0 rfl rfl rfl (At.cast At.here rfl) ag50 sz50) ?_
       obtain ⟨t32, et32, h⟩ := of_bind h
       refine AO.callH [(e50 p0)] [(n4, (.mem (e50 p0))), (n5, (.mem (.ar 1 (p2.toList.map eU8))))] _ rfl rfl rfl 68 rfl (by decide) ok28 ⟨rfl, rfl, trivial⟩ (Sub.refl _) (bosketref08_Trim_own_spec et32) ?_
       rintro _ _ ⟨n34, rfl, hs33⟩
       refine AO.wH [3, 5, 67, 68] hs33 ?_
       refine AO.alloc rfl 9 rfl (by decide) rfl zr50 lay50 fun n35 => ?_
       refine AO.store (X' := (.st [(256, (.ar 1 (t32.f0.toList.map eU8))), (1, (.fz 1 (t32.f1.map e43))), (1, (.own n34 0 t32.f2.length))])) 0 rfl rfl rfl rfl rfl rfl (Put.cast Put.here rfl) rfl rfl sz50 rfl ?_
       refine AO.nH [3, 5, 9] (H' := [(n4, (.mem (e50 p0))), (n5, (.mem (.ar 1 (p2.toList.map eU8)))), (n35, (.mem (.st [(256, (.ar 1 (t32.f0.toList.map eU8))), (1, (.fz 1 (t32.f1.map e43))), (1, (.own n34 0 t32.f2.length))]))), (n34, (.mem (.ar 1 (t32.f2.map eI64))))]) (Sub.cons 2 rfl (Sub.cons 2 rfl (Sub.cons 0 rfl (Sub.cons 0 rfl (Sub.nil _))))) ?_
       refine AW.sr ?_
       refine AO.c (Calm.idxP rfl rfl rfl (by decide) Try.underlying51 sz5) ?_
       refine AO.c (Calm.load 1 rfl rfl rfl (At.cast (At.vidx (0 : Int) (by decide) (by decide) At.here) (by omega)) ag5 sz5) ?_
       refine AO.c (x := eI64 (w64 (vget p2 (0 : Int)))) (Calm.conv rfl rfl Try.underlying5 Try.underlying3) ?_
       refine AO.c (x := .ptr n35 257) (Calm.fldPtr rfl rfl Try.underlying50 rfl sz43 _ rfl) ?_
       refine AO.c (Calm.load 2 rfl rfl rfl (At.cast (At.fldS (At.fldS (At.fld0 At.here))) rfl) ag43 sz43) ?_
       refine AO.c (Calm.lenOwn rfl rfl Try.underlying43) ?_
       obtain ⟨hg36, h⟩ := of_guard h
       refine AO.c (x := eI64 ((w64 (vget p2 (0 : Int))).tmod (t32.f2.length : Int))) (Calm.rem rfl rfl rfl hg36) ?_
       refine AO.c (Calm.assign rfl rfl) ?_
       refine AO.nH [3, 9, 10] (H' := [(n4, (.mem (e50 p0))), (n35, (.mem (.st [(256, (.ar 1 (t32.f0.toList.map eU8))), (1, (.fz 1 (t32.f1.map e43))), (1, (.own n34 0 t32.f2.length))]))), (n34, (.mem (.ar 1 (t32.f2.map eI64))))]) (Sub.cons 0 rfl (Sub.cons 1 rfl (Sub.cons 1 rfl (Sub.nil _)))) ?_
       refine AW.seq ?_
       obtain ⟨hg37, h⟩ := of_guard h
       obtain ⟨hg38, h⟩ := of_guard h
       refine AW.regEff (by rfl) (by decide +kernel) (fun (σ : Nat → Nat) => ([(.ptr n35 257), (.own n34 0 t32.f2.length), (eI64 ((w64 (vget p2 (0 : Int))).tmod (t32.f2.length : Int))), (.ptr n35 257), (.own n34 0 t32.f2.length), (eI64 ((w64 (vget p2 (0 : Int))).tmod (t32.f2.length : Int))), (.ptr n34 (((w64 (vget p2 (0 : Int))).tmod (t32.f2.length : Int)).toNat * 1 + 0)), (eI64 (lget t32.f2 ((w64 (vget p2 (0 : Int))).tmod (t32.f2.length : Int)))), (eI64 (w64 ((lget t32.f2 ((w64 (vget p2 (0 : Int))).tmod (t32.f2.length : Int))) + (1 : Int)))), (.ptr n34 (((w64 (vget p2 (0 : Int))).tmod (t32.f2.length : Int)).toNat * 1 + 0)), (.fl undef)] : List AV)) (fun (L : Nat → Bool) (σ : Nat → Nat) => ((n4, (.mem (e50 p0))) :: (n35, (.mem (.st [(256, (.ar 1 (t32.f0.toList.map eU8))), (1, (.fz 1 (t32.f1.map e43))), (1, (.own n34 0 t32.f2.length))]))) :: (bif L 10 then ((n34, (.mem (.ar 1 ((lset t32.f2 ((w64 (vget p2 (0 : Int))).tmod (t32.f2.length : Int)) (w64 ((lget t32.f2 ((w64 (vget p2 (0 : Int))).tmod (t32.f2.length : Int))) + (1 : Int)))).map eI64)))) :: []) else ((n34, (.mem (.ar 1 (t32.f2.map eI64)))) :: [])) : Heap)) [(3, (.ptr n4 0)), (9, (.ptr n35 0)), (10, (eI64 ((w64 (vget p2 (0 : Int))).tmod (t32.f2.length : Int))))] ⟨rfl, rfl, rfl, trivial⟩ (fun _ => rfl) (fun σ => (Sub.refl _)) ⟨?_, ?_, ?_, ?_, ?_, ?_, ?_, ?_, ?_, ?_, ?_, trivial⟩ (fun σ => [(3, (.ptr n4 0)), (9, (.ptr n35 0))]) (fun σ => ((n4, (.mem (e50 p0))) :: (n35, (.mem (.st [(256, (.ar 1 (t32.f0.toList.map eU8))), (1, (.fz 1 (t32.f1.map e43))), (1, (.own n34 0 t32.f2.length))]))) :: (n34, (.mem (.ar 1 ((lset t32.f2 ((w64 (vget p2 (0 : Int))).tmod (t32.f2.length : Int)) (w64 ((lget t32.f2 ((w64 (vget p2 (0 : Int))).tmod (t32.f2.length : Int))) + (1 : Int)))).map eI64)))) :: [])) (fun σ => ⟨rfl, rfl, trivial⟩) (fun σ => Sub.refl _) (fun σ => ?_)
       ·refine StepE.calm (fun _ _ => rfl) fun L σ hc hi hd => ?_
        refine AO.wK [9] ?_
        refine AO.c (x := .ptr n35 257) (Calm.fldPtr rfl rfl Try.underlying50 rfl sz43 _ rfl) ?_
        exact AO.nE (d := 76) rfl ⟨⟨76, _, rfl, rfl, rfl⟩, Sub.refl _⟩
       ·refine StepE.calm (fun _ _ => rfl) fun L σ hc hi hd => ?_
        refine AO.wK [76] ?_
        refine AO.c (Calm.load 1 rfl rfl rfl (At.cast (At.fldS (At.fldS (At.fld0 At.here))) rfl) ag43 sz43) ?_
        exact AO.nE (d := 77) rfl ⟨⟨77, _, rfl, rfl, rfl⟩, Sub.refl _⟩
       ·refine StepE.calm (fun _ _ => rfl) fun L σ hc hi hd => ?_
        refine AO.wK [10] ?_
        refine AO.c (Calm.move rfl rfl) ?_
        exact AO.nE (d := 78) rfl ⟨⟨78, _, rfl, rfl, rfl⟩, Sub.refl _⟩
       ·refine StepE.calm (fun _ _ => rfl) fun L σ hc hi hd => ?_
        refine AO.wK [9] ?_
        refine AO.c (x := .ptr n35 257) (Calm.fldPtr rfl rfl Try.underlying50 rfl sz43 _ rfl) ?_
        exact AO.nE (d := 79) rfl ⟨⟨79, _, rfl, rfl, rfl⟩, Sub.refl _⟩
       ·refine StepE.calm (fun _ _ => rfl) fun L σ hc hi hd => ?_
        refine AO.wK [79] ?_
        refine AO.c (Calm.load 1 rfl rfl rfl (At.cast (At.fldS (At.fldS (At.fld0 At.here))) rfl) ag43 sz43) ?_
        exact AO.nE (d := 80) rfl ⟨⟨80, _, rfl, rfl, rfl⟩, Sub.refl _⟩
       ·refine StepE.calm (fun _ _ => rfl) fun L σ hc hi hd => ?_
        refine AO.wK [10] ?_
        refine AO.c (Calm.move rfl rfl) ?_
        exact AO.nE (d := 81) rfl ⟨⟨81, _, rfl, rfl, rfl⟩, Sub.refl _⟩
       ·refine StepE.calm (fun _ _ => rfl) fun L σ hc hi hd => ?_
        have m10 : L 10 = false := hc.neg (i := 6) (j := 10) rfl (by rfl) hi
        refine AO.heq (H' := ((n4, (.mem (e50 p0))) :: (n35, (.mem (.st [(256, (.ar 1 (t32.f0.toList.map eU8))), (1, (.fz 1 (t32.f1.map e43))), (1, (.own n34 0 t32.f2.length))]))) :: (n34, (.mem (.ar 1 (t32.f2.map eI64)))) :: [])) (by first | rfl | simp only [m10, cond_true, cond_false]) ?_
        refine AO.wK [80, 81] ?_
        refine AO.c (Calm.idxO 2 rfl rfl rfl rfl hg37 Try.underlying43 sz3) ?_
        exact AO.nE (d := 82) rfl ⟨⟨82, _, rfl, rfl, rfl⟩, Sub.of_eq (by first | rfl | simp only [m10, cond_true, cond_false]) (Sub.refl _)⟩
       ·refine StepE.calm (fun _ _ => rfl) fun L σ hc hi hd => ?_
        have m10 : L 10 = false := hc.neg (i := 7) (j := 10) rfl (by rfl) hi
        refine AO.heq (H' := ((n4, (.mem (e50 p0))) :: (n35, (.mem (.st [(256, (.ar 1 (t32.f0.toList.map eU8))), (1, (.fz 1 (t32.f1.map e43))), (1, (.own n34 0 t32.f2.length))]))) :: (n34, (.mem (.ar 1 (t32.f2.map eI64)))) :: [])) (by first | rfl | simp only [m10, cond_true, cond_false]) ?_
        refine AO.wK [82] ?_
        refine AO.c (Calm.load 2 rfl rfl rfl (At.cast (At.lidx ((w64 (vget p2 (0 : Int))).tmod (t32.f2.length : Int)) hg37.1 hg37.2 At.here) (by omega)) ag3 sz3) ?_
        exact AO.nE (d := 83) rfl ⟨⟨83, _, rfl, rfl, rfl⟩, Sub.of_eq (by first | rfl | simp only [m10, cond_true, cond_false]) (Sub.refl _)⟩
       ·refine StepE.calm (fun _ _ => rfl) fun L σ hc hi hd => ?_
        refine AO.wK [83] ?_
        refine AO.c (x := eI64 (w64 ((lget t32.f2 ((w64 (vget p2 (0 : Int))).tmod (t32.f2.length : Int))) + (1 : Int)))) (Calm.int rfl rfl rfl rfl) ?_
        exact AO.nE (d := 84) rfl ⟨⟨84, _, rfl, rfl, rfl⟩, Sub.refl _⟩
       ·refine StepE.calm (fun _ _ => rfl) fun L σ hc hi hd => ?_
        have m10 : L 10 = false := hc.neg (i := 9) (j := 10) rfl (by rfl) hi
        refine AO.heq (H' := ((n4, (.mem (e50 p0))) :: (n35, (.mem (.st [(256, (.ar 1 (t32.f0.toList.map eU8))), (1, (.fz 1 (t32.f1.map e43))), (1, (.own n34 0 t32.f2.length))]))) :: (n34, (.mem (.ar 1 (t32.f2.map eI64)))) :: [])) (by first | rfl | simp only [m10, cond_true, cond_false]) ?_
        refine AO.wK [77, 78] ?_
        refine AO.c (Calm.idxO 2 rfl rfl rfl rfl hg38 Try.underlying43 sz3) ?_
        exact AO.nE (d := 85) rfl ⟨⟨85, _, rfl, rfl, rfl⟩, Sub.of_eq (by first | rfl | simp only [m10, cond_true, cond_false]) (Sub.refl _)⟩
       ·intro L σ hc hi hd
        refine AO.heq (H' := ((n4, (.mem (e50 p0))) :: (n35, (.mem (.st [(256, (.ar 1 (t32.f0.toList.map eU8))), (1, (.fz 1 (t32.f1.map e43))), (1, (.own n34 0 t32.f2.length))]))) :: (n34, (.mem (.ar 1 (t32.f2.map eI64)))) :: [])) (by first | rfl | simp only [hi, cond_true, cond_false]) ?_
        refine AO.wK [84, 85] ?_
        refine AO.store (X' := (.ar 1 ((lset t32.f2 ((w64 (vget p2 (0 : Int))).tmod (t32.f2.length : Int)) (w64 ((lget t32.f2 ((w64 (vget p2 (0 : Int))).tmod (t32.f2.length : Int))) + (1 : Int)))).map eI64))) 2 rfl rfl rfl rfl rfl rfl (Put.cast (Put.lidx ((w64 (vget p2 (0 : Int))).tmod (t32.f2.length : Int)) (w64 ((lget t32.f2 ((w64 (vget p2 (0 : Int))).tmod (t32.f2.length : Int))) + (1 : Int))) hg38.1 hg38.2 Put.here) (by omega)) rfl rfl sz3 rfl ?_
        have a10 : addL L 10 10 = true := rfl
        exact AO.n0 ⟨σ, (fun _ _ => rfl), (fun d' hd' => by cases hd'), Sub.of_eq (B := ((n4, (.mem (e50 p0))) :: (n35, (.mem (.st [(256, (.ar 1 (t32.f0.toList.map eU8))), (1, (.fz 1 (t32.f1.map e43))), (1, (.own n34 0 t32.f2.length))]))) :: (n34, (.mem (.ar 1 ((lset t32.f2 ((w64 (vget p2 (0 : Int))).tmod (t32.f2.length : Int)) (w64 ((lget t32.f2 ((w64 (vget p2 (0 : Int))).tmod (t32.f2.length : Int))) + (1 : Int)))).map eI64)))) :: [])) (by simp only [a10, cond_true, cond_false]) (Sub.refl _)⟩
       ·refine AO.coeFld (X' := (.st [(256, (.ar 1 (t32.f0.toList.map eU8))), (1, (.fz 1 (t32.f1.map e43))), (1, (.own n34 0 (lset t32.f2 ((w64 (vget p2 (0 : Int))).tmod (t32.f2.length : Int)) (w64 ((lget t32.f2 ((w64 (vget p2 (0 : Int))).tmod (t32.f2.length : Int))) + (1 : Int)))).length))])) 1 rfl (Put.cast (Put.fldS (Put.fldS (Put.fld0 Put.here))) rfl) rfl (fun _ _ h => own_lenS (by simp [lset, lcopy_len]) h) rfl rfl ?_
        refine AO.nK [3, 9] ?_
        refine AW.seq ?_
        refine AW.freezeFld (X' := (.st [(256, (.ar 1 (t32.f0.toList.map eU8))), (1, (.fz 1 (t32.f1.map e43))), (1, (.fz 1 ((lset t32.f2 ((w64 (vget p2 (0 : Int))).tmod (t32.f2.length : Int)) (w64 ((lget t32.f2 ((w64 (vget p2 (0 : Int))).tmod (t32.f2.length : Int))) + (1 : Int)))).map eI64)))])) (els' := ((lset t32.f2 ((w64 (vget p2 (0 : Int))).tmod (t32.f2.length : Int)) (w64 ((lget t32.f2 ((w64 (vget p2 (0 : Int))).tmod (t32.f2.length : Int))) + (1 : Int)))).map eI64)) 2 1 rfl rfl (Put.cast (Put.fldS (Put.fldS (Put.fld0 Put.here))) rfl) (by simp) (by rw [own_all]) rfl rfl (by decide) ?_
        obtain ⟨b39, hq40, h⟩ := of_bind h
        refine AW.toM [(6, (eBool b39))] [] ?_ ?_
        ·obtain ⟨t41, et41, hq40⟩ := of_bind hq40
         obtain ⟨t42, et42, hq40⟩ := of_bind hq40
         rcases of_ite hq40 with ⟨hc43, hq40⟩ | ⟨hc43, hq40⟩
         ·obtain ⟨t44, et44, hq40⟩ := of_bind hq40
          obtain ⟨t45, et45, hq40⟩ := of_bind hq40
          refine AW.regAny (by rfl) (by decide +kernel) [(e50 (S50.mk t32.f0 t32.f1 (lset t32.f2 ((w64 (vget p2 (0 : Int))).tmod (t32.f2.length : Int)) (w64 ((lget t32.f2 ((w64 (vget p2 (0 : Int))).tmod (t32.f2.length : Int))) + (1 : Int)))))), (e50 p0), (e50 t41), (eBool t42), (eBool (!t42)), (eBool (!t42)), (e50 p0), (e50 t44), (e50 (S50.mk t32.f0 t32.f1 (lset t32.f2 ((w64 (vget p2 (0 : Int))).tmod (t32.f2.length : Int)) (w64 ((lget t32.f2 ((w64 (vget p2 (0 : Int))).tmod (t32.f2.length : Int))) + (1 : Int)))))), (eBool t45), (eBool (!t45)), (eBool (!t45)), (eBool (!t45))] [(3, (.ptr n4 0)), (9, (.ptr n35 0))] ⟨rfl, rfl, trivial⟩ rfl ?_ [(6, (eBool (!t45)))] [] ⟨rfl, trivial⟩ (Sub.nil _) ?_
          ·refine ⟨?_, ?_, ?_, ?_, ?_, ?_, ?_, ?_, ?_, ?_, ?_, ?_, ?_, trivial⟩
           ·refine AO.wK [9] ?_
            refine AO.c (Calm.load 1 rfl rfl rfl (At.cast At.here rfl) ag50 sz50) ?_
            exact AO.nE (d := 86) rfl ⟨⟨_, rfl, rfl⟩, Sub.refl _⟩
           ·refine AO.wK [3] ?_
            refine AO.c (Calm.load 0 rfl rfl rfl (At.cast At.here rfl) ag50 sz50) ?_
            exact AO.nE (d := 87) rfl ⟨⟨_, rfl, rfl⟩, Sub.refl _⟩
           ·refine AO.wK [87] ?_
            refine AO.callS [(e50 p0)] (e50 t41) 88 rfl (by decide) ok28 rfl rfl rfl ⟨rfl, rfl, trivial⟩ (bosketref08_Trim_spec et41) ?_
            exact AO.nE (d := 88) rfl ⟨⟨_, rfl, rfl⟩, Sub.refl _⟩
           ·refine AO.wK [86, 88] ?_
            refine AO.callS [(e50 (S50.mk t32.f0 t32.f1 (lset t32.f2 ((w64 (vget p2 (0 : Int))).tmod (t32.f2.length : Int)) (w64 ((lget t32.f2 ((w64 (vget p2 (0 : Int))).tmod (t32.f2.length : Int))) + (1 : Int)))))), (e50 t41)] (eBool t42) 89 rfl (by decide) ok29 rfl rfl rfl ⟨rfl, rfl, rfl, rfl, trivial⟩ (dfa_Same_spec et42) ?_
            exact AO.nE (d := 89) rfl ⟨⟨_, rfl, rfl⟩, Sub.refl _⟩
           ·refine AO.wK [89] ?_
            refine AO.c (Calm.not rfl rfl) ?_
            exact AO.nE (d := 90) rfl ⟨⟨_, rfl, rfl⟩, Sub.refl _⟩
           ·refine AO.wK [90] ?_
            refine AO.c (Calm.move rfl rfl) ?_
            exact AO.nE (d := 91) rfl ⟨⟨_, rfl, rfl⟩, Sub.refl _⟩
           ·refine AO.wK [3, 91] ?_
            refine AO.cG rfl rfl (bD hc43) (Calm.load 0 rfl rfl rfl (At.cast At.here rfl) ag50 sz50) ?_
            exact AO.nE (d := 92) rfl ⟨⟨_, rfl, rfl⟩, Sub.refl _⟩
           ·refine AO.wK [91, 92] ?_
            refine AO.callG 5 true 91 [(e50 p0)] (e50 t44) 93 rfl (by decide) ok28 rfl rfl (bD hc43) rfl rfl ⟨rfl, rfl, trivial⟩ (bosketref08_Trim_spec et44) ?_
            exact AO.nE (d := 93) rfl ⟨⟨_, rfl, rfl⟩, Sub.refl _⟩
           ·refine AO.wK [9, 91] ?_
            refine AO.cG rfl rfl (bD hc43) (Calm.load 1 rfl rfl rfl (At.cast At.here rfl) ag50 sz50) ?_
            exact AO.nE (d := 94) rfl ⟨⟨_, rfl, rfl⟩, Sub.refl _⟩
           ·refine AO.wK [91, 93, 94] ?_
            refine AO.callG 5 true 91 [(e50 t44), (e50 (S50.mk t32.f0 t32.f1 (lset t32.f2 ((w64 (vget p2 (0 : Int))).tmod (t32.f2.length : Int)) (w64 ((lget t32.f2 ((w64 (vget p2 (0 : Int))).tmod (t32.f2.length : Int))) + (1 : Int))))))] (eBool t45) 95 rfl (by decide) ok29 rfl rfl (bD hc43) rfl rfl ⟨rfl, rfl, rfl, rfl, trivial⟩ (dfa_Same_spec et45) ?_
            exact AO.nE (d := 95) rfl ⟨⟨_, rfl, rfl⟩, Sub.refl _⟩
           ·refine AO.wK [91, 95] ?_
            refine AO.cG rfl rfl (bD hc43) (Calm.not rfl rfl) ?_
            exact AO.nE (d := 96) rfl ⟨⟨_, rfl, rfl⟩, Sub.refl _⟩
           ·refine AO.wK [91, 96] ?_
            refine AO.c (Calm.pickT rfl (bD hc43) rfl) ?_
            exact AO.nE (d := 97) rfl ⟨⟨_, rfl, rfl⟩, Sub.refl _⟩
           ·refine AO.wK [97] ?_
            refine AO.c (Calm.assign rfl rfl) ?_
            exact AO.nE (d := 6) rfl ⟨⟨_, rfl, rfl⟩, Sub.refl _⟩
          ·cases hq40
           exact ⟨rfl, rfl, rfl⟩
         ·refine AW.regAny (by rfl) (by decide +kernel) [(e50 (S50.mk t32.f0 t32.f1 (lset t32.f2 ((w64 (vget p2 (0 : Int))).tmod (t32.f2.length : Int)) (w64 ((lget t32.f2 ((w64 (vget p2 (0 : Int))).tmod (t32.f2.length : Int))) + (1 : Int)))))), (e50 p0), (e50 t41), (eBool t42), (eBool (!t42)), (eBool (!t42)), (.fl undef), (.fl undef), (.fl undef), (.fl undef), (.fl undef), (eBool false), (eBool false)] [(3, (.ptr n4 0)), (9, (.ptr n35 0))] ⟨rfl, rfl, trivial⟩ rfl ?_ [(6, (eBool false))] [] ⟨rfl, trivial⟩ (Sub.nil _) ?_
          ·refine ⟨?_, ?_, ?_, ?_, ?_, ?_, ?_, ?_, ?_, ?_, ?_, ?_, ?_, trivial⟩
           ·refine AO.wK [9] ?_
            refine AO.c (Calm.load 1 rfl rfl rfl (At.cast At.here rfl) ag50 sz50) ?_
            exact AO.nE (d := 86) rfl ⟨⟨_, rfl, rfl⟩, Sub.refl _⟩
           ·refine AO.wK [3] ?_
            refine AO.c (Calm.load 0 rfl rfl rfl (At.cast At.here rfl) ag50 sz50) ?_
            exact AO.nE (d := 87) rfl ⟨⟨_, rfl, rfl⟩, Sub.refl _⟩
           ·refine AO.wK [87] ?_
            refine AO.callS [(e50 p0)] (e50 t41) 88 rfl (by decide) ok28 rfl rfl rfl ⟨rfl, rfl, trivial⟩ (bosketref08_Trim_spec et41) ?_
            exact AO.nE (d := 88) rfl ⟨⟨_, rfl, rfl⟩, Sub.refl _⟩
           ·refine AO.wK [86, 88] ?_
            refine AO.callS [(e50 (S50.mk t32.f0 t32.f1 (lset t32.f2 ((w64 (vget p2 (0 : Int))).tmod (t32.f2.length : Int)) (w64 ((lget t32.f2 ((w64 (vget p2 (0 : Int))).tmod (t32.f2.length : Int))) + (1 : Int)))))), (e50 t41)] (eBool t42) 89 rfl (by decide) ok29 rfl rfl rfl ⟨rfl, rfl, rfl, rfl, trivial⟩ (dfa_Same_spec et42) ?_
            exact AO.nE (d := 89) rfl ⟨⟨_, rfl, rfl⟩, Sub.refl _⟩
           ·refine AO.wK [89] ?_
            refine AO.c (Calm.not rfl rfl) ?_
            exact AO.nE (d := 90) rfl ⟨⟨_, rfl, rfl⟩, Sub.refl _⟩
           ·refine AO.wK [90] ?_
            refine AO.c (Calm.move rfl rfl) ?_
            exact AO.nE (d := 91) rfl ⟨⟨_, rfl, rfl⟩, Sub.refl _⟩
           ·refine AO.wK [91] ?_
            refine AO.sT rfl rfl (bD (eq_false_of_ne_true hc43)) ?_
            exact AO.nE (d := 92) rfl ⟨⟨_, rfl, rfl⟩, Sub.refl _⟩
           ·refine AO.wK [91] ?_
            refine AO.sT rfl rfl (bD (eq_false_of_ne_true hc43)) ?_
            exact AO.nE (d := 93) rfl ⟨⟨_, rfl, rfl⟩, Sub.refl _⟩
           ·refine AO.wK [91] ?_
            refine AO.sT rfl rfl (bD (eq_false_of_ne_true hc43)) ?_
            exact AO.nE (d := 94) rfl ⟨⟨_, rfl, rfl⟩, Sub.refl _⟩
           ·refine AO.wK [91] ?_
            refine AO.sT rfl rfl (bD (eq_false_of_ne_true hc43)) ?_
            exact AO.nE (d := 95) rfl ⟨⟨_, rfl, rfl⟩, Sub.refl _⟩
           ·refine AO.wK [91] ?_
            refine AO.sT rfl rfl (bD (eq_false_of_ne_true hc43)) ?_
            exact AO.nE (d := 96) rfl ⟨⟨_, rfl, rfl⟩, Sub.refl _⟩
           ·refine AO.wK [91, 96] ?_
            refine AO.c (Calm.pickF rfl (bD (eq_false_of_ne_true hc43)) rfl) ?_
            exact AO.nE (d := 97) rfl ⟨⟨_, rfl, rfl⟩, Sub.refl _⟩
           ·refine AO.wK [97] ?_
            refine AO.c (Calm.assign rfl rfl) ?_
            exact AO.nE (d := 6) rfl ⟨⟨_, rfl, rfl⟩, Sub.refl _⟩
          ·cases hq40
           exact ⟨rfl, rfl, rfl⟩
        ·refine AW.rK [6] ?_
         have hr := Option.some.inj h
         subst hr
         exact ⟨[(eBool b39)], ⟨rfl, rfl, trivial⟩, rfl⟩
end Go.Avl.T3
