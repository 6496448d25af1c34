/- Parts: T3f25, T3f61. -/
import Derived.Test.YtcdennkoccjacaaAF1
/- bosket/dfa.Order; printed by avmain.py. -/
namespace Go.Avl.T3
open Go Go.RowKit Go.Proofs Go.Avl
set_option linter.unusedVariables false
set_option maxRecDepth 100000
set_option maxHeartbeats 4000000
set_option linter.unusedSimpArgs false
attribute [local irreducible] AW AO AQ Spec SpecH Calm

def dfa_Order_c0 (k : Nat) (p0 : S50) (x12 : (List (List Int))) (x14 : (List Int)) : Option S50 :=
  some ((S50.mk p0.f0 x12 x14))
def dfa_Order_c1 (k : Nat) (rec23 : ((List Int) → (List (List Int)) → (List Int) → (List Int) → Int → Option S50)) (x22 : Int) (x26 : (List Int)) (x28 : (List (List Int))) (x30 : (List Int)) (x32 : (List Int)) : Option S50 :=
  rec23 x26 x28 x30 x32 (w64 (x22 + (1 : Int)))
def dfa_Order_c2 (k : Nat) (rec23 : ((List Int) → (List (List Int)) → (List Int) → (List Int) → Int → Option S50)) (p0 : S50) (x17 : (List (List Int))) (x19 : (List Int)) (x22 : Int) (x37 : (List Int)) (x39 : (List Int)) (x41 : (List Int)) : Option S50 :=
  if (x17 ++ ([x41] : List (List Int))).length * 24 ≤ 140737488355328 then if 0 ≤ x22 ∧ x22 < (x39.length : Int) then if 0 ≤ (lget x39 x22) ∧ (lget x39 x22) < (p0.f2.length : Int) then if (x19 ++ ([(lget p0.f2 (lget x39 x22))] : List Int)).length * 8 ≤ 140737488355328 then dfa_Order_c1 k rec23 x22 x37 (x17 ++ ([x41] : List (List Int))) (x19 ++ ([(lget p0.f2 (lget x39 x22))] : List Int)) x39
  else none
  else none
  else none
  else none
def dfa_Order_c3 (k : Nat) (rec58 : ((List Int) → (List Int) → (List Int) → Int → Option S50)) (x56 : (List Int)) (x57 : Int) (x62 : (List Int)) (x64 : (List Int)) (x65 : Int) : Option S50 :=
  if (x56 ++ ([x65] : List Int)).length * 8 ≤ 140737488355328 then rec58 x62 x64 (x56 ++ ([x65] : List Int)) (w64 (x57 + (1 : Int)))
  else none
def dfa_Order_c4 (k : Nat) (rec58 : ((List Int) → (List Int) → (List Int) → Int → Option S50)) (p0 : S50) (x21 : (List Int)) (x22 : Int) (x56 : (List Int)) (x57 : Int) (x62 : (List Int)) (x64 : (List Int)) : Option S50 :=
  if (0 : Int) ≤ (lget (lget p0.f1 (lget x21 x22)) x57) then if 0 ≤ (lget (lget p0.f1 (lget x21 x22)) x57) ∧ (lget (lget p0.f1 (lget x21 x22)) x57) < (x62.length : Int) then dfa_Order_c3 k rec58 x56 x57 x62 x64 (lget x62 (lget (lget p0.f1 (lget x21 x22)) x57))
  else none
  else dfa_Order_c3 k rec58 x56 x57 x62 x64 (lget (lget p0.f1 (lget x21 x22)) x57)
def dfa_Order_l5 (k : Nat) (rec23 : ((List Int) → (List (List Int)) → (List Int) → (List Int) → Int → Option S50)) (p0 : S50) (x17 : (List (List Int))) (x19 : (List Int)) (x21 : (List Int)) (x22 : Int) : Nat → (List Int) → (List Int) → (List Int) → Int → Option S50
  | 0, _, _, _, _ => none
  | j + 1, x52, x54, x56, x57 =>
    if x57 < ((lget p0.f1 (lget x21 x22)).length : Int) then if 0 ≤ x57 ∧ x57 < ((lget p0.f1 (lget x21 x22)).length : Int) then Option.bind (α := Bool) (if (0 : Int) ≤ (lget (lget p0.f1 (lget x21 x22)) x57) then if 0 ≤ (lget (lget p0.f1 (lget x21 x22)) x57) ∧ (lget (lget p0.f1 (lget x21 x22)) x57) < (x52.length : Int) then some (decide ((lget x52 (lget (lget p0.f1 (lget x21 x22)) x57)) = (-1 : Int)))
    else none
    else some (false)) fun b71 =>
    if b71 = true then if 0 ≤ (lget (lget p0.f1 (lget x21 x22)) x57) ∧ (lget (lget p0.f1 (lget x21 x22)) x57) < (x52.length : Int) then if (x54 ++ ([(lget (lget p0.f1 (lget x21 x22)) x57)] : List Int)).length * 8 ≤ 140737488355328 then dfa_Order_c4 k (dfa_Order_l5 k rec23 p0 x17 x19 x21 x22 j) p0 x21 x22 x56 x57 (lset x52 (lget (lget p0.f1 (lget x21 x22)) x57) (x54.length : Int)) (x54 ++ ([(lget (lget p0.f1 (lget x21 x22)) x57)] : List Int))
    else none
    else none
    else dfa_Order_c4 k (dfa_Order_l5 k rec23 p0 x17 x19 x21 x22 j) p0 x21 x22 x56 x57 x52 x54
    else none
    else dfa_Order_c2 k rec23 p0 x17 x19 x22 x52 x54 x56
def dfa_Order_l6 (k : Nat) (p0 : S50) : Nat → (List Int) → (List (List Int)) → (List Int) → (List Int) → Int → Option S50
  | 0, _, _, _, _, _ => none
  | j + 1, x15, x17, x19, x21, x22 =>
    if x22 < (x21.length : Int) then if 0 ≤ x22 ∧ x22 < (x21.length : Int) then if 0 ≤ (lget x21 x22) ∧ (lget x21 x22) < (p0.f1.length : Int) then if 0 ≤ ((lget p0.f1 (lget x21 x22)).length : Int) ∧ ((lget p0.f1 (lget x21 x22)).length : Int) * (8 : Int) ≤ 140737488355328 ∧ ((lget p0.f1 (lget x21 x22)).length : Int) ≤ 9223372036854775807 then if 0 ≤ x22 ∧ x22 < (x21.length : Int) then if 0 ≤ (lget x21 x22) ∧ (lget x21 x22) < (p0.f1.length : Int) then dfa_Order_l5 k (dfa_Order_l6 k p0 j) p0 x17 x19 x21 x22 k x15 x21 ([] : List Int) (0 : Int)
    else none
    else none
    else none
    else none
    else none
    else dfa_Order_c0 k p0 x17 x19
def dfa_Order_c7 (k : Nat) (p0 : S50) (x6 : (List Int)) : Option S50 :=
  if (p0.f1.length : Int) = (0 : Int) then some ((S50.mk p0.f0 ([] : List (List Int)) ([] : List Int)))
  else if 0 ≤ (0 : Int) ∧ (0 : Int) < (x6.length : Int) then dfa_Order_l6 k p0 k (lset x6 (0 : Int) (0 : Int)) ([] : List (List Int)) ([] : List Int) ([(0 : Int)] : List Int) (0 : Int)
  else none
def dfa_Order_l8 (k : Nat) (p0 : S50) : Nat → (List Int) → Int → Option S50
  | 0, _, _ => none
  | j + 1, x82, x83 =>
    if x83 < ((List.replicate (p0.f1.length : Int).toNat (0 : Int)).length : Int) then if 0 ≤ x83 ∧ x83 < (x82.length : Int) then (dfa_Order_l8 k p0 j) (lset x82 x83 (-1 : Int)) (w64 (x83 + (1 : Int)))
    else none
    else dfa_Order_c7 k p0 x82
def dfa_Order (k : Nat) (p0 : S50) : Option S50 :=
  if 0 ≤ (p0.f1.length : Int) ∧ (p0.f1.length : Int) * (8 : Int) ≤ 140737488355328 ∧ (p0.f1.length : Int) ≤ 9223372036854775807 then dfa_Order_l8 k p0 k (List.replicate (p0.f1.length : Int).toNat (0 : Int)) (0 : Int)
  else none
theorem dfa_Order_spec {k : Nat} {p0 : S50} {r : S50} (h : dfa_Order k p0 = some r) : Spec Try.prog 25 [(e50 p0)] (e50 r) := by
  rw [dfa_Order.eq_1] at h
  refine Spec.intro (res := [.cell 2 50]) Try.func25 rfl rfl rfl (Nat.le_of_ble_eq_true rfl) ?_
  refine AW.seq ?_
  refine AW.reg ?_
  refine AO.box rfl 1 rfl (by decide) rfl rfl rfl fun n2 => ?_
  refine AO.alloc rfl 2 rfl (by decide) rfl zr50 lay50 fun n3 => ?_
  refine AO.nil (ρ' := [(1, (.ptr n2 0)), (2, (.ptr n3 0))]) (H' := [(n2, (.mem (e50 p0))), (n3, (.mem (.st [(256, (.ar 1 ((Vector.replicate 256 (0 : Int)).toList.map eU8))), (1, (.fl (.slice none 0 0))), (1, (.fl (.slice none 0 0)))])))]) ⟨rfl, rfl, trivial⟩ (Sub.cons 1 rfl (Sub.cons 0 rfl (Sub.nil _))) ?_
  refine AW.seq ?_
  refine AW.reg ?_
  refine AO.calm rfl 11 rfl (by decide) (.ptr n2 256) (Calm.fldPtr rfl rfl Try.underlying50 rfl sz48 _ rfl) ?_
  refine AO.calm rfl 12 rfl (by decide) (.fz 1 (p0.f1.map e43)) (Calm.load 0 rfl rfl rfl (At.cast (At.fldS (At.fld0 At.here)) rfl) ag48 sz48) ?_
  refine AO.calm rfl 13 rfl (by decide) (eI64 (p0.f1.length : Int)) (Calm.lenL rfl rfl Try.underlying48) ?_
  obtain ⟨hg5, h⟩ := of_guard h
  refine AO.makeL (f := eI64) (0 : Int) rfl 14 rfl (by decide) rfl rfl rfl Try.underlying43 sz3 by3 zr3 lay3 rfl hg5 fun n4 => ?_
  refine AO.calm rfl 3 rfl (by decide) (.own n4 0 (List.replicate (p0.f1.length : Int).toNat (0 : Int)).length) (Calm.assign rfl rfl) ?_
  refine AO.nil (ρ' := [(1, (.ptr n2 0)), (2, (.ptr n3 0)), (3, (.own n4 0 (List.replicate (p0.f1.length : Int).toNat (0 : Int)).length))]) (H' := [(n2, (.mem (e50 p0))), (n3, (.mem (.st [(256, (.ar 1 ((Vector.replicate 256 (0 : Int)).toList.map eU8))), (1, (.fl (.slice none 0 0))), (1, (.fl (.slice none 0 0)))]))), (n4, (.mem (.ar 1 ((List.replicate (p0.f1.length : Int).toNat (0 : Int)).map eI64))))]) ⟨rfl, rfl, rfl, trivial⟩ (Sub.cons 1 rfl (Sub.cons 1 rfl (Sub.cons 0 rfl (Sub.nil _)))) ?_
  refine AW.seq_mid (fun ρ H => ∃ (x6 : (List Int)), ρ = [(1, (.ptr n2 0)), (2, (.ptr n3 0)), (3, (.own n4 0 x6.length))] ∧ H = [(n2, (.mem (e50 p0))), (n3, (.mem (.st [(256, (.ar 1 ((Vector.replicate 256 (0 : Int)).toList.map eU8))), (1, (.fl (.slice none 0 0))), (1, (.fl (.slice none 0 0)))]))), (n4, (.mem (.ar 1 (x6.map eI64))))] ∧ dfa_Order_c7 k p0 x6 = some r) ?_ ?_
  · refine AW.seq ?_
    refine AW.reg ?_
    refine AO.calm rfl 15 rfl (by decide) (.own n4 0 (List.replicate (p0.f1.length : Int).toNat (0 : Int)).length) (Calm.move rfl rfl) ?_
    refine AO.calm rfl 16 rfl (by decide) (eI64 ((List.replicate (p0.f1.length : Int).toNat (0 : Int)).length : Int)) (Calm.lenOwn rfl rfl Try.underlying43) ?_
    refine AO.calm rfl 17 rfl (by decide) (eI64 (0 : Int)) (Calm.move rfl rfl) ?_
    refine AO.nil (ρ' := [(1, (.ptr n2 0)), (2, (.ptr n3 0)), (3, (.own n4 0 (List.replicate (p0.f1.length : Int).toNat (0 : Int)).length)), (16, (eI64 ((List.replicate (p0.f1.length : Int).toNat (0 : Int)).length : Int))), (17, (eI64 (0 : Int)))]) (H' := [(n2, (.mem (e50 p0))), (n3, (.mem (.st [(256, (.ar 1 ((Vector.replicate 256 (0 : Int)).toList.map eU8))), (1, (.fl (.slice none 0 0))), (1, (.fl (.slice none 0 0)))]))), (n4, (.mem (.ar 1 ((List.replicate (p0.f1.length : Int).toNat (0 : Int)).map eI64))))]) ⟨rfl, rfl, rfl, rfl, rfl, trivial⟩ (Sub.refl _) ?_
    refine AW.block ?_
    refine AW.weak (ρ' := [(1, (.ptr n2 0)), (2, (.ptr n3 0)), (3, (.own n4 0 (List.replicate (p0.f1.length : Int).toNat (0 : Int)).length)), (16, (eI64 ((List.replicate (p0.f1.length : Int).toNat (0 : Int)).length : Int))), (17, (eI64 (0 : Int)))]) (H' := [(n2, (.mem (e50 p0))), (n3, (.mem (.st [(256, (.ar 1 ((Vector.replicate 256 (0 : Int)).toList.map eU8))), (1, (.fl (.slice none 0 0))), (1, (.fl (.slice none 0 0)))]))), (n4, (.mem (.ar 1 ((List.replicate (p0.f1.length : Int).toNat (0 : Int)).map eI64))))]) ⟨rfl, rfl, rfl, rfl, rfl, trivial⟩ (Sub.refl _) ?_
    refine AW.loop (fun kq ρ H => ∃ (x82 : (List Int)) (x83 : Int), ρ = [(1, (.ptr n2 0)), (2, (.ptr n3 0)), (3, (.own n4 0 x82.length)), (16, (eI64 ((List.replicate (p0.f1.length : Int).toNat (0 : Int)).length : Int))), (17, (eI64 x83))] ∧ H = [(n2, (.mem (e50 p0))), (n3, (.mem (.st [(256, (.ar 1 ((Vector.replicate 256 (0 : Int)).toList.map eU8))), (1, (.fl (.slice none 0 0))), (1, (.fl (.slice none 0 0)))]))), (n4, (.mem (.ar 1 (x82.map eI64))))] ∧ dfa_Order_l8 k p0 kq x82 x83 = some r) k ⟨(List.replicate (p0.f1.length : Int).toNat (0 : Int)), (0 : Int), rfl, rfl, h⟩ ?_
    rintro kq85 _ _ ⟨x82, x83, rfl, rfl, h⟩
    cases kq85 with
    | zero => rw [dfa_Order_l8.eq_1] at h; cases h
    | succ kq85 =>
    rw [dfa_Order_l8.eq_2] at h
    generalize hrec84 : dfa_Order_l8 k p0 kq85 = rec84 at h
    refine AW.seq ?_
    refine AW.reg ?_
    refine AO.calm rfl 18 rfl (by decide) (eBool (decide (x83 < ((List.replicate (p0.f1.length : Int).toNat (0 : Int)).length : Int)))) (Calm.int rfl rfl rfl rfl) ?_
    refine AO.nil (ρ' := [(1, (.ptr n2 0)), (2, (.ptr n3 0)), (3, (.own n4 0 x82.length)), (16, (eI64 ((List.replicate (p0.f1.length : Int).toNat (0 : Int)).length : Int))), (17, (eI64 x83)), (18, (eBool (decide (x83 < ((List.replicate (p0.f1.length : Int).toNat (0 : Int)).length : Int)))))]) (H' := [(n2, (.mem (e50 p0))), (n3, (.mem (.st [(256, (.ar 1 ((Vector.replicate 256 (0 : Int)).toList.map eU8))), (1, (.fl (.slice none 0 0))), (1, (.fl (.slice none 0 0)))]))), (n4, (.mem (.ar 1 (x82.map eI64))))]) ⟨rfl, rfl, rfl, rfl, rfl, rfl, trivial⟩ (Sub.refl _) ?_
    refine AW.seq ?_
    by_cases hc86 : x83 < ((List.replicate (p0.f1.length : Int).toNat (0 : Int)).length : Int)
    · have h := (if_pos hc86).symm.trans h
      refine AW.condP (x83 < ((List.replicate (p0.f1.length : Int).toNat (0 : Int)).length : Int)) rfl hc86 ?_
      refine AW.skip (ρ' := [(1, (.ptr n2 0)), (2, (.ptr n3 0)), (3, (.own n4 0 x82.length)), (16, (eI64 ((List.replicate (p0.f1.length : Int).toNat (0 : Int)).length : Int))), (17, (eI64 x83))]) (H' := [(n2, (.mem (e50 p0))), (n3, (.mem (.st [(256, (.ar 1 ((Vector.replicate 256 (0 : Int)).toList.map eU8))), (1, (.fl (.slice none 0 0))), (1, (.fl (.slice none 0 0)))]))), (n4, (.mem (.ar 1 (x82.map eI64))))]) ⟨rfl, rfl, rfl, rfl, rfl, trivial⟩ (Sub.refl _) ?_
      refine AW.seq ?_
      refine AW.block ?_
      refine AW.seq ?_
      refine AW.reg ?_
      refine AO.calm rfl 19 rfl (by decide) (eI64 x83) (Calm.move rfl rfl) ?_
      refine AO.calm rfl 4 rfl (by decide) (eI64 x83) (Calm.assign rfl rfl) ?_
      refine AO.nil (ρ' := [(1, (.ptr n2 0)), (2, (.ptr n3 0)), (3, (.own n4 0 x82.length)), (4, (eI64 x83)), (16, (eI64 ((List.replicate (p0.f1.length : Int).toNat (0 : Int)).length : Int))), (17, (eI64 x83))]) (H' := [(n2, (.mem (e50 p0))), (n3, (.mem (.st [(256, (.ar 1 ((Vector.replicate 256 (0 : Int)).toList.map eU8))), (1, (.fl (.slice none 0 0))), (1, (.fl (.slice none 0 0)))]))), (n4, (.mem (.ar 1 (x82.map eI64))))]) ⟨rfl, rfl, rfl, rfl, rfl, rfl, trivial⟩ (Sub.refl _) ?_
      refine AW.reg ?_
      refine AO.calm rfl 20 rfl (by decide) (.own n4 0 x82.length) (Calm.move rfl rfl) ?_
      refine AO.calm rfl 21 rfl (by decide) (eI64 x83) (Calm.move rfl rfl) ?_
      obtain ⟨hg87, h⟩ := of_guard h
      refine AO.calm rfl 22 rfl (by decide) (.ptr n4 (x83.toNat * 1 + 0)) (Calm.idxO 2 rfl rfl rfl rfl hg87 Try.underlying43 sz3) ?_
      refine AO.store (X' := (.ar 1 ((lset x82 x83 (-1 : Int)).map eI64))) 2 rfl rfl rfl rfl rfl rfl (Put.cast (Put.lidx x83 (-1 : Int) hg87.1 hg87.2 Put.here) (by omega)) rfl rfl sz3 rfl ?_
      refine AO.coe 3 (y' := (.own n4 0 (lset x82 x83 (-1 : Int)).length)) rfl (fun _ _ h => lset_own h) ?_
      refine AO.coe 20 (y' := (.own n4 0 (lset x82 x83 (-1 : Int)).length)) rfl (fun _ _ h => lset_own h) ?_
      refine AO.nil (ρ' := [(1, (.ptr n2 0)), (2, (.ptr n3 0)), (3, (.own n4 0 (lset x82 x83 (-1 : Int)).length)), (16, (eI64 ((List.replicate (p0.f1.length : Int).toNat (0 : Int)).length : Int))), (17, (eI64 x83))]) (H' := [(n2, (.mem (e50 p0))), (n3, (.mem (.st [(256, (.ar 1 ((Vector.replicate 256 (0 : Int)).toList.map eU8))), (1, (.fl (.slice none 0 0))), (1, (.fl (.slice none 0 0)))]))), (n4, (.mem (.ar 1 ((lset x82 x83 (-1 : Int)).map eI64))))]) ⟨rfl, rfl, rfl, rfl, rfl, trivial⟩ (Sub.refl _) ?_
      refine AW.reg ?_
      refine AO.calm rfl 23 rfl (by decide) (eI64 (w64 (x83 + (1 : Int)))) (Calm.int rfl rfl rfl rfl) ?_
      refine AO.calm rfl 17 rfl (by decide) (eI64 (w64 (x83 + (1 : Int)))) (Calm.move rfl rfl) ?_
      refine AO.nil (ρ' := [(1, (.ptr n2 0)), (2, (.ptr n3 0)), (3, (.own n4 0 (lset x82 x83 (-1 : Int)).length)), (16, (eI64 ((List.replicate (p0.f1.length : Int).toNat (0 : Int)).length : Int))), (17, (eI64 (w64 (x83 + (1 : Int)))))]) (H' := [(n2, (.mem (e50 p0))), (n3, (.mem (.st [(256, (.ar 1 ((Vector.replicate 256 (0 : Int)).toList.map eU8))), (1, (.fl (.slice none 0 0))), (1, (.fl (.slice none 0 0)))]))), (n4, (.mem (.ar 1 ((lset x82 x83 (-1 : Int)).map eI64))))]) ⟨rfl, rfl, rfl, rfl, rfl, trivial⟩ (Sub.refl _) ?_
      exact ⟨kq85, Nat.lt_succ_self _, (lset x82 x83 (-1 : Int)), (w64 (x83 + (1 : Int))), rfl, rfl, by rw [hrec84]; exact h⟩
    · have h := (if_neg hc86).symm.trans h
      refine AW.condN (x83 < ((List.replicate (p0.f1.length : Int).toNat (0 : Int)).length : Int)) rfl hc86 ?_
      refine AW.exit (ρ' := [(1, (.ptr n2 0)), (2, (.ptr n3 0)), (3, (.own n4 0 x82.length))]) (H' := [(n2, (.mem (e50 p0))), (n3, (.mem (.st [(256, (.ar 1 ((Vector.replicate 256 (0 : Int)).toList.map eU8))), (1, (.fl (.slice none 0 0))), (1, (.fl (.slice none 0 0)))]))), (n4, (.mem (.ar 1 (x82.map eI64))))]) ⟨rfl, rfl, rfl, trivial⟩ (Sub.refl _) ?_
      exact ⟨x82, rfl, rfl, h⟩
  · rintro _ _ ⟨x6, rfl, rfl, h⟩
    rw [dfa_Order_c7.eq_1] at h
    refine AW.seq ?_
    refine AW.reg ?_
    refine AO.calm rfl 24 rfl (by decide) (.ptr n2 0) (Calm.fldPtr rfl rfl Try.underlying50 rfl sz47 _ rfl) ?_
    refine AO.calm rfl 25 rfl (by decide) (.ar 1 (p0.f0.toList.map eU8)) (Calm.load 0 rfl rfl rfl (At.cast (At.fld0 At.here) rfl) ag47 (by rw [sz47]; simp [AV.size])) ?_
    refine AO.calm rfl 26 rfl (by decide) (.st [(256, (.ar 1 (p0.f0.toList.map eU8))), (1, (.fl (.slice none 0 0))), (1, (.fl (.slice none 0 0)))]) (Calm.build (qs := [(0, (.ar 1 (p0.f0.toList.map eU8)))]) rfl ⟨rfl, rfl, rfl, trivial⟩ Try.underlying50 rfl zr50 lay50 (.cons rfl rfl (vec_size _ _) (vec_size _ _) (Put.cast (Put.fld0 Put.here) rfl) .nil) rfl) ?_
    refine AO.alloc rfl 5 rfl (by decide) rfl zr50 lay50 fun n7 => ?_
    refine AO.store (X' := (.st [(256, (.ar 1 (p0.f0.toList.map eU8))), (1, (.fl (.slice none 0 0))), (1, (.fl (.slice none 0 0)))])) 0 rfl rfl rfl rfl rfl rfl (Put.cast Put.here rfl) rfl rfl sz50 rfl ?_
    refine AO.nil (ρ' := [(1, (.ptr n2 0)), (2, (.ptr n3 0)), (3, (.own n4 0 x6.length)), (5, (.ptr n7 0))]) (H' := [(n2, (.mem (e50 p0))), (n3, (.mem (.st [(256, (.ar 1 ((Vector.replicate 256 (0 : Int)).toList.map eU8))), (1, (.fl (.slice none 0 0))), (1, (.fl (.slice none 0 0)))]))), (n4, (.mem (.ar 1 (x6.map eI64)))), (n7, (.mem (.st [(256, (.ar 1 (p0.f0.toList.map eU8))), (1, (.fl (.slice none 0 0))), (1, (.fl (.slice none 0 0)))])))]) ⟨rfl, rfl, rfl, rfl, trivial⟩ (Sub.cons 1 rfl (Sub.cons 1 rfl (Sub.cons 1 rfl (Sub.cons 0 rfl (Sub.nil _))))) ?_
    refine AW.seq ?_
    refine AW.seq ?_
    refine AW.reg ?_
    refine AO.calm rfl 27 rfl (by decide) (.ptr n2 256) (Calm.fldPtr rfl rfl Try.underlying50 rfl sz48 _ rfl) ?_
    refine AO.calm rfl 28 rfl (by decide) (.fz 1 (p0.f1.map e43)) (Calm.load 0 rfl rfl rfl (At.cast (At.fldS (At.fld0 At.here)) rfl) ag48 sz48) ?_
    refine AO.calm rfl 29 rfl (by decide) (eI64 (p0.f1.length : Int)) (Calm.lenL rfl rfl Try.underlying48) ?_
    refine AO.calm rfl 30 rfl (by decide) (eBool (decide ((p0.f1.length : Int) = (0 : Int)))) (Calm.int rfl rfl rfl rfl) ?_
    refine AO.nil (ρ' := [(1, (.ptr n2 0)), (2, (.ptr n3 0)), (3, (.own n4 0 x6.length)), (5, (.ptr n7 0)), (30, (eBool (decide ((p0.f1.length : Int) = (0 : Int)))))]) (H' := [(n2, (.mem (e50 p0))), (n3, (.mem (.st [(256, (.ar 1 ((Vector.replicate 256 (0 : Int)).toList.map eU8))), (1, (.fl (.slice none 0 0))), (1, (.fl (.slice none 0 0)))]))), (n4, (.mem (.ar 1 (x6.map eI64)))), (n7, (.mem (.st [(256, (.ar 1 (p0.f0.toList.map eU8))), (1, (.fl (.slice none 0 0))), (1, (.fl (.slice none 0 0)))])))]) ⟨rfl, rfl, rfl, rfl, rfl, trivial⟩ (Sub.refl _) ?_
    by_cases hc8 : (p0.f1.length : Int) = (0 : Int)
    · have h := (if_pos hc8).symm.trans h
      refine AW.condP ((p0.f1.length : Int) = (0 : Int)) rfl hc8 ?_
      refine AW.seq ?_
      refine AW.reg ?_
      refine AO.calm rfl 31 rfl (by decide) (.st [(256, (.ar 1 (p0.f0.toList.map eU8))), (1, (.fl (.slice none 0 0))), (1, (.fl (.slice none 0 0)))]) (Calm.load 3 rfl rfl rfl (At.cast At.here rfl) ag50 sz50) ?_
      refine AO.store (X' := (.st [(256, (.ar 1 (p0.f0.toList.map eU8))), (1, (.fl (.slice none 0 0))), (1, (.fl (.slice none 0 0)))])) 1 rfl rfl rfl rfl rfl rfl (Put.cast Put.here rfl) rfl rfl sz50 rfl ?_
      refine AO.nil (ρ' := [(2, (.ptr n3 0))]) (H' := [(n3, (.mem (.st [(256, (.ar 1 (p0.f0.toList.map eU8))), (1, (.fl (.slice none 0 0))), (1, (.fl (.slice none 0 0)))])))]) ⟨rfl, trivial⟩ (Sub.cons 1 rfl (Sub.nil _)) ?_
      refine AW.coeFld (X' := (.st [(256, (.ar 1 (p0.f0.toList.map eU8))), (1, (.fz 1 (([] : List (List Int)).map e43))), (1, (.fl (.slice none 0 0)))])) 0 rfl (Put.cast (Put.fldS (Put.fld0 Put.here)) rfl) rfl (nil_fz 1) rfl rfl ?_
      refine AW.coeFld (X' := (.st [(256, (.ar 1 (p0.f0.toList.map eU8))), (1, (.fz 1 (([] : List (List Int)).map e43))), (1, (.fz 1 (([] : List Int).map eI64)))])) 0 rfl (Put.cast (Put.fldS (Put.fldS (Put.fld0 Put.here))) rfl) rfl (nil_fz 1) rfl rfl ?_
      refine AW.ret (ρ' := [(2, (.ptr n3 0))]) (H' := [(n3, (.mem (.st [(256, (.ar 1 (p0.f0.toList.map eU8))), (1, (.fz 1 (([] : List (List Int)).map e43))), (1, (.fz 1 (([] : List Int).map eI64)))])))]) ⟨rfl, trivial⟩ (Sub.refl _) ?_
      have hr := Option.some.inj h
      subst hr
      exact ⟨[(e50 (S50.mk p0.f0 ([] : List (List Int)) ([] : List Int)))], ⟨⟨_, 0, rfl, rfl, ag50, sz50⟩, trivial⟩, rfl⟩
    · have h := (if_neg hc8).symm.trans h
      refine AW.condN ((p0.f1.length : Int) = (0 : Int)) rfl hc8 ?_
      refine AW.skip (ρ' := [(1, (.ptr n2 0)), (2, (.ptr n3 0)), (3, (.own n4 0 x6.length)), (5, (.ptr n7 0))]) (H' := [(n2, (.mem (e50 p0))), (n3, (.mem (.st [(256, (.ar 1 ((Vector.replicate 256 (0 : Int)).toList.map eU8))), (1, (.fl (.slice none 0 0))), (1, (.fl (.slice none 0 0)))]))), (n4, (.mem (.ar 1 (x6.map eI64)))), (n7, (.mem (.st [(256, (.ar 1 (p0.f0.toList.map eU8))), (1, (.fl (.slice none 0 0))), (1, (.fl (.slice none 0 0)))])))]) ⟨rfl, rfl, rfl, rfl, trivial⟩ (Sub.refl _) ?_
      refine AW.seq ?_
      refine AW.reg ?_
      refine AO.lit (Z := (eI64 (0 : Int))) (xs := (([(0 : Int)] : List Int).map eI64)) (qs := [(0, (eI64 (0 : Int)))]) rfl 32 rfl (by decide) rfl ⟨rfl, rfl, rfl, trivial⟩ Try.underlying43 sz3 zr3 lay3 rfl (by decide) (litOK (z := 1) [(eI64 (0 : Int))] rfl ⟨⟨rfl, rfl⟩, trivial⟩) rfl fun n9 => ?_
      refine AO.calm rfl 6 rfl (by decide) (.own n9 0 ([(0 : Int)] : List Int).length) (Calm.assign rfl rfl) ?_
      refine AO.nil (ρ' := [(1, (.ptr n2 0)), (2, (.ptr n3 0)), (3, (.own n4 0 x6.length)), (5, (.ptr n7 0)), (6, (.own n9 0 ([(0 : Int)] : List Int).length))]) (H' := [(n2, (.mem (e50 p0))), (n3, (.mem (.st [(256, (.ar 1 ((Vector.replicate 256 (0 : Int)).toList.map eU8))), (1, (.fl (.slice none 0 0))), (1, (.fl (.slice none 0 0)))]))), (n4, (.mem (.ar 1 (x6.map eI64)))), (n7, (.mem (.st [(256, (.ar 1 (p0.f0.toList.map eU8))), (1, (.fl (.slice none 0 0))), (1, (.fl (.slice none 0 0)))]))), (n9, (.mem (.ar 1 (([(0 : Int)] : List Int).map eI64))))]) ⟨rfl, rfl, rfl, rfl, rfl, trivial⟩ (Sub.cons 1 rfl (Sub.cons 1 rfl (Sub.cons 1 rfl (Sub.cons 1 rfl (Sub.cons 0 rfl (Sub.nil _)))))) ?_
      refine AW.seq ?_
      refine AW.reg ?_
      refine AO.calm rfl 33 rfl (by decide) (.own n4 0 x6.length) (Calm.move rfl rfl) ?_
      obtain ⟨hg10, h⟩ := of_guard h
      refine AO.calm rfl 34 rfl (by decide) (.ptr n4 ((0 : Int).toNat * 1 + 0)) (Calm.idxO 2 rfl rfl rfl rfl hg10 Try.underlying43 sz3) ?_
      refine AO.store (X' := (.ar 1 ((lset x6 (0 : Int) (0 : Int)).map eI64))) 2 rfl rfl rfl rfl rfl rfl (Put.cast (Put.lidx (0 : Int) (0 : Int) hg10.1 hg10.2 Put.here) (by omega)) rfl rfl sz3 rfl ?_
      refine AO.coe 3 (y' := (.own n4 0 (lset x6 (0 : Int) (0 : Int)).length)) rfl (fun _ _ h => lset_own h) ?_
      refine AO.coe 33 (y' := (.own n4 0 (lset x6 (0 : Int) (0 : Int)).length)) rfl (fun _ _ h => lset_own h) ?_
      refine AO.nil (ρ' := [(1, (.ptr n2 0)), (2, (.ptr n3 0)), (3, (.own n4 0 (lset x6 (0 : Int) (0 : Int)).length)), (5, (.ptr n7 0)), (6, (.own n9 0 ([(0 : Int)] : List Int).length))]) (H' := [(n2, (.mem (e50 p0))), (n3, (.mem (.st [(256, (.ar 1 ((Vector.replicate 256 (0 : Int)).toList.map eU8))), (1, (.fl (.slice none 0 0))), (1, (.fl (.slice none 0 0)))]))), (n4, (.mem (.ar 1 ((lset x6 (0 : Int) (0 : Int)).map eI64)))), (n7, (.mem (.st [(256, (.ar 1 (p0.f0.toList.map eU8))), (1, (.fl (.slice none 0 0))), (1, (.fl (.slice none 0 0)))]))), (n9, (.mem (.ar 1 (([(0 : Int)] : List Int).map eI64))))]) ⟨rfl, rfl, rfl, rfl, rfl, trivial⟩ (Sub.refl _) ?_
      refine AW.seq_mid (fun ρ H => ∃ (n11 : Nat) (n13 : Nat) (x12 : (List (List Int))) (x14 : (List Int)), ρ = [(2, (.ptr n3 0)), (5, (.ptr n7 0))] ∧ H = [(n3, (.mem (.st [(256, (.ar 1 ((Vector.replicate 256 (0 : Int)).toList.map eU8))), (1, (.fl (.slice none 0 0))), (1, (.fl (.slice none 0 0)))]))), (n7, (.mem (.st [(256, (.ar 1 (p0.f0.toList.map eU8))), (1, (.own n11 0 x12.length)), (1, (.own n13 0 x14.length))]))), (n11, (.mem (.ar 1 (x12.map e43)))), (n13, (.mem (.ar 1 (x14.map eI64))))] ∧ dfa_Order_c0 k p0 x12 x14 = some r) ?_ ?_
      · refine AW.seq ?_
        refine AW.reg ?_
        refine AO.calm rfl 7 rfl (by decide) (eI64 (0 : Int)) (Calm.assign rfl rfl) ?_
        refine AO.nil (ρ' := [(1, (.ptr n2 0)), (2, (.ptr n3 0)), (3, (.own n4 0 (lset x6 (0 : Int) (0 : Int)).length)), (5, (.ptr n7 0)), (6, (.own n9 0 ([(0 : Int)] : List Int).length)), (7, (eI64 (0 : Int)))]) (H' := [(n2, (.mem (e50 p0))), (n3, (.mem (.st [(256, (.ar 1 ((Vector.replicate 256 (0 : Int)).toList.map eU8))), (1, (.fl (.slice none 0 0))), (1, (.fl (.slice none 0 0)))]))), (n4, (.mem (.ar 1 ((lset x6 (0 : Int) (0 : Int)).map eI64)))), (n7, (.mem (.st [(256, (.ar 1 (p0.f0.toList.map eU8))), (1, (.fl (.slice none 0 0))), (1, (.fl (.slice none 0 0)))]))), (n9, (.mem (.ar 1 (([(0 : Int)] : List Int).map eI64))))]) ⟨rfl, rfl, rfl, rfl, rfl, rfl, trivial⟩ (Sub.refl _) ?_
        refine AW.block ?_
        refine AW.nilOwnFld 3 1 (fun n80 => (.st [(256, (.ar 1 (p0.f0.toList.map eU8))), (1, (.own n80 0 0)), (1, (.fl (.slice none 0 0)))])) rfl (fun _ => (Put.cast (Put.fldS (Put.fld0 Put.here)) rfl)) (fun _ => rfl) (fun _ => rfl) fun n80 => ?_
        refine AW.nilOwnFld 4 1 (fun n81 => (.st [(256, (.ar 1 (p0.f0.toList.map eU8))), (1, (.own n80 0 ([] : List (List Int)).length)), (1, (.own n81 0 0))])) rfl (fun _ => (Put.cast (Put.fldS (Put.fldS (Put.fld0 Put.here))) rfl)) (fun _ => rfl) (fun _ => rfl) fun n81 => ?_
        refine AW.weak (ρ' := [(1, (.ptr n2 0)), (2, (.ptr n3 0)), (3, (.own n4 0 (lset x6 (0 : Int) (0 : Int)).length)), (5, (.ptr n7 0)), (6, (.own n9 0 ([(0 : Int)] : List Int).length)), (7, (eI64 (0 : Int)))]) (H' := [(n2, (.mem (e50 p0))), (n3, (.mem (.st [(256, (.ar 1 ((Vector.replicate 256 (0 : Int)).toList.map eU8))), (1, (.fl (.slice none 0 0))), (1, (.fl (.slice none 0 0)))]))), (n4, (.mem (.ar 1 ((lset x6 (0 : Int) (0 : Int)).map eI64)))), (n7, (.mem (.st [(256, (.ar 1 (p0.f0.toList.map eU8))), (1, (.own n80 0 ([] : List (List Int)).length)), (1, (.own n81 0 ([] : List Int).length))]))), (n80, (.mem (.ar 1 (([] : List (List Int)).map e43)))), (n81, (.mem (.ar 1 (([] : List Int).map eI64)))), (n9, (.mem (.ar 1 (([(0 : Int)] : List Int).map eI64))))]) ⟨rfl, rfl, rfl, rfl, rfl, rfl, trivial⟩ (Sub.cons 2 rfl (Sub.cons 2 rfl (Sub.cons 2 rfl (Sub.cons 2 rfl (Sub.cons 1 rfl (Sub.cons 0 rfl (Sub.cons 0 rfl (Sub.nil _)))))))) ?_
        refine AW.loop (fun kq ρ H => ∃ (n16 : Nat) (n18 : Nat) (n20 : Nat) (x15 : (List Int)) (x17 : (List (List Int))) (x19 : (List Int)) (x21 : (List Int)) (x22 : Int), ρ = [(1, (.ptr n2 0)), (2, (.ptr n3 0)), (3, (.own n4 0 x15.length)), (5, (.ptr n7 0)), (6, (.own n20 0 x21.length)), (7, (eI64 x22))] ∧ H = [(n2, (.mem (e50 p0))), (n3, (.mem (.st [(256, (.ar 1 ((Vector.replicate 256 (0 : Int)).toList.map eU8))), (1, (.fl (.slice none 0 0))), (1, (.fl (.slice none 0 0)))]))), (n4, (.mem (.ar 1 (x15.map eI64)))), (n7, (.mem (.st [(256, (.ar 1 (p0.f0.toList.map eU8))), (1, (.own n16 0 x17.length)), (1, (.own n18 0 x19.length))]))), (n16, (.mem (.ar 1 (x17.map e43)))), (n18, (.mem (.ar 1 (x19.map eI64)))), (n20, (.mem (.ar 1 (x21.map eI64))))] ∧ dfa_Order_l6 k p0 kq x15 x17 x19 x21 x22 = some r) k ⟨n80, n81, n9, (lset x6 (0 : Int) (0 : Int)), ([] : List (List Int)), ([] : List Int), ([(0 : Int)] : List Int), (0 : Int), rfl, rfl, h⟩ ?_
        rintro kq24 _ _ ⟨n16, n18, n20, x15, x17, x19, x21, x22, rfl, rfl, h⟩
        cases kq24 with
        | zero => rw [dfa_Order_l6.eq_1] at h; cases h
        | succ kq24 =>
        rw [dfa_Order_l6.eq_2] at h
        generalize hrec23 : dfa_Order_l6 k p0 kq24 = rec23 at h
        refine AW.seq ?_
        refine AW.seq ?_
        refine AW.reg ?_
        refine AO.calm rfl 35 rfl (by decide) (eI64 x22) (Calm.move rfl rfl) ?_
        refine AO.calm rfl 36 rfl (by decide) (.own n20 0 x21.length) (Calm.move rfl rfl) ?_
        refine AO.calm rfl 37 rfl (by decide) (eI64 (x21.length : Int)) (Calm.lenOwn rfl rfl Try.underlying43) ?_
        refine AO.calm rfl 38 rfl (by decide) (eBool (decide (x22 < (x21.length : Int)))) (Calm.int rfl rfl rfl rfl) ?_
        refine AO.nil (ρ' := [(1, (.ptr n2 0)), (2, (.ptr n3 0)), (3, (.own n4 0 x15.length)), (5, (.ptr n7 0)), (6, (.own n20 0 x21.length)), (7, (eI64 x22)), (38, (eBool (decide (x22 < (x21.length : Int)))))]) (H' := [(n2, (.mem (e50 p0))), (n3, (.mem (.st [(256, (.ar 1 ((Vector.replicate 256 (0 : Int)).toList.map eU8))), (1, (.fl (.slice none 0 0))), (1, (.fl (.slice none 0 0)))]))), (n4, (.mem (.ar 1 (x15.map eI64)))), (n7, (.mem (.st [(256, (.ar 1 (p0.f0.toList.map eU8))), (1, (.own n16 0 x17.length)), (1, (.own n18 0 x19.length))]))), (n16, (.mem (.ar 1 (x17.map e43)))), (n18, (.mem (.ar 1 (x19.map eI64)))), (n20, (.mem (.ar 1 (x21.map eI64))))]) ⟨rfl, rfl, rfl, rfl, rfl, rfl, rfl, trivial⟩ (Sub.refl _) ?_
        by_cases hc25 : x22 < (x21.length : Int)
        · have h := (if_pos hc25).symm.trans h
          refine AW.condP (x22 < (x21.length : Int)) rfl hc25 ?_
          refine AW.skip (ρ' := [(1, (.ptr n2 0)), (2, (.ptr n3 0)), (3, (.own n4 0 x15.length)), (5, (.ptr n7 0)), (6, (.own n20 0 x21.length)), (7, (eI64 x22))]) (H' := [(n2, (.mem (e50 p0))), (n3, (.mem (.st [(256, (.ar 1 ((Vector.replicate 256 (0 : Int)).toList.map eU8))), (1, (.fl (.slice none 0 0))), (1, (.fl (.slice none 0 0)))]))), (n4, (.mem (.ar 1 (x15.map eI64)))), (n7, (.mem (.st [(256, (.ar 1 (p0.f0.toList.map eU8))), (1, (.own n16 0 x17.length)), (1, (.own n18 0 x19.length))]))), (n16, (.mem (.ar 1 (x17.map e43)))), (n18, (.mem (.ar 1 (x19.map eI64)))), (n20, (.mem (.ar 1 (x21.map eI64))))]) ⟨rfl, rfl, rfl, rfl, rfl, rfl, trivial⟩ (Sub.refl _) ?_
          refine AW.seq_mid (fun ρ H => ∃ (n27 : Nat) (n29 : Nat) (n31 : Nat) (x26 : (List Int)) (x28 : (List (List Int))) (x30 : (List Int)) (x32 : (List Int)), ρ = [(1, (.ptr n2 0)), (2, (.ptr n3 0)), (3, (.own n4 0 x26.length)), (5, (.ptr n7 0)), (6, (.own n31 0 x32.length)), (7, (eI64 x22))] ∧ H = [(n2, (.mem (e50 p0))), (n3, (.mem (.st [(256, (.ar 1 ((Vector.replicate 256 (0 : Int)).toList.map eU8))), (1, (.fl (.slice none 0 0))), (1, (.fl (.slice none 0 0)))]))), (n4, (.mem (.ar 1 (x26.map eI64)))), (n7, (.mem (.st [(256, (.ar 1 (p0.f0.toList.map eU8))), (1, (.own n27 0 x28.length)), (1, (.own n29 0 x30.length))]))), (n27, (.mem (.ar 1 (x28.map e43)))), (n29, (.mem (.ar 1 (x30.map eI64)))), (n31, (.mem (.ar 1 (x32.map eI64))))] ∧ dfa_Order_c1 k rec23 x22 x26 x28 x30 x32 = some r) ?_ ?_
          · refine AW.block ?_
            refine AW.seq ?_
            obtain ⟨hg33, h⟩ := of_guard h
            obtain ⟨hg34, h⟩ := of_guard h
            obtain ⟨hg36, h⟩ := of_guard h
            refine AW.regEff (by rfl) (by decide +kernel) (fun (σ : Nat → Nat) => ([(.ptr n2 256), (.fz 1 (p0.f1.map e43)), (.own n20 0 x21.length), (eI64 x22), (.ptr n20 (x22.toNat * 1 + 0)), (eI64 (lget x21 x22)), (.rp (.fz 1 ((lget p0.f1 (lget x21 x22)).map eI64))), (.fz 1 ((lget p0.f1 (lget x21 x22)).map eI64)), (eI64 ((lget p0.f1 (lget x21 x22)).length : Int)), (.own (σ 9) 0 ([] : List Int).length), (.own (σ 9) 0 ([] : List Int).length)] : List AV)) (fun (L : Nat → Bool) (σ : Nat → Nat) => ((n2, (.mem (e50 p0))) :: (n3, (.mem (.st [(256, (.ar 1 ((Vector.replicate 256 (0 : Int)).toList.map eU8))), (1, (.fl (.slice none 0 0))), (1, (.fl (.slice none 0 0)))]))) :: (n4, (.mem (.ar 1 (x15.map eI64)))) :: (n7, (.mem (.st [(256, (.ar 1 (p0.f0.toList.map eU8))), (1, (.own n16 0 x17.length)), (1, (.own n18 0 x19.length))]))) :: (n16, (.mem (.ar 1 (x17.map e43)))) :: (n18, (.mem (.ar 1 (x19.map eI64)))) :: (n20, (.mem (.ar 1 (x21.map eI64)))) :: (bif L 9 then (((σ 9), (.mem (.ar 1 (([] : List Int).map eI64)))) :: []) else ([])) : Heap)) [(1, (.ptr n2 0)), (2, (.ptr n3 0)), (3, (.own n4 0 x15.length)), (5, (.ptr n7 0)), (6, (.own n20 0 x21.length)), (7, (eI64 x22))] ⟨rfl, rfl, rfl, rfl, rfl, rfl, trivial⟩ (fun _ => rfl) (fun σ => (Sub.refl _)) ⟨?_, ?_, ?_, ?_, ?_, ?_, ?_, ?_, ?_, ?_, ?_, trivial⟩ (fun σ => [(1, (.ptr n2 0)), (2, (.ptr n3 0)), (3, (.own n4 0 x15.length)), (5, (.ptr n7 0)), (6, (.own n20 0 x21.length)), (7, (eI64 x22)), (8, (.own (σ 9) 0 ([] : List Int).length))]) (fun σ => ((n2, (.mem (e50 p0))) :: (n3, (.mem (.st [(256, (.ar 1 ((Vector.replicate 256 (0 : Int)).toList.map eU8))), (1, (.fl (.slice none 0 0))), (1, (.fl (.slice none 0 0)))]))) :: (n4, (.mem (.ar 1 (x15.map eI64)))) :: (n7, (.mem (.st [(256, (.ar 1 (p0.f0.toList.map eU8))), (1, (.own n16 0 x17.length)), (1, (.own n18 0 x19.length))]))) :: (n16, (.mem (.ar 1 (x17.map e43)))) :: (n18, (.mem (.ar 1 (x19.map eI64)))) :: (n20, (.mem (.ar 1 (x21.map eI64)))) :: ((σ 9), (.mem (.ar 1 (([] : List Int).map eI64)))) :: [])) (fun σ => ⟨rfl, rfl, rfl, rfl, rfl, rfl, rfl, trivial⟩) (fun σ => Sub.refl _) (fun σ => ?_)
            · refine StepE.calm (fun _ _ => rfl) fun L σ hc hi hd => ?_
              refine AO.weak (ρ' := [(1, (.ptr n2 0))]) ⟨rfl, trivial⟩ (Sub.refl _) ?_
              refine AO.calm rfl 41 rfl (by decide) (.ptr n2 256) (Calm.fldPtr rfl rfl Try.underlying50 rfl sz48 _ rfl) ?_
              exact AO.nilE (ρ' := [(41, (.ptr n2 256))]) ⟨⟨41, _, rfl, rfl, rfl⟩, Sub.refl _⟩ ⟨rfl, trivial⟩ (Sub.refl _)
            · refine StepE.calm (fun _ _ => rfl) fun L σ hc hi hd => ?_
              refine AO.weak (ρ' := [(41, (.ptr n2 256))]) ⟨rfl, trivial⟩ (Sub.refl _) ?_
              refine AO.calm rfl 42 rfl (by decide) (.fz 1 (p0.f1.map e43)) (Calm.load 0 rfl rfl rfl (At.cast (At.fldS (At.fld0 At.here)) rfl) ag48 sz48) ?_
              exact AO.nilE (ρ' := [(42, (.fz 1 (p0.f1.map e43)))]) ⟨⟨42, _, rfl, rfl, rfl⟩, Sub.refl _⟩ ⟨rfl, trivial⟩ (Sub.refl _)
            · refine StepE.calm (fun _ _ => rfl) fun L σ hc hi hd => ?_
              refine AO.weak (ρ' := [(6, (.own n20 0 x21.length))]) ⟨rfl, trivial⟩ (Sub.refl _) ?_
              refine AO.calm rfl 43 rfl (by decide) (.own n20 0 x21.length) (Calm.move rfl rfl) ?_
              exact AO.nilE (ρ' := [(43, (.own n20 0 x21.length))]) ⟨⟨43, _, rfl, rfl, rfl⟩, Sub.refl _⟩ ⟨rfl, trivial⟩ (Sub.refl _)
            · refine StepE.calm (fun _ _ => rfl) fun L σ hc hi hd => ?_
              refine AO.weak (ρ' := [(7, (eI64 x22))]) ⟨rfl, trivial⟩ (Sub.refl _) ?_
              refine AO.calm rfl 44 rfl (by decide) (eI64 x22) (Calm.move rfl rfl) ?_
              exact AO.nilE (ρ' := [(44, (eI64 x22))]) ⟨⟨44, _, rfl, rfl, rfl⟩, Sub.refl _⟩ ⟨rfl, trivial⟩ (Sub.refl _)
            · refine StepE.calm (fun _ _ => rfl) fun L σ hc hi hd => ?_
              refine AO.weak (ρ' := [(43, (.own n20 0 x21.length)), (44, (eI64 x22))]) ⟨rfl, rfl, trivial⟩ (Sub.refl _) ?_
              refine AO.calm rfl 45 rfl (by decide) (.ptr n20 (x22.toNat * 1 + 0)) (Calm.idxO 6 rfl rfl rfl rfl hg33 Try.underlying43 sz3) ?_
              exact AO.nilE (ρ' := [(45, (.ptr n20 (x22.toNat * 1 + 0)))]) ⟨⟨45, _, rfl, rfl, rfl⟩, Sub.refl _⟩ ⟨rfl, trivial⟩ (Sub.refl _)
            · refine StepE.calm (fun _ _ => rfl) fun L σ hc hi hd => ?_
              refine AO.weak (ρ' := [(45, (.ptr n20 (x22.toNat * 1 + 0)))]) ⟨rfl, trivial⟩ (Sub.refl _) ?_
              refine AO.calm rfl 46 rfl (by decide) (eI64 (lget x21 x22)) (Calm.load 6 rfl rfl rfl (At.cast (At.lidx x22 hg33.1 hg33.2 At.here) (by omega)) ag3 sz3) ?_
              exact AO.nilE (ρ' := [(46, (eI64 (lget x21 x22)))]) ⟨⟨46, _, rfl, rfl, rfl⟩, Sub.refl _⟩ ⟨rfl, trivial⟩ (Sub.refl _)
            · refine StepE.calm (fun _ _ => rfl) fun L σ hc hi hd => ?_
              refine AO.weak (ρ' := [(42, (.fz 1 (p0.f1.map e43))), (46, (eI64 (lget x21 x22)))]) ⟨rfl, rfl, trivial⟩ (Sub.refl _) ?_
              refine AO.calm rfl 47 rfl (by decide) (.rp (.fz 1 ((lget p0.f1 (lget x21 x22)).map eI64))) (Calm.idxL (f := e43) rfl rfl rfl hg34 Try.underlying48 sz43) ?_
              exact AO.nilE (ρ' := [(47, (.rp (.fz 1 ((lget p0.f1 (lget x21 x22)).map eI64))))]) ⟨⟨47, _, rfl, rfl, rfl⟩, Sub.refl _⟩ ⟨rfl, trivial⟩ (Sub.refl _)
            · refine StepE.calm (fun _ _ => rfl) fun L σ hc hi hd => ?_
              refine AO.weak (ρ' := [(47, (.rp (.fz 1 ((lget p0.f1 (lget x21 x22)).map eI64))))]) ⟨rfl, trivial⟩ (Sub.refl _) ?_
              refine AO.calm rfl 48 rfl (by decide) (.fz 1 ((lget p0.f1 (lget x21 x22)).map eI64)) (Calm.loadRp rfl rfl ag43 sz43) ?_
              exact AO.nilE (ρ' := [(48, (.fz 1 ((lget p0.f1 (lget x21 x22)).map eI64)))]) ⟨⟨48, _, rfl, rfl, rfl⟩, Sub.refl _⟩ ⟨rfl, trivial⟩ (Sub.refl _)
            · refine StepE.calm (fun _ _ => rfl) fun L σ hc hi hd => ?_
              refine AO.weak (ρ' := [(48, (.fz 1 ((lget p0.f1 (lget x21 x22)).map eI64)))]) ⟨rfl, trivial⟩ (Sub.refl _) ?_
              refine AO.calm rfl 49 rfl (by decide) (eI64 ((lget p0.f1 (lget x21 x22)).length : Int)) (Calm.lenL rfl rfl Try.underlying43) ?_
              exact AO.nilE (ρ' := [(49, (eI64 ((lget p0.f1 (lget x21 x22)).length : Int)))]) ⟨⟨49, _, rfl, rfl, rfl⟩, Sub.refl _⟩ ⟨rfl, trivial⟩ (Sub.refl _)
            · intro L σ hc hi hd
              refine AO.heq (H' := ((n2, (.mem (e50 p0))) :: (n3, (.mem (.st [(256, (.ar 1 ((Vector.replicate 256 (0 : Int)).toList.map eU8))), (1, (.fl (.slice none 0 0))), (1, (.fl (.slice none 0 0)))]))) :: (n4, (.mem (.ar 1 (x15.map eI64)))) :: (n7, (.mem (.st [(256, (.ar 1 (p0.f0.toList.map eU8))), (1, (.own n16 0 x17.length)), (1, (.own n18 0 x19.length))]))) :: (n16, (.mem (.ar 1 (x17.map e43)))) :: (n18, (.mem (.ar 1 (x19.map eI64)))) :: (n20, (.mem (.ar 1 (x21.map eI64)))) :: [])) (by first | rfl | simp only [hi, cond_true, cond_false]) ?_
              refine AO.weak (ρ' := [(49, (eI64 ((lget p0.f1 (lget x21 x22)).length : Int)))]) (H' := ((n2, (.mem (e50 p0))) :: (n3, (.mem (.st [(256, (.ar 1 ((Vector.replicate 256 (0 : Int)).toList.map eU8))), (1, (.fl (.slice none 0 0))), (1, (.fl (.slice none 0 0)))]))) :: (n4, (.mem (.ar 1 (x15.map eI64)))) :: (n7, (.mem (.st [(256, (.ar 1 (p0.f0.toList.map eU8))), (1, (.own n16 0 x17.length)), (1, (.own n18 0 x19.length))]))) :: (n16, (.mem (.ar 1 (x17.map e43)))) :: (n18, (.mem (.ar 1 (x19.map eI64)))) :: (n20, (.mem (.ar 1 (x21.map eI64)))) :: [])) ⟨rfl, trivial⟩ (Sub.refl _) ?_
              refine AO.makeRoom (f := eI64) (0 : Int) rfl 50 rfl (by decide) rfl rfl rfl Try.underlying43 sz3 by3 zr3 lay3 rfl hg36 fun n35 => ?_
              have a9 : addL L 9 9 = true := rfl
              have u9 : upd σ 9 n35 9 = n35 := rfl
              have m10 : L 10 = false := hc.neg (i := 9) (j := 10) rfl (by rfl) hi
              exact AO.nilE (ρ' := [(50, (.own n35 0 ([] : List Int).length))]) (H' := ((n35, (.mem (.ar 1 (([] : List Int).map eI64)))) :: (n2, (.mem (e50 p0))) :: (n3, (.mem (.st [(256, (.ar 1 ((Vector.replicate 256 (0 : Int)).toList.map eU8))), (1, (.fl (.slice none 0 0))), (1, (.fl (.slice none 0 0)))]))) :: (n4, (.mem (.ar 1 (x15.map eI64)))) :: (n7, (.mem (.st [(256, (.ar 1 (p0.f0.toList.map eU8))), (1, (.own n16 0 x17.length)), (1, (.own n18 0 x19.length))]))) :: (n16, (.mem (.ar 1 (x17.map e43)))) :: (n18, (.mem (.ar 1 (x19.map eI64)))) :: (n20, (.mem (.ar 1 (x21.map eI64)))) :: [])) ⟨(upd σ 9 n35), (fun j hj => match j, hj with | 0, _ => rfl | 1, _ => rfl | 2, _ => rfl | 3, _ => rfl | 4, _ => rfl | 5, _ => rfl | 6, _ => rfl | 7, _ => rfl | 8, _ => rfl | 9, hj => Bool.noConfusion (hj.symm.trans hi) | 10, hj => Bool.noConfusion (hj.symm.trans m10) | _ + 11, _ => rfl), (fun d' hd' => ⟨_, rfl, by cases hd'; rfl⟩), Sub.of_eq (B := ((n2, (.mem (e50 p0))) :: (n3, (.mem (.st [(256, (.ar 1 ((Vector.replicate 256 (0 : Int)).toList.map eU8))), (1, (.fl (.slice none 0 0))), (1, (.fl (.slice none 0 0)))]))) :: (n4, (.mem (.ar 1 (x15.map eI64)))) :: (n7, (.mem (.st [(256, (.ar 1 (p0.f0.toList.map eU8))), (1, (.own n16 0 x17.length)), (1, (.own n18 0 x19.length))]))) :: (n16, (.mem (.ar 1 (x17.map e43)))) :: (n18, (.mem (.ar 1 (x19.map eI64)))) :: (n20, (.mem (.ar 1 (x21.map eI64)))) :: (n35, (.mem (.ar 1 (([] : List Int).map eI64)))) :: [])) (by simp only [a9, u9, cond_true, cond_false]) (Sub.cons 1 rfl (Sub.cons 1 rfl (Sub.cons 1 rfl (Sub.cons 1 rfl (Sub.cons 1 rfl (Sub.cons 1 rfl (Sub.cons 1 rfl (Sub.cons 0 rfl (Sub.refl _)))))))))⟩ ⟨rfl, trivial⟩ (Sub.refl _)
            · refine StepE.calm (fun _ _ => rfl) fun L σ hc hi hd => ?_
              have y9 : L 9 = true := on_get hd (i := 9) (by rfl)
              refine AO.heq (H' := ((n2, (.mem (e50 p0))) :: (n3, (.mem (.st [(256, (.ar 1 ((Vector.replicate 256 (0 : Int)).toList.map eU8))), (1, (.fl (.slice none 0 0))), (1, (.fl (.slice none 0 0)))]))) :: (n4, (.mem (.ar 1 (x15.map eI64)))) :: (n7, (.mem (.st [(256, (.ar 1 (p0.f0.toList.map eU8))), (1, (.own n16 0 x17.length)), (1, (.own n18 0 x19.length))]))) :: (n16, (.mem (.ar 1 (x17.map e43)))) :: (n18, (.mem (.ar 1 (x19.map eI64)))) :: (n20, (.mem (.ar 1 (x21.map eI64)))) :: ((σ 9), (.mem (.ar 1 (([] : List Int).map eI64)))) :: [])) (by first | rfl | simp only [y9, cond_true, cond_false]) ?_
              refine AO.weak (ρ' := [(50, (.own (σ 9) 0 ([] : List Int).length))]) (H' := ((n2, (.mem (e50 p0))) :: (n3, (.mem (.st [(256, (.ar 1 ((Vector.replicate 256 (0 : Int)).toList.map eU8))), (1, (.fl (.slice none 0 0))), (1, (.fl (.slice none 0 0)))]))) :: (n4, (.mem (.ar 1 (x15.map eI64)))) :: (n7, (.mem (.st [(256, (.ar 1 (p0.f0.toList.map eU8))), (1, (.own n16 0 x17.length)), (1, (.own n18 0 x19.length))]))) :: (n16, (.mem (.ar 1 (x17.map e43)))) :: (n18, (.mem (.ar 1 (x19.map eI64)))) :: (n20, (.mem (.ar 1 (x21.map eI64)))) :: ((σ 9), (.mem (.ar 1 (([] : List Int).map eI64)))) :: [])) ⟨rfl, trivial⟩ (Sub.refl _) ?_
              refine AO.calm rfl 8 rfl (by decide) (.own (σ 9) 0 ([] : List Int).length) (Calm.assign rfl rfl) ?_
              exact AO.nilE (ρ' := [(8, (.own (σ 9) 0 ([] : List Int).length))]) ⟨⟨8, _, rfl, rfl, rfl⟩, Sub.of_eq (by first | rfl | simp only [y9, cond_true, cond_false]) (Sub.refl _)⟩ ⟨rfl, trivial⟩ (Sub.refl _)
            · generalize σ 9 = n35
              refine AO.nil (ρ' := [(1, (.ptr n2 0)), (2, (.ptr n3 0)), (3, (.own n4 0 x15.length)), (5, (.ptr n7 0)), (6, (.own n20 0 x21.length)), (7, (eI64 x22)), (8, (.own n35 0 ([] : List Int).length))]) (H' := [(n2, (.mem (e50 p0))), (n3, (.mem (.st [(256, (.ar 1 ((Vector.replicate 256 (0 : Int)).toList.map eU8))), (1, (.fl (.slice none 0 0))), (1, (.fl (.slice none 0 0)))]))), (n4, (.mem (.ar 1 (x15.map eI64)))), (n7, (.mem (.st [(256, (.ar 1 (p0.f0.toList.map eU8))), (1, (.own n16 0 x17.length)), (1, (.own n18 0 x19.length))]))), (n16, (.mem (.ar 1 (x17.map e43)))), (n18, (.mem (.ar 1 (x19.map eI64)))), (n20, (.mem (.ar 1 (x21.map eI64)))), (n35, (.mem (.ar 1 (([] : List Int).map eI64))))]) ⟨rfl, rfl, rfl, rfl, rfl, rfl, rfl, trivial⟩ (Sub.refl _) ?_
              refine AW.seq_mid (fun ρ H => ∃ (n38 : Nat) (n40 : Nat) (x37 : (List Int)) (x39 : (List Int)) (x41 : (List Int)), ρ = [(1, (.ptr n2 0)), (2, (.ptr n3 0)), (3, (.own n4 0 x37.length)), (5, (.ptr n7 0)), (6, (.own n38 0 x39.length)), (7, (eI64 x22)), (8, (.own n40 0 x41.length))] ∧ H = [(n2, (.mem (e50 p0))), (n3, (.mem (.st [(256, (.ar 1 ((Vector.replicate 256 (0 : Int)).toList.map eU8))), (1, (.fl (.slice none 0 0))), (1, (.fl (.slice none 0 0)))]))), (n4, (.mem (.ar 1 (x37.map eI64)))), (n7, (.mem (.st [(256, (.ar 1 (p0.f0.toList.map eU8))), (1, (.own n16 0 x17.length)), (1, (.own n18 0 x19.length))]))), (n16, (.mem (.ar 1 (x17.map e43)))), (n18, (.mem (.ar 1 (x19.map eI64)))), (n38, (.mem (.ar 1 (x39.map eI64)))), (n40, (.mem (.ar 1 (x41.map eI64))))] ∧ dfa_Order_c2 k rec23 p0 x17 x19 x22 x37 x39 x41 = some r) ?_ ?_
              · refine AW.seq ?_
                refine AW.regQ (by rfl) (by decide +kernel) ?_
                refine AQ.calm rfl 51 rfl (by decide) (.ptr n2 256) (Calm.fldPtr rfl rfl Try.underlying50 rfl sz48 _ rfl) ?_
                refine AQ.calm rfl 52 rfl (by decide) (.fz 1 (p0.f1.map e43)) (Calm.load 0 rfl rfl rfl (At.cast (At.fldS (At.fld0 At.here)) rfl) ag48 sz48) ?_
                refine AQ.calm rfl 53 rfl (by decide) (.own n20 0 x21.length) (Calm.move rfl rfl) ?_
                refine AQ.calm rfl 54 rfl (by decide) (eI64 x22) (Calm.move rfl rfl) ?_
                obtain ⟨hg50, h⟩ := of_guard h
                refine AQ.calm rfl 55 rfl (by decide) (.ptr n20 (x22.toNat * 1 + 0)) (Calm.idxO 6 rfl rfl rfl rfl hg50 Try.underlying43 sz3) ?_
                refine AQ.calm rfl 56 rfl (by decide) (eI64 (lget x21 x22)) (Calm.load 6 rfl rfl rfl (At.cast (At.lidx x22 hg50.1 hg50.2 At.here) (by omega)) ag3 sz3) ?_
                obtain ⟨hg51, h⟩ := of_guard h
                refine AQ.calm rfl 57 rfl (by decide) (.rp (.fz 1 ((lget p0.f1 (lget x21 x22)).map eI64))) (Calm.idxL (f := e43) rfl rfl rfl hg51 Try.underlying48 sz43) ?_
                refine AQ.calm rfl 58 rfl (by decide) (.fz 1 ((lget p0.f1 (lget x21 x22)).map eI64)) (Calm.loadRp rfl rfl ag43 sz43) ?_
                refine AQ.calm rfl 59 rfl (by decide) (eI64 ((lget p0.f1 (lget x21 x22)).length : Int)) (Calm.lenL rfl rfl Try.underlying43) ?_
                refine AQ.calm rfl 60 rfl (by decide) (eI64 (0 : Int)) (Calm.move rfl rfl) ?_
                refine AQ.nil (ρ' := [(1, (.ptr n2 0)), (2, (.ptr n3 0)), (3, (.own n4 0 x15.length)), (5, (.ptr n7 0)), (6, (.own n20 0 x21.length)), (7, (eI64 x22)), (8, (.own n35 0 ([] : List Int).length)), (58, (.fz 1 ((lget p0.f1 (lget x21 x22)).map eI64))), (59, (eI64 ((lget p0.f1 (lget x21 x22)).length : Int))), (60, (eI64 (0 : Int)))]) ⟨rfl, rfl, rfl, rfl, rfl, rfl, rfl, rfl, rfl, rfl, trivial⟩ ?_
                refine AW.block ?_
                refine AW.weak (ρ' := [(1, (.ptr n2 0)), (2, (.ptr n3 0)), (3, (.own n4 0 x15.length)), (5, (.ptr n7 0)), (6, (.own n20 0 x21.length)), (7, (eI64 x22)), (8, (.own n35 0 ([] : List Int).length)), (58, (.fz 1 ((lget p0.f1 (lget x21 x22)).map eI64))), (59, (eI64 ((lget p0.f1 (lget x21 x22)).length : Int))), (60, (eI64 (0 : Int)))]) (H' := [(n2, (.mem (e50 p0))), (n3, (.mem (.st [(256, (.ar 1 ((Vector.replicate 256 (0 : Int)).toList.map eU8))), (1, (.fl (.slice none 0 0))), (1, (.fl (.slice none 0 0)))]))), (n4, (.mem (.ar 1 (x15.map eI64)))), (n7, (.mem (.st [(256, (.ar 1 (p0.f0.toList.map eU8))), (1, (.own n16 0 x17.length)), (1, (.own n18 0 x19.length))]))), (n16, (.mem (.ar 1 (x17.map e43)))), (n18, (.mem (.ar 1 (x19.map eI64)))), (n20, (.mem (.ar 1 (x21.map eI64)))), (n35, (.mem (.ar 1 (([] : List Int).map eI64))))]) ⟨rfl, rfl, rfl, rfl, rfl, rfl, rfl, rfl, rfl, rfl, trivial⟩ (Sub.refl _) ?_
                refine AW.loop (fun kq ρ H => ∃ (n53 : Nat) (n55 : Nat) (x52 : (List Int)) (x54 : (List Int)) (x56 : (List Int)) (x57 : Int), ρ = [(1, (.ptr n2 0)), (2, (.ptr n3 0)), (3, (.own n4 0 x52.length)), (5, (.ptr n7 0)), (6, (.own n53 0 x54.length)), (7, (eI64 x22)), (8, (.own n55 0 x56.length)), (58, (.fz 1 ((lget p0.f1 (lget x21 x22)).map eI64))), (59, (eI64 ((lget p0.f1 (lget x21 x22)).length : Int))), (60, (eI64 x57))] ∧ H = [(n2, (.mem (e50 p0))), (n3, (.mem (.st [(256, (.ar 1 ((Vector.replicate 256 (0 : Int)).toList.map eU8))), (1, (.fl (.slice none 0 0))), (1, (.fl (.slice none 0 0)))]))), (n4, (.mem (.ar 1 (x52.map eI64)))), (n7, (.mem (.st [(256, (.ar 1 (p0.f0.toList.map eU8))), (1, (.own n16 0 x17.length)), (1, (.own n18 0 x19.length))]))), (n16, (.mem (.ar 1 (x17.map e43)))), (n18, (.mem (.ar 1 (x19.map eI64)))), (n53, (.mem (.ar 1 (x54.map eI64)))), (n55, (.mem (.ar 1 (x56.map eI64))))] ∧ dfa_Order_l5 k rec23 p0 x17 x19 x21 x22 kq x52 x54 x56 x57 = some r) k ⟨n20, n35, x15, x21, ([] : List Int), (0 : Int), rfl, rfl, h⟩ ?_
                rintro kq59 _ _ ⟨n53, n55, x52, x54, x56, x57, rfl, rfl, h⟩
                cases kq59 with
                | zero => rw [dfa_Order_l5.eq_1] at h; cases h
                | succ kq59 =>
                rw [dfa_Order_l5.eq_2] at h
                generalize hrec58 : dfa_Order_l5 k rec23 p0 x17 x19 x21 x22 kq59 = rec58 at h
                refine AW.seq ?_
                refine AW.reg ?_
                refine AO.calm rfl 61 rfl (by decide) (eBool (decide (x57 < ((lget p0.f1 (lget x21 x22)).length : Int)))) (Calm.int rfl rfl rfl rfl) ?_
                refine AO.nil (ρ' := [(1, (.ptr n2 0)), (2, (.ptr n3 0)), (3, (.own n4 0 x52.length)), (5, (.ptr n7 0)), (6, (.own n53 0 x54.length)), (7, (eI64 x22)), (8, (.own n55 0 x56.length)), (58, (.fz 1 ((lget p0.f1 (lget x21 x22)).map eI64))), (59, (eI64 ((lget p0.f1 (lget x21 x22)).length : Int))), (60, (eI64 x57)), (61, (eBool (decide (x57 < ((lget p0.f1 (lget x21 x22)).length : Int)))))]) (H' := [(n2, (.mem (e50 p0))), (n3, (.mem (.st [(256, (.ar 1 ((Vector.replicate 256 (0 : Int)).toList.map eU8))), (1, (.fl (.slice none 0 0))), (1, (.fl (.slice none 0 0)))]))), (n4, (.mem (.ar 1 (x52.map eI64)))), (n7, (.mem (.st [(256, (.ar 1 (p0.f0.toList.map eU8))), (1, (.own n16 0 x17.length)), (1, (.own n18 0 x19.length))]))), (n16, (.mem (.ar 1 (x17.map e43)))), (n18, (.mem (.ar 1 (x19.map eI64)))), (n53, (.mem (.ar 1 (x54.map eI64)))), (n55, (.mem (.ar 1 (x56.map eI64))))]) ⟨rfl, rfl, rfl, rfl, rfl, rfl, rfl, rfl, rfl, rfl, rfl, trivial⟩ (Sub.refl _) ?_
                refine AW.seq ?_
                by_cases hc60 : x57 < ((lget p0.f1 (lget x21 x22)).length : Int)
                · have h := (if_pos hc60).symm.trans h
                  refine AW.condP (x57 < ((lget p0.f1 (lget x21 x22)).length : Int)) rfl hc60 ?_
                  refine AW.skip (ρ' := [(1, (.ptr n2 0)), (2, (.ptr n3 0)), (3, (.own n4 0 x52.length)), (5, (.ptr n7 0)), (6, (.own n53 0 x54.length)), (7, (eI64 x22)), (8, (.own n55 0 x56.length)), (58, (.fz 1 ((lget p0.f1 (lget x21 x22)).map eI64))), (59, (eI64 ((lget p0.f1 (lget x21 x22)).length : Int))), (60, (eI64 x57))]) (H' := [(n2, (.mem (e50 p0))), (n3, (.mem (.st [(256, (.ar 1 ((Vector.replicate 256 (0 : Int)).toList.map eU8))), (1, (.fl (.slice none 0 0))), (1, (.fl (.slice none 0 0)))]))), (n4, (.mem (.ar 1 (x52.map eI64)))), (n7, (.mem (.st [(256, (.ar 1 (p0.f0.toList.map eU8))), (1, (.own n16 0 x17.length)), (1, (.own n18 0 x19.length))]))), (n16, (.mem (.ar 1 (x17.map e43)))), (n18, (.mem (.ar 1 (x19.map eI64)))), (n53, (.mem (.ar 1 (x54.map eI64)))), (n55, (.mem (.ar 1 (x56.map eI64))))]) ⟨rfl, rfl, rfl, rfl, rfl, rfl, rfl, rfl, rfl, rfl, trivial⟩ (Sub.refl _) ?_
                  refine AW.seq ?_
                  refine AW.block ?_
                  refine AW.seq ?_
                  refine AW.reg ?_
                  obtain ⟨hg61, h⟩ := of_guard h
                  refine AO.calm rfl 62 rfl (by decide) (.rp (eI64 (lget (lget p0.f1 (lget x21 x22)) x57))) (Calm.idxL (f := eI64) rfl rfl rfl hg61 Try.underlying43 sz3) ?_
                  refine AO.calm rfl 63 rfl (by decide) (eI64 (lget (lget p0.f1 (lget x21 x22)) x57)) (Calm.loadRp rfl rfl ag3 sz3) ?_
                  refine AO.calm rfl 10 rfl (by decide) (eI64 (lget (lget p0.f1 (lget x21 x22)) x57)) (Calm.assign rfl rfl) ?_
                  refine AO.nil (ρ' := [(1, (.ptr n2 0)), (2, (.ptr n3 0)), (3, (.own n4 0 x52.length)), (5, (.ptr n7 0)), (6, (.own n53 0 x54.length)), (7, (eI64 x22)), (8, (.own n55 0 x56.length)), (10, (eI64 (lget (lget p0.f1 (lget x21 x22)) x57))), (58, (.fz 1 ((lget p0.f1 (lget x21 x22)).map eI64))), (59, (eI64 ((lget p0.f1 (lget x21 x22)).length : Int))), (60, (eI64 x57))]) (H' := [(n2, (.mem (e50 p0))), (n3, (.mem (.st [(256, (.ar 1 ((Vector.replicate 256 (0 : Int)).toList.map eU8))), (1, (.fl (.slice none 0 0))), (1, (.fl (.slice none 0 0)))]))), (n4, (.mem (.ar 1 (x52.map eI64)))), (n7, (.mem (.st [(256, (.ar 1 (p0.f0.toList.map eU8))), (1, (.own n16 0 x17.length)), (1, (.own n18 0 x19.length))]))), (n16, (.mem (.ar 1 (x17.map e43)))), (n18, (.mem (.ar 1 (x19.map eI64)))), (n53, (.mem (.ar 1 (x54.map eI64)))), (n55, (.mem (.ar 1 (x56.map eI64))))]) ⟨rfl, rfl, rfl, rfl, rfl, rfl, rfl, rfl, rfl, rfl, rfl, trivial⟩ (Sub.refl _) ?_
                  refine AW.seq_mid (fun ρ H => ∃ (n63 : Nat) (x62 : (List Int)) (x64 : (List Int)), ρ = [(1, (.ptr n2 0)), (2, (.ptr n3 0)), (3, (.own n4 0 x62.length)), (5, (.ptr n7 0)), (6, (.own n63 0 x64.length)), (7, (eI64 x22)), (8, (.own n55 0 x56.length)), (10, (eI64 (lget (lget p0.f1 (lget x21 x22)) x57))), (58, (.fz 1 ((lget p0.f1 (lget x21 x22)).map eI64))), (59, (eI64 ((lget p0.f1 (lget x21 x22)).length : Int))), (60, (eI64 x57))] ∧ H = [(n2, (.mem (e50 p0))), (n3, (.mem (.st [(256, (.ar 1 ((Vector.replicate 256 (0 : Int)).toList.map eU8))), (1, (.fl (.slice none 0 0))), (1, (.fl (.slice none 0 0)))]))), (n4, (.mem (.ar 1 (x62.map eI64)))), (n7, (.mem (.st [(256, (.ar 1 (p0.f0.toList.map eU8))), (1, (.own n16 0 x17.length)), (1, (.own n18 0 x19.length))]))), (n16, (.mem (.ar 1 (x17.map e43)))), (n18, (.mem (.ar 1 (x19.map eI64)))), (n63, (.mem (.ar 1 (x64.map eI64)))), (n55, (.mem (.ar 1 (x56.map eI64))))] ∧ dfa_Order_c4 k rec58 p0 x21 x22 x56 x57 x62 x64 = some r) ?_ ?_
                  · refine AW.seq ?_
                    obtain ⟨b71, hq72, h⟩ := of_bind h
                    refine AW.regM [(1, (.ptr n2 0)), (2, (.ptr n3 0)), (3, (.own n4 0 x52.length)), (5, (.ptr n7 0)), (6, (.own n53 0 x54.length)), (7, (eI64 x22)), (8, (.own n55 0 x56.length)), (10, (eI64 (lget (lget p0.f1 (lget x21 x22)) x57))), (58, (.fz 1 ((lget p0.f1 (lget x21 x22)).map eI64))), (59, (eI64 ((lget p0.f1 (lget x21 x22)).length : Int))), (60, (eI64 x57)), (72, (eBool b71))] [(n2, (.mem (e50 p0))), (n3, (.mem (.st [(256, (.ar 1 ((Vector.replicate 256 (0 : Int)).toList.map eU8))), (1, (.fl (.slice none 0 0))), (1, (.fl (.slice none 0 0)))]))), (n4, (.mem (.ar 1 (x52.map eI64)))), (n7, (.mem (.st [(256, (.ar 1 (p0.f0.toList.map eU8))), (1, (.own n16 0 x17.length)), (1, (.own n18 0 x19.length))]))), (n16, (.mem (.ar 1 (x17.map e43)))), (n18, (.mem (.ar 1 (x19.map eI64)))), (n53, (.mem (.ar 1 (x54.map eI64)))), (n55, (.mem (.ar 1 (x56.map eI64))))] ?_ ?_
                    · refine AO.calm rfl 64 rfl (by decide) (eI64 (lget (lget p0.f1 (lget x21 x22)) x57)) (Calm.move rfl rfl) ?_
                      refine AO.calm rfl 65 rfl (by decide) (eBool (decide ((0 : Int) ≤ (lget (lget p0.f1 (lget x21 x22)) x57)))) (Calm.int rfl rfl rfl rfl) ?_
                      refine AO.calm rfl 66 rfl (by decide) (eBool (decide ((0 : Int) ≤ (lget (lget p0.f1 (lget x21 x22)) x57)))) (Calm.move rfl rfl) ?_
                      by_cases hc73 : (0 : Int) ≤ (lget (lget p0.f1 (lget x21 x22)) x57)
                      · have hq72 := (if_pos hc73).symm.trans hq72
                        refine AO.calmG 2 true 66 rfl rfl (congrArg (fun b => some (AV.fl (Value.bool b))) (decide_eq_true hc73)) 67 rfl (by decide) (.own n4 0 x52.length) (Calm.move rfl rfl) ?_
                        refine AO.calmG 2 true 66 rfl rfl (congrArg (fun b => some (AV.fl (Value.bool b))) (decide_eq_true hc73)) 68 rfl (by decide) (eI64 (lget (lget p0.f1 (lget x21 x22)) x57)) (Calm.move rfl rfl) ?_
                        obtain ⟨hg74, hq72⟩ := of_guard hq72
                        refine AO.calmG 2 true 66 rfl rfl (congrArg (fun b => some (AV.fl (Value.bool b))) (decide_eq_true hc73)) 69 rfl (by decide) (.ptr n4 ((lget (lget p0.f1 (lget x21 x22)) x57).toNat * 1 + 0)) (Calm.idxO 2 rfl rfl rfl rfl hg74 Try.underlying43 sz3) ?_
                        refine AO.calmG 2 true 66 rfl rfl (congrArg (fun b => some (AV.fl (Value.bool b))) (decide_eq_true hc73)) 70 rfl (by decide) (eI64 (lget x52 (lget (lget p0.f1 (lget x21 x22)) x57))) (Calm.load 2 rfl rfl rfl (At.cast (At.lidx (lget (lget p0.f1 (lget x21 x22)) x57) hg74.1 hg74.2 At.here) (by omega)) ag3 sz3) ?_
                        refine AO.calmG 2 true 66 rfl rfl (congrArg (fun b => some (AV.fl (Value.bool b))) (decide_eq_true hc73)) 71 rfl (by decide) (eBool (decide ((lget x52 (lget (lget p0.f1 (lget x21 x22)) x57)) = (-1 : Int)))) (Calm.int rfl rfl rfl rfl) ?_
                        refine AO.calm rfl 72 rfl (by decide) (eBool (decide ((lget x52 (lget (lget p0.f1 (lget x21 x22)) x57)) = (-1 : Int)))) (Calm.pickT rfl (congrArg (fun b => some (AV.fl (Value.bool b))) (decide_eq_true hc73)) rfl) ?_
                        cases hq72
                        refine AO.nilE ⟨rfl, rfl⟩ ?_ ?_
                        · exact ⟨rfl, rfl, rfl, rfl, rfl, rfl, rfl, rfl, rfl, rfl, rfl, rfl, trivial⟩
                        · exact (Sub.refl _)
                      · have hq72 := (if_neg hc73).symm.trans hq72
                        refine AO.skipG 2 false 66 rfl rfl (congrArg (fun b => some (AV.fl (Value.bool b))) (decide_eq_false hc73)) 67 rfl (by decide) ?_
                        refine AO.skipG 2 false 66 rfl rfl (congrArg (fun b => some (AV.fl (Value.bool b))) (decide_eq_false hc73)) 68 rfl (by decide) ?_
                        refine AO.skipG 2 false 66 rfl rfl (congrArg (fun b => some (AV.fl (Value.bool b))) (decide_eq_false hc73)) 69 rfl (by decide) ?_
                        refine AO.skipG 2 false 66 rfl rfl (congrArg (fun b => some (AV.fl (Value.bool b))) (decide_eq_false hc73)) 70 rfl (by decide) ?_
                        refine AO.skipG 2 false 66 rfl rfl (congrArg (fun b => some (AV.fl (Value.bool b))) (decide_eq_false hc73)) 71 rfl (by decide) ?_
                        refine AO.calm rfl 72 rfl (by decide) (eBool false) (Calm.pickF rfl (congrArg (fun b => some (AV.fl (Value.bool b))) (decide_eq_false hc73)) rfl) ?_
                        cases hq72
                        refine AO.nilE ⟨rfl, rfl⟩ ?_ ?_
                        · exact ⟨rfl, rfl, rfl, rfl, rfl, rfl, rfl, rfl, rfl, rfl, rfl, rfl, trivial⟩
                        · exact (Sub.refl _)
                    · by_cases hc75 : b71 = true
                      · have h := (if_pos hc75).symm.trans h
                        refine AW.condT' b71 rfl hc75 ?_
                        refine AW.seq ?_
                        refine AW.reg ?_
                        refine AO.calm rfl 73 rfl (by decide) (.own n4 0 x52.length) (Calm.move rfl rfl) ?_
                        refine AO.calm rfl 74 rfl (by decide) (eI64 (lget (lget p0.f1 (lget x21 x22)) x57)) (Calm.move rfl rfl) ?_
                        refine AO.calm rfl 75 rfl (by decide) (.own n53 0 x54.length) (Calm.move rfl rfl) ?_
                        refine AO.calm rfl 76 rfl (by decide) (eI64 (x54.length : Int)) (Calm.lenOwn rfl rfl Try.underlying43) ?_
                        obtain ⟨hg76, h⟩ := of_guard h
                        refine AO.calm rfl 77 rfl (by decide) (.ptr n4 ((lget (lget p0.f1 (lget x21 x22)) x57).toNat * 1 + 0)) (Calm.idxO 2 rfl rfl rfl rfl hg76 Try.underlying43 sz3) ?_
                        refine AO.store (X' := (.ar 1 ((lset x52 (lget (lget p0.f1 (lget x21 x22)) x57) (x54.length : Int)).map eI64))) 2 rfl rfl rfl rfl rfl rfl (Put.cast (Put.lidx (lget (lget p0.f1 (lget x21 x22)) x57) (x54.length : Int) hg76.1 hg76.2 Put.here) (by omega)) rfl rfl sz3 rfl ?_
                        refine AO.coe 3 (y' := (.own n4 0 (lset x52 (lget (lget p0.f1 (lget x21 x22)) x57) (x54.length : Int)).length)) rfl (fun _ _ h => lset_own h) ?_
                        refine AO.coe 73 (y' := (.own n4 0 (lset x52 (lget (lget p0.f1 (lget x21 x22)) x57) (x54.length : Int)).length)) rfl (fun _ _ h => lset_own h) ?_
                        refine AO.nil (ρ' := [(1, (.ptr n2 0)), (2, (.ptr n3 0)), (3, (.own n4 0 (lset x52 (lget (lget p0.f1 (lget x21 x22)) x57) (x54.length : Int)).length)), (5, (.ptr n7 0)), (6, (.own n53 0 x54.length)), (7, (eI64 x22)), (8, (.own n55 0 x56.length)), (10, (eI64 (lget (lget p0.f1 (lget x21 x22)) x57))), (58, (.fz 1 ((lget p0.f1 (lget x21 x22)).map eI64))), (59, (eI64 ((lget p0.f1 (lget x21 x22)).length : Int))), (60, (eI64 x57))]) (H' := [(n2, (.mem (e50 p0))), (n3, (.mem (.st [(256, (.ar 1 ((Vector.replicate 256 (0 : Int)).toList.map eU8))), (1, (.fl (.slice none 0 0))), (1, (.fl (.slice none 0 0)))]))), (n4, (.mem (.ar 1 ((lset x52 (lget (lget p0.f1 (lget x21 x22)) x57) (x54.length : Int)).map eI64)))), (n7, (.mem (.st [(256, (.ar 1 (p0.f0.toList.map eU8))), (1, (.own n16 0 x17.length)), (1, (.own n18 0 x19.length))]))), (n16, (.mem (.ar 1 (x17.map e43)))), (n18, (.mem (.ar 1 (x19.map eI64)))), (n53, (.mem (.ar 1 (x54.map eI64)))), (n55, (.mem (.ar 1 (x56.map eI64))))]) ⟨rfl, rfl, rfl, rfl, rfl, rfl, rfl, rfl, rfl, rfl, rfl, trivial⟩ (Sub.refl _) ?_
                        refine AW.reg ?_
                        refine AO.calm rfl 78 rfl (by decide) (.own n53 0 x54.length) (Calm.move rfl rfl) ?_
                        refine AO.calm rfl 79 rfl (by decide) (eI64 (lget (lget p0.f1 (lget x21 x22)) x57)) (Calm.move rfl rfl) ?_
                        refine AO.lit (Z := (eI64 (0 : Int))) (xs := (([(lget (lget p0.f1 (lget x21 x22)) x57)] : List Int).map eI64)) (qs := [(0, (eI64 (lget (lget p0.f1 (lget x21 x22)) x57)))]) rfl 80 rfl (by decide) rfl ⟨rfl, rfl, rfl, trivial⟩ Try.underlying43 sz3 zr3 lay3 rfl (by decide) (litOK (z := 1) [(eI64 (lget (lget p0.f1 (lget x21 x22)) x57))] rfl ⟨⟨rfl, rfl⟩, trivial⟩) rfl fun n77 => ?_
                        obtain ⟨hg79, h⟩ := of_guard h
                        refine AO.appendL (l := x54) (m := ([(lget (lget p0.f1 (lget x21 x22)) x57)] : List Int)) 7 81 rfl (by decide) rfl rfl rfl rfl rfl (Src.ownL (f := eI64) (l := ([(lget (lget p0.f1 (lget x21 x22)) x57)] : List Int)) 0 rfl) Try.underlying43 Try.underlying43 sz3 by3 zr3 rfl hg79 (by decide) fun n78 => ?_
                        refine AO.calm rfl 6 rfl (by decide) (.own n78 0 (x54 ++ ([(lget (lget p0.f1 (lget x21 x22)) x57)] : List Int)).length) (Calm.assign rfl rfl) ?_
                        refine AO.nil (ρ' := [(1, (.ptr n2 0)), (2, (.ptr n3 0)), (3, (.own n4 0 (lset x52 (lget (lget p0.f1 (lget x21 x22)) x57) (x54.length : Int)).length)), (5, (.ptr n7 0)), (6, (.own n78 0 (x54 ++ ([(lget (lget p0.f1 (lget x21 x22)) x57)] : List Int)).length)), (7, (eI64 x22)), (8, (.own n55 0 x56.length)), (10, (eI64 (lget (lget p0.f1 (lget x21 x22)) x57))), (58, (.fz 1 ((lget p0.f1 (lget x21 x22)).map eI64))), (59, (eI64 ((lget p0.f1 (lget x21 x22)).length : Int))), (60, (eI64 x57))]) (H' := [(n2, (.mem (e50 p0))), (n3, (.mem (.st [(256, (.ar 1 ((Vector.replicate 256 (0 : Int)).toList.map eU8))), (1, (.fl (.slice none 0 0))), (1, (.fl (.slice none 0 0)))]))), (n4, (.mem (.ar 1 ((lset x52 (lget (lget p0.f1 (lget x21 x22)) x57) (x54.length : Int)).map eI64)))), (n7, (.mem (.st [(256, (.ar 1 (p0.f0.toList.map eU8))), (1, (.own n16 0 x17.length)), (1, (.own n18 0 x19.length))]))), (n16, (.mem (.ar 1 (x17.map e43)))), (n18, (.mem (.ar 1 (x19.map eI64)))), (n78, (.mem (.ar 1 ((x54 ++ ([(lget (lget p0.f1 (lget x21 x22)) x57)] : List Int)).map eI64)))), (n55, (.mem (.ar 1 (x56.map eI64))))]) ⟨rfl, rfl, rfl, rfl, rfl, rfl, rfl, rfl, rfl, rfl, rfl, trivial⟩ (Sub.cons 1 rfl (Sub.cons 1 rfl (Sub.cons 1 rfl (Sub.cons 1 rfl (Sub.cons 1 rfl (Sub.cons 1 rfl (Sub.cons 1 rfl (Sub.cons 1 rfl (Sub.nil _))))))))) ?_
                        exact ⟨n78, (lset x52 (lget (lget p0.f1 (lget x21 x22)) x57) (x54.length : Int)), (x54 ++ ([(lget (lget p0.f1 (lget x21 x22)) x57)] : List Int)), rfl, rfl, h⟩
                      · have h := (if_neg hc75).symm.trans h
                        refine AW.condF' b71 rfl hc75 ?_
                        refine AW.skip (ρ' := [(1, (.ptr n2 0)), (2, (.ptr n3 0)), (3, (.own n4 0 x52.length)), (5, (.ptr n7 0)), (6, (.own n53 0 x54.length)), (7, (eI64 x22)), (8, (.own n55 0 x56.length)), (10, (eI64 (lget (lget p0.f1 (lget x21 x22)) x57))), (58, (.fz 1 ((lget p0.f1 (lget x21 x22)).map eI64))), (59, (eI64 ((lget p0.f1 (lget x21 x22)).length : Int))), (60, (eI64 x57))]) (H' := [(n2, (.mem (e50 p0))), (n3, (.mem (.st [(256, (.ar 1 ((Vector.replicate 256 (0 : Int)).toList.map eU8))), (1, (.fl (.slice none 0 0))), (1, (.fl (.slice none 0 0)))]))), (n4, (.mem (.ar 1 (x52.map eI64)))), (n7, (.mem (.st [(256, (.ar 1 (p0.f0.toList.map eU8))), (1, (.own n16 0 x17.length)), (1, (.own n18 0 x19.length))]))), (n16, (.mem (.ar 1 (x17.map e43)))), (n18, (.mem (.ar 1 (x19.map eI64)))), (n53, (.mem (.ar 1 (x54.map eI64)))), (n55, (.mem (.ar 1 (x56.map eI64))))]) ⟨rfl, rfl, rfl, rfl, rfl, rfl, rfl, rfl, rfl, rfl, rfl, trivial⟩ (Sub.refl _) ?_
                        exact ⟨n53, x52, x54, rfl, rfl, h⟩
                  · rintro _ _ ⟨n63, x62, x64, rfl, rfl, h⟩
                    rw [dfa_Order_c4.eq_1] at h
                    refine AW.seq_mid (fun ρ H => ∃ (x65 : Int), ρ = [(1, (.ptr n2 0)), (2, (.ptr n3 0)), (3, (.own n4 0 x62.length)), (5, (.ptr n7 0)), (6, (.own n63 0 x64.length)), (7, (eI64 x22)), (8, (.own n55 0 x56.length)), (10, (eI64 x65)), (58, (.fz 1 ((lget p0.f1 (lget x21 x22)).map eI64))), (59, (eI64 ((lget p0.f1 (lget x21 x22)).length : Int))), (60, (eI64 x57))] ∧ H = [(n2, (.mem (e50 p0))), (n3, (.mem (.st [(256, (.ar 1 ((Vector.replicate 256 (0 : Int)).toList.map eU8))), (1, (.fl (.slice none 0 0))), (1, (.fl (.slice none 0 0)))]))), (n4, (.mem (.ar 1 (x62.map eI64)))), (n7, (.mem (.st [(256, (.ar 1 (p0.f0.toList.map eU8))), (1, (.own n16 0 x17.length)), (1, (.own n18 0 x19.length))]))), (n16, (.mem (.ar 1 (x17.map e43)))), (n18, (.mem (.ar 1 (x19.map eI64)))), (n63, (.mem (.ar 1 (x64.map eI64)))), (n55, (.mem (.ar 1 (x56.map eI64))))] ∧ dfa_Order_c3 k rec58 x56 x57 x62 x64 x65 = some r) ?_ ?_
                    · refine AW.seq ?_
                      refine AW.reg ?_
                      refine AO.calm rfl 82 rfl (by decide) (eI64 (lget (lget p0.f1 (lget x21 x22)) x57)) (Calm.move rfl rfl) ?_
                      refine AO.calm rfl 83 rfl (by decide) (eBool (decide ((0 : Int) ≤ (lget (lget p0.f1 (lget x21 x22)) x57)))) (Calm.int rfl rfl rfl rfl) ?_
                      refine AO.nil (ρ' := [(1, (.ptr n2 0)), (2, (.ptr n3 0)), (3, (.own n4 0 x62.length)), (5, (.ptr n7 0)), (6, (.own n63 0 x64.length)), (7, (eI64 x22)), (8, (.own n55 0 x56.length)), (10, (eI64 (lget (lget p0.f1 (lget x21 x22)) x57))), (58, (.fz 1 ((lget p0.f1 (lget x21 x22)).map eI64))), (59, (eI64 ((lget p0.f1 (lget x21 x22)).length : Int))), (60, (eI64 x57)), (83, (eBool (decide ((0 : Int) ≤ (lget (lget p0.f1 (lget x21 x22)) x57)))))]) (H' := [(n2, (.mem (e50 p0))), (n3, (.mem (.st [(256, (.ar 1 ((Vector.replicate 256 (0 : Int)).toList.map eU8))), (1, (.fl (.slice none 0 0))), (1, (.fl (.slice none 0 0)))]))), (n4, (.mem (.ar 1 (x62.map eI64)))), (n7, (.mem (.st [(256, (.ar 1 (p0.f0.toList.map eU8))), (1, (.own n16 0 x17.length)), (1, (.own n18 0 x19.length))]))), (n16, (.mem (.ar 1 (x17.map e43)))), (n18, (.mem (.ar 1 (x19.map eI64)))), (n63, (.mem (.ar 1 (x64.map eI64)))), (n55, (.mem (.ar 1 (x56.map eI64))))]) ⟨rfl, rfl, rfl, rfl, rfl, rfl, rfl, rfl, rfl, rfl, rfl, rfl, trivial⟩ (Sub.refl _) ?_
                      by_cases hc69 : (0 : Int) ≤ (lget (lget p0.f1 (lget x21 x22)) x57)
                      · have h := (if_pos hc69).symm.trans h
                        refine AW.condP ((0 : Int) ≤ (lget (lget p0.f1 (lget x21 x22)) x57)) rfl hc69 ?_
                        refine AW.reg ?_
                        refine AO.calm rfl 84 rfl (by decide) (.own n4 0 x62.length) (Calm.move rfl rfl) ?_
                        refine AO.calm rfl 85 rfl (by decide) (eI64 (lget (lget p0.f1 (lget x21 x22)) x57)) (Calm.move rfl rfl) ?_
                        obtain ⟨hg70, h⟩ := of_guard h
                        refine AO.calm rfl 86 rfl (by decide) (.ptr n4 ((lget (lget p0.f1 (lget x21 x22)) x57).toNat * 1 + 0)) (Calm.idxO 2 rfl rfl rfl rfl hg70 Try.underlying43 sz3) ?_
                        refine AO.calm rfl 87 rfl (by decide) (eI64 (lget x62 (lget (lget p0.f1 (lget x21 x22)) x57))) (Calm.load 2 rfl rfl rfl (At.cast (At.lidx (lget (lget p0.f1 (lget x21 x22)) x57) hg70.1 hg70.2 At.here) (by omega)) ag3 sz3) ?_
                        refine AO.calm rfl 10 rfl (by decide) (eI64 (lget x62 (lget (lget p0.f1 (lget x21 x22)) x57))) (Calm.assign rfl rfl) ?_
                        refine AO.nil (ρ' := [(1, (.ptr n2 0)), (2, (.ptr n3 0)), (3, (.own n4 0 x62.length)), (5, (.ptr n7 0)), (6, (.own n63 0 x64.length)), (7, (eI64 x22)), (8, (.own n55 0 x56.length)), (10, (eI64 (lget x62 (lget (lget p0.f1 (lget x21 x22)) x57)))), (58, (.fz 1 ((lget p0.f1 (lget x21 x22)).map eI64))), (59, (eI64 ((lget p0.f1 (lget x21 x22)).length : Int))), (60, (eI64 x57))]) (H' := [(n2, (.mem (e50 p0))), (n3, (.mem (.st [(256, (.ar 1 ((Vector.replicate 256 (0 : Int)).toList.map eU8))), (1, (.fl (.slice none 0 0))), (1, (.fl (.slice none 0 0)))]))), (n4, (.mem (.ar 1 (x62.map eI64)))), (n7, (.mem (.st [(256, (.ar 1 (p0.f0.toList.map eU8))), (1, (.own n16 0 x17.length)), (1, (.own n18 0 x19.length))]))), (n16, (.mem (.ar 1 (x17.map e43)))), (n18, (.mem (.ar 1 (x19.map eI64)))), (n63, (.mem (.ar 1 (x64.map eI64)))), (n55, (.mem (.ar 1 (x56.map eI64))))]) ⟨rfl, rfl, rfl, rfl, rfl, rfl, rfl, rfl, rfl, rfl, rfl, trivial⟩ (Sub.refl _) ?_
                        exact ⟨(lget x62 (lget (lget p0.f1 (lget x21 x22)) x57)), rfl, rfl, h⟩
                      · have h := (if_neg hc69).symm.trans h
                        refine AW.condN ((0 : Int) ≤ (lget (lget p0.f1 (lget x21 x22)) x57)) rfl hc69 ?_
                        refine AW.skip (ρ' := [(1, (.ptr n2 0)), (2, (.ptr n3 0)), (3, (.own n4 0 x62.length)), (5, (.ptr n7 0)), (6, (.own n63 0 x64.length)), (7, (eI64 x22)), (8, (.own n55 0 x56.length)), (10, (eI64 (lget (lget p0.f1 (lget x21 x22)) x57))), (58, (.fz 1 ((lget p0.f1 (lget x21 x22)).map eI64))), (59, (eI64 ((lget p0.f1 (lget x21 x22)).length : Int))), (60, (eI64 x57))]) (H' := [(n2, (.mem (e50 p0))), (n3, (.mem (.st [(256, (.ar 1 ((Vector.replicate 256 (0 : Int)).toList.map eU8))), (1, (.fl (.slice none 0 0))), (1, (.fl (.slice none 0 0)))]))), (n4, (.mem (.ar 1 (x62.map eI64)))), (n7, (.mem (.st [(256, (.ar 1 (p0.f0.toList.map eU8))), (1, (.own n16 0 x17.length)), (1, (.own n18 0 x19.length))]))), (n16, (.mem (.ar 1 (x17.map e43)))), (n18, (.mem (.ar 1 (x19.map eI64)))), (n63, (.mem (.ar 1 (x64.map eI64)))), (n55, (.mem (.ar 1 (x56.map eI64))))]) ⟨rfl, rfl, rfl, rfl, rfl, rfl, rfl, rfl, rfl, rfl, rfl, trivial⟩ (Sub.refl _) ?_
                        exact ⟨(lget (lget p0.f1 (lget x21 x22)) x57), rfl, rfl, h⟩
                    · rintro _ _ ⟨x65, rfl, rfl, h⟩
                      rw [dfa_Order_c3.eq_1] at h
                      refine AW.reg ?_
                      refine AO.calm rfl 88 rfl (by decide) (.own n55 0 x56.length) (Calm.move rfl rfl) ?_
                      refine AO.calm rfl 89 rfl (by decide) (eI64 x65) (Calm.move rfl rfl) ?_
                      refine AO.lit (Z := (eI64 (0 : Int))) (xs := (([x65] : List Int).map eI64)) (qs := [(0, (eI64 x65))]) rfl 90 rfl (by decide) rfl ⟨rfl, rfl, rfl, trivial⟩ Try.underlying43 sz3 zr3 lay3 rfl (by decide) (litOK (z := 1) [(eI64 x65)] rfl ⟨⟨rfl, rfl⟩, trivial⟩) rfl fun n66 => ?_
                      obtain ⟨hg68, h⟩ := of_guard h
                      refine AO.appendL (l := x56) (m := ([x65] : List Int)) 8 91 rfl (by decide) rfl rfl rfl rfl rfl (Src.ownL (f := eI64) (l := ([x65] : List Int)) 0 rfl) Try.underlying43 Try.underlying43 sz3 by3 zr3 rfl hg68 (by decide) fun n67 => ?_
                      refine AO.calm rfl 8 rfl (by decide) (.own n67 0 (x56 ++ ([x65] : List Int)).length) (Calm.assign rfl rfl) ?_
                      refine AO.nil (ρ' := [(1, (.ptr n2 0)), (2, (.ptr n3 0)), (3, (.own n4 0 x62.length)), (5, (.ptr n7 0)), (6, (.own n63 0 x64.length)), (7, (eI64 x22)), (8, (.own n67 0 (x56 ++ ([x65] : List Int)).length)), (58, (.fz 1 ((lget p0.f1 (lget x21 x22)).map eI64))), (59, (eI64 ((lget p0.f1 (lget x21 x22)).length : Int))), (60, (eI64 x57))]) (H' := [(n2, (.mem (e50 p0))), (n3, (.mem (.st [(256, (.ar 1 ((Vector.replicate 256 (0 : Int)).toList.map eU8))), (1, (.fl (.slice none 0 0))), (1, (.fl (.slice none 0 0)))]))), (n4, (.mem (.ar 1 (x62.map eI64)))), (n7, (.mem (.st [(256, (.ar 1 (p0.f0.toList.map eU8))), (1, (.own n16 0 x17.length)), (1, (.own n18 0 x19.length))]))), (n16, (.mem (.ar 1 (x17.map e43)))), (n18, (.mem (.ar 1 (x19.map eI64)))), (n63, (.mem (.ar 1 (x64.map eI64)))), (n67, (.mem (.ar 1 ((x56 ++ ([x65] : List Int)).map eI64))))]) ⟨rfl, rfl, rfl, rfl, rfl, rfl, rfl, rfl, rfl, rfl, trivial⟩ (Sub.cons 1 rfl (Sub.cons 1 rfl (Sub.cons 1 rfl (Sub.cons 1 rfl (Sub.cons 1 rfl (Sub.cons 1 rfl (Sub.cons 1 rfl (Sub.cons 1 rfl (Sub.nil _))))))))) ?_
                      refine AW.reg ?_
                      refine AO.calm rfl 92 rfl (by decide) (eI64 (w64 (x57 + (1 : Int)))) (Calm.int rfl rfl rfl rfl) ?_
                      refine AO.calm rfl 60 rfl (by decide) (eI64 (w64 (x57 + (1 : Int)))) (Calm.move rfl rfl) ?_
                      refine AO.nil (ρ' := [(1, (.ptr n2 0)), (2, (.ptr n3 0)), (3, (.own n4 0 x62.length)), (5, (.ptr n7 0)), (6, (.own n63 0 x64.length)), (7, (eI64 x22)), (8, (.own n67 0 (x56 ++ ([x65] : List Int)).length)), (58, (.fz 1 ((lget p0.f1 (lget x21 x22)).map eI64))), (59, (eI64 ((lget p0.f1 (lget x21 x22)).length : Int))), (60, (eI64 (w64 (x57 + (1 : Int)))))]) (H' := [(n2, (.mem (e50 p0))), (n3, (.mem (.st [(256, (.ar 1 ((Vector.replicate 256 (0 : Int)).toList.map eU8))), (1, (.fl (.slice none 0 0))), (1, (.fl (.slice none 0 0)))]))), (n4, (.mem (.ar 1 (x62.map eI64)))), (n7, (.mem (.st [(256, (.ar 1 (p0.f0.toList.map eU8))), (1, (.own n16 0 x17.length)), (1, (.own n18 0 x19.length))]))), (n16, (.mem (.ar 1 (x17.map e43)))), (n18, (.mem (.ar 1 (x19.map eI64)))), (n63, (.mem (.ar 1 (x64.map eI64)))), (n67, (.mem (.ar 1 ((x56 ++ ([x65] : List Int)).map eI64))))]) ⟨rfl, rfl, rfl, rfl, rfl, rfl, rfl, rfl, rfl, rfl, trivial⟩ (Sub.refl _) ?_
                      exact ⟨kq59, Nat.lt_succ_self _, n63, n67, x62, x64, (x56 ++ ([x65] : List Int)), (w64 (x57 + (1 : Int))), rfl, rfl, by rw [hrec58]; exact h⟩
                · have h := (if_neg hc60).symm.trans h
                  refine AW.condN (x57 < ((lget p0.f1 (lget x21 x22)).length : Int)) rfl hc60 ?_
                  refine AW.exit (ρ' := [(1, (.ptr n2 0)), (2, (.ptr n3 0)), (3, (.own n4 0 x52.length)), (5, (.ptr n7 0)), (6, (.own n53 0 x54.length)), (7, (eI64 x22)), (8, (.own n55 0 x56.length))]) (H' := [(n2, (.mem (e50 p0))), (n3, (.mem (.st [(256, (.ar 1 ((Vector.replicate 256 (0 : Int)).toList.map eU8))), (1, (.fl (.slice none 0 0))), (1, (.fl (.slice none 0 0)))]))), (n4, (.mem (.ar 1 (x52.map eI64)))), (n7, (.mem (.st [(256, (.ar 1 (p0.f0.toList.map eU8))), (1, (.own n16 0 x17.length)), (1, (.own n18 0 x19.length))]))), (n16, (.mem (.ar 1 (x17.map e43)))), (n18, (.mem (.ar 1 (x19.map eI64)))), (n53, (.mem (.ar 1 (x54.map eI64)))), (n55, (.mem (.ar 1 (x56.map eI64))))]) ⟨rfl, rfl, rfl, rfl, rfl, rfl, rfl, trivial⟩ (Sub.refl _) ?_
                  exact ⟨n53, n55, x52, x54, x56, rfl, rfl, h⟩
              · rintro _ _ ⟨n38, n40, x37, x39, x41, rfl, rfl, h⟩
                rw [dfa_Order_c2.eq_1] at h
                refine AW.seq ?_
                refine AW.reg ?_
                refine AO.calm rfl 93 rfl (by decide) (.ptr n7 256) (Calm.fldPtr rfl rfl Try.underlying50 rfl sz48 _ rfl) ?_
                refine AO.calm rfl 94 rfl (by decide) (.own n16 0 x17.length) (Calm.load 3 rfl rfl rfl (At.cast (At.fldS (At.fld0 At.here)) rfl) ag48 sz48) ?_
                refine AO.calm rfl 95 rfl (by decide) (.own n40 0 x41.length) (Calm.move rfl rfl) ?_
                refine AO.freezeS 7 [(8, (.fz 1 (x41.map eI64))), (95, (.fz 1 (x41.map eI64)))] rfl ⟨fz_all rfl, fz_all rfl, trivial⟩ ?_
                refine AO.lit (Z := (.fl (.slice none 0 0))) (xs := (([x41] : List (List Int)).map e43)) (qs := [(0, (.fz 1 (x41.map eI64)))]) rfl 96 rfl (by decide) rfl ⟨rfl, rfl, rfl, trivial⟩ Try.underlying48 sz43 zr43 lay43 rfl (by decide) (litOK (z := 1) [(.fz 1 (x41.map eI64))] rfl ⟨⟨rfl, rfl⟩, trivial⟩) rfl fun n42 => ?_
                obtain ⟨hg44, h⟩ := of_guard h
                refine AO.appendL (l := x17) (m := ([x41] : List (List Int))) 5 97 rfl (by decide) rfl rfl rfl rfl rfl (Src.ownL (f := e43) (l := ([x41] : List (List Int))) 0 rfl) Try.underlying48 Try.underlying48 sz43 by43 zr43 rfl hg44 (by decide) fun n43 => ?_
                refine AO.calm rfl 98 rfl (by decide) (.ptr n7 256) (Calm.fldPtr rfl rfl Try.underlying50 rfl sz48 _ rfl) ?_
                refine AO.store (X' := (.st [(256, (.ar 1 (p0.f0.toList.map eU8))), (1, (.own n43 0 (x17 ++ ([x41] : List (List Int))).length)), (1, (.own n18 0 x19.length))])) 4 rfl rfl rfl rfl rfl rfl (Put.cast (Put.fldS (Put.fld0 Put.here)) rfl) rfl rfl sz48 rfl ?_
                refine AO.nil (ρ' := [(1, (.ptr n2 0)), (2, (.ptr n3 0)), (3, (.own n4 0 x37.length)), (5, (.ptr n7 0)), (6, (.own n38 0 x39.length)), (7, (eI64 x22))]) (H' := [(n2, (.mem (e50 p0))), (n3, (.mem (.st [(256, (.ar 1 ((Vector.replicate 256 (0 : Int)).toList.map eU8))), (1, (.fl (.slice none 0 0))), (1, (.fl (.slice none 0 0)))]))), (n4, (.mem (.ar 1 (x37.map eI64)))), (n7, (.mem (.st [(256, (.ar 1 (p0.f0.toList.map eU8))), (1, (.own n43 0 (x17 ++ ([x41] : List (List Int))).length)), (1, (.own n18 0 x19.length))]))), (n43, (.mem (.ar 1 ((x17 ++ ([x41] : List (List Int))).map e43)))), (n18, (.mem (.ar 1 (x19.map eI64)))), (n38, (.mem (.ar 1 (x39.map eI64))))]) ⟨rfl, rfl, rfl, rfl, rfl, rfl, trivial⟩ (Sub.cons 1 rfl (Sub.cons 1 rfl (Sub.cons 1 rfl (Sub.cons 1 rfl (Sub.cons 1 rfl (Sub.cons 1 rfl (Sub.cons 1 rfl (Sub.nil _)))))))) ?_
                obtain ⟨hg45, h⟩ := of_guard h
                obtain ⟨hg46, h⟩ := of_guard h
                obtain ⟨hg49, h⟩ := of_guard h
                refine AW.regEff (by rfl) (by decide +kernel) (fun (σ : Nat → Nat) => ([(.ptr n7 257), (.own n18 0 x19.length), (.ptr n2 257), (.fz 1 (p0.f2.map eI64)), (.own n38 0 x39.length), (eI64 x22), (.ptr n38 (x22.toNat * 1 + 0)), (eI64 (lget x39 x22)), (.rp (eI64 (lget p0.f2 (lget x39 x22)))), (eI64 (lget p0.f2 (lget x39 x22))), (.fz 1 (([(lget p0.f2 (lget x39 x22))] : List Int).map eI64)), (.own (σ 11) 0 (x19 ++ ([(lget p0.f2 (lget x39 x22))] : List Int)).length), (.ptr n7 257), (.fl undef)] : List AV)) (fun (L : Nat → Bool) (σ : Nat → Nat) => ((n2, (.mem (e50 p0))) :: (n3, (.mem (.st [(256, (.ar 1 ((Vector.replicate 256 (0 : Int)).toList.map eU8))), (1, (.fl (.slice none 0 0))), (1, (.fl (.slice none 0 0)))]))) :: (n4, (.mem (.ar 1 (x37.map eI64)))) :: (n43, (.mem (.ar 1 ((x17 ++ ([x41] : List (List Int))).map e43)))) :: (n38, (.mem (.ar 1 (x39.map eI64)))) :: (bif L 11 then (bif L 13 then ((n7, (.mem (.st [(256, (.ar 1 (p0.f0.toList.map eU8))), (1, (.own n43 0 (x17 ++ ([x41] : List (List Int))).length)), (1, (.own (σ 11) 0 (x19 ++ ([(lget p0.f2 (lget x39 x22))] : List Int)).length))]))) :: ((σ 11), (.mem (.ar 1 ((x19 ++ ([(lget p0.f2 (lget x39 x22))] : List Int)).map eI64)))) :: []) else ((n7, (.mem (.st [(256, (.ar 1 (p0.f0.toList.map eU8))), (1, (.own n43 0 (x17 ++ ([x41] : List (List Int))).length)), (1, (.own n18 0 x19.length))]))) :: ((σ 11), (.mem (.ar 1 ((x19 ++ ([(lget p0.f2 (lget x39 x22))] : List Int)).map eI64)))) :: [])) else ((n7, (.mem (.st [(256, (.ar 1 (p0.f0.toList.map eU8))), (1, (.own n43 0 (x17 ++ ([x41] : List (List Int))).length)), (1, (.own n18 0 x19.length))]))) :: (n18, (.mem (.ar 1 (x19.map eI64)))) :: [])) : Heap)) [(1, (.ptr n2 0)), (2, (.ptr n3 0)), (3, (.own n4 0 x37.length)), (5, (.ptr n7 0)), (6, (.own n38 0 x39.length)), (7, (eI64 x22))] ⟨rfl, rfl, rfl, rfl, rfl, rfl, trivial⟩ (fun _ => rfl) (fun σ => (Sub.cons 0 rfl (Sub.cons 0 rfl (Sub.cons 0 rfl (Sub.cons 1 rfl (Sub.cons 2 rfl (Sub.cons 0 rfl (Sub.cons 0 rfl (Sub.refl _))))))))) ⟨?_, ?_, ?_, ?_, ?_, ?_, ?_, ?_, ?_, ?_, ?_, ?_, ?_, ?_, trivial⟩ (fun σ => [(1, (.ptr n2 0)), (2, (.ptr n3 0)), (3, (.own n4 0 x37.length)), (5, (.ptr n7 0)), (6, (.own n38 0 x39.length)), (7, (eI64 x22))]) (fun σ => ((n2, (.mem (e50 p0))) :: (n3, (.mem (.st [(256, (.ar 1 ((Vector.replicate 256 (0 : Int)).toList.map eU8))), (1, (.fl (.slice none 0 0))), (1, (.fl (.slice none 0 0)))]))) :: (n4, (.mem (.ar 1 (x37.map eI64)))) :: (n43, (.mem (.ar 1 ((x17 ++ ([x41] : List (List Int))).map e43)))) :: (n38, (.mem (.ar 1 (x39.map eI64)))) :: (n7, (.mem (.st [(256, (.ar 1 (p0.f0.toList.map eU8))), (1, (.own n43 0 (x17 ++ ([x41] : List (List Int))).length)), (1, (.own (σ 11) 0 (x19 ++ ([(lget p0.f2 (lget x39 x22))] : List Int)).length))]))) :: ((σ 11), (.mem (.ar 1 ((x19 ++ ([(lget p0.f2 (lget x39 x22))] : List Int)).map eI64)))) :: [])) (fun σ => ⟨rfl, rfl, rfl, rfl, rfl, rfl, trivial⟩) (fun σ => Sub.refl _) (fun σ => ?_)
                · refine StepE.calm (fun _ _ => rfl) fun L σ hc hi hd => ?_
                  have m1 : L 1 = false := hc.neg (i := 0) (j := 1) rfl (by rfl) hi
                  have m11 : L 11 = false := hc.neg (i := 1) (j := 11) rfl (by rfl) m1
                  have m13 : L 13 = false := hc.neg (i := 0) (j := 13) rfl (by rfl) hi
                  refine AO.heq (H' := ((n2, (.mem (e50 p0))) :: (n3, (.mem (.st [(256, (.ar 1 ((Vector.replicate 256 (0 : Int)).toList.map eU8))), (1, (.fl (.slice none 0 0))), (1, (.fl (.slice none 0 0)))]))) :: (n4, (.mem (.ar 1 (x37.map eI64)))) :: (n43, (.mem (.ar 1 ((x17 ++ ([x41] : List (List Int))).map e43)))) :: (n38, (.mem (.ar 1 (x39.map eI64)))) :: (n7, (.mem (.st [(256, (.ar 1 (p0.f0.toList.map eU8))), (1, (.own n43 0 (x17 ++ ([x41] : List (List Int))).length)), (1, (.own n18 0 x19.length))]))) :: (n18, (.mem (.ar 1 (x19.map eI64)))) :: [])) (by first | rfl | simp only [m11, m13, cond_true, cond_false]) ?_
                  refine AO.weak (ρ' := [(5, (.ptr n7 0))]) (H' := ((n2, (.mem (e50 p0))) :: (n3, (.mem (.st [(256, (.ar 1 ((Vector.replicate 256 (0 : Int)).toList.map eU8))), (1, (.fl (.slice none 0 0))), (1, (.fl (.slice none 0 0)))]))) :: (n4, (.mem (.ar 1 (x37.map eI64)))) :: (n43, (.mem (.ar 1 ((x17 ++ ([x41] : List (List Int))).map e43)))) :: (n38, (.mem (.ar 1 (x39.map eI64)))) :: (n7, (.mem (.st [(256, (.ar 1 (p0.f0.toList.map eU8))), (1, (.own n43 0 (x17 ++ ([x41] : List (List Int))).length)), (1, (.own n18 0 x19.length))]))) :: (n18, (.mem (.ar 1 (x19.map eI64)))) :: [])) ⟨rfl, trivial⟩ (Sub.refl _) ?_
                  refine AO.calm rfl 99 rfl (by decide) (.ptr n7 257) (Calm.fldPtr rfl rfl Try.underlying50 rfl sz43 _ rfl) ?_
                  exact AO.nilE (ρ' := [(99, (.ptr n7 257))]) ⟨⟨99, _, rfl, rfl, rfl⟩, Sub.of_eq (by first | rfl | simp only [m11, m13, cond_true, cond_false]) (Sub.refl _)⟩ ⟨rfl, trivial⟩ (Sub.refl _)
                · refine StepE.calm (fun _ _ => rfl) fun L σ hc hi hd => ?_
                  have m11 : L 11 = false := hc.neg (i := 1) (j := 11) rfl (by rfl) hi
                  have m13 : L 13 = false := hc.neg (i := 1) (j := 13) rfl (by rfl) hi
                  refine AO.heq (H' := ((n2, (.mem (e50 p0))) :: (n3, (.mem (.st [(256, (.ar 1 ((Vector.replicate 256 (0 : Int)).toList.map eU8))), (1, (.fl (.slice none 0 0))), (1, (.fl (.slice none 0 0)))]))) :: (n4, (.mem (.ar 1 (x37.map eI64)))) :: (n43, (.mem (.ar 1 ((x17 ++ ([x41] : List (List Int))).map e43)))) :: (n38, (.mem (.ar 1 (x39.map eI64)))) :: (n7, (.mem (.st [(256, (.ar 1 (p0.f0.toList.map eU8))), (1, (.own n43 0 (x17 ++ ([x41] : List (List Int))).length)), (1, (.own n18 0 x19.length))]))) :: (n18, (.mem (.ar 1 (x19.map eI64)))) :: [])) (by first | rfl | simp only [m11, m13, cond_true, cond_false]) ?_
                  refine AO.weak (ρ' := [(99, (.ptr n7 257))]) (H' := ((n2, (.mem (e50 p0))) :: (n3, (.mem (.st [(256, (.ar 1 ((Vector.replicate 256 (0 : Int)).toList.map eU8))), (1, (.fl (.slice none 0 0))), (1, (.fl (.slice none 0 0)))]))) :: (n4, (.mem (.ar 1 (x37.map eI64)))) :: (n43, (.mem (.ar 1 ((x17 ++ ([x41] : List (List Int))).map e43)))) :: (n38, (.mem (.ar 1 (x39.map eI64)))) :: (n7, (.mem (.st [(256, (.ar 1 (p0.f0.toList.map eU8))), (1, (.own n43 0 (x17 ++ ([x41] : List (List Int))).length)), (1, (.own n18 0 x19.length))]))) :: (n18, (.mem (.ar 1 (x19.map eI64)))) :: [])) ⟨rfl, trivial⟩ (Sub.refl _) ?_
                  refine AO.calm rfl 100 rfl (by decide) (.own n18 0 x19.length) (Calm.load 5 rfl rfl rfl (At.cast (At.fldS (At.fldS (At.fld0 At.here))) rfl) ag43 sz43) ?_
                  exact AO.nilE (ρ' := [(100, (.own n18 0 x19.length))]) ⟨⟨100, _, rfl, rfl, rfl⟩, Sub.of_eq (by first | rfl | simp only [m11, m13, cond_true, cond_false]) (Sub.refl _)⟩ ⟨rfl, trivial⟩ (Sub.refl _)
                · refine StepE.calm (fun _ _ => rfl) fun L σ hc hi hd => ?_
                  refine AO.weak (ρ' := [(1, (.ptr n2 0))]) ⟨rfl, trivial⟩ (Sub.refl _) ?_
                  refine AO.calm rfl 101 rfl (by decide) (.ptr n2 257) (Calm.fldPtr rfl rfl Try.underlying50 rfl sz43 _ rfl) ?_
                  exact AO.nilE (ρ' := [(101, (.ptr n2 257))]) ⟨⟨101, _, rfl, rfl, rfl⟩, Sub.refl _⟩ ⟨rfl, trivial⟩ (Sub.refl _)
                · refine StepE.calm (fun _ _ => rfl) fun L σ hc hi hd => ?_
                  refine AO.weak (ρ' := [(101, (.ptr n2 257))]) ⟨rfl, trivial⟩ (Sub.refl _) ?_
                  refine AO.calm rfl 102 rfl (by decide) (.fz 1 (p0.f2.map eI64)) (Calm.load 0 rfl rfl rfl (At.cast (At.fldS (At.fldS (At.fld0 At.here))) rfl) ag43 sz43) ?_
                  exact AO.nilE (ρ' := [(102, (.fz 1 (p0.f2.map eI64)))]) ⟨⟨102, _, rfl, rfl, rfl⟩, Sub.refl _⟩ ⟨rfl, trivial⟩ (Sub.refl _)
                · refine StepE.calm (fun _ _ => rfl) fun L σ hc hi hd => ?_
                  refine AO.weak (ρ' := [(6, (.own n38 0 x39.length))]) ⟨rfl, trivial⟩ (Sub.refl _) ?_
                  refine AO.calm rfl 103 rfl (by decide) (.own n38 0 x39.length) (Calm.move rfl rfl) ?_
                  exact AO.nilE (ρ' := [(103, (.own n38 0 x39.length))]) ⟨⟨103, _, rfl, rfl, rfl⟩, Sub.refl _⟩ ⟨rfl, trivial⟩ (Sub.refl _)
                · refine StepE.calm (fun _ _ => rfl) fun L σ hc hi hd => ?_
                  refine AO.weak (ρ' := [(7, (eI64 x22))]) ⟨rfl, trivial⟩ (Sub.refl _) ?_
                  refine AO.calm rfl 104 rfl (by decide) (eI64 x22) (Calm.move rfl rfl) ?_
                  exact AO.nilE (ρ' := [(104, (eI64 x22))]) ⟨⟨104, _, rfl, rfl, rfl⟩, Sub.refl _⟩ ⟨rfl, trivial⟩ (Sub.refl _)
                · refine StepE.calm (fun _ _ => rfl) fun L σ hc hi hd => ?_
                  refine AO.weak (ρ' := [(103, (.own n38 0 x39.length)), (104, (eI64 x22))]) ⟨rfl, rfl, trivial⟩ (Sub.refl _) ?_
                  refine AO.calm rfl 105 rfl (by decide) (.ptr n38 (x22.toNat * 1 + 0)) (Calm.idxO 4 rfl rfl rfl rfl hg45 Try.underlying43 sz3) ?_
                  exact AO.nilE (ρ' := [(105, (.ptr n38 (x22.toNat * 1 + 0)))]) ⟨⟨105, _, rfl, rfl, rfl⟩, Sub.refl _⟩ ⟨rfl, trivial⟩ (Sub.refl _)
                · refine StepE.calm (fun _ _ => rfl) fun L σ hc hi hd => ?_
                  refine AO.weak (ρ' := [(105, (.ptr n38 (x22.toNat * 1 + 0)))]) ⟨rfl, trivial⟩ (Sub.refl _) ?_
                  refine AO.calm rfl 106 rfl (by decide) (eI64 (lget x39 x22)) (Calm.load 4 rfl rfl rfl (At.cast (At.lidx x22 hg45.1 hg45.2 At.here) (by omega)) ag3 sz3) ?_
                  exact AO.nilE (ρ' := [(106, (eI64 (lget x39 x22)))]) ⟨⟨106, _, rfl, rfl, rfl⟩, Sub.refl _⟩ ⟨rfl, trivial⟩ (Sub.refl _)
                · refine StepE.calm (fun _ _ => rfl) fun L σ hc hi hd => ?_
                  refine AO.weak (ρ' := [(102, (.fz 1 (p0.f2.map eI64))), (106, (eI64 (lget x39 x22)))]) ⟨rfl, rfl, trivial⟩ (Sub.refl _) ?_
                  refine AO.calm rfl 107 rfl (by decide) (.rp (eI64 (lget p0.f2 (lget x39 x22)))) (Calm.idxL (f := eI64) rfl rfl rfl hg46 Try.underlying43 sz3) ?_
                  exact AO.nilE (ρ' := [(107, (.rp (eI64 (lget p0.f2 (lget x39 x22)))))]) ⟨⟨107, _, rfl, rfl, rfl⟩, Sub.refl _⟩ ⟨rfl, trivial⟩ (Sub.refl _)
                · refine StepE.calm (fun _ _ => rfl) fun L σ hc hi hd => ?_
                  refine AO.weak (ρ' := [(107, (.rp (eI64 (lget p0.f2 (lget x39 x22)))))]) ⟨rfl, trivial⟩ (Sub.refl _) ?_
                  refine AO.calm rfl 108 rfl (by decide) (eI64 (lget p0.f2 (lget x39 x22))) (Calm.loadRp rfl rfl ag3 sz3) ?_
                  exact AO.nilE (ρ' := [(108, (eI64 (lget p0.f2 (lget x39 x22))))]) ⟨⟨108, _, rfl, rfl, rfl⟩, Sub.refl _⟩ ⟨rfl, trivial⟩ (Sub.refl _)
                · refine StepE.calm (fun _ _ => rfl) fun L σ hc hi hd => ?_
                  refine AO.weak (ρ' := [(108, (eI64 (lget p0.f2 (lget x39 x22))))]) ⟨rfl, trivial⟩ (Sub.refl _) ?_
                  refine AO.lit (Z := (eI64 (0 : Int))) (xs := (([(lget p0.f2 (lget x39 x22))] : List Int).map eI64)) (qs := [(0, (eI64 (lget p0.f2 (lget x39 x22))))]) rfl 109 rfl (by decide) rfl ⟨rfl, rfl, rfl, trivial⟩ Try.underlying43 sz3 zr3 lay3 rfl (by decide) (litOK (z := 1) [(eI64 (lget p0.f2 (lget x39 x22)))] rfl ⟨⟨rfl, rfl⟩, trivial⟩) rfl fun n47 => ?_
                  refine AO.freezeS 0 [(109, (.fz 1 (([(lget p0.f2 (lget x39 x22))] : List Int).map eI64)))] rfl ⟨fz_all rfl, trivial⟩ ?_
                  exact AO.nilE (ρ' := [(109, (.fz 1 (([(lget p0.f2 (lget x39 x22))] : List Int).map eI64)))]) ⟨⟨109, _, rfl, rfl, rfl⟩, Sub.refl _⟩ ⟨rfl, trivial⟩ (Sub.refl _)
                · intro L σ hc hi hd
                  have m13 : L 13 = false := hc.neg (i := 11) (j := 13) rfl (by rfl) hi
                  refine AO.heq (H' := ((n2, (.mem (e50 p0))) :: (n3, (.mem (.st [(256, (.ar 1 ((Vector.replicate 256 (0 : Int)).toList.map eU8))), (1, (.fl (.slice none 0 0))), (1, (.fl (.slice none 0 0)))]))) :: (n4, (.mem (.ar 1 (x37.map eI64)))) :: (n43, (.mem (.ar 1 ((x17 ++ ([x41] : List (List Int))).map e43)))) :: (n38, (.mem (.ar 1 (x39.map eI64)))) :: (n7, (.mem (.st [(256, (.ar 1 (p0.f0.toList.map eU8))), (1, (.own n43 0 (x17 ++ ([x41] : List (List Int))).length)), (1, (.own n18 0 x19.length))]))) :: (n18, (.mem (.ar 1 (x19.map eI64)))) :: [])) (by first | rfl | simp only [hi, m13, cond_true, cond_false]) ?_
                  refine AO.weak (ρ' := [(100, (.own n18 0 x19.length)), (109, (.fz 1 (([(lget p0.f2 (lget x39 x22))] : List Int).map eI64)))]) (H' := ((n2, (.mem (e50 p0))) :: (n3, (.mem (.st [(256, (.ar 1 ((Vector.replicate 256 (0 : Int)).toList.map eU8))), (1, (.fl (.slice none 0 0))), (1, (.fl (.slice none 0 0)))]))) :: (n4, (.mem (.ar 1 (x37.map eI64)))) :: (n43, (.mem (.ar 1 ((x17 ++ ([x41] : List (List Int))).map e43)))) :: (n38, (.mem (.ar 1 (x39.map eI64)))) :: (n7, (.mem (.st [(256, (.ar 1 (p0.f0.toList.map eU8))), (1, (.own n43 0 (x17 ++ ([x41] : List (List Int))).length)), (1, (.own n18 0 x19.length))]))) :: (n18, (.mem (.ar 1 (x19.map eI64)))) :: [])) ⟨rfl, rfl, trivial⟩ (Sub.refl _) ?_
                  refine AO.appendL (l := x19) (m := ([(lget p0.f2 (lget x39 x22))] : List Int)) 6 110 rfl (by decide) rfl rfl rfl rfl rfl Src.fz Try.underlying43 Try.underlying43 sz3 by3 zr3 rfl hg49 (by decide) fun n48 => ?_
                  have a11 : addL L 11 11 = true := rfl
                  have a13 : addL L 11 13 = false := m13
                  have u11 : upd σ 11 n48 11 = n48 := rfl
                  exact AO.nilE (ρ' := [(110, (.own n48 0 (x19 ++ ([(lget p0.f2 (lget x39 x22))] : List Int)).length))]) (H' := ((n2, (.mem (e50 p0))) :: (n3, (.mem (.st [(256, (.ar 1 ((Vector.replicate 256 (0 : Int)).toList.map eU8))), (1, (.fl (.slice none 0 0))), (1, (.fl (.slice none 0 0)))]))) :: (n4, (.mem (.ar 1 (x37.map eI64)))) :: (n43, (.mem (.ar 1 ((x17 ++ ([x41] : List (List Int))).map e43)))) :: (n38, (.mem (.ar 1 (x39.map eI64)))) :: (n7, (.mem (.st [(256, (.ar 1 (p0.f0.toList.map eU8))), (1, (.own n43 0 (x17 ++ ([x41] : List (List Int))).length)), (1, (.own n18 0 x19.length))]))) :: (n48, (.mem (.ar 1 ((x19 ++ ([(lget p0.f2 (lget x39 x22))] : List Int)).map eI64)))) :: [])) ⟨(upd σ 11 n48), (fun j hj => match j, hj with | 0, _ => rfl | 1, _ => rfl | 2, _ => rfl | 3, _ => rfl | 4, _ => rfl | 5, _ => rfl | 6, _ => rfl | 7, _ => rfl | 8, _ => rfl | 9, _ => rfl | 10, _ => rfl | 11, hj => Bool.noConfusion (hj.symm.trans hi) | 12, _ => rfl | 13, _ => rfl | _ + 14, _ => rfl), (fun d' hd' => ⟨_, rfl, by cases hd'; rfl⟩), Sub.of_eq (B := ((n2, (.mem (e50 p0))) :: (n3, (.mem (.st [(256, (.ar 1 ((Vector.replicate 256 (0 : Int)).toList.map eU8))), (1, (.fl (.slice none 0 0))), (1, (.fl (.slice none 0 0)))]))) :: (n4, (.mem (.ar 1 (x37.map eI64)))) :: (n43, (.mem (.ar 1 ((x17 ++ ([x41] : List (List Int))).map e43)))) :: (n38, (.mem (.ar 1 (x39.map eI64)))) :: (n7, (.mem (.st [(256, (.ar 1 (p0.f0.toList.map eU8))), (1, (.own n43 0 (x17 ++ ([x41] : List (List Int))).length)), (1, (.own n18 0 x19.length))]))) :: (n48, (.mem (.ar 1 ((x19 ++ ([(lget p0.f2 (lget x39 x22))] : List Int)).map eI64)))) :: [])) (by simp only [a11, a13, u11, cond_true, cond_false]) (Sub.refl _)⟩ ⟨rfl, trivial⟩ (Sub.refl _)
                · refine StepE.calm (fun _ _ => rfl) fun L σ hc hi hd => ?_
                  have y11 : L 11 = true := on_get hd (i := 11) (by rfl)
                  have m13 : L 13 = false := hc.neg (i := 12) (j := 13) rfl (by rfl) hi
                  refine AO.heq (H' := ((n2, (.mem (e50 p0))) :: (n3, (.mem (.st [(256, (.ar 1 ((Vector.replicate 256 (0 : Int)).toList.map eU8))), (1, (.fl (.slice none 0 0))), (1, (.fl (.slice none 0 0)))]))) :: (n4, (.mem (.ar 1 (x37.map eI64)))) :: (n43, (.mem (.ar 1 ((x17 ++ ([x41] : List (List Int))).map e43)))) :: (n38, (.mem (.ar 1 (x39.map eI64)))) :: (n7, (.mem (.st [(256, (.ar 1 (p0.f0.toList.map eU8))), (1, (.own n43 0 (x17 ++ ([x41] : List (List Int))).length)), (1, (.own n18 0 x19.length))]))) :: ((σ 11), (.mem (.ar 1 ((x19 ++ ([(lget p0.f2 (lget x39 x22))] : List Int)).map eI64)))) :: [])) (by first | rfl | simp only [y11, m13, cond_true, cond_false]) ?_
                  refine AO.weak (ρ' := [(5, (.ptr n7 0))]) (H' := ((n2, (.mem (e50 p0))) :: (n3, (.mem (.st [(256, (.ar 1 ((Vector.replicate 256 (0 : Int)).toList.map eU8))), (1, (.fl (.slice none 0 0))), (1, (.fl (.slice none 0 0)))]))) :: (n4, (.mem (.ar 1 (x37.map eI64)))) :: (n43, (.mem (.ar 1 ((x17 ++ ([x41] : List (List Int))).map e43)))) :: (n38, (.mem (.ar 1 (x39.map eI64)))) :: (n7, (.mem (.st [(256, (.ar 1 (p0.f0.toList.map eU8))), (1, (.own n43 0 (x17 ++ ([x41] : List (List Int))).length)), (1, (.own n18 0 x19.length))]))) :: ((σ 11), (.mem (.ar 1 ((x19 ++ ([(lget p0.f2 (lget x39 x22))] : List Int)).map eI64)))) :: [])) ⟨rfl, trivial⟩ (Sub.refl _) ?_
                  refine AO.calm rfl 111 rfl (by decide) (.ptr n7 257) (Calm.fldPtr rfl rfl Try.underlying50 rfl sz43 _ rfl) ?_
                  exact AO.nilE (ρ' := [(111, (.ptr n7 257))]) ⟨⟨111, _, rfl, rfl, rfl⟩, Sub.of_eq (by first | rfl | simp only [y11, m13, cond_true, cond_false]) (Sub.refl _)⟩ ⟨rfl, trivial⟩ (Sub.refl _)
                · intro L σ hc hi hd
                  have y11 : L 11 = true := on_get hd (i := 11) (by rfl)
                  refine AO.heq (H' := ((n2, (.mem (e50 p0))) :: (n3, (.mem (.st [(256, (.ar 1 ((Vector.replicate 256 (0 : Int)).toList.map eU8))), (1, (.fl (.slice none 0 0))), (1, (.fl (.slice none 0 0)))]))) :: (n4, (.mem (.ar 1 (x37.map eI64)))) :: (n43, (.mem (.ar 1 ((x17 ++ ([x41] : List (List Int))).map e43)))) :: (n38, (.mem (.ar 1 (x39.map eI64)))) :: (n7, (.mem (.st [(256, (.ar 1 (p0.f0.toList.map eU8))), (1, (.own n43 0 (x17 ++ ([x41] : List (List Int))).length)), (1, (.own n18 0 x19.length))]))) :: ((σ 11), (.mem (.ar 1 ((x19 ++ ([(lget p0.f2 (lget x39 x22))] : List Int)).map eI64)))) :: [])) (by first | rfl | simp only [hi, y11, cond_true, cond_false]) ?_
                  refine AO.weak (ρ' := [(110, (.own (σ 11) 0 (x19 ++ ([(lget p0.f2 (lget x39 x22))] : List Int)).length)), (111, (.ptr n7 257))]) (H' := ((n2, (.mem (e50 p0))) :: (n3, (.mem (.st [(256, (.ar 1 ((Vector.replicate 256 (0 : Int)).toList.map eU8))), (1, (.fl (.slice none 0 0))), (1, (.fl (.slice none 0 0)))]))) :: (n4, (.mem (.ar 1 (x37.map eI64)))) :: (n43, (.mem (.ar 1 ((x17 ++ ([x41] : List (List Int))).map e43)))) :: (n38, (.mem (.ar 1 (x39.map eI64)))) :: (n7, (.mem (.st [(256, (.ar 1 (p0.f0.toList.map eU8))), (1, (.own n43 0 (x17 ++ ([x41] : List (List Int))).length)), (1, (.own n18 0 x19.length))]))) :: ((σ 11), (.mem (.ar 1 ((x19 ++ ([(lget p0.f2 (lget x39 x22))] : List Int)).map eI64)))) :: [])) ⟨rfl, rfl, trivial⟩ (Sub.refl _) ?_
                  refine AO.store (X' := (.st [(256, (.ar 1 (p0.f0.toList.map eU8))), (1, (.own n43 0 (x17 ++ ([x41] : List (List Int))).length)), (1, (.own (σ 11) 0 (x19 ++ ([(lget p0.f2 (lget x39 x22))] : List Int)).length))])) 5 rfl rfl rfl rfl rfl rfl (Put.cast (Put.fldS (Put.fldS (Put.fld0 Put.here))) rfl) rfl rfl sz43 rfl ?_
                  have a11 : addL L 13 11 = true := y11
                  have a13 : addL L 13 13 = true := rfl
                  exact AO.nilE (ρ' := []) (H' := ((n2, (.mem (e50 p0))) :: (n3, (.mem (.st [(256, (.ar 1 ((Vector.replicate 256 (0 : Int)).toList.map eU8))), (1, (.fl (.slice none 0 0))), (1, (.fl (.slice none 0 0)))]))) :: (n4, (.mem (.ar 1 (x37.map eI64)))) :: (n43, (.mem (.ar 1 ((x17 ++ ([x41] : List (List Int))).map e43)))) :: (n38, (.mem (.ar 1 (x39.map eI64)))) :: (n7, (.mem (.st [(256, (.ar 1 (p0.f0.toList.map eU8))), (1, (.own n43 0 (x17 ++ ([x41] : List (List Int))).length)), (1, (.own (σ 11) 0 (x19 ++ ([(lget p0.f2 (lget x39 x22))] : List Int)).length))]))) :: ((σ 11), (.mem (.ar 1 ((x19 ++ ([(lget p0.f2 (lget x39 x22))] : List Int)).map eI64)))) :: [])) ⟨σ, (fun _ _ => rfl), (fun d' hd' => by cases hd'), Sub.of_eq (B := ((n2, (.mem (e50 p0))) :: (n3, (.mem (.st [(256, (.ar 1 ((Vector.replicate 256 (0 : Int)).toList.map eU8))), (1, (.fl (.slice none 0 0))), (1, (.fl (.slice none 0 0)))]))) :: (n4, (.mem (.ar 1 (x37.map eI64)))) :: (n43, (.mem (.ar 1 ((x17 ++ ([x41] : List (List Int))).map e43)))) :: (n38, (.mem (.ar 1 (x39.map eI64)))) :: (n7, (.mem (.st [(256, (.ar 1 (p0.f0.toList.map eU8))), (1, (.own n43 0 (x17 ++ ([x41] : List (List Int))).length)), (1, (.own (σ 11) 0 (x19 ++ ([(lget p0.f2 (lget x39 x22))] : List Int)).length))]))) :: ((σ 11), (.mem (.ar 1 ((x19 ++ ([(lget p0.f2 (lget x39 x22))] : List Int)).map eI64)))) :: [])) (by simp only [a11, a13, cond_true, cond_false]) (Sub.refl _)⟩ trivial (Sub.refl _)
                · generalize σ 11 = n48
                  refine AO.nil (ρ' := [(1, (.ptr n2 0)), (2, (.ptr n3 0)), (3, (.own n4 0 x37.length)), (5, (.ptr n7 0)), (6, (.own n38 0 x39.length)), (7, (eI64 x22))]) (H' := [(n2, (.mem (e50 p0))), (n3, (.mem (.st [(256, (.ar 1 ((Vector.replicate 256 (0 : Int)).toList.map eU8))), (1, (.fl (.slice none 0 0))), (1, (.fl (.slice none 0 0)))]))), (n4, (.mem (.ar 1 (x37.map eI64)))), (n7, (.mem (.st [(256, (.ar 1 (p0.f0.toList.map eU8))), (1, (.own n43 0 (x17 ++ ([x41] : List (List Int))).length)), (1, (.own n48 0 (x19 ++ ([(lget p0.f2 (lget x39 x22))] : List Int)).length))]))), (n43, (.mem (.ar 1 ((x17 ++ ([x41] : List (List Int))).map e43)))), (n48, (.mem (.ar 1 ((x19 ++ ([(lget p0.f2 (lget x39 x22))] : List Int)).map eI64)))), (n38, (.mem (.ar 1 (x39.map eI64))))]) ⟨rfl, rfl, rfl, rfl, rfl, rfl, trivial⟩ (Sub.cons 0 rfl (Sub.cons 0 rfl (Sub.cons 0 rfl (Sub.cons 2 rfl (Sub.cons 0 rfl (Sub.cons 1 rfl (Sub.cons 0 rfl (Sub.nil _)))))))) ?_
                  exact ⟨n43, n48, n38, x37, (x17 ++ ([x41] : List (List Int))), (x19 ++ ([(lget p0.f2 (lget x39 x22))] : List Int)), x39, rfl, rfl, h⟩
          · rintro _ _ ⟨n27, n29, n31, x26, x28, x30, x32, rfl, rfl, h⟩
            rw [dfa_Order_c1.eq_1] at h
            refine AW.reg ?_
            refine AO.calm rfl 39 rfl (by decide) (eI64 x22) (Calm.move rfl rfl) ?_
            refine AO.calm rfl 40 rfl (by decide) (eI64 (w64 (x22 + (1 : Int)))) (Calm.int rfl rfl rfl rfl) ?_
            refine AO.calm rfl 7 rfl (by decide) (eI64 (w64 (x22 + (1 : Int)))) (Calm.assign rfl rfl) ?_
            refine AO.nil (ρ' := [(1, (.ptr n2 0)), (2, (.ptr n3 0)), (3, (.own n4 0 x26.length)), (5, (.ptr n7 0)), (6, (.own n31 0 x32.length)), (7, (eI64 (w64 (x22 + (1 : Int)))))]) (H' := [(n2, (.mem (e50 p0))), (n3, (.mem (.st [(256, (.ar 1 ((Vector.replicate 256 (0 : Int)).toList.map eU8))), (1, (.fl (.slice none 0 0))), (1, (.fl (.slice none 0 0)))]))), (n4, (.mem (.ar 1 (x26.map eI64)))), (n7, (.mem (.st [(256, (.ar 1 (p0.f0.toList.map eU8))), (1, (.own n27 0 x28.length)), (1, (.own n29 0 x30.length))]))), (n27, (.mem (.ar 1 (x28.map e43)))), (n29, (.mem (.ar 1 (x30.map eI64)))), (n31, (.mem (.ar 1 (x32.map eI64))))]) ⟨rfl, rfl, rfl, rfl, rfl, rfl, trivial⟩ (Sub.refl _) ?_
            exact ⟨kq24, Nat.lt_succ_self _, n27, n29, n31, x26, x28, x30, x32, (w64 (x22 + (1 : Int))), rfl, rfl, by rw [hrec23]; exact h⟩
        · have h := (if_neg hc25).symm.trans h
          refine AW.condN (x22 < (x21.length : Int)) rfl hc25 ?_
          refine AW.exit (ρ' := [(2, (.ptr n3 0)), (5, (.ptr n7 0))]) (H' := [(n3, (.mem (.st [(256, (.ar 1 ((Vector.replicate 256 (0 : Int)).toList.map eU8))), (1, (.fl (.slice none 0 0))), (1, (.fl (.slice none 0 0)))]))), (n7, (.mem (.st [(256, (.ar 1 (p0.f0.toList.map eU8))), (1, (.own n16 0 x17.length)), (1, (.own n18 0 x19.length))]))), (n16, (.mem (.ar 1 (x17.map e43)))), (n18, (.mem (.ar 1 (x19.map eI64))))]) ⟨rfl, rfl, trivial⟩ (Sub.cons 1 rfl (Sub.cons 2 rfl (Sub.cons 2 rfl (Sub.cons 2 rfl (Sub.nil _))))) ?_
          exact ⟨n16, n18, x17, x19, rfl, rfl, h⟩
      · rintro _ _ ⟨n11, n13, x12, x14, rfl, rfl, h⟩
        rw [dfa_Order_c0.eq_1] at h
        refine AW.seq ?_
        refine AW.reg ?_
        refine AO.freezeFld (X' := (.st [(256, (.ar 1 (p0.f0.toList.map eU8))), (1, (.fz 1 (x12.map e43))), (1, (.own n13 0 x14.length))])) (els' := (x12.map e43)) 2 1 rfl rfl (Put.cast (Put.fldS (Put.fld0 Put.here)) rfl) (by simp) (by rw [own_all]) rfl rfl (by decide) ?_
        refine AO.freezeFld (X' := (.st [(256, (.ar 1 (p0.f0.toList.map eU8))), (1, (.fz 1 (x12.map e43))), (1, (.fz 1 (x14.map eI64)))])) (els' := (x14.map eI64)) 2 1 rfl rfl (Put.cast (Put.fldS (Put.fldS (Put.fld0 Put.here))) rfl) (by simp) (by rw [own_all]) rfl rfl (by decide) ?_
        refine AO.calm rfl 112 rfl (by decide) (e50 (S50.mk p0.f0 x12 x14)) (Calm.load 1 rfl rfl rfl (At.cast At.here rfl) ag50 sz50) ?_
        refine AO.store (X' := (e50 (S50.mk p0.f0 x12 x14))) 0 rfl rfl rfl rfl rfl rfl (Put.cast Put.here rfl) rfl rfl sz50 rfl ?_
        refine AO.nil (ρ' := [(2, (.ptr n3 0))]) (H' := [(n3, (.mem (e50 (S50.mk p0.f0 x12 x14))))]) ⟨rfl, trivial⟩ (Sub.cons 0 rfl (Sub.nil _)) ?_
        refine AW.ret (ρ' := [(2, (.ptr n3 0))]) (H' := [(n3, (.mem (e50 (S50.mk p0.f0 x12 x14))))]) ⟨rfl, trivial⟩ (Sub.refl _) ?_
        have hr := Option.some.inj h
        subst hr
        exact ⟨[(e50 (S50.mk p0.f0 x12 x14))], ⟨⟨_, 0, rfl, rfl, ag50, sz50⟩, trivial⟩, rfl⟩
end Go.Avl.T3
/- bosket/bosketref08.place; printed by avmain.py. -/
namespace Go.Avl.T3
open Go Go.RowKit Go.Proofs Go.Avl
set_option linter.unusedVariables false
set_option maxRecDepth 100000
set_option maxHeartbeats 4000000
attribute [local irreducible] AW AO AQ Spec SpecH Calm

def bosketref08_place_c0 (k : Nat) : Option Int :=
  some ((-1 : Int))
def bosketref08_place_l1 (k : Nat) (p0 : (List Int)) (p1 : Int) : Nat → Int → Option Int
  | 0, _ => none
  | j + 1, x3 =>
    if x3 < (p0.length : Int) then if 0 ≤ x3 ∧ x3 < (p0.length : Int) then if (lget p0 x3) = p1 then some (x3)
    else (bosketref08_place_l1 k p0 p1 j) (w64 (x3 + (1 : Int)))
    else none
    else bosketref08_place_c0 k
def bosketref08_place (k : Nat) (p0 : (List Int)) (p1 : Int) : Option Int :=
  bosketref08_place_l1 k p0 p1 k (0 : Int)
theorem bosketref08_place_spec {k : Nat} {p0 : (List Int)} {p1 : Int} {r : Int} (h : bosketref08_place k p0 p1 = some r) : Spec Try.prog 61 [(.fz 1 (p0.map eI64)), (eI64 p1)] (eI64 r) := by
  rw [bosketref08_place.eq_1] at h
  refine Spec.intro (res := [.tmp 4]) Try.func61 rfl rfl rfl (Nat.le_of_ble_eq_true rfl) ?_
  refine AW.seq ?_
  refine AW.reg ?_
  refine AO.calm rfl 4 rfl (by decide) (eI64 (0 : Int)) (Calm.assign rfl rfl) ?_
  refine AO.nil (ρ' := [(0, (.fz 1 (p0.map eI64))), (1, (eI64 p1))]) (H' := []) ⟨rfl, rfl, trivial⟩ (Sub.refl _) ?_
  refine AW.seq_mid (fun ρ H => ρ = [] ∧ H = [] ∧ bosketref08_place_c0 k = some r) ?_ ?_
  · refine AW.seq ?_
    refine AW.reg ?_
    refine AO.calm rfl 5 rfl (by decide) (eI64 (0 : Int)) (Calm.assign rfl rfl) ?_
    refine AO.nil (ρ' := [(0, (.fz 1 (p0.map eI64))), (1, (eI64 p1)), (5, (eI64 (0 : Int)))]) (H' := []) ⟨rfl, rfl, rfl, trivial⟩ (Sub.refl _) ?_
    refine AW.block ?_
    refine AW.weak (ρ' := [(0, (.fz 1 (p0.map eI64))), (1, (eI64 p1)), (5, (eI64 (0 : Int)))]) (H' := []) ⟨rfl, rfl, rfl, trivial⟩ (Sub.refl _) ?_
    refine AW.loop (fun kq ρ H => ∃ (x3 : Int), ρ = [(0, (.fz 1 (p0.map eI64))), (1, (eI64 p1)), (5, (eI64 x3))] ∧ H = [] ∧ bosketref08_place_l1 k p0 p1 kq x3 = some r) k ⟨(0 : Int), rfl, rfl, h⟩ ?_
    rintro kq5 _ _ ⟨x3, rfl, rfl, h⟩
    cases kq5 with
    | zero => rw [bosketref08_place_l1.eq_1] at h; cases h
    | succ kq5 =>
    rw [bosketref08_place_l1.eq_2] at h
    generalize hrec4 : bosketref08_place_l1 k p0 p1 kq5 = rec4 at h
    refine AW.seq ?_
    refine AW.seq ?_
    refine AW.reg ?_
    refine AO.calm rfl 6 rfl (by decide) (eI64 x3) (Calm.move rfl rfl) ?_
    refine AO.calm rfl 7 rfl (by decide) (.fz 1 (p0.map eI64)) (Calm.move rfl rfl) ?_
    refine AO.calm rfl 8 rfl (by decide) (eI64 (p0.length : Int)) (Calm.lenL rfl rfl Try.underlying43) ?_
    refine AO.calm rfl 9 rfl (by decide) (eBool (decide (x3 < (p0.length : Int)))) (Calm.int rfl rfl rfl rfl) ?_
    refine AO.nil (ρ' := [(0, (.fz 1 (p0.map eI64))), (1, (eI64 p1)), (5, (eI64 x3)), (9, (eBool (decide (x3 < (p0.length : Int)))))]) (H' := []) ⟨rfl, rfl, rfl, rfl, trivial⟩ (Sub.refl _) ?_
    by_cases hc6 : x3 < (p0.length : Int)
    · have h := (if_pos hc6).symm.trans h
      refine AW.condP (x3 < (p0.length : Int)) rfl hc6 ?_
      refine AW.skip (ρ' := [(0, (.fz 1 (p0.map eI64))), (1, (eI64 p1)), (5, (eI64 x3))]) (H' := []) ⟨rfl, rfl, rfl, trivial⟩ (Sub.refl _) ?_
      refine AW.seq ?_
      refine AW.block ?_
      refine AW.seq ?_
      refine AW.reg ?_
      refine AO.calm rfl 12 rfl (by decide) (.fz 1 (p0.map eI64)) (Calm.move rfl rfl) ?_
      refine AO.calm rfl 13 rfl (by decide) (eI64 x3) (Calm.move rfl rfl) ?_
      obtain ⟨hg7, h⟩ := of_guard h
      refine AO.calm rfl 14 rfl (by decide) (.rp (eI64 (lget p0 x3))) (Calm.idxL (f := eI64) rfl rfl rfl hg7 Try.underlying43 sz3) ?_
      refine AO.calm rfl 15 rfl (by decide) (eI64 (lget p0 x3)) (Calm.loadRp rfl rfl ag3 sz3) ?_
      refine AO.calm rfl 16 rfl (by decide) (eI64 p1) (Calm.move rfl rfl) ?_
      refine AO.calm rfl 17 rfl (by decide) (eBool (decide ((lget p0 x3) = p1))) (Calm.int rfl rfl rfl rfl) ?_
      refine AO.nil (ρ' := [(0, (.fz 1 (p0.map eI64))), (1, (eI64 p1)), (5, (eI64 x3)), (17, (eBool (decide ((lget p0 x3) = p1))))]) (H' := []) ⟨rfl, rfl, rfl, rfl, trivial⟩ (Sub.refl _) ?_
      by_cases hc8 : (lget p0 x3) = p1
      · have h := (if_pos hc8).symm.trans h
        refine AW.condP ((lget p0 x3) = p1) rfl hc8 ?_
        refine AW.seq ?_
        refine AW.reg ?_
        refine AO.calm rfl 18 rfl (by decide) (eI64 x3) (Calm.move rfl rfl) ?_
        refine AO.calm rfl 4 rfl (by decide) (eI64 x3) (Calm.assign rfl rfl) ?_
        refine AO.nil (ρ' := [(4, (eI64 x3))]) (H' := []) ⟨rfl, trivial⟩ (Sub.refl _) ?_
        refine AW.ret (ρ' := [(4, (eI64 x3))]) (H' := []) ⟨rfl, trivial⟩ (Sub.refl _) ?_
        have hr := Option.some.inj h
        subst hr
        exact ⟨[(eI64 x3)], ⟨rfl, rfl, trivial⟩, rfl⟩
      · have h := (if_neg hc8).symm.trans h
        refine AW.condN ((lget p0 x3) = p1) rfl hc8 ?_
        refine AW.skip (ρ' := [(0, (.fz 1 (p0.map eI64))), (1, (eI64 p1)), (5, (eI64 x3))]) (H' := []) ⟨rfl, rfl, rfl, trivial⟩ (Sub.refl _) ?_
        refine AW.reg ?_
        refine AO.calm rfl 10 rfl (by decide) (eI64 x3) (Calm.move rfl rfl) ?_
        refine AO.calm rfl 11 rfl (by decide) (eI64 (w64 (x3 + (1 : Int)))) (Calm.int rfl rfl rfl rfl) ?_
        refine AO.calm rfl 5 rfl (by decide) (eI64 (w64 (x3 + (1 : Int)))) (Calm.assign rfl rfl) ?_
        refine AO.nil (ρ' := [(0, (.fz 1 (p0.map eI64))), (1, (eI64 p1)), (5, (eI64 (w64 (x3 + (1 : Int)))))]) (H' := []) ⟨rfl, rfl, rfl, trivial⟩ (Sub.refl _) ?_
        exact ⟨kq5, Nat.lt_succ_self _, (w64 (x3 + (1 : Int))), rfl, rfl, by rw [hrec4]; exact h⟩
    · have h := (if_neg hc6).symm.trans h
      refine AW.condN (x3 < (p0.length : Int)) rfl hc6 ?_
      refine AW.exit (ρ' := []) (H' := []) trivial (Sub.refl _) ?_
      exact ⟨rfl, rfl, h⟩
  · rintro _ _ ⟨rfl, rfl, h⟩
    rw [bosketref08_place_c0.eq_1] at h
    refine AW.seq ?_
    refine AW.reg ?_
    refine AO.calm rfl 4 rfl (by decide) (eI64 (-1 : Int)) (Calm.assign rfl rfl) ?_
    refine AO.nil (ρ' := [(4, (eI64 (-1 : Int)))]) (H' := []) ⟨rfl, trivial⟩ (Sub.refl _) ?_
    refine AW.ret (ρ' := [(4, (eI64 (-1 : Int)))]) (H' := []) ⟨rfl, trivial⟩ (Sub.refl _) ?_
    have hr := Option.some.inj h
    subst hr
    exact ⟨[(eI64 (-1 : Int))], ⟨rfl, rfl, trivial⟩, rfl⟩
end Go.Avl.T3
