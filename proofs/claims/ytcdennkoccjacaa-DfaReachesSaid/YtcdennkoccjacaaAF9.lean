/- Parts: T3f39, T3f47, T3f24, T3f21. -/
import Derived.Test.YtcdennkoccjacaaAF1
import Derived.Test.YtcdennkoccjacaaAF8
import Derived.Test.YtcdennkoccjacaaAF3
import Derived.Test.YtcdennkoccjacaaAF4
/- bosket/bosketref08.Order; printed by avmain.py. -/
namespace Go.Avl.T3
open Go Go.RowKit Go.Proofs Go.Avl
set_option linter.unusedVariables false
set_option maxRecDepth 100000
set_option maxHeartbeats 4000000
set_option linter.unusedSimpArgs false
attribute [local irreducible] AW AO AQ Spec SpecH Calm

def bosketref08_Order_c0 (k : Nat) (p0 : S50) (x7 : (List (List Int))) (x9 : (List Int)) : Option S50 :=
  some ((S50.mk p0.f0 x7 x9))
def bosketref08_Order_c1 (k : Nat) (rec17 : ((List Int) → (List (List Int)) → (List Int) → Int → Option S50)) (x16 : Int) (x21 : (List Int)) (x23 : (List (List Int))) (x25 : (List Int)) : Option S50 :=
  rec17 x21 x23 x25 (w64 (x16 + (1 : Int)))
def bosketref08_Order_c2 (k : Nat) (rec17 : ((List Int) → (List (List Int)) → (List Int) → Int → Option S50)) (p0 : S50) (x13 : (List (List Int))) (x15 : (List Int)) (x16 : Int) (x27 : (List Int)) (x29 : (List Int)) : Option S50 :=
  if (x13 ++ ([x29] : List (List Int))).length * 24 ≤ 140737488355328 then if 0 ≤ x16 ∧ x16 < (x27.length : Int) then if 0 ≤ (lget x27 x16) ∧ (lget x27 x16) < (p0.f2.length : Int) then if (x15 ++ ([(lget p0.f2 (lget x27 x16))] : List Int)).length * 8 ≤ 140737488355328 then bosketref08_Order_c1 k rec17 x16 x27 (x13 ++ ([x29] : List (List Int))) (x15 ++ ([(lget p0.f2 (lget x27 x16))] : List Int))
  else none
  else none
  else none
  else none
def bosketref08_Order_c3 (k : Nat) (rec43 : ((List Int) → (List Int) → Int → Option S50)) (p0 : S50) (x16 : Int) (x39 : (List Int)) (x41 : (List Int)) (x42 : Int) (x52 : (List Int)) : Option S50 :=
  (bosketref08_place k x52 (lget (lget p0.f1 (lget x39 x16)) x42)).bind fun t53 =>
  if (x41 ++ ([t53] : List Int)).length * 8 ≤ 140737488355328 then rec43 x52 (x41 ++ ([t53] : List Int)) (w64 (x42 + (1 : Int)))
  else none
def bosketref08_Order_l4 (k : Nat) (rec17 : ((List Int) → (List (List Int)) → (List Int) → Int → Option S50)) (p0 : S50) (x13 : (List (List Int))) (x15 : (List Int)) (x16 : Int) : Nat → (List Int) → (List Int) → Int → Option S50
  | 0, _, _, _ => none
  | j + 1, x39, x41, x42 =>
    if 0 ≤ x16 ∧ x16 < (x39.length : Int) then if 0 ≤ (lget x39 x16) ∧ (lget x39 x16) < (p0.f1.length : Int) then if x42 < ((lget p0.f1 (lget x39 x16)).length : Int) then if 0 ≤ x16 ∧ x16 < (x39.length : Int) then if 0 ≤ (lget x39 x16) ∧ (lget x39 x16) < (p0.f1.length : Int) then if 0 ≤ x42 ∧ x42 < ((lget p0.f1 (lget x39 x16)).length : Int) then Option.bind (α := Bool) (if (0 : Int) ≤ (lget (lget p0.f1 (lget x39 x16)) x42) then (bosketref08_place k x39 (lget (lget p0.f1 (lget x39 x16)) x42)).bind fun t60 =>
    some (decide (t60 < (0 : Int)))
    else some (false)) fun b57 =>
    if b57 = true then if (x39 ++ ([(lget (lget p0.f1 (lget x39 x16)) x42)] : List Int)).length * 8 ≤ 140737488355328 then bosketref08_Order_c3 k (bosketref08_Order_l4 k rec17 p0 x13 x15 x16 j) p0 x16 x39 x41 x42 (x39 ++ ([(lget (lget p0.f1 (lget x39 x16)) x42)] : List Int))
    else none
    else bosketref08_Order_c3 k (bosketref08_Order_l4 k rec17 p0 x13 x15 x16 j) p0 x16 x39 x41 x42 x39
    else none
    else none
    else none
    else bosketref08_Order_c2 k rec17 p0 x13 x15 x16 x39 x41
    else none
    else none
def bosketref08_Order_l5 (k : Nat) (p0 : S50) : Nat → (List Int) → (List (List Int)) → (List Int) → Int → Option S50
  | 0, _, _, _, _ => none
  | j + 1, x11, x13, x15, x16 =>
    if x16 < (x11.length : Int) then bosketref08_Order_l4 k (bosketref08_Order_l5 k p0 j) p0 x13 x15 x16 k x11 ([] : List Int) (0 : Int)
    else bosketref08_Order_c0 k p0 x13 x15
def bosketref08_Order (k : Nat) (p0 : S50) : Option S50 :=
  bosketref08_Order_l5 k p0 k ([(0 : Int)] : List Int) ([] : List (List Int)) ([] : List Int) (0 : Int)
theorem bosketref08_Order_spec {k : Nat} {p0 : S50} {r : S50} (h : bosketref08_Order k p0 = some r) : Spec Try.prog 39 [(e50 p0)] (e50 r) := by
  rw [bosketref08_Order.eq_1] at h
  refine Spec.intro (res := [.cell 2 50]) Try.func39 rfl rfl rfl (Nat.le_of_ble_eq_true rfl) ?_
  refine AW.seq ?_
  refine AW.reg ?_
  refine AO.box rfl 1 rfl (by decide) rfl rfl rfl fun n2 => ?_
  refine AO.alloc rfl 2 rfl (by decide) rfl zr50 lay50 fun n3 => ?_
  refine AO.nil (ρ' := [(1, (.ptr n2 0)), (2, (.ptr n3 0))]) (H' := [(n2, (.mem (e50 p0))), (n3, (.mem (.st [(256, (.ar 1 ((Vector.replicate 256 (0 : Int)).toList.map eU8))), (1, (.fl (.slice none 0 0))), (1, (.fl (.slice none 0 0)))])))]) ⟨rfl, rfl, trivial⟩ (Sub.cons 1 rfl (Sub.cons 0 rfl (Sub.nil _))) ?_
  refine AW.seq ?_
  refine AW.reg ?_
  refine AO.lit (Z := (eI64 (0 : Int))) (xs := (([(0 : Int)] : List Int).map eI64)) (qs := [(0, (eI64 (0 : Int)))]) rfl 9 rfl (by decide) rfl ⟨rfl, rfl, rfl, trivial⟩ Try.underlying43 sz3 zr3 lay3 rfl (by decide) (litOK (z := 1) [(eI64 (0 : Int))] rfl ⟨⟨rfl, rfl⟩, trivial⟩) rfl fun n4 => ?_
  refine AO.calm rfl 3 rfl (by decide) (.own n4 0 ([(0 : Int)] : List Int).length) (Calm.assign rfl rfl) ?_
  refine AO.nil (ρ' := [(1, (.ptr n2 0)), (2, (.ptr n3 0)), (3, (.own n4 0 ([(0 : Int)] : List Int).length))]) (H' := [(n2, (.mem (e50 p0))), (n3, (.mem (.st [(256, (.ar 1 ((Vector.replicate 256 (0 : Int)).toList.map eU8))), (1, (.fl (.slice none 0 0))), (1, (.fl (.slice none 0 0)))]))), (n4, (.mem (.ar 1 (([(0 : Int)] : List Int).map eI64))))]) ⟨rfl, rfl, rfl, trivial⟩ (Sub.cons 1 rfl (Sub.cons 1 rfl (Sub.cons 0 rfl (Sub.nil _)))) ?_
  refine AW.seq ?_
  refine AW.reg ?_
  refine AO.calm rfl 10 rfl (by decide) (.ptr n2 0) (Calm.fldPtr rfl rfl Try.underlying50 rfl sz47 _ rfl) ?_
  refine AO.calm rfl 11 rfl (by decide) (.ar 1 (p0.f0.toList.map eU8)) (Calm.load 0 rfl rfl rfl (At.cast (At.fld0 At.here) rfl) ag47 (by rw [sz47]; simp [AV.size])) ?_
  refine AO.calm rfl 12 rfl (by decide) (.st [(256, (.ar 1 (p0.f0.toList.map eU8))), (1, (.fl (.slice none 0 0))), (1, (.fl (.slice none 0 0)))]) (Calm.build (qs := [(0, (.ar 1 (p0.f0.toList.map eU8)))]) rfl ⟨rfl, rfl, rfl, trivial⟩ Try.underlying50 rfl zr50 lay50 (.cons rfl rfl (vec_size _ _) (vec_size _ _) (Put.cast (Put.fld0 Put.here) rfl) .nil) rfl) ?_
  refine AO.alloc rfl 4 rfl (by decide) rfl zr50 lay50 fun n5 => ?_
  refine AO.store (X' := (.st [(256, (.ar 1 (p0.f0.toList.map eU8))), (1, (.fl (.slice none 0 0))), (1, (.fl (.slice none 0 0)))])) 0 rfl rfl rfl rfl rfl rfl (Put.cast Put.here rfl) rfl rfl sz50 rfl ?_
  refine AO.nil (ρ' := [(1, (.ptr n2 0)), (2, (.ptr n3 0)), (3, (.own n4 0 ([(0 : Int)] : List Int).length)), (4, (.ptr n5 0))]) (H' := [(n2, (.mem (e50 p0))), (n3, (.mem (.st [(256, (.ar 1 ((Vector.replicate 256 (0 : Int)).toList.map eU8))), (1, (.fl (.slice none 0 0))), (1, (.fl (.slice none 0 0)))]))), (n4, (.mem (.ar 1 (([(0 : Int)] : List Int).map eI64)))), (n5, (.mem (.st [(256, (.ar 1 (p0.f0.toList.map eU8))), (1, (.fl (.slice none 0 0))), (1, (.fl (.slice none 0 0)))])))]) ⟨rfl, rfl, rfl, rfl, trivial⟩ (Sub.cons 1 rfl (Sub.cons 1 rfl (Sub.cons 1 rfl (Sub.cons 0 rfl (Sub.nil _))))) ?_
  refine AW.seq_mid (fun ρ H => ∃ (n6 : Nat) (n8 : Nat) (x7 : (List (List Int))) (x9 : (List Int)), ρ = [(2, (.ptr n3 0)), (4, (.ptr n5 0))] ∧ H = [(n3, (.mem (.st [(256, (.ar 1 ((Vector.replicate 256 (0 : Int)).toList.map eU8))), (1, (.fl (.slice none 0 0))), (1, (.fl (.slice none 0 0)))]))), (n5, (.mem (.st [(256, (.ar 1 (p0.f0.toList.map eU8))), (1, (.own n6 0 x7.length)), (1, (.own n8 0 x9.length))]))), (n6, (.mem (.ar 1 (x7.map e43)))), (n8, (.mem (.ar 1 (x9.map eI64))))] ∧ bosketref08_Order_c0 k p0 x7 x9 = some r) ?_ ?_
  · refine AW.seq ?_
    refine AW.reg ?_
    refine AO.calm rfl 5 rfl (by decide) (eI64 (0 : Int)) (Calm.assign rfl rfl) ?_
    refine AO.nil (ρ' := [(1, (.ptr n2 0)), (2, (.ptr n3 0)), (3, (.own n4 0 ([(0 : Int)] : List Int).length)), (4, (.ptr n5 0)), (5, (eI64 (0 : Int)))]) (H' := [(n2, (.mem (e50 p0))), (n3, (.mem (.st [(256, (.ar 1 ((Vector.replicate 256 (0 : Int)).toList.map eU8))), (1, (.fl (.slice none 0 0))), (1, (.fl (.slice none 0 0)))]))), (n4, (.mem (.ar 1 (([(0 : Int)] : List Int).map eI64)))), (n5, (.mem (.st [(256, (.ar 1 (p0.f0.toList.map eU8))), (1, (.fl (.slice none 0 0))), (1, (.fl (.slice none 0 0)))])))]) ⟨rfl, rfl, rfl, rfl, rfl, trivial⟩ (Sub.refl _) ?_
    refine AW.block ?_
    refine AW.nilOwnFld 3 1 (fun n66 => (.st [(256, (.ar 1 (p0.f0.toList.map eU8))), (1, (.own n66 0 0)), (1, (.fl (.slice none 0 0)))])) rfl (fun _ => (Put.cast (Put.fldS (Put.fld0 Put.here)) rfl)) (fun _ => rfl) (fun _ => rfl) fun n66 => ?_
    refine AW.nilOwnFld 4 1 (fun n67 => (.st [(256, (.ar 1 (p0.f0.toList.map eU8))), (1, (.own n66 0 ([] : List (List Int)).length)), (1, (.own n67 0 0))])) rfl (fun _ => (Put.cast (Put.fldS (Put.fldS (Put.fld0 Put.here))) rfl)) (fun _ => rfl) (fun _ => rfl) fun n67 => ?_
    refine AW.weak (ρ' := [(1, (.ptr n2 0)), (2, (.ptr n3 0)), (3, (.own n4 0 ([(0 : Int)] : List Int).length)), (4, (.ptr n5 0)), (5, (eI64 (0 : Int)))]) (H' := [(n2, (.mem (e50 p0))), (n3, (.mem (.st [(256, (.ar 1 ((Vector.replicate 256 (0 : Int)).toList.map eU8))), (1, (.fl (.slice none 0 0))), (1, (.fl (.slice none 0 0)))]))), (n4, (.mem (.ar 1 (([(0 : Int)] : List Int).map eI64)))), (n5, (.mem (.st [(256, (.ar 1 (p0.f0.toList.map eU8))), (1, (.own n66 0 ([] : List (List Int)).length)), (1, (.own n67 0 ([] : List Int).length))]))), (n66, (.mem (.ar 1 (([] : List (List Int)).map e43)))), (n67, (.mem (.ar 1 (([] : List Int).map eI64))))]) ⟨rfl, rfl, rfl, rfl, rfl, trivial⟩ (Sub.cons 2 rfl (Sub.cons 2 rfl (Sub.cons 2 rfl (Sub.cons 2 rfl (Sub.cons 1 rfl (Sub.cons 0 rfl (Sub.nil _))))))) ?_
    refine AW.loop (fun kq ρ H => ∃ (n10 : Nat) (n12 : Nat) (n14 : Nat) (x11 : (List Int)) (x13 : (List (List Int))) (x15 : (List Int)) (x16 : Int), ρ = [(1, (.ptr n2 0)), (2, (.ptr n3 0)), (3, (.own n10 0 x11.length)), (4, (.ptr n5 0)), (5, (eI64 x16))] ∧ H = [(n2, (.mem (e50 p0))), (n3, (.mem (.st [(256, (.ar 1 ((Vector.replicate 256 (0 : Int)).toList.map eU8))), (1, (.fl (.slice none 0 0))), (1, (.fl (.slice none 0 0)))]))), (n10, (.mem (.ar 1 (x11.map eI64)))), (n5, (.mem (.st [(256, (.ar 1 (p0.f0.toList.map eU8))), (1, (.own n12 0 x13.length)), (1, (.own n14 0 x15.length))]))), (n12, (.mem (.ar 1 (x13.map e43)))), (n14, (.mem (.ar 1 (x15.map eI64))))] ∧ bosketref08_Order_l5 k p0 kq x11 x13 x15 x16 = some r) k ⟨n4, n66, n67, ([(0 : Int)] : List Int), ([] : List (List Int)), ([] : List Int), (0 : Int), rfl, rfl, h⟩ ?_
    rintro kq18 _ _ ⟨n10, n12, n14, x11, x13, x15, x16, rfl, rfl, h⟩
    cases kq18 with
    | zero => rw [bosketref08_Order_l5.eq_1] at h; cases h
    | succ kq18 =>
    rw [bosketref08_Order_l5.eq_2] at h
    generalize hrec17 : bosketref08_Order_l5 k p0 kq18 = rec17 at h
    refine AW.seq ?_
    refine AW.seq ?_
    refine AW.reg ?_
    refine AO.calm rfl 13 rfl (by decide) (eI64 x16) (Calm.move rfl rfl) ?_
    refine AO.calm rfl 14 rfl (by decide) (.own n10 0 x11.length) (Calm.move rfl rfl) ?_
    refine AO.calm rfl 15 rfl (by decide) (eI64 (x11.length : Int)) (Calm.lenOwn rfl rfl Try.underlying43) ?_
    refine AO.calm rfl 16 rfl (by decide) (eBool (decide (x16 < (x11.length : Int)))) (Calm.int rfl rfl rfl rfl) ?_
    refine AO.nil (ρ' := [(1, (.ptr n2 0)), (2, (.ptr n3 0)), (3, (.own n10 0 x11.length)), (4, (.ptr n5 0)), (5, (eI64 x16)), (16, (eBool (decide (x16 < (x11.length : Int)))))]) (H' := [(n2, (.mem (e50 p0))), (n3, (.mem (.st [(256, (.ar 1 ((Vector.replicate 256 (0 : Int)).toList.map eU8))), (1, (.fl (.slice none 0 0))), (1, (.fl (.slice none 0 0)))]))), (n10, (.mem (.ar 1 (x11.map eI64)))), (n5, (.mem (.st [(256, (.ar 1 (p0.f0.toList.map eU8))), (1, (.own n12 0 x13.length)), (1, (.own n14 0 x15.length))]))), (n12, (.mem (.ar 1 (x13.map e43)))), (n14, (.mem (.ar 1 (x15.map eI64))))]) ⟨rfl, rfl, rfl, rfl, rfl, rfl, trivial⟩ (Sub.refl _) ?_
    by_cases hc19 : x16 < (x11.length : Int)
    · have h := (if_pos hc19).symm.trans h
      refine AW.condP (x16 < (x11.length : Int)) rfl hc19 ?_
      refine AW.skip (ρ' := [(1, (.ptr n2 0)), (2, (.ptr n3 0)), (3, (.own n10 0 x11.length)), (4, (.ptr n5 0)), (5, (eI64 x16))]) (H' := [(n2, (.mem (e50 p0))), (n3, (.mem (.st [(256, (.ar 1 ((Vector.replicate 256 (0 : Int)).toList.map eU8))), (1, (.fl (.slice none 0 0))), (1, (.fl (.slice none 0 0)))]))), (n10, (.mem (.ar 1 (x11.map eI64)))), (n5, (.mem (.st [(256, (.ar 1 (p0.f0.toList.map eU8))), (1, (.own n12 0 x13.length)), (1, (.own n14 0 x15.length))]))), (n12, (.mem (.ar 1 (x13.map e43)))), (n14, (.mem (.ar 1 (x15.map eI64))))]) ⟨rfl, rfl, rfl, rfl, rfl, trivial⟩ (Sub.refl _) ?_
      refine AW.seq_mid (fun ρ H => ∃ (n20 : Nat) (n22 : Nat) (n24 : Nat) (x21 : (List Int)) (x23 : (List (List Int))) (x25 : (List Int)), ρ = [(1, (.ptr n2 0)), (2, (.ptr n3 0)), (3, (.own n20 0 x21.length)), (4, (.ptr n5 0)), (5, (eI64 x16))] ∧ H = [(n2, (.mem (e50 p0))), (n3, (.mem (.st [(256, (.ar 1 ((Vector.replicate 256 (0 : Int)).toList.map eU8))), (1, (.fl (.slice none 0 0))), (1, (.fl (.slice none 0 0)))]))), (n20, (.mem (.ar 1 (x21.map eI64)))), (n5, (.mem (.st [(256, (.ar 1 (p0.f0.toList.map eU8))), (1, (.own n22 0 x23.length)), (1, (.own n24 0 x25.length))]))), (n22, (.mem (.ar 1 (x23.map e43)))), (n24, (.mem (.ar 1 (x25.map eI64))))] ∧ bosketref08_Order_c1 k rec17 x16 x21 x23 x25 = some r) ?_ ?_
      · refine AW.block ?_
        refine AW.seq ?_
        refine AW.reg ?_
        refine AO.calm rfl 6 rfl (by decide) (.fl (.slice none 0 0)) (Calm.assign rfl rfl) ?_
        refine AO.nil (ρ' := [(1, (.ptr n2 0)), (2, (.ptr n3 0)), (3, (.own n10 0 x11.length)), (4, (.ptr n5 0)), (5, (eI64 x16)), (6, (.fl (.slice none 0 0)))]) (H' := [(n2, (.mem (e50 p0))), (n3, (.mem (.st [(256, (.ar 1 ((Vector.replicate 256 (0 : Int)).toList.map eU8))), (1, (.fl (.slice none 0 0))), (1, (.fl (.slice none 0 0)))]))), (n10, (.mem (.ar 1 (x11.map eI64)))), (n5, (.mem (.st [(256, (.ar 1 (p0.f0.toList.map eU8))), (1, (.own n12 0 x13.length)), (1, (.own n14 0 x15.length))]))), (n12, (.mem (.ar 1 (x13.map e43)))), (n14, (.mem (.ar 1 (x15.map eI64))))]) ⟨rfl, rfl, rfl, rfl, rfl, rfl, trivial⟩ (Sub.refl _) ?_
        refine AW.seq_mid (fun ρ H => ∃ (n26 : Nat) (n28 : Nat) (x27 : (List Int)) (x29 : (List Int)), ρ = [(1, (.ptr n2 0)), (2, (.ptr n3 0)), (3, (.own n26 0 x27.length)), (4, (.ptr n5 0)), (5, (eI64 x16)), (6, (.own n28 0 x29.length))] ∧ H = [(n2, (.mem (e50 p0))), (n3, (.mem (.st [(256, (.ar 1 ((Vector.replicate 256 (0 : Int)).toList.map eU8))), (1, (.fl (.slice none 0 0))), (1, (.fl (.slice none 0 0)))]))), (n26, (.mem (.ar 1 (x27.map eI64)))), (n5, (.mem (.st [(256, (.ar 1 (p0.f0.toList.map eU8))), (1, (.own n12 0 x13.length)), (1, (.own n14 0 x15.length))]))), (n12, (.mem (.ar 1 (x13.map e43)))), (n14, (.mem (.ar 1 (x15.map eI64)))), (n28, (.mem (.ar 1 (x29.map eI64))))] ∧ bosketref08_Order_c2 k rec17 p0 x13 x15 x16 x27 x29 = some r) ?_ ?_
        · refine AW.seq ?_
          refine AW.reg ?_
          refine AO.calm rfl 7 rfl (by decide) (eI64 (0 : Int)) (Calm.assign rfl rfl) ?_
          refine AO.nil (ρ' := [(1, (.ptr n2 0)), (2, (.ptr n3 0)), (3, (.own n10 0 x11.length)), (4, (.ptr n5 0)), (5, (eI64 x16)), (6, (.fl (.slice none 0 0))), (7, (eI64 (0 : Int)))]) (H' := [(n2, (.mem (e50 p0))), (n3, (.mem (.st [(256, (.ar 1 ((Vector.replicate 256 (0 : Int)).toList.map eU8))), (1, (.fl (.slice none 0 0))), (1, (.fl (.slice none 0 0)))]))), (n10, (.mem (.ar 1 (x11.map eI64)))), (n5, (.mem (.st [(256, (.ar 1 (p0.f0.toList.map eU8))), (1, (.own n12 0 x13.length)), (1, (.own n14 0 x15.length))]))), (n12, (.mem (.ar 1 (x13.map e43)))), (n14, (.mem (.ar 1 (x15.map eI64))))]) ⟨rfl, rfl, rfl, rfl, rfl, rfl, rfl, trivial⟩ (Sub.refl _) ?_
          refine AW.block ?_
          refine AW.nilOwn 6 1 rfl fun n65 => ?_
          refine AW.weak (ρ' := [(1, (.ptr n2 0)), (2, (.ptr n3 0)), (3, (.own n10 0 x11.length)), (4, (.ptr n5 0)), (5, (eI64 x16)), (6, (.own n65 0 ([] : List Int).length)), (7, (eI64 (0 : Int)))]) (H' := [(n2, (.mem (e50 p0))), (n3, (.mem (.st [(256, (.ar 1 ((Vector.replicate 256 (0 : Int)).toList.map eU8))), (1, (.fl (.slice none 0 0))), (1, (.fl (.slice none 0 0)))]))), (n10, (.mem (.ar 1 (x11.map eI64)))), (n5, (.mem (.st [(256, (.ar 1 (p0.f0.toList.map eU8))), (1, (.own n12 0 x13.length)), (1, (.own n14 0 x15.length))]))), (n12, (.mem (.ar 1 (x13.map e43)))), (n14, (.mem (.ar 1 (x15.map eI64)))), (n65, (.mem (.ar 1 (([] : List Int).map eI64))))]) ⟨rfl, rfl, rfl, rfl, rfl, rfl, rfl, trivial⟩ (Sub.cons 1 rfl (Sub.cons 1 rfl (Sub.cons 1 rfl (Sub.cons 1 rfl (Sub.cons 1 rfl (Sub.cons 1 rfl (Sub.cons 0 rfl (Sub.nil _)))))))) ?_
          refine AW.loop (fun kq ρ H => ∃ (n38 : Nat) (n40 : Nat) (x39 : (List Int)) (x41 : (List Int)) (x42 : Int), ρ = [(1, (.ptr n2 0)), (2, (.ptr n3 0)), (3, (.own n38 0 x39.length)), (4, (.ptr n5 0)), (5, (eI64 x16)), (6, (.own n40 0 x41.length)), (7, (eI64 x42))] ∧ H = [(n2, (.mem (e50 p0))), (n3, (.mem (.st [(256, (.ar 1 ((Vector.replicate 256 (0 : Int)).toList.map eU8))), (1, (.fl (.slice none 0 0))), (1, (.fl (.slice none 0 0)))]))), (n38, (.mem (.ar 1 (x39.map eI64)))), (n5, (.mem (.st [(256, (.ar 1 (p0.f0.toList.map eU8))), (1, (.own n12 0 x13.length)), (1, (.own n14 0 x15.length))]))), (n12, (.mem (.ar 1 (x13.map e43)))), (n14, (.mem (.ar 1 (x15.map eI64)))), (n40, (.mem (.ar 1 (x41.map eI64))))] ∧ bosketref08_Order_l4 k rec17 p0 x13 x15 x16 kq x39 x41 x42 = some r) k ⟨n10, n65, x11, ([] : List Int), (0 : Int), rfl, rfl, h⟩ ?_
          rintro kq44 _ _ ⟨n38, n40, x39, x41, x42, rfl, rfl, h⟩
          cases kq44 with
          | zero => rw [bosketref08_Order_l4.eq_1] at h; cases h
          | succ kq44 =>
          rw [bosketref08_Order_l4.eq_2] at h
          generalize hrec43 : bosketref08_Order_l4 k rec17 p0 x13 x15 x16 kq44 = rec43 at h
          refine AW.seq ?_
          refine AW.seq ?_
          refine AW.regQ (by rfl) (by decide +kernel) ?_
          refine AQ.calm rfl 19 rfl (by decide) (eI64 x42) (Calm.move rfl rfl) ?_
          refine AQ.calm rfl 20 rfl (by decide) (.ptr n2 256) (Calm.fldPtr rfl rfl Try.underlying50 rfl sz48 _ rfl) ?_
          refine AQ.calm rfl 21 rfl (by decide) (.fz 1 (p0.f1.map e43)) (Calm.load 0 rfl rfl rfl (At.cast (At.fldS (At.fld0 At.here)) rfl) ag48 sz48) ?_
          refine AQ.calm rfl 22 rfl (by decide) (.own n38 0 x39.length) (Calm.move rfl rfl) ?_
          refine AQ.calm rfl 23 rfl (by decide) (eI64 x16) (Calm.move rfl rfl) ?_
          obtain ⟨hg45, h⟩ := of_guard h
          refine AQ.calm rfl 24 rfl (by decide) (.ptr n38 (x16.toNat * 1 + 0)) (Calm.idxO 2 rfl rfl rfl rfl hg45 Try.underlying43 sz3) ?_
          refine AQ.calm rfl 25 rfl (by decide) (eI64 (lget x39 x16)) (Calm.load 2 rfl rfl rfl (At.cast (At.lidx x16 hg45.1 hg45.2 At.here) (by omega)) ag3 sz3) ?_
          obtain ⟨hg46, h⟩ := of_guard h
          refine AQ.calm rfl 26 rfl (by decide) (.rp (.fz 1 ((lget p0.f1 (lget x39 x16)).map eI64))) (Calm.idxL (f := e43) rfl rfl rfl hg46 Try.underlying48 sz43) ?_
          refine AQ.calm rfl 27 rfl (by decide) (.fz 1 ((lget p0.f1 (lget x39 x16)).map eI64)) (Calm.loadRp rfl rfl ag43 sz43) ?_
          refine AQ.calm rfl 28 rfl (by decide) (eI64 ((lget p0.f1 (lget x39 x16)).length : Int)) (Calm.lenL rfl rfl Try.underlying43) ?_
          refine AQ.calm rfl 29 rfl (by decide) (eBool (decide (x42 < ((lget p0.f1 (lget x39 x16)).length : Int)))) (Calm.int rfl rfl rfl rfl) ?_
          refine AQ.nil (ρ' := [(1, (.ptr n2 0)), (2, (.ptr n3 0)), (3, (.own n38 0 x39.length)), (4, (.ptr n5 0)), (5, (eI64 x16)), (6, (.own n40 0 x41.length)), (7, (eI64 x42)), (29, (eBool (decide (x42 < ((lget p0.f1 (lget x39 x16)).length : Int)))))]) ⟨rfl, rfl, rfl, rfl, rfl, rfl, rfl, rfl, trivial⟩ ?_
          by_cases hc47 : x42 < ((lget p0.f1 (lget x39 x16)).length : Int)
          · have h := (if_pos hc47).symm.trans h
            refine AW.condP (x42 < ((lget p0.f1 (lget x39 x16)).length : Int)) rfl hc47 ?_
            refine AW.skip (ρ' := [(1, (.ptr n2 0)), (2, (.ptr n3 0)), (3, (.own n38 0 x39.length)), (4, (.ptr n5 0)), (5, (eI64 x16)), (6, (.own n40 0 x41.length)), (7, (eI64 x42))]) (H' := [(n2, (.mem (e50 p0))), (n3, (.mem (.st [(256, (.ar 1 ((Vector.replicate 256 (0 : Int)).toList.map eU8))), (1, (.fl (.slice none 0 0))), (1, (.fl (.slice none 0 0)))]))), (n38, (.mem (.ar 1 (x39.map eI64)))), (n5, (.mem (.st [(256, (.ar 1 (p0.f0.toList.map eU8))), (1, (.own n12 0 x13.length)), (1, (.own n14 0 x15.length))]))), (n12, (.mem (.ar 1 (x13.map e43)))), (n14, (.mem (.ar 1 (x15.map eI64)))), (n40, (.mem (.ar 1 (x41.map eI64))))]) ⟨rfl, rfl, rfl, rfl, rfl, rfl, rfl, trivial⟩ (Sub.refl _) ?_
            refine AW.seq ?_
            refine AW.block ?_
            refine AW.seq ?_
            refine AW.regQ (by rfl) (by decide +kernel) ?_
            refine AQ.calm rfl 32 rfl (by decide) (.ptr n2 256) (Calm.fldPtr rfl rfl Try.underlying50 rfl sz48 _ rfl) ?_
            refine AQ.calm rfl 33 rfl (by decide) (.fz 1 (p0.f1.map e43)) (Calm.load 0 rfl rfl rfl (At.cast (At.fldS (At.fld0 At.here)) rfl) ag48 sz48) ?_
            refine AQ.calm rfl 34 rfl (by decide) (.own n38 0 x39.length) (Calm.move rfl rfl) ?_
            refine AQ.calm rfl 35 rfl (by decide) (eI64 x16) (Calm.move rfl rfl) ?_
            obtain ⟨hg48, h⟩ := of_guard h
            refine AQ.calm rfl 36 rfl (by decide) (.ptr n38 (x16.toNat * 1 + 0)) (Calm.idxO 2 rfl rfl rfl rfl hg48 Try.underlying43 sz3) ?_
            refine AQ.calm rfl 37 rfl (by decide) (eI64 (lget x39 x16)) (Calm.load 2 rfl rfl rfl (At.cast (At.lidx x16 hg48.1 hg48.2 At.here) (by omega)) ag3 sz3) ?_
            obtain ⟨hg49, h⟩ := of_guard h
            refine AQ.calm rfl 38 rfl (by decide) (.rp (.fz 1 ((lget p0.f1 (lget x39 x16)).map eI64))) (Calm.idxL (f := e43) rfl rfl rfl hg49 Try.underlying48 sz43) ?_
            refine AQ.calm rfl 39 rfl (by decide) (.fz 1 ((lget p0.f1 (lget x39 x16)).map eI64)) (Calm.loadRp rfl rfl ag43 sz43) ?_
            refine AQ.calm rfl 40 rfl (by decide) (eI64 x42) (Calm.move rfl rfl) ?_
            obtain ⟨hg50, h⟩ := of_guard h
            refine AQ.calm rfl 41 rfl (by decide) (.rp (eI64 (lget (lget p0.f1 (lget x39 x16)) x42))) (Calm.idxL (f := eI64) rfl rfl rfl hg50 Try.underlying43 sz3) ?_
            refine AQ.calm rfl 42 rfl (by decide) (eI64 (lget (lget p0.f1 (lget x39 x16)) x42)) (Calm.loadRp rfl rfl ag3 sz3) ?_
            refine AQ.calm rfl 8 rfl (by decide) (eI64 (lget (lget p0.f1 (lget x39 x16)) x42)) (Calm.assign rfl rfl) ?_
            refine AQ.nil (ρ' := [(1, (.ptr n2 0)), (2, (.ptr n3 0)), (3, (.own n38 0 x39.length)), (4, (.ptr n5 0)), (5, (eI64 x16)), (6, (.own n40 0 x41.length)), (7, (eI64 x42)), (8, (eI64 (lget (lget p0.f1 (lget x39 x16)) x42)))]) ⟨rfl, rfl, rfl, rfl, rfl, rfl, rfl, rfl, trivial⟩ ?_
            refine AW.seq_mid (fun ρ H => ∃ (n51 : Nat) (x52 : (List Int)), ρ = [(1, (.ptr n2 0)), (2, (.ptr n3 0)), (3, (.own n51 0 x52.length)), (4, (.ptr n5 0)), (5, (eI64 x16)), (6, (.own n40 0 x41.length)), (7, (eI64 x42)), (8, (eI64 (lget (lget p0.f1 (lget x39 x16)) x42)))] ∧ H = [(n2, (.mem (e50 p0))), (n3, (.mem (.st [(256, (.ar 1 ((Vector.replicate 256 (0 : Int)).toList.map eU8))), (1, (.fl (.slice none 0 0))), (1, (.fl (.slice none 0 0)))]))), (n51, (.mem (.ar 1 (x52.map eI64)))), (n5, (.mem (.st [(256, (.ar 1 (p0.f0.toList.map eU8))), (1, (.own n12 0 x13.length)), (1, (.own n14 0 x15.length))]))), (n12, (.mem (.ar 1 (x13.map e43)))), (n14, (.mem (.ar 1 (x15.map eI64)))), (n40, (.mem (.ar 1 (x41.map eI64))))] ∧ bosketref08_Order_c3 k rec43 p0 x16 x39 x41 x42 x52 = some r) ?_ ?_
            · refine AW.seq ?_
              obtain ⟨b57, hq58, h⟩ := of_bind h
              refine AW.regM [(1, (.ptr n2 0)), (2, (.ptr n3 0)), (3, (.own n38 0 x39.length)), (4, (.ptr n5 0)), (5, (eI64 x16)), (6, (.own n40 0 x41.length)), (7, (eI64 x42)), (8, (eI64 (lget (lget p0.f1 (lget x39 x16)) x42))), (50, (eBool b57))] [(n2, (.mem (e50 p0))), (n3, (.mem (.st [(256, (.ar 1 ((Vector.replicate 256 (0 : Int)).toList.map eU8))), (1, (.fl (.slice none 0 0))), (1, (.fl (.slice none 0 0)))]))), (n38, (.mem (.ar 1 (x39.map eI64)))), (n5, (.mem (.st [(256, (.ar 1 (p0.f0.toList.map eU8))), (1, (.own n12 0 x13.length)), (1, (.own n14 0 x15.length))]))), (n12, (.mem (.ar 1 (x13.map e43)))), (n14, (.mem (.ar 1 (x15.map eI64)))), (n40, (.mem (.ar 1 (x41.map eI64))))] ?_ ?_
              · refine AO.calm rfl 43 rfl (by decide) (eI64 (lget (lget p0.f1 (lget x39 x16)) x42)) (Calm.move rfl rfl) ?_
                refine AO.calm rfl 44 rfl (by decide) (eBool (decide ((0 : Int) ≤ (lget (lget p0.f1 (lget x39 x16)) x42)))) (Calm.int rfl rfl rfl rfl) ?_
                refine AO.calm rfl 45 rfl (by decide) (eBool (decide ((0 : Int) ≤ (lget (lget p0.f1 (lget x39 x16)) x42)))) (Calm.move rfl rfl) ?_
                by_cases hc59 : (0 : Int) ≤ (lget (lget p0.f1 (lget x39 x16)) x42)
                · have hq58 := (if_pos hc59).symm.trans hq58
                  refine AO.calmG 2 true 45 rfl rfl (congrArg (fun b => some (AV.fl (Value.bool b))) (decide_eq_true hc59)) 46 rfl (by decide) (.own n38 0 x39.length) (Calm.move rfl rfl) ?_
                  refine AO.calmG 2 true 45 rfl rfl (congrArg (fun b => some (AV.fl (Value.bool b))) (decide_eq_true hc59)) 47 rfl (by decide) (eI64 (lget (lget p0.f1 (lget x39 x16)) x42)) (Calm.move rfl rfl) ?_
                  obtain ⟨t60, et60, hq58⟩ := of_bind hq58
                  refine AO.calmG 2 true 45 rfl rfl (congrArg (fun b => some (AV.fl (Value.bool b))) (decide_eq_true hc59)) 48 rfl (by decide) (eI64 t60) (Calm.callB (args := [(.fz 1 (x39.map eI64)), (eI64 (lget (lget p0.f1 (lget x39 x16)) x42))]) rfl rfl ok61 ⟨.inr ⟨_, 0, _, _, _, 2, rfl, rfl, by simp, by rw [own_all]⟩, .inl ⟨rfl, rfl⟩, trivial⟩ rfl (bosketref08_place_spec et60)) ?_
                  refine AO.calmG 2 true 45 rfl rfl (congrArg (fun b => some (AV.fl (Value.bool b))) (decide_eq_true hc59)) 49 rfl (by decide) (eBool (decide (t60 < (0 : Int)))) (Calm.int rfl rfl rfl rfl) ?_
                  refine AO.calm rfl 50 rfl (by decide) (eBool (decide (t60 < (0 : Int)))) (Calm.pickT rfl (congrArg (fun b => some (AV.fl (Value.bool b))) (decide_eq_true hc59)) rfl) ?_
                  cases hq58
                  refine AO.nilE ⟨rfl, rfl⟩ ?_ ?_
                  · exact ⟨rfl, rfl, rfl, rfl, rfl, rfl, rfl, rfl, rfl, trivial⟩
                  · exact (Sub.refl _)
                · have hq58 := (if_neg hc59).symm.trans hq58
                  refine AO.skipG 2 false 45 rfl rfl (congrArg (fun b => some (AV.fl (Value.bool b))) (decide_eq_false hc59)) 46 rfl (by decide) ?_
                  refine AO.skipG 2 false 45 rfl rfl (congrArg (fun b => some (AV.fl (Value.bool b))) (decide_eq_false hc59)) 47 rfl (by decide) ?_
                  refine AO.skipG 2 false 45 rfl rfl (congrArg (fun b => some (AV.fl (Value.bool b))) (decide_eq_false hc59)) 48 rfl (by decide) ?_
                  refine AO.skipG 2 false 45 rfl rfl (congrArg (fun b => some (AV.fl (Value.bool b))) (decide_eq_false hc59)) 49 rfl (by decide) ?_
                  refine AO.calm rfl 50 rfl (by decide) (eBool false) (Calm.pickF rfl (congrArg (fun b => some (AV.fl (Value.bool b))) (decide_eq_false hc59)) rfl) ?_
                  cases hq58
                  refine AO.nilE ⟨rfl, rfl⟩ ?_ ?_
                  · exact ⟨rfl, rfl, rfl, rfl, rfl, rfl, rfl, rfl, rfl, trivial⟩
                  · exact (Sub.refl _)
              · by_cases hc61 : b57 = true
                · have h := (if_pos hc61).symm.trans h
                  refine AW.condT' b57 rfl hc61 ?_
                  refine AW.reg ?_
                  refine AO.calm rfl 51 rfl (by decide) (.own n38 0 x39.length) (Calm.move rfl rfl) ?_
                  refine AO.calm rfl 52 rfl (by decide) (eI64 (lget (lget p0.f1 (lget x39 x16)) x42)) (Calm.move rfl rfl) ?_
                  refine AO.lit (Z := (eI64 (0 : Int))) (xs := (([(lget (lget p0.f1 (lget x39 x16)) x42)] : List Int).map eI64)) (qs := [(0, (eI64 (lget (lget p0.f1 (lget x39 x16)) x42)))]) rfl 53 rfl (by decide) rfl ⟨rfl, rfl, rfl, trivial⟩ Try.underlying43 sz3 zr3 lay3 rfl (by decide) (litOK (z := 1) [(eI64 (lget (lget p0.f1 (lget x39 x16)) x42))] rfl ⟨⟨rfl, rfl⟩, trivial⟩) rfl fun n62 => ?_
                  obtain ⟨hg64, h⟩ := of_guard h
                  refine AO.appendL (l := x39) (m := ([(lget (lget p0.f1 (lget x39 x16)) x42)] : List Int)) 3 54 rfl (by decide) rfl rfl rfl rfl rfl (Src.ownL (f := eI64) (l := ([(lget (lget p0.f1 (lget x39 x16)) x42)] : List Int)) 0 rfl) Try.underlying43 Try.underlying43 sz3 by3 zr3 rfl hg64 (by decide) fun n63 => ?_
                  refine AO.calm rfl 3 rfl (by decide) (.own n63 0 (x39 ++ ([(lget (lget p0.f1 (lget x39 x16)) x42)] : List Int)).length) (Calm.assign rfl rfl) ?_
                  refine AO.nil (ρ' := [(1, (.ptr n2 0)), (2, (.ptr n3 0)), (3, (.own n63 0 (x39 ++ ([(lget (lget p0.f1 (lget x39 x16)) x42)] : List Int)).length)), (4, (.ptr n5 0)), (5, (eI64 x16)), (6, (.own n40 0 x41.length)), (7, (eI64 x42)), (8, (eI64 (lget (lget p0.f1 (lget x39 x16)) x42)))]) (H' := [(n2, (.mem (e50 p0))), (n3, (.mem (.st [(256, (.ar 1 ((Vector.replicate 256 (0 : Int)).toList.map eU8))), (1, (.fl (.slice none 0 0))), (1, (.fl (.slice none 0 0)))]))), (n63, (.mem (.ar 1 ((x39 ++ ([(lget (lget p0.f1 (lget x39 x16)) x42)] : List Int)).map eI64)))), (n5, (.mem (.st [(256, (.ar 1 (p0.f0.toList.map eU8))), (1, (.own n12 0 x13.length)), (1, (.own n14 0 x15.length))]))), (n12, (.mem (.ar 1 (x13.map e43)))), (n14, (.mem (.ar 1 (x15.map eI64)))), (n40, (.mem (.ar 1 (x41.map eI64))))]) ⟨rfl, rfl, rfl, rfl, rfl, rfl, rfl, rfl, trivial⟩ (Sub.cons 1 rfl (Sub.cons 1 rfl (Sub.cons 1 rfl (Sub.cons 1 rfl (Sub.cons 1 rfl (Sub.cons 1 rfl (Sub.cons 1 rfl (Sub.nil _)))))))) ?_
                  exact ⟨n63, (x39 ++ ([(lget (lget p0.f1 (lget x39 x16)) x42)] : List Int)), rfl, rfl, h⟩
                · have h := (if_neg hc61).symm.trans h
                  refine AW.condF' b57 rfl hc61 ?_
                  refine AW.skip (ρ' := [(1, (.ptr n2 0)), (2, (.ptr n3 0)), (3, (.own n38 0 x39.length)), (4, (.ptr n5 0)), (5, (eI64 x16)), (6, (.own n40 0 x41.length)), (7, (eI64 x42)), (8, (eI64 (lget (lget p0.f1 (lget x39 x16)) x42)))]) (H' := [(n2, (.mem (e50 p0))), (n3, (.mem (.st [(256, (.ar 1 ((Vector.replicate 256 (0 : Int)).toList.map eU8))), (1, (.fl (.slice none 0 0))), (1, (.fl (.slice none 0 0)))]))), (n38, (.mem (.ar 1 (x39.map eI64)))), (n5, (.mem (.st [(256, (.ar 1 (p0.f0.toList.map eU8))), (1, (.own n12 0 x13.length)), (1, (.own n14 0 x15.length))]))), (n12, (.mem (.ar 1 (x13.map e43)))), (n14, (.mem (.ar 1 (x15.map eI64)))), (n40, (.mem (.ar 1 (x41.map eI64))))]) ⟨rfl, rfl, rfl, rfl, rfl, rfl, rfl, rfl, trivial⟩ (Sub.refl _) ?_
                  exact ⟨n38, x39, rfl, rfl, h⟩
            · rintro _ _ ⟨n51, x52, rfl, rfl, h⟩
              rw [bosketref08_Order_c3.eq_1] at h
              refine AW.reg ?_
              refine AO.calm rfl 55 rfl (by decide) (.own n40 0 x41.length) (Calm.move rfl rfl) ?_
              refine AO.calm rfl 56 rfl (by decide) (.own n51 0 x52.length) (Calm.move rfl rfl) ?_
              refine AO.calm rfl 57 rfl (by decide) (eI64 (lget (lget p0.f1 (lget x39 x16)) x42)) (Calm.move rfl rfl) ?_
              obtain ⟨t53, et53, h⟩ := of_bind h
              refine AO.calm rfl 58 rfl (by decide) (eI64 t53) (Calm.callB (args := [(.fz 1 (x52.map eI64)), (eI64 (lget (lget p0.f1 (lget x39 x16)) x42))]) rfl rfl ok61 ⟨.inr ⟨_, 0, _, _, _, 2, rfl, rfl, by simp, by rw [own_all]⟩, .inl ⟨rfl, rfl⟩, trivial⟩ rfl (bosketref08_place_spec et53)) ?_
              refine AO.lit (Z := (eI64 (0 : Int))) (xs := (([t53] : List Int).map eI64)) (qs := [(0, (eI64 t53))]) rfl 59 rfl (by decide) rfl ⟨rfl, rfl, rfl, trivial⟩ Try.underlying43 sz3 zr3 lay3 rfl (by decide) (litOK (z := 1) [(eI64 t53)] rfl ⟨⟨rfl, rfl⟩, trivial⟩) rfl fun n54 => ?_
              obtain ⟨hg56, h⟩ := of_guard h
              refine AO.appendL (l := x41) (m := ([t53] : List Int)) 7 60 rfl (by decide) rfl rfl rfl rfl rfl (Src.ownL (f := eI64) (l := ([t53] : List Int)) 0 rfl) Try.underlying43 Try.underlying43 sz3 by3 zr3 rfl hg56 (by decide) fun n55 => ?_
              refine AO.calm rfl 6 rfl (by decide) (.own n55 0 (x41 ++ ([t53] : List Int)).length) (Calm.assign rfl rfl) ?_
              refine AO.nil (ρ' := [(1, (.ptr n2 0)), (2, (.ptr n3 0)), (3, (.own n51 0 x52.length)), (4, (.ptr n5 0)), (5, (eI64 x16)), (6, (.own n55 0 (x41 ++ ([t53] : List Int)).length)), (7, (eI64 x42))]) (H' := [(n2, (.mem (e50 p0))), (n3, (.mem (.st [(256, (.ar 1 ((Vector.replicate 256 (0 : Int)).toList.map eU8))), (1, (.fl (.slice none 0 0))), (1, (.fl (.slice none 0 0)))]))), (n51, (.mem (.ar 1 (x52.map eI64)))), (n5, (.mem (.st [(256, (.ar 1 (p0.f0.toList.map eU8))), (1, (.own n12 0 x13.length)), (1, (.own n14 0 x15.length))]))), (n12, (.mem (.ar 1 (x13.map e43)))), (n14, (.mem (.ar 1 (x15.map eI64)))), (n55, (.mem (.ar 1 ((x41 ++ ([t53] : List Int)).map eI64))))]) ⟨rfl, rfl, rfl, rfl, rfl, rfl, rfl, trivial⟩ (Sub.cons 1 rfl (Sub.cons 1 rfl (Sub.cons 1 rfl (Sub.cons 1 rfl (Sub.cons 1 rfl (Sub.cons 1 rfl (Sub.cons 1 rfl (Sub.nil _)))))))) ?_
              refine AW.reg ?_
              refine AO.calm rfl 30 rfl (by decide) (eI64 x42) (Calm.move rfl rfl) ?_
              refine AO.calm rfl 31 rfl (by decide) (eI64 (w64 (x42 + (1 : Int)))) (Calm.int rfl rfl rfl rfl) ?_
              refine AO.calm rfl 7 rfl (by decide) (eI64 (w64 (x42 + (1 : Int)))) (Calm.assign rfl rfl) ?_
              refine AO.nil (ρ' := [(1, (.ptr n2 0)), (2, (.ptr n3 0)), (3, (.own n51 0 x52.length)), (4, (.ptr n5 0)), (5, (eI64 x16)), (6, (.own n55 0 (x41 ++ ([t53] : List Int)).length)), (7, (eI64 (w64 (x42 + (1 : Int)))))]) (H' := [(n2, (.mem (e50 p0))), (n3, (.mem (.st [(256, (.ar 1 ((Vector.replicate 256 (0 : Int)).toList.map eU8))), (1, (.fl (.slice none 0 0))), (1, (.fl (.slice none 0 0)))]))), (n51, (.mem (.ar 1 (x52.map eI64)))), (n5, (.mem (.st [(256, (.ar 1 (p0.f0.toList.map eU8))), (1, (.own n12 0 x13.length)), (1, (.own n14 0 x15.length))]))), (n12, (.mem (.ar 1 (x13.map e43)))), (n14, (.mem (.ar 1 (x15.map eI64)))), (n55, (.mem (.ar 1 ((x41 ++ ([t53] : List Int)).map eI64))))]) ⟨rfl, rfl, rfl, rfl, rfl, rfl, rfl, trivial⟩ (Sub.refl _) ?_
              exact ⟨kq44, Nat.lt_succ_self _, n51, n55, x52, (x41 ++ ([t53] : List Int)), (w64 (x42 + (1 : Int))), rfl, rfl, by rw [hrec43]; exact h⟩
          · have h := (if_neg hc47).symm.trans h
            refine AW.condN (x42 < ((lget p0.f1 (lget x39 x16)).length : Int)) rfl hc47 ?_
            refine AW.exit (ρ' := [(1, (.ptr n2 0)), (2, (.ptr n3 0)), (3, (.own n38 0 x39.length)), (4, (.ptr n5 0)), (5, (eI64 x16)), (6, (.own n40 0 x41.length))]) (H' := [(n2, (.mem (e50 p0))), (n3, (.mem (.st [(256, (.ar 1 ((Vector.replicate 256 (0 : Int)).toList.map eU8))), (1, (.fl (.slice none 0 0))), (1, (.fl (.slice none 0 0)))]))), (n38, (.mem (.ar 1 (x39.map eI64)))), (n5, (.mem (.st [(256, (.ar 1 (p0.f0.toList.map eU8))), (1, (.own n12 0 x13.length)), (1, (.own n14 0 x15.length))]))), (n12, (.mem (.ar 1 (x13.map e43)))), (n14, (.mem (.ar 1 (x15.map eI64)))), (n40, (.mem (.ar 1 (x41.map eI64))))]) ⟨rfl, rfl, rfl, rfl, rfl, rfl, trivial⟩ (Sub.refl _) ?_
            exact ⟨n38, n40, x39, x41, rfl, rfl, h⟩
        · rintro _ _ ⟨n26, n28, x27, x29, rfl, rfl, h⟩
          rw [bosketref08_Order_c2.eq_1] at h
          refine AW.seq ?_
          refine AW.reg ?_
          refine AO.calm rfl 61 rfl (by decide) (.ptr n5 256) (Calm.fldPtr rfl rfl Try.underlying50 rfl sz48 _ rfl) ?_
          refine AO.calm rfl 62 rfl (by decide) (.own n12 0 x13.length) (Calm.load 3 rfl rfl rfl (At.cast (At.fldS (At.fld0 At.here)) rfl) ag48 sz48) ?_
          refine AO.calm rfl 63 rfl (by decide) (.own n28 0 x29.length) (Calm.move rfl rfl) ?_
          refine AO.freezeS 6 [(6, (.fz 1 (x29.map eI64))), (63, (.fz 1 (x29.map eI64)))] rfl ⟨fz_all rfl, fz_all rfl, trivial⟩ ?_
          refine AO.lit (Z := (.fl (.slice none 0 0))) (xs := (([x29] : List (List Int)).map e43)) (qs := [(0, (.fz 1 (x29.map eI64)))]) rfl 64 rfl (by decide) rfl ⟨rfl, rfl, rfl, trivial⟩ Try.underlying48 sz43 zr43 lay43 rfl (by decide) (litOK (z := 1) [(.fz 1 (x29.map eI64))] rfl ⟨⟨rfl, rfl⟩, trivial⟩) rfl fun n30 => ?_
          obtain ⟨hg32, h⟩ := of_guard h
          refine AO.appendL (l := x13) (m := ([x29] : List (List Int))) 5 65 rfl (by decide) rfl rfl rfl rfl rfl (Src.ownL (f := e43) (l := ([x29] : List (List Int))) 0 rfl) Try.underlying48 Try.underlying48 sz43 by43 zr43 rfl hg32 (by decide) fun n31 => ?_
          refine AO.calm rfl 66 rfl (by decide) (.ptr n5 256) (Calm.fldPtr rfl rfl Try.underlying50 rfl sz48 _ rfl) ?_
          refine AO.store (X' := (.st [(256, (.ar 1 (p0.f0.toList.map eU8))), (1, (.own n31 0 (x13 ++ ([x29] : List (List Int))).length)), (1, (.own n14 0 x15.length))])) 4 rfl rfl rfl rfl rfl rfl (Put.cast (Put.fldS (Put.fld0 Put.here)) rfl) rfl rfl sz48 rfl ?_
          refine AO.nil (ρ' := [(1, (.ptr n2 0)), (2, (.ptr n3 0)), (3, (.own n26 0 x27.length)), (4, (.ptr n5 0)), (5, (eI64 x16))]) (H' := [(n2, (.mem (e50 p0))), (n3, (.mem (.st [(256, (.ar 1 ((Vector.replicate 256 (0 : Int)).toList.map eU8))), (1, (.fl (.slice none 0 0))), (1, (.fl (.slice none 0 0)))]))), (n26, (.mem (.ar 1 (x27.map eI64)))), (n5, (.mem (.st [(256, (.ar 1 (p0.f0.toList.map eU8))), (1, (.own n31 0 (x13 ++ ([x29] : List (List Int))).length)), (1, (.own n14 0 x15.length))]))), (n31, (.mem (.ar 1 ((x13 ++ ([x29] : List (List Int))).map e43)))), (n14, (.mem (.ar 1 (x15.map eI64))))]) ⟨rfl, rfl, rfl, rfl, rfl, trivial⟩ (Sub.cons 1 rfl (Sub.cons 1 rfl (Sub.cons 1 rfl (Sub.cons 1 rfl (Sub.cons 1 rfl (Sub.cons 1 rfl (Sub.nil _))))))) ?_
          obtain ⟨hg33, h⟩ := of_guard h
          obtain ⟨hg34, h⟩ := of_guard h
          obtain ⟨hg37, h⟩ := of_guard h
          refine AW.regEff (by rfl) (by decide +kernel) (fun (σ : Nat → Nat) => ([(.ptr n5 257), (.own n14 0 x15.length), (.ptr n2 257), (.fz 1 (p0.f2.map eI64)), (.own n26 0 x27.length), (eI64 x16), (.ptr n26 (x16.toNat * 1 + 0)), (eI64 (lget x27 x16)), (.rp (eI64 (lget p0.f2 (lget x27 x16)))), (eI64 (lget p0.f2 (lget x27 x16))), (.fz 1 (([(lget p0.f2 (lget x27 x16))] : List Int).map eI64)), (.own (σ 11) 0 (x15 ++ ([(lget p0.f2 (lget x27 x16))] : List Int)).length), (.ptr n5 257), (.fl undef)] : List AV)) (fun (L : Nat → Bool) (σ : Nat → Nat) => ((n2, (.mem (e50 p0))) :: (n3, (.mem (.st [(256, (.ar 1 ((Vector.replicate 256 (0 : Int)).toList.map eU8))), (1, (.fl (.slice none 0 0))), (1, (.fl (.slice none 0 0)))]))) :: (n26, (.mem (.ar 1 (x27.map eI64)))) :: (n31, (.mem (.ar 1 ((x13 ++ ([x29] : List (List Int))).map e43)))) :: (bif L 11 then (bif L 13 then ((n5, (.mem (.st [(256, (.ar 1 (p0.f0.toList.map eU8))), (1, (.own n31 0 (x13 ++ ([x29] : List (List Int))).length)), (1, (.own (σ 11) 0 (x15 ++ ([(lget p0.f2 (lget x27 x16))] : List Int)).length))]))) :: ((σ 11), (.mem (.ar 1 ((x15 ++ ([(lget p0.f2 (lget x27 x16))] : List Int)).map eI64)))) :: []) else ((n5, (.mem (.st [(256, (.ar 1 (p0.f0.toList.map eU8))), (1, (.own n31 0 (x13 ++ ([x29] : List (List Int))).length)), (1, (.own n14 0 x15.length))]))) :: ((σ 11), (.mem (.ar 1 ((x15 ++ ([(lget p0.f2 (lget x27 x16))] : List Int)).map eI64)))) :: [])) else ((n5, (.mem (.st [(256, (.ar 1 (p0.f0.toList.map eU8))), (1, (.own n31 0 (x13 ++ ([x29] : List (List Int))).length)), (1, (.own n14 0 x15.length))]))) :: (n14, (.mem (.ar 1 (x15.map eI64)))) :: [])) : Heap)) [(1, (.ptr n2 0)), (2, (.ptr n3 0)), (3, (.own n26 0 x27.length)), (4, (.ptr n5 0)), (5, (eI64 x16))] ⟨rfl, rfl, rfl, rfl, rfl, trivial⟩ (fun _ => rfl) (fun σ => (Sub.cons 0 rfl (Sub.cons 0 rfl (Sub.cons 0 rfl (Sub.cons 1 rfl (Sub.cons 0 rfl (Sub.cons 0 rfl (Sub.refl _)))))))) ⟨?_, ?_, ?_, ?_, ?_, ?_, ?_, ?_, ?_, ?_, ?_, ?_, ?_, ?_, trivial⟩ (fun σ => [(1, (.ptr n2 0)), (2, (.ptr n3 0)), (3, (.own n26 0 x27.length)), (4, (.ptr n5 0)), (5, (eI64 x16))]) (fun σ => ((n2, (.mem (e50 p0))) :: (n3, (.mem (.st [(256, (.ar 1 ((Vector.replicate 256 (0 : Int)).toList.map eU8))), (1, (.fl (.slice none 0 0))), (1, (.fl (.slice none 0 0)))]))) :: (n26, (.mem (.ar 1 (x27.map eI64)))) :: (n31, (.mem (.ar 1 ((x13 ++ ([x29] : List (List Int))).map e43)))) :: (n5, (.mem (.st [(256, (.ar 1 (p0.f0.toList.map eU8))), (1, (.own n31 0 (x13 ++ ([x29] : List (List Int))).length)), (1, (.own (σ 11) 0 (x15 ++ ([(lget p0.f2 (lget x27 x16))] : List Int)).length))]))) :: ((σ 11), (.mem (.ar 1 ((x15 ++ ([(lget p0.f2 (lget x27 x16))] : List Int)).map eI64)))) :: [])) (fun σ => ⟨rfl, rfl, rfl, rfl, rfl, trivial⟩) (fun σ => Sub.refl _) (fun σ => ?_)
          · refine StepE.calm (fun _ _ => rfl) fun L σ hc hi hd => ?_
            have m1 : L 1 = false := hc.neg (i := 0) (j := 1) rfl (by rfl) hi
            have m11 : L 11 = false := hc.neg (i := 1) (j := 11) rfl (by rfl) m1
            have m13 : L 13 = false := hc.neg (i := 0) (j := 13) rfl (by rfl) hi
            refine AO.heq (H' := ((n2, (.mem (e50 p0))) :: (n3, (.mem (.st [(256, (.ar 1 ((Vector.replicate 256 (0 : Int)).toList.map eU8))), (1, (.fl (.slice none 0 0))), (1, (.fl (.slice none 0 0)))]))) :: (n26, (.mem (.ar 1 (x27.map eI64)))) :: (n31, (.mem (.ar 1 ((x13 ++ ([x29] : List (List Int))).map e43)))) :: (n5, (.mem (.st [(256, (.ar 1 (p0.f0.toList.map eU8))), (1, (.own n31 0 (x13 ++ ([x29] : List (List Int))).length)), (1, (.own n14 0 x15.length))]))) :: (n14, (.mem (.ar 1 (x15.map eI64)))) :: [])) (by first | rfl | simp only [m11, m13, cond_true, cond_false]) ?_
            refine AO.weak (ρ' := [(4, (.ptr n5 0))]) (H' := ((n2, (.mem (e50 p0))) :: (n3, (.mem (.st [(256, (.ar 1 ((Vector.replicate 256 (0 : Int)).toList.map eU8))), (1, (.fl (.slice none 0 0))), (1, (.fl (.slice none 0 0)))]))) :: (n26, (.mem (.ar 1 (x27.map eI64)))) :: (n31, (.mem (.ar 1 ((x13 ++ ([x29] : List (List Int))).map e43)))) :: (n5, (.mem (.st [(256, (.ar 1 (p0.f0.toList.map eU8))), (1, (.own n31 0 (x13 ++ ([x29] : List (List Int))).length)), (1, (.own n14 0 x15.length))]))) :: (n14, (.mem (.ar 1 (x15.map eI64)))) :: [])) ⟨rfl, trivial⟩ (Sub.refl _) ?_
            refine AO.calm rfl 67 rfl (by decide) (.ptr n5 257) (Calm.fldPtr rfl rfl Try.underlying50 rfl sz43 _ rfl) ?_
            exact AO.nilE (ρ' := [(67, (.ptr n5 257))]) ⟨⟨67, _, rfl, rfl, rfl⟩, Sub.of_eq (by first | rfl | simp only [m11, m13, cond_true, cond_false]) (Sub.refl _)⟩ ⟨rfl, trivial⟩ (Sub.refl _)
          · refine StepE.calm (fun _ _ => rfl) fun L σ hc hi hd => ?_
            have m11 : L 11 = false := hc.neg (i := 1) (j := 11) rfl (by rfl) hi
            have m13 : L 13 = false := hc.neg (i := 1) (j := 13) rfl (by rfl) hi
            refine AO.heq (H' := ((n2, (.mem (e50 p0))) :: (n3, (.mem (.st [(256, (.ar 1 ((Vector.replicate 256 (0 : Int)).toList.map eU8))), (1, (.fl (.slice none 0 0))), (1, (.fl (.slice none 0 0)))]))) :: (n26, (.mem (.ar 1 (x27.map eI64)))) :: (n31, (.mem (.ar 1 ((x13 ++ ([x29] : List (List Int))).map e43)))) :: (n5, (.mem (.st [(256, (.ar 1 (p0.f0.toList.map eU8))), (1, (.own n31 0 (x13 ++ ([x29] : List (List Int))).length)), (1, (.own n14 0 x15.length))]))) :: (n14, (.mem (.ar 1 (x15.map eI64)))) :: [])) (by first | rfl | simp only [m11, m13, cond_true, cond_false]) ?_
            refine AO.weak (ρ' := [(67, (.ptr n5 257))]) (H' := ((n2, (.mem (e50 p0))) :: (n3, (.mem (.st [(256, (.ar 1 ((Vector.replicate 256 (0 : Int)).toList.map eU8))), (1, (.fl (.slice none 0 0))), (1, (.fl (.slice none 0 0)))]))) :: (n26, (.mem (.ar 1 (x27.map eI64)))) :: (n31, (.mem (.ar 1 ((x13 ++ ([x29] : List (List Int))).map e43)))) :: (n5, (.mem (.st [(256, (.ar 1 (p0.f0.toList.map eU8))), (1, (.own n31 0 (x13 ++ ([x29] : List (List Int))).length)), (1, (.own n14 0 x15.length))]))) :: (n14, (.mem (.ar 1 (x15.map eI64)))) :: [])) ⟨rfl, trivial⟩ (Sub.refl _) ?_
            refine AO.calm rfl 68 rfl (by decide) (.own n14 0 x15.length) (Calm.load 4 rfl rfl rfl (At.cast (At.fldS (At.fldS (At.fld0 At.here))) rfl) ag43 sz43) ?_
            exact AO.nilE (ρ' := [(68, (.own n14 0 x15.length))]) ⟨⟨68, _, rfl, rfl, rfl⟩, Sub.of_eq (by first | rfl | simp only [m11, m13, cond_true, cond_false]) (Sub.refl _)⟩ ⟨rfl, trivial⟩ (Sub.refl _)
          · refine StepE.calm (fun _ _ => rfl) fun L σ hc hi hd => ?_
            refine AO.weak (ρ' := [(1, (.ptr n2 0))]) ⟨rfl, trivial⟩ (Sub.refl _) ?_
            refine AO.calm rfl 69 rfl (by decide) (.ptr n2 257) (Calm.fldPtr rfl rfl Try.underlying50 rfl sz43 _ rfl) ?_
            exact AO.nilE (ρ' := [(69, (.ptr n2 257))]) ⟨⟨69, _, rfl, rfl, rfl⟩, Sub.refl _⟩ ⟨rfl, trivial⟩ (Sub.refl _)
          · refine StepE.calm (fun _ _ => rfl) fun L σ hc hi hd => ?_
            refine AO.weak (ρ' := [(69, (.ptr n2 257))]) ⟨rfl, trivial⟩ (Sub.refl _) ?_
            refine AO.calm rfl 70 rfl (by decide) (.fz 1 (p0.f2.map eI64)) (Calm.load 0 rfl rfl rfl (At.cast (At.fldS (At.fldS (At.fld0 At.here))) rfl) ag43 sz43) ?_
            exact AO.nilE (ρ' := [(70, (.fz 1 (p0.f2.map eI64)))]) ⟨⟨70, _, rfl, rfl, rfl⟩, Sub.refl _⟩ ⟨rfl, trivial⟩ (Sub.refl _)
          · refine StepE.calm (fun _ _ => rfl) fun L σ hc hi hd => ?_
            refine AO.weak (ρ' := [(3, (.own n26 0 x27.length))]) ⟨rfl, trivial⟩ (Sub.refl _) ?_
            refine AO.calm rfl 71 rfl (by decide) (.own n26 0 x27.length) (Calm.move rfl rfl) ?_
            exact AO.nilE (ρ' := [(71, (.own n26 0 x27.length))]) ⟨⟨71, _, rfl, rfl, rfl⟩, Sub.refl _⟩ ⟨rfl, trivial⟩ (Sub.refl _)
          · refine StepE.calm (fun _ _ => rfl) fun L σ hc hi hd => ?_
            refine AO.weak (ρ' := [(5, (eI64 x16))]) ⟨rfl, trivial⟩ (Sub.refl _) ?_
            refine AO.calm rfl 72 rfl (by decide) (eI64 x16) (Calm.move rfl rfl) ?_
            exact AO.nilE (ρ' := [(72, (eI64 x16))]) ⟨⟨72, _, rfl, rfl, rfl⟩, Sub.refl _⟩ ⟨rfl, trivial⟩ (Sub.refl _)
          · refine StepE.calm (fun _ _ => rfl) fun L σ hc hi hd => ?_
            refine AO.weak (ρ' := [(71, (.own n26 0 x27.length)), (72, (eI64 x16))]) ⟨rfl, rfl, trivial⟩ (Sub.refl _) ?_
            refine AO.calm rfl 73 rfl (by decide) (.ptr n26 (x16.toNat * 1 + 0)) (Calm.idxO 2 rfl rfl rfl rfl hg33 Try.underlying43 sz3) ?_
            exact AO.nilE (ρ' := [(73, (.ptr n26 (x16.toNat * 1 + 0)))]) ⟨⟨73, _, rfl, rfl, rfl⟩, Sub.refl _⟩ ⟨rfl, trivial⟩ (Sub.refl _)
          · refine StepE.calm (fun _ _ => rfl) fun L σ hc hi hd => ?_
            refine AO.weak (ρ' := [(73, (.ptr n26 (x16.toNat * 1 + 0)))]) ⟨rfl, trivial⟩ (Sub.refl _) ?_
            refine AO.calm rfl 74 rfl (by decide) (eI64 (lget x27 x16)) (Calm.load 2 rfl rfl rfl (At.cast (At.lidx x16 hg33.1 hg33.2 At.here) (by omega)) ag3 sz3) ?_
            exact AO.nilE (ρ' := [(74, (eI64 (lget x27 x16)))]) ⟨⟨74, _, rfl, rfl, rfl⟩, Sub.refl _⟩ ⟨rfl, trivial⟩ (Sub.refl _)
          · refine StepE.calm (fun _ _ => rfl) fun L σ hc hi hd => ?_
            refine AO.weak (ρ' := [(70, (.fz 1 (p0.f2.map eI64))), (74, (eI64 (lget x27 x16)))]) ⟨rfl, rfl, trivial⟩ (Sub.refl _) ?_
            refine AO.calm rfl 75 rfl (by decide) (.rp (eI64 (lget p0.f2 (lget x27 x16)))) (Calm.idxL (f := eI64) rfl rfl rfl hg34 Try.underlying43 sz3) ?_
            exact AO.nilE (ρ' := [(75, (.rp (eI64 (lget p0.f2 (lget x27 x16)))))]) ⟨⟨75, _, rfl, rfl, rfl⟩, Sub.refl _⟩ ⟨rfl, trivial⟩ (Sub.refl _)
          · refine StepE.calm (fun _ _ => rfl) fun L σ hc hi hd => ?_
            refine AO.weak (ρ' := [(75, (.rp (eI64 (lget p0.f2 (lget x27 x16)))))]) ⟨rfl, trivial⟩ (Sub.refl _) ?_
            refine AO.calm rfl 76 rfl (by decide) (eI64 (lget p0.f2 (lget x27 x16))) (Calm.loadRp rfl rfl ag3 sz3) ?_
            exact AO.nilE (ρ' := [(76, (eI64 (lget p0.f2 (lget x27 x16))))]) ⟨⟨76, _, rfl, rfl, rfl⟩, Sub.refl _⟩ ⟨rfl, trivial⟩ (Sub.refl _)
          · refine StepE.calm (fun _ _ => rfl) fun L σ hc hi hd => ?_
            refine AO.weak (ρ' := [(76, (eI64 (lget p0.f2 (lget x27 x16))))]) ⟨rfl, trivial⟩ (Sub.refl _) ?_
            refine AO.lit (Z := (eI64 (0 : Int))) (xs := (([(lget p0.f2 (lget x27 x16))] : List Int).map eI64)) (qs := [(0, (eI64 (lget p0.f2 (lget x27 x16))))]) rfl 77 rfl (by decide) rfl ⟨rfl, rfl, rfl, trivial⟩ Try.underlying43 sz3 zr3 lay3 rfl (by decide) (litOK (z := 1) [(eI64 (lget p0.f2 (lget x27 x16)))] rfl ⟨⟨rfl, rfl⟩, trivial⟩) rfl fun n35 => ?_
            refine AO.freezeS 0 [(77, (.fz 1 (([(lget p0.f2 (lget x27 x16))] : List Int).map eI64)))] rfl ⟨fz_all rfl, trivial⟩ ?_
            exact AO.nilE (ρ' := [(77, (.fz 1 (([(lget p0.f2 (lget x27 x16))] : List Int).map eI64)))]) ⟨⟨77, _, rfl, rfl, rfl⟩, Sub.refl _⟩ ⟨rfl, trivial⟩ (Sub.refl _)
          · intro L σ hc hi hd
            have m13 : L 13 = false := hc.neg (i := 11) (j := 13) rfl (by rfl) hi
            refine AO.heq (H' := ((n2, (.mem (e50 p0))) :: (n3, (.mem (.st [(256, (.ar 1 ((Vector.replicate 256 (0 : Int)).toList.map eU8))), (1, (.fl (.slice none 0 0))), (1, (.fl (.slice none 0 0)))]))) :: (n26, (.mem (.ar 1 (x27.map eI64)))) :: (n31, (.mem (.ar 1 ((x13 ++ ([x29] : List (List Int))).map e43)))) :: (n5, (.mem (.st [(256, (.ar 1 (p0.f0.toList.map eU8))), (1, (.own n31 0 (x13 ++ ([x29] : List (List Int))).length)), (1, (.own n14 0 x15.length))]))) :: (n14, (.mem (.ar 1 (x15.map eI64)))) :: [])) (by first | rfl | simp only [hi, m13, cond_true, cond_false]) ?_
            refine AO.weak (ρ' := [(68, (.own n14 0 x15.length)), (77, (.fz 1 (([(lget p0.f2 (lget x27 x16))] : List Int).map eI64)))]) (H' := ((n2, (.mem (e50 p0))) :: (n3, (.mem (.st [(256, (.ar 1 ((Vector.replicate 256 (0 : Int)).toList.map eU8))), (1, (.fl (.slice none 0 0))), (1, (.fl (.slice none 0 0)))]))) :: (n26, (.mem (.ar 1 (x27.map eI64)))) :: (n31, (.mem (.ar 1 ((x13 ++ ([x29] : List (List Int))).map e43)))) :: (n5, (.mem (.st [(256, (.ar 1 (p0.f0.toList.map eU8))), (1, (.own n31 0 (x13 ++ ([x29] : List (List Int))).length)), (1, (.own n14 0 x15.length))]))) :: (n14, (.mem (.ar 1 (x15.map eI64)))) :: [])) ⟨rfl, rfl, trivial⟩ (Sub.refl _) ?_
            refine AO.appendL (l := x15) (m := ([(lget p0.f2 (lget x27 x16))] : List Int)) 5 78 rfl (by decide) rfl rfl rfl rfl rfl Src.fz Try.underlying43 Try.underlying43 sz3 by3 zr3 rfl hg37 (by decide) fun n36 => ?_
            have a11 : addL L 11 11 = true := rfl
            have a13 : addL L 11 13 = false := m13
            have u11 : upd σ 11 n36 11 = n36 := rfl
            exact AO.nilE (ρ' := [(78, (.own n36 0 (x15 ++ ([(lget p0.f2 (lget x27 x16))] : List Int)).length))]) (H' := ((n2, (.mem (e50 p0))) :: (n3, (.mem (.st [(256, (.ar 1 ((Vector.replicate 256 (0 : Int)).toList.map eU8))), (1, (.fl (.slice none 0 0))), (1, (.fl (.slice none 0 0)))]))) :: (n26, (.mem (.ar 1 (x27.map eI64)))) :: (n31, (.mem (.ar 1 ((x13 ++ ([x29] : List (List Int))).map e43)))) :: (n5, (.mem (.st [(256, (.ar 1 (p0.f0.toList.map eU8))), (1, (.own n31 0 (x13 ++ ([x29] : List (List Int))).length)), (1, (.own n14 0 x15.length))]))) :: (n36, (.mem (.ar 1 ((x15 ++ ([(lget p0.f2 (lget x27 x16))] : List Int)).map eI64)))) :: [])) ⟨(upd σ 11 n36), (fun j hj => match j, hj with | 0, _ => rfl | 1, _ => rfl | 2, _ => rfl | 3, _ => rfl | 4, _ => rfl | 5, _ => rfl | 6, _ => rfl | 7, _ => rfl | 8, _ => rfl | 9, _ => rfl | 10, _ => rfl | 11, hj => Bool.noConfusion (hj.symm.trans hi) | 12, _ => rfl | 13, _ => rfl | _ + 14, _ => rfl), (fun d' hd' => ⟨_, rfl, by cases hd'; rfl⟩), Sub.of_eq (B := ((n2, (.mem (e50 p0))) :: (n3, (.mem (.st [(256, (.ar 1 ((Vector.replicate 256 (0 : Int)).toList.map eU8))), (1, (.fl (.slice none 0 0))), (1, (.fl (.slice none 0 0)))]))) :: (n26, (.mem (.ar 1 (x27.map eI64)))) :: (n31, (.mem (.ar 1 ((x13 ++ ([x29] : List (List Int))).map e43)))) :: (n5, (.mem (.st [(256, (.ar 1 (p0.f0.toList.map eU8))), (1, (.own n31 0 (x13 ++ ([x29] : List (List Int))).length)), (1, (.own n14 0 x15.length))]))) :: (n36, (.mem (.ar 1 ((x15 ++ ([(lget p0.f2 (lget x27 x16))] : List Int)).map eI64)))) :: [])) (by simp only [a11, a13, u11, cond_true, cond_false]) (Sub.refl _)⟩ ⟨rfl, trivial⟩ (Sub.refl _)
          · refine StepE.calm (fun _ _ => rfl) fun L σ hc hi hd => ?_
            have y11 : L 11 = true := on_get hd (i := 11) (by rfl)
            have m13 : L 13 = false := hc.neg (i := 12) (j := 13) rfl (by rfl) hi
            refine AO.heq (H' := ((n2, (.mem (e50 p0))) :: (n3, (.mem (.st [(256, (.ar 1 ((Vector.replicate 256 (0 : Int)).toList.map eU8))), (1, (.fl (.slice none 0 0))), (1, (.fl (.slice none 0 0)))]))) :: (n26, (.mem (.ar 1 (x27.map eI64)))) :: (n31, (.mem (.ar 1 ((x13 ++ ([x29] : List (List Int))).map e43)))) :: (n5, (.mem (.st [(256, (.ar 1 (p0.f0.toList.map eU8))), (1, (.own n31 0 (x13 ++ ([x29] : List (List Int))).length)), (1, (.own n14 0 x15.length))]))) :: ((σ 11), (.mem (.ar 1 ((x15 ++ ([(lget p0.f2 (lget x27 x16))] : List Int)).map eI64)))) :: [])) (by first | rfl | simp only [y11, m13, cond_true, cond_false]) ?_
            refine AO.weak (ρ' := [(4, (.ptr n5 0))]) (H' := ((n2, (.mem (e50 p0))) :: (n3, (.mem (.st [(256, (.ar 1 ((Vector.replicate 256 (0 : Int)).toList.map eU8))), (1, (.fl (.slice none 0 0))), (1, (.fl (.slice none 0 0)))]))) :: (n26, (.mem (.ar 1 (x27.map eI64)))) :: (n31, (.mem (.ar 1 ((x13 ++ ([x29] : List (List Int))).map e43)))) :: (n5, (.mem (.st [(256, (.ar 1 (p0.f0.toList.map eU8))), (1, (.own n31 0 (x13 ++ ([x29] : List (List Int))).length)), (1, (.own n14 0 x15.length))]))) :: ((σ 11), (.mem (.ar 1 ((x15 ++ ([(lget p0.f2 (lget x27 x16))] : List Int)).map eI64)))) :: [])) ⟨rfl, trivial⟩ (Sub.refl _) ?_
            refine AO.calm rfl 79 rfl (by decide) (.ptr n5 257) (Calm.fldPtr rfl rfl Try.underlying50 rfl sz43 _ rfl) ?_
            exact AO.nilE (ρ' := [(79, (.ptr n5 257))]) ⟨⟨79, _, rfl, rfl, rfl⟩, Sub.of_eq (by first | rfl | simp only [y11, m13, cond_true, cond_false]) (Sub.refl _)⟩ ⟨rfl, trivial⟩ (Sub.refl _)
          · intro L σ hc hi hd
            have y11 : L 11 = true := on_get hd (i := 11) (by rfl)
            refine AO.heq (H' := ((n2, (.mem (e50 p0))) :: (n3, (.mem (.st [(256, (.ar 1 ((Vector.replicate 256 (0 : Int)).toList.map eU8))), (1, (.fl (.slice none 0 0))), (1, (.fl (.slice none 0 0)))]))) :: (n26, (.mem (.ar 1 (x27.map eI64)))) :: (n31, (.mem (.ar 1 ((x13 ++ ([x29] : List (List Int))).map e43)))) :: (n5, (.mem (.st [(256, (.ar 1 (p0.f0.toList.map eU8))), (1, (.own n31 0 (x13 ++ ([x29] : List (List Int))).length)), (1, (.own n14 0 x15.length))]))) :: ((σ 11), (.mem (.ar 1 ((x15 ++ ([(lget p0.f2 (lget x27 x16))] : List Int)).map eI64)))) :: [])) (by first | rfl | simp only [hi, y11, cond_true, cond_false]) ?_
            refine AO.weak (ρ' := [(78, (.own (σ 11) 0 (x15 ++ ([(lget p0.f2 (lget x27 x16))] : List Int)).length)), (79, (.ptr n5 257))]) (H' := ((n2, (.mem (e50 p0))) :: (n3, (.mem (.st [(256, (.ar 1 ((Vector.replicate 256 (0 : Int)).toList.map eU8))), (1, (.fl (.slice none 0 0))), (1, (.fl (.slice none 0 0)))]))) :: (n26, (.mem (.ar 1 (x27.map eI64)))) :: (n31, (.mem (.ar 1 ((x13 ++ ([x29] : List (List Int))).map e43)))) :: (n5, (.mem (.st [(256, (.ar 1 (p0.f0.toList.map eU8))), (1, (.own n31 0 (x13 ++ ([x29] : List (List Int))).length)), (1, (.own n14 0 x15.length))]))) :: ((σ 11), (.mem (.ar 1 ((x15 ++ ([(lget p0.f2 (lget x27 x16))] : List Int)).map eI64)))) :: [])) ⟨rfl, rfl, trivial⟩ (Sub.refl _) ?_
            refine AO.store (X' := (.st [(256, (.ar 1 (p0.f0.toList.map eU8))), (1, (.own n31 0 (x13 ++ ([x29] : List (List Int))).length)), (1, (.own (σ 11) 0 (x15 ++ ([(lget p0.f2 (lget x27 x16))] : List Int)).length))])) 4 rfl rfl rfl rfl rfl rfl (Put.cast (Put.fldS (Put.fldS (Put.fld0 Put.here))) rfl) rfl rfl sz43 rfl ?_
            have a11 : addL L 13 11 = true := y11
            have a13 : addL L 13 13 = true := rfl
            exact AO.nilE (ρ' := []) (H' := ((n2, (.mem (e50 p0))) :: (n3, (.mem (.st [(256, (.ar 1 ((Vector.replicate 256 (0 : Int)).toList.map eU8))), (1, (.fl (.slice none 0 0))), (1, (.fl (.slice none 0 0)))]))) :: (n26, (.mem (.ar 1 (x27.map eI64)))) :: (n31, (.mem (.ar 1 ((x13 ++ ([x29] : List (List Int))).map e43)))) :: (n5, (.mem (.st [(256, (.ar 1 (p0.f0.toList.map eU8))), (1, (.own n31 0 (x13 ++ ([x29] : List (List Int))).length)), (1, (.own (σ 11) 0 (x15 ++ ([(lget p0.f2 (lget x27 x16))] : List Int)).length))]))) :: ((σ 11), (.mem (.ar 1 ((x15 ++ ([(lget p0.f2 (lget x27 x16))] : List Int)).map eI64)))) :: [])) ⟨σ, (fun _ _ => rfl), (fun d' hd' => by cases hd'), Sub.of_eq (B := ((n2, (.mem (e50 p0))) :: (n3, (.mem (.st [(256, (.ar 1 ((Vector.replicate 256 (0 : Int)).toList.map eU8))), (1, (.fl (.slice none 0 0))), (1, (.fl (.slice none 0 0)))]))) :: (n26, (.mem (.ar 1 (x27.map eI64)))) :: (n31, (.mem (.ar 1 ((x13 ++ ([x29] : List (List Int))).map e43)))) :: (n5, (.mem (.st [(256, (.ar 1 (p0.f0.toList.map eU8))), (1, (.own n31 0 (x13 ++ ([x29] : List (List Int))).length)), (1, (.own (σ 11) 0 (x15 ++ ([(lget p0.f2 (lget x27 x16))] : List Int)).length))]))) :: ((σ 11), (.mem (.ar 1 ((x15 ++ ([(lget p0.f2 (lget x27 x16))] : List Int)).map eI64)))) :: [])) (by simp only [a11, a13, cond_true, cond_false]) (Sub.refl _)⟩ trivial (Sub.refl _)
          · generalize σ 11 = n36
            refine AO.nil (ρ' := [(1, (.ptr n2 0)), (2, (.ptr n3 0)), (3, (.own n26 0 x27.length)), (4, (.ptr n5 0)), (5, (eI64 x16))]) (H' := [(n2, (.mem (e50 p0))), (n3, (.mem (.st [(256, (.ar 1 ((Vector.replicate 256 (0 : Int)).toList.map eU8))), (1, (.fl (.slice none 0 0))), (1, (.fl (.slice none 0 0)))]))), (n26, (.mem (.ar 1 (x27.map eI64)))), (n5, (.mem (.st [(256, (.ar 1 (p0.f0.toList.map eU8))), (1, (.own n31 0 (x13 ++ ([x29] : List (List Int))).length)), (1, (.own n36 0 (x15 ++ ([(lget p0.f2 (lget x27 x16))] : List Int)).length))]))), (n31, (.mem (.ar 1 ((x13 ++ ([x29] : List (List Int))).map e43)))), (n36, (.mem (.ar 1 ((x15 ++ ([(lget p0.f2 (lget x27 x16))] : List Int)).map eI64))))]) ⟨rfl, rfl, rfl, rfl, rfl, trivial⟩ (Sub.cons 0 rfl (Sub.cons 0 rfl (Sub.cons 0 rfl (Sub.cons 1 rfl (Sub.cons 0 rfl (Sub.cons 0 rfl (Sub.nil _))))))) ?_
            exact ⟨n26, n31, n36, x27, (x13 ++ ([x29] : List (List Int))), (x15 ++ ([(lget p0.f2 (lget x27 x16))] : List Int)), rfl, rfl, h⟩
      · rintro _ _ ⟨n20, n22, n24, x21, x23, x25, rfl, rfl, h⟩
        rw [bosketref08_Order_c1.eq_1] at h
        refine AW.reg ?_
        refine AO.calm rfl 17 rfl (by decide) (eI64 x16) (Calm.move rfl rfl) ?_
        refine AO.calm rfl 18 rfl (by decide) (eI64 (w64 (x16 + (1 : Int)))) (Calm.int rfl rfl rfl rfl) ?_
        refine AO.calm rfl 5 rfl (by decide) (eI64 (w64 (x16 + (1 : Int)))) (Calm.assign rfl rfl) ?_
        refine AO.nil (ρ' := [(1, (.ptr n2 0)), (2, (.ptr n3 0)), (3, (.own n20 0 x21.length)), (4, (.ptr n5 0)), (5, (eI64 (w64 (x16 + (1 : Int)))))]) (H' := [(n2, (.mem (e50 p0))), (n3, (.mem (.st [(256, (.ar 1 ((Vector.replicate 256 (0 : Int)).toList.map eU8))), (1, (.fl (.slice none 0 0))), (1, (.fl (.slice none 0 0)))]))), (n20, (.mem (.ar 1 (x21.map eI64)))), (n5, (.mem (.st [(256, (.ar 1 (p0.f0.toList.map eU8))), (1, (.own n22 0 x23.length)), (1, (.own n24 0 x25.length))]))), (n22, (.mem (.ar 1 (x23.map e43)))), (n24, (.mem (.ar 1 (x25.map eI64))))]) ⟨rfl, rfl, rfl, rfl, rfl, trivial⟩ (Sub.refl _) ?_
        exact ⟨kq18, Nat.lt_succ_self _, n20, n22, n24, x21, x23, x25, (w64 (x16 + (1 : Int))), rfl, rfl, by rw [hrec17]; exact h⟩
    · have h := (if_neg hc19).symm.trans h
      refine AW.condN (x16 < (x11.length : Int)) rfl hc19 ?_
      refine AW.exit (ρ' := [(2, (.ptr n3 0)), (4, (.ptr n5 0))]) (H' := [(n3, (.mem (.st [(256, (.ar 1 ((Vector.replicate 256 (0 : Int)).toList.map eU8))), (1, (.fl (.slice none 0 0))), (1, (.fl (.slice none 0 0)))]))), (n5, (.mem (.st [(256, (.ar 1 (p0.f0.toList.map eU8))), (1, (.own n12 0 x13.length)), (1, (.own n14 0 x15.length))]))), (n12, (.mem (.ar 1 (x13.map e43)))), (n14, (.mem (.ar 1 (x15.map eI64))))]) ⟨rfl, rfl, trivial⟩ (Sub.cons 1 rfl (Sub.cons 2 rfl (Sub.cons 2 rfl (Sub.cons 2 rfl (Sub.nil _))))) ?_
      exact ⟨n12, n14, x13, x15, rfl, rfl, h⟩
  · rintro _ _ ⟨n6, n8, x7, x9, rfl, rfl, h⟩
    rw [bosketref08_Order_c0.eq_1] at h
    refine AW.seq ?_
    refine AW.reg ?_
    refine AO.freezeFld (X' := (.st [(256, (.ar 1 (p0.f0.toList.map eU8))), (1, (.fz 1 (x7.map e43))), (1, (.own n8 0 x9.length))])) (els' := (x7.map e43)) 2 1 rfl rfl (Put.cast (Put.fldS (Put.fld0 Put.here)) rfl) (by simp) (by rw [own_all]) rfl rfl (by decide) ?_
    refine AO.freezeFld (X' := (.st [(256, (.ar 1 (p0.f0.toList.map eU8))), (1, (.fz 1 (x7.map e43))), (1, (.fz 1 (x9.map eI64)))])) (els' := (x9.map eI64)) 2 1 rfl rfl (Put.cast (Put.fldS (Put.fldS (Put.fld0 Put.here))) rfl) (by simp) (by rw [own_all]) rfl rfl (by decide) ?_
    refine AO.calm rfl 80 rfl (by decide) (e50 (S50.mk p0.f0 x7 x9)) (Calm.load 1 rfl rfl rfl (At.cast At.here rfl) ag50 sz50) ?_
    refine AO.store (X' := (e50 (S50.mk p0.f0 x7 x9))) 0 rfl rfl rfl rfl rfl rfl (Put.cast Put.here rfl) rfl rfl sz50 rfl ?_
    refine AO.nil (ρ' := [(2, (.ptr n3 0))]) (H' := [(n3, (.mem (e50 (S50.mk p0.f0 x7 x9))))]) ⟨rfl, trivial⟩ (Sub.cons 0 rfl (Sub.nil _)) ?_
    refine AW.ret (ρ' := [(2, (.ptr n3 0))]) (H' := [(n3, (.mem (e50 (S50.mk p0.f0 x7 x9))))]) ⟨rfl, trivial⟩ (Sub.refl _) ?_
    have hr := Option.some.inj h
    subst hr
    exact ⟨[(e50 (S50.mk p0.f0 x7 x9))], ⟨⟨_, 0, rfl, rfl, ag50, sz50⟩, trivial⟩, rfl⟩
end Go.Avl.T3
/- bosket/dfa.Run; printed by avmain.py. -/
namespace Go.Avl.T3
open Go Go.RowKit Go.Proofs Go.Avl
set_option linter.unusedVariables false
set_option maxRecDepth 100000
set_option maxHeartbeats 4000000
attribute [local irreducible] AW AO AQ Spec SpecH Calm

def dfa_Run_c0 (k : Nat) (x5 : Int) : Option Int :=
  some (x5)
def dfa_Run_l1 (k : Nat) (p0 : S50) (p2 : ByteArray) : Nat → Int → Int → Option Int
  | 0, _, _ => none
  | j + 1, x6, x7 =>
    Option.bind (α := Bool) (if x7 < (p2.size : Int) then some (decide (x6 ≠ (-1 : Int)))
    else some (false)) fun b10 =>
    if b10 = true then if 0 ≤ x7 ∧ x7 < (p2.size : Int) then (dfa_Step k p0 x6 (byteAt p2 x7)).bind fun t15 =>
    (dfa_Run_l1 k p0 p2 j) t15 (w64 (x7 + (1 : Int)))
    else none
    else dfa_Run_c0 k x6
def dfa_Run (k : Nat) (p0 : S50) (p1 : Int) (p2 : ByteArray) : Option Int :=
  dfa_Run_l1 k p0 p2 k p1 (0 : Int)
theorem dfa_Run_spec {k : Nat} {p0 : S50} {p1 : Int} {p2 : ByteArray} {r : Int} (h : dfa_Run k p0 p1 p2 = some r) : Spec Try.prog 47 [(e50 p0), (eI64 p1), (eStr p2)] (eI64 r) := by
  rw [dfa_Run.eq_1] at h
  refine Spec.intro (res := [.tmp 6]) Try.func47 rfl rfl rfl (Nat.le_of_ble_eq_true rfl) ?_
  refine AW.seq ?_
  refine AW.reg ?_
  refine AO.box rfl 3 rfl (by decide) rfl rfl rfl fun n4 => ?_
  refine AO.calm rfl 6 rfl (by decide) (eI64 (0 : Int)) (Calm.assign rfl rfl) ?_
  refine AO.nil (ρ' := [(1, (eI64 p1)), (2, (eStr p2)), (3, (.ptr n4 0))]) (H' := [(n4, (.mem (e50 p0)))]) ⟨rfl, rfl, rfl, trivial⟩ (Sub.refl _) ?_
  refine AW.seq_mid (fun ρ H => ∃ (x5 : Int), ρ = [(1, (eI64 x5))] ∧ H = [] ∧ dfa_Run_c0 k x5 = some r) ?_ ?_
  · refine AW.seq ?_
    refine AW.reg ?_
    refine AO.calm rfl 7 rfl (by decide) (eI64 (0 : Int)) (Calm.assign rfl rfl) ?_
    refine AO.nil (ρ' := [(1, (eI64 p1)), (2, (eStr p2)), (3, (.ptr n4 0)), (7, (eI64 (0 : Int)))]) (H' := [(n4, (.mem (e50 p0)))]) ⟨rfl, rfl, rfl, rfl, trivial⟩ (Sub.refl _) ?_
    refine AW.block ?_
    refine AW.weak (ρ' := [(1, (eI64 p1)), (2, (eStr p2)), (3, (.ptr n4 0)), (7, (eI64 (0 : Int)))]) (H' := [(n4, (.mem (e50 p0)))]) ⟨rfl, rfl, rfl, rfl, trivial⟩ (Sub.refl _) ?_
    refine AW.loop (fun kq ρ H => ∃ (x6 : Int) (x7 : Int), ρ = [(1, (eI64 x6)), (2, (eStr p2)), (3, (.ptr n4 0)), (7, (eI64 x7))] ∧ H = [(n4, (.mem (e50 p0)))] ∧ dfa_Run_l1 k p0 p2 kq x6 x7 = some r) k ⟨p1, (0 : Int), rfl, rfl, h⟩ ?_
    rintro kq9 _ _ ⟨x6, x7, rfl, rfl, h⟩
    cases kq9 with
    | zero => rw [dfa_Run_l1.eq_1] at h; cases h
    | succ kq9 =>
    rw [dfa_Run_l1.eq_2] at h
    generalize hrec8 : dfa_Run_l1 k p0 p2 kq9 = rec8 at h
    refine AW.seq ?_
    refine AW.seq ?_
    obtain ⟨b10, hq11, h⟩ := of_bind h
    refine AW.regM [(1, (eI64 x6)), (2, (eStr p2)), (3, (.ptr n4 0)), (7, (eI64 x7)), (15, (eBool b10))] [(n4, (.mem (e50 p0)))] ?_ ?_
    · refine AO.calm rfl 8 rfl (by decide) (eI64 x7) (Calm.move rfl rfl) ?_
      refine AO.calm rfl 9 rfl (by decide) (eStr p2) (Calm.move rfl rfl) ?_
      refine AO.calm rfl 10 rfl (by decide) (eI64 (p2.size : Int)) (Calm.lenStr rfl rfl Try.underlying9) ?_
      refine AO.calm rfl 11 rfl (by decide) (eBool (decide (x7 < (p2.size : Int)))) (Calm.int rfl rfl rfl rfl) ?_
      refine AO.calm rfl 12 rfl (by decide) (eBool (decide (x7 < (p2.size : Int)))) (Calm.move rfl rfl) ?_
      by_cases hc12 : x7 < (p2.size : Int)
      · have hq11 := (if_pos hc12).symm.trans hq11
        refine AO.calmG 4 true 12 rfl rfl (congrArg (fun b => some (AV.fl (Value.bool b))) (decide_eq_true hc12)) 13 rfl (by decide) (eI64 x6) (Calm.move rfl rfl) ?_
        refine AO.calmG 4 true 12 rfl rfl (congrArg (fun b => some (AV.fl (Value.bool b))) (decide_eq_true hc12)) 14 rfl (by decide) (eBool (decide (x6 ≠ (-1 : Int)))) (Calm.int rfl rfl rfl rfl) ?_
        refine AO.calm rfl 15 rfl (by decide) (eBool (decide (x6 ≠ (-1 : Int)))) (Calm.pickT rfl (congrArg (fun b => some (AV.fl (Value.bool b))) (decide_eq_true hc12)) rfl) ?_
        cases hq11
        refine AO.nilE ⟨rfl, rfl⟩ ?_ ?_
        · exact ⟨rfl, rfl, rfl, rfl, rfl, trivial⟩
        · exact (Sub.refl _)
      · have hq11 := (if_neg hc12).symm.trans hq11
        refine AO.skipG 4 false 12 rfl rfl (congrArg (fun b => some (AV.fl (Value.bool b))) (decide_eq_false hc12)) 13 rfl (by decide) ?_
        refine AO.skipG 4 false 12 rfl rfl (congrArg (fun b => some (AV.fl (Value.bool b))) (decide_eq_false hc12)) 14 rfl (by decide) ?_
        refine AO.calm rfl 15 rfl (by decide) (eBool false) (Calm.pickF rfl (congrArg (fun b => some (AV.fl (Value.bool b))) (decide_eq_false hc12)) rfl) ?_
        cases hq11
        refine AO.nilE ⟨rfl, rfl⟩ ?_ ?_
        · exact ⟨rfl, rfl, rfl, rfl, rfl, trivial⟩
        · exact (Sub.refl _)
    · by_cases hc13 : b10 = true
      · have h := (if_pos hc13).symm.trans h
        refine AW.condT' b10 rfl hc13 ?_
        refine AW.skip (ρ' := [(1, (eI64 x6)), (2, (eStr p2)), (3, (.ptr n4 0)), (7, (eI64 x7))]) (H' := [(n4, (.mem (e50 p0)))]) ⟨rfl, rfl, rfl, rfl, trivial⟩ (Sub.refl _) ?_
        refine AW.seq ?_
        refine AW.block ?_
        refine AW.regQ (by rfl) (by decide +kernel) ?_
        refine AQ.calm rfl 18 rfl (by decide) (e50 p0) (Calm.load 0 rfl rfl rfl (At.cast At.here rfl) ag50 sz50) ?_
        refine AQ.calm rfl 19 rfl (by decide) (eI64 x6) (Calm.move rfl rfl) ?_
        refine AQ.calm rfl 20 rfl (by decide) (eStr p2) (Calm.move rfl rfl) ?_
        refine AQ.calm rfl 21 rfl (by decide) (eI64 x7) (Calm.move rfl rfl) ?_
        obtain ⟨hg14, h⟩ := of_guard h
        refine AQ.calm rfl 22 rfl (by decide) (eU8 (byteAt p2 x7)) (Calm.idxS rfl rfl rfl hg14 Try.underlying9) ?_
        obtain ⟨t15, et15, h⟩ := of_bind h
        refine AQ.calm rfl 23 rfl (by decide) (eI64 t15) (Calm.call (args := [(e50 p0), (eI64 x6), (eU8 (byteAt p2 x7))]) rfl rfl ok66 ⟨rfl, rfl, rfl, rfl, rfl, rfl, trivial⟩ rfl (dfa_Step_spec et15)) ?_
        refine AQ.calm rfl 1 rfl (by decide) (eI64 t15) (Calm.assign rfl rfl) ?_
        refine AQ.nil (ρ' := [(1, (eI64 t15)), (2, (eStr p2)), (3, (.ptr n4 0)), (7, (eI64 x7))]) ⟨rfl, rfl, rfl, rfl, trivial⟩ ?_
        refine AW.reg ?_
        refine AO.calm rfl 16 rfl (by decide) (eI64 x7) (Calm.move rfl rfl) ?_
        refine AO.calm rfl 17 rfl (by decide) (eI64 (w64 (x7 + (1 : Int)))) (Calm.int rfl rfl rfl rfl) ?_
        refine AO.calm rfl 7 rfl (by decide) (eI64 (w64 (x7 + (1 : Int)))) (Calm.assign rfl rfl) ?_
        refine AO.nil (ρ' := [(1, (eI64 t15)), (2, (eStr p2)), (3, (.ptr n4 0)), (7, (eI64 (w64 (x7 + (1 : Int)))))]) (H' := [(n4, (.mem (e50 p0)))]) ⟨rfl, rfl, rfl, rfl, trivial⟩ (Sub.refl _) ?_
        exact ⟨kq9, Nat.lt_succ_self _, t15, (w64 (x7 + (1 : Int))), rfl, rfl, by rw [hrec8]; exact h⟩
      · have h := (if_neg hc13).symm.trans h
        refine AW.condF' b10 rfl hc13 ?_
        refine AW.exit (ρ' := [(1, (eI64 x6))]) (H' := []) ⟨rfl, trivial⟩ (Sub.nil _) ?_
        exact ⟨x6, rfl, rfl, h⟩
  · rintro _ _ ⟨x5, rfl, rfl, h⟩
    rw [dfa_Run_c0.eq_1] at h
    refine AW.seq ?_
    refine AW.reg ?_
    refine AO.calm rfl 24 rfl (by decide) (eI64 x5) (Calm.move rfl rfl) ?_
    refine AO.calm rfl 6 rfl (by decide) (eI64 x5) (Calm.assign rfl rfl) ?_
    refine AO.nil (ρ' := [(6, (eI64 x5))]) (H' := []) ⟨rfl, trivial⟩ (Sub.refl _) ?_
    refine AW.ret (ρ' := [(6, (eI64 x5))]) (H' := []) ⟨rfl, trivial⟩ (Sub.refl _) ?_
    have hr := Option.some.inj h
    subst hr
    exact ⟨[(eI64 x5)], ⟨rfl, rfl, trivial⟩, rfl⟩
end Go.Avl.T3
/- bosket/dfa.Has; printed by avmain.py. -/
namespace Go.Avl.T3
open Go Go.RowKit Go.Proofs Go.Avl
set_option linter.unusedVariables false
set_option maxRecDepth 100000
set_option maxHeartbeats 4000000
attribute [local irreducible] AW AO AQ Spec SpecH Calm

def dfa_Has (k : Nat) (p0 : S50) (p1 : ByteArray) : Option Int :=
  (dfa_Run k p0 (0 : Int) p1).bind fun t4 =>
  (dfa_Mark k p0 t4).bind fun t5 =>
  some (t5)
theorem dfa_Has_spec {k : Nat} {p0 : S50} {p1 : ByteArray} {r : Int} (h : dfa_Has k p0 p1 = some r) : Spec Try.prog 24 [(e50 p0), (eStr p1)] (eI64 r) := by
  rw [dfa_Has.eq_1] at h
  refine Spec.intro (res := [.tmp 4]) Try.func24 rfl rfl rfl (Nat.le_of_ble_eq_true rfl) ?_
  refine AW.seq ?_
  refine AW.reg ?_
  refine AO.box rfl 2 rfl (by decide) rfl rfl rfl fun n3 => ?_
  refine AO.calm rfl 4 rfl (by decide) (eI64 (0 : Int)) (Calm.assign rfl rfl) ?_
  refine AO.nil (ρ' := [(1, (eStr p1)), (2, (.ptr n3 0))]) (H' := [(n3, (.mem (e50 p0)))]) ⟨rfl, rfl, trivial⟩ (Sub.refl _) ?_
  refine AW.seq ?_
  refine AW.regQ (by rfl) (by decide +kernel) ?_
  refine AQ.calm rfl 5 rfl (by decide) (e50 p0) (Calm.load 0 rfl rfl rfl (At.cast At.here rfl) ag50 sz50) ?_
  refine AQ.calm rfl 6 rfl (by decide) (e50 p0) (Calm.load 0 rfl rfl rfl (At.cast At.here rfl) ag50 sz50) ?_
  refine AQ.calm rfl 7 rfl (by decide) (eStr p1) (Calm.move rfl rfl) ?_
  obtain ⟨t4, et4, h⟩ := of_bind h
  refine AQ.calm rfl 8 rfl (by decide) (eI64 t4) (Calm.call (args := [(e50 p0), (eI64 (0 : Int)), (eStr p1)]) rfl rfl ok47 ⟨rfl, rfl, rfl, rfl, rfl, rfl, trivial⟩ rfl (dfa_Run_spec et4)) ?_
  obtain ⟨t5, et5, h⟩ := of_bind h
  refine AQ.calm rfl 9 rfl (by decide) (eI64 t5) (Calm.call (args := [(e50 p0), (eI64 t4)]) rfl rfl ok50 ⟨rfl, rfl, rfl, rfl, trivial⟩ rfl (dfa_Mark_spec et5)) ?_
  refine AQ.calm rfl 4 rfl (by decide) (eI64 t5) (Calm.assign rfl rfl) ?_
  refine AQ.nil (ρ' := [(4, (eI64 t5))]) ⟨rfl, trivial⟩ ?_
  refine AW.ret (ρ' := [(4, (eI64 t5))]) (H' := []) ⟨rfl, trivial⟩ (Sub.nil _) ?_
  have hr := Option.some.inj h
  subst hr
  exact ⟨[(eI64 t5)], ⟨rfl, rfl, trivial⟩, rfl⟩
end Go.Avl.T3
/- bosket/bosketlaw08.awake; printed by avmain.py. -/
namespace Go.Avl.T3
open Go Go.RowKit Go.Proofs Go.Avl
set_option linter.unusedVariables false
set_option maxRecDepth 100000
set_option maxHeartbeats 4000000
attribute [local irreducible] AW AO AQ Spec SpecH Calm

def bosketlaw08_awake (k : Nat) : Option Bool :=
  Option.bind (α := Bool) ((dfa_Right k (S50.mk (Vector.replicate 256 (0 : Int)) ([[(0 : Int)]] : List (List Int)) ([(3 : Int)] : List Int))).bind fun t7 =>
  if t7 = true then (dfa_Has k (S50.mk (Vector.replicate 256 (0 : Int)) ([[(0 : Int)]] : List (List Int)) ([(3 : Int)] : List Int)) (ByteArray.mk #[97, 98, 99])).bind fun t9 =>
  if t9 = (3 : Int) then (dfa_Run k (S50.mk (Vector.replicate 256 (0 : Int)) ([[(0 : Int)]] : List (List Int)) ([(3 : Int)] : List Int)) (3 : Int) (ByteArray.mk #[])).bind fun t11 =>
  if t11 = (3 : Int) then some (true)
  else some (false)
  else some (false)
  else some (false)) fun b5 =>
  some (b5)
theorem bosketlaw08_awake_spec {k : Nat}  {r : Bool} (h : bosketlaw08_awake k = some r) : Spec Try.prog 21 [] (eBool r) := by
  rw [bosketlaw08_awake.eq_1] at h
  refine Spec.intro (res := [.tmp 0]) Try.func21 rfl rfl rfl (Nat.le_of_ble_eq_true rfl) ?_
  refine AW.seq ?_
  refine AW.reg ?_
  refine AO.calm rfl 0 rfl (by decide) (eBool false) (Calm.assign rfl rfl) ?_
  refine AO.nil (ρ' := []) (H' := []) trivial (Sub.refl _) ?_
  refine AW.seq ?_
  refine AW.reg ?_
  refine AO.lit (Z := (eI64 (0 : Int))) (xs := (([(0 : Int)] : List Int).map eI64)) (qs := [(0, (eI64 (0 : Int)))]) rfl 2 rfl (by decide) rfl ⟨rfl, rfl, rfl, trivial⟩ Try.underlying43 sz3 zr3 lay3 rfl (by decide) (litOK (z := 1) [(eI64 (0 : Int))] rfl ⟨⟨rfl, rfl⟩, trivial⟩) rfl fun n1 => ?_
  refine AO.freezeS 0 [(2, (.fz 1 (([(0 : Int)] : List Int).map eI64)))] rfl ⟨fz_all rfl, trivial⟩ ?_
  refine AO.lit (Z := (.fl (.slice none 0 0))) (xs := (([[(0 : Int)]] : List (List Int)).map e43)) (qs := [(0, (.fz 1 (([(0 : Int)] : List Int).map eI64)))]) rfl 3 rfl (by decide) rfl ⟨rfl, rfl, rfl, trivial⟩ Try.underlying48 sz43 zr43 lay43 rfl (by decide) (litOK (z := 1) [(.fz 1 (([(0 : Int)] : List Int).map eI64))] rfl ⟨⟨rfl, rfl⟩, trivial⟩) rfl fun n2 => ?_
  refine AO.lit (Z := (eI64 (0 : Int))) (xs := (([(3 : Int)] : List Int).map eI64)) (qs := [(0, (eI64 (3 : Int)))]) rfl 4 rfl (by decide) rfl ⟨rfl, rfl, rfl, trivial⟩ Try.underlying43 sz3 zr3 lay3 rfl (by decide) (litOK (z := 1) [(eI64 (3 : Int))] rfl ⟨⟨rfl, rfl⟩, trivial⟩) rfl fun n3 => ?_
  refine AO.calm rfl 5 rfl (by decide) (.st [(256, (.ar 1 ((Vector.replicate 256 (0 : Int)).toList.map eU8))), (1, (.own n2 0 ([[(0 : Int)]] : List (List Int)).length)), (1, (.own n3 0 ([(3 : Int)] : List Int).length))]) (Calm.build (qs := [(1, (.own n2 0 ([[(0 : Int)]] : List (List Int)).length)), (2, (.own n3 0 ([(3 : Int)] : List Int).length))]) rfl ⟨rfl, rfl, rfl, rfl, rfl, rfl, trivial⟩ Try.underlying50 rfl zr50 lay50 (.cons rfl rfl rfl rfl (Put.cast (Put.fldS (Put.fld0 Put.here)) rfl) (.cons rfl rfl rfl rfl (Put.cast (Put.fldS (Put.fldS (Put.fld0 Put.here))) rfl) .nil)) rfl) ?_
  refine AO.alloc rfl 1 rfl (by decide) rfl zr50 lay50 fun n4 => ?_
  refine AO.store (X' := (.st [(256, (.ar 1 ((Vector.replicate 256 (0 : Int)).toList.map eU8))), (1, (.own n2 0 ([[(0 : Int)]] : List (List Int)).length)), (1, (.own n3 0 ([(3 : Int)] : List Int).length))])) 0 rfl rfl rfl rfl rfl rfl (Put.cast Put.here rfl) rfl rfl sz50 rfl ?_
  refine AO.nil (ρ' := [(1, (.ptr n4 0))]) (H' := [(n4, (.mem (.st [(256, (.ar 1 ((Vector.replicate 256 (0 : Int)).toList.map eU8))), (1, (.own n2 0 ([[(0 : Int)]] : List (List Int)).length)), (1, (.own n3 0 ([(3 : Int)] : List Int).length))]))), (n2, (.mem (.ar 1 (([[(0 : Int)]] : List (List Int)).map e43)))), (n3, (.mem (.ar 1 (([(3 : Int)] : List Int).map eI64))))]) ⟨rfl, trivial⟩ (Sub.cons 0 rfl (Sub.cons 1 rfl (Sub.cons 0 rfl (Sub.nil _)))) ?_
  refine AW.seq ?_
  obtain ⟨b5, hq6, h⟩ := of_bind h
  refine AW.regM [(0, (eBool b5))] [] ?_ ?_
  · refine AO.freezeFld (X' := (.st [(256, (.ar 1 ((Vector.replicate 256 (0 : Int)).toList.map eU8))), (1, (.fz 1 (([[(0 : Int)]] : List (List Int)).map e43))), (1, (.own n3 0 ([(3 : Int)] : List Int).length))])) (els' := (([[(0 : Int)]] : List (List Int)).map e43)) 1 0 rfl rfl (Put.cast (Put.fldS (Put.fld0 Put.here)) rfl) (by simp) (by rw [own_all]) rfl rfl (by decide) ?_
    refine AO.freezeFld (X' := (.st [(256, (.ar 1 ((Vector.replicate 256 (0 : Int)).toList.map eU8))), (1, (.fz 1 (([[(0 : Int)]] : List (List Int)).map e43))), (1, (.fz 1 (([(3 : Int)] : List Int).map eI64)))])) (els' := (([(3 : Int)] : List Int).map eI64)) 1 0 rfl rfl (Put.cast (Put.fldS (Put.fldS (Put.fld0 Put.here))) rfl) (by simp) (by rw [own_all]) rfl rfl (by decide) ?_
    refine AO.calm rfl 6 rfl (by decide) (e50 (S50.mk (Vector.replicate 256 (0 : Int)) ([[(0 : Int)]] : List (List Int)) ([(3 : Int)] : List Int))) (Calm.load 0 rfl rfl rfl (At.cast At.here rfl) ag50 sz50) ?_
    obtain ⟨t7, et7, hq6⟩ := of_bind hq6
    refine AO.callS [(e50 (S50.mk (Vector.replicate 256 (0 : Int)) ([[(0 : Int)]] : List (List Int)) ([(3 : Int)] : List Int)))] (eBool t7) 7 rfl (by decide) ok27 rfl rfl rfl ⟨rfl, rfl, trivial⟩ (dfa_Right_spec et7) ?_
    refine AO.calm rfl 8 rfl (by decide) (eBool t7) (Calm.move rfl rfl) ?_
    by_cases hc8 : t7 = true
    · have hq6 := (if_pos hc8).symm.trans hq6
      refine AO.calmG 2 true 8 rfl rfl (congrArg (fun b => some (AV.fl (Value.bool b))) hc8) 9 rfl (by decide) (e50 (S50.mk (Vector.replicate 256 (0 : Int)) ([[(0 : Int)]] : List (List Int)) ([(3 : Int)] : List Int))) (Calm.load 0 rfl rfl rfl (At.cast At.here rfl) ag50 sz50) ?_
      obtain ⟨t9, et9, hq6⟩ := of_bind hq6
      refine AO.callG 2 true 8 [(e50 (S50.mk (Vector.replicate 256 (0 : Int)) ([[(0 : Int)]] : List (List Int)) ([(3 : Int)] : List Int))), (eStr (ByteArray.mk #[97, 98, 99]))] (eI64 t9) 10 rfl (by decide) ok24 rfl rfl (congrArg (fun b => some (AV.fl (Value.bool b))) hc8) rfl rfl ⟨rfl, rfl, rfl, rfl, trivial⟩ (dfa_Has_spec et9) ?_
      refine AO.calmG 2 true 8 rfl rfl (congrArg (fun b => some (AV.fl (Value.bool b))) hc8) 11 rfl (by decide) (eBool (decide (t9 = (3 : Int)))) (Calm.int rfl rfl rfl rfl) ?_
      refine AO.calm rfl 12 rfl (by decide) (eBool (decide (t9 = (3 : Int)))) (Calm.pickT rfl (congrArg (fun b => some (AV.fl (Value.bool b))) hc8) rfl) ?_
      refine AO.calm rfl 13 rfl (by decide) (eBool (decide (t9 = (3 : Int)))) (Calm.move rfl rfl) ?_
      by_cases hc10 : t9 = (3 : Int)
      · have hq6 := (if_pos hc10).symm.trans hq6
        refine AO.calmG 7 true 13 rfl rfl (congrArg (fun b => some (AV.fl (Value.bool b))) (decide_eq_true hc10)) 14 rfl (by decide) (e50 (S50.mk (Vector.replicate 256 (0 : Int)) ([[(0 : Int)]] : List (List Int)) ([(3 : Int)] : List Int))) (Calm.load 0 rfl rfl rfl (At.cast At.here rfl) ag50 sz50) ?_
        obtain ⟨t11, et11, hq6⟩ := of_bind hq6
        refine AO.callG 7 true 13 [(e50 (S50.mk (Vector.replicate 256 (0 : Int)) ([[(0 : Int)]] : List (List Int)) ([(3 : Int)] : List Int))), (eI64 (3 : Int)), (eStr (ByteArray.mk #[]))] (eI64 t11) 15 rfl (by decide) ok47 rfl rfl (congrArg (fun b => some (AV.fl (Value.bool b))) (decide_eq_true hc10)) rfl rfl ⟨rfl, rfl, rfl, rfl, rfl, rfl, trivial⟩ (dfa_Run_spec et11) ?_
        refine AO.calmG 7 true 13 rfl rfl (congrArg (fun b => some (AV.fl (Value.bool b))) (decide_eq_true hc10)) 16 rfl (by decide) (eBool (decide (t11 = (3 : Int)))) (Calm.int rfl rfl rfl rfl) ?_
        refine AO.calm rfl 17 rfl (by decide) (eBool (decide (t11 = (3 : Int)))) (Calm.pickT rfl (congrArg (fun b => some (AV.fl (Value.bool b))) (decide_eq_true hc10)) rfl) ?_
        refine AO.calm rfl 18 rfl (by decide) (eBool (decide (t11 = (3 : Int)))) (Calm.move rfl rfl) ?_
        by_cases hc12 : t11 = (3 : Int)
        · have hq6 := (if_pos hc12).symm.trans hq6
          refine AO.calm rfl 19 rfl (by decide) (eBool true) (Calm.pickT rfl (congrArg (fun b => some (AV.fl (Value.bool b))) (decide_eq_true hc12)) rfl) ?_
          refine AO.calm rfl 20 rfl (by decide) (eBool true) (Calm.move rfl rfl) ?_
          refine AO.calm rfl 21 rfl (by decide) (eBool true) (Calm.pickT rfl rfl rfl) ?_
          refine AO.calm rfl 0 rfl (by decide) (eBool true) (Calm.assign rfl rfl) ?_
          cases hq6
          refine AO.nilE ⟨rfl, rfl⟩ ?_ ?_
          · exact ⟨rfl, trivial⟩
          · exact (Sub.nil _)
        · have hq6 := (if_neg hc12).symm.trans hq6
          refine AO.calm rfl 19 rfl (by decide) (eBool false) (Calm.pickF rfl (congrArg (fun b => some (AV.fl (Value.bool b))) (decide_eq_false hc12)) rfl) ?_
          refine AO.calm rfl 20 rfl (by decide) (eBool false) (Calm.move rfl rfl) ?_
          refine AO.calm rfl 21 rfl (by decide) (eBool false) (Calm.pickF rfl rfl rfl) ?_
          refine AO.calm rfl 0 rfl (by decide) (eBool false) (Calm.assign rfl rfl) ?_
          cases hq6
          refine AO.nilE ⟨rfl, rfl⟩ ?_ ?_
          · exact ⟨rfl, trivial⟩
          · exact (Sub.nil _)
      · have hq6 := (if_neg hc10).symm.trans hq6
        refine AO.skipG 7 false 13 rfl rfl (congrArg (fun b => some (AV.fl (Value.bool b))) (decide_eq_false hc10)) 14 rfl (by decide) ?_
        refine AO.skipG 7 false 13 rfl rfl (congrArg (fun b => some (AV.fl (Value.bool b))) (decide_eq_false hc10)) 15 rfl (by decide) ?_
        refine AO.skipG 7 false 13 rfl rfl (congrArg (fun b => some (AV.fl (Value.bool b))) (decide_eq_false hc10)) 16 rfl (by decide) ?_
        refine AO.calm rfl 17 rfl (by decide) (eBool false) (Calm.pickF rfl (congrArg (fun b => some (AV.fl (Value.bool b))) (decide_eq_false hc10)) rfl) ?_
        refine AO.calm rfl 18 rfl (by decide) (eBool false) (Calm.move rfl rfl) ?_
        refine AO.calm rfl 19 rfl (by decide) (eBool false) (Calm.pickF rfl rfl rfl) ?_
        refine AO.calm rfl 20 rfl (by decide) (eBool false) (Calm.move rfl rfl) ?_
        refine AO.calm rfl 21 rfl (by decide) (eBool false) (Calm.pickF rfl rfl rfl) ?_
        refine AO.calm rfl 0 rfl (by decide) (eBool false) (Calm.assign rfl rfl) ?_
        cases hq6
        refine AO.nilE ⟨rfl, rfl⟩ ?_ ?_
        · exact ⟨rfl, trivial⟩
        · exact (Sub.nil _)
    · have hq6 := (if_neg hc8).symm.trans hq6
      refine AO.skipG 2 false 8 rfl rfl (congrArg (fun b => some (AV.fl (Value.bool b))) (eq_false_of_ne_true hc8)) 9 rfl (by decide) ?_
      refine AO.skipG 2 false 8 rfl rfl (congrArg (fun b => some (AV.fl (Value.bool b))) (eq_false_of_ne_true hc8)) 10 rfl (by decide) ?_
      refine AO.skipG 2 false 8 rfl rfl (congrArg (fun b => some (AV.fl (Value.bool b))) (eq_false_of_ne_true hc8)) 11 rfl (by decide) ?_
      refine AO.calm rfl 12 rfl (by decide) (eBool false) (Calm.pickF rfl (congrArg (fun b => some (AV.fl (Value.bool b))) (eq_false_of_ne_true hc8)) rfl) ?_
      refine AO.calm rfl 13 rfl (by decide) (eBool false) (Calm.move rfl rfl) ?_
      refine AO.skipG 7 false 13 rfl rfl rfl 14 rfl (by decide) ?_
      refine AO.skipG 7 false 13 rfl rfl rfl 15 rfl (by decide) ?_
      refine AO.skipG 7 false 13 rfl rfl rfl 16 rfl (by decide) ?_
      refine AO.calm rfl 17 rfl (by decide) (eBool false) (Calm.pickF rfl rfl rfl) ?_
      refine AO.calm rfl 18 rfl (by decide) (eBool false) (Calm.move rfl rfl) ?_
      refine AO.calm rfl 19 rfl (by decide) (eBool false) (Calm.pickF rfl rfl rfl) ?_
      refine AO.calm rfl 20 rfl (by decide) (eBool false) (Calm.move rfl rfl) ?_
      refine AO.calm rfl 21 rfl (by decide) (eBool false) (Calm.pickF rfl rfl rfl) ?_
      refine AO.calm rfl 0 rfl (by decide) (eBool false) (Calm.assign rfl rfl) ?_
      cases hq6
      refine AO.nilE ⟨rfl, rfl⟩ ?_ ?_
      · exact ⟨rfl, trivial⟩
      · exact (Sub.nil _)
  · refine AW.ret (ρ' := [(0, (eBool b5))]) (H' := []) ⟨rfl, trivial⟩ (Sub.refl _) ?_
    have hr := Option.some.inj h
    subst hr
    exact ⟨[(eBool b5)], ⟨rfl, rfl, trivial⟩, rfl⟩
end Go.Avl.T3
