/- Parts: TDf3. -/
import Derived.Test.YthfongdjcpmpfaaDoorAF1
import Derived.Test.YthfongdjcpmpfaaDoorAF2
/- bosket/bosketlaw02.BytesetMakes; printed by avmain.py. -/
namespace Go.Avl.TD
open Go Go.RowKit Go.Proofs Go.Avl
set_option linter.unusedVariables false
set_option maxRecDepth 100000
set_option maxHeartbeats 4000000
attribute [local irreducible] AW AO AQ Spec SpecH Calm

def bosketlaw02_BytesetMakes_c0 (k : Nat) (p0 : (List Int)) (p1 : Int) (p2 : Int) (x11 : (List Bool)) (x12 : (List Bool)) : Option Bool :=
  Option.bind (α := Bool) ((byteset_Of k p0).bind fun t15 =>
  (bosketref02_Of k x11).bind fun t16 =>
  if t15 = t16 then (byteset_Range k p1 p2).bind fun t18 =>
  (bosketref02_Of k x12).bind fun t19 =>
  some (decide (t18 = t19))
  else some (false)) fun b13 =>
  some (b13)
def bosketlaw02_BytesetMakes_l1 (k : Nat) (p0 : (List Int)) (p1 : Int) (p2 : Int) (x11 : (List Bool)) : Nat → (List Bool) → Int → Option Bool
  | 0, _, _ => none
  | j + 1, x20, x21 =>
    if x21 ≤ (w64 p2) then if 0 ≤ x21 ∧ x21 < (x20.length : Int) then (bosketlaw02_BytesetMakes_l1 k p0 p1 p2 x11 j) (lset x20 x21 true) (w64 (x21 + (1 : Int)))
    else none
    else bosketlaw02_BytesetMakes_c0 k p0 p1 p2 x11 x20
def bosketlaw02_BytesetMakes_c2 (k : Nat) (p0 : (List Int)) (p1 : Int) (p2 : Int) (x11 : (List Bool)) : Option Bool :=
  bosketlaw02_BytesetMakes_l1 k p0 p1 p2 x11 k (List.replicate (256 : Int).toNat false) (w64 p1)
def bosketlaw02_BytesetMakes_l3 (k : Nat) (p0 : (List Int)) (p1 : Int) (p2 : Int) : Nat → (List Bool) → Int → Option Bool
  | 0, _, _ => none
  | j + 1, x26, x27 =>
    if x27 < (p0.length : Int) then if 0 ≤ x27 ∧ x27 < (p0.length : Int) then if 0 ≤ (lget p0 x27) ∧ (lget p0 x27) < (x26.length : Int) then (bosketlaw02_BytesetMakes_l3 k p0 p1 p2 j) (lset x26 (lget p0 x27) true) (w64 (x27 + (1 : Int)))
    else none
    else none
    else bosketlaw02_BytesetMakes_c2 k p0 p1 p2 x26
def bosketlaw02_BytesetMakes (k : Nat) (p0 : (List Int)) (p1 : Int) (p2 : Int) : Option Bool :=
  (bosketlaw02_awake k).bind fun t4 =>
  if (!t4) = true then some (false)
  else if (300 : Int) < (p0.length : Int) then some (true)
  else if 0 ≤ (256 : Int) ∧ (256 : Int) * (1 : Int) ≤ 140737488355328 ∧ (256 : Int) ≤ 9223372036854775807 then if 0 ≤ (256 : Int) ∧ (256 : Int) * (1 : Int) ≤ 140737488355328 ∧ (256 : Int) ≤ 9223372036854775807 then bosketlaw02_BytesetMakes_l3 k p0 p1 p2 k (List.replicate (256 : Int).toNat false) (0 : Int)
  else none
  else none
theorem bosketlaw02_BytesetMakes_spec {k : Nat} {p0 : (List Int)} {p1 : Int} {p2 : Int} {r : Bool} (h : bosketlaw02_BytesetMakes k p0 p1 p2 = some r) : Spec Tryd.prog 3 [(.fz 1 (p0.map eU8)), (eU8 p1), (eU8 p2)] (eBool r) := by
  rw [bosketlaw02_BytesetMakes.eq_1] at h
  refine Spec.intro (res := [.tmp 6]) Tryd.func3 rfl rfl rfl (Nat.le_of_ble_eq_true rfl) ?_
  refine AW.seq ?_
  refine AW.reg ?_
  refine AO.calm rfl 6 rfl (by decide) (eBool false) (Calm.assign rfl rfl) ?_
  refine AO.nil (ρ' := [(0, (.fz 1 (p0.map eU8))), (1, (eU8 p1)), (2, (eU8 p2))]) (H' := []) ⟨rfl, rfl, rfl, trivial⟩ (Sub.refl _) ?_
  refine AW.seq ?_
  refine AW.seq ?_
  refine AW.reg ?_
  obtain ⟨t4, et4, h⟩ := of_bind h
  refine AO.callS [] (eBool t4) 11 rfl (by decide) ok7 rfl rfl rfl trivial (bosketlaw02_awake_spec et4) ?_
  refine AO.calm rfl 12 rfl (by decide) (eBool (!t4)) (Calm.not rfl rfl) ?_
  refine AO.nil (ρ' := [(0, (.fz 1 (p0.map eU8))), (1, (eU8 p1)), (2, (eU8 p2)), (12, (eBool (!t4)))]) (H' := []) ⟨rfl, rfl, rfl, rfl, trivial⟩ (Sub.refl _) ?_
  by_cases hc5 : (!t4) = true
  · have h := (if_pos hc5).symm.trans h
    refine AW.condT' (!t4) rfl hc5 ?_
    refine AW.seq ?_
    refine AW.reg ?_
    refine AO.calm rfl 6 rfl (by decide) (eBool false) (Calm.assign rfl rfl) ?_
    refine AO.nil (ρ' := [(6, (eBool false))]) (H' := []) ⟨rfl, trivial⟩ (Sub.refl _) ?_
    refine AW.ret (ρ' := [(6, (eBool false))]) (H' := []) ⟨rfl, trivial⟩ (Sub.refl _) ?_
    have hr := Option.some.inj h
    subst hr
    exact ⟨[(eBool false)], ⟨rfl, rfl, trivial⟩, rfl⟩
  · have h := (if_neg hc5).symm.trans h
    refine AW.condF' (!t4) rfl hc5 ?_
    refine AW.skip (ρ' := [(0, (.fz 1 (p0.map eU8))), (1, (eU8 p1)), (2, (eU8 p2))]) (H' := []) ⟨rfl, rfl, rfl, trivial⟩ (Sub.refl _) ?_
    refine AW.seq ?_
    refine AW.seq ?_
    refine AW.reg ?_
    refine AO.calm rfl 13 rfl (by decide) (.fz 1 (p0.map eU8)) (Calm.move rfl rfl) ?_
    refine AO.calm rfl 14 rfl (by decide) (eI64 (p0.length : Int)) (Calm.lenL rfl rfl Tryd.underlying22) ?_
    refine AO.calm rfl 15 rfl (by decide) (eBool (decide ((300 : Int) < (p0.length : Int)))) (Calm.int rfl rfl rfl rfl) ?_
    refine AO.nil (ρ' := [(0, (.fz 1 (p0.map eU8))), (1, (eU8 p1)), (2, (eU8 p2)), (15, (eBool (decide ((300 : Int) < (p0.length : Int)))))]) (H' := []) ⟨rfl, rfl, rfl, rfl, trivial⟩ (Sub.refl _) ?_
    by_cases hc6 : (300 : Int) < (p0.length : Int)
    · have h := (if_pos hc6).symm.trans h
      refine AW.condP ((300 : Int) < (p0.length : Int)) rfl hc6 ?_
      refine AW.seq ?_
      refine AW.reg ?_
      refine AO.calm rfl 6 rfl (by decide) (eBool true) (Calm.assign rfl rfl) ?_
      refine AO.nil (ρ' := [(6, (eBool true))]) (H' := []) ⟨rfl, trivial⟩ (Sub.refl _) ?_
      refine AW.ret (ρ' := [(6, (eBool true))]) (H' := []) ⟨rfl, trivial⟩ (Sub.refl _) ?_
      have hr := Option.some.inj h
      subst hr
      exact ⟨[(eBool true)], ⟨rfl, rfl, trivial⟩, rfl⟩
    · have h := (if_neg hc6).symm.trans h
      refine AW.condN ((300 : Int) < (p0.length : Int)) rfl hc6 ?_
      refine AW.skip (ρ' := [(0, (.fz 1 (p0.map eU8))), (1, (eU8 p1)), (2, (eU8 p2))]) (H' := []) ⟨rfl, rfl, rfl, trivial⟩ (Sub.refl _) ?_
      refine AW.seq ?_
      obtain ⟨hg8, h⟩ := of_guard h
      obtain ⟨hg10, h⟩ := of_guard h
      refine AW.regEff (by rfl) (by decide +kernel) (fun (σ : Nat → Nat) => ([(.own (σ 0) 0 (List.replicate (256 : Int).toNat false).length), (.own (σ 1) 0 (List.replicate (256 : Int).toNat false).length), (.own (σ 0) 0 (List.replicate (256 : Int).toNat false).length), (.own (σ 1) 0 (List.replicate (256 : Int).toNat false).length)] : List AV)) (fun (L : Nat → Bool) (σ : Nat → Nat) => ((bif L 0 then (bif L 1 then (((σ 1), (.mem (.ar 1 ((List.replicate (256 : Int).toNat false).map eBool)))) :: ((σ 0), (.mem (.ar 1 ((List.replicate (256 : Int).toNat false).map eBool)))) :: []) else (((σ 0), (.mem (.ar 1 ((List.replicate (256 : Int).toNat false).map eBool)))) :: [])) else (bif L 1 then (((σ 1), (.mem (.ar 1 ((List.replicate (256 : Int).toNat false).map eBool)))) :: []) else ([]))) : Heap)) [(0, (.fz 1 (p0.map eU8))), (1, (eU8 p1)), (2, (eU8 p2))] ⟨rfl, rfl, rfl, trivial⟩ (fun _ => rfl) (fun σ => (Sub.refl _)) ⟨?_, ?_, ?_, ?_, trivial⟩ (fun σ => [(0, (.fz 1 (p0.map eU8))), (1, (eU8 p1)), (2, (eU8 p2)), (7, (.own (σ 0) 0 (List.replicate (256 : Int).toNat false).length)), (8, (.own (σ 1) 0 (List.replicate (256 : Int).toNat false).length))]) (fun σ => (((σ 1), (.mem (.ar 1 ((List.replicate (256 : Int).toNat false).map eBool)))) :: ((σ 0), (.mem (.ar 1 ((List.replicate (256 : Int).toNat false).map eBool)))) :: [])) (fun σ => ⟨rfl, rfl, rfl, rfl, rfl, trivial⟩) (fun σ => Sub.refl _) (fun σ => ?_)
      · intro L σ hc hi hd
        cases b1 : L 1 with
        | true =>
          refine AO.heq (H' := (((σ 1), (.mem (.ar 1 ((List.replicate (256 : Int).toNat false).map eBool)))) :: [])) (by first | rfl | simp only [hi, b1, cond_true, cond_false]) ?_
          refine AO.weak (ρ' := []) (H' := (((σ 1), (.mem (.ar 1 ((List.replicate (256 : Int).toNat false).map eBool)))) :: [])) trivial (Sub.refl _) ?_
          refine AO.makeL (f := eBool) false rfl 16 rfl (by decide) rfl rfl rfl Tryd.underlying24 sz4 by4 zr4 lay4 rfl hg8 fun n7 => ?_
          have a0 : addL L 0 0 = true := rfl
          have a1 : addL L 0 1 = true := b1
          have u0 : upd σ 0 n7 0 = n7 := rfl
          have u1 : upd σ 0 n7 1 = σ 1 := rfl
          have m2 : L 2 = false := hc.neg (i := 0) (j := 2) rfl (by rfl) hi
          exact AO.nilE (ρ' := [(16, (.own n7 0 (List.replicate (256 : Int).toNat false).length))]) (H' := ((n7, (.mem (.ar 1 ((List.replicate (256 : Int).toNat false).map eBool)))) :: ((σ 1), (.mem (.ar 1 ((List.replicate (256 : Int).toNat false).map eBool)))) :: [])) ⟨(upd σ 0 n7), (fun j hj => match j, hj with | 0, hj => Bool.noConfusion (hj.symm.trans hi) | 1, _ => rfl | 2, hj => Bool.noConfusion (hj.symm.trans m2) | 3, _ => rfl | _ + 4, _ => rfl), (fun d' hd' => ⟨_, rfl, by cases hd'; rfl⟩), Sub.of_eq (B := (((σ 1), (.mem (.ar 1 ((List.replicate (256 : Int).toNat false).map eBool)))) :: (n7, (.mem (.ar 1 ((List.replicate (256 : Int).toNat false).map eBool)))) :: [])) (by simp only [a0, a1, u0, u1, cond_true, cond_false]) (Sub.cons 1 rfl (Sub.cons 0 rfl (Sub.refl _)))⟩ ⟨rfl, trivial⟩ (Sub.refl _)
        | false =>
          refine AO.heq (H' := ([])) (by first | rfl | simp only [hi, b1, cond_true, cond_false]) ?_
          refine AO.weak (ρ' := []) (H' := ([])) trivial (Sub.refl _) ?_
          refine AO.makeL (f := eBool) false rfl 16 rfl (by decide) rfl rfl rfl Tryd.underlying24 sz4 by4 zr4 lay4 rfl hg8 fun n7 => ?_
          have a0 : addL L 0 0 = true := rfl
          have a1 : addL L 0 1 = false := b1
          have u0 : upd σ 0 n7 0 = n7 := rfl
          have u1 : upd σ 0 n7 1 = σ 1 := rfl
          have m2 : L 2 = false := hc.neg (i := 0) (j := 2) rfl (by rfl) hi
          exact AO.nilE (ρ' := [(16, (.own n7 0 (List.replicate (256 : Int).toNat false).length))]) (H' := ((n7, (.mem (.ar 1 ((List.replicate (256 : Int).toNat false).map eBool)))) :: [])) ⟨(upd σ 0 n7), (fun j hj => match j, hj with | 0, hj => Bool.noConfusion (hj.symm.trans hi) | 1, _ => rfl | 2, hj => Bool.noConfusion (hj.symm.trans m2) | 3, _ => rfl | _ + 4, _ => rfl), (fun d' hd' => ⟨_, rfl, by cases hd'; rfl⟩), Sub.of_eq (B := ((n7, (.mem (.ar 1 ((List.replicate (256 : Int).toNat false).map eBool)))) :: [])) (by simp only [a0, a1, u0, u1, cond_true, cond_false]) (Sub.refl _)⟩ ⟨rfl, trivial⟩ (Sub.refl _)
      · intro L σ hc hi hd
        cases b0 : L 0 with
        | true =>
          refine AO.heq (H' := (((σ 0), (.mem (.ar 1 ((List.replicate (256 : Int).toNat false).map eBool)))) :: [])) (by first | rfl | simp only [hi, b0, cond_true, cond_false]) ?_
          refine AO.weak (ρ' := []) (H' := (((σ 0), (.mem (.ar 1 ((List.replicate (256 : Int).toNat false).map eBool)))) :: [])) trivial (Sub.refl _) ?_
          refine AO.makeL (f := eBool) false rfl 17 rfl (by decide) rfl rfl rfl Tryd.underlying24 sz4 by4 zr4 lay4 rfl hg10 fun n9 => ?_
          have a0 : addL L 1 0 = true := b0
          have a1 : addL L 1 1 = true := rfl
          have u0 : upd σ 1 n9 0 = σ 0 := rfl
          have u1 : upd σ 1 n9 1 = n9 := rfl
          have m3 : L 3 = false := hc.neg (i := 1) (j := 3) rfl (by rfl) hi
          exact AO.nilE (ρ' := [(17, (.own n9 0 (List.replicate (256 : Int).toNat false).length))]) (H' := ((n9, (.mem (.ar 1 ((List.replicate (256 : Int).toNat false).map eBool)))) :: ((σ 0), (.mem (.ar 1 ((List.replicate (256 : Int).toNat false).map eBool)))) :: [])) ⟨(upd σ 1 n9), (fun j hj => match j, hj with | 0, _ => rfl | 1, hj => Bool.noConfusion (hj.symm.trans hi) | 2, _ => rfl | 3, hj => Bool.noConfusion (hj.symm.trans m3) | _ + 4, _ => rfl), (fun d' hd' => ⟨_, rfl, by cases hd'; rfl⟩), Sub.of_eq (B := ((n9, (.mem (.ar 1 ((List.replicate (256 : Int).toNat false).map eBool)))) :: ((σ 0), (.mem (.ar 1 ((List.replicate (256 : Int).toNat false).map eBool)))) :: [])) (by simp only [a0, a1, u0, u1, cond_true, cond_false]) (Sub.refl _)⟩ ⟨rfl, trivial⟩ (Sub.refl _)
        | false =>
          refine AO.heq (H' := ([])) (by first | rfl | simp only [hi, b0, cond_true, cond_false]) ?_
          refine AO.weak (ρ' := []) (H' := ([])) trivial (Sub.refl _) ?_
          refine AO.makeL (f := eBool) false rfl 17 rfl (by decide) rfl rfl rfl Tryd.underlying24 sz4 by4 zr4 lay4 rfl hg10 fun n9 => ?_
          have a0 : addL L 1 0 = false := b0
          have a1 : addL L 1 1 = true := rfl
          have u0 : upd σ 1 n9 0 = σ 0 := rfl
          have u1 : upd σ 1 n9 1 = n9 := rfl
          have m3 : L 3 = false := hc.neg (i := 1) (j := 3) rfl (by rfl) hi
          exact AO.nilE (ρ' := [(17, (.own n9 0 (List.replicate (256 : Int).toNat false).length))]) (H' := ((n9, (.mem (.ar 1 ((List.replicate (256 : Int).toNat false).map eBool)))) :: [])) ⟨(upd σ 1 n9), (fun j hj => match j, hj with | 0, _ => rfl | 1, hj => Bool.noConfusion (hj.symm.trans hi) | 2, _ => rfl | 3, hj => Bool.noConfusion (hj.symm.trans m3) | _ + 4, _ => rfl), (fun d' hd' => ⟨_, rfl, by cases hd'; rfl⟩), Sub.of_eq (B := ((n9, (.mem (.ar 1 ((List.replicate (256 : Int).toNat false).map eBool)))) :: [])) (by simp only [a0, a1, u0, u1, cond_true, cond_false]) (Sub.refl _)⟩ ⟨rfl, trivial⟩ (Sub.refl _)
      · refine StepE.calm (fun _ _ => rfl) fun L σ hc hi hd => ?_
        refine AO.weak (ρ' := [(16, (.own (σ 0) 0 (List.replicate (256 : Int).toNat false).length))]) ⟨rfl, trivial⟩ (Sub.refl _) ?_
        refine AO.calm rfl 7 rfl (by decide) (.own (σ 0) 0 (List.replicate (256 : Int).toNat false).length) (Calm.assign rfl rfl) ?_
        exact AO.nilE (ρ' := [(7, (.own (σ 0) 0 (List.replicate (256 : Int).toNat false).length))]) ⟨⟨7, _, rfl, rfl, rfl⟩, Sub.refl _⟩ ⟨rfl, trivial⟩ (Sub.refl _)
      · refine StepE.calm (fun _ _ => rfl) fun L σ hc hi hd => ?_
        refine AO.weak (ρ' := [(17, (.own (σ 1) 0 (List.replicate (256 : Int).toNat false).length))]) ⟨rfl, trivial⟩ (Sub.refl _) ?_
        refine AO.calm rfl 8 rfl (by decide) (.own (σ 1) 0 (List.replicate (256 : Int).toNat false).length) (Calm.assign rfl rfl) ?_
        exact AO.nilE (ρ' := [(8, (.own (σ 1) 0 (List.replicate (256 : Int).toNat false).length))]) ⟨⟨8, _, rfl, rfl, rfl⟩, Sub.refl _⟩ ⟨rfl, trivial⟩ (Sub.refl _)
      · generalize σ 0 = n7
        generalize σ 1 = n9
        refine AO.nil (ρ' := [(0, (.fz 1 (p0.map eU8))), (1, (eU8 p1)), (2, (eU8 p2)), (7, (.own n7 0 (List.replicate (256 : Int).toNat false).length)), (8, (.own n9 0 (List.replicate (256 : Int).toNat false).length))]) (H' := [(n7, (.mem (.ar 1 ((List.replicate (256 : Int).toNat false).map eBool)))), (n9, (.mem (.ar 1 ((List.replicate (256 : Int).toNat false).map eBool))))]) ⟨rfl, rfl, rfl, rfl, rfl, trivial⟩ (Sub.cons 1 rfl (Sub.cons 0 rfl (Sub.nil _))) ?_
        refine AW.seq_mid (fun ρ H => ∃ (x11 : (List Bool)), ρ = [(0, (.fz 1 (p0.map eU8))), (1, (eU8 p1)), (2, (eU8 p2)), (7, (.own n7 0 x11.length)), (8, (.own n9 0 (List.replicate (256 : Int).toNat false).length))] ∧ H = [(n7, (.mem (.ar 1 (x11.map eBool)))), (n9, (.mem (.ar 1 ((List.replicate (256 : Int).toNat false).map eBool))))] ∧ bosketlaw02_BytesetMakes_c2 k p0 p1 p2 x11 = some r) ?_ ?_
        · refine AW.seq ?_
          refine AW.reg ?_
          refine AO.calm rfl 9 rfl (by decide) (eI64 (0 : Int)) (Calm.assign rfl rfl) ?_
          refine AO.nil (ρ' := [(0, (.fz 1 (p0.map eU8))), (1, (eU8 p1)), (2, (eU8 p2)), (7, (.own n7 0 (List.replicate (256 : Int).toNat false).length)), (8, (.own n9 0 (List.replicate (256 : Int).toNat false).length)), (9, (eI64 (0 : Int)))]) (H' := [(n7, (.mem (.ar 1 ((List.replicate (256 : Int).toNat false).map eBool)))), (n9, (.mem (.ar 1 ((List.replicate (256 : Int).toNat false).map eBool))))]) ⟨rfl, rfl, rfl, rfl, rfl, rfl, trivial⟩ (Sub.refl _) ?_
          refine AW.block ?_
          refine AW.weak (ρ' := [(0, (.fz 1 (p0.map eU8))), (1, (eU8 p1)), (2, (eU8 p2)), (7, (.own n7 0 (List.replicate (256 : Int).toNat false).length)), (8, (.own n9 0 (List.replicate (256 : Int).toNat false).length)), (9, (eI64 (0 : Int)))]) (H' := [(n7, (.mem (.ar 1 ((List.replicate (256 : Int).toNat false).map eBool)))), (n9, (.mem (.ar 1 ((List.replicate (256 : Int).toNat false).map eBool))))]) ⟨rfl, rfl, rfl, rfl, rfl, rfl, trivial⟩ (Sub.refl _) ?_
          refine AW.loop (fun kq ρ H => ∃ (x26 : (List Bool)) (x27 : Int), ρ = [(0, (.fz 1 (p0.map eU8))), (1, (eU8 p1)), (2, (eU8 p2)), (7, (.own n7 0 x26.length)), (8, (.own n9 0 (List.replicate (256 : Int).toNat false).length)), (9, (eI64 x27))] ∧ H = [(n7, (.mem (.ar 1 (x26.map eBool)))), (n9, (.mem (.ar 1 ((List.replicate (256 : Int).toNat false).map eBool))))] ∧ bosketlaw02_BytesetMakes_l3 k p0 p1 p2 kq x26 x27 = some r) k ⟨(List.replicate (256 : Int).toNat false), (0 : Int), rfl, rfl, h⟩ ?_
          rintro kq29 _ _ ⟨x26, x27, rfl, rfl, h⟩
          cases kq29 with
          | zero => rw [bosketlaw02_BytesetMakes_l3.eq_1] at h; cases h
          | succ kq29 =>
          rw [bosketlaw02_BytesetMakes_l3.eq_2] at h
          generalize hrec28 : bosketlaw02_BytesetMakes_l3 k p0 p1 p2 kq29 = rec28 at h
          refine AW.seq ?_
          refine AW.seq ?_
          refine AW.reg ?_
          refine AO.calm rfl 18 rfl (by decide) (eI64 x27) (Calm.move rfl rfl) ?_
          refine AO.calm rfl 19 rfl (by decide) (.fz 1 (p0.map eU8)) (Calm.move rfl rfl) ?_
          refine AO.calm rfl 20 rfl (by decide) (eI64 (p0.length : Int)) (Calm.lenL rfl rfl Tryd.underlying22) ?_
          refine AO.calm rfl 21 rfl (by decide) (eBool (decide (x27 < (p0.length : Int)))) (Calm.int rfl rfl rfl rfl) ?_
          refine AO.nil (ρ' := [(0, (.fz 1 (p0.map eU8))), (1, (eU8 p1)), (2, (eU8 p2)), (7, (.own n7 0 x26.length)), (8, (.own n9 0 (List.replicate (256 : Int).toNat false).length)), (9, (eI64 x27)), (21, (eBool (decide (x27 < (p0.length : Int)))))]) (H' := [(n7, (.mem (.ar 1 (x26.map eBool)))), (n9, (.mem (.ar 1 ((List.replicate (256 : Int).toNat false).map eBool))))]) ⟨rfl, rfl, rfl, rfl, rfl, rfl, rfl, trivial⟩ (Sub.refl _) ?_
          by_cases hc30 : x27 < (p0.length : Int)
          · have h := (if_pos hc30).symm.trans h
            refine AW.condP (x27 < (p0.length : Int)) rfl hc30 ?_
            refine AW.skip (ρ' := [(0, (.fz 1 (p0.map eU8))), (1, (eU8 p1)), (2, (eU8 p2)), (7, (.own n7 0 x26.length)), (8, (.own n9 0 (List.replicate (256 : Int).toNat false).length)), (9, (eI64 x27))]) (H' := [(n7, (.mem (.ar 1 (x26.map eBool)))), (n9, (.mem (.ar 1 ((List.replicate (256 : Int).toNat false).map eBool))))]) ⟨rfl, rfl, rfl, rfl, rfl, rfl, trivial⟩ (Sub.refl _) ?_
            refine AW.seq ?_
            refine AW.block ?_
            refine AW.reg ?_
            refine AO.calm rfl 24 rfl (by decide) (.own n7 0 x26.length) (Calm.move rfl rfl) ?_
            refine AO.calm rfl 25 rfl (by decide) (.fz 1 (p0.map eU8)) (Calm.move rfl rfl) ?_
            refine AO.calm rfl 26 rfl (by decide) (eI64 x27) (Calm.move rfl rfl) ?_
            obtain ⟨hg31, h⟩ := of_guard h
            refine AO.calm rfl 27 rfl (by decide) (.rp (eU8 (lget p0 x27))) (Calm.idxL (f := eU8) rfl rfl rfl hg31 Tryd.underlying22 sz5) ?_
            refine AO.calm rfl 28 rfl (by decide) (eU8 (lget p0 x27)) (Calm.loadRp rfl rfl ag5 sz5) ?_
            obtain ⟨hg32, h⟩ := of_guard h
            refine AO.calm rfl 29 rfl (by decide) (.ptr n7 ((lget p0 x27).toNat * 1 + 0)) (Calm.idxO 0 rfl rfl rfl rfl hg32 Tryd.underlying24 sz4) ?_
            refine AO.store (X' := (.ar 1 ((lset x26 (lget p0 x27) true).map eBool))) 0 rfl rfl rfl rfl rfl rfl (Put.cast (Put.lidx (lget p0 x27) true hg32.1 hg32.2 Put.here) (by omega)) rfl rfl sz4 rfl ?_
            refine AO.coe 7 (y' := (.own n7 0 (lset x26 (lget p0 x27) true).length)) rfl (fun _ _ h => lset_own h) ?_
            refine AO.coe 24 (y' := (.own n7 0 (lset x26 (lget p0 x27) true).length)) rfl (fun _ _ h => lset_own h) ?_
            refine AO.nil (ρ' := [(0, (.fz 1 (p0.map eU8))), (1, (eU8 p1)), (2, (eU8 p2)), (7, (.own n7 0 (lset x26 (lget p0 x27) true).length)), (8, (.own n9 0 (List.replicate (256 : Int).toNat false).length)), (9, (eI64 x27))]) (H' := [(n7, (.mem (.ar 1 ((lset x26 (lget p0 x27) true).map eBool)))), (n9, (.mem (.ar 1 ((List.replicate (256 : Int).toNat false).map eBool))))]) ⟨rfl, rfl, rfl, rfl, rfl, rfl, trivial⟩ (Sub.refl _) ?_
            refine AW.reg ?_
            refine AO.calm rfl 22 rfl (by decide) (eI64 x27) (Calm.move rfl rfl) ?_
            refine AO.calm rfl 23 rfl (by decide) (eI64 (w64 (x27 + (1 : Int)))) (Calm.int rfl rfl rfl rfl) ?_
            refine AO.calm rfl 9 rfl (by decide) (eI64 (w64 (x27 + (1 : Int)))) (Calm.assign rfl rfl) ?_
            refine AO.nil (ρ' := [(0, (.fz 1 (p0.map eU8))), (1, (eU8 p1)), (2, (eU8 p2)), (7, (.own n7 0 (lset x26 (lget p0 x27) true).length)), (8, (.own n9 0 (List.replicate (256 : Int).toNat false).length)), (9, (eI64 (w64 (x27 + (1 : Int)))))]) (H' := [(n7, (.mem (.ar 1 ((lset x26 (lget p0 x27) true).map eBool)))), (n9, (.mem (.ar 1 ((List.replicate (256 : Int).toNat false).map eBool))))]) ⟨rfl, rfl, rfl, rfl, rfl, rfl, trivial⟩ (Sub.refl _) ?_
            exact ⟨kq29, Nat.lt_succ_self _, (lset x26 (lget p0 x27) true), (w64 (x27 + (1 : Int))), rfl, rfl, by rw [hrec28]; exact h⟩
          · have h := (if_neg hc30).symm.trans h
            refine AW.condN (x27 < (p0.length : Int)) rfl hc30 ?_
            refine AW.exit (ρ' := [(0, (.fz 1 (p0.map eU8))), (1, (eU8 p1)), (2, (eU8 p2)), (7, (.own n7 0 x26.length)), (8, (.own n9 0 (List.replicate (256 : Int).toNat false).length))]) (H' := [(n7, (.mem (.ar 1 (x26.map eBool)))), (n9, (.mem (.ar 1 ((List.replicate (256 : Int).toNat false).map eBool))))]) ⟨rfl, rfl, rfl, rfl, rfl, trivial⟩ (Sub.refl _) ?_
            exact ⟨x26, rfl, rfl, h⟩
        · rintro _ _ ⟨x11, rfl, rfl, h⟩
          rw [bosketlaw02_BytesetMakes_c2.eq_1] at h
          refine AW.seq_mid (fun ρ H => ∃ (x12 : (List Bool)), ρ = [(0, (.fz 1 (p0.map eU8))), (1, (eU8 p1)), (2, (eU8 p2)), (7, (.own n7 0 x11.length)), (8, (.own n9 0 x12.length))] ∧ H = [(n7, (.mem (.ar 1 (x11.map eBool)))), (n9, (.mem (.ar 1 (x12.map eBool))))] ∧ bosketlaw02_BytesetMakes_c0 k p0 p1 p2 x11 x12 = some r) ?_ ?_
          · refine AW.seq ?_
            refine AW.reg ?_
            refine AO.calm rfl 30 rfl (by decide) (eU8 p1) (Calm.move rfl rfl) ?_
            refine AO.calm rfl 31 rfl (by decide) (eI64 (w64 p1)) (Calm.conv rfl rfl Tryd.underlying5 Tryd.underlying3) ?_
            refine AO.calm rfl 10 rfl (by decide) (eI64 (w64 p1)) (Calm.assign rfl rfl) ?_
            refine AO.nil (ρ' := [(0, (.fz 1 (p0.map eU8))), (1, (eU8 p1)), (2, (eU8 p2)), (7, (.own n7 0 x11.length)), (8, (.own n9 0 (List.replicate (256 : Int).toNat false).length)), (10, (eI64 (w64 p1)))]) (H' := [(n7, (.mem (.ar 1 (x11.map eBool)))), (n9, (.mem (.ar 1 ((List.replicate (256 : Int).toNat false).map eBool))))]) ⟨rfl, rfl, rfl, rfl, rfl, rfl, trivial⟩ (Sub.refl _) ?_
            refine AW.block ?_
            refine AW.weak (ρ' := [(0, (.fz 1 (p0.map eU8))), (1, (eU8 p1)), (2, (eU8 p2)), (7, (.own n7 0 x11.length)), (8, (.own n9 0 (List.replicate (256 : Int).toNat false).length)), (10, (eI64 (w64 p1)))]) (H' := [(n7, (.mem (.ar 1 (x11.map eBool)))), (n9, (.mem (.ar 1 ((List.replicate (256 : Int).toNat false).map eBool))))]) ⟨rfl, rfl, rfl, rfl, rfl, rfl, trivial⟩ (Sub.refl _) ?_
            refine AW.loop (fun kq ρ H => ∃ (x20 : (List Bool)) (x21 : Int), ρ = [(0, (.fz 1 (p0.map eU8))), (1, (eU8 p1)), (2, (eU8 p2)), (7, (.own n7 0 x11.length)), (8, (.own n9 0 x20.length)), (10, (eI64 x21))] ∧ H = [(n7, (.mem (.ar 1 (x11.map eBool)))), (n9, (.mem (.ar 1 (x20.map eBool))))] ∧ bosketlaw02_BytesetMakes_l1 k p0 p1 p2 x11 kq x20 x21 = some r) k ⟨(List.replicate (256 : Int).toNat false), (w64 p1), rfl, rfl, h⟩ ?_
            rintro kq23 _ _ ⟨x20, x21, rfl, rfl, h⟩
            cases kq23 with
            | zero => rw [bosketlaw02_BytesetMakes_l1.eq_1] at h; cases h
            | succ kq23 =>
            rw [bosketlaw02_BytesetMakes_l1.eq_2] at h
            generalize hrec22 : bosketlaw02_BytesetMakes_l1 k p0 p1 p2 x11 kq23 = rec22 at h
            refine AW.seq ?_
            refine AW.seq ?_
            refine AW.reg ?_
            refine AO.calm rfl 32 rfl (by decide) (eI64 x21) (Calm.move rfl rfl) ?_
            refine AO.calm rfl 33 rfl (by decide) (eU8 p2) (Calm.move rfl rfl) ?_
            refine AO.calm rfl 34 rfl (by decide) (eI64 (w64 p2)) (Calm.conv rfl rfl Tryd.underlying5 Tryd.underlying3) ?_
            refine AO.calm rfl 35 rfl (by decide) (eBool (decide (x21 ≤ (w64 p2)))) (Calm.int rfl rfl rfl rfl) ?_
            refine AO.nil (ρ' := [(0, (.fz 1 (p0.map eU8))), (1, (eU8 p1)), (2, (eU8 p2)), (7, (.own n7 0 x11.length)), (8, (.own n9 0 x20.length)), (10, (eI64 x21)), (35, (eBool (decide (x21 ≤ (w64 p2)))))]) (H' := [(n7, (.mem (.ar 1 (x11.map eBool)))), (n9, (.mem (.ar 1 (x20.map eBool))))]) ⟨rfl, rfl, rfl, rfl, rfl, rfl, rfl, trivial⟩ (Sub.refl _) ?_
            by_cases hc24 : x21 ≤ (w64 p2)
            · have h := (if_pos hc24).symm.trans h
              refine AW.condP (x21 ≤ (w64 p2)) rfl hc24 ?_
              refine AW.skip (ρ' := [(0, (.fz 1 (p0.map eU8))), (1, (eU8 p1)), (2, (eU8 p2)), (7, (.own n7 0 x11.length)), (8, (.own n9 0 x20.length)), (10, (eI64 x21))]) (H' := [(n7, (.mem (.ar 1 (x11.map eBool)))), (n9, (.mem (.ar 1 (x20.map eBool))))]) ⟨rfl, rfl, rfl, rfl, rfl, rfl, trivial⟩ (Sub.refl _) ?_
              refine AW.seq ?_
              refine AW.block ?_
              refine AW.reg ?_
              refine AO.calm rfl 38 rfl (by decide) (.own n9 0 x20.length) (Calm.move rfl rfl) ?_
              refine AO.calm rfl 39 rfl (by decide) (eI64 x21) (Calm.move rfl rfl) ?_
              obtain ⟨hg25, h⟩ := of_guard h
              refine AO.calm rfl 40 rfl (by decide) (.ptr n9 (x21.toNat * 1 + 0)) (Calm.idxO 1 rfl rfl rfl rfl hg25 Tryd.underlying24 sz4) ?_
              refine AO.store (X' := (.ar 1 ((lset x20 x21 true).map eBool))) 1 rfl rfl rfl rfl rfl rfl (Put.cast (Put.lidx x21 true hg25.1 hg25.2 Put.here) (by omega)) rfl rfl sz4 rfl ?_
              refine AO.coe 8 (y' := (.own n9 0 (lset x20 x21 true).length)) rfl (fun _ _ h => lset_own h) ?_
              refine AO.coe 38 (y' := (.own n9 0 (lset x20 x21 true).length)) rfl (fun _ _ h => lset_own h) ?_
              refine AO.nil (ρ' := [(0, (.fz 1 (p0.map eU8))), (1, (eU8 p1)), (2, (eU8 p2)), (7, (.own n7 0 x11.length)), (8, (.own n9 0 (lset x20 x21 true).length)), (10, (eI64 x21))]) (H' := [(n7, (.mem (.ar 1 (x11.map eBool)))), (n9, (.mem (.ar 1 ((lset x20 x21 true).map eBool))))]) ⟨rfl, rfl, rfl, rfl, rfl, rfl, trivial⟩ (Sub.refl _) ?_
              refine AW.reg ?_
              refine AO.calm rfl 36 rfl (by decide) (eI64 x21) (Calm.move rfl rfl) ?_
              refine AO.calm rfl 37 rfl (by decide) (eI64 (w64 (x21 + (1 : Int)))) (Calm.int rfl rfl rfl rfl) ?_
              refine AO.calm rfl 10 rfl (by decide) (eI64 (w64 (x21 + (1 : Int)))) (Calm.assign rfl rfl) ?_
              refine AO.nil (ρ' := [(0, (.fz 1 (p0.map eU8))), (1, (eU8 p1)), (2, (eU8 p2)), (7, (.own n7 0 x11.length)), (8, (.own n9 0 (lset x20 x21 true).length)), (10, (eI64 (w64 (x21 + (1 : Int)))))]) (H' := [(n7, (.mem (.ar 1 (x11.map eBool)))), (n9, (.mem (.ar 1 ((lset x20 x21 true).map eBool))))]) ⟨rfl, rfl, rfl, rfl, rfl, rfl, trivial⟩ (Sub.refl _) ?_
              exact ⟨kq23, Nat.lt_succ_self _, (lset x20 x21 true), (w64 (x21 + (1 : Int))), rfl, rfl, by rw [hrec22]; exact h⟩
            · have h := (if_neg hc24).symm.trans h
              refine AW.condN (x21 ≤ (w64 p2)) rfl hc24 ?_
              refine AW.exit (ρ' := [(0, (.fz 1 (p0.map eU8))), (1, (eU8 p1)), (2, (eU8 p2)), (7, (.own n7 0 x11.length)), (8, (.own n9 0 x20.length))]) (H' := [(n7, (.mem (.ar 1 (x11.map eBool)))), (n9, (.mem (.ar 1 (x20.map eBool))))]) ⟨rfl, rfl, rfl, rfl, rfl, trivial⟩ (Sub.refl _) ?_
              exact ⟨x20, rfl, rfl, h⟩
          · rintro _ _ ⟨x12, rfl, rfl, h⟩
            rw [bosketlaw02_BytesetMakes_c0.eq_1] at h
            refine AW.seq ?_
            obtain ⟨b13, hq14, h⟩ := of_bind h
            refine AW.regM [(6, (eBool b13))] [] ?_ ?_
            · refine AO.calm rfl 41 rfl (by decide) (.fz 1 (p0.map eU8)) (Calm.move rfl rfl) ?_
              obtain ⟨t15, et15, hq14⟩ := of_bind hq14
              refine AO.callS [(.fz 1 (p0.map eU8))] (.ar 1 (t15.toList.map eU64)) 42 rfl (by decide) ok8 rfl rfl rfl ⟨rfl, rfl, trivial⟩ (byteset_Of_spec et15) ?_
              refine AO.calm rfl 43 rfl (by decide) (.own n7 0 x11.length) (Calm.move rfl rfl) ?_
              obtain ⟨t16, et16, hq14⟩ := of_bind hq14
              refine AO.freezeS 0 [(7, (.fz 1 (x11.map eBool))), (43, (.fz 1 (x11.map eBool)))] rfl ⟨fz_all rfl, fz_all rfl, trivial⟩ ?_
              refine AO.callS [(.fz 1 (x11.map eBool))] (.ar 1 (t16.toList.map eU64)) 44 rfl (by decide) ok9 rfl rfl rfl ⟨rfl, rfl, trivial⟩ (bosketref02_Of_spec et16) ?_
              refine AO.calm rfl 45 rfl (by decide) (eBool (decide (t15 = t16))) (Calm.eqA rfl rfl rfl eg27 (eqa27 t15 t16) (by decide)) ?_
              refine AO.calm rfl 46 rfl (by decide) (eBool (decide (t15 = t16))) (Calm.move rfl rfl) ?_
              by_cases hc17 : t15 = t16
              · have hq14 := (if_pos hc17).symm.trans hq14
                refine AO.calmG 5 true 46 rfl rfl (congrArg (fun b => some (AV.fl (Value.bool b))) (decide_eq_true hc17)) 47 rfl (by decide) (eU8 p1) (Calm.move rfl rfl) ?_
                refine AO.calmG 5 true 46 rfl rfl (congrArg (fun b => some (AV.fl (Value.bool b))) (decide_eq_true hc17)) 48 rfl (by decide) (eU8 p2) (Calm.move rfl rfl) ?_
                obtain ⟨t18, et18, hq14⟩ := of_bind hq14
                refine AO.callG 5 true 46 [(eU8 p1), (eU8 p2)] (.ar 1 (t18.toList.map eU64)) 49 rfl (by decide) ok10 rfl rfl (congrArg (fun b => some (AV.fl (Value.bool b))) (decide_eq_true hc17)) rfl rfl ⟨rfl, rfl, rfl, rfl, trivial⟩ (byteset_Range_spec et18) ?_
                refine AO.calmG 5 true 46 rfl rfl (congrArg (fun b => some (AV.fl (Value.bool b))) (decide_eq_true hc17)) 50 rfl (by decide) (.own n9 0 x12.length) (Calm.move rfl rfl) ?_
                obtain ⟨t19, et19, hq14⟩ := of_bind hq14
                refine AO.freezeS 0 [(8, (.fz 1 (x12.map eBool))), (50, (.fz 1 (x12.map eBool)))] rfl ⟨fz_all rfl, fz_all rfl, trivial⟩ ?_
                refine AO.callG 5 true 46 [(.fz 1 (x12.map eBool))] (.ar 1 (t19.toList.map eU64)) 51 rfl (by decide) ok9 rfl rfl (congrArg (fun b => some (AV.fl (Value.bool b))) (decide_eq_true hc17)) rfl rfl ⟨rfl, rfl, trivial⟩ (bosketref02_Of_spec et19) ?_
                refine AO.calmG 5 true 46 rfl rfl (congrArg (fun b => some (AV.fl (Value.bool b))) (decide_eq_true hc17)) 52 rfl (by decide) (eBool (decide (t18 = t19))) (Calm.eqA rfl rfl rfl eg27 (eqa27 t18 t19) (by decide)) ?_
                refine AO.calm rfl 53 rfl (by decide) (eBool (decide (t18 = t19))) (Calm.pickT rfl (congrArg (fun b => some (AV.fl (Value.bool b))) (decide_eq_true hc17)) rfl) ?_
                refine AO.calm rfl 6 rfl (by decide) (eBool (decide (t18 = t19))) (Calm.assign rfl rfl) ?_
                cases hq14
                refine AO.nilE ⟨rfl, rfl⟩ ?_ ?_
                · exact ⟨rfl, trivial⟩
                · exact (Sub.refl _)
              · have hq14 := (if_neg hc17).symm.trans hq14
                refine AO.skipG 5 false 46 rfl rfl (congrArg (fun b => some (AV.fl (Value.bool b))) (decide_eq_false hc17)) 47 rfl (by decide) ?_
                refine AO.skipG 5 false 46 rfl rfl (congrArg (fun b => some (AV.fl (Value.bool b))) (decide_eq_false hc17)) 48 rfl (by decide) ?_
                refine AO.skipG 5 false 46 rfl rfl (congrArg (fun b => some (AV.fl (Value.bool b))) (decide_eq_false hc17)) 49 rfl (by decide) ?_
                refine AO.skipG 5 false 46 rfl rfl (congrArg (fun b => some (AV.fl (Value.bool b))) (decide_eq_false hc17)) 50 rfl (by decide) ?_
                refine AO.skipG 5 false 46 rfl rfl (congrArg (fun b => some (AV.fl (Value.bool b))) (decide_eq_false hc17)) 51 rfl (by decide) ?_
                refine AO.skipG 5 false 46 rfl rfl (congrArg (fun b => some (AV.fl (Value.bool b))) (decide_eq_false hc17)) 52 rfl (by decide) ?_
                refine AO.calm rfl 53 rfl (by decide) (eBool false) (Calm.pickF rfl (congrArg (fun b => some (AV.fl (Value.bool b))) (decide_eq_false hc17)) rfl) ?_
                refine AO.calm rfl 6 rfl (by decide) (eBool false) (Calm.assign rfl rfl) ?_
                cases hq14
                refine AO.nilE ⟨rfl, rfl⟩ ?_ ?_
                · exact ⟨rfl, trivial⟩
                · exact (Sub.nil _)
            · refine AW.ret (ρ' := [(6, (eBool b13))]) (H' := []) ⟨rfl, trivial⟩ (Sub.refl _) ?_
              have hr := Option.some.inj h
              subst hr
              exact ⟨[(eBool b13)], ⟨rfl, rfl, trivial⟩, rfl⟩
end Go.Avl.TD
