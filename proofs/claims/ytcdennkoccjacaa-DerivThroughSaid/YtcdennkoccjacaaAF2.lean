/- Parts: T3f41, T3f42, T3f72, T3f70, T3f82, T3f80, T3f71. -/
import Derived.Test.YtcdennkoccjacaaAF1
/- bosket/deriv.Empty; printed by avmain.py. -/
namespace Go.Avl.T3
open Go Go.RowKit Go.Proofs Go.Avl
set_option linter.unusedVariables false
set_option maxRecDepth 100000
set_option maxHeartbeats 4000000
set_option linter.unusedSimpArgs false
attribute [local irreducible] AW AO AQ Spec SpecH Calm

def deriv_Empty_c0 (k : Nat) (x3 : (List Bool)) : Option Bool :=
  Option.bind (α := Bool) (if (x3.length : Int) = (1 : Int) then if 0 ≤ (0 : Int) ∧ (0 : Int) < (x3.length : Int) then some ((lget x3 (0 : Int)))
  else none
  else some (false)) fun b4 =>
  some (b4)
def deriv_Empty_c1 (k : Nat) (rec11 : ((List Bool) → Int → Option Bool)) (x10 : Int) (x15 : (List Bool)) : Option Bool :=
  rec11 x15 (w64 (x10 + (1 : Int)))
def deriv_Empty_c2 (k : Nat) (rec11 : ((List Bool) → Int → Option Bool)) (x9 : (List Bool)) (x10 : Int) (b48 : Bool) : Option Bool :=
  if b48 = true then if 0 ≤ (w64 ((x9.length : Int) - (1 : Int))) ∧ (w64 ((x9.length : Int) - (1 : Int))) < (x9.length : Int) then deriv_Empty_c1 k rec11 x10 (lset x9 (w64 ((x9.length : Int) - (1 : Int))) true)
  else none
  else deriv_Empty_c1 k rec11 x10 x9
def deriv_Empty_l3 (k : Nat) (p0 : (List S82)) : Nat → (List Bool) → Int → Option Bool
  | 0, _, _ => none
  | j + 1, x9, x10 =>
    if x10 < (p0.length : Int) then if 0 ≤ x10 ∧ x10 < (p0.length : Int) then if ((lget p0 x10).f0) = (0 : Int) then if (x9 ++ ([true] : List Bool)).length * 1 ≤ 140737488355328 then deriv_Empty_c1 k (deriv_Empty_l3 k p0 j) x10 (x9 ++ ([true] : List Bool))
    else none
    else if ((lget p0 x10).f0) = (1 : Int) then if (x9 ++ ([false] : List Bool)).length * 1 ≤ 140737488355328 then deriv_Empty_c1 k (deriv_Empty_l3 k p0 j) x10 (x9 ++ ([false] : List Bool))
    else none
    else if ((lget p0 x10).f0) = (2 : Int) then if 0 ≤ (w64 ((x9.length : Int) - (2 : Int))) ∧ (w64 ((x9.length : Int) - (2 : Int))) ≤ (x9.length : Int) then if 0 ≤ (w64 ((x9.length : Int) - (2 : Int))) ∧ (w64 ((x9.length : Int) - (2 : Int))) < (x9.length : Int) then if (lget x9 (w64 ((x9.length : Int) - (2 : Int)))) = true then if 0 ≤ (w64 ((x9.length : Int) - (1 : Int))) ∧ (w64 ((x9.length : Int) - (1 : Int))) < (x9.length : Int) then if (x9.take ((w64 ((x9.length : Int) - (2 : Int))).toNat) ++ ([(lget x9 (w64 ((x9.length : Int) - (1 : Int))))] : List Bool)).length * 1 ≤ 140737488355328 then deriv_Empty_c1 k (deriv_Empty_l3 k p0 j) x10 (x9.take ((w64 ((x9.length : Int) - (2 : Int))).toNat) ++ ([(lget x9 (w64 ((x9.length : Int) - (1 : Int))))] : List Bool))
    else none
    else none
    else if (x9.take ((w64 ((x9.length : Int) - (2 : Int))).toNat) ++ ([false] : List Bool)).length * 1 ≤ 140737488355328 then deriv_Empty_c1 k (deriv_Empty_l3 k p0 j) x10 (x9.take ((w64 ((x9.length : Int) - (2 : Int))).toNat) ++ ([false] : List Bool))
    else none
    else none
    else none
    else if ((lget p0 x10).f0) = (3 : Int) then if 0 ≤ (w64 ((x9.length : Int) - (2 : Int))) ∧ (w64 ((x9.length : Int) - (2 : Int))) ≤ (x9.length : Int) then if 0 ≤ (w64 ((x9.length : Int) - (2 : Int))) ∧ (w64 ((x9.length : Int) - (2 : Int))) < (x9.length : Int) then if (lget x9 (w64 ((x9.length : Int) - (2 : Int)))) = true then if (x9.take ((w64 ((x9.length : Int) - (2 : Int))).toNat) ++ ([true] : List Bool)).length * 1 ≤ 140737488355328 then deriv_Empty_c1 k (deriv_Empty_l3 k p0 j) x10 (x9.take ((w64 ((x9.length : Int) - (2 : Int))).toNat) ++ ([true] : List Bool))
    else none
    else if 0 ≤ (w64 ((x9.length : Int) - (1 : Int))) ∧ (w64 ((x9.length : Int) - (1 : Int))) < (x9.length : Int) then if (x9.take ((w64 ((x9.length : Int) - (2 : Int))).toNat) ++ ([(lget x9 (w64 ((x9.length : Int) - (1 : Int))))] : List Bool)).length * 1 ≤ 140737488355328 then deriv_Empty_c1 k (deriv_Empty_l3 k p0 j) x10 (x9.take ((w64 ((x9.length : Int) - (2 : Int))).toNat) ++ ([(lget x9 (w64 ((x9.length : Int) - (1 : Int))))] : List Bool))
    else none
    else none
    else none
    else none
    else if ((lget p0 x10).f0) = (4 : Int) then deriv_Empty_c2 k (deriv_Empty_l3 k p0 j) x9 x10 (decide (((lget p0 x10).f0) = (4 : Int)))
    else deriv_Empty_c2 k (deriv_Empty_l3 k p0 j) x9 x10 (decide (((lget p0 x10).f0) = (6 : Int)))
    else none
    else deriv_Empty_c0 k x9
def deriv_Empty (k : Nat) (p0 : (List S82)) : Option Bool :=
  deriv_Empty_l3 k p0 k ([] : List Bool) (0 : Int)
theorem deriv_Empty_spec {k : Nat} {p0 : (List S82)} {r : Bool} (h : deriv_Empty k p0 = some r) : Spec Try.prog 41 [(.fz 5 (p0.map e82))] (eBool r) := by
  rw [deriv_Empty.eq_1] at h
  refine Spec.intro (res := [.tmp 2]) Try.func41 rfl rfl rfl (Nat.le_of_ble_eq_true rfl) ?_
  refine AW.sr ?_
  refine AO.c (Calm.assign rfl rfl) ?_
  refine AO.nK [0] ?_
  refine AW.sr ?_
  refine AO.c (Calm.assign rfl rfl) ?_
  refine AO.nK [0, 3] ?_
  refine AW.seq_mid (fun ρ H => ∃ (n2 : Nat) (x3 : (List Bool)), ρ = [(3, (.own n2 0 x3.length))] ∧ H = [(n2, (.mem (.ar 1 (x3.map eBool))))] ∧ deriv_Empty_c0 k x3 = some r) ?_ ?_
  ·refine AW.sr ?_
   refine AO.c (Calm.move rfl rfl) ?_
   refine AO.c (Calm.lenL rfl rfl Try.underlying58) ?_
   refine AO.c (Calm.move rfl rfl) ?_
   refine AO.nK [3, 7, 8, 9] ?_
   refine AW.block ?_
   refine AW.nilOwn 3 1 rfl fun n52 => ?_
   refine AW.wK [3, 7, 8, 9] ?_
   refine AW.loop (fun kq ρ H => ∃ (n8 : Nat) (x9 : (List Bool)) (x10 : Int), ρ = [(3, (.own n8 0 x9.length)), (7, (.fz 5 (p0.map e82))), (8, (eI64 (p0.length : Int))), (9, (eI64 x10))] ∧ H = [(n8, (.mem (.ar 1 (x9.map eBool))))] ∧ deriv_Empty_l3 k p0 kq x9 x10 = some r) k ⟨n52, ([] : List Bool), (0 : Int), rfl, rfl, h⟩ ?_
   rintro kq12 _ _ ⟨n8, x9, x10, rfl, rfl, h⟩
   cases kq12 with
   | zero => rw [deriv_Empty_l3.eq_1] at h; cases h
   | succ kq12 =>
   rw [deriv_Empty_l3.eq_2] at h
   generalize hrec11 : deriv_Empty_l3 k p0 kq12 = rec11 at h
   refine AW.sr ?_
   refine AO.c (x := eBool (decide (x10 < (p0.length : Int)))) (Calm.int rfl rfl rfl rfl) ?_
   refine AO.nK [3, 7, 8, 9, 10] ?_
   refine AW.seq ?_
   rcases of_ite h with ⟨hc13, h⟩ | ⟨hc13, h⟩
   ·refine AW.condP _ rfl hc13 ?_
    refine AW.sK [3, 7, 8, 9] ?_
    refine AW.seq_mid (fun ρ H => ∃ (n14 : Nat) (x15 : (List Bool)), ρ = [(3, (.own n14 0 x15.length)), (7, (.fz 5 (p0.map e82))), (8, (eI64 (p0.length : Int))), (9, (eI64 x10))] ∧ H = [(n14, (.mem (.ar 1 (x15.map eBool))))] ∧ deriv_Empty_c1 k rec11 x10 x15 = some r) ?_ ?_
    ·refine AW.block ?_
     refine AW.sr ?_
     obtain ⟨hg16, h⟩ := of_guard h
     refine AO.c (Calm.idxL (f := e82) rfl rfl rfl hg16 Try.underlying58 sz82) ?_
     refine AO.c (Calm.loadRp rfl rfl ag82 sz82) ?_
     refine AO.alloc rfl 5 rfl (by decide) rfl zr82 lay82 fun n17 => ?_
     refine AO.store (X' := (e82 (lget p0 x10))) 0 rfl rfl rfl rfl rfl rfl (Put.cast Put.here rfl) rfl rfl sz82 rfl ?_
     refine AO.nH [3, 5, 7, 8, 9] (H' := [(n8, (.mem (.ar 1 (x9.map eBool)))), (n17, (.mem (e82 (lget p0 x10))))]) (Sub.cons 1 rfl (Sub.cons 0 rfl (Sub.nil _))) ?_
     refine AW.sr ?_
     refine AO.c (Calm.move rfl rfl) ?_
     refine AO.c (Calm.lenOwn rfl rfl Try.underlying25) ?_
     refine AO.c (Calm.assign rfl rfl) ?_
     refine AO.nK [3, 5, 6, 7, 8, 9] ?_
     refine AW.sr ?_
     refine AO.c (x := .ptr n17 0) (Calm.fldPtr rfl rfl Try.underlying82 rfl sz3 _ rfl) ?_
     refine AO.c (Calm.load 1 rfl rfl rfl (At.cast (At.fld0 At.here) rfl) ag3 sz3) ?_
     refine AO.nH [3, 6, 7, 8, 9, 16] (H' := [(n8, (.mem (.ar 1 (x9.map eBool))))]) (Sub.cons 0 rfl (Sub.nil _)) ?_
     refine AW.block ?_
     refine AW.sr ?_
     refine AO.c (x := eBool (decide (((lget p0 x10).f0) = (0 : Int)))) (Calm.int rfl rfl rfl rfl) ?_
     refine AO.c (Calm.assign rfl rfl) ?_
     refine AO.nK [3, 6, 7, 8, 9, 16, 17] ?_
     rcases of_ite h with ⟨hc18, h⟩ | ⟨hc18, h⟩
     ·refine AW.condP _ rfl hc18 ?_
      refine AW.reg ?_
      refine AO.c (Calm.move rfl rfl) ?_
      refine AO.lit (Z := (eBool false)) (xs := (([true] : List Bool).map eBool)) (qs := [(0, (eBool true))]) rfl 20 rfl (by decide) rfl ⟨rfl, rfl, rfl, trivial⟩ Try.underlying25 sz4 zr4 lay4 rfl (by decide) (litOK (z := 1) [(eBool true)] rfl ⟨⟨rfl, rfl⟩, trivial⟩) rfl fun n19 => ?_
      obtain ⟨hg21, h⟩ := of_guard h
      refine AO.appendL (l := x9) (m := ([true] : List Bool)) 1 21 rfl (by decide) rfl rfl rfl rfl rfl (Src.ownL (f := eBool) (l := ([true] : List Bool)) 0 rfl) Try.underlying25 Try.underlying25 sz4 by4 zr4 rfl hg21 (by decide) fun n20 => ?_
      refine AO.c (Calm.assign rfl rfl) ?_
      refine AO.nH [3, 7, 8, 9] (H' := [(n20, (.mem (.ar 1 ((x9 ++ ([true] : List Bool)).map eBool))))]) (Sub.cons 1 rfl (Sub.nil _)) ?_
      exact ⟨n20, (x9 ++ ([true] : List Bool)), rfl, rfl, h⟩
     ·refine AW.condN _ rfl hc18 ?_
      refine AW.sr ?_
      refine AO.c (x := eBool (decide (((lget p0 x10).f0) = (1 : Int)))) (Calm.int rfl rfl rfl rfl) ?_
      refine AO.c (Calm.assign rfl rfl) ?_
      refine AO.nK [3, 6, 7, 8, 9, 16, 22] ?_
      rcases of_ite h with ⟨hc22, h⟩ | ⟨hc22, h⟩
      ·refine AW.condP _ rfl hc22 ?_
       refine AW.reg ?_
       refine AO.c (Calm.move rfl rfl) ?_
       refine AO.lit (Z := (eBool false)) (xs := (([false] : List Bool).map eBool)) (qs := [(0, (eBool false))]) rfl 25 rfl (by decide) rfl ⟨rfl, rfl, rfl, trivial⟩ Try.underlying25 sz4 zr4 lay4 rfl (by decide) (litOK (z := 1) [(eBool false)] rfl ⟨⟨rfl, rfl⟩, trivial⟩) rfl fun n23 => ?_
       obtain ⟨hg25, h⟩ := of_guard h
       refine AO.appendL (l := x9) (m := ([false] : List Bool)) 1 26 rfl (by decide) rfl rfl rfl rfl rfl (Src.ownL (f := eBool) (l := ([false] : List Bool)) 0 rfl) Try.underlying25 Try.underlying25 sz4 by4 zr4 rfl hg25 (by decide) fun n24 => ?_
       refine AO.c (Calm.assign rfl rfl) ?_
       refine AO.nH [3, 7, 8, 9] (H' := [(n24, (.mem (.ar 1 ((x9 ++ ([false] : List Bool)).map eBool))))]) (Sub.cons 1 rfl (Sub.nil _)) ?_
       exact ⟨n24, (x9 ++ ([false] : List Bool)), rfl, rfl, h⟩
      ·refine AW.condN _ rfl hc22 ?_
       refine AW.sr ?_
       refine AO.c (x := eBool (decide (((lget p0 x10).f0) = (2 : Int)))) (Calm.int rfl rfl rfl rfl) ?_
       refine AO.c (Calm.assign rfl rfl) ?_
       refine AO.nK [3, 6, 7, 8, 9, 16, 27] ?_
       rcases of_ite h with ⟨hc26, h⟩ | ⟨hc26, h⟩
       ·refine AW.condP _ rfl hc26 ?_
        obtain ⟨hg27, h⟩ := of_guard h
        obtain ⟨hg28, h⟩ := of_guard h
        rcases of_ite h with ⟨hc29, h⟩ | ⟨hc29, h⟩
        ·obtain ⟨hg30, h⟩ := of_guard h
         obtain ⟨hg33, h⟩ := of_guard h
         refine AW.regEff (by rfl) (by decide +kernel) (fun (σ : Nat → Nat) => ([(.own n8 0 x9.length), (eI64 (x9.length : Int)), (eI64 (w64 ((x9.length : Int) - (2 : Int)))), (.own n8 0 ((w64 ((x9.length : Int) - (2 : Int))).toNat)), (.own n8 0 x9.length), (eI64 (x9.length : Int)), (eI64 (w64 ((x9.length : Int) - (2 : Int)))), (.ptr n8 ((w64 ((x9.length : Int) - (2 : Int))).toNat * 1 + 0)), (eBool (lget x9 (w64 ((x9.length : Int) - (2 : Int))))), (eBool (lget x9 (w64 ((x9.length : Int) - (2 : Int))))), (.own n8 0 x9.length), (eI64 (x9.length : Int)), (eI64 (w64 ((x9.length : Int) - (1 : Int)))), (.ptr n8 ((w64 ((x9.length : Int) - (1 : Int))).toNat * 1 + 0)), (eBool (lget x9 (w64 ((x9.length : Int) - (1 : Int))))), (eBool (lget x9 (w64 ((x9.length : Int) - (1 : Int))))), (.fz 1 (([(lget x9 (w64 ((x9.length : Int) - (1 : Int))))] : List Bool).map eBool)), (.own (σ 17) 0 (x9.take ((w64 ((x9.length : Int) - (2 : Int))).toNat) ++ ([(lget x9 (w64 ((x9.length : Int) - (1 : Int))))] : List Bool)).length), (.own (σ 17) 0 (x9.take ((w64 ((x9.length : Int) - (2 : Int))).toNat) ++ ([(lget x9 (w64 ((x9.length : Int) - (1 : Int))))] : List Bool)).length)] : List AV)) (fun (L : Nat → Bool) (σ : Nat → Nat) => ((bif L 17 then (((σ 17), (.mem (.ar 1 ((x9.take ((w64 ((x9.length : Int) - (2 : Int))).toNat) ++ ([(lget x9 (w64 ((x9.length : Int) - (1 : Int))))] : List Bool)).map eBool)))) :: []) else ((n8, (.mem (.ar 1 (x9.map eBool)))) :: [])) : Heap)) [(3, (.own n8 0 x9.length)), (6, (eI64 (x9.length : Int))), (7, (.fz 5 (p0.map e82))), (8, (eI64 (p0.length : Int))), (9, (eI64 x10))] ⟨rfl, rfl, rfl, rfl, rfl, trivial⟩ (fun _ => rfl) (fun σ => (Sub.refl _)) ⟨?_, ?_, ?_, ?_, ?_, ?_, ?_, ?_, ?_, ?_, ?_, ?_, ?_, ?_, ?_, ?_, ?_, ?_, ?_, trivial⟩ (fun σ => [(3, (.own (σ 17) 0 (x9.take ((w64 ((x9.length : Int) - (2 : Int))).toNat) ++ ([(lget x9 (w64 ((x9.length : Int) - (1 : Int))))] : List Bool)).length)), (7, (.fz 5 (p0.map e82))), (8, (eI64 (p0.length : Int))), (9, (eI64 x10))]) (fun σ => (((σ 17), (.mem (.ar 1 ((x9.take ((w64 ((x9.length : Int) - (2 : Int))).toNat) ++ ([(lget x9 (w64 ((x9.length : Int) - (1 : Int))))] : List Bool)).map eBool)))) :: [])) (fun σ => ⟨rfl, rfl, rfl, rfl, trivial⟩) (fun σ => Sub.refl _) (fun σ => ?_)
         ·refine StepE.calm (fun _ _ => rfl) fun L σ hc hi hd => ?_
          have m3 : L 3 = false := hc.neg (i := 0) (j := 3) rfl (by rfl) hi
          have m17 : L 17 = false := hc.neg (i := 3) (j := 17) rfl (by rfl) m3
          refine AO.heq (H' := ((n8, (.mem (.ar 1 (x9.map eBool)))) :: [])) (by first | rfl | simp only [m17, cond_true, cond_false]) ?_
          refine AO.wK [3] ?_
          refine AO.c (Calm.move rfl rfl) ?_
          exact AO.nE (d := 29) rfl ⟨⟨29, _, rfl, rfl, rfl⟩, Sub.of_eq (by first | rfl | simp only [m17, cond_true, cond_false]) (Sub.refl _)⟩
         ·refine StepE.calm (fun _ _ => rfl) fun L σ hc hi hd => ?_
          refine AO.wK [6] ?_
          refine AO.c (Calm.move rfl rfl) ?_
          exact AO.nE (d := 30) rfl ⟨⟨30, _, rfl, rfl, rfl⟩, Sub.refl _⟩
         ·refine StepE.calm (fun _ _ => rfl) fun L σ hc hi hd => ?_
          refine AO.wK [30] ?_
          refine AO.c (x := eI64 (w64 ((x9.length : Int) - (2 : Int)))) (Calm.int rfl rfl rfl rfl) ?_
          exact AO.nE (d := 31) rfl ⟨⟨31, _, rfl, rfl, rfl⟩, Sub.refl _⟩
         ·refine StepE.calm (fun _ _ => rfl) fun L σ hc hi hd => ?_
          have m17 : L 17 = false := hc.neg (i := 3) (j := 17) rfl (by rfl) hi
          refine AO.heq (H' := ((n8, (.mem (.ar 1 (x9.map eBool)))) :: [])) (by first | rfl | simp only [m17, cond_true, cond_false]) ?_
          refine AO.wK [29, 31] ?_
          refine AO.c (x := .own n8 0 ((w64 ((x9.length : Int) - (2 : Int))).toNat)) (Calm.preO 0 rfl rfl rfl rfl hg27 Try.underlying25 sz4) ?_
          exact AO.nE (d := 32) rfl ⟨⟨32, _, rfl, rfl, rfl⟩, Sub.of_eq (by first | rfl | simp only [m17, cond_true, cond_false]) (Sub.refl _)⟩
         ·refine StepE.calm (fun _ _ => rfl) fun L σ hc hi hd => ?_
          have m7 : L 7 = false := hc.neg (i := 4) (j := 7) rfl (by rfl) hi
          have m8 : L 8 = false := hc.neg (i := 7) (j := 8) rfl (by rfl) m7
          have m9 : L 9 = false := hc.neg (i := 8) (j := 9) rfl (by rfl) m8
          have m15 : L 15 = false := hc.neg (i := 9) (j := 15) rfl (by rfl) m9
          have m16 : L 16 = false := hc.neg (i := 15) (j := 16) rfl (by rfl) m15
          have m17 : L 17 = false := hc.neg (i := 16) (j := 17) rfl (by rfl) m16
          refine AO.heq (H' := ((n8, (.mem (.ar 1 (x9.map eBool)))) :: [])) (by first | rfl | simp only [m17, cond_true, cond_false]) ?_
          refine AO.wK [3] ?_
          refine AO.c (Calm.move rfl rfl) ?_
          exact AO.nE (d := 33) rfl ⟨⟨33, _, rfl, rfl, rfl⟩, Sub.of_eq (by first | rfl | simp only [m17, cond_true, cond_false]) (Sub.refl _)⟩
         ·refine StepE.calm (fun _ _ => rfl) fun L σ hc hi hd => ?_
          refine AO.wK [6] ?_
          refine AO.c (Calm.move rfl rfl) ?_
          exact AO.nE (d := 34) rfl ⟨⟨34, _, rfl, rfl, rfl⟩, Sub.refl _⟩
         ·refine StepE.calm (fun _ _ => rfl) fun L σ hc hi hd => ?_
          refine AO.wK [34] ?_
          refine AO.c (x := eI64 (w64 ((x9.length : Int) - (2 : Int)))) (Calm.int rfl rfl rfl rfl) ?_
          exact AO.nE (d := 35) rfl ⟨⟨35, _, rfl, rfl, rfl⟩, Sub.refl _⟩
         ·refine StepE.calm (fun _ _ => rfl) fun L σ hc hi hd => ?_
          have m8 : L 8 = false := hc.neg (i := 7) (j := 8) rfl (by rfl) hi
          have m9 : L 9 = false := hc.neg (i := 8) (j := 9) rfl (by rfl) m8
          have m15 : L 15 = false := hc.neg (i := 9) (j := 15) rfl (by rfl) m9
          have m16 : L 16 = false := hc.neg (i := 15) (j := 16) rfl (by rfl) m15
          have m17 : L 17 = false := hc.neg (i := 16) (j := 17) rfl (by rfl) m16
          refine AO.heq (H' := ((n8, (.mem (.ar 1 (x9.map eBool)))) :: [])) (by first | rfl | simp only [m17, cond_true, cond_false]) ?_
          refine AO.wK [33, 35] ?_
          refine AO.c (Calm.idxO 0 rfl rfl rfl rfl hg28 Try.underlying25 sz4) ?_
          exact AO.nE (d := 36) rfl ⟨⟨36, _, rfl, rfl, rfl⟩, Sub.of_eq (by first | rfl | simp only [m17, cond_true, cond_false]) (Sub.refl _)⟩
         ·refine StepE.calm (fun _ _ => rfl) fun L σ hc hi hd => ?_
          have m9 : L 9 = false := hc.neg (i := 8) (j := 9) rfl (by rfl) hi
          have m15 : L 15 = false := hc.neg (i := 9) (j := 15) rfl (by rfl) m9
          have m16 : L 16 = false := hc.neg (i := 15) (j := 16) rfl (by rfl) m15
          have m17 : L 17 = false := hc.neg (i := 16) (j := 17) rfl (by rfl) m16
          refine AO.heq (H' := ((n8, (.mem (.ar 1 (x9.map eBool)))) :: [])) (by first | rfl | simp only [m17, cond_true, cond_false]) ?_
          refine AO.wK [36] ?_
          refine AO.c (Calm.load 0 rfl rfl rfl (At.cast (At.lidx (w64 ((x9.length : Int) - (2 : Int))) hg28.1 hg28.2 At.here) (by omega)) ag4 sz4) ?_
          exact AO.nE (d := 37) rfl ⟨⟨37, _, rfl, rfl, rfl⟩, Sub.of_eq (by first | rfl | simp only [m17, cond_true, cond_false]) (Sub.refl _)⟩
         ·refine StepE.calm (fun _ _ => rfl) fun L σ hc hi hd => ?_
          refine AO.wK [37] ?_
          refine AO.c (Calm.move rfl rfl) ?_
          exact AO.nE (d := 38) rfl ⟨⟨38, _, rfl, rfl, rfl⟩, Sub.refl _⟩
         ·refine StepE.calm (fun _ _ => rfl) fun L σ hc hi hd => ?_
          have m13 : L 13 = false := hc.neg (i := 10) (j := 13) rfl (by rfl) hi
          have m14 : L 14 = false := hc.neg (i := 13) (j := 14) rfl (by rfl) m13
          have m15 : L 15 = false := hc.neg (i := 14) (j := 15) rfl (by rfl) m14
          have m16 : L 16 = false := hc.neg (i := 15) (j := 16) rfl (by rfl) m15
          have m17 : L 17 = false := hc.neg (i := 16) (j := 17) rfl (by rfl) m16
          refine AO.heq (H' := ((n8, (.mem (.ar 1 (x9.map eBool)))) :: [])) (by first | rfl | simp only [m17, cond_true, cond_false]) ?_
          refine AO.wK [3, 38] ?_
          refine AO.cG rfl rfl (bD hc29) (Calm.move rfl rfl) ?_
          exact AO.nE (d := 39) rfl ⟨⟨39, _, rfl, rfl, rfl⟩, Sub.of_eq (by first | rfl | simp only [m17, cond_true, cond_false]) (Sub.refl _)⟩
         ·refine StepE.calm (fun _ _ => rfl) fun L σ hc hi hd => ?_
          refine AO.wK [6, 38] ?_
          refine AO.cG rfl rfl (bD hc29) (Calm.move rfl rfl) ?_
          exact AO.nE (d := 40) rfl ⟨⟨40, _, rfl, rfl, rfl⟩, Sub.refl _⟩
         ·refine StepE.calm (fun _ _ => rfl) fun L σ hc hi hd => ?_
          refine AO.wK [38, 40] ?_
          refine AO.cG (x := eI64 (w64 ((x9.length : Int) - (1 : Int)))) rfl rfl (bD hc29) (Calm.int rfl rfl rfl rfl) ?_
          exact AO.nE (d := 41) rfl ⟨⟨41, _, rfl, rfl, rfl⟩, Sub.refl _⟩
         ·refine StepE.calm (fun _ _ => rfl) fun L σ hc hi hd => ?_
          have m14 : L 14 = false := hc.neg (i := 13) (j := 14) rfl (by rfl) hi
          have m15 : L 15 = false := hc.neg (i := 14) (j := 15) rfl (by rfl) m14
          have m16 : L 16 = false := hc.neg (i := 15) (j := 16) rfl (by rfl) m15
          have m17 : L 17 = false := hc.neg (i := 16) (j := 17) rfl (by rfl) m16
          refine AO.heq (H' := ((n8, (.mem (.ar 1 (x9.map eBool)))) :: [])) (by first | rfl | simp only [m17, cond_true, cond_false]) ?_
          refine AO.wK [38, 39, 41] ?_
          refine AO.cG rfl rfl (bD hc29) (Calm.idxO 0 rfl rfl rfl rfl hg30 Try.underlying25 sz4) ?_
          exact AO.nE (d := 42) rfl ⟨⟨42, _, rfl, rfl, rfl⟩, Sub.of_eq (by first | rfl | simp only [m17, cond_true, cond_false]) (Sub.refl _)⟩
         ·refine StepE.calm (fun _ _ => rfl) fun L σ hc hi hd => ?_
          have m15 : L 15 = false := hc.neg (i := 14) (j := 15) rfl (by rfl) hi
          have m16 : L 16 = false := hc.neg (i := 15) (j := 16) rfl (by rfl) m15
          have m17 : L 17 = false := hc.neg (i := 16) (j := 17) rfl (by rfl) m16
          refine AO.heq (H' := ((n8, (.mem (.ar 1 (x9.map eBool)))) :: [])) (by first | rfl | simp only [m17, cond_true, cond_false]) ?_
          refine AO.wK [38, 42] ?_
          refine AO.cG rfl rfl (bD hc29) (Calm.load 0 rfl rfl rfl (At.cast (At.lidx (w64 ((x9.length : Int) - (1 : Int))) hg30.1 hg30.2 At.here) (by omega)) ag4 sz4) ?_
          exact AO.nE (d := 43) rfl ⟨⟨43, _, rfl, rfl, rfl⟩, Sub.of_eq (by first | rfl | simp only [m17, cond_true, cond_false]) (Sub.refl _)⟩
         ·refine StepE.calm (fun _ _ => rfl) fun L σ hc hi hd => ?_
          refine AO.wK [38, 43] ?_
          refine AO.c (Calm.pickT rfl (bD hc29) rfl) ?_
          exact AO.nE (d := 44) rfl ⟨⟨44, _, rfl, rfl, rfl⟩, Sub.refl _⟩
         ·refine StepE.calm (fun _ _ => rfl) fun L σ hc hi hd => ?_
          refine AO.wK [44] ?_
          refine AO.lit (Z := (eBool false)) (xs := (([(lget x9 (w64 ((x9.length : Int) - (1 : Int))))] : List Bool).map eBool)) (qs := [(0, (eBool (lget x9 (w64 ((x9.length : Int) - (1 : Int))))))]) rfl 45 rfl (by decide) rfl ⟨rfl, rfl, rfl, trivial⟩ Try.underlying25 sz4 zr4 lay4 rfl (by decide) (litOK (z := 1) [(eBool (lget x9 (w64 ((x9.length : Int) - (1 : Int)))))] rfl ⟨⟨rfl, rfl⟩, trivial⟩) rfl fun n31 => ?_
          refine AO.freezeS 0 [(45, (.fz 1 (([(lget x9 (w64 ((x9.length : Int) - (1 : Int))))] : List Bool).map eBool)))] rfl ⟨fz_all rfl, trivial⟩ ?_
          exact AO.nE (d := 45) rfl ⟨⟨45, _, rfl, rfl, rfl⟩, Sub.refl _⟩
         ·intro L σ hc hi hd
          refine AO.heq (H' := ((n8, (.mem (.ar 1 (x9.map eBool)))) :: [])) (by first | rfl | simp only [hi, cond_true, cond_false]) ?_
          refine AO.wK [32, 45] ?_
          refine AO.appendCut (l := x9) (m := ([(lget x9 (w64 ((x9.length : Int) - (1 : Int))))] : List Bool)) 0 46 rfl (by decide) rfl rfl rfl (by omega) rfl rfl Src.fz Try.underlying25 Try.underlying25 sz4 by4 zr4 rfl hg33 (by decide) fun n32 => ?_
          have a17 : addL L 17 17 = true := rfl
          have u17 : upd σ 17 n32 17 = n32 := rfl
          have m18 : L 18 = false := hc.neg (i := 17) (j := 18) rfl (by rfl) hi
          exact AO.nE (d := 46) rfl ⟨(upd σ 17 n32), (fun j hj => match j, hj with | 0, _ => rfl | 1, _ => rfl | 2, _ => rfl | 3, _ => rfl | 4, _ => rfl | 5, _ => rfl | 6, _ => rfl | 7, _ => rfl | 8, _ => rfl | 9, _ => rfl | 10, _ => rfl | 11, _ => rfl | 12, _ => rfl | 13, _ => rfl | 14, _ => rfl | 15, _ => rfl | 16, _ => rfl | 17, hj => Bool.noConfusion (hj.symm.trans hi) | 18, hj => Bool.noConfusion (hj.symm.trans m18) | _ + 19, _ => rfl), (fun d' hd' => ⟨_, rfl, by cases hd'; rfl⟩), Sub.of_eq (B := ((n32, (.mem (.ar 1 ((x9.take ((w64 ((x9.length : Int) - (2 : Int))).toNat) ++ ([(lget x9 (w64 ((x9.length : Int) - (1 : Int))))] : List Bool)).map eBool)))) :: [])) (by simp only [a17, u17, cond_true, cond_false]) (Sub.refl _)⟩
         ·refine StepE.calm (fun _ _ => rfl) fun L σ hc hi hd => ?_
          have y17 : L 17 = true := on_get hd (i := 17) (by rfl)
          refine AO.heq (H' := (((σ 17), (.mem (.ar 1 ((x9.take ((w64 ((x9.length : Int) - (2 : Int))).toNat) ++ ([(lget x9 (w64 ((x9.length : Int) - (1 : Int))))] : List Bool)).map eBool)))) :: [])) (by first | rfl | simp only [y17, cond_true, cond_false]) ?_
          refine AO.wK [46] ?_
          refine AO.c (Calm.assign rfl rfl) ?_
          exact AO.nE (d := 3) rfl ⟨⟨3, _, rfl, rfl, rfl⟩, Sub.of_eq (by first | rfl | simp only [y17, cond_true, cond_false]) (Sub.refl _)⟩
         ·generalize σ 17 = n32
          refine AO.nK [3, 7, 8, 9] ?_
          exact ⟨n32, (x9.take ((w64 ((x9.length : Int) - (2 : Int))).toNat) ++ ([(lget x9 (w64 ((x9.length : Int) - (1 : Int))))] : List Bool)), rfl, rfl, h⟩
        ·obtain ⟨hg36, h⟩ := of_guard h
         refine AW.regEff (by rfl) (by decide +kernel) (fun (σ : Nat → Nat) => ([(.own n8 0 x9.length), (eI64 (x9.length : Int)), (eI64 (w64 ((x9.length : Int) - (2 : Int)))), (.own n8 0 ((w64 ((x9.length : Int) - (2 : Int))).toNat)), (.own n8 0 x9.length), (eI64 (x9.length : Int)), (eI64 (w64 ((x9.length : Int) - (2 : Int)))), (.ptr n8 ((w64 ((x9.length : Int) - (2 : Int))).toNat * 1 + 0)), (eBool (lget x9 (w64 ((x9.length : Int) - (2 : Int))))), (eBool (lget x9 (w64 ((x9.length : Int) - (2 : Int))))), (.fl undef), (.fl undef), (.fl undef), (.fl undef), (.fl undef), (eBool false), (.fz 1 (([false] : List Bool).map eBool)), (.own (σ 17) 0 (x9.take ((w64 ((x9.length : Int) - (2 : Int))).toNat) ++ ([false] : List Bool)).length), (.own (σ 17) 0 (x9.take ((w64 ((x9.length : Int) - (2 : Int))).toNat) ++ ([false] : List Bool)).length)] : List AV)) (fun (L : Nat → Bool) (σ : Nat → Nat) => ((bif L 17 then (((σ 17), (.mem (.ar 1 ((x9.take ((w64 ((x9.length : Int) - (2 : Int))).toNat) ++ ([false] : List Bool)).map eBool)))) :: []) else ((n8, (.mem (.ar 1 (x9.map eBool)))) :: [])) : Heap)) [(3, (.own n8 0 x9.length)), (6, (eI64 (x9.length : Int))), (7, (.fz 5 (p0.map e82))), (8, (eI64 (p0.length : Int))), (9, (eI64 x10))] ⟨rfl, rfl, rfl, rfl, rfl, trivial⟩ (fun _ => rfl) (fun σ => (Sub.refl _)) ⟨?_, ?_, ?_, ?_, ?_, ?_, ?_, ?_, ?_, ?_, ?_, ?_, ?_, ?_, ?_, ?_, ?_, ?_, ?_, trivial⟩ (fun σ => [(3, (.own (σ 17) 0 (x9.take ((w64 ((x9.length : Int) - (2 : Int))).toNat) ++ ([false] : List Bool)).length)), (7, (.fz 5 (p0.map e82))), (8, (eI64 (p0.length : Int))), (9, (eI64 x10))]) (fun σ => (((σ 17), (.mem (.ar 1 ((x9.take ((w64 ((x9.length : Int) - (2 : Int))).toNat) ++ ([false] : List Bool)).map eBool)))) :: [])) (fun σ => ⟨rfl, rfl, rfl, rfl, trivial⟩) (fun σ => Sub.refl _) (fun σ => ?_)
         ·refine StepE.calm (fun _ _ => rfl) fun L σ hc hi hd => ?_
          have m3 : L 3 = false := hc.neg (i := 0) (j := 3) rfl (by rfl) hi
          have m17 : L 17 = false := hc.neg (i := 3) (j := 17) rfl (by rfl) m3
          refine AO.heq (H' := ((n8, (.mem (.ar 1 (x9.map eBool)))) :: [])) (by first | rfl | simp only [m17, cond_true, cond_false]) ?_
          refine AO.wK [3] ?_
          refine AO.c (Calm.move rfl rfl) ?_
          exact AO.nE (d := 29) rfl ⟨⟨29, _, rfl, rfl, rfl⟩, Sub.of_eq (by first | rfl | simp only [m17, cond_true, cond_false]) (Sub.refl _)⟩
         ·refine StepE.calm (fun _ _ => rfl) fun L σ hc hi hd => ?_
          refine AO.wK [6] ?_
          refine AO.c (Calm.move rfl rfl) ?_
          exact AO.nE (d := 30) rfl ⟨⟨30, _, rfl, rfl, rfl⟩, Sub.refl _⟩
         ·refine StepE.calm (fun _ _ => rfl) fun L σ hc hi hd => ?_
          refine AO.wK [30] ?_
          refine AO.c (x := eI64 (w64 ((x9.length : Int) - (2 : Int)))) (Calm.int rfl rfl rfl rfl) ?_
          exact AO.nE (d := 31) rfl ⟨⟨31, _, rfl, rfl, rfl⟩, Sub.refl _⟩
         ·refine StepE.calm (fun _ _ => rfl) fun L σ hc hi hd => ?_
          have m17 : L 17 = false := hc.neg (i := 3) (j := 17) rfl (by rfl) hi
          refine AO.heq (H' := ((n8, (.mem (.ar 1 (x9.map eBool)))) :: [])) (by first | rfl | simp only [m17, cond_true, cond_false]) ?_
          refine AO.wK [29, 31] ?_
          refine AO.c (x := .own n8 0 ((w64 ((x9.length : Int) - (2 : Int))).toNat)) (Calm.preO 0 rfl rfl rfl rfl hg27 Try.underlying25 sz4) ?_
          exact AO.nE (d := 32) rfl ⟨⟨32, _, rfl, rfl, rfl⟩, Sub.of_eq (by first | rfl | simp only [m17, cond_true, cond_false]) (Sub.refl _)⟩
         ·refine StepE.calm (fun _ _ => rfl) fun L σ hc hi hd => ?_
          have m7 : L 7 = false := hc.neg (i := 4) (j := 7) rfl (by rfl) hi
          have m8 : L 8 = false := hc.neg (i := 7) (j := 8) rfl (by rfl) m7
          have m9 : L 9 = false := hc.neg (i := 8) (j := 9) rfl (by rfl) m8
          have m15 : L 15 = false := hc.neg (i := 9) (j := 15) rfl (by rfl) m9
          have m16 : L 16 = false := hc.neg (i := 15) (j := 16) rfl (by rfl) m15
          have m17 : L 17 = false := hc.neg (i := 16) (j := 17) rfl (by rfl) m16
          refine AO.heq (H' := ((n8, (.mem (.ar 1 (x9.map eBool)))) :: [])) (by first | rfl | simp only [m17, cond_true, cond_false]) ?_
          refine AO.wK [3] ?_
          refine AO.c (Calm.move rfl rfl) ?_
          exact AO.nE (d := 33) rfl ⟨⟨33, _, rfl, rfl, rfl⟩, Sub.of_eq (by first | rfl | simp only [m17, cond_true, cond_false]) (Sub.refl _)⟩
         ·refine StepE.calm (fun _ _ => rfl) fun L σ hc hi hd => ?_
          refine AO.wK [6] ?_
          refine AO.c (Calm.move rfl rfl) ?_
          exact AO.nE (d := 34) rfl ⟨⟨34, _, rfl, rfl, rfl⟩, Sub.refl _⟩
         ·refine StepE.calm (fun _ _ => rfl) fun L σ hc hi hd => ?_
          refine AO.wK [34] ?_
          refine AO.c (x := eI64 (w64 ((x9.length : Int) - (2 : Int)))) (Calm.int rfl rfl rfl rfl) ?_
          exact AO.nE (d := 35) rfl ⟨⟨35, _, rfl, rfl, rfl⟩, Sub.refl _⟩
         ·refine StepE.calm (fun _ _ => rfl) fun L σ hc hi hd => ?_
          have m8 : L 8 = false := hc.neg (i := 7) (j := 8) rfl (by rfl) hi
          have m9 : L 9 = false := hc.neg (i := 8) (j := 9) rfl (by rfl) m8
          have m15 : L 15 = false := hc.neg (i := 9) (j := 15) rfl (by rfl) m9
          have m16 : L 16 = false := hc.neg (i := 15) (j := 16) rfl (by rfl) m15
          have m17 : L 17 = false := hc.neg (i := 16) (j := 17) rfl (by rfl) m16
          refine AO.heq (H' := ((n8, (.mem (.ar 1 (x9.map eBool)))) :: [])) (by first | rfl | simp only [m17, cond_true, cond_false]) ?_
          refine AO.wK [33, 35] ?_
          refine AO.c (Calm.idxO 0 rfl rfl rfl rfl hg28 Try.underlying25 sz4) ?_
          exact AO.nE (d := 36) rfl ⟨⟨36, _, rfl, rfl, rfl⟩, Sub.of_eq (by first | rfl | simp only [m17, cond_true, cond_false]) (Sub.refl _)⟩
         ·refine StepE.calm (fun _ _ => rfl) fun L σ hc hi hd => ?_
          have m9 : L 9 = false := hc.neg (i := 8) (j := 9) rfl (by rfl) hi
          have m15 : L 15 = false := hc.neg (i := 9) (j := 15) rfl (by rfl) m9
          have m16 : L 16 = false := hc.neg (i := 15) (j := 16) rfl (by rfl) m15
          have m17 : L 17 = false := hc.neg (i := 16) (j := 17) rfl (by rfl) m16
          refine AO.heq (H' := ((n8, (.mem (.ar 1 (x9.map eBool)))) :: [])) (by first | rfl | simp only [m17, cond_true, cond_false]) ?_
          refine AO.wK [36] ?_
          refine AO.c (Calm.load 0 rfl rfl rfl (At.cast (At.lidx (w64 ((x9.length : Int) - (2 : Int))) hg28.1 hg28.2 At.here) (by omega)) ag4 sz4) ?_
          exact AO.nE (d := 37) rfl ⟨⟨37, _, rfl, rfl, rfl⟩, Sub.of_eq (by first | rfl | simp only [m17, cond_true, cond_false]) (Sub.refl _)⟩
         ·refine StepE.calm (fun _ _ => rfl) fun L σ hc hi hd => ?_
          refine AO.wK [37] ?_
          refine AO.c (Calm.move rfl rfl) ?_
          exact AO.nE (d := 38) rfl ⟨⟨38, _, rfl, rfl, rfl⟩, Sub.refl _⟩
         ·refine StepE.calm (fun _ _ => rfl) fun L σ hc hi hd => ?_
          refine AO.wK [38] ?_
          refine AO.sT rfl rfl (bD (eq_false_of_ne_true hc29)) ?_
          exact AO.nE (d := 39) rfl ⟨⟨39, _, rfl, rfl, rfl⟩, Sub.refl _⟩
         ·refine StepE.calm (fun _ _ => rfl) fun L σ hc hi hd => ?_
          refine AO.wK [38] ?_
          refine AO.sT rfl rfl (bD (eq_false_of_ne_true hc29)) ?_
          exact AO.nE (d := 40) rfl ⟨⟨40, _, rfl, rfl, rfl⟩, Sub.refl _⟩
         ·refine StepE.calm (fun _ _ => rfl) fun L σ hc hi hd => ?_
          refine AO.wK [38] ?_
          refine AO.sT rfl rfl (bD (eq_false_of_ne_true hc29)) ?_
          exact AO.nE (d := 41) rfl ⟨⟨41, _, rfl, rfl, rfl⟩, Sub.refl _⟩
         ·refine StepE.calm (fun _ _ => rfl) fun L σ hc hi hd => ?_
          refine AO.wK [38] ?_
          refine AO.sT rfl rfl (bD (eq_false_of_ne_true hc29)) ?_
          exact AO.nE (d := 42) rfl ⟨⟨42, _, rfl, rfl, rfl⟩, Sub.refl _⟩
         ·refine StepE.calm (fun _ _ => rfl) fun L σ hc hi hd => ?_
          refine AO.wK [38] ?_
          refine AO.sT rfl rfl (bD (eq_false_of_ne_true hc29)) ?_
          exact AO.nE (d := 43) rfl ⟨⟨43, _, rfl, rfl, rfl⟩, Sub.refl _⟩
         ·refine StepE.calm (fun _ _ => rfl) fun L σ hc hi hd => ?_
          refine AO.wK [38, 43] ?_
          refine AO.c (Calm.pickF rfl (bD (eq_false_of_ne_true hc29)) rfl) ?_
          exact AO.nE (d := 44) rfl ⟨⟨44, _, rfl, rfl, rfl⟩, Sub.refl _⟩
         ·refine StepE.calm (fun _ _ => rfl) fun L σ hc hi hd => ?_
          refine AO.wK [44] ?_
          refine AO.lit (Z := (eBool false)) (xs := (([false] : List Bool).map eBool)) (qs := [(0, (eBool false))]) rfl 45 rfl (by decide) rfl ⟨rfl, rfl, rfl, trivial⟩ Try.underlying25 sz4 zr4 lay4 rfl (by decide) (litOK (z := 1) [(eBool false)] rfl ⟨⟨rfl, rfl⟩, trivial⟩) rfl fun n34 => ?_
          refine AO.freezeS 0 [(45, (.fz 1 (([false] : List Bool).map eBool)))] rfl ⟨fz_all rfl, trivial⟩ ?_
          exact AO.nE (d := 45) rfl ⟨⟨45, _, rfl, rfl, rfl⟩, Sub.refl _⟩
         ·intro L σ hc hi hd
          refine AO.heq (H' := ((n8, (.mem (.ar 1 (x9.map eBool)))) :: [])) (by first | rfl | simp only [hi, cond_true, cond_false]) ?_
          refine AO.wK [32, 45] ?_
          refine AO.appendCut (l := x9) (m := ([false] : List Bool)) 0 46 rfl (by decide) rfl rfl rfl (by omega) rfl rfl Src.fz Try.underlying25 Try.underlying25 sz4 by4 zr4 rfl hg36 (by decide) fun n35 => ?_
          have a17 : addL L 17 17 = true := rfl
          have u17 : upd σ 17 n35 17 = n35 := rfl
          have m18 : L 18 = false := hc.neg (i := 17) (j := 18) rfl (by rfl) hi
          exact AO.nE (d := 46) rfl ⟨(upd σ 17 n35), (fun j hj => match j, hj with | 0, _ => rfl | 1, _ => rfl | 2, _ => rfl | 3, _ => rfl | 4, _ => rfl | 5, _ => rfl | 6, _ => rfl | 7, _ => rfl | 8, _ => rfl | 9, _ => rfl | 10, _ => rfl | 11, _ => rfl | 12, _ => rfl | 13, _ => rfl | 14, _ => rfl | 15, _ => rfl | 16, _ => rfl | 17, hj => Bool.noConfusion (hj.symm.trans hi) | 18, hj => Bool.noConfusion (hj.symm.trans m18) | _ + 19, _ => rfl), (fun d' hd' => ⟨_, rfl, by cases hd'; rfl⟩), Sub.of_eq (B := ((n35, (.mem (.ar 1 ((x9.take ((w64 ((x9.length : Int) - (2 : Int))).toNat) ++ ([false] : List Bool)).map eBool)))) :: [])) (by simp only [a17, u17, cond_true, cond_false]) (Sub.refl _)⟩
         ·refine StepE.calm (fun _ _ => rfl) fun L σ hc hi hd => ?_
          have y17 : L 17 = true := on_get hd (i := 17) (by rfl)
          refine AO.heq (H' := (((σ 17), (.mem (.ar 1 ((x9.take ((w64 ((x9.length : Int) - (2 : Int))).toNat) ++ ([false] : List Bool)).map eBool)))) :: [])) (by first | rfl | simp only [y17, cond_true, cond_false]) ?_
          refine AO.wK [46] ?_
          refine AO.c (Calm.assign rfl rfl) ?_
          exact AO.nE (d := 3) rfl ⟨⟨3, _, rfl, rfl, rfl⟩, Sub.of_eq (by first | rfl | simp only [y17, cond_true, cond_false]) (Sub.refl _)⟩
         ·generalize σ 17 = n35
          refine AO.nK [3, 7, 8, 9] ?_
          exact ⟨n35, (x9.take ((w64 ((x9.length : Int) - (2 : Int))).toNat) ++ ([false] : List Bool)), rfl, rfl, h⟩
       ·refine AW.condN _ rfl hc26 ?_
        refine AW.sr ?_
        refine AO.c (x := eBool (decide (((lget p0 x10).f0) = (3 : Int)))) (Calm.int rfl rfl rfl rfl) ?_
        refine AO.c (Calm.assign rfl rfl) ?_
        refine AO.nK [3, 6, 7, 8, 9, 16, 47] ?_
        rcases of_ite h with ⟨hc37, h⟩ | ⟨hc37, h⟩
        ·refine AW.condP _ rfl hc37 ?_
         obtain ⟨hg38, h⟩ := of_guard h
         obtain ⟨hg39, h⟩ := of_guard h
         rcases of_ite h with ⟨hc40, h⟩ | ⟨hc40, h⟩
         ·obtain ⟨hg43, h⟩ := of_guard h
          refine AW.regEff (by rfl) (by decide +kernel) (fun (σ : Nat → Nat) => ([(.own n8 0 x9.length), (eI64 (x9.length : Int)), (eI64 (w64 ((x9.length : Int) - (2 : Int)))), (.own n8 0 ((w64 ((x9.length : Int) - (2 : Int))).toNat)), (.own n8 0 x9.length), (eI64 (x9.length : Int)), (eI64 (w64 ((x9.length : Int) - (2 : Int)))), (.ptr n8 ((w64 ((x9.length : Int) - (2 : Int))).toNat * 1 + 0)), (eBool (lget x9 (w64 ((x9.length : Int) - (2 : Int))))), (eBool (lget x9 (w64 ((x9.length : Int) - (2 : Int))))), (.fl undef), (.fl undef), (.fl undef), (.fl undef), (.fl undef), (eBool true), (.fz 1 (([true] : List Bool).map eBool)), (.own (σ 17) 0 (x9.take ((w64 ((x9.length : Int) - (2 : Int))).toNat) ++ ([true] : List Bool)).length), (.own (σ 17) 0 (x9.take ((w64 ((x9.length : Int) - (2 : Int))).toNat) ++ ([true] : List Bool)).length)] : List AV)) (fun (L : Nat → Bool) (σ : Nat → Nat) => ((bif L 17 then (((σ 17), (.mem (.ar 1 ((x9.take ((w64 ((x9.length : Int) - (2 : Int))).toNat) ++ ([true] : List Bool)).map eBool)))) :: []) else ((n8, (.mem (.ar 1 (x9.map eBool)))) :: [])) : Heap)) [(3, (.own n8 0 x9.length)), (6, (eI64 (x9.length : Int))), (7, (.fz 5 (p0.map e82))), (8, (eI64 (p0.length : Int))), (9, (eI64 x10))] ⟨rfl, rfl, rfl, rfl, rfl, trivial⟩ (fun _ => rfl) (fun σ => (Sub.refl _)) ⟨?_, ?_, ?_, ?_, ?_, ?_, ?_, ?_, ?_, ?_, ?_, ?_, ?_, ?_, ?_, ?_, ?_, ?_, ?_, trivial⟩ (fun σ => [(3, (.own (σ 17) 0 (x9.take ((w64 ((x9.length : Int) - (2 : Int))).toNat) ++ ([true] : List Bool)).length)), (7, (.fz 5 (p0.map e82))), (8, (eI64 (p0.length : Int))), (9, (eI64 x10))]) (fun σ => (((σ 17), (.mem (.ar 1 ((x9.take ((w64 ((x9.length : Int) - (2 : Int))).toNat) ++ ([true] : List Bool)).map eBool)))) :: [])) (fun σ => ⟨rfl, rfl, rfl, rfl, trivial⟩) (fun σ => Sub.refl _) (fun σ => ?_)
          ·refine StepE.calm (fun _ _ => rfl) fun L σ hc hi hd => ?_
           have m3 : L 3 = false := hc.neg (i := 0) (j := 3) rfl (by rfl) hi
           have m17 : L 17 = false := hc.neg (i := 3) (j := 17) rfl (by rfl) m3
           refine AO.heq (H' := ((n8, (.mem (.ar 1 (x9.map eBool)))) :: [])) (by first | rfl | simp only [m17, cond_true, cond_false]) ?_
           refine AO.wK [3] ?_
           refine AO.c (Calm.move rfl rfl) ?_
           exact AO.nE (d := 49) rfl ⟨⟨49, _, rfl, rfl, rfl⟩, Sub.of_eq (by first | rfl | simp only [m17, cond_true, cond_false]) (Sub.refl _)⟩
          ·refine StepE.calm (fun _ _ => rfl) fun L σ hc hi hd => ?_
           refine AO.wK [6] ?_
           refine AO.c (Calm.move rfl rfl) ?_
           exact AO.nE (d := 50) rfl ⟨⟨50, _, rfl, rfl, rfl⟩, Sub.refl _⟩
          ·refine StepE.calm (fun _ _ => rfl) fun L σ hc hi hd => ?_
           refine AO.wK [50] ?_
           refine AO.c (x := eI64 (w64 ((x9.length : Int) - (2 : Int)))) (Calm.int rfl rfl rfl rfl) ?_
           exact AO.nE (d := 51) rfl ⟨⟨51, _, rfl, rfl, rfl⟩, Sub.refl _⟩
          ·refine StepE.calm (fun _ _ => rfl) fun L σ hc hi hd => ?_
           have m17 : L 17 = false := hc.neg (i := 3) (j := 17) rfl (by rfl) hi
           refine AO.heq (H' := ((n8, (.mem (.ar 1 (x9.map eBool)))) :: [])) (by first | rfl | simp only [m17, cond_true, cond_false]) ?_
           refine AO.wK [49, 51] ?_
           refine AO.c (x := .own n8 0 ((w64 ((x9.length : Int) - (2 : Int))).toNat)) (Calm.preO 0 rfl rfl rfl rfl hg38 Try.underlying25 sz4) ?_
           exact AO.nE (d := 52) rfl ⟨⟨52, _, rfl, rfl, rfl⟩, Sub.of_eq (by first | rfl | simp only [m17, cond_true, cond_false]) (Sub.refl _)⟩
          ·refine StepE.calm (fun _ _ => rfl) fun L σ hc hi hd => ?_
           have m7 : L 7 = false := hc.neg (i := 4) (j := 7) rfl (by rfl) hi
           have m8 : L 8 = false := hc.neg (i := 7) (j := 8) rfl (by rfl) m7
           have m9 : L 9 = false := hc.neg (i := 8) (j := 9) rfl (by rfl) m8
           have m15 : L 15 = false := hc.neg (i := 9) (j := 15) rfl (by rfl) m9
           have m16 : L 16 = false := hc.neg (i := 15) (j := 16) rfl (by rfl) m15
           have m17 : L 17 = false := hc.neg (i := 16) (j := 17) rfl (by rfl) m16
           refine AO.heq (H' := ((n8, (.mem (.ar 1 (x9.map eBool)))) :: [])) (by first | rfl | simp only [m17, cond_true, cond_false]) ?_
           refine AO.wK [3] ?_
           refine AO.c (Calm.move rfl rfl) ?_
           exact AO.nE (d := 53) rfl ⟨⟨53, _, rfl, rfl, rfl⟩, Sub.of_eq (by first | rfl | simp only [m17, cond_true, cond_false]) (Sub.refl _)⟩
          ·refine StepE.calm (fun _ _ => rfl) fun L σ hc hi hd => ?_
           refine AO.wK [6] ?_
           refine AO.c (Calm.move rfl rfl) ?_
           exact AO.nE (d := 54) rfl ⟨⟨54, _, rfl, rfl, rfl⟩, Sub.refl _⟩
          ·refine StepE.calm (fun _ _ => rfl) fun L σ hc hi hd => ?_
           refine AO.wK [54] ?_
           refine AO.c (x := eI64 (w64 ((x9.length : Int) - (2 : Int)))) (Calm.int rfl rfl rfl rfl) ?_
           exact AO.nE (d := 55) rfl ⟨⟨55, _, rfl, rfl, rfl⟩, Sub.refl _⟩
          ·refine StepE.calm (fun _ _ => rfl) fun L σ hc hi hd => ?_
           have m8 : L 8 = false := hc.neg (i := 7) (j := 8) rfl (by rfl) hi
           have m9 : L 9 = false := hc.neg (i := 8) (j := 9) rfl (by rfl) m8
           have m15 : L 15 = false := hc.neg (i := 9) (j := 15) rfl (by rfl) m9
           have m16 : L 16 = false := hc.neg (i := 15) (j := 16) rfl (by rfl) m15
           have m17 : L 17 = false := hc.neg (i := 16) (j := 17) rfl (by rfl) m16
           refine AO.heq (H' := ((n8, (.mem (.ar 1 (x9.map eBool)))) :: [])) (by first | rfl | simp only [m17, cond_true, cond_false]) ?_
           refine AO.wK [53, 55] ?_
           refine AO.c (Calm.idxO 0 rfl rfl rfl rfl hg39 Try.underlying25 sz4) ?_
           exact AO.nE (d := 56) rfl ⟨⟨56, _, rfl, rfl, rfl⟩, Sub.of_eq (by first | rfl | simp only [m17, cond_true, cond_false]) (Sub.refl _)⟩
          ·refine StepE.calm (fun _ _ => rfl) fun L σ hc hi hd => ?_
           have m9 : L 9 = false := hc.neg (i := 8) (j := 9) rfl (by rfl) hi
           have m15 : L 15 = false := hc.neg (i := 9) (j := 15) rfl (by rfl) m9
           have m16 : L 16 = false := hc.neg (i := 15) (j := 16) rfl (by rfl) m15
           have m17 : L 17 = false := hc.neg (i := 16) (j := 17) rfl (by rfl) m16
           refine AO.heq (H' := ((n8, (.mem (.ar 1 (x9.map eBool)))) :: [])) (by first | rfl | simp only [m17, cond_true, cond_false]) ?_
           refine AO.wK [56] ?_
           refine AO.c (Calm.load 0 rfl rfl rfl (At.cast (At.lidx (w64 ((x9.length : Int) - (2 : Int))) hg39.1 hg39.2 At.here) (by omega)) ag4 sz4) ?_
           exact AO.nE (d := 57) rfl ⟨⟨57, _, rfl, rfl, rfl⟩, Sub.of_eq (by first | rfl | simp only [m17, cond_true, cond_false]) (Sub.refl _)⟩
          ·refine StepE.calm (fun _ _ => rfl) fun L σ hc hi hd => ?_
           refine AO.wK [57] ?_
           refine AO.c (Calm.move rfl rfl) ?_
           exact AO.nE (d := 58) rfl ⟨⟨58, _, rfl, rfl, rfl⟩, Sub.refl _⟩
          ·refine StepE.calm (fun _ _ => rfl) fun L σ hc hi hd => ?_
           refine AO.wK [58] ?_
           refine AO.sF rfl rfl (bD hc40) ?_
           exact AO.nE (d := 59) rfl ⟨⟨59, _, rfl, rfl, rfl⟩, Sub.refl _⟩
          ·refine StepE.calm (fun _ _ => rfl) fun L σ hc hi hd => ?_
           refine AO.wK [58] ?_
           refine AO.sF rfl rfl (bD hc40) ?_
           exact AO.nE (d := 60) rfl ⟨⟨60, _, rfl, rfl, rfl⟩, Sub.refl _⟩
          ·refine StepE.calm (fun _ _ => rfl) fun L σ hc hi hd => ?_
           refine AO.wK [58] ?_
           refine AO.sF rfl rfl (bD hc40) ?_
           exact AO.nE (d := 61) rfl ⟨⟨61, _, rfl, rfl, rfl⟩, Sub.refl _⟩
          ·refine StepE.calm (fun _ _ => rfl) fun L σ hc hi hd => ?_
           refine AO.wK [58] ?_
           refine AO.sF rfl rfl (bD hc40) ?_
           exact AO.nE (d := 62) rfl ⟨⟨62, _, rfl, rfl, rfl⟩, Sub.refl _⟩
          ·refine StepE.calm (fun _ _ => rfl) fun L σ hc hi hd => ?_
           refine AO.wK [58] ?_
           refine AO.sF rfl rfl (bD hc40) ?_
           exact AO.nE (d := 63) rfl ⟨⟨63, _, rfl, rfl, rfl⟩, Sub.refl _⟩
          ·refine StepE.calm (fun _ _ => rfl) fun L σ hc hi hd => ?_
           refine AO.wK [58, 63] ?_
           refine AO.c (Calm.pickT rfl (bD hc40) rfl) ?_
           exact AO.nE (d := 64) rfl ⟨⟨64, _, rfl, rfl, rfl⟩, Sub.refl _⟩
          ·refine StepE.calm (fun _ _ => rfl) fun L σ hc hi hd => ?_
           refine AO.wK [64] ?_
           refine AO.lit (Z := (eBool false)) (xs := (([true] : List Bool).map eBool)) (qs := [(0, (eBool true))]) rfl 65 rfl (by decide) rfl ⟨rfl, rfl, rfl, trivial⟩ Try.underlying25 sz4 zr4 lay4 rfl (by decide) (litOK (z := 1) [(eBool true)] rfl ⟨⟨rfl, rfl⟩, trivial⟩) rfl fun n41 => ?_
           refine AO.freezeS 0 [(65, (.fz 1 (([true] : List Bool).map eBool)))] rfl ⟨fz_all rfl, trivial⟩ ?_
           exact AO.nE (d := 65) rfl ⟨⟨65, _, rfl, rfl, rfl⟩, Sub.refl _⟩
          ·intro L σ hc hi hd
           refine AO.heq (H' := ((n8, (.mem (.ar 1 (x9.map eBool)))) :: [])) (by first | rfl | simp only [hi, cond_true, cond_false]) ?_
           refine AO.wK [52, 65] ?_
           refine AO.appendCut (l := x9) (m := ([true] : List Bool)) 0 66 rfl (by decide) rfl rfl rfl (by omega) rfl rfl Src.fz Try.underlying25 Try.underlying25 sz4 by4 zr4 rfl hg43 (by decide) fun n42 => ?_
           have a17 : addL L 17 17 = true := rfl
           have u17 : upd σ 17 n42 17 = n42 := rfl
           have m18 : L 18 = false := hc.neg (i := 17) (j := 18) rfl (by rfl) hi
           exact AO.nE (d := 66) rfl ⟨(upd σ 17 n42), (fun j hj => match j, hj with | 0, _ => rfl | 1, _ => rfl | 2, _ => rfl | 3, _ => rfl | 4, _ => rfl | 5, _ => rfl | 6, _ => rfl | 7, _ => rfl | 8, _ => rfl | 9, _ => rfl | 10, _ => rfl | 11, _ => rfl | 12, _ => rfl | 13, _ => rfl | 14, _ => rfl | 15, _ => rfl | 16, _ => rfl | 17, hj => Bool.noConfusion (hj.symm.trans hi) | 18, hj => Bool.noConfusion (hj.symm.trans m18) | _ + 19, _ => rfl), (fun d' hd' => ⟨_, rfl, by cases hd'; rfl⟩), Sub.of_eq (B := ((n42, (.mem (.ar 1 ((x9.take ((w64 ((x9.length : Int) - (2 : Int))).toNat) ++ ([true] : List Bool)).map eBool)))) :: [])) (by simp only [a17, u17, cond_true, cond_false]) (Sub.refl _)⟩
          ·refine StepE.calm (fun _ _ => rfl) fun L σ hc hi hd => ?_
           have y17 : L 17 = true := on_get hd (i := 17) (by rfl)
           refine AO.heq (H' := (((σ 17), (.mem (.ar 1 ((x9.take ((w64 ((x9.length : Int) - (2 : Int))).toNat) ++ ([true] : List Bool)).map eBool)))) :: [])) (by first | rfl | simp only [y17, cond_true, cond_false]) ?_
           refine AO.wK [66] ?_
           refine AO.c (Calm.assign rfl rfl) ?_
           exact AO.nE (d := 3) rfl ⟨⟨3, _, rfl, rfl, rfl⟩, Sub.of_eq (by first | rfl | simp only [y17, cond_true, cond_false]) (Sub.refl _)⟩
          ·generalize σ 17 = n42
           refine AO.nK [3, 7, 8, 9] ?_
           exact ⟨n42, (x9.take ((w64 ((x9.length : Int) - (2 : Int))).toNat) ++ ([true] : List Bool)), rfl, rfl, h⟩
         ·obtain ⟨hg44, h⟩ := of_guard h
          obtain ⟨hg47, h⟩ := of_guard h
          refine AW.regEff (by rfl) (by decide +kernel) (fun (σ : Nat → Nat) => ([(.own n8 0 x9.length), (eI64 (x9.length : Int)), (eI64 (w64 ((x9.length : Int) - (2 : Int)))), (.own n8 0 ((w64 ((x9.length : Int) - (2 : Int))).toNat)), (.own n8 0 x9.length), (eI64 (x9.length : Int)), (eI64 (w64 ((x9.length : Int) - (2 : Int)))), (.ptr n8 ((w64 ((x9.length : Int) - (2 : Int))).toNat * 1 + 0)), (eBool (lget x9 (w64 ((x9.length : Int) - (2 : Int))))), (eBool (lget x9 (w64 ((x9.length : Int) - (2 : Int))))), (.own n8 0 x9.length), (eI64 (x9.length : Int)), (eI64 (w64 ((x9.length : Int) - (1 : Int)))), (.ptr n8 ((w64 ((x9.length : Int) - (1 : Int))).toNat * 1 + 0)), (eBool (lget x9 (w64 ((x9.length : Int) - (1 : Int))))), (eBool (lget x9 (w64 ((x9.length : Int) - (1 : Int))))), (.fz 1 (([(lget x9 (w64 ((x9.length : Int) - (1 : Int))))] : List Bool).map eBool)), (.own (σ 17) 0 (x9.take ((w64 ((x9.length : Int) - (2 : Int))).toNat) ++ ([(lget x9 (w64 ((x9.length : Int) - (1 : Int))))] : List Bool)).length), (.own (σ 17) 0 (x9.take ((w64 ((x9.length : Int) - (2 : Int))).toNat) ++ ([(lget x9 (w64 ((x9.length : Int) - (1 : Int))))] : List Bool)).length)] : List AV)) (fun (L : Nat → Bool) (σ : Nat → Nat) => ((bif L 17 then (((σ 17), (.mem (.ar 1 ((x9.take ((w64 ((x9.length : Int) - (2 : Int))).toNat) ++ ([(lget x9 (w64 ((x9.length : Int) - (1 : Int))))] : List Bool)).map eBool)))) :: []) else ((n8, (.mem (.ar 1 (x9.map eBool)))) :: [])) : Heap)) [(3, (.own n8 0 x9.length)), (6, (eI64 (x9.length : Int))), (7, (.fz 5 (p0.map e82))), (8, (eI64 (p0.length : Int))), (9, (eI64 x10))] ⟨rfl, rfl, rfl, rfl, rfl, trivial⟩ (fun _ => rfl) (fun σ => (Sub.refl _)) ⟨?_, ?_, ?_, ?_, ?_, ?_, ?_, ?_, ?_, ?_, ?_, ?_, ?_, ?_, ?_, ?_, ?_, ?_, ?_, trivial⟩ (fun σ => [(3, (.own (σ 17) 0 (x9.take ((w64 ((x9.length : Int) - (2 : Int))).toNat) ++ ([(lget x9 (w64 ((x9.length : Int) - (1 : Int))))] : List Bool)).length)), (7, (.fz 5 (p0.map e82))), (8, (eI64 (p0.length : Int))), (9, (eI64 x10))]) (fun σ => (((σ 17), (.mem (.ar 1 ((x9.take ((w64 ((x9.length : Int) - (2 : Int))).toNat) ++ ([(lget x9 (w64 ((x9.length : Int) - (1 : Int))))] : List Bool)).map eBool)))) :: [])) (fun σ => ⟨rfl, rfl, rfl, rfl, trivial⟩) (fun σ => Sub.refl _) (fun σ => ?_)
          ·refine StepE.calm (fun _ _ => rfl) fun L σ hc hi hd => ?_
           have m3 : L 3 = false := hc.neg (i := 0) (j := 3) rfl (by rfl) hi
           have m17 : L 17 = false := hc.neg (i := 3) (j := 17) rfl (by rfl) m3
           refine AO.heq (H' := ((n8, (.mem (.ar 1 (x9.map eBool)))) :: [])) (by first | rfl | simp only [m17, cond_true, cond_false]) ?_
           refine AO.wK [3] ?_
           refine AO.c (Calm.move rfl rfl) ?_
           exact AO.nE (d := 49) rfl ⟨⟨49, _, rfl, rfl, rfl⟩, Sub.of_eq (by first | rfl | simp only [m17, cond_true, cond_false]) (Sub.refl _)⟩
          ·refine StepE.calm (fun _ _ => rfl) fun L σ hc hi hd => ?_
           refine AO.wK [6] ?_
           refine AO.c (Calm.move rfl rfl) ?_
           exact AO.nE (d := 50) rfl ⟨⟨50, _, rfl, rfl, rfl⟩, Sub.refl _⟩
          ·refine StepE.calm (fun _ _ => rfl) fun L σ hc hi hd => ?_
           refine AO.wK [50] ?_
           refine AO.c (x := eI64 (w64 ((x9.length : Int) - (2 : Int)))) (Calm.int rfl rfl rfl rfl) ?_
           exact AO.nE (d := 51) rfl ⟨⟨51, _, rfl, rfl, rfl⟩, Sub.refl _⟩
          ·refine StepE.calm (fun _ _ => rfl) fun L σ hc hi hd => ?_
           have m17 : L 17 = false := hc.neg (i := 3) (j := 17) rfl (by rfl) hi
           refine AO.heq (H' := ((n8, (.mem (.ar 1 (x9.map eBool)))) :: [])) (by first | rfl | simp only [m17, cond_true, cond_false]) ?_
           refine AO.wK [49, 51] ?_
           refine AO.c (x := .own n8 0 ((w64 ((x9.length : Int) - (2 : Int))).toNat)) (Calm.preO 0 rfl rfl rfl rfl hg38 Try.underlying25 sz4) ?_
           exact AO.nE (d := 52) rfl ⟨⟨52, _, rfl, rfl, rfl⟩, Sub.of_eq (by first | rfl | simp only [m17, cond_true, cond_false]) (Sub.refl _)⟩
          ·refine StepE.calm (fun _ _ => rfl) fun L σ hc hi hd => ?_
           have m7 : L 7 = false := hc.neg (i := 4) (j := 7) rfl (by rfl) hi
           have m8 : L 8 = false := hc.neg (i := 7) (j := 8) rfl (by rfl) m7
           have m9 : L 9 = false := hc.neg (i := 8) (j := 9) rfl (by rfl) m8
           have m15 : L 15 = false := hc.neg (i := 9) (j := 15) rfl (by rfl) m9
           have m16 : L 16 = false := hc.neg (i := 15) (j := 16) rfl (by rfl) m15
           have m17 : L 17 = false := hc.neg (i := 16) (j := 17) rfl (by rfl) m16
           refine AO.heq (H' := ((n8, (.mem (.ar 1 (x9.map eBool)))) :: [])) (by first | rfl | simp only [m17, cond_true, cond_false]) ?_
           refine AO.wK [3] ?_
           refine AO.c (Calm.move rfl rfl) ?_
           exact AO.nE (d := 53) rfl ⟨⟨53, _, rfl, rfl, rfl⟩, Sub.of_eq (by first | rfl | simp only [m17, cond_true, cond_false]) (Sub.refl _)⟩
          ·refine StepE.calm (fun _ _ => rfl) fun L σ hc hi hd => ?_
           refine AO.wK [6] ?_
           refine AO.c (Calm.move rfl rfl) ?_
           exact AO.nE (d := 54) rfl ⟨⟨54, _, rfl, rfl, rfl⟩, Sub.refl _⟩
          ·refine StepE.calm (fun _ _ => rfl) fun L σ hc hi hd => ?_
           refine AO.wK [54] ?_
           refine AO.c (x := eI64 (w64 ((x9.length : Int) - (2 : Int)))) (Calm.int rfl rfl rfl rfl) ?_
           exact AO.nE (d := 55) rfl ⟨⟨55, _, rfl, rfl, rfl⟩, Sub.refl _⟩
          ·refine StepE.calm (fun _ _ => rfl) fun L σ hc hi hd => ?_
           have m8 : L 8 = false := hc.neg (i := 7) (j := 8) rfl (by rfl) hi
           have m9 : L 9 = false := hc.neg (i := 8) (j := 9) rfl (by rfl) m8
           have m15 : L 15 = false := hc.neg (i := 9) (j := 15) rfl (by rfl) m9
           have m16 : L 16 = false := hc.neg (i := 15) (j := 16) rfl (by rfl) m15
           have m17 : L 17 = false := hc.neg (i := 16) (j := 17) rfl (by rfl) m16
           refine AO.heq (H' := ((n8, (.mem (.ar 1 (x9.map eBool)))) :: [])) (by first | rfl | simp only [m17, cond_true, cond_false]) ?_
           refine AO.wK [53, 55] ?_
           refine AO.c (Calm.idxO 0 rfl rfl rfl rfl hg39 Try.underlying25 sz4) ?_
           exact AO.nE (d := 56) rfl ⟨⟨56, _, rfl, rfl, rfl⟩, Sub.of_eq (by first | rfl | simp only [m17, cond_true, cond_false]) (Sub.refl _)⟩
          ·refine StepE.calm (fun _ _ => rfl) fun L σ hc hi hd => ?_
           have m9 : L 9 = false := hc.neg (i := 8) (j := 9) rfl (by rfl) hi
           have m15 : L 15 = false := hc.neg (i := 9) (j := 15) rfl (by rfl) m9
           have m16 : L 16 = false := hc.neg (i := 15) (j := 16) rfl (by rfl) m15
           have m17 : L 17 = false := hc.neg (i := 16) (j := 17) rfl (by rfl) m16
           refine AO.heq (H' := ((n8, (.mem (.ar 1 (x9.map eBool)))) :: [])) (by first | rfl | simp only [m17, cond_true, cond_false]) ?_
           refine AO.wK [56] ?_
           refine AO.c (Calm.load 0 rfl rfl rfl (At.cast (At.lidx (w64 ((x9.length : Int) - (2 : Int))) hg39.1 hg39.2 At.here) (by omega)) ag4 sz4) ?_
           exact AO.nE (d := 57) rfl ⟨⟨57, _, rfl, rfl, rfl⟩, Sub.of_eq (by first | rfl | simp only [m17, cond_true, cond_false]) (Sub.refl _)⟩
          ·refine StepE.calm (fun _ _ => rfl) fun L σ hc hi hd => ?_
           refine AO.wK [57] ?_
           refine AO.c (Calm.move rfl rfl) ?_
           exact AO.nE (d := 58) rfl ⟨⟨58, _, rfl, rfl, rfl⟩, Sub.refl _⟩
          ·refine StepE.calm (fun _ _ => rfl) fun L σ hc hi hd => ?_
           have m13 : L 13 = false := hc.neg (i := 10) (j := 13) rfl (by rfl) hi
           have m14 : L 14 = false := hc.neg (i := 13) (j := 14) rfl (by rfl) m13
           have m15 : L 15 = false := hc.neg (i := 14) (j := 15) rfl (by rfl) m14
           have m16 : L 16 = false := hc.neg (i := 15) (j := 16) rfl (by rfl) m15
           have m17 : L 17 = false := hc.neg (i := 16) (j := 17) rfl (by rfl) m16
           refine AO.heq (H' := ((n8, (.mem (.ar 1 (x9.map eBool)))) :: [])) (by first | rfl | simp only [m17, cond_true, cond_false]) ?_
           refine AO.wK [3, 58] ?_
           refine AO.cG rfl rfl (bD (eq_false_of_ne_true hc40)) (Calm.move rfl rfl) ?_
           exact AO.nE (d := 59) rfl ⟨⟨59, _, rfl, rfl, rfl⟩, Sub.of_eq (by first | rfl | simp only [m17, cond_true, cond_false]) (Sub.refl _)⟩
          ·refine StepE.calm (fun _ _ => rfl) fun L σ hc hi hd => ?_
           refine AO.wK [6, 58] ?_
           refine AO.cG rfl rfl (bD (eq_false_of_ne_true hc40)) (Calm.move rfl rfl) ?_
           exact AO.nE (d := 60) rfl ⟨⟨60, _, rfl, rfl, rfl⟩, Sub.refl _⟩
          ·refine StepE.calm (fun _ _ => rfl) fun L σ hc hi hd => ?_
           refine AO.wK [58, 60] ?_
           refine AO.cG (x := eI64 (w64 ((x9.length : Int) - (1 : Int)))) rfl rfl (bD (eq_false_of_ne_true hc40)) (Calm.int rfl rfl rfl rfl) ?_
           exact AO.nE (d := 61) rfl ⟨⟨61, _, rfl, rfl, rfl⟩, Sub.refl _⟩
          ·refine StepE.calm (fun _ _ => rfl) fun L σ hc hi hd => ?_
           have m14 : L 14 = false := hc.neg (i := 13) (j := 14) rfl (by rfl) hi
           have m15 : L 15 = false := hc.neg (i := 14) (j := 15) rfl (by rfl) m14
           have m16 : L 16 = false := hc.neg (i := 15) (j := 16) rfl (by rfl) m15
           have m17 : L 17 = false := hc.neg (i := 16) (j := 17) rfl (by rfl) m16
           refine AO.heq (H' := ((n8, (.mem (.ar 1 (x9.map eBool)))) :: [])) (by first | rfl | simp only [m17, cond_true, cond_false]) ?_
           refine AO.wK [58, 59, 61] ?_
           refine AO.cG rfl rfl (bD (eq_false_of_ne_true hc40)) (Calm.idxO 0 rfl rfl rfl rfl hg44 Try.underlying25 sz4) ?_
           exact AO.nE (d := 62) rfl ⟨⟨62, _, rfl, rfl, rfl⟩, Sub.of_eq (by first | rfl | simp only [m17, cond_true, cond_false]) (Sub.refl _)⟩
          ·refine StepE.calm (fun _ _ => rfl) fun L σ hc hi hd => ?_
           have m15 : L 15 = false := hc.neg (i := 14) (j := 15) rfl (by rfl) hi
           have m16 : L 16 = false := hc.neg (i := 15) (j := 16) rfl (by rfl) m15
           have m17 : L 17 = false := hc.neg (i := 16) (j := 17) rfl (by rfl) m16
           refine AO.heq (H' := ((n8, (.mem (.ar 1 (x9.map eBool)))) :: [])) (by first | rfl | simp only [m17, cond_true, cond_false]) ?_
           refine AO.wK [58, 62] ?_
           refine AO.cG rfl rfl (bD (eq_false_of_ne_true hc40)) (Calm.load 0 rfl rfl rfl (At.cast (At.lidx (w64 ((x9.length : Int) - (1 : Int))) hg44.1 hg44.2 At.here) (by omega)) ag4 sz4) ?_
           exact AO.nE (d := 63) rfl ⟨⟨63, _, rfl, rfl, rfl⟩, Sub.of_eq (by first | rfl | simp only [m17, cond_true, cond_false]) (Sub.refl _)⟩
          ·refine StepE.calm (fun _ _ => rfl) fun L σ hc hi hd => ?_
           refine AO.wK [58, 63] ?_
           refine AO.c (Calm.pickF rfl (bD (eq_false_of_ne_true hc40)) rfl) ?_
           exact AO.nE (d := 64) rfl ⟨⟨64, _, rfl, rfl, rfl⟩, Sub.refl _⟩
          ·refine StepE.calm (fun _ _ => rfl) fun L σ hc hi hd => ?_
           refine AO.wK [64] ?_
           refine AO.lit (Z := (eBool false)) (xs := (([(lget x9 (w64 ((x9.length : Int) - (1 : Int))))] : List Bool).map eBool)) (qs := [(0, (eBool (lget x9 (w64 ((x9.length : Int) - (1 : Int))))))]) rfl 65 rfl (by decide) rfl ⟨rfl, rfl, rfl, trivial⟩ Try.underlying25 sz4 zr4 lay4 rfl (by decide) (litOK (z := 1) [(eBool (lget x9 (w64 ((x9.length : Int) - (1 : Int)))))] rfl ⟨⟨rfl, rfl⟩, trivial⟩) rfl fun n45 => ?_
           refine AO.freezeS 0 [(65, (.fz 1 (([(lget x9 (w64 ((x9.length : Int) - (1 : Int))))] : List Bool).map eBool)))] rfl ⟨fz_all rfl, trivial⟩ ?_
           exact AO.nE (d := 65) rfl ⟨⟨65, _, rfl, rfl, rfl⟩, Sub.refl _⟩
          ·intro L σ hc hi hd
           refine AO.heq (H' := ((n8, (.mem (.ar 1 (x9.map eBool)))) :: [])) (by first | rfl | simp only [hi, cond_true, cond_false]) ?_
           refine AO.wK [52, 65] ?_
           refine AO.appendCut (l := x9) (m := ([(lget x9 (w64 ((x9.length : Int) - (1 : Int))))] : List Bool)) 0 66 rfl (by decide) rfl rfl rfl (by omega) rfl rfl Src.fz Try.underlying25 Try.underlying25 sz4 by4 zr4 rfl hg47 (by decide) fun n46 => ?_
           have a17 : addL L 17 17 = true := rfl
           have u17 : upd σ 17 n46 17 = n46 := rfl
           have m18 : L 18 = false := hc.neg (i := 17) (j := 18) rfl (by rfl) hi
           exact AO.nE (d := 66) rfl ⟨(upd σ 17 n46), (fun j hj => match j, hj with | 0, _ => rfl | 1, _ => rfl | 2, _ => rfl | 3, _ => rfl | 4, _ => rfl | 5, _ => rfl | 6, _ => rfl | 7, _ => rfl | 8, _ => rfl | 9, _ => rfl | 10, _ => rfl | 11, _ => rfl | 12, _ => rfl | 13, _ => rfl | 14, _ => rfl | 15, _ => rfl | 16, _ => rfl | 17, hj => Bool.noConfusion (hj.symm.trans hi) | 18, hj => Bool.noConfusion (hj.symm.trans m18) | _ + 19, _ => rfl), (fun d' hd' => ⟨_, rfl, by cases hd'; rfl⟩), Sub.of_eq (B := ((n46, (.mem (.ar 1 ((x9.take ((w64 ((x9.length : Int) - (2 : Int))).toNat) ++ ([(lget x9 (w64 ((x9.length : Int) - (1 : Int))))] : List Bool)).map eBool)))) :: [])) (by simp only [a17, u17, cond_true, cond_false]) (Sub.refl _)⟩
          ·refine StepE.calm (fun _ _ => rfl) fun L σ hc hi hd => ?_
           have y17 : L 17 = true := on_get hd (i := 17) (by rfl)
           refine AO.heq (H' := (((σ 17), (.mem (.ar 1 ((x9.take ((w64 ((x9.length : Int) - (2 : Int))).toNat) ++ ([(lget x9 (w64 ((x9.length : Int) - (1 : Int))))] : List Bool)).map eBool)))) :: [])) (by first | rfl | simp only [y17, cond_true, cond_false]) ?_
           refine AO.wK [66] ?_
           refine AO.c (Calm.assign rfl rfl) ?_
           exact AO.nE (d := 3) rfl ⟨⟨3, _, rfl, rfl, rfl⟩, Sub.of_eq (by first | rfl | simp only [y17, cond_true, cond_false]) (Sub.refl _)⟩
          ·generalize σ 17 = n46
           refine AO.nK [3, 7, 8, 9] ?_
           exact ⟨n46, (x9.take ((w64 ((x9.length : Int) - (2 : Int))).toNat) ++ ([(lget x9 (w64 ((x9.length : Int) - (1 : Int))))] : List Bool)), rfl, rfl, h⟩
        ·refine AW.condN _ rfl hc37 ?_
         refine AW.seq_mid (fun ρ H => ∃ (b48 : Bool), ρ = [(3, (.own n8 0 x9.length)), (6, (eI64 (x9.length : Int))), (7, (.fz 5 (p0.map e82))), (8, (eI64 (p0.length : Int))), (9, (eI64 x10)), (67, (eBool b48))] ∧ H = [(n8, (.mem (.ar 1 (x9.map eBool))))] ∧ deriv_Empty_c2 k rec11 x9 x10 b48 = some r) ?_ ?_
         ·refine AW.sr ?_
          refine AO.c (x := eBool (decide (((lget p0 x10).f0) = (4 : Int)))) (Calm.int rfl rfl rfl rfl) ?_
          refine AO.c (Calm.assign rfl rfl) ?_
          refine AO.nK [3, 6, 7, 8, 9, 16, 67] ?_
          rcases of_ite h with ⟨hc51, h⟩ | ⟨hc51, h⟩
          ·refine AW.condP _ rfl hc51 ?_
           refine AW.sK [3, 6, 7, 8, 9, 67] ?_
           exact ⟨decide (((lget p0 x10).f0) = (4 : Int)), rfl, rfl, h⟩
          ·refine AW.condN _ rfl hc51 ?_
           refine AW.reg ?_
           refine AO.c (x := eBool (decide (((lget p0 x10).f0) = (6 : Int)))) (Calm.int rfl rfl rfl rfl) ?_
           refine AO.c (Calm.assign rfl rfl) ?_
           refine AO.nK [3, 6, 7, 8, 9, 67] ?_
           exact ⟨decide (((lget p0 x10).f0) = (6 : Int)), rfl, rfl, h⟩
         ·rintro _ _ ⟨b48, rfl, rfl, h⟩
          rw [deriv_Empty_c2.eq_1] at h
          rcases of_ite h with ⟨hc49, h⟩ | ⟨hc49, h⟩
          ·refine AW.condT' _ rfl hc49 ?_
           refine AW.reg ?_
           refine AO.c (Calm.move rfl rfl) ?_
           refine AO.c (Calm.move rfl rfl) ?_
           refine AO.c (x := eI64 (w64 ((x9.length : Int) - (1 : Int)))) (Calm.int rfl rfl rfl rfl) ?_
           obtain ⟨hg50, h⟩ := of_guard h
           refine AO.c (Calm.idxO 0 rfl rfl rfl rfl hg50 Try.underlying25 sz4) ?_
           refine AO.store (X' := (.ar 1 ((lset x9 (w64 ((x9.length : Int) - (1 : Int))) true).map eBool))) 0 rfl rfl rfl rfl rfl rfl (Put.cast (Put.lidx (w64 ((x9.length : Int) - (1 : Int))) true hg50.1 hg50.2 Put.here) (by omega)) rfl rfl sz4 rfl ?_
           refine AO.coe 3 (y' := (.own n8 0 (lset x9 (w64 ((x9.length : Int) - (1 : Int))) true).length)) rfl (fun _ _ h => lset_own h) ?_
           refine AO.coe 70 (y' := (.own n8 0 (lset x9 (w64 ((x9.length : Int) - (1 : Int))) true).length)) rfl (fun _ _ h => lset_own h) ?_
           refine AO.nK [3, 7, 8, 9] ?_
           exact ⟨n8, (lset x9 (w64 ((x9.length : Int) - (1 : Int))) true), rfl, rfl, h⟩
          ·refine AW.condF' _ rfl hc49 ?_
           refine AW.sK [3, 7, 8, 9] ?_
           exact ⟨n8, x9, rfl, rfl, h⟩
    ·rintro _ _ ⟨n14, x15, rfl, rfl, h⟩
     rw [deriv_Empty_c1.eq_1] at h
     refine AW.reg ?_
     refine AO.c (x := eI64 (w64 (x10 + (1 : Int)))) (Calm.int rfl rfl rfl rfl) ?_
     refine AO.c (Calm.move rfl rfl) ?_
     refine AO.nK [3, 7, 8, 9] ?_
     exact ⟨kq12, Nat.lt_succ_self _, n14, x15, (w64 (x10 + (1 : Int))), rfl, rfl, by rw [hrec11]; exact h⟩
   ·refine AW.condN _ rfl hc13 ?_
    refine AW.eK [3] ?_
    exact ⟨n8, x9, rfl, rfl, h⟩
  ·rintro _ _ ⟨n2, x3, rfl, rfl, h⟩
   rw [deriv_Empty_c0.eq_1] at h
   refine AW.seq ?_
   obtain ⟨b4, hq5, h⟩ := of_bind h
   refine AW.regM [(2, (eBool b4))] [] ?_ ?_
   ·refine AO.c (Calm.move rfl rfl) ?_
    refine AO.c (Calm.lenOwn rfl rfl Try.underlying25) ?_
    refine AO.c (x := eBool (decide ((x3.length : Int) = (1 : Int)))) (Calm.int rfl rfl rfl rfl) ?_
    refine AO.c (Calm.move rfl rfl) ?_
    rcases of_ite hq5 with ⟨hc6, hq5⟩ | ⟨hc6, hq5⟩
    ·refine AO.cG rfl rfl (bD (decide_eq_true hc6)) (Calm.move rfl rfl) ?_
     obtain ⟨hg7, hq5⟩ := of_guard hq5
     refine AO.cG rfl rfl (bD (decide_eq_true hc6)) (Calm.idxO 0 rfl rfl rfl rfl hg7 Try.underlying25 sz4) ?_
     refine AO.cG rfl rfl (bD (decide_eq_true hc6)) (Calm.load 0 rfl rfl rfl (At.cast (At.lidx (0 : Int) hg7.1 hg7.2 At.here) (by omega)) ag4 sz4) ?_
     refine AO.c (Calm.pickT rfl (bD (decide_eq_true hc6)) rfl) ?_
     refine AO.c (Calm.assign rfl rfl) ?_
     cases hq5
     refine AO.nilE ⟨rfl, rfl⟩ ?_ ?_
     · exact ⟨rfl, trivial⟩
     · exact (Sub.nil _)
    ·refine AO.sT rfl rfl (bD (decide_eq_false hc6)) ?_
     refine AO.sT rfl rfl (bD (decide_eq_false hc6)) ?_
     refine AO.sT rfl rfl (bD (decide_eq_false hc6)) ?_
     refine AO.c (Calm.pickF rfl (bD (decide_eq_false hc6)) rfl) ?_
     refine AO.c (Calm.assign rfl rfl) ?_
     cases hq5
     refine AO.nilE ⟨rfl, rfl⟩ ?_ ?_
     · exact ⟨rfl, trivial⟩
     · exact (Sub.nil _)
   ·refine AW.rK [2] ?_
    have hr := Option.some.inj h
    subst hr
    exact ⟨[(eBool b4)], ⟨rfl, rfl, trivial⟩, rfl⟩
end Go.Avl.T3
/- bosket/deriv.First; printed by avmain.py. -/
namespace Go.Avl.T3
open Go Go.RowKit Go.Proofs Go.Avl
set_option linter.unusedVariables false
set_option maxRecDepth 100000
set_option maxHeartbeats 4000000
set_option linter.unusedSimpArgs false
attribute [local irreducible] AW AO AQ Spec SpecH Calm

end Go.Avl.T3
/- bosket/rex.Join; printed by avmain.py. -/
namespace Go.Avl.T3
open Go Go.RowKit Go.Proofs Go.Avl
set_option linter.unusedVariables false
set_option maxRecDepth 100000
set_option maxHeartbeats 4000000
attribute [local irreducible] AW AO AQ Spec SpecH Calm

def rex_Join_c0 (k : Nat) (p0 : Int) (x9 : (List S82)) : Option (List S82) :=
  if (x9 ++ ([(S82.mk p0 (Vector.replicate 4 (0 : Int)))] : List S82)).length * 40 ≤ 140737488355328 then some ((x9 ++ ([(S82.mk p0 (Vector.replicate 4 (0 : Int)))] : List S82)))
  else none
def rex_Join_l1 (k : Nat) (p0 : Int) (p1 : (List (List S82))) : Nat → (List S82) → Int → Option (List S82)
  | 0, _, _ => none
  | j + 1, x14, x15 =>
    if x15 < (p1.length : Int) then if 0 ≤ x15 ∧ x15 < (p1.length : Int) then if (x14 ++ (lget p1 x15)).length * 40 ≤ 140737488355328 then (rex_Join_l1 k p0 p1 j) (x14 ++ (lget p1 x15)) (w64 (x15 + (1 : Int)))
    else none
    else none
    else rex_Join_c0 k p0 x14
def rex_Join (k : Nat) (p0 : Int) (p1 : (List (List S82))) : Option (List S82) :=
  Option.bind (α := Bool) ((rex_Takes k p0).bind fun t5 =>
  if t5 ≠ (p1.length : Int) then some (true)
  else some (decide ((p1.length : Int) = (0 : Int)))) fun b3 =>
  if b3 = true then some ([])
  else rex_Join_l1 k p0 p1 k ([] : List S82) (0 : Int)
theorem rex_Join_spec {k : Nat} {p0 : Int} {p1 : (List (List S82))} {r : (List S82)} (h : rex_Join k p0 p1 = some r) : Spec Try.prog 72 [(eI64 p0), (.fz 1 (p1.map e58))] (e58 r) := by
  rw [rex_Join.eq_1] at h
  refine Spec.intro (res := [.tmp 4]) Try.func72 rfl rfl rfl (Nat.le_of_ble_eq_true rfl) ?_
  refine AW.sr ?_
  refine AO.c (Calm.assign rfl rfl) ?_
  refine AO.nK [0, 1] ?_
  refine AW.seq ?_
  refine AW.seq ?_
  obtain ⟨b3, hq4, h⟩ := of_bind h
  refine AW.regM [(0, (eI64 p0)), (1, (.fz 1 (p1.map e58))), (17, (eBool b3))] [] ?_ ?_
  ·refine AO.c (Calm.move rfl rfl) ?_
   obtain ⟨t5, et5, hq4⟩ := of_bind hq4
   refine AO.callS [(eI64 p0)] (eI64 t5) 9 rfl (by decide) ok67 rfl rfl rfl ⟨rfl, rfl, trivial⟩ (rex_Takes_spec et5) ?_
   refine AO.c (Calm.move rfl rfl) ?_
   refine AO.c (Calm.lenL rfl rfl Try.underlying97) ?_
   refine AO.c (x := eBool (decide (t5 ≠ (p1.length : Int)))) (Calm.int rfl rfl rfl rfl) ?_
   refine AO.c (Calm.move rfl rfl) ?_
   rcases of_ite hq4 with ⟨hc6, hq4⟩ | ⟨hc6, hq4⟩
   ·refine AO.sF rfl rfl (bD (decide_eq_true hc6)) ?_
    refine AO.sF rfl rfl (bD (decide_eq_true hc6)) ?_
    refine AO.sF rfl rfl (bD (decide_eq_true hc6)) ?_
    refine AO.c (Calm.pickT rfl (bD (decide_eq_true hc6)) rfl) ?_
    cases hq4
    refine AO.nilE ⟨rfl, rfl⟩ ?_ ?_
    · exact ⟨rfl, rfl, rfl, trivial⟩
    · exact (Sub.refl _)
   ·refine AO.cG rfl rfl (bD (decide_eq_false hc6)) (Calm.move rfl rfl) ?_
    refine AO.cG rfl rfl (bD (decide_eq_false hc6)) (Calm.lenL rfl rfl Try.underlying97) ?_
    refine AO.cG (x := eBool (decide ((p1.length : Int) = (0 : Int)))) rfl rfl (bD (decide_eq_false hc6)) (Calm.int rfl rfl rfl rfl) ?_
    refine AO.c (Calm.pickF rfl (bD (decide_eq_false hc6)) rfl) ?_
    cases hq4
    refine AO.nilE ⟨rfl, rfl⟩ ?_ ?_
    · exact ⟨rfl, rfl, rfl, trivial⟩
    · exact (Sub.refl _)
  ·rcases of_ite h with ⟨hc7, h⟩ | ⟨hc7, h⟩
   ·refine AW.condT' _ rfl hc7 ?_
    refine AW.sr ?_
    refine AO.c (Calm.assign rfl rfl) ?_
    refine AO.nK [4] ?_
    refine AW.coeC 4 (y' := (.fz 5 (([] : List S82).map e82))) rfl Coe.nil ?_
    refine AW.rK [4] ?_
    have hr := Option.some.inj h
    subst hr
    exact ⟨[(.fz 5 (([] : List S82).map e82))], ⟨rfl, rfl, trivial⟩, rfl⟩
   ·refine AW.condF' _ rfl hc7 ?_
    refine AW.sK [0, 1] ?_
    refine AW.sr ?_
    refine AO.c (Calm.assign rfl rfl) ?_
    refine AO.nK [0, 1, 5] ?_
    refine AW.seq_mid (fun ρ H => ∃ (n8 : Nat) (x9 : (List S82)), ρ = [(0, (eI64 p0)), (5, (.own n8 0 x9.length))] ∧ H = [(n8, (.mem (.ar 5 (x9.map e82))))] ∧ rex_Join_c0 k p0 x9 = some r) ?_ ?_
    ·refine AW.sr ?_
     refine AO.c (Calm.move rfl rfl) ?_
     refine AO.c (Calm.lenL rfl rfl Try.underlying97) ?_
     refine AO.c (Calm.move rfl rfl) ?_
     refine AO.nK [0, 5, 18, 19, 20] ?_
     refine AW.block ?_
     refine AW.nilOwn 5 5 rfl fun n22 => ?_
     refine AW.wK [0, 5, 18, 19, 20] ?_
     refine AW.loop (fun kq ρ H => ∃ (n13 : Nat) (x14 : (List S82)) (x15 : Int), ρ = [(0, (eI64 p0)), (5, (.own n13 0 x14.length)), (18, (.fz 1 (p1.map e58))), (19, (eI64 (p1.length : Int))), (20, (eI64 x15))] ∧ H = [(n13, (.mem (.ar 5 (x14.map e82))))] ∧ rex_Join_l1 k p0 p1 kq x14 x15 = some r) k ⟨n22, ([] : List S82), (0 : Int), rfl, rfl, h⟩ ?_
     rintro kq17 _ _ ⟨n13, x14, x15, rfl, rfl, h⟩
     cases kq17 with
     | zero => rw [rex_Join_l1.eq_1] at h; cases h
     | succ kq17 =>
     rw [rex_Join_l1.eq_2] at h
     generalize hrec16 : rex_Join_l1 k p0 p1 kq17 = rec16 at h
     refine AW.sr ?_
     refine AO.c (x := eBool (decide (x15 < (p1.length : Int)))) (Calm.int rfl rfl rfl rfl) ?_
     refine AO.nK [0, 5, 18, 19, 20, 21] ?_
     refine AW.seq ?_
     rcases of_ite h with ⟨hc18, h⟩ | ⟨hc18, h⟩
     ·refine AW.condP _ rfl hc18 ?_
      refine AW.sK [0, 5, 18, 19, 20] ?_
      refine AW.seq ?_
      refine AW.block ?_
      refine AW.sr ?_
      obtain ⟨hg19, h⟩ := of_guard h
      refine AO.c (Calm.idxL (f := e58) rfl rfl rfl hg19 Try.underlying97 sz58) ?_
      refine AO.c (Calm.loadRp rfl rfl ag58 sz58) ?_
      refine AO.c (Calm.assign rfl rfl) ?_
      refine AO.nK [0, 5, 7, 18, 19, 20] ?_
      refine AW.reg ?_
      refine AO.c (Calm.move rfl rfl) ?_
      refine AO.c (Calm.move rfl rfl) ?_
      obtain ⟨hg21, h⟩ := of_guard h
      refine AO.appendL (l := x14) (m := (lget p1 x15)) 0 26 rfl (by decide) rfl rfl rfl rfl rfl Src.fz Try.underlying58 Try.underlying58 sz82 by82 zr82 rfl hg21 (by decide) fun n20 => ?_
      refine AO.c (Calm.assign rfl rfl) ?_
      refine AO.nK [0, 5, 18, 19, 20] ?_
      refine AW.reg ?_
      refine AO.c (x := eI64 (w64 (x15 + (1 : Int)))) (Calm.int rfl rfl rfl rfl) ?_
      refine AO.c (Calm.move rfl rfl) ?_
      refine AO.nK [0, 5, 18, 19, 20] ?_
      exact ⟨kq17, Nat.lt_succ_self _, n20, (x14 ++ (lget p1 x15)), (w64 (x15 + (1 : Int))), rfl, rfl, by rw [hrec16]; exact h⟩
     ·refine AW.condN _ rfl hc18 ?_
      refine AW.eK [0, 5] ?_
      exact ⟨n13, x14, rfl, rfl, h⟩
    ·rintro _ _ ⟨n8, x9, rfl, rfl, h⟩
     rw [rex_Join_c0.eq_1] at h
     refine AW.sr ?_
     refine AO.c (Calm.move rfl rfl) ?_
     refine AO.c (Calm.move rfl rfl) ?_
     refine AO.c (x := .st [(1, (eI64 p0)), (4, (.ar 1 ((Vector.replicate 4 (0 : Int)).toList.map eU64)))]) (Calm.build (qs := [(0, (eI64 p0))]) rfl ⟨rfl, rfl, rfl, trivial⟩ Try.underlying82 rfl zr82 lay82 (.cons rfl rfl rfl rfl (Put.cast (Put.fld0 Put.here) rfl) .nil) rfl) ?_
     refine AO.lit (Z := (.st [(1, (eI64 (0 : Int))), (4, (.ar 1 ((Vector.replicate 4 (0 : Int)).toList.map eU64)))])) (xs := (([(S82.mk p0 (Vector.replicate 4 (0 : Int)))] : List S82).map e82)) (qs := [(0, (e82 (S82.mk p0 (Vector.replicate 4 (0 : Int)))))]) rfl 31 rfl (by decide) rfl ⟨rfl, rfl, rfl, trivial⟩ Try.underlying58 sz82 zr82 lay82 rfl (by decide) (litOK (z := 5) [(e82 (S82.mk p0 (Vector.replicate 4 (0 : Int))))] rfl ⟨⟨rfl, rfl⟩, trivial⟩) rfl fun n10 => ?_
     obtain ⟨hg12, h⟩ := of_guard h
     refine AO.appendL (l := x9) (m := ([(S82.mk p0 (Vector.replicate 4 (0 : Int)))] : List S82)) 1 32 rfl (by decide) rfl rfl rfl rfl rfl (Src.ownL (f := e82) (l := ([(S82.mk p0 (Vector.replicate 4 (0 : Int)))] : List S82)) 0 rfl) Try.underlying58 Try.underlying58 sz82 by82 zr82 rfl hg12 (by decide) fun n11 => ?_
     refine AO.c (Calm.assign rfl rfl) ?_
     refine AO.nH [4] (H' := [(n11, (.mem (.ar 5 ((x9 ++ ([(S82.mk p0 (Vector.replicate 4 (0 : Int)))] : List S82)).map e82))))]) (Sub.cons 1 rfl (Sub.nil _)) ?_
     refine AW.freezeS 0 [(4, (.fz 5 ((x9 ++ ([(S82.mk p0 (Vector.replicate 4 (0 : Int)))] : List S82)).map e82)))] rfl ⟨fz_all rfl, trivial⟩ ?_
     refine AW.rK [4] ?_
     have hr := Option.some.inj h
     subst hr
     exact ⟨[(.fz 5 ((x9 ++ ([(S82.mk p0 (Vector.replicate 4 (0 : Int)))] : List S82)).map e82))], ⟨rfl, rfl, trivial⟩, rfl⟩
end Go.Avl.T3
/- bosket/deriv.cat; printed by avmain.py. -/
namespace Go.Avl.T3
open Go Go.RowKit Go.Proofs Go.Avl
set_option linter.unusedVariables false
set_option maxRecDepth 100000
set_option maxHeartbeats 4000000
attribute [local irreducible] AW AO AQ Spec SpecH Calm

def deriv_cat (k : Nat) (p0 : S62) (p1 : S62) : Option S62 :=
  Option.bind (α := Bool) (if p0.f0 = true then some (true)
  else some (p1.f0)) fun b6 =>
  if b6 = true then some ((S62.mk true []))
  else Option.bind (α := Bool) (if (p0.f1.length : Int) = (1 : Int) then if 0 ≤ (0 : Int) ∧ (0 : Int) < (p0.f1.length : Int) then some (decide (((lget p0.f1 (0 : Int)).f0) = (0 : Int)))
  else none
  else some (false)) fun b10 =>
  if b10 = true then some (p1)
  else Option.bind (α := Bool) (if (p1.f1.length : Int) = (1 : Int) then if 0 ≤ (0 : Int) ∧ (0 : Int) < (p1.f1.length : Int) then some (decide (((lget p1.f1 (0 : Int)).f0) = (0 : Int)))
  else none
  else some (false)) fun b15 =>
  if b15 = true then some (p0)
  else (rex_Join k (2 : Int) [p0.f1, p1.f1]).bind fun t21 =>
  some ((S62.mk false t21))
theorem deriv_cat_spec {k : Nat} {p0 : S62} {p1 : S62} {r : S62} (h : deriv_cat k p0 p1 = some r) : Spec Try.prog 70 [(e62 p0), (e62 p1)] (e62 r) := by
  rw [deriv_cat.eq_1] at h
  refine Spec.intro (res := [.cell 4 62]) Try.func70 rfl rfl rfl (Nat.le_of_ble_eq_true rfl) ?_
  refine AW.sr ?_
  refine AO.box rfl 2 rfl (by decide) rfl rfl rfl fun n3 => ?_
  refine AO.box rfl 3 rfl (by decide) rfl rfl rfl fun n4 => ?_
  refine AO.alloc rfl 4 rfl (by decide) rfl zr62 lay62 fun n5 => ?_
  refine AO.nH [2, 3, 4] (H' := [(n3, (.mem (e62 p0))), (n4, (.mem (e62 p1))), (n5, (.mem (.st [(1, (eBool false)), (1, (.fl (.slice none 0 0)))])))]) (Sub.cons 2 rfl (Sub.cons 1 rfl (Sub.cons 0 rfl (Sub.nil _)))) ?_
  refine AW.seq ?_
  refine AW.block ?_
  refine AW.seq ?_
  obtain ⟨b6, hq7, h⟩ := of_bind h
  refine AW.regM [(2, (.ptr n3 0)), (3, (.ptr n4 0)), (4, (.ptr n5 0)), (5, (eBool b6))] [(n3, (.mem (e62 p0))), (n4, (.mem (e62 p1))), (n5, (.mem (.st [(1, (eBool false)), (1, (.fl (.slice none 0 0)))])))] ?_ ?_
  ·refine AO.c (x := .ptr n3 0) (Calm.fldPtr rfl rfl Try.underlying62 rfl sz4 _ rfl) ?_
   refine AO.c (Calm.load 0 rfl rfl rfl (At.cast (At.fld0 At.here) rfl) ag4 sz4) ?_
   refine AO.c (Calm.move rfl rfl) ?_
   rcases of_ite hq7 with ⟨hc8, hq7⟩ | ⟨hc8, hq7⟩
   ·refine AO.sF rfl rfl (bD hc8) ?_
    refine AO.sF rfl rfl (bD hc8) ?_
    refine AO.c (Calm.pickT rfl (bD hc8) rfl) ?_
    refine AO.c (Calm.assign rfl rfl) ?_
    cases hq7
    refine AO.nilE ⟨rfl, rfl⟩ ?_ ?_
    · exact ⟨rfl, rfl, rfl, rfl, trivial⟩
    · exact (Sub.refl _)
   ·refine AO.cG (x := .ptr n4 0) rfl rfl (bD (eq_false_of_ne_true hc8)) (Calm.fldPtr rfl rfl Try.underlying62 rfl sz4 _ rfl) ?_
    refine AO.cG rfl rfl (bD (eq_false_of_ne_true hc8)) (Calm.load 1 rfl rfl rfl (At.cast (At.fld0 At.here) rfl) ag4 sz4) ?_
    refine AO.c (Calm.pickF rfl (bD (eq_false_of_ne_true hc8)) rfl) ?_
    refine AO.c (Calm.assign rfl rfl) ?_
    cases hq7
    refine AO.nilE ⟨rfl, rfl⟩ ?_ ?_
    · exact ⟨rfl, rfl, rfl, rfl, trivial⟩
    · exact (Sub.refl _)
  ·rcases of_ite h with ⟨hc9, h⟩ | ⟨hc9, h⟩
   ·refine AW.condT' _ rfl hc9 ?_
    refine AW.sr ?_
    refine AO.c (x := .st [(1, (eBool true)), (1, (.fl (.slice none 0 0)))]) (Calm.build (qs := [(0, (eBool true))]) rfl ⟨rfl, rfl, rfl, trivial⟩ Try.underlying62 rfl zr62 lay62 (.cons rfl rfl rfl rfl (Put.cast (Put.fld0 Put.here) rfl) .nil) rfl) ?_
    refine AO.coeC 12 (y' := (e62 (S62.mk true []))) rfl (Coe.st Coe.refl (Coe.st Coe.nil Coe.refl)) ?_
    refine AO.store (X' := (e62 (S62.mk true []))) 2 rfl rfl rfl rfl rfl rfl (Put.cast Put.here rfl) rfl rfl sz62 rfl ?_
    refine AO.nH [4] (H' := [(n5, (.mem (e62 (S62.mk true []))))]) (Sub.cons 2 rfl (Sub.nil _)) ?_
    refine AW.rK [4] ?_
    have hr := Option.some.inj h
    subst hr
    exact ⟨[(e62 (S62.mk true []))], ⟨⟨_, 0, rfl, rfl, ag62, sz62⟩, trivial⟩, rfl⟩
   ·refine AW.condF' _ rfl hc9 ?_
    refine AW.seq ?_
    obtain ⟨b10, hq11, h⟩ := of_bind h
    refine AW.regM [(2, (.ptr n3 0)), (3, (.ptr n4 0)), (4, (.ptr n5 0)), (13, (eBool b10))] [(n3, (.mem (e62 p0))), (n4, (.mem (e62 p1))), (n5, (.mem (.st [(1, (eBool false)), (1, (.fl (.slice none 0 0)))])))] ?_ ?_
    ·refine AO.c (x := .ptr n3 1) (Calm.fldPtr rfl rfl Try.underlying62 rfl sz58 _ rfl) ?_
     refine AO.c (Calm.load 0 rfl rfl rfl (At.cast (At.fldS (At.fld0 At.here)) rfl) ag58 sz58) ?_
     refine AO.c (Calm.lenL rfl rfl Try.underlying58) ?_
     refine AO.c (x := eBool (decide ((p0.f1.length : Int) = (1 : Int)))) (Calm.int rfl rfl rfl rfl) ?_
     refine AO.c (Calm.move rfl rfl) ?_
     rcases of_ite hq11 with ⟨hc12, hq11⟩ | ⟨hc12, hq11⟩
     ·refine AO.cG (x := .ptr n3 1) rfl rfl (bD (decide_eq_true hc12)) (Calm.fldPtr rfl rfl Try.underlying62 rfl sz58 _ rfl) ?_
      refine AO.cG rfl rfl (bD (decide_eq_true hc12)) (Calm.load 0 rfl rfl rfl (At.cast (At.fldS (At.fld0 At.here)) rfl) ag58 sz58) ?_
      obtain ⟨hg13, hq11⟩ := of_guard hq11
      refine AO.cG rfl rfl (bD (decide_eq_true hc12)) (Calm.idxL (f := e82) rfl rfl rfl hg13 Try.underlying58 sz82) ?_
      refine AO.cG rfl rfl (bD (decide_eq_true hc12)) (Calm.fldRp rfl rfl Try.underlying82 rfl sz3 (At.cast (At.fld0 At.here) rfl)) ?_
      refine AO.cG rfl rfl (bD (decide_eq_true hc12)) (Calm.loadRp rfl rfl ag3 sz3) ?_
      refine AO.cG (x := eBool (decide (((lget p0.f1 (0 : Int)).f0) = (0 : Int)))) rfl rfl (bD (decide_eq_true hc12)) (Calm.int rfl rfl rfl rfl) ?_
      refine AO.c (Calm.pickT rfl (bD (decide_eq_true hc12)) rfl) ?_
      refine AO.c (Calm.assign rfl rfl) ?_
      cases hq11
      refine AO.nilE ⟨rfl, rfl⟩ ?_ ?_
      · exact ⟨rfl, rfl, rfl, rfl, trivial⟩
      · exact (Sub.refl _)
     ·refine AO.sT rfl rfl (bD (decide_eq_false hc12)) ?_
      refine AO.sT rfl rfl (bD (decide_eq_false hc12)) ?_
      refine AO.sT rfl rfl (bD (decide_eq_false hc12)) ?_
      refine AO.sT rfl rfl (bD (decide_eq_false hc12)) ?_
      refine AO.sT rfl rfl (bD (decide_eq_false hc12)) ?_
      refine AO.sT rfl rfl (bD (decide_eq_false hc12)) ?_
      refine AO.c (Calm.pickF rfl (bD (decide_eq_false hc12)) rfl) ?_
      refine AO.c (Calm.assign rfl rfl) ?_
      cases hq11
      refine AO.nilE ⟨rfl, rfl⟩ ?_ ?_
      · exact ⟨rfl, rfl, rfl, rfl, trivial⟩
      · exact (Sub.refl _)
    ·rcases of_ite h with ⟨hc14, h⟩ | ⟨hc14, h⟩
     ·refine AW.condT' _ rfl hc14 ?_
      refine AW.sr ?_
      refine AO.c (Calm.load 1 rfl rfl rfl (At.cast At.here rfl) ag62 sz62) ?_
      refine AO.store (X' := (e62 p1)) 2 rfl rfl rfl rfl rfl rfl (Put.cast Put.here rfl) rfl rfl sz62 rfl ?_
      refine AO.nH [4] (H' := [(n5, (.mem (e62 p1)))]) (Sub.cons 2 rfl (Sub.nil _)) ?_
      refine AW.rK [4] ?_
      have hr := Option.some.inj h
      subst hr
      exact ⟨[(e62 p1)], ⟨⟨_, 0, rfl, rfl, ag62, sz62⟩, trivial⟩, rfl⟩
     ·refine AW.condF' _ rfl hc14 ?_
      refine AW.seq ?_
      obtain ⟨b15, hq16, h⟩ := of_bind h
      refine AW.regM [(2, (.ptr n3 0)), (3, (.ptr n4 0)), (4, (.ptr n5 0)), (27, (eBool b15))] [(n3, (.mem (e62 p0))), (n4, (.mem (e62 p1))), (n5, (.mem (.st [(1, (eBool false)), (1, (.fl (.slice none 0 0)))])))] ?_ ?_
      ·refine AO.c (x := .ptr n4 1) (Calm.fldPtr rfl rfl Try.underlying62 rfl sz58 _ rfl) ?_
       refine AO.c (Calm.load 1 rfl rfl rfl (At.cast (At.fldS (At.fld0 At.here)) rfl) ag58 sz58) ?_
       refine AO.c (Calm.lenL rfl rfl Try.underlying58) ?_
       refine AO.c (x := eBool (decide ((p1.f1.length : Int) = (1 : Int)))) (Calm.int rfl rfl rfl rfl) ?_
       refine AO.c (Calm.move rfl rfl) ?_
       rcases of_ite hq16 with ⟨hc17, hq16⟩ | ⟨hc17, hq16⟩
       ·refine AO.cG (x := .ptr n4 1) rfl rfl (bD (decide_eq_true hc17)) (Calm.fldPtr rfl rfl Try.underlying62 rfl sz58 _ rfl) ?_
        refine AO.cG rfl rfl (bD (decide_eq_true hc17)) (Calm.load 1 rfl rfl rfl (At.cast (At.fldS (At.fld0 At.here)) rfl) ag58 sz58) ?_
        obtain ⟨hg18, hq16⟩ := of_guard hq16
        refine AO.cG rfl rfl (bD (decide_eq_true hc17)) (Calm.idxL (f := e82) rfl rfl rfl hg18 Try.underlying58 sz82) ?_
        refine AO.cG rfl rfl (bD (decide_eq_true hc17)) (Calm.fldRp rfl rfl Try.underlying82 rfl sz3 (At.cast (At.fld0 At.here) rfl)) ?_
        refine AO.cG rfl rfl (bD (decide_eq_true hc17)) (Calm.loadRp rfl rfl ag3 sz3) ?_
        refine AO.cG (x := eBool (decide (((lget p1.f1 (0 : Int)).f0) = (0 : Int)))) rfl rfl (bD (decide_eq_true hc17)) (Calm.int rfl rfl rfl rfl) ?_
        refine AO.c (Calm.pickT rfl (bD (decide_eq_true hc17)) rfl) ?_
        refine AO.c (Calm.assign rfl rfl) ?_
        cases hq16
        refine AO.nilE ⟨rfl, rfl⟩ ?_ ?_
        · exact ⟨rfl, rfl, rfl, rfl, trivial⟩
        · exact (Sub.refl _)
       ·refine AO.sT rfl rfl (bD (decide_eq_false hc17)) ?_
        refine AO.sT rfl rfl (bD (decide_eq_false hc17)) ?_
        refine AO.sT rfl rfl (bD (decide_eq_false hc17)) ?_
        refine AO.sT rfl rfl (bD (decide_eq_false hc17)) ?_
        refine AO.sT rfl rfl (bD (decide_eq_false hc17)) ?_
        refine AO.sT rfl rfl (bD (decide_eq_false hc17)) ?_
        refine AO.c (Calm.pickF rfl (bD (decide_eq_false hc17)) rfl) ?_
        refine AO.c (Calm.assign rfl rfl) ?_
        cases hq16
        refine AO.nilE ⟨rfl, rfl⟩ ?_ ?_
        · exact ⟨rfl, rfl, rfl, rfl, trivial⟩
        · exact (Sub.refl _)
      ·rcases of_ite h with ⟨hc19, h⟩ | ⟨hc19, h⟩
       ·refine AW.condT' _ rfl hc19 ?_
        refine AW.sr ?_
        refine AO.c (Calm.load 0 rfl rfl rfl (At.cast At.here rfl) ag62 sz62) ?_
        refine AO.store (X' := (e62 p0)) 2 rfl rfl rfl rfl rfl rfl (Put.cast Put.here rfl) rfl rfl sz62 rfl ?_
        refine AO.nH [4] (H' := [(n5, (.mem (e62 p0)))]) (Sub.cons 2 rfl (Sub.nil _)) ?_
        refine AW.rK [4] ?_
        have hr := Option.some.inj h
        subst hr
        exact ⟨[(e62 p0)], ⟨⟨_, 0, rfl, rfl, ag62, sz62⟩, trivial⟩, rfl⟩
       ·refine AW.condF' _ rfl hc19 ?_
        refine AW.sK [2, 3, 4] ?_
        refine AW.sr ?_
        refine AO.c (x := .ptr n3 1) (Calm.fldPtr rfl rfl Try.underlying62 rfl sz58 _ rfl) ?_
        refine AO.c (Calm.load 0 rfl rfl rfl (At.cast (At.fldS (At.fld0 At.here)) rfl) ag58 sz58) ?_
        refine AO.c (x := .ptr n4 1) (Calm.fldPtr rfl rfl Try.underlying62 rfl sz58 _ rfl) ?_
        refine AO.c (Calm.load 1 rfl rfl rfl (At.cast (At.fldS (At.fld0 At.here)) rfl) ag58 sz58) ?_
        refine AO.lit (Z := (.fl (.slice none 0 0))) (xs := (([p0.f1, p1.f1] : List (List S82)).map e58)) (qs := [(0, (.fz 5 (p0.f1.map e82))), (1, (.fz 5 (p1.f1.map e82)))]) rfl 45 rfl (by decide) rfl ⟨rfl, rfl, rfl, rfl, rfl, rfl, trivial⟩ Try.underlying97 sz58 zr58 lay58 rfl (by decide) (litOK (z := 1) [(.fz 5 (p0.f1.map e82)), (.fz 5 (p1.f1.map e82))] rfl ⟨⟨rfl, rfl⟩, ⟨rfl, rfl⟩, trivial⟩) rfl fun n20 => ?_
        obtain ⟨t21, et21, h⟩ := of_bind h
        refine AO.freezeS 0 [(45, (.fz 1 (([p0.f1, p1.f1] : List (List S82)).map e58)))] rfl ⟨fz_all rfl, trivial⟩ ?_
        refine AO.callS [(eI64 (2 : Int)), (.fz 1 (([p0.f1, p1.f1] : List (List S82)).map e58))] (.fz 5 (t21.map e82)) 46 rfl (by decide) ok72 rfl rfl rfl ⟨rfl, rfl, rfl, rfl, trivial⟩ (rex_Join_spec et21) ?_
        refine AO.c (x := .st [(1, (eBool false)), (1, (.fz 5 (t21.map e82)))]) (Calm.build (qs := [(1, (.fz 5 (t21.map e82)))]) rfl ⟨rfl, rfl, rfl, trivial⟩ Try.underlying62 rfl zr62 lay62 (.cons rfl rfl rfl rfl (Put.cast (Put.fldS (Put.fld0 Put.here)) rfl) .nil) rfl) ?_
        refine AO.store (X' := (e62 (S62.mk false t21))) 2 rfl rfl rfl rfl rfl rfl (Put.cast Put.here rfl) rfl rfl sz62 rfl ?_
        refine AO.nH [4] (H' := [(n5, (.mem (e62 (S62.mk false t21))))]) (Sub.cons 2 rfl (Sub.nil _)) ?_
        refine AW.rK [4] ?_
        have hr := Option.some.inj h
        subst hr
        exact ⟨[(e62 (S62.mk false t21))], ⟨⟨_, 0, rfl, rfl, ag62, sz62⟩, trivial⟩, rfl⟩
end Go.Avl.T3
/- slices.Equal[bosket/api.Regex,bosket/api.Piece]; printed by avmain.py. -/
namespace Go.Avl.T3
open Go Go.RowKit Go.Proofs Go.Avl
set_option linter.unusedVariables false
set_option maxRecDepth 100000
set_option maxHeartbeats 4000000
attribute [local irreducible] AW AO AQ Spec SpecH Calm

def slices_Equal_api_Regex_api_Piece__c0 (k : Nat) : Option Bool :=
  some (true)
def slices_Equal_api_Regex_api_Piece__l1 (k : Nat) (p0 : (List S82)) (p1 : (List S82)) : Nat → Int → Option Bool
  | 0, _ => none
  | j + 1, x4 =>
    if x4 < (p0.length : Int) then if 0 ≤ x4 ∧ x4 < (p0.length : Int) then if 0 ≤ x4 ∧ x4 < (p1.length : Int) then if (!(decide ((lget p0 x4) = (lget p1 x4)))) = true then some (false)
    else (slices_Equal_api_Regex_api_Piece__l1 k p0 p1 j) (w64 (x4 + (1 : Int)))
    else none
    else none
    else slices_Equal_api_Regex_api_Piece__c0 k
def slices_Equal_api_Regex_api_Piece_ (k : Nat) (p0 : (List S82)) (p1 : (List S82)) : Option Bool :=
  if (p0.length : Int) ≠ (p1.length : Int) then some (false)
  else slices_Equal_api_Regex_api_Piece__l1 k p0 p1 k (0 : Int)
theorem slices_Equal_api_Regex_api_Piece__spec {k : Nat} {p0 : (List S82)} {p1 : (List S82)} {r : Bool} (h : slices_Equal_api_Regex_api_Piece_ k p0 p1 = some r) : Spec Try.prog 82 [(.fz 5 (p0.map e82)), (.fz 5 (p1.map e82))] (eBool r) := by
  rw [slices_Equal_api_Regex_api_Piece_.eq_1] at h
  refine Spec.intro (res := [.tmp 4]) Try.func82 rfl rfl rfl (Nat.le_of_ble_eq_true rfl) ?_
  refine AW.sr ?_
  refine AO.c (Calm.assign rfl rfl) ?_
  refine AO.nK [0, 1] ?_
  refine AW.seq ?_
  refine AW.sr ?_
  refine AO.c (Calm.move rfl rfl) ?_
  refine AO.c (Calm.lenL rfl rfl Try.underlying58) ?_
  refine AO.c (Calm.move rfl rfl) ?_
  refine AO.c (Calm.lenL rfl rfl Try.underlying58) ?_
  refine AO.c (x := eBool (decide ((p0.length : Int) ≠ (p1.length : Int)))) (Calm.int rfl rfl rfl rfl) ?_
  refine AO.nK [0, 1, 10] ?_
  rcases of_ite h with ⟨hc3, h⟩ | ⟨hc3, h⟩
  ·refine AW.condP _ rfl hc3 ?_
   refine AW.sr ?_
   refine AO.c (Calm.assign rfl rfl) ?_
   refine AO.nK [4] ?_
   refine AW.rK [4] ?_
   have hr := Option.some.inj h
   subst hr
   exact ⟨[(eBool false)], ⟨rfl, rfl, trivial⟩, rfl⟩
  ·refine AW.condN _ rfl hc3 ?_
   refine AW.sK [0, 1] ?_
   refine AW.seq_mid (fun ρ H => ρ = [] ∧ H = [] ∧ slices_Equal_api_Regex_api_Piece__c0 k = some r) ?_ ?_
   ·refine AW.sr ?_
    refine AO.c (Calm.move rfl rfl) ?_
    refine AO.c (Calm.lenL rfl rfl Try.underlying58) ?_
    refine AO.c (Calm.move rfl rfl) ?_
    refine AO.nK [0, 1, 12, 13] ?_
    refine AW.block ?_
    refine AW.wK [0, 1, 12, 13] ?_
    refine AW.loop (fun kq ρ H => ∃ (x4 : Int), ρ = [(0, (.fz 5 (p0.map e82))), (1, (.fz 5 (p1.map e82))), (12, (eI64 (p0.length : Int))), (13, (eI64 x4))] ∧ H = [] ∧ slices_Equal_api_Regex_api_Piece__l1 k p0 p1 kq x4 = some r) k ⟨(0 : Int), rfl, rfl, h⟩ ?_
    rintro kq6 _ _ ⟨x4, rfl, rfl, h⟩
    cases kq6 with
    | zero => rw [slices_Equal_api_Regex_api_Piece__l1.eq_1] at h; cases h
    | succ kq6 =>
    rw [slices_Equal_api_Regex_api_Piece__l1.eq_2] at h
    generalize hrec5 : slices_Equal_api_Regex_api_Piece__l1 k p0 p1 kq6 = rec5 at h
    refine AW.sr ?_
    refine AO.c (x := eBool (decide (x4 < (p0.length : Int)))) (Calm.int rfl rfl rfl rfl) ?_
    refine AO.nK [0, 1, 12, 13, 14] ?_
    refine AW.seq ?_
    rcases of_ite h with ⟨hc7, h⟩ | ⟨hc7, h⟩
    ·refine AW.condP _ rfl hc7 ?_
     refine AW.sK [0, 1, 12, 13] ?_
     refine AW.seq ?_
     refine AW.block ?_
     refine AW.sr ?_
     refine AO.c (Calm.move rfl rfl) ?_
     refine AO.c (Calm.assign rfl rfl) ?_
     refine AO.nK [0, 1, 5, 12, 13] ?_
     refine AW.seq ?_
     refine AW.regQ (by rfl) (by decide +kernel) ?_
     refine AQ.c (Calm.move rfl rfl) ?_
     refine AQ.c (Calm.move rfl rfl) ?_
     obtain ⟨hg8, h⟩ := of_guard h
     refine AQ.c (Calm.idxL (f := e82) rfl rfl rfl hg8 Try.underlying58 sz82) ?_
     refine AQ.c (Calm.loadRp rfl rfl ag82 sz82) ?_
     refine AQ.c (Calm.move rfl rfl) ?_
     refine AQ.c (Calm.move rfl rfl) ?_
     obtain ⟨hg9, h⟩ := of_guard h
     refine AQ.c (Calm.idxL (f := e82) rfl rfl rfl hg9 Try.underlying58 sz82) ?_
     refine AQ.c (Calm.loadRp rfl rfl ag82 sz82) ?_
     refine AQ.c (x := eBool (!(decide ((lget p0 x4) = (lget p1 x4))))) (Calm.neS rfl rfl rfl eg82 (eqk82 (lget p0 x4) (lget p1 x4)) (by decide)) ?_
     refine AQ.nK [0, 1, 12, 13, 24] ?_
     rcases of_ite h with ⟨hc10, h⟩ | ⟨hc10, h⟩
     ·refine AW.condT' _ rfl hc10 ?_
      refine AW.sr ?_
      refine AO.c (Calm.assign rfl rfl) ?_
      refine AO.nK [4] ?_
      refine AW.rK [4] ?_
      have hr := Option.some.inj h
      subst hr
      exact ⟨[(eBool false)], ⟨rfl, rfl, trivial⟩, rfl⟩
     ·refine AW.condF' _ rfl hc10 ?_
      refine AW.sK [0, 1, 12, 13] ?_
      refine AW.reg ?_
      refine AO.c (x := eI64 (w64 (x4 + (1 : Int)))) (Calm.int rfl rfl rfl rfl) ?_
      refine AO.c (Calm.move rfl rfl) ?_
      refine AO.nK [0, 1, 12, 13] ?_
      exact ⟨kq6, Nat.lt_succ_self _, (w64 (x4 + (1 : Int))), rfl, rfl, by rw [hrec5]; exact h⟩
    ·refine AW.condN _ rfl hc7 ?_
     refine AW.eK [] ?_
     exact ⟨rfl, rfl, h⟩
   ·rintro _ _ ⟨rfl, rfl, h⟩
    rw [slices_Equal_api_Regex_api_Piece__c0.eq_1] at h
    refine AW.sr ?_
    refine AO.c (Calm.assign rfl rfl) ?_
    refine AO.nK [4] ?_
    refine AW.rK [4] ?_
    have hr := Option.some.inj h
    subst hr
    exact ⟨[(eBool true)], ⟨rfl, rfl, trivial⟩, rfl⟩
end Go.Avl.T3
/- bosket/rex.Same; printed by avmain.py. -/
namespace Go.Avl.T3
open Go Go.RowKit Go.Proofs Go.Avl
set_option linter.unusedVariables false
set_option maxRecDepth 100000
set_option maxHeartbeats 4000000
attribute [local irreducible] AW AO AQ Spec SpecH Calm

def rex_Same (k : Nat) (p0 : (List S82)) (p1 : (List S82)) : Option Bool :=
  (slices_Equal_api_Regex_api_Piece_ k p0 p1).bind fun t3 =>
  some (t3)
theorem rex_Same_spec {k : Nat} {p0 : (List S82)} {p1 : (List S82)} {r : Bool} (h : rex_Same k p0 p1 = some r) : Spec Try.prog 80 [(.fz 5 (p0.map e82)), (.fz 5 (p1.map e82))] (eBool r) := by
  rw [rex_Same.eq_1] at h
  refine Spec.intro (res := [.tmp 4]) Try.func80 rfl rfl rfl (Nat.le_of_ble_eq_true rfl) ?_
  refine AW.sr ?_
  refine AO.c (Calm.assign rfl rfl) ?_
  refine AO.nK [0, 1] ?_
  refine AW.sr ?_
  refine AO.c (Calm.move rfl rfl) ?_
  refine AO.c (Calm.move rfl rfl) ?_
  obtain ⟨t3, et3, h⟩ := of_bind h
  refine AO.callS [(.fz 5 (p0.map e82)), (.fz 5 (p1.map e82))] (eBool t3) 7 rfl (by decide) ok82 rfl rfl rfl ⟨rfl, rfl, rfl, rfl, trivial⟩ (slices_Equal_api_Regex_api_Piece__spec et3) ?_
  refine AO.c (Calm.assign rfl rfl) ?_
  refine AO.nK [4] ?_
  refine AW.rK [4] ?_
  have hr := Option.some.inj h
  subst hr
  exact ⟨[(eBool t3)], ⟨rfl, rfl, trivial⟩, rfl⟩
end Go.Avl.T3
/- bosket/deriv.alt; printed by avmain.py. -/
namespace Go.Avl.T3
open Go Go.RowKit Go.Proofs Go.Avl
set_option linter.unusedVariables false
set_option maxRecDepth 100000
set_option maxHeartbeats 4000000
attribute [local irreducible] AW AO AQ Spec SpecH Calm

def deriv_alt (k : Nat) (p0 : S62) (p1 : S62) : Option S62 :=
  if p0.f0 = true then some (p1)
  else Option.bind (α := Bool) (if p1.f0 = true then some (true)
  else (rex_Same k p0.f1 p1.f1).bind fun t10 =>
  some (t10)) fun b7 =>
  if b7 = true then some (p0)
  else (rex_Join k (3 : Int) [p0.f1, p1.f1]).bind fun t13 =>
  some ((S62.mk false t13))
theorem deriv_alt_spec {k : Nat} {p0 : S62} {p1 : S62} {r : S62} (h : deriv_alt k p0 p1 = some r) : Spec Try.prog 71 [(e62 p0), (e62 p1)] (e62 r) := by
  rw [deriv_alt.eq_1] at h
  refine Spec.intro (res := [.cell 4 62]) Try.func71 rfl rfl rfl (Nat.le_of_ble_eq_true rfl) ?_
  refine AW.sr ?_
  refine AO.box rfl 2 rfl (by decide) rfl rfl rfl fun n3 => ?_
  refine AO.box rfl 3 rfl (by decide) rfl rfl rfl fun n4 => ?_
  refine AO.alloc rfl 4 rfl (by decide) rfl zr62 lay62 fun n5 => ?_
  refine AO.nH [2, 3, 4] (H' := [(n3, (.mem (e62 p0))), (n4, (.mem (e62 p1))), (n5, (.mem (.st [(1, (eBool false)), (1, (.fl (.slice none 0 0)))])))]) (Sub.cons 2 rfl (Sub.cons 1 rfl (Sub.cons 0 rfl (Sub.nil _)))) ?_
  refine AW.seq ?_
  refine AW.block ?_
  refine AW.sr ?_
  refine AO.c (x := .ptr n3 0) (Calm.fldPtr rfl rfl Try.underlying62 rfl sz4 _ rfl) ?_
  refine AO.c (Calm.load 0 rfl rfl rfl (At.cast (At.fld0 At.here) rfl) ag4 sz4) ?_
  refine AO.c (Calm.assign rfl rfl) ?_
  refine AO.nK [2, 3, 4, 5] ?_
  rcases of_ite h with ⟨hc6, h⟩ | ⟨hc6, h⟩
  ·refine AW.condT' _ rfl hc6 ?_
   refine AW.sr ?_
   refine AO.c (Calm.load 1 rfl rfl rfl (At.cast At.here rfl) ag62 sz62) ?_
   refine AO.store (X' := (e62 p1)) 2 rfl rfl rfl rfl rfl rfl (Put.cast Put.here rfl) rfl rfl sz62 rfl ?_
   refine AO.nH [4] (H' := [(n5, (.mem (e62 p1)))]) (Sub.cons 2 rfl (Sub.nil _)) ?_
   refine AW.rK [4] ?_
   have hr := Option.some.inj h
   subst hr
   exact ⟨[(e62 p1)], ⟨⟨_, 0, rfl, rfl, ag62, sz62⟩, trivial⟩, rfl⟩
  ·refine AW.condF' _ rfl hc6 ?_
   refine AW.seq ?_
   obtain ⟨b7, hq8, h⟩ := of_bind h
   refine AW.regM [(2, (.ptr n3 0)), (3, (.ptr n4 0)), (4, (.ptr n5 0)), (9, (eBool b7))] [(n3, (.mem (e62 p0))), (n4, (.mem (e62 p1))), (n5, (.mem (.st [(1, (eBool false)), (1, (.fl (.slice none 0 0)))])))] ?_ ?_
   ·refine AO.c (x := .ptr n4 0) (Calm.fldPtr rfl rfl Try.underlying62 rfl sz4 _ rfl) ?_
    refine AO.c (Calm.load 1 rfl rfl rfl (At.cast (At.fld0 At.here) rfl) ag4 sz4) ?_
    refine AO.c (Calm.move rfl rfl) ?_
    rcases of_ite hq8 with ⟨hc9, hq8⟩ | ⟨hc9, hq8⟩
    ·refine AO.sF rfl rfl (bD hc9) ?_
     refine AO.sF rfl rfl (bD hc9) ?_
     refine AO.sF rfl rfl (bD hc9) ?_
     refine AO.sF rfl rfl (bD hc9) ?_
     refine AO.sF rfl rfl (bD hc9) ?_
     refine AO.c (Calm.pickT rfl (bD hc9) rfl) ?_
     refine AO.c (Calm.assign rfl rfl) ?_
     cases hq8
     refine AO.nilE ⟨rfl, rfl⟩ ?_ ?_
     · exact ⟨rfl, rfl, rfl, rfl, trivial⟩
     · exact (Sub.refl _)
    ·refine AO.cG (x := .ptr n3 1) rfl rfl (bD (eq_false_of_ne_true hc9)) (Calm.fldPtr rfl rfl Try.underlying62 rfl sz58 _ rfl) ?_
     refine AO.cG rfl rfl (bD (eq_false_of_ne_true hc9)) (Calm.load 0 rfl rfl rfl (At.cast (At.fldS (At.fld0 At.here)) rfl) ag58 sz58) ?_
     refine AO.cG (x := .ptr n4 1) rfl rfl (bD (eq_false_of_ne_true hc9)) (Calm.fldPtr rfl rfl Try.underlying62 rfl sz58 _ rfl) ?_
     refine AO.cG rfl rfl (bD (eq_false_of_ne_true hc9)) (Calm.load 1 rfl rfl rfl (At.cast (At.fldS (At.fld0 At.here)) rfl) ag58 sz58) ?_
     obtain ⟨t10, et10, hq8⟩ := of_bind hq8
     refine AO.callG 2 false 12 [(.fz 5 (p0.f1.map e82)), (.fz 5 (p1.f1.map e82))] (eBool t10) 17 rfl (by decide) ok80 rfl rfl (bD (eq_false_of_ne_true hc9)) rfl rfl ⟨rfl, rfl, rfl, rfl, trivial⟩ (rex_Same_spec et10) ?_
     refine AO.c (Calm.pickF rfl (bD (eq_false_of_ne_true hc9)) rfl) ?_
     refine AO.c (Calm.assign rfl rfl) ?_
     cases hq8
     refine AO.nilE ⟨rfl, rfl⟩ ?_ ?_
     · exact ⟨rfl, rfl, rfl, rfl, trivial⟩
     · exact (Sub.refl _)
   ·rcases of_ite h with ⟨hc11, h⟩ | ⟨hc11, h⟩
    ·refine AW.condT' _ rfl hc11 ?_
     refine AW.sr ?_
     refine AO.c (Calm.load 0 rfl rfl rfl (At.cast At.here rfl) ag62 sz62) ?_
     refine AO.store (X' := (e62 p0)) 2 rfl rfl rfl rfl rfl rfl (Put.cast Put.here rfl) rfl rfl sz62 rfl ?_
     refine AO.nH [4] (H' := [(n5, (.mem (e62 p0)))]) (Sub.cons 2 rfl (Sub.nil _)) ?_
     refine AW.rK [4] ?_
     have hr := Option.some.inj h
     subst hr
     exact ⟨[(e62 p0)], ⟨⟨_, 0, rfl, rfl, ag62, sz62⟩, trivial⟩, rfl⟩
    ·refine AW.condF' _ rfl hc11 ?_
     refine AW.sK [2, 3, 4] ?_
     refine AW.sr ?_
     refine AO.c (x := .ptr n3 1) (Calm.fldPtr rfl rfl Try.underlying62 rfl sz58 _ rfl) ?_
     refine AO.c (Calm.load 0 rfl rfl rfl (At.cast (At.fldS (At.fld0 At.here)) rfl) ag58 sz58) ?_
     refine AO.c (x := .ptr n4 1) (Calm.fldPtr rfl rfl Try.underlying62 rfl sz58 _ rfl) ?_
     refine AO.c (Calm.load 1 rfl rfl rfl (At.cast (At.fldS (At.fld0 At.here)) rfl) ag58 sz58) ?_
     refine AO.lit (Z := (.fl (.slice none 0 0))) (xs := (([p0.f1, p1.f1] : List (List S82)).map e58)) (qs := [(0, (.fz 5 (p0.f1.map e82))), (1, (.fz 5 (p1.f1.map e82)))]) rfl 24 rfl (by decide) rfl ⟨rfl, rfl, rfl, rfl, rfl, rfl, trivial⟩ Try.underlying97 sz58 zr58 lay58 rfl (by decide) (litOK (z := 1) [(.fz 5 (p0.f1.map e82)), (.fz 5 (p1.f1.map e82))] rfl ⟨⟨rfl, rfl⟩, ⟨rfl, rfl⟩, trivial⟩) rfl fun n12 => ?_
     obtain ⟨t13, et13, h⟩ := of_bind h
     refine AO.freezeS 0 [(24, (.fz 1 (([p0.f1, p1.f1] : List (List S82)).map e58)))] rfl ⟨fz_all rfl, trivial⟩ ?_
     refine AO.callS [(eI64 (3 : Int)), (.fz 1 (([p0.f1, p1.f1] : List (List S82)).map e58))] (.fz 5 (t13.map e82)) 25 rfl (by decide) ok72 rfl rfl rfl ⟨rfl, rfl, rfl, rfl, trivial⟩ (rex_Join_spec et13) ?_
     refine AO.c (x := .st [(1, (eBool false)), (1, (.fz 5 (t13.map e82)))]) (Calm.build (qs := [(1, (.fz 5 (t13.map e82)))]) rfl ⟨rfl, rfl, rfl, trivial⟩ Try.underlying62 rfl zr62 lay62 (.cons rfl rfl rfl rfl (Put.cast (Put.fldS (Put.fld0 Put.here)) rfl) .nil) rfl) ?_
     refine AO.store (X' := (e62 (S62.mk false t13))) 2 rfl rfl rfl rfl rfl rfl (Put.cast Put.here rfl) rfl rfl sz62 rfl ?_
     refine AO.nH [4] (H' := [(n5, (.mem (e62 (S62.mk false t13))))]) (Sub.cons 2 rfl (Sub.nil _)) ?_
     refine AW.rK [4] ?_
     have hr := Option.some.inj h
     subst hr
     exact ⟨[(e62 (S62.mk false t13))], ⟨⟨_, 0, rfl, rfl, ag62, sz62⟩, trivial⟩, rfl⟩
end Go.Avl.T3
