/- Parts: TDf23, TDf19, TDf20, TDf24, TDf25, TDf27, TDf26, TDf8, TDf11, TDf7. -/
import Derived.Test.YthfongdjcpmpfaaDoorAF1
/- bosket/bosketref02.Put; printed by avmain.py. -/
namespace Go.Avl.TD
open Go Go.RowKit Go.Proofs Go.Avl
set_option linter.unusedVariables false
set_option maxRecDepth 100000
set_option maxHeartbeats 4000000
attribute [local irreducible] AW AO AQ Spec SpecH Calm

def bosketref02_Put_c0 (k : Nat) (x8 : (List Bool)) : Option (Vector Int 4) :=
  (bosketref02_Of k x8).bind fun t9 =>
  some (t9)
def bosketref02_Put_c1 (k : Nat) (rec13 : ((List Bool) → Int → Option (Vector Int 4))) (x12 : Int) (x17 : (List Bool)) : Option (Vector Int 4) :=
  rec13 x17 (w64 (x12 + (1 : Int)))
def bosketref02_Put_l2 (k : Nat) (p0 : Int) (p1 : (Vector Int 4)) (p2 : (Vector Int 4)) : Nat → (List Bool) → Int → Option (Vector Int 4)
  | 0, _, _ => none
  | j + 1, x11, x12 =>
    if x12 < (256 : Int) then (bosketref02_Has k p1 x12).bind fun t18 =>
    (bosketref02_Has k p2 x12).bind fun t19 =>
    if p0 = (0 : Int) then if t18 = true then if (x11 ++ ([true] : List Bool)).length * 1 ≤ 140737488355328 then bosketref02_Put_c1 k (bosketref02_Put_l2 k p0 p1 p2 j) x12 (x11 ++ ([true] : List Bool))
    else none
    else if (x11 ++ ([t19] : List Bool)).length * 1 ≤ 140737488355328 then bosketref02_Put_c1 k (bosketref02_Put_l2 k p0 p1 p2 j) x12 (x11 ++ ([t19] : List Bool))
    else none
    else if p0 = (1 : Int) then if t18 = true then if (x11 ++ ([t19] : List Bool)).length * 1 ≤ 140737488355328 then bosketref02_Put_c1 k (bosketref02_Put_l2 k p0 p1 p2 j) x12 (x11 ++ ([t19] : List Bool))
    else none
    else if (x11 ++ ([false] : List Bool)).length * 1 ≤ 140737488355328 then bosketref02_Put_c1 k (bosketref02_Put_l2 k p0 p1 p2 j) x12 (x11 ++ ([false] : List Bool))
    else none
    else if p0 = (2 : Int) then if t18 = true then if (x11 ++ ([!t19] : List Bool)).length * 1 ≤ 140737488355328 then bosketref02_Put_c1 k (bosketref02_Put_l2 k p0 p1 p2 j) x12 (x11 ++ ([!t19] : List Bool))
    else none
    else if (x11 ++ ([false] : List Bool)).length * 1 ≤ 140737488355328 then bosketref02_Put_c1 k (bosketref02_Put_l2 k p0 p1 p2 j) x12 (x11 ++ ([false] : List Bool))
    else none
    else if (x11 ++ ([!t18] : List Bool)).length * 1 ≤ 140737488355328 then bosketref02_Put_c1 k (bosketref02_Put_l2 k p0 p1 p2 j) x12 (x11 ++ ([!t18] : List Bool))
    else none
    else bosketref02_Put_c0 k x11
def bosketref02_Put (k : Nat) (p0 : Int) (p1 : (Vector Int 4)) (p2 : (Vector Int 4)) : Option (Vector Int 4) :=
  bosketref02_Put_l2 k p0 p1 p2 k ([] : List Bool) (0 : Int)
theorem bosketref02_Put_spec {k : Nat} {p0 : Int} {p1 : (Vector Int 4)} {p2 : (Vector Int 4)} {r : (Vector Int 4)} (h : bosketref02_Put k p0 p1 p2 = some r) : Spec Tryd.prog 23 [(eI64 p0), (.ar 1 (p1.toList.map eU64)), (.ar 1 (p2.toList.map eU64))] (e27 r) := by
  rw [bosketref02_Put.eq_1] at h
  refine Spec.intro (res := [.cell 6 27]) Tryd.func23 rfl rfl rfl (Nat.le_of_ble_eq_true rfl) ?_
  refine AW.seq ?_
  refine AW.reg ?_
  refine AO.box rfl 4 rfl (by decide) rfl rfl rfl fun n4 => ?_
  refine AO.box rfl 5 rfl (by decide) rfl rfl rfl fun n5 => ?_
  refine AO.alloc rfl 6 rfl (by decide) rfl zr27 lay27 fun n6 => ?_
  refine AO.nil (ρ' := [(0, (eI64 p0)), (4, (.ptr n4 0)), (5, (.ptr n5 0)), (6, (.ptr n6 0))]) (H' := [(n4, (.mem (.ar 1 (p1.toList.map eU64)))), (n5, (.mem (.ar 1 (p2.toList.map eU64)))), (n6, (.mem (.ar 1 ((Vector.replicate 4 (0 : Int)).toList.map eU64))))]) ⟨rfl, rfl, rfl, rfl, trivial⟩ (Sub.cons 2 rfl (Sub.cons 1 rfl (Sub.cons 0 rfl (Sub.nil _)))) ?_
  refine AW.seq ?_
  refine AW.reg ?_
  refine AO.calm rfl 7 rfl (by decide) (.fl (.slice none 0 0)) (Calm.assign rfl rfl) ?_
  refine AO.nil (ρ' := [(0, (eI64 p0)), (4, (.ptr n4 0)), (5, (.ptr n5 0)), (6, (.ptr n6 0)), (7, (.fl (.slice none 0 0)))]) (H' := [(n4, (.mem (.ar 1 (p1.toList.map eU64)))), (n5, (.mem (.ar 1 (p2.toList.map eU64)))), (n6, (.mem (.ar 1 ((Vector.replicate 4 (0 : Int)).toList.map eU64))))]) ⟨rfl, rfl, rfl, rfl, rfl, trivial⟩ (Sub.refl _) ?_
  refine AW.seq_mid (fun ρ H => ∃ (n7 : Nat) (x8 : (List Bool)), ρ = [(6, (.ptr n6 0)), (7, (.own n7 0 x8.length))] ∧ H = [(n6, (.mem (.ar 1 ((Vector.replicate 4 (0 : Int)).toList.map eU64)))), (n7, (.mem (.ar 1 (x8.map eBool))))] ∧ bosketref02_Put_c0 k x8 = some r) ?_ ?_
  · refine AW.seq ?_
    refine AW.reg ?_
    refine AO.calm rfl 8 rfl (by decide) (eI64 (0 : Int)) (Calm.assign rfl rfl) ?_
    refine AO.nil (ρ' := [(0, (eI64 p0)), (4, (.ptr n4 0)), (5, (.ptr n5 0)), (6, (.ptr n6 0)), (7, (.fl (.slice none 0 0))), (8, (eI64 (0 : Int)))]) (H' := [(n4, (.mem (.ar 1 (p1.toList.map eU64)))), (n5, (.mem (.ar 1 (p2.toList.map eU64)))), (n6, (.mem (.ar 1 ((Vector.replicate 4 (0 : Int)).toList.map eU64))))]) ⟨rfl, rfl, rfl, rfl, rfl, rfl, trivial⟩ (Sub.refl _) ?_
    refine AW.block ?_
    refine AW.nilOwn 7 1 rfl fun n47 => ?_
    refine AW.weak (ρ' := [(0, (eI64 p0)), (4, (.ptr n4 0)), (5, (.ptr n5 0)), (6, (.ptr n6 0)), (7, (.own n47 0 ([] : List Bool).length)), (8, (eI64 (0 : Int)))]) (H' := [(n4, (.mem (.ar 1 (p1.toList.map eU64)))), (n5, (.mem (.ar 1 (p2.toList.map eU64)))), (n6, (.mem (.ar 1 ((Vector.replicate 4 (0 : Int)).toList.map eU64)))), (n47, (.mem (.ar 1 (([] : List Bool).map eBool))))]) ⟨rfl, rfl, rfl, rfl, rfl, rfl, trivial⟩ (Sub.cons 1 rfl (Sub.cons 1 rfl (Sub.cons 1 rfl (Sub.cons 0 rfl (Sub.nil _))))) ?_
    refine AW.loop (fun kq ρ H => ∃ (n10 : Nat) (x11 : (List Bool)) (x12 : Int), ρ = [(0, (eI64 p0)), (4, (.ptr n4 0)), (5, (.ptr n5 0)), (6, (.ptr n6 0)), (7, (.own n10 0 x11.length)), (8, (eI64 x12))] ∧ H = [(n4, (.mem (.ar 1 (p1.toList.map eU64)))), (n5, (.mem (.ar 1 (p2.toList.map eU64)))), (n6, (.mem (.ar 1 ((Vector.replicate 4 (0 : Int)).toList.map eU64)))), (n10, (.mem (.ar 1 (x11.map eBool))))] ∧ bosketref02_Put_l2 k p0 p1 p2 kq x11 x12 = some r) k ⟨n47, ([] : List Bool), (0 : Int), rfl, rfl, h⟩ ?_
    rintro kq14 _ _ ⟨n10, x11, x12, rfl, rfl, h⟩
    cases kq14 with
    | zero => rw [bosketref02_Put_l2.eq_1] at h; cases h
    | succ kq14 =>
    rw [bosketref02_Put_l2.eq_2] at h
    generalize hrec13 : bosketref02_Put_l2 k p0 p1 p2 kq14 = rec13 at h
    refine AW.seq ?_
    refine AW.seq ?_
    refine AW.reg ?_
    refine AO.calm rfl 11 rfl (by decide) (eI64 x12) (Calm.move rfl rfl) ?_
    refine AO.calm rfl 12 rfl (by decide) (eBool (decide (x12 < (256 : Int)))) (Calm.int rfl rfl rfl rfl) ?_
    refine AO.nil (ρ' := [(0, (eI64 p0)), (4, (.ptr n4 0)), (5, (.ptr n5 0)), (6, (.ptr n6 0)), (7, (.own n10 0 x11.length)), (8, (eI64 x12)), (12, (eBool (decide (x12 < (256 : Int)))))]) (H' := [(n4, (.mem (.ar 1 (p1.toList.map eU64)))), (n5, (.mem (.ar 1 (p2.toList.map eU64)))), (n6, (.mem (.ar 1 ((Vector.replicate 4 (0 : Int)).toList.map eU64)))), (n10, (.mem (.ar 1 (x11.map eBool))))]) ⟨rfl, rfl, rfl, rfl, rfl, rfl, rfl, trivial⟩ (Sub.refl _) ?_
    by_cases hc15 : x12 < (256 : Int)
    · have h := (if_pos hc15).symm.trans h
      refine AW.condP (x12 < (256 : Int)) rfl hc15 ?_
      refine AW.skip (ρ' := [(0, (eI64 p0)), (4, (.ptr n4 0)), (5, (.ptr n5 0)), (6, (.ptr n6 0)), (7, (.own n10 0 x11.length)), (8, (eI64 x12))]) (H' := [(n4, (.mem (.ar 1 (p1.toList.map eU64)))), (n5, (.mem (.ar 1 (p2.toList.map eU64)))), (n6, (.mem (.ar 1 ((Vector.replicate 4 (0 : Int)).toList.map eU64)))), (n10, (.mem (.ar 1 (x11.map eBool))))]) ⟨rfl, rfl, rfl, rfl, rfl, rfl, trivial⟩ (Sub.refl _) ?_
      refine AW.seq_mid (fun ρ H => ∃ (n16 : Nat) (x17 : (List Bool)), ρ = [(0, (eI64 p0)), (4, (.ptr n4 0)), (5, (.ptr n5 0)), (6, (.ptr n6 0)), (7, (.own n16 0 x17.length)), (8, (eI64 x12))] ∧ H = [(n4, (.mem (.ar 1 (p1.toList.map eU64)))), (n5, (.mem (.ar 1 (p2.toList.map eU64)))), (n6, (.mem (.ar 1 ((Vector.replicate 4 (0 : Int)).toList.map eU64)))), (n16, (.mem (.ar 1 (x17.map eBool))))] ∧ bosketref02_Put_c1 k rec13 x12 x17 = some r) ?_ ?_
      · refine AW.block ?_
        refine AW.seq ?_
        refine AW.regQ (by rfl) (by decide +kernel) ?_
        refine AQ.calm rfl 15 rfl (by decide) (.ar 1 (p1.toList.map eU64)) (Calm.load 0 rfl rfl rfl (At.cast At.here rfl) ag27 (by rw [sz27]; simp [AV.size])) ?_
        refine AQ.calm rfl 16 rfl (by decide) (eI64 x12) (Calm.move rfl rfl) ?_
        obtain ⟨t18, et18, h⟩ := of_bind h
        refine AQ.calm rfl 17 rfl (by decide) (eBool t18) (Calm.call (args := [(.ar 1 (p1.toList.map eU64)), (eI64 x12)]) rfl rfl ok22 ⟨rfl, rfl, rfl, rfl, trivial⟩ rfl (bosketref02_Has_spec et18)) ?_
        refine AQ.calm rfl 18 rfl (by decide) (.ar 1 (p2.toList.map eU64)) (Calm.load 1 rfl rfl rfl (At.cast At.here rfl) ag27 (by rw [sz27]; simp [AV.size])) ?_
        refine AQ.calm rfl 19 rfl (by decide) (eI64 x12) (Calm.move rfl rfl) ?_
        obtain ⟨t19, et19, h⟩ := of_bind h
        refine AQ.calm rfl 20 rfl (by decide) (eBool t19) (Calm.call (args := [(.ar 1 (p2.toList.map eU64)), (eI64 x12)]) rfl rfl ok22 ⟨rfl, rfl, rfl, rfl, trivial⟩ rfl (bosketref02_Has_spec et19)) ?_
        refine AQ.calm rfl 9 rfl (by decide) (eBool t18) (Calm.assign rfl rfl) ?_
        refine AQ.calm rfl 10 rfl (by decide) (eBool t19) (Calm.assign rfl rfl) ?_
        refine AQ.nil (ρ' := [(0, (eI64 p0)), (4, (.ptr n4 0)), (5, (.ptr n5 0)), (6, (.ptr n6 0)), (7, (.own n10 0 x11.length)), (8, (eI64 x12)), (9, (eBool t18)), (10, (eBool t19))]) ⟨rfl, rfl, rfl, rfl, rfl, rfl, rfl, rfl, trivial⟩ ?_
        refine AW.seq ?_
        refine AW.reg ?_
        refine AO.calm rfl 21 rfl (by decide) (eI64 p0) (Calm.move rfl rfl) ?_
        refine AO.nil (ρ' := [(0, (eI64 p0)), (4, (.ptr n4 0)), (5, (.ptr n5 0)), (6, (.ptr n6 0)), (7, (.own n10 0 x11.length)), (8, (eI64 x12)), (9, (eBool t18)), (10, (eBool t19)), (21, (eI64 p0))]) (H' := [(n4, (.mem (.ar 1 (p1.toList.map eU64)))), (n5, (.mem (.ar 1 (p2.toList.map eU64)))), (n6, (.mem (.ar 1 ((Vector.replicate 4 (0 : Int)).toList.map eU64)))), (n10, (.mem (.ar 1 (x11.map eBool))))]) ⟨rfl, rfl, rfl, rfl, rfl, rfl, rfl, rfl, rfl, trivial⟩ (Sub.refl _) ?_
        refine AW.block ?_
        refine AW.seq ?_
        refine AW.reg ?_
        refine AO.calm rfl 28 rfl (by decide) (eBool (decide (p0 = (0 : Int)))) (Calm.int rfl rfl rfl rfl) ?_
        refine AO.calm rfl 27 rfl (by decide) (eBool (decide (p0 = (0 : Int)))) (Calm.assign rfl rfl) ?_
        refine AO.nil (ρ' := [(0, (eI64 p0)), (4, (.ptr n4 0)), (5, (.ptr n5 0)), (6, (.ptr n6 0)), (7, (.own n10 0 x11.length)), (8, (eI64 x12)), (9, (eBool t18)), (10, (eBool t19)), (21, (eI64 p0)), (27, (eBool (decide (p0 = (0 : Int)))))]) (H' := [(n4, (.mem (.ar 1 (p1.toList.map eU64)))), (n5, (.mem (.ar 1 (p2.toList.map eU64)))), (n6, (.mem (.ar 1 ((Vector.replicate 4 (0 : Int)).toList.map eU64)))), (n10, (.mem (.ar 1 (x11.map eBool))))]) ⟨rfl, rfl, rfl, rfl, rfl, rfl, rfl, rfl, rfl, rfl, trivial⟩ (Sub.refl _) ?_
        by_cases hc20 : p0 = (0 : Int)
        · have h := (if_pos hc20).symm.trans h
          refine AW.condP (p0 = (0 : Int)) rfl hc20 ?_
          refine AW.reg ?_
          refine AO.calm rfl 29 rfl (by decide) (.own n10 0 x11.length) (Calm.move rfl rfl) ?_
          refine AO.calm rfl 30 rfl (by decide) (eBool t18) (Calm.move rfl rfl) ?_
          refine AO.calm rfl 31 rfl (by decide) (eBool t18) (Calm.move rfl rfl) ?_
          by_cases hc21 : t18 = true
          · have h := (if_pos hc21).symm.trans h
            refine AO.skipG 2 true 31 rfl rfl (congrArg (fun b => some (AV.fl (Value.bool b))) hc21) 32 rfl (by decide) ?_
            refine AO.calm rfl 33 rfl (by decide) (eBool true) (Calm.pickT rfl (congrArg (fun b => some (AV.fl (Value.bool b))) hc21) rfl) ?_
            refine AO.lit (Z := (eBool false)) (xs := (([true] : List Bool).map eBool)) (qs := [(0, (eBool true))]) rfl 34 rfl (by decide) rfl ⟨rfl, rfl, rfl, trivial⟩ Tryd.underlying24 sz4 zr4 lay4 rfl (by decide) (litOK (z := 1) [(eBool true)] rfl ⟨⟨rfl, rfl⟩, trivial⟩) rfl fun n22 => ?_
            obtain ⟨hg24, h⟩ := of_guard h
            refine AO.appendL (l := x11) (m := ([true] : List Bool)) 4 35 rfl (by decide) rfl rfl rfl rfl rfl (Src.ownL (f := eBool) (l := ([true] : List Bool)) 0 rfl) Tryd.underlying24 Tryd.underlying24 sz4 by4 zr4 rfl hg24 (by decide) fun n23 => ?_
            refine AO.calm rfl 7 rfl (by decide) (.own n23 0 (x11 ++ ([true] : List Bool)).length) (Calm.assign rfl rfl) ?_
            refine AO.nil (ρ' := [(0, (eI64 p0)), (4, (.ptr n4 0)), (5, (.ptr n5 0)), (6, (.ptr n6 0)), (7, (.own n23 0 (x11 ++ ([true] : List Bool)).length)), (8, (eI64 x12))]) (H' := [(n4, (.mem (.ar 1 (p1.toList.map eU64)))), (n5, (.mem (.ar 1 (p2.toList.map eU64)))), (n6, (.mem (.ar 1 ((Vector.replicate 4 (0 : Int)).toList.map eU64)))), (n23, (.mem (.ar 1 ((x11 ++ ([true] : List Bool)).map eBool))))]) ⟨rfl, rfl, rfl, rfl, rfl, rfl, trivial⟩ (Sub.cons 1 rfl (Sub.cons 1 rfl (Sub.cons 1 rfl (Sub.cons 1 rfl (Sub.nil _))))) ?_
            exact ⟨n23, (x11 ++ ([true] : List Bool)), rfl, rfl, h⟩
          · have h := (if_neg hc21).symm.trans h
            refine AO.calmG 2 false 31 rfl rfl (congrArg (fun b => some (AV.fl (Value.bool b))) (eq_false_of_ne_true hc21)) 32 rfl (by decide) (eBool t19) (Calm.move rfl rfl) ?_
            refine AO.calm rfl 33 rfl (by decide) (eBool t19) (Calm.pickF rfl (congrArg (fun b => some (AV.fl (Value.bool b))) (eq_false_of_ne_true hc21)) rfl) ?_
            refine AO.lit (Z := (eBool false)) (xs := (([t19] : List Bool).map eBool)) (qs := [(0, (eBool t19))]) rfl 34 rfl (by decide) rfl ⟨rfl, rfl, rfl, trivial⟩ Tryd.underlying24 sz4 zr4 lay4 rfl (by decide) (litOK (z := 1) [(eBool t19)] rfl ⟨⟨rfl, rfl⟩, trivial⟩) rfl fun n25 => ?_
            obtain ⟨hg27, h⟩ := of_guard h
            refine AO.appendL (l := x11) (m := ([t19] : List Bool)) 4 35 rfl (by decide) rfl rfl rfl rfl rfl (Src.ownL (f := eBool) (l := ([t19] : List Bool)) 0 rfl) Tryd.underlying24 Tryd.underlying24 sz4 by4 zr4 rfl hg27 (by decide) fun n26 => ?_
            refine AO.calm rfl 7 rfl (by decide) (.own n26 0 (x11 ++ ([t19] : List Bool)).length) (Calm.assign rfl rfl) ?_
            refine AO.nil (ρ' := [(0, (eI64 p0)), (4, (.ptr n4 0)), (5, (.ptr n5 0)), (6, (.ptr n6 0)), (7, (.own n26 0 (x11 ++ ([t19] : List Bool)).length)), (8, (eI64 x12))]) (H' := [(n4, (.mem (.ar 1 (p1.toList.map eU64)))), (n5, (.mem (.ar 1 (p2.toList.map eU64)))), (n6, (.mem (.ar 1 ((Vector.replicate 4 (0 : Int)).toList.map eU64)))), (n26, (.mem (.ar 1 ((x11 ++ ([t19] : List Bool)).map eBool))))]) ⟨rfl, rfl, rfl, rfl, rfl, rfl, trivial⟩ (Sub.cons 1 rfl (Sub.cons 1 rfl (Sub.cons 1 rfl (Sub.cons 1 rfl (Sub.nil _))))) ?_
            exact ⟨n26, (x11 ++ ([t19] : List Bool)), rfl, rfl, h⟩
        · have h := (if_neg hc20).symm.trans h
          refine AW.condN (p0 = (0 : Int)) rfl hc20 ?_
          refine AW.seq ?_
          refine AW.reg ?_
          refine AO.calm rfl 37 rfl (by decide) (eBool (decide (p0 = (1 : Int)))) (Calm.int rfl rfl rfl rfl) ?_
          refine AO.calm rfl 36 rfl (by decide) (eBool (decide (p0 = (1 : Int)))) (Calm.assign rfl rfl) ?_
          refine AO.nil (ρ' := [(0, (eI64 p0)), (4, (.ptr n4 0)), (5, (.ptr n5 0)), (6, (.ptr n6 0)), (7, (.own n10 0 x11.length)), (8, (eI64 x12)), (9, (eBool t18)), (10, (eBool t19)), (21, (eI64 p0)), (36, (eBool (decide (p0 = (1 : Int)))))]) (H' := [(n4, (.mem (.ar 1 (p1.toList.map eU64)))), (n5, (.mem (.ar 1 (p2.toList.map eU64)))), (n6, (.mem (.ar 1 ((Vector.replicate 4 (0 : Int)).toList.map eU64)))), (n10, (.mem (.ar 1 (x11.map eBool))))]) ⟨rfl, rfl, rfl, rfl, rfl, rfl, rfl, rfl, rfl, rfl, trivial⟩ (Sub.refl _) ?_
          by_cases hc28 : p0 = (1 : Int)
          · have h := (if_pos hc28).symm.trans h
            refine AW.condP (p0 = (1 : Int)) rfl hc28 ?_
            refine AW.reg ?_
            refine AO.calm rfl 38 rfl (by decide) (.own n10 0 x11.length) (Calm.move rfl rfl) ?_
            refine AO.calm rfl 39 rfl (by decide) (eBool t18) (Calm.move rfl rfl) ?_
            refine AO.calm rfl 40 rfl (by decide) (eBool t18) (Calm.move rfl rfl) ?_
            by_cases hc29 : t18 = true
            · have h := (if_pos hc29).symm.trans h
              refine AO.calmG 2 true 40 rfl rfl (congrArg (fun b => some (AV.fl (Value.bool b))) hc29) 41 rfl (by decide) (eBool t19) (Calm.move rfl rfl) ?_
              refine AO.calm rfl 42 rfl (by decide) (eBool t19) (Calm.pickT rfl (congrArg (fun b => some (AV.fl (Value.bool b))) hc29) rfl) ?_
              refine AO.lit (Z := (eBool false)) (xs := (([t19] : List Bool).map eBool)) (qs := [(0, (eBool t19))]) rfl 43 rfl (by decide) rfl ⟨rfl, rfl, rfl, trivial⟩ Tryd.underlying24 sz4 zr4 lay4 rfl (by decide) (litOK (z := 1) [(eBool t19)] rfl ⟨⟨rfl, rfl⟩, trivial⟩) rfl fun n30 => ?_
              obtain ⟨hg32, h⟩ := of_guard h
              refine AO.appendL (l := x11) (m := ([t19] : List Bool)) 4 44 rfl (by decide) rfl rfl rfl rfl rfl (Src.ownL (f := eBool) (l := ([t19] : List Bool)) 0 rfl) Tryd.underlying24 Tryd.underlying24 sz4 by4 zr4 rfl hg32 (by decide) fun n31 => ?_
              refine AO.calm rfl 7 rfl (by decide) (.own n31 0 (x11 ++ ([t19] : List Bool)).length) (Calm.assign rfl rfl) ?_
              refine AO.nil (ρ' := [(0, (eI64 p0)), (4, (.ptr n4 0)), (5, (.ptr n5 0)), (6, (.ptr n6 0)), (7, (.own n31 0 (x11 ++ ([t19] : List Bool)).length)), (8, (eI64 x12))]) (H' := [(n4, (.mem (.ar 1 (p1.toList.map eU64)))), (n5, (.mem (.ar 1 (p2.toList.map eU64)))), (n6, (.mem (.ar 1 ((Vector.replicate 4 (0 : Int)).toList.map eU64)))), (n31, (.mem (.ar 1 ((x11 ++ ([t19] : List Bool)).map eBool))))]) ⟨rfl, rfl, rfl, rfl, rfl, rfl, trivial⟩ (Sub.cons 1 rfl (Sub.cons 1 rfl (Sub.cons 1 rfl (Sub.cons 1 rfl (Sub.nil _))))) ?_
              exact ⟨n31, (x11 ++ ([t19] : List Bool)), rfl, rfl, h⟩
            · have h := (if_neg hc29).symm.trans h
              refine AO.skipG 2 false 40 rfl rfl (congrArg (fun b => some (AV.fl (Value.bool b))) (eq_false_of_ne_true hc29)) 41 rfl (by decide) ?_
              refine AO.calm rfl 42 rfl (by decide) (eBool false) (Calm.pickF rfl (congrArg (fun b => some (AV.fl (Value.bool b))) (eq_false_of_ne_true hc29)) rfl) ?_
              refine AO.lit (Z := (eBool false)) (xs := (([false] : List Bool).map eBool)) (qs := [(0, (eBool false))]) rfl 43 rfl (by decide) rfl ⟨rfl, rfl, rfl, trivial⟩ Tryd.underlying24 sz4 zr4 lay4 rfl (by decide) (litOK (z := 1) [(eBool false)] rfl ⟨⟨rfl, rfl⟩, trivial⟩) rfl fun n33 => ?_
              obtain ⟨hg35, h⟩ := of_guard h
              refine AO.appendL (l := x11) (m := ([false] : List Bool)) 4 44 rfl (by decide) rfl rfl rfl rfl rfl (Src.ownL (f := eBool) (l := ([false] : List Bool)) 0 rfl) Tryd.underlying24 Tryd.underlying24 sz4 by4 zr4 rfl hg35 (by decide) fun n34 => ?_
              refine AO.calm rfl 7 rfl (by decide) (.own n34 0 (x11 ++ ([false] : List Bool)).length) (Calm.assign rfl rfl) ?_
              refine AO.nil (ρ' := [(0, (eI64 p0)), (4, (.ptr n4 0)), (5, (.ptr n5 0)), (6, (.ptr n6 0)), (7, (.own n34 0 (x11 ++ ([false] : List Bool)).length)), (8, (eI64 x12))]) (H' := [(n4, (.mem (.ar 1 (p1.toList.map eU64)))), (n5, (.mem (.ar 1 (p2.toList.map eU64)))), (n6, (.mem (.ar 1 ((Vector.replicate 4 (0 : Int)).toList.map eU64)))), (n34, (.mem (.ar 1 ((x11 ++ ([false] : List Bool)).map eBool))))]) ⟨rfl, rfl, rfl, rfl, rfl, rfl, trivial⟩ (Sub.cons 1 rfl (Sub.cons 1 rfl (Sub.cons 1 rfl (Sub.cons 1 rfl (Sub.nil _))))) ?_
              exact ⟨n34, (x11 ++ ([false] : List Bool)), rfl, rfl, h⟩
          · have h := (if_neg hc28).symm.trans h
            refine AW.condN (p0 = (1 : Int)) rfl hc28 ?_
            refine AW.seq ?_
            refine AW.reg ?_
            refine AO.calm rfl 46 rfl (by decide) (eBool (decide (p0 = (2 : Int)))) (Calm.int rfl rfl rfl rfl) ?_
            refine AO.calm rfl 45 rfl (by decide) (eBool (decide (p0 = (2 : Int)))) (Calm.assign rfl rfl) ?_
            refine AO.nil (ρ' := [(0, (eI64 p0)), (4, (.ptr n4 0)), (5, (.ptr n5 0)), (6, (.ptr n6 0)), (7, (.own n10 0 x11.length)), (8, (eI64 x12)), (9, (eBool t18)), (10, (eBool t19)), (45, (eBool (decide (p0 = (2 : Int)))))]) (H' := [(n4, (.mem (.ar 1 (p1.toList.map eU64)))), (n5, (.mem (.ar 1 (p2.toList.map eU64)))), (n6, (.mem (.ar 1 ((Vector.replicate 4 (0 : Int)).toList.map eU64)))), (n10, (.mem (.ar 1 (x11.map eBool))))]) ⟨rfl, rfl, rfl, rfl, rfl, rfl, rfl, rfl, rfl, trivial⟩ (Sub.refl _) ?_
            by_cases hc36 : p0 = (2 : Int)
            · have h := (if_pos hc36).symm.trans h
              refine AW.condP (p0 = (2 : Int)) rfl hc36 ?_
              refine AW.reg ?_
              refine AO.calm rfl 47 rfl (by decide) (.own n10 0 x11.length) (Calm.move rfl rfl) ?_
              refine AO.calm rfl 48 rfl (by decide) (eBool t18) (Calm.move rfl rfl) ?_
              refine AO.calm rfl 49 rfl (by decide) (eBool t18) (Calm.move rfl rfl) ?_
              by_cases hc37 : t18 = true
              · have h := (if_pos hc37).symm.trans h
                refine AO.calmG 2 true 49 rfl rfl (congrArg (fun b => some (AV.fl (Value.bool b))) hc37) 50 rfl (by decide) (eBool t19) (Calm.move rfl rfl) ?_
                refine AO.calmG 2 true 49 rfl rfl (congrArg (fun b => some (AV.fl (Value.bool b))) hc37) 51 rfl (by decide) (eBool (!t19)) (Calm.not rfl rfl) ?_
                refine AO.calm rfl 52 rfl (by decide) (eBool (!t19)) (Calm.pickT rfl (congrArg (fun b => some (AV.fl (Value.bool b))) hc37) rfl) ?_
                refine AO.lit (Z := (eBool false)) (xs := (([!t19] : List Bool).map eBool)) (qs := [(0, (eBool (!t19)))]) rfl 53 rfl (by decide) rfl ⟨rfl, rfl, rfl, trivial⟩ Tryd.underlying24 sz4 zr4 lay4 rfl (by decide) (litOK (z := 1) [(eBool (!t19))] rfl ⟨⟨rfl, rfl⟩, trivial⟩) rfl fun n38 => ?_
                obtain ⟨hg40, h⟩ := of_guard h
                refine AO.appendL (l := x11) (m := ([!t19] : List Bool)) 4 54 rfl (by decide) rfl rfl rfl rfl rfl (Src.ownL (f := eBool) (l := ([!t19] : List Bool)) 0 rfl) Tryd.underlying24 Tryd.underlying24 sz4 by4 zr4 rfl hg40 (by decide) fun n39 => ?_
                refine AO.calm rfl 7 rfl (by decide) (.own n39 0 (x11 ++ ([!t19] : List Bool)).length) (Calm.assign rfl rfl) ?_
                refine AO.nil (ρ' := [(0, (eI64 p0)), (4, (.ptr n4 0)), (5, (.ptr n5 0)), (6, (.ptr n6 0)), (7, (.own n39 0 (x11 ++ ([!t19] : List Bool)).length)), (8, (eI64 x12))]) (H' := [(n4, (.mem (.ar 1 (p1.toList.map eU64)))), (n5, (.mem (.ar 1 (p2.toList.map eU64)))), (n6, (.mem (.ar 1 ((Vector.replicate 4 (0 : Int)).toList.map eU64)))), (n39, (.mem (.ar 1 ((x11 ++ ([!t19] : List Bool)).map eBool))))]) ⟨rfl, rfl, rfl, rfl, rfl, rfl, trivial⟩ (Sub.cons 1 rfl (Sub.cons 1 rfl (Sub.cons 1 rfl (Sub.cons 1 rfl (Sub.nil _))))) ?_
                exact ⟨n39, (x11 ++ ([!t19] : List Bool)), rfl, rfl, h⟩
              · have h := (if_neg hc37).symm.trans h
                refine AO.skipG 2 false 49 rfl rfl (congrArg (fun b => some (AV.fl (Value.bool b))) (eq_false_of_ne_true hc37)) 50 rfl (by decide) ?_
                refine AO.skipG 2 false 49 rfl rfl (congrArg (fun b => some (AV.fl (Value.bool b))) (eq_false_of_ne_true hc37)) 51 rfl (by decide) ?_
                refine AO.calm rfl 52 rfl (by decide) (eBool false) (Calm.pickF rfl (congrArg (fun b => some (AV.fl (Value.bool b))) (eq_false_of_ne_true hc37)) rfl) ?_
                refine AO.lit (Z := (eBool false)) (xs := (([false] : List Bool).map eBool)) (qs := [(0, (eBool false))]) rfl 53 rfl (by decide) rfl ⟨rfl, rfl, rfl, trivial⟩ Tryd.underlying24 sz4 zr4 lay4 rfl (by decide) (litOK (z := 1) [(eBool false)] rfl ⟨⟨rfl, rfl⟩, trivial⟩) rfl fun n41 => ?_
                obtain ⟨hg43, h⟩ := of_guard h
                refine AO.appendL (l := x11) (m := ([false] : List Bool)) 4 54 rfl (by decide) rfl rfl rfl rfl rfl (Src.ownL (f := eBool) (l := ([false] : List Bool)) 0 rfl) Tryd.underlying24 Tryd.underlying24 sz4 by4 zr4 rfl hg43 (by decide) fun n42 => ?_
                refine AO.calm rfl 7 rfl (by decide) (.own n42 0 (x11 ++ ([false] : List Bool)).length) (Calm.assign rfl rfl) ?_
                refine AO.nil (ρ' := [(0, (eI64 p0)), (4, (.ptr n4 0)), (5, (.ptr n5 0)), (6, (.ptr n6 0)), (7, (.own n42 0 (x11 ++ ([false] : List Bool)).length)), (8, (eI64 x12))]) (H' := [(n4, (.mem (.ar 1 (p1.toList.map eU64)))), (n5, (.mem (.ar 1 (p2.toList.map eU64)))), (n6, (.mem (.ar 1 ((Vector.replicate 4 (0 : Int)).toList.map eU64)))), (n42, (.mem (.ar 1 ((x11 ++ ([false] : List Bool)).map eBool))))]) ⟨rfl, rfl, rfl, rfl, rfl, rfl, trivial⟩ (Sub.cons 1 rfl (Sub.cons 1 rfl (Sub.cons 1 rfl (Sub.cons 1 rfl (Sub.nil _))))) ?_
                exact ⟨n42, (x11 ++ ([false] : List Bool)), rfl, rfl, h⟩
            · have h := (if_neg hc36).symm.trans h
              refine AW.condN (p0 = (2 : Int)) rfl hc36 ?_
              refine AW.reg ?_
              refine AO.calm rfl 22 rfl (by decide) (.own n10 0 x11.length) (Calm.move rfl rfl) ?_
              refine AO.calm rfl 23 rfl (by decide) (eBool t18) (Calm.move rfl rfl) ?_
              refine AO.calm rfl 24 rfl (by decide) (eBool (!t18)) (Calm.not rfl rfl) ?_
              refine AO.lit (Z := (eBool false)) (xs := (([!t18] : List Bool).map eBool)) (qs := [(0, (eBool (!t18)))]) rfl 25 rfl (by decide) rfl ⟨rfl, rfl, rfl, trivial⟩ Tryd.underlying24 sz4 zr4 lay4 rfl (by decide) (litOK (z := 1) [(eBool (!t18))] rfl ⟨⟨rfl, rfl⟩, trivial⟩) rfl fun n44 => ?_
              obtain ⟨hg46, h⟩ := of_guard h
              refine AO.appendL (l := x11) (m := ([!t18] : List Bool)) 4 26 rfl (by decide) rfl rfl rfl rfl rfl (Src.ownL (f := eBool) (l := ([!t18] : List Bool)) 0 rfl) Tryd.underlying24 Tryd.underlying24 sz4 by4 zr4 rfl hg46 (by decide) fun n45 => ?_
              refine AO.calm rfl 7 rfl (by decide) (.own n45 0 (x11 ++ ([!t18] : List Bool)).length) (Calm.assign rfl rfl) ?_
              refine AO.nil (ρ' := [(0, (eI64 p0)), (4, (.ptr n4 0)), (5, (.ptr n5 0)), (6, (.ptr n6 0)), (7, (.own n45 0 (x11 ++ ([!t18] : List Bool)).length)), (8, (eI64 x12))]) (H' := [(n4, (.mem (.ar 1 (p1.toList.map eU64)))), (n5, (.mem (.ar 1 (p2.toList.map eU64)))), (n6, (.mem (.ar 1 ((Vector.replicate 4 (0 : Int)).toList.map eU64)))), (n45, (.mem (.ar 1 ((x11 ++ ([!t18] : List Bool)).map eBool))))]) ⟨rfl, rfl, rfl, rfl, rfl, rfl, trivial⟩ (Sub.cons 1 rfl (Sub.cons 1 rfl (Sub.cons 1 rfl (Sub.cons 1 rfl (Sub.nil _))))) ?_
              exact ⟨n45, (x11 ++ ([!t18] : List Bool)), rfl, rfl, h⟩
      · rintro _ _ ⟨n16, x17, rfl, rfl, h⟩
        rw [bosketref02_Put_c1.eq_1] at h
        refine AW.reg ?_
        refine AO.calm rfl 13 rfl (by decide) (eI64 x12) (Calm.move rfl rfl) ?_
        refine AO.calm rfl 14 rfl (by decide) (eI64 (w64 (x12 + (1 : Int)))) (Calm.int rfl rfl rfl rfl) ?_
        refine AO.calm rfl 8 rfl (by decide) (eI64 (w64 (x12 + (1 : Int)))) (Calm.assign rfl rfl) ?_
        refine AO.nil (ρ' := [(0, (eI64 p0)), (4, (.ptr n4 0)), (5, (.ptr n5 0)), (6, (.ptr n6 0)), (7, (.own n16 0 x17.length)), (8, (eI64 (w64 (x12 + (1 : Int)))))]) (H' := [(n4, (.mem (.ar 1 (p1.toList.map eU64)))), (n5, (.mem (.ar 1 (p2.toList.map eU64)))), (n6, (.mem (.ar 1 ((Vector.replicate 4 (0 : Int)).toList.map eU64)))), (n16, (.mem (.ar 1 (x17.map eBool))))]) ⟨rfl, rfl, rfl, rfl, rfl, rfl, trivial⟩ (Sub.refl _) ?_
        exact ⟨kq14, Nat.lt_succ_self _, n16, x17, (w64 (x12 + (1 : Int))), rfl, rfl, by rw [hrec13]; exact h⟩
    · have h := (if_neg hc15).symm.trans h
      refine AW.condN (x12 < (256 : Int)) rfl hc15 ?_
      refine AW.exit (ρ' := [(6, (.ptr n6 0)), (7, (.own n10 0 x11.length))]) (H' := [(n6, (.mem (.ar 1 ((Vector.replicate 4 (0 : Int)).toList.map eU64)))), (n10, (.mem (.ar 1 (x11.map eBool))))]) ⟨rfl, rfl, trivial⟩ (Sub.cons 2 rfl (Sub.cons 2 rfl (Sub.nil _))) ?_
      exact ⟨n10, x11, rfl, rfl, h⟩
  · rintro _ _ ⟨n7, x8, rfl, rfl, h⟩
    rw [bosketref02_Put_c0.eq_1] at h
    refine AW.seq ?_
    refine AW.reg ?_
    refine AO.calm rfl 55 rfl (by decide) (.own n7 0 x8.length) (Calm.move rfl rfl) ?_
    obtain ⟨t9, et9, h⟩ := of_bind h
    refine AO.freezeS 1 [(7, (.fz 1 (x8.map eBool))), (55, (.fz 1 (x8.map eBool)))] rfl ⟨fz_all rfl, fz_all rfl, trivial⟩ ?_
    refine AO.callS [(.fz 1 (x8.map eBool))] (.ar 1 (t9.toList.map eU64)) 56 rfl (by decide) ok9 rfl rfl rfl ⟨rfl, rfl, trivial⟩ (bosketref02_Of_spec et9) ?_
    refine AO.store (X' := (.ar 1 (t9.toList.map eU64))) 0 rfl rfl rfl rfl rfl rfl (Put.cast Put.here rfl) rfl (by simp [AV.size]) (by rw [sz27]; simp [AV.size]) rfl ?_
    refine AO.nil (ρ' := [(6, (.ptr n6 0))]) (H' := [(n6, (.mem (.ar 1 (t9.toList.map eU64))))]) ⟨rfl, trivial⟩ (Sub.refl _) ?_
    refine AW.ret (ρ' := [(6, (.ptr n6 0))]) (H' := [(n6, (.mem (.ar 1 (t9.toList.map eU64))))]) ⟨rfl, trivial⟩ (Sub.refl _) ?_
    have hr := Option.some.inj h
    subst hr
    exact ⟨[(.ar 1 (t9.toList.map eU64))], ⟨⟨_, 0, rfl, rfl, ag27, (by rw [sz27]; simp [AV.size])⟩, trivial⟩, rfl⟩
end Go.Avl.TD
/- bosket/byteset.Empty; printed by avmain.py. -/
namespace Go.Avl.TD
open Go Go.RowKit Go.Proofs Go.Avl
set_option linter.unusedVariables false
set_option maxRecDepth 100000
set_option maxHeartbeats 4000000
attribute [local irreducible] AW AO AQ Spec SpecH Calm

def byteset_Empty (k : Nat) (p0 : (Vector Int 4)) : Option Bool :=
  some (decide (p0 = (Vector.replicate 4 (0 : Int))))
theorem byteset_Empty_spec {k : Nat} {p0 : (Vector Int 4)} {r : Bool} (h : byteset_Empty k p0 = some r) : Spec Tryd.prog 19 [(.ar 1 (p0.toList.map eU64))] (eBool r) := by
  rw [byteset_Empty.eq_1] at h
  refine Spec.intro (res := [.tmp 2]) Tryd.func19 rfl rfl rfl (Nat.le_of_ble_eq_true rfl) ?_
  refine AW.seq ?_
  refine AW.reg ?_
  refine AO.box rfl 1 rfl (by decide) rfl rfl rfl fun n2 => ?_
  refine AO.calm rfl 2 rfl (by decide) (eBool false) (Calm.assign rfl rfl) ?_
  refine AO.nil (ρ' := [(1, (.ptr n2 0))]) (H' := [(n2, (.mem (.ar 1 (p0.toList.map eU64))))]) ⟨rfl, trivial⟩ (Sub.refl _) ?_
  refine AW.seq ?_
  refine AW.reg ?_
  refine AO.calm rfl 3 rfl (by decide) (.ar 1 (p0.toList.map eU64)) (Calm.load 0 rfl rfl rfl (At.cast At.here rfl) ag27 (by rw [sz27]; simp [AV.size])) ?_
  refine AO.calm rfl 4 rfl (by decide) (.ar 1 ((Vector.replicate 4 (0 : Int)).toList.map eU64)) (Calm.buildAr (qs := []) rfl trivial Tryd.underlying27 sz25 zr27 lay27 .nil rfl) ?_
  refine AO.calm rfl 5 rfl (by decide) (eBool (decide (p0 = (Vector.replicate 4 (0 : Int))))) (Calm.eqA rfl rfl rfl eg27 (eqa27 p0 (Vector.replicate 4 (0 : Int))) (by decide)) ?_
  refine AO.calm rfl 2 rfl (by decide) (eBool (decide (p0 = (Vector.replicate 4 (0 : Int))))) (Calm.assign rfl rfl) ?_
  refine AO.nil (ρ' := [(2, (eBool (decide (p0 = (Vector.replicate 4 (0 : Int))))))]) (H' := []) ⟨rfl, trivial⟩ (Sub.nil _) ?_
  refine AW.ret (ρ' := [(2, (eBool (decide (p0 = (Vector.replicate 4 (0 : Int))))))]) (H' := []) ⟨rfl, trivial⟩ (Sub.refl _) ?_
  have hr := Option.some.inj h
  subst hr
  exact ⟨[(eBool (decide (p0 = (Vector.replicate 4 (0 : Int)))))], ⟨rfl, rfl, trivial⟩, rfl⟩
end Go.Avl.TD
/- bosket/byteset.First; printed by avmain.py. -/
namespace Go.Avl.TD
open Go Go.RowKit Go.Proofs Go.Avl
set_option linter.unusedVariables false
set_option maxRecDepth 100000
set_option maxHeartbeats 4000000
attribute [local irreducible] AW AO AQ Spec SpecH Calm

def byteset_First_c0 (k : Nat) : Option Int :=
  some ((-1 : Int))
def byteset_First_l1 (k : Nat) (p0 : (Vector Int 4)) : Nat → Int → Option Int
  | 0, _ => none
  | j + 1, x3 =>
    if x3 < (4 : Int) then if 0 ≤ x3 ∧ x3 < (4 : Int) then if (vget p0 x3) ≠ (0 : Int) then (math_bits_TrailingZeros64 k (vget p0 x3)).bind fun t9 =>
    some ((w64 ((w64 ((64 : Int) * x3)) + t9)))
    else (byteset_First_l1 k p0 j) (w64 (x3 + (1 : Int)))
    else none
    else byteset_First_c0 k
def byteset_First (k : Nat) (p0 : (Vector Int 4)) : Option Int :=
  byteset_First_l1 k p0 k (0 : Int)
theorem byteset_First_spec {k : Nat} {p0 : (Vector Int 4)} {r : Int} (h : byteset_First k p0 = some r) : Spec Tryd.prog 20 [(.ar 1 (p0.toList.map eU64))] (eI64 r) := by
  rw [byteset_First.eq_1] at h
  refine Spec.intro (res := [.tmp 2]) Tryd.func20 rfl rfl rfl (Nat.le_of_ble_eq_true rfl) ?_
  refine AW.seq ?_
  refine AW.reg ?_
  refine AO.box rfl 1 rfl (by decide) rfl rfl rfl fun n2 => ?_
  refine AO.calm rfl 2 rfl (by decide) (eI64 (0 : Int)) (Calm.assign rfl rfl) ?_
  refine AO.nil (ρ' := [(1, (.ptr n2 0))]) (H' := [(n2, (.mem (.ar 1 (p0.toList.map eU64))))]) ⟨rfl, trivial⟩ (Sub.refl _) ?_
  refine AW.seq_mid (fun ρ H => ρ = [] ∧ H = [] ∧ byteset_First_c0 k = some r) ?_ ?_
  · refine AW.seq ?_
    refine AW.reg ?_
    refine AO.calm rfl 5 rfl (by decide) (.ar 1 (p0.toList.map eU64)) (Calm.load 0 rfl rfl rfl (At.cast At.here rfl) ag27 (by rw [sz27]; simp [AV.size])) ?_
    refine AO.calm rfl 6 rfl (by decide) (eI64 (0 : Int)) (Calm.move rfl rfl) ?_
    refine AO.nil (ρ' := [(5, (.ar 1 (p0.toList.map eU64))), (6, (eI64 (0 : Int)))]) (H' := []) ⟨rfl, rfl, trivial⟩ (Sub.nil _) ?_
    refine AW.block ?_
    refine AW.weak (ρ' := [(5, (.ar 1 (p0.toList.map eU64))), (6, (eI64 (0 : Int)))]) (H' := []) ⟨rfl, rfl, trivial⟩ (Sub.refl _) ?_
    refine AW.loop (fun kq ρ H => ∃ (x3 : Int), ρ = [(5, (.ar 1 (p0.toList.map eU64))), (6, (eI64 x3))] ∧ H = [] ∧ byteset_First_l1 k p0 kq x3 = some r) k ⟨(0 : Int), rfl, rfl, h⟩ ?_
    rintro kq5 _ _ ⟨x3, rfl, rfl, h⟩
    cases kq5 with
    | zero => rw [byteset_First_l1.eq_1] at h; cases h
    | succ kq5 =>
    rw [byteset_First_l1.eq_2] at h
    generalize hrec4 : byteset_First_l1 k p0 kq5 = rec4 at h
    refine AW.seq ?_
    refine AW.reg ?_
    refine AO.calm rfl 7 rfl (by decide) (eBool (decide (x3 < (4 : Int)))) (Calm.int rfl rfl rfl rfl) ?_
    refine AO.nil (ρ' := [(5, (.ar 1 (p0.toList.map eU64))), (6, (eI64 x3)), (7, (eBool (decide (x3 < (4 : Int)))))]) (H' := []) ⟨rfl, rfl, rfl, trivial⟩ (Sub.refl _) ?_
    refine AW.seq ?_
    by_cases hc6 : x3 < (4 : Int)
    · have h := (if_pos hc6).symm.trans h
      refine AW.condP (x3 < (4 : Int)) rfl hc6 ?_
      refine AW.skip (ρ' := [(5, (.ar 1 (p0.toList.map eU64))), (6, (eI64 x3))]) (H' := []) ⟨rfl, rfl, trivial⟩ (Sub.refl _) ?_
      refine AW.seq ?_
      refine AW.block ?_
      refine AW.seq ?_
      refine AW.reg ?_
      refine AO.calm rfl 8 rfl (by decide) (eI64 x3) (Calm.move rfl rfl) ?_
      obtain ⟨hg7, h⟩ := of_guard h
      refine AO.calm rfl 9 rfl (by decide) (eU64 (vget p0 x3)) (Calm.idxVv (f := eU64) rfl rfl rfl hg7 Tryd.underlying27 sz25 ag25 rfl) ?_
      refine AO.calm rfl 3 rfl (by decide) (eI64 x3) (Calm.assign rfl rfl) ?_
      refine AO.calm rfl 4 rfl (by decide) (eU64 (vget p0 x3)) (Calm.assign rfl rfl) ?_
      refine AO.nil (ρ' := [(3, (eI64 x3)), (4, (eU64 (vget p0 x3))), (5, (.ar 1 (p0.toList.map eU64))), (6, (eI64 x3))]) (H' := []) ⟨rfl, rfl, rfl, rfl, trivial⟩ (Sub.refl _) ?_
      refine AW.seq ?_
      refine AW.reg ?_
      refine AO.calm rfl 10 rfl (by decide) (eU64 (vget p0 x3)) (Calm.move rfl rfl) ?_
      refine AO.calm rfl 11 rfl (by decide) (eBool (decide ((vget p0 x3) ≠ (0 : Int)))) (Calm.int rfl rfl rfl rfl) ?_
      refine AO.nil (ρ' := [(3, (eI64 x3)), (4, (eU64 (vget p0 x3))), (5, (.ar 1 (p0.toList.map eU64))), (6, (eI64 x3)), (11, (eBool (decide ((vget p0 x3) ≠ (0 : Int)))))]) (H' := []) ⟨rfl, rfl, rfl, rfl, rfl, trivial⟩ (Sub.refl _) ?_
      by_cases hc8 : (vget p0 x3) ≠ (0 : Int)
      · have h := (if_pos hc8).symm.trans h
        refine AW.condP ((vget p0 x3) ≠ (0 : Int)) rfl hc8 ?_
        refine AW.seq ?_
        refine AW.reg ?_
        refine AO.calm rfl 12 rfl (by decide) (eI64 x3) (Calm.move rfl rfl) ?_
        refine AO.calm rfl 13 rfl (by decide) (eI64 (w64 ((64 : Int) * x3))) (Calm.int rfl rfl rfl rfl) ?_
        refine AO.calm rfl 14 rfl (by decide) (eU64 (vget p0 x3)) (Calm.move rfl rfl) ?_
        obtain ⟨t9, et9, h⟩ := of_bind h
        refine AO.callS [(eU64 (vget p0 x3))] (eI64 t9) 15 rfl (by decide) ok29 rfl rfl rfl ⟨rfl, rfl, trivial⟩ (math_bits_TrailingZeros64_spec et9) ?_
        refine AO.calm rfl 16 rfl (by decide) (eI64 (w64 ((w64 ((64 : Int) * x3)) + t9))) (Calm.int rfl rfl rfl rfl) ?_
        refine AO.calm rfl 2 rfl (by decide) (eI64 (w64 ((w64 ((64 : Int) * x3)) + t9))) (Calm.assign rfl rfl) ?_
        refine AO.nil (ρ' := [(2, (eI64 (w64 ((w64 ((64 : Int) * x3)) + t9))))]) (H' := []) ⟨rfl, trivial⟩ (Sub.refl _) ?_
        refine AW.ret (ρ' := [(2, (eI64 (w64 ((w64 ((64 : Int) * x3)) + t9))))]) (H' := []) ⟨rfl, trivial⟩ (Sub.refl _) ?_
        have hr := Option.some.inj h
        subst hr
        exact ⟨[(eI64 (w64 ((w64 ((64 : Int) * x3)) + t9)))], ⟨rfl, rfl, trivial⟩, rfl⟩
      · have h := (if_neg hc8).symm.trans h
        refine AW.condN ((vget p0 x3) ≠ (0 : Int)) rfl hc8 ?_
        refine AW.skip (ρ' := [(5, (.ar 1 (p0.toList.map eU64))), (6, (eI64 x3))]) (H' := []) ⟨rfl, rfl, trivial⟩ (Sub.refl _) ?_
        refine AW.reg ?_
        refine AO.calm rfl 17 rfl (by decide) (eI64 (w64 (x3 + (1 : Int)))) (Calm.int rfl rfl rfl rfl) ?_
        refine AO.calm rfl 6 rfl (by decide) (eI64 (w64 (x3 + (1 : Int)))) (Calm.move rfl rfl) ?_
        refine AO.nil (ρ' := [(5, (.ar 1 (p0.toList.map eU64))), (6, (eI64 (w64 (x3 + (1 : Int)))))]) (H' := []) ⟨rfl, rfl, trivial⟩ (Sub.refl _) ?_
        exact ⟨kq5, Nat.lt_succ_self _, (w64 (x3 + (1 : Int))), rfl, rfl, by rw [hrec4]; exact h⟩
    · have h := (if_neg hc6).symm.trans h
      refine AW.condN (x3 < (4 : Int)) rfl hc6 ?_
      refine AW.exit (ρ' := []) (H' := []) trivial (Sub.refl _) ?_
      exact ⟨rfl, rfl, h⟩
  · rintro _ _ ⟨rfl, rfl, h⟩
    rw [byteset_First_c0.eq_1] at h
    refine AW.seq ?_
    refine AW.reg ?_
    refine AO.calm rfl 2 rfl (by decide) (eI64 (-1 : Int)) (Calm.assign rfl rfl) ?_
    refine AO.nil (ρ' := [(2, (eI64 (-1 : Int)))]) (H' := []) ⟨rfl, trivial⟩ (Sub.refl _) ?_
    refine AW.ret (ρ' := [(2, (eI64 (-1 : Int)))]) (H' := []) ⟨rfl, trivial⟩ (Sub.refl _) ?_
    have hr := Option.some.inj h
    subst hr
    exact ⟨[(eI64 (-1 : Int))], ⟨rfl, rfl, trivial⟩, rfl⟩
end Go.Avl.TD
/- bosket/byteset.And; printed by avmain.py. -/
namespace Go.Avl.TD
open Go Go.RowKit Go.Proofs Go.Avl
set_option linter.unusedVariables false
set_option maxRecDepth 100000
set_option maxHeartbeats 4000000
attribute [local irreducible] AW AO AQ Spec SpecH Calm

def byteset_And_c0 (k : Nat) (x6 : (Vector Int 4)) : Option (Vector Int 4) :=
  some (x6)
def byteset_And_l1 (k : Nat) (p1 : (Vector Int 4)) : Nat → (Vector Int 4) → Int → Option (Vector Int 4)
  | 0, _, _ => none
  | j + 1, x7, x8 =>
    if x8 < (4 : Int) then if 0 ≤ x8 ∧ x8 < (4 : Int) then if 0 ≤ x8 ∧ x8 < (4 : Int) then if 0 ≤ x8 ∧ x8 < (4 : Int) then (byteset_And_l1 k p1 j) (vset x7 x8 (bits .and .u64 (vget x7 x8) (vget p1 x8))) (w64 (x8 + (1 : Int)))
    else none
    else none
    else none
    else byteset_And_c0 k x7
def byteset_And (k : Nat) (p0 : (Vector Int 4)) (p1 : (Vector Int 4)) : Option (Vector Int 4) :=
  byteset_And_l1 k p1 k p0 (0 : Int)
theorem byteset_And_spec {k : Nat} {p0 : (Vector Int 4)} {p1 : (Vector Int 4)} {r : (Vector Int 4)} (h : byteset_And k p0 p1 = some r) : Spec Tryd.prog 24 [(.ar 1 (p0.toList.map eU64)), (.ar 1 (p1.toList.map eU64))] (e27 r) := by
  rw [byteset_And.eq_1] at h
  refine Spec.intro (res := [.cell 4 27]) Tryd.func24 rfl rfl rfl (Nat.le_of_ble_eq_true rfl) ?_
  refine AW.seq ?_
  refine AW.reg ?_
  refine AO.box rfl 2 rfl (by decide) rfl rfl rfl fun n3 => ?_
  refine AO.box rfl 3 rfl (by decide) rfl rfl rfl fun n4 => ?_
  refine AO.alloc rfl 4 rfl (by decide) rfl zr27 lay27 fun n5 => ?_
  refine AO.nil (ρ' := [(2, (.ptr n3 0)), (3, (.ptr n4 0)), (4, (.ptr n5 0))]) (H' := [(n3, (.mem (.ar 1 (p0.toList.map eU64)))), (n4, (.mem (.ar 1 (p1.toList.map eU64)))), (n5, (.mem (.ar 1 ((Vector.replicate 4 (0 : Int)).toList.map eU64))))]) ⟨rfl, rfl, rfl, trivial⟩ (Sub.cons 2 rfl (Sub.cons 1 rfl (Sub.cons 0 rfl (Sub.nil _)))) ?_
  refine AW.seq_mid (fun ρ H => ∃ (x6 : (Vector Int 4)), ρ = [(2, (.ptr n3 0)), (4, (.ptr n5 0))] ∧ H = [(n3, (.mem (.ar 1 (x6.toList.map eU64)))), (n5, (.mem (.ar 1 ((Vector.replicate 4 (0 : Int)).toList.map eU64))))] ∧ byteset_And_c0 k x6 = some r) ?_ ?_
  · refine AW.seq ?_
    refine AW.reg ?_
    refine AO.calm rfl 6 rfl (by decide) (eI64 (0 : Int)) (Calm.move rfl rfl) ?_
    refine AO.nil (ρ' := [(2, (.ptr n3 0)), (3, (.ptr n4 0)), (4, (.ptr n5 0)), (6, (eI64 (0 : Int)))]) (H' := [(n3, (.mem (.ar 1 (p0.toList.map eU64)))), (n4, (.mem (.ar 1 (p1.toList.map eU64)))), (n5, (.mem (.ar 1 ((Vector.replicate 4 (0 : Int)).toList.map eU64))))]) ⟨rfl, rfl, rfl, rfl, trivial⟩ (Sub.refl _) ?_
    refine AW.block ?_
    refine AW.weak (ρ' := [(2, (.ptr n3 0)), (3, (.ptr n4 0)), (4, (.ptr n5 0)), (6, (eI64 (0 : Int)))]) (H' := [(n3, (.mem (.ar 1 (p0.toList.map eU64)))), (n4, (.mem (.ar 1 (p1.toList.map eU64)))), (n5, (.mem (.ar 1 ((Vector.replicate 4 (0 : Int)).toList.map eU64))))]) ⟨rfl, rfl, rfl, rfl, trivial⟩ (Sub.refl _) ?_
    refine AW.loop (fun kq ρ H => ∃ (x7 : (Vector Int 4)) (x8 : Int), ρ = [(2, (.ptr n3 0)), (3, (.ptr n4 0)), (4, (.ptr n5 0)), (6, (eI64 x8))] ∧ H = [(n3, (.mem (.ar 1 (x7.toList.map eU64)))), (n4, (.mem (.ar 1 (p1.toList.map eU64)))), (n5, (.mem (.ar 1 ((Vector.replicate 4 (0 : Int)).toList.map eU64))))] ∧ byteset_And_l1 k p1 kq x7 x8 = some r) k ⟨p0, (0 : Int), rfl, rfl, h⟩ ?_
    rintro kq10 _ _ ⟨x7, x8, rfl, rfl, h⟩
    cases kq10 with
    | zero => rw [byteset_And_l1.eq_1] at h; cases h
    | succ kq10 =>
    rw [byteset_And_l1.eq_2] at h
    generalize hrec9 : byteset_And_l1 k p1 kq10 = rec9 at h
    refine AW.seq ?_
    refine AW.reg ?_
    refine AO.calm rfl 7 rfl (by decide) (eBool (decide (x8 < (4 : Int)))) (Calm.int rfl rfl rfl rfl) ?_
    refine AO.nil (ρ' := [(2, (.ptr n3 0)), (3, (.ptr n4 0)), (4, (.ptr n5 0)), (6, (eI64 x8)), (7, (eBool (decide (x8 < (4 : Int)))))]) (H' := [(n3, (.mem (.ar 1 (x7.toList.map eU64)))), (n4, (.mem (.ar 1 (p1.toList.map eU64)))), (n5, (.mem (.ar 1 ((Vector.replicate 4 (0 : Int)).toList.map eU64))))]) ⟨rfl, rfl, rfl, rfl, rfl, trivial⟩ (Sub.refl _) ?_
    refine AW.seq ?_
    by_cases hc11 : x8 < (4 : Int)
    · have h := (if_pos hc11).symm.trans h
      refine AW.condP (x8 < (4 : Int)) rfl hc11 ?_
      refine AW.skip (ρ' := [(2, (.ptr n3 0)), (3, (.ptr n4 0)), (4, (.ptr n5 0)), (6, (eI64 x8))]) (H' := [(n3, (.mem (.ar 1 (x7.toList.map eU64)))), (n4, (.mem (.ar 1 (p1.toList.map eU64)))), (n5, (.mem (.ar 1 ((Vector.replicate 4 (0 : Int)).toList.map eU64))))]) ⟨rfl, rfl, rfl, rfl, trivial⟩ (Sub.refl _) ?_
      refine AW.seq ?_
      refine AW.block ?_
      refine AW.seq ?_
      refine AW.reg ?_
      refine AO.calm rfl 8 rfl (by decide) (eI64 x8) (Calm.move rfl rfl) ?_
      refine AO.calm rfl 5 rfl (by decide) (eI64 x8) (Calm.assign rfl rfl) ?_
      refine AO.nil (ρ' := [(2, (.ptr n3 0)), (3, (.ptr n4 0)), (4, (.ptr n5 0)), (5, (eI64 x8)), (6, (eI64 x8))]) (H' := [(n3, (.mem (.ar 1 (x7.toList.map eU64)))), (n4, (.mem (.ar 1 (p1.toList.map eU64)))), (n5, (.mem (.ar 1 ((Vector.replicate 4 (0 : Int)).toList.map eU64))))]) ⟨rfl, rfl, rfl, rfl, rfl, trivial⟩ (Sub.refl _) ?_
      obtain ⟨hg12, h⟩ := of_guard h
      obtain ⟨hg13, h⟩ := of_guard h
      obtain ⟨hg14, h⟩ := of_guard h
      refine AW.regAnyL rfl rfl (by rfl) (by decide +kernel) (by decide +kernel) [(eI64 x8), (.ptr n3 (0 + x8.toNat * 1)), (eU64 (vget x7 x8)), (eI64 x8), (.ptr n4 (0 + x8.toNat * 1)), (eU64 (vget p1 x8)), (eU64 (bits .and .u64 (vget x7 x8) (vget p1 x8))), (.ptr n3 (0 + x8.toNat * 1))] [(2, (.ptr n3 0)), (3, (.ptr n4 0)), (4, (.ptr n5 0)), (5, (eI64 x8)), (6, (eI64 x8))] ⟨rfl, rfl, rfl, rfl, rfl, trivial⟩ rfl ?_ [(2, (.ptr n3 0)), (3, (.ptr n4 0)), (4, (.ptr n5 0)), (6, (eI64 x8)), (15, (eU64 (bits .and .u64 (vget x7 x8) (vget p1 x8)))), (16, (.ptr n3 (0 + x8.toNat * 1)))] ⟨rfl, rfl, rfl, rfl, rfl, rfl, trivial⟩ ?_
      · refine ⟨?_, ?_, ?_, ?_, ?_, ?_, ?_, ?_, trivial⟩
        · refine AO.weak (ρ' := [(5, (eI64 x8))]) (H' := [(n3, (.mem (.ar 1 (x7.toList.map eU64)))), (n4, (.mem (.ar 1 (p1.toList.map eU64)))), (n5, (.mem (.ar 1 ((Vector.replicate 4 (0 : Int)).toList.map eU64))))]) ⟨rfl, trivial⟩ (Sub.refl _) ?_
          refine AO.calm rfl 9 rfl (by decide) (eI64 x8) (Calm.move rfl rfl) ?_
          exact AO.nilE (ρ' := [(9, (eI64 x8))]) (H' := [(n3, (.mem (.ar 1 (x7.toList.map eU64)))), (n4, (.mem (.ar 1 (p1.toList.map eU64)))), (n5, (.mem (.ar 1 ((Vector.replicate 4 (0 : Int)).toList.map eU64))))]) ⟨⟨_, rfl, rfl⟩, Sub.refl _⟩ ⟨rfl, trivial⟩ (Sub.refl _)
        · refine AO.weak (ρ' := [(2, (.ptr n3 0)), (9, (eI64 x8))]) (H' := [(n3, (.mem (.ar 1 (x7.toList.map eU64)))), (n4, (.mem (.ar 1 (p1.toList.map eU64)))), (n5, (.mem (.ar 1 ((Vector.replicate 4 (0 : Int)).toList.map eU64))))]) ⟨rfl, rfl, trivial⟩ (Sub.refl _) ?_
          refine AO.calm rfl 10 rfl (by decide) (.ptr n3 (0 + x8.toNat * 1)) (Calm.idxP rfl rfl rfl hg12 Tryd.underlying27 sz25) ?_
          exact AO.nilE (ρ' := [(10, (.ptr n3 (0 + x8.toNat * 1)))]) (H' := [(n3, (.mem (.ar 1 (x7.toList.map eU64)))), (n4, (.mem (.ar 1 (p1.toList.map eU64)))), (n5, (.mem (.ar 1 ((Vector.replicate 4 (0 : Int)).toList.map eU64))))]) ⟨⟨_, rfl, rfl⟩, Sub.refl _⟩ ⟨rfl, trivial⟩ (Sub.refl _)
        · refine AO.weak (ρ' := [(10, (.ptr n3 (0 + x8.toNat * 1)))]) (H' := [(n3, (.mem (.ar 1 (x7.toList.map eU64)))), (n4, (.mem (.ar 1 (p1.toList.map eU64)))), (n5, (.mem (.ar 1 ((Vector.replicate 4 (0 : Int)).toList.map eU64))))]) ⟨rfl, trivial⟩ (Sub.refl _) ?_
          refine AO.calm rfl 11 rfl (by decide) (eU64 (vget x7 x8)) (Calm.load 0 rfl rfl rfl (At.cast (At.vidx x8 hg12.1 hg12.2 At.here) (by omega)) ag25 sz25) ?_
          exact AO.nilE (ρ' := [(11, (eU64 (vget x7 x8)))]) (H' := [(n3, (.mem (.ar 1 (x7.toList.map eU64)))), (n4, (.mem (.ar 1 (p1.toList.map eU64)))), (n5, (.mem (.ar 1 ((Vector.replicate 4 (0 : Int)).toList.map eU64))))]) ⟨⟨_, rfl, rfl⟩, Sub.refl _⟩ ⟨rfl, trivial⟩ (Sub.refl _)
        · refine AO.weak (ρ' := [(5, (eI64 x8))]) (H' := [(n3, (.mem (.ar 1 (x7.toList.map eU64)))), (n4, (.mem (.ar 1 (p1.toList.map eU64)))), (n5, (.mem (.ar 1 ((Vector.replicate 4 (0 : Int)).toList.map eU64))))]) ⟨rfl, trivial⟩ (Sub.refl _) ?_
          refine AO.calm rfl 12 rfl (by decide) (eI64 x8) (Calm.move rfl rfl) ?_
          exact AO.nilE (ρ' := [(12, (eI64 x8))]) (H' := [(n3, (.mem (.ar 1 (x7.toList.map eU64)))), (n4, (.mem (.ar 1 (p1.toList.map eU64)))), (n5, (.mem (.ar 1 ((Vector.replicate 4 (0 : Int)).toList.map eU64))))]) ⟨⟨_, rfl, rfl⟩, Sub.refl _⟩ ⟨rfl, trivial⟩ (Sub.refl _)
        · refine AO.weak (ρ' := [(3, (.ptr n4 0)), (12, (eI64 x8))]) (H' := [(n3, (.mem (.ar 1 (x7.toList.map eU64)))), (n4, (.mem (.ar 1 (p1.toList.map eU64)))), (n5, (.mem (.ar 1 ((Vector.replicate 4 (0 : Int)).toList.map eU64))))]) ⟨rfl, rfl, trivial⟩ (Sub.refl _) ?_
          refine AO.calm rfl 13 rfl (by decide) (.ptr n4 (0 + x8.toNat * 1)) (Calm.idxP rfl rfl rfl hg13 Tryd.underlying27 sz25) ?_
          exact AO.nilE (ρ' := [(13, (.ptr n4 (0 + x8.toNat * 1)))]) (H' := [(n3, (.mem (.ar 1 (x7.toList.map eU64)))), (n4, (.mem (.ar 1 (p1.toList.map eU64)))), (n5, (.mem (.ar 1 ((Vector.replicate 4 (0 : Int)).toList.map eU64))))]) ⟨⟨_, rfl, rfl⟩, Sub.refl _⟩ ⟨rfl, trivial⟩ (Sub.refl _)
        · refine AO.weak (ρ' := [(13, (.ptr n4 (0 + x8.toNat * 1)))]) (H' := [(n3, (.mem (.ar 1 (x7.toList.map eU64)))), (n4, (.mem (.ar 1 (p1.toList.map eU64)))), (n5, (.mem (.ar 1 ((Vector.replicate 4 (0 : Int)).toList.map eU64))))]) ⟨rfl, trivial⟩ (Sub.refl _) ?_
          refine AO.calm rfl 14 rfl (by decide) (eU64 (vget p1 x8)) (Calm.load 1 rfl rfl rfl (At.cast (At.vidx x8 hg13.1 hg13.2 At.here) (by omega)) ag25 sz25) ?_
          exact AO.nilE (ρ' := [(14, (eU64 (vget p1 x8)))]) (H' := [(n3, (.mem (.ar 1 (x7.toList.map eU64)))), (n4, (.mem (.ar 1 (p1.toList.map eU64)))), (n5, (.mem (.ar 1 ((Vector.replicate 4 (0 : Int)).toList.map eU64))))]) ⟨⟨_, rfl, rfl⟩, Sub.refl _⟩ ⟨rfl, trivial⟩ (Sub.refl _)
        · refine AO.weak (ρ' := [(11, (eU64 (vget x7 x8))), (14, (eU64 (vget p1 x8)))]) (H' := [(n3, (.mem (.ar 1 (x7.toList.map eU64)))), (n4, (.mem (.ar 1 (p1.toList.map eU64)))), (n5, (.mem (.ar 1 ((Vector.replicate 4 (0 : Int)).toList.map eU64))))]) ⟨rfl, rfl, trivial⟩ (Sub.refl _) ?_
          refine AO.calm rfl 15 rfl (by decide) (eU64 (bits .and .u64 (vget x7 x8) (vget p1 x8))) (Calm.int rfl rfl rfl rfl) ?_
          exact AO.nilE (ρ' := [(15, (eU64 (bits .and .u64 (vget x7 x8) (vget p1 x8))))]) (H' := [(n3, (.mem (.ar 1 (x7.toList.map eU64)))), (n4, (.mem (.ar 1 (p1.toList.map eU64)))), (n5, (.mem (.ar 1 ((Vector.replicate 4 (0 : Int)).toList.map eU64))))]) ⟨⟨_, rfl, rfl⟩, Sub.refl _⟩ ⟨rfl, trivial⟩ (Sub.refl _)
        · refine AO.weak (ρ' := [(2, (.ptr n3 0)), (9, (eI64 x8))]) (H' := [(n3, (.mem (.ar 1 (x7.toList.map eU64)))), (n4, (.mem (.ar 1 (p1.toList.map eU64)))), (n5, (.mem (.ar 1 ((Vector.replicate 4 (0 : Int)).toList.map eU64))))]) ⟨rfl, rfl, trivial⟩ (Sub.refl _) ?_
          refine AO.calm rfl 16 rfl (by decide) (.ptr n3 (0 + x8.toNat * 1)) (Calm.idxP rfl rfl rfl hg14 Tryd.underlying27 sz25) ?_
          exact AO.nilE (ρ' := [(16, (.ptr n3 (0 + x8.toNat * 1)))]) (H' := [(n3, (.mem (.ar 1 (x7.toList.map eU64)))), (n4, (.mem (.ar 1 (p1.toList.map eU64)))), (n5, (.mem (.ar 1 ((Vector.replicate 4 (0 : Int)).toList.map eU64))))]) ⟨⟨_, rfl, rfl⟩, Sub.refl _⟩ ⟨rfl, trivial⟩ (Sub.refl _)
      · refine AO.store (X' := (.ar 1 ((vset x7 x8 (bits .and .u64 (vget x7 x8) (vget p1 x8))).toList.map eU64))) 0 rfl rfl rfl rfl rfl rfl (Put.cast (Put.vidx x8 (bits .and .u64 (vget x7 x8) (vget p1 x8)) hg14.1 hg14.2 Put.here) (by omega)) rfl rfl sz25 rfl ?_
        refine AO.nil (ρ' := [(2, (.ptr n3 0)), (3, (.ptr n4 0)), (4, (.ptr n5 0)), (6, (eI64 x8))]) (H' := [(n3, (.mem (.ar 1 ((vset x7 x8 (bits .and .u64 (vget x7 x8) (vget p1 x8))).toList.map eU64)))), (n4, (.mem (.ar 1 (p1.toList.map eU64)))), (n5, (.mem (.ar 1 ((Vector.replicate 4 (0 : Int)).toList.map eU64))))]) ⟨rfl, rfl, rfl, rfl, trivial⟩ (Sub.refl _) ?_
        refine AW.reg ?_
        refine AO.calm rfl 17 rfl (by decide) (eI64 (w64 (x8 + (1 : Int)))) (Calm.int rfl rfl rfl rfl) ?_
        refine AO.calm rfl 6 rfl (by decide) (eI64 (w64 (x8 + (1 : Int)))) (Calm.move rfl rfl) ?_
        refine AO.nil (ρ' := [(2, (.ptr n3 0)), (3, (.ptr n4 0)), (4, (.ptr n5 0)), (6, (eI64 (w64 (x8 + (1 : Int)))))]) (H' := [(n3, (.mem (.ar 1 ((vset x7 x8 (bits .and .u64 (vget x7 x8) (vget p1 x8))).toList.map eU64)))), (n4, (.mem (.ar 1 (p1.toList.map eU64)))), (n5, (.mem (.ar 1 ((Vector.replicate 4 (0 : Int)).toList.map eU64))))]) ⟨rfl, rfl, rfl, rfl, trivial⟩ (Sub.refl _) ?_
        exact ⟨kq10, Nat.lt_succ_self _, (vset x7 x8 (bits .and .u64 (vget x7 x8) (vget p1 x8))), (w64 (x8 + (1 : Int))), rfl, rfl, by rw [hrec9]; exact h⟩
    · have h := (if_neg hc11).symm.trans h
      refine AW.condN (x8 < (4 : Int)) rfl hc11 ?_
      refine AW.exit (ρ' := [(2, (.ptr n3 0)), (4, (.ptr n5 0))]) (H' := [(n3, (.mem (.ar 1 (x7.toList.map eU64)))), (n5, (.mem (.ar 1 ((Vector.replicate 4 (0 : Int)).toList.map eU64))))]) ⟨rfl, rfl, trivial⟩ (Sub.cons 0 rfl (Sub.cons 1 rfl (Sub.nil _))) ?_
      exact ⟨x7, rfl, rfl, h⟩
  · rintro _ _ ⟨x6, rfl, rfl, h⟩
    rw [byteset_And_c0.eq_1] at h
    refine AW.seq ?_
    refine AW.reg ?_
    refine AO.calm rfl 18 rfl (by decide) (.ar 1 (x6.toList.map eU64)) (Calm.load 0 rfl rfl rfl (At.cast At.here rfl) ag27 (by rw [sz27]; simp [AV.size])) ?_
    refine AO.store (X' := (.ar 1 (x6.toList.map eU64))) 1 rfl rfl rfl rfl rfl rfl (Put.cast Put.here rfl) rfl (by simp [AV.size]) (by rw [sz27]; simp [AV.size]) rfl ?_
    refine AO.nil (ρ' := [(4, (.ptr n5 0))]) (H' := [(n5, (.mem (.ar 1 (x6.toList.map eU64))))]) ⟨rfl, trivial⟩ (Sub.cons 1 rfl (Sub.nil _)) ?_
    refine AW.ret (ρ' := [(4, (.ptr n5 0))]) (H' := [(n5, (.mem (.ar 1 (x6.toList.map eU64))))]) ⟨rfl, trivial⟩ (Sub.refl _) ?_
    have hr := Option.some.inj h
    subst hr
    exact ⟨[(.ar 1 (x6.toList.map eU64))], ⟨⟨_, 0, rfl, rfl, ag27, (by rw [sz27]; simp [AV.size])⟩, trivial⟩, rfl⟩
end Go.Avl.TD
/- bosket/byteset.Less; printed by avmain.py. -/
namespace Go.Avl.TD
open Go Go.RowKit Go.Proofs Go.Avl
set_option linter.unusedVariables false
set_option maxRecDepth 100000
set_option maxHeartbeats 4000000
attribute [local irreducible] AW AO AQ Spec SpecH Calm

def byteset_Less_c0 (k : Nat) (x6 : (Vector Int 4)) : Option (Vector Int 4) :=
  some (x6)
def byteset_Less_l1 (k : Nat) (p1 : (Vector Int 4)) : Nat → (Vector Int 4) → Int → Option (Vector Int 4)
  | 0, _, _ => none
  | j + 1, x7, x8 =>
    if x8 < (4 : Int) then if 0 ≤ x8 ∧ x8 < (4 : Int) then if 0 ≤ x8 ∧ x8 < (4 : Int) then if 0 ≤ x8 ∧ x8 < (4 : Int) then (byteset_Less_l1 k p1 j) (vset x7 x8 (bits .andNot .u64 (vget x7 x8) (vget p1 x8))) (w64 (x8 + (1 : Int)))
    else none
    else none
    else none
    else byteset_Less_c0 k x7
def byteset_Less (k : Nat) (p0 : (Vector Int 4)) (p1 : (Vector Int 4)) : Option (Vector Int 4) :=
  byteset_Less_l1 k p1 k p0 (0 : Int)
theorem byteset_Less_spec {k : Nat} {p0 : (Vector Int 4)} {p1 : (Vector Int 4)} {r : (Vector Int 4)} (h : byteset_Less k p0 p1 = some r) : Spec Tryd.prog 25 [(.ar 1 (p0.toList.map eU64)), (.ar 1 (p1.toList.map eU64))] (e27 r) := by
  rw [byteset_Less.eq_1] at h
  refine Spec.intro (res := [.cell 4 27]) Tryd.func25 rfl rfl rfl (Nat.le_of_ble_eq_true rfl) ?_
  refine AW.seq ?_
  refine AW.reg ?_
  refine AO.box rfl 2 rfl (by decide) rfl rfl rfl fun n3 => ?_
  refine AO.box rfl 3 rfl (by decide) rfl rfl rfl fun n4 => ?_
  refine AO.alloc rfl 4 rfl (by decide) rfl zr27 lay27 fun n5 => ?_
  refine AO.nil (ρ' := [(2, (.ptr n3 0)), (3, (.ptr n4 0)), (4, (.ptr n5 0))]) (H' := [(n3, (.mem (.ar 1 (p0.toList.map eU64)))), (n4, (.mem (.ar 1 (p1.toList.map eU64)))), (n5, (.mem (.ar 1 ((Vector.replicate 4 (0 : Int)).toList.map eU64))))]) ⟨rfl, rfl, rfl, trivial⟩ (Sub.cons 2 rfl (Sub.cons 1 rfl (Sub.cons 0 rfl (Sub.nil _)))) ?_
  refine AW.seq_mid (fun ρ H => ∃ (x6 : (Vector Int 4)), ρ = [(2, (.ptr n3 0)), (4, (.ptr n5 0))] ∧ H = [(n3, (.mem (.ar 1 (x6.toList.map eU64)))), (n5, (.mem (.ar 1 ((Vector.replicate 4 (0 : Int)).toList.map eU64))))] ∧ byteset_Less_c0 k x6 = some r) ?_ ?_
  · refine AW.seq ?_
    refine AW.reg ?_
    refine AO.calm rfl 6 rfl (by decide) (eI64 (0 : Int)) (Calm.move rfl rfl) ?_
    refine AO.nil (ρ' := [(2, (.ptr n3 0)), (3, (.ptr n4 0)), (4, (.ptr n5 0)), (6, (eI64 (0 : Int)))]) (H' := [(n3, (.mem (.ar 1 (p0.toList.map eU64)))), (n4, (.mem (.ar 1 (p1.toList.map eU64)))), (n5, (.mem (.ar 1 ((Vector.replicate 4 (0 : Int)).toList.map eU64))))]) ⟨rfl, rfl, rfl, rfl, trivial⟩ (Sub.refl _) ?_
    refine AW.block ?_
    refine AW.weak (ρ' := [(2, (.ptr n3 0)), (3, (.ptr n4 0)), (4, (.ptr n5 0)), (6, (eI64 (0 : Int)))]) (H' := [(n3, (.mem (.ar 1 (p0.toList.map eU64)))), (n4, (.mem (.ar 1 (p1.toList.map eU64)))), (n5, (.mem (.ar 1 ((Vector.replicate 4 (0 : Int)).toList.map eU64))))]) ⟨rfl, rfl, rfl, rfl, trivial⟩ (Sub.refl _) ?_
    refine AW.loop (fun kq ρ H => ∃ (x7 : (Vector Int 4)) (x8 : Int), ρ = [(2, (.ptr n3 0)), (3, (.ptr n4 0)), (4, (.ptr n5 0)), (6, (eI64 x8))] ∧ H = [(n3, (.mem (.ar 1 (x7.toList.map eU64)))), (n4, (.mem (.ar 1 (p1.toList.map eU64)))), (n5, (.mem (.ar 1 ((Vector.replicate 4 (0 : Int)).toList.map eU64))))] ∧ byteset_Less_l1 k p1 kq x7 x8 = some r) k ⟨p0, (0 : Int), rfl, rfl, h⟩ ?_
    rintro kq10 _ _ ⟨x7, x8, rfl, rfl, h⟩
    cases kq10 with
    | zero => rw [byteset_Less_l1.eq_1] at h; cases h
    | succ kq10 =>
    rw [byteset_Less_l1.eq_2] at h
    generalize hrec9 : byteset_Less_l1 k p1 kq10 = rec9 at h
    refine AW.seq ?_
    refine AW.reg ?_
    refine AO.calm rfl 7 rfl (by decide) (eBool (decide (x8 < (4 : Int)))) (Calm.int rfl rfl rfl rfl) ?_
    refine AO.nil (ρ' := [(2, (.ptr n3 0)), (3, (.ptr n4 0)), (4, (.ptr n5 0)), (6, (eI64 x8)), (7, (eBool (decide (x8 < (4 : Int)))))]) (H' := [(n3, (.mem (.ar 1 (x7.toList.map eU64)))), (n4, (.mem (.ar 1 (p1.toList.map eU64)))), (n5, (.mem (.ar 1 ((Vector.replicate 4 (0 : Int)).toList.map eU64))))]) ⟨rfl, rfl, rfl, rfl, rfl, trivial⟩ (Sub.refl _) ?_
    refine AW.seq ?_
    by_cases hc11 : x8 < (4 : Int)
    · have h := (if_pos hc11).symm.trans h
      refine AW.condP (x8 < (4 : Int)) rfl hc11 ?_
      refine AW.skip (ρ' := [(2, (.ptr n3 0)), (3, (.ptr n4 0)), (4, (.ptr n5 0)), (6, (eI64 x8))]) (H' := [(n3, (.mem (.ar 1 (x7.toList.map eU64)))), (n4, (.mem (.ar 1 (p1.toList.map eU64)))), (n5, (.mem (.ar 1 ((Vector.replicate 4 (0 : Int)).toList.map eU64))))]) ⟨rfl, rfl, rfl, rfl, trivial⟩ (Sub.refl _) ?_
      refine AW.seq ?_
      refine AW.block ?_
      refine AW.seq ?_
      refine AW.reg ?_
      refine AO.calm rfl 8 rfl (by decide) (eI64 x8) (Calm.move rfl rfl) ?_
      refine AO.calm rfl 5 rfl (by decide) (eI64 x8) (Calm.assign rfl rfl) ?_
      refine AO.nil (ρ' := [(2, (.ptr n3 0)), (3, (.ptr n4 0)), (4, (.ptr n5 0)), (5, (eI64 x8)), (6, (eI64 x8))]) (H' := [(n3, (.mem (.ar 1 (x7.toList.map eU64)))), (n4, (.mem (.ar 1 (p1.toList.map eU64)))), (n5, (.mem (.ar 1 ((Vector.replicate 4 (0 : Int)).toList.map eU64))))]) ⟨rfl, rfl, rfl, rfl, rfl, trivial⟩ (Sub.refl _) ?_
      obtain ⟨hg12, h⟩ := of_guard h
      obtain ⟨hg13, h⟩ := of_guard h
      obtain ⟨hg14, h⟩ := of_guard h
      refine AW.regAnyL rfl rfl (by rfl) (by decide +kernel) (by decide +kernel) [(eI64 x8), (.ptr n3 (0 + x8.toNat * 1)), (eU64 (vget x7 x8)), (eI64 x8), (.ptr n4 (0 + x8.toNat * 1)), (eU64 (vget p1 x8)), (eU64 (bits .andNot .u64 (vget x7 x8) (vget p1 x8))), (.ptr n3 (0 + x8.toNat * 1))] [(2, (.ptr n3 0)), (3, (.ptr n4 0)), (4, (.ptr n5 0)), (5, (eI64 x8)), (6, (eI64 x8))] ⟨rfl, rfl, rfl, rfl, rfl, trivial⟩ rfl ?_ [(2, (.ptr n3 0)), (3, (.ptr n4 0)), (4, (.ptr n5 0)), (6, (eI64 x8)), (15, (eU64 (bits .andNot .u64 (vget x7 x8) (vget p1 x8)))), (16, (.ptr n3 (0 + x8.toNat * 1)))] ⟨rfl, rfl, rfl, rfl, rfl, rfl, trivial⟩ ?_
      · refine ⟨?_, ?_, ?_, ?_, ?_, ?_, ?_, ?_, trivial⟩
        · refine AO.weak (ρ' := [(5, (eI64 x8))]) (H' := [(n3, (.mem (.ar 1 (x7.toList.map eU64)))), (n4, (.mem (.ar 1 (p1.toList.map eU64)))), (n5, (.mem (.ar 1 ((Vector.replicate 4 (0 : Int)).toList.map eU64))))]) ⟨rfl, trivial⟩ (Sub.refl _) ?_
          refine AO.calm rfl 9 rfl (by decide) (eI64 x8) (Calm.move rfl rfl) ?_
          exact AO.nilE (ρ' := [(9, (eI64 x8))]) (H' := [(n3, (.mem (.ar 1 (x7.toList.map eU64)))), (n4, (.mem (.ar 1 (p1.toList.map eU64)))), (n5, (.mem (.ar 1 ((Vector.replicate 4 (0 : Int)).toList.map eU64))))]) ⟨⟨_, rfl, rfl⟩, Sub.refl _⟩ ⟨rfl, trivial⟩ (Sub.refl _)
        · refine AO.weak (ρ' := [(2, (.ptr n3 0)), (9, (eI64 x8))]) (H' := [(n3, (.mem (.ar 1 (x7.toList.map eU64)))), (n4, (.mem (.ar 1 (p1.toList.map eU64)))), (n5, (.mem (.ar 1 ((Vector.replicate 4 (0 : Int)).toList.map eU64))))]) ⟨rfl, rfl, trivial⟩ (Sub.refl _) ?_
          refine AO.calm rfl 10 rfl (by decide) (.ptr n3 (0 + x8.toNat * 1)) (Calm.idxP rfl rfl rfl hg12 Tryd.underlying27 sz25) ?_
          exact AO.nilE (ρ' := [(10, (.ptr n3 (0 + x8.toNat * 1)))]) (H' := [(n3, (.mem (.ar 1 (x7.toList.map eU64)))), (n4, (.mem (.ar 1 (p1.toList.map eU64)))), (n5, (.mem (.ar 1 ((Vector.replicate 4 (0 : Int)).toList.map eU64))))]) ⟨⟨_, rfl, rfl⟩, Sub.refl _⟩ ⟨rfl, trivial⟩ (Sub.refl _)
        · refine AO.weak (ρ' := [(10, (.ptr n3 (0 + x8.toNat * 1)))]) (H' := [(n3, (.mem (.ar 1 (x7.toList.map eU64)))), (n4, (.mem (.ar 1 (p1.toList.map eU64)))), (n5, (.mem (.ar 1 ((Vector.replicate 4 (0 : Int)).toList.map eU64))))]) ⟨rfl, trivial⟩ (Sub.refl _) ?_
          refine AO.calm rfl 11 rfl (by decide) (eU64 (vget x7 x8)) (Calm.load 0 rfl rfl rfl (At.cast (At.vidx x8 hg12.1 hg12.2 At.here) (by omega)) ag25 sz25) ?_
          exact AO.nilE (ρ' := [(11, (eU64 (vget x7 x8)))]) (H' := [(n3, (.mem (.ar 1 (x7.toList.map eU64)))), (n4, (.mem (.ar 1 (p1.toList.map eU64)))), (n5, (.mem (.ar 1 ((Vector.replicate 4 (0 : Int)).toList.map eU64))))]) ⟨⟨_, rfl, rfl⟩, Sub.refl _⟩ ⟨rfl, trivial⟩ (Sub.refl _)
        · refine AO.weak (ρ' := [(5, (eI64 x8))]) (H' := [(n3, (.mem (.ar 1 (x7.toList.map eU64)))), (n4, (.mem (.ar 1 (p1.toList.map eU64)))), (n5, (.mem (.ar 1 ((Vector.replicate 4 (0 : Int)).toList.map eU64))))]) ⟨rfl, trivial⟩ (Sub.refl _) ?_
          refine AO.calm rfl 12 rfl (by decide) (eI64 x8) (Calm.move rfl rfl) ?_
          exact AO.nilE (ρ' := [(12, (eI64 x8))]) (H' := [(n3, (.mem (.ar 1 (x7.toList.map eU64)))), (n4, (.mem (.ar 1 (p1.toList.map eU64)))), (n5, (.mem (.ar 1 ((Vector.replicate 4 (0 : Int)).toList.map eU64))))]) ⟨⟨_, rfl, rfl⟩, Sub.refl _⟩ ⟨rfl, trivial⟩ (Sub.refl _)
        · refine AO.weak (ρ' := [(3, (.ptr n4 0)), (12, (eI64 x8))]) (H' := [(n3, (.mem (.ar 1 (x7.toList.map eU64)))), (n4, (.mem (.ar 1 (p1.toList.map eU64)))), (n5, (.mem (.ar 1 ((Vector.replicate 4 (0 : Int)).toList.map eU64))))]) ⟨rfl, rfl, trivial⟩ (Sub.refl _) ?_
          refine AO.calm rfl 13 rfl (by decide) (.ptr n4 (0 + x8.toNat * 1)) (Calm.idxP rfl rfl rfl hg13 Tryd.underlying27 sz25) ?_
          exact AO.nilE (ρ' := [(13, (.ptr n4 (0 + x8.toNat * 1)))]) (H' := [(n3, (.mem (.ar 1 (x7.toList.map eU64)))), (n4, (.mem (.ar 1 (p1.toList.map eU64)))), (n5, (.mem (.ar 1 ((Vector.replicate 4 (0 : Int)).toList.map eU64))))]) ⟨⟨_, rfl, rfl⟩, Sub.refl _⟩ ⟨rfl, trivial⟩ (Sub.refl _)
        · refine AO.weak (ρ' := [(13, (.ptr n4 (0 + x8.toNat * 1)))]) (H' := [(n3, (.mem (.ar 1 (x7.toList.map eU64)))), (n4, (.mem (.ar 1 (p1.toList.map eU64)))), (n5, (.mem (.ar 1 ((Vector.replicate 4 (0 : Int)).toList.map eU64))))]) ⟨rfl, trivial⟩ (Sub.refl _) ?_
          refine AO.calm rfl 14 rfl (by decide) (eU64 (vget p1 x8)) (Calm.load 1 rfl rfl rfl (At.cast (At.vidx x8 hg13.1 hg13.2 At.here) (by omega)) ag25 sz25) ?_
          exact AO.nilE (ρ' := [(14, (eU64 (vget p1 x8)))]) (H' := [(n3, (.mem (.ar 1 (x7.toList.map eU64)))), (n4, (.mem (.ar 1 (p1.toList.map eU64)))), (n5, (.mem (.ar 1 ((Vector.replicate 4 (0 : Int)).toList.map eU64))))]) ⟨⟨_, rfl, rfl⟩, Sub.refl _⟩ ⟨rfl, trivial⟩ (Sub.refl _)
        · refine AO.weak (ρ' := [(11, (eU64 (vget x7 x8))), (14, (eU64 (vget p1 x8)))]) (H' := [(n3, (.mem (.ar 1 (x7.toList.map eU64)))), (n4, (.mem (.ar 1 (p1.toList.map eU64)))), (n5, (.mem (.ar 1 ((Vector.replicate 4 (0 : Int)).toList.map eU64))))]) ⟨rfl, rfl, trivial⟩ (Sub.refl _) ?_
          refine AO.calm rfl 15 rfl (by decide) (eU64 (bits .andNot .u64 (vget x7 x8) (vget p1 x8))) (Calm.int rfl rfl rfl rfl) ?_
          exact AO.nilE (ρ' := [(15, (eU64 (bits .andNot .u64 (vget x7 x8) (vget p1 x8))))]) (H' := [(n3, (.mem (.ar 1 (x7.toList.map eU64)))), (n4, (.mem (.ar 1 (p1.toList.map eU64)))), (n5, (.mem (.ar 1 ((Vector.replicate 4 (0 : Int)).toList.map eU64))))]) ⟨⟨_, rfl, rfl⟩, Sub.refl _⟩ ⟨rfl, trivial⟩ (Sub.refl _)
        · refine AO.weak (ρ' := [(2, (.ptr n3 0)), (9, (eI64 x8))]) (H' := [(n3, (.mem (.ar 1 (x7.toList.map eU64)))), (n4, (.mem (.ar 1 (p1.toList.map eU64)))), (n5, (.mem (.ar 1 ((Vector.replicate 4 (0 : Int)).toList.map eU64))))]) ⟨rfl, rfl, trivial⟩ (Sub.refl _) ?_
          refine AO.calm rfl 16 rfl (by decide) (.ptr n3 (0 + x8.toNat * 1)) (Calm.idxP rfl rfl rfl hg14 Tryd.underlying27 sz25) ?_
          exact AO.nilE (ρ' := [(16, (.ptr n3 (0 + x8.toNat * 1)))]) (H' := [(n3, (.mem (.ar 1 (x7.toList.map eU64)))), (n4, (.mem (.ar 1 (p1.toList.map eU64)))), (n5, (.mem (.ar 1 ((Vector.replicate 4 (0 : Int)).toList.map eU64))))]) ⟨⟨_, rfl, rfl⟩, Sub.refl _⟩ ⟨rfl, trivial⟩ (Sub.refl _)
      · refine AO.store (X' := (.ar 1 ((vset x7 x8 (bits .andNot .u64 (vget x7 x8) (vget p1 x8))).toList.map eU64))) 0 rfl rfl rfl rfl rfl rfl (Put.cast (Put.vidx x8 (bits .andNot .u64 (vget x7 x8) (vget p1 x8)) hg14.1 hg14.2 Put.here) (by omega)) rfl rfl sz25 rfl ?_
        refine AO.nil (ρ' := [(2, (.ptr n3 0)), (3, (.ptr n4 0)), (4, (.ptr n5 0)), (6, (eI64 x8))]) (H' := [(n3, (.mem (.ar 1 ((vset x7 x8 (bits .andNot .u64 (vget x7 x8) (vget p1 x8))).toList.map eU64)))), (n4, (.mem (.ar 1 (p1.toList.map eU64)))), (n5, (.mem (.ar 1 ((Vector.replicate 4 (0 : Int)).toList.map eU64))))]) ⟨rfl, rfl, rfl, rfl, trivial⟩ (Sub.refl _) ?_
        refine AW.reg ?_
        refine AO.calm rfl 17 rfl (by decide) (eI64 (w64 (x8 + (1 : Int)))) (Calm.int rfl rfl rfl rfl) ?_
        refine AO.calm rfl 6 rfl (by decide) (eI64 (w64 (x8 + (1 : Int)))) (Calm.move rfl rfl) ?_
        refine AO.nil (ρ' := [(2, (.ptr n3 0)), (3, (.ptr n4 0)), (4, (.ptr n5 0)), (6, (eI64 (w64 (x8 + (1 : Int)))))]) (H' := [(n3, (.mem (.ar 1 ((vset x7 x8 (bits .andNot .u64 (vget x7 x8) (vget p1 x8))).toList.map eU64)))), (n4, (.mem (.ar 1 (p1.toList.map eU64)))), (n5, (.mem (.ar 1 ((Vector.replicate 4 (0 : Int)).toList.map eU64))))]) ⟨rfl, rfl, rfl, rfl, trivial⟩ (Sub.refl _) ?_
        exact ⟨kq10, Nat.lt_succ_self _, (vset x7 x8 (bits .andNot .u64 (vget x7 x8) (vget p1 x8))), (w64 (x8 + (1 : Int))), rfl, rfl, by rw [hrec9]; exact h⟩
    · have h := (if_neg hc11).symm.trans h
      refine AW.condN (x8 < (4 : Int)) rfl hc11 ?_
      refine AW.exit (ρ' := [(2, (.ptr n3 0)), (4, (.ptr n5 0))]) (H' := [(n3, (.mem (.ar 1 (x7.toList.map eU64)))), (n5, (.mem (.ar 1 ((Vector.replicate 4 (0 : Int)).toList.map eU64))))]) ⟨rfl, rfl, trivial⟩ (Sub.cons 0 rfl (Sub.cons 1 rfl (Sub.nil _))) ?_
      exact ⟨x7, rfl, rfl, h⟩
  · rintro _ _ ⟨x6, rfl, rfl, h⟩
    rw [byteset_Less_c0.eq_1] at h
    refine AW.seq ?_
    refine AW.reg ?_
    refine AO.calm rfl 18 rfl (by decide) (.ar 1 (x6.toList.map eU64)) (Calm.load 0 rfl rfl rfl (At.cast At.here rfl) ag27 (by rw [sz27]; simp [AV.size])) ?_
    refine AO.store (X' := (.ar 1 (x6.toList.map eU64))) 1 rfl rfl rfl rfl rfl rfl (Put.cast Put.here rfl) rfl (by simp [AV.size]) (by rw [sz27]; simp [AV.size]) rfl ?_
    refine AO.nil (ρ' := [(4, (.ptr n5 0))]) (H' := [(n5, (.mem (.ar 1 (x6.toList.map eU64))))]) ⟨rfl, trivial⟩ (Sub.cons 1 rfl (Sub.nil _)) ?_
    refine AW.ret (ρ' := [(4, (.ptr n5 0))]) (H' := [(n5, (.mem (.ar 1 (x6.toList.map eU64))))]) ⟨rfl, trivial⟩ (Sub.refl _) ?_
    have hr := Option.some.inj h
    subst hr
    exact ⟨[(.ar 1 (x6.toList.map eU64))], ⟨⟨_, 0, rfl, rfl, ag27, (by rw [sz27]; simp [AV.size])⟩, trivial⟩, rfl⟩
end Go.Avl.TD
/- bosket/byteset.Full; printed by avmain.py. -/
namespace Go.Avl.TD
open Go Go.RowKit Go.Proofs Go.Avl
set_option linter.unusedVariables false
set_option maxRecDepth 100000
set_option maxHeartbeats 4000000
attribute [local irreducible] AW AO AQ Spec SpecH Calm

def byteset_Full (k : Nat) : Option (Vector Int 4) :=
  some ((vset (vset (vset (vset (Vector.replicate 4 (0 : Int)) (0 : Int) (18446744073709551615 : Int)) (1 : Int) (18446744073709551615 : Int)) (2 : Int) (18446744073709551615 : Int)) (3 : Int) (18446744073709551615 : Int)))
theorem byteset_Full_spec {k : Nat}  {r : (Vector Int 4)} (h : byteset_Full k = some r) : Spec Tryd.prog 27 [] (e27 r) := by
  rw [byteset_Full.eq_1] at h
  refine Spec.intro (res := [.cell 0 27]) Tryd.func27 rfl rfl rfl (Nat.le_of_ble_eq_true rfl) ?_
  refine AW.seq ?_
  refine AW.reg ?_
  refine AO.alloc rfl 0 rfl (by decide) rfl zr27 lay27 fun n1 => ?_
  refine AO.nil (ρ' := [(0, (.ptr n1 0))]) (H' := [(n1, (.mem (.ar 1 ((Vector.replicate 4 (0 : Int)).toList.map eU64))))]) ⟨rfl, trivial⟩ (Sub.refl _) ?_
  refine AW.seq ?_
  refine AW.reg ?_
  refine AO.calm rfl 1 rfl (by decide) (.ar 1 ((vset (vset (vset (vset (Vector.replicate 4 (0 : Int)) (0 : Int) (18446744073709551615 : Int)) (1 : Int) (18446744073709551615 : Int)) (2 : Int) (18446744073709551615 : Int)) (3 : Int) (18446744073709551615 : Int)).toList.map eU64)) (Calm.buildAr (qs := [(0, (eU64 (18446744073709551615 : Int))), (1, (eU64 (18446744073709551615 : Int))), (2, (eU64 (18446744073709551615 : Int))), (3, (eU64 (18446744073709551615 : Int)))]) rfl ⟨rfl, rfl, rfl, rfl, rfl, rfl, rfl, rfl, rfl, rfl, rfl, rfl, trivial⟩ Tryd.underlying27 sz25 zr27 lay27 (.cons rfl rfl rfl rfl (Put.cast (Put.vidx (0 : Int) (18446744073709551615 : Int) (by decide) (by decide) Put.here) rfl) (.cons rfl rfl rfl rfl (Put.cast (Put.vidx (1 : Int) (18446744073709551615 : Int) (by decide) (by decide) Put.here) rfl) (.cons rfl rfl rfl rfl (Put.cast (Put.vidx (2 : Int) (18446744073709551615 : Int) (by decide) (by decide) Put.here) rfl) (.cons rfl rfl rfl rfl (Put.cast (Put.vidx (3 : Int) (18446744073709551615 : Int) (by decide) (by decide) Put.here) rfl) .nil)))) rfl) ?_
  refine AO.store (X' := (.ar 1 ((vset (vset (vset (vset (Vector.replicate 4 (0 : Int)) (0 : Int) (18446744073709551615 : Int)) (1 : Int) (18446744073709551615 : Int)) (2 : Int) (18446744073709551615 : Int)) (3 : Int) (18446744073709551615 : Int)).toList.map eU64))) 0 rfl rfl rfl rfl rfl rfl (Put.cast Put.here rfl) rfl (by simp [AV.size]) (by rw [sz27]; simp [AV.size]) rfl ?_
  refine AO.nil (ρ' := [(0, (.ptr n1 0))]) (H' := [(n1, (.mem (.ar 1 ((vset (vset (vset (vset (Vector.replicate 4 (0 : Int)) (0 : Int) (18446744073709551615 : Int)) (1 : Int) (18446744073709551615 : Int)) (2 : Int) (18446744073709551615 : Int)) (3 : Int) (18446744073709551615 : Int)).toList.map eU64))))]) ⟨rfl, trivial⟩ (Sub.refl _) ?_
  refine AW.ret (ρ' := [(0, (.ptr n1 0))]) (H' := [(n1, (.mem (.ar 1 ((vset (vset (vset (vset (Vector.replicate 4 (0 : Int)) (0 : Int) (18446744073709551615 : Int)) (1 : Int) (18446744073709551615 : Int)) (2 : Int) (18446744073709551615 : Int)) (3 : Int) (18446744073709551615 : Int)).toList.map eU64))))]) ⟨rfl, trivial⟩ (Sub.refl _) ?_
  have hr := Option.some.inj h
  subst hr
  exact ⟨[(.ar 1 ((vset (vset (vset (vset (Vector.replicate 4 (0 : Int)) (0 : Int) (18446744073709551615 : Int)) (1 : Int) (18446744073709551615 : Int)) (2 : Int) (18446744073709551615 : Int)) (3 : Int) (18446744073709551615 : Int)).toList.map eU64))], ⟨⟨_, 0, rfl, rfl, ag27, (by rw [sz27]; simp [AV.size])⟩, trivial⟩, rfl⟩
end Go.Avl.TD
/- bosket/byteset.Not; printed by avmain.py. -/
namespace Go.Avl.TD
open Go Go.RowKit Go.Proofs Go.Avl
set_option linter.unusedVariables false
set_option maxRecDepth 100000
set_option maxHeartbeats 4000000
attribute [local irreducible] AW AO AQ Spec SpecH Calm

def byteset_Not (k : Nat) (p0 : (Vector Int 4)) : Option (Vector Int 4) :=
  (byteset_Full k).bind fun t4 =>
  (byteset_Less k t4 p0).bind fun t5 =>
  some (t5)
theorem byteset_Not_spec {k : Nat} {p0 : (Vector Int 4)} {r : (Vector Int 4)} (h : byteset_Not k p0 = some r) : Spec Tryd.prog 26 [(.ar 1 (p0.toList.map eU64))] (e27 r) := by
  rw [byteset_Not.eq_1] at h
  refine Spec.intro (res := [.cell 2 27]) Tryd.func26 rfl rfl rfl (Nat.le_of_ble_eq_true rfl) ?_
  refine AW.seq ?_
  refine AW.reg ?_
  refine AO.box rfl 1 rfl (by decide) rfl rfl rfl fun n2 => ?_
  refine AO.alloc rfl 2 rfl (by decide) rfl zr27 lay27 fun n3 => ?_
  refine AO.nil (ρ' := [(1, (.ptr n2 0)), (2, (.ptr n3 0))]) (H' := [(n2, (.mem (.ar 1 (p0.toList.map eU64)))), (n3, (.mem (.ar 1 ((Vector.replicate 4 (0 : Int)).toList.map eU64))))]) ⟨rfl, rfl, trivial⟩ (Sub.cons 1 rfl (Sub.cons 0 rfl (Sub.nil _))) ?_
  refine AW.seq ?_
  obtain ⟨t4, et4, h⟩ := of_bind h
  obtain ⟨t5, et5, h⟩ := of_bind h
  refine AW.regAnyL rfl rfl (by rfl) (by decide +kernel) (by decide +kernel) [(.ar 1 (t4.toList.map eU64)), (.ar 1 (p0.toList.map eU64)), (.ar 1 (t5.toList.map eU64))] [(1, (.ptr n2 0)), (2, (.ptr n3 0))] ⟨rfl, rfl, trivial⟩ rfl ?_ [(2, (.ptr n3 0)), (5, (.ar 1 (t5.toList.map eU64)))] ⟨rfl, rfl, trivial⟩ ?_
  · refine ⟨?_, ?_, ?_, trivial⟩
    · refine AO.weak (ρ' := []) (H' := [(n2, (.mem (.ar 1 (p0.toList.map eU64)))), (n3, (.mem (.ar 1 ((Vector.replicate 4 (0 : Int)).toList.map eU64))))]) trivial (Sub.refl _) ?_
      refine AO.callS [] (.ar 1 (t4.toList.map eU64)) 3 rfl (by decide) ok27 rfl rfl rfl trivial (byteset_Full_spec et4) ?_
      exact AO.nilE (ρ' := [(3, (.ar 1 (t4.toList.map eU64)))]) (H' := [(n2, (.mem (.ar 1 (p0.toList.map eU64)))), (n3, (.mem (.ar 1 ((Vector.replicate 4 (0 : Int)).toList.map eU64))))]) ⟨⟨_, rfl, rfl⟩, Sub.refl _⟩ ⟨rfl, trivial⟩ (Sub.refl _)
    · refine AO.weak (ρ' := [(1, (.ptr n2 0))]) (H' := [(n2, (.mem (.ar 1 (p0.toList.map eU64)))), (n3, (.mem (.ar 1 ((Vector.replicate 4 (0 : Int)).toList.map eU64))))]) ⟨rfl, trivial⟩ (Sub.refl _) ?_
      refine AO.calm rfl 4 rfl (by decide) (.ar 1 (p0.toList.map eU64)) (Calm.load 0 rfl rfl rfl (At.cast At.here rfl) ag27 (by rw [sz27]; simp [AV.size])) ?_
      exact AO.nilE (ρ' := [(4, (.ar 1 (p0.toList.map eU64)))]) (H' := [(n2, (.mem (.ar 1 (p0.toList.map eU64)))), (n3, (.mem (.ar 1 ((Vector.replicate 4 (0 : Int)).toList.map eU64))))]) ⟨⟨_, rfl, rfl⟩, Sub.refl _⟩ ⟨rfl, trivial⟩ (Sub.refl _)
    · refine AO.weak (ρ' := [(3, (.ar 1 (t4.toList.map eU64))), (4, (.ar 1 (p0.toList.map eU64)))]) (H' := [(n2, (.mem (.ar 1 (p0.toList.map eU64)))), (n3, (.mem (.ar 1 ((Vector.replicate 4 (0 : Int)).toList.map eU64))))]) ⟨rfl, rfl, trivial⟩ (Sub.refl _) ?_
      refine AO.callS [(.ar 1 (t4.toList.map eU64)), (.ar 1 (p0.toList.map eU64))] (.ar 1 (t5.toList.map eU64)) 5 rfl (by decide) ok25 rfl rfl rfl ⟨rfl, rfl, rfl, rfl, trivial⟩ (byteset_Less_spec et5) ?_
      exact AO.nilE (ρ' := [(5, (.ar 1 (t5.toList.map eU64)))]) (H' := [(n2, (.mem (.ar 1 (p0.toList.map eU64)))), (n3, (.mem (.ar 1 ((Vector.replicate 4 (0 : Int)).toList.map eU64))))]) ⟨⟨_, rfl, rfl⟩, Sub.refl _⟩ ⟨rfl, trivial⟩ (Sub.refl _)
  · refine AO.store (X' := (.ar 1 (t5.toList.map eU64))) 1 rfl rfl rfl rfl rfl rfl (Put.cast Put.here rfl) rfl (by simp [AV.size]) (by rw [sz27]; simp [AV.size]) rfl ?_
    refine AO.nil (ρ' := [(2, (.ptr n3 0))]) (H' := [(n3, (.mem (.ar 1 (t5.toList.map eU64))))]) ⟨rfl, trivial⟩ (Sub.cons 1 rfl (Sub.nil _)) ?_
    refine AW.ret (ρ' := [(2, (.ptr n3 0))]) (H' := [(n3, (.mem (.ar 1 (t5.toList.map eU64))))]) ⟨rfl, trivial⟩ (Sub.refl _) ?_
    have hr := Option.some.inj h
    subst hr
    exact ⟨[(.ar 1 (t5.toList.map eU64))], ⟨⟨_, 0, rfl, rfl, ag27, (by rw [sz27]; simp [AV.size])⟩, trivial⟩, rfl⟩
end Go.Avl.TD
/- bosket/byteset.Of; printed by avmain.py. -/
namespace Go.Avl.TD
open Go Go.RowKit Go.Proofs Go.Avl
set_option linter.unusedVariables false
set_option maxRecDepth 100000
set_option maxHeartbeats 4000000
attribute [local irreducible] AW AO AQ Spec SpecH Calm

def byteset_Of_c0 (k : Nat) (x4 : (Vector Int 4)) : Option (Vector Int 4) :=
  some (x4)
def byteset_Of_l1 (k : Nat) (p0 : (List Int)) : Nat → (Vector Int 4) → Int → Option (Vector Int 4)
  | 0, _, _ => none
  | j + 1, x5, x6 =>
    if x6 < (p0.length : Int) then if 0 ≤ x6 ∧ x6 < (p0.length : Int) then if 0 ≤ (IntKind.u8.wrap ((lget p0 x6).tdiv (64 : Int))) ∧ (IntKind.u8.wrap ((lget p0 x6).tdiv (64 : Int))) < (4 : Int) then if 0 ≤ ((lget p0 x6).tmod (64 : Int)) then if 0 ≤ (IntKind.u8.wrap ((lget p0 x6).tdiv (64 : Int))) ∧ (IntKind.u8.wrap ((lget p0 x6).tdiv (64 : Int))) < (4 : Int) then (byteset_Of_l1 k p0 j) (vset x5 (IntKind.u8.wrap ((lget p0 x6).tdiv (64 : Int))) (bits .or .u64 (vget x5 (IntKind.u8.wrap ((lget p0 x6).tdiv (64 : Int)))) (IntKind.u64.wrap ((1 : Int) * 2 ^ (min ((lget p0 x6).tmod (64 : Int)).toNat IntKind.u64.bits))))) (w64 (x6 + (1 : Int)))
    else none
    else none
    else none
    else none
    else byteset_Of_c0 k x5
def byteset_Of (k : Nat) (p0 : (List Int)) : Option (Vector Int 4) :=
  byteset_Of_l1 k p0 k (Vector.replicate 4 (0 : Int)) (0 : Int)
theorem byteset_Of_spec {k : Nat} {p0 : (List Int)} {r : (Vector Int 4)} (h : byteset_Of k p0 = some r) : Spec Tryd.prog 8 [(.fz 1 (p0.map eU8))] (e27 r) := by
  rw [byteset_Of.eq_1] at h
  refine Spec.intro (res := [.cell 2 27]) Tryd.func8 rfl rfl rfl (Nat.le_of_ble_eq_true rfl) ?_
  refine AW.seq ?_
  refine AW.reg ?_
  refine AO.alloc rfl 2 rfl (by decide) rfl zr27 lay27 fun n2 => ?_
  refine AO.nil (ρ' := [(0, (.fz 1 (p0.map eU8))), (2, (.ptr n2 0))]) (H' := [(n2, (.mem (.ar 1 ((Vector.replicate 4 (0 : Int)).toList.map eU64))))]) ⟨rfl, rfl, trivial⟩ (Sub.refl _) ?_
  refine AW.seq ?_
  refine AW.reg ?_
  refine AO.alloc rfl 3 rfl (by decide) rfl zr27 lay27 fun n3 => ?_
  refine AO.nil (ρ' := [(0, (.fz 1 (p0.map eU8))), (2, (.ptr n2 0)), (3, (.ptr n3 0))]) (H' := [(n2, (.mem (.ar 1 ((Vector.replicate 4 (0 : Int)).toList.map eU64)))), (n3, (.mem (.ar 1 ((Vector.replicate 4 (0 : Int)).toList.map eU64))))]) ⟨rfl, rfl, rfl, trivial⟩ (Sub.cons 1 rfl (Sub.cons 0 rfl (Sub.nil _))) ?_
  refine AW.seq_mid (fun ρ H => ∃ (x4 : (Vector Int 4)), ρ = [(2, (.ptr n2 0)), (3, (.ptr n3 0))] ∧ H = [(n2, (.mem (.ar 1 ((Vector.replicate 4 (0 : Int)).toList.map eU64)))), (n3, (.mem (.ar 1 (x4.toList.map eU64))))] ∧ byteset_Of_c0 k x4 = some r) ?_ ?_
  · refine AW.seq ?_
    refine AW.reg ?_
    refine AO.calm rfl 6 rfl (by decide) (.fz 1 (p0.map eU8)) (Calm.move rfl rfl) ?_
    refine AO.calm rfl 7 rfl (by decide) (eI64 (p0.length : Int)) (Calm.lenL rfl rfl Tryd.underlying22) ?_
    refine AO.calm rfl 8 rfl (by decide) (eI64 (0 : Int)) (Calm.move rfl rfl) ?_
    refine AO.nil (ρ' := [(2, (.ptr n2 0)), (3, (.ptr n3 0)), (6, (.fz 1 (p0.map eU8))), (7, (eI64 (p0.length : Int))), (8, (eI64 (0 : Int)))]) (H' := [(n2, (.mem (.ar 1 ((Vector.replicate 4 (0 : Int)).toList.map eU64)))), (n3, (.mem (.ar 1 ((Vector.replicate 4 (0 : Int)).toList.map eU64))))]) ⟨rfl, rfl, rfl, rfl, rfl, trivial⟩ (Sub.refl _) ?_
    refine AW.block ?_
    refine AW.weak (ρ' := [(2, (.ptr n2 0)), (3, (.ptr n3 0)), (6, (.fz 1 (p0.map eU8))), (7, (eI64 (p0.length : Int))), (8, (eI64 (0 : Int)))]) (H' := [(n2, (.mem (.ar 1 ((Vector.replicate 4 (0 : Int)).toList.map eU64)))), (n3, (.mem (.ar 1 ((Vector.replicate 4 (0 : Int)).toList.map eU64))))]) ⟨rfl, rfl, rfl, rfl, rfl, trivial⟩ (Sub.refl _) ?_
    refine AW.loop (fun kq ρ H => ∃ (x5 : (Vector Int 4)) (x6 : Int), ρ = [(2, (.ptr n2 0)), (3, (.ptr n3 0)), (6, (.fz 1 (p0.map eU8))), (7, (eI64 (p0.length : Int))), (8, (eI64 x6))] ∧ H = [(n2, (.mem (.ar 1 ((Vector.replicate 4 (0 : Int)).toList.map eU64)))), (n3, (.mem (.ar 1 (x5.toList.map eU64))))] ∧ byteset_Of_l1 k p0 kq x5 x6 = some r) k ⟨(Vector.replicate 4 (0 : Int)), (0 : Int), rfl, rfl, h⟩ ?_
    rintro kq8 _ _ ⟨x5, x6, rfl, rfl, h⟩
    cases kq8 with
    | zero => rw [byteset_Of_l1.eq_1] at h; cases h
    | succ kq8 =>
    rw [byteset_Of_l1.eq_2] at h
    generalize hrec7 : byteset_Of_l1 k p0 kq8 = rec7 at h
    refine AW.seq ?_
    refine AW.reg ?_
    refine AO.calm rfl 9 rfl (by decide) (eBool (decide (x6 < (p0.length : Int)))) (Calm.int rfl rfl rfl rfl) ?_
    refine AO.nil (ρ' := [(2, (.ptr n2 0)), (3, (.ptr n3 0)), (6, (.fz 1 (p0.map eU8))), (7, (eI64 (p0.length : Int))), (8, (eI64 x6)), (9, (eBool (decide (x6 < (p0.length : Int)))))]) (H' := [(n2, (.mem (.ar 1 ((Vector.replicate 4 (0 : Int)).toList.map eU64)))), (n3, (.mem (.ar 1 (x5.toList.map eU64))))]) ⟨rfl, rfl, rfl, rfl, rfl, rfl, trivial⟩ (Sub.refl _) ?_
    refine AW.seq ?_
    by_cases hc9 : x6 < (p0.length : Int)
    · have h := (if_pos hc9).symm.trans h
      refine AW.condP (x6 < (p0.length : Int)) rfl hc9 ?_
      refine AW.skip (ρ' := [(2, (.ptr n2 0)), (3, (.ptr n3 0)), (6, (.fz 1 (p0.map eU8))), (7, (eI64 (p0.length : Int))), (8, (eI64 x6))]) (H' := [(n2, (.mem (.ar 1 ((Vector.replicate 4 (0 : Int)).toList.map eU64)))), (n3, (.mem (.ar 1 (x5.toList.map eU64))))]) ⟨rfl, rfl, rfl, rfl, rfl, trivial⟩ (Sub.refl _) ?_
      refine AW.seq ?_
      refine AW.block ?_
      refine AW.seq ?_
      refine AW.reg ?_
      obtain ⟨hg10, h⟩ := of_guard h
      refine AO.calm rfl 10 rfl (by decide) (.rp (eU8 (lget p0 x6))) (Calm.idxL (f := eU8) rfl rfl rfl hg10 Tryd.underlying22 sz5) ?_
      refine AO.calm rfl 11 rfl (by decide) (eU8 (lget p0 x6)) (Calm.loadRp rfl rfl ag5 sz5) ?_
      refine AO.calm rfl 5 rfl (by decide) (eU8 (lget p0 x6)) (Calm.assign rfl rfl) ?_
      refine AO.nil (ρ' := [(2, (.ptr n2 0)), (3, (.ptr n3 0)), (5, (eU8 (lget p0 x6))), (6, (.fz 1 (p0.map eU8))), (7, (eI64 (p0.length : Int))), (8, (eI64 x6))]) (H' := [(n2, (.mem (.ar 1 ((Vector.replicate 4 (0 : Int)).toList.map eU64)))), (n3, (.mem (.ar 1 (x5.toList.map eU64))))]) ⟨rfl, rfl, rfl, rfl, rfl, rfl, trivial⟩ (Sub.refl _) ?_
      refine AW.reg ?_
      refine AO.calm rfl 12 rfl (by decide) (eU8 (lget p0 x6)) (Calm.move rfl rfl) ?_
      refine AO.calm rfl 13 rfl (by decide) (eU8 (IntKind.u8.wrap ((lget p0 x6).tdiv (64 : Int)))) (Calm.quo rfl rfl rfl (by decide)) ?_
      obtain ⟨hg11, h⟩ := of_guard h
      refine AO.calm rfl 14 rfl (by decide) (.ptr n3 (0 + (IntKind.u8.wrap ((lget p0 x6).tdiv (64 : Int))).toNat * 1)) (Calm.idxP rfl rfl rfl hg11 Tryd.underlying27 sz25) ?_
      refine AO.calm rfl 15 rfl (by decide) (eU64 (vget x5 (IntKind.u8.wrap ((lget p0 x6).tdiv (64 : Int))))) (Calm.load 1 rfl rfl rfl (At.cast (At.vidx (IntKind.u8.wrap ((lget p0 x6).tdiv (64 : Int))) hg11.1 hg11.2 At.here) (by omega)) ag25 sz25) ?_
      refine AO.calm rfl 16 rfl (by decide) (eU8 (lget p0 x6)) (Calm.move rfl rfl) ?_
      refine AO.calm rfl 17 rfl (by decide) (eU8 ((lget p0 x6).tmod (64 : Int))) (Calm.rem rfl rfl rfl (by decide)) ?_
      obtain ⟨hg12, h⟩ := of_guard h
      refine AO.calm rfl 18 rfl (by decide) (eU64 (IntKind.u64.wrap ((1 : Int) * 2 ^ (min ((lget p0 x6).tmod (64 : Int)).toNat IntKind.u64.bits)))) (Calm.shl rfl rfl rfl hg12) ?_
      refine AO.calm rfl 19 rfl (by decide) (eU64 (bits .or .u64 (vget x5 (IntKind.u8.wrap ((lget p0 x6).tdiv (64 : Int)))) (IntKind.u64.wrap ((1 : Int) * 2 ^ (min ((lget p0 x6).tmod (64 : Int)).toNat IntKind.u64.bits))))) (Calm.int rfl rfl rfl rfl) ?_
      obtain ⟨hg13, h⟩ := of_guard h
      refine AO.calm rfl 20 rfl (by decide) (.ptr n3 (0 + (IntKind.u8.wrap ((lget p0 x6).tdiv (64 : Int))).toNat * 1)) (Calm.idxP rfl rfl rfl hg13 Tryd.underlying27 sz25) ?_
      refine AO.store (X' := (.ar 1 ((vset x5 (IntKind.u8.wrap ((lget p0 x6).tdiv (64 : Int))) (bits .or .u64 (vget x5 (IntKind.u8.wrap ((lget p0 x6).tdiv (64 : Int)))) (IntKind.u64.wrap ((1 : Int) * 2 ^ (min ((lget p0 x6).tmod (64 : Int)).toNat IntKind.u64.bits))))).toList.map eU64))) 1 rfl rfl rfl rfl rfl rfl (Put.cast (Put.vidx (IntKind.u8.wrap ((lget p0 x6).tdiv (64 : Int))) (bits .or .u64 (vget x5 (IntKind.u8.wrap ((lget p0 x6).tdiv (64 : Int)))) (IntKind.u64.wrap ((1 : Int) * 2 ^ (min ((lget p0 x6).tmod (64 : Int)).toNat IntKind.u64.bits)))) hg13.1 hg13.2 Put.here) (by omega)) rfl rfl sz25 rfl ?_
      refine AO.nil (ρ' := [(2, (.ptr n2 0)), (3, (.ptr n3 0)), (6, (.fz 1 (p0.map eU8))), (7, (eI64 (p0.length : Int))), (8, (eI64 x6))]) (H' := [(n2, (.mem (.ar 1 ((Vector.replicate 4 (0 : Int)).toList.map eU64)))), (n3, (.mem (.ar 1 ((vset x5 (IntKind.u8.wrap ((lget p0 x6).tdiv (64 : Int))) (bits .or .u64 (vget x5 (IntKind.u8.wrap ((lget p0 x6).tdiv (64 : Int)))) (IntKind.u64.wrap ((1 : Int) * 2 ^ (min ((lget p0 x6).tmod (64 : Int)).toNat IntKind.u64.bits))))).toList.map eU64))))]) ⟨rfl, rfl, rfl, rfl, rfl, trivial⟩ (Sub.refl _) ?_
      refine AW.reg ?_
      refine AO.calm rfl 21 rfl (by decide) (eI64 (w64 (x6 + (1 : Int)))) (Calm.int rfl rfl rfl rfl) ?_
      refine AO.calm rfl 8 rfl (by decide) (eI64 (w64 (x6 + (1 : Int)))) (Calm.move rfl rfl) ?_
      refine AO.nil (ρ' := [(2, (.ptr n2 0)), (3, (.ptr n3 0)), (6, (.fz 1 (p0.map eU8))), (7, (eI64 (p0.length : Int))), (8, (eI64 (w64 (x6 + (1 : Int)))))]) (H' := [(n2, (.mem (.ar 1 ((Vector.replicate 4 (0 : Int)).toList.map eU64)))), (n3, (.mem (.ar 1 ((vset x5 (IntKind.u8.wrap ((lget p0 x6).tdiv (64 : Int))) (bits .or .u64 (vget x5 (IntKind.u8.wrap ((lget p0 x6).tdiv (64 : Int)))) (IntKind.u64.wrap ((1 : Int) * 2 ^ (min ((lget p0 x6).tmod (64 : Int)).toNat IntKind.u64.bits))))).toList.map eU64))))]) ⟨rfl, rfl, rfl, rfl, rfl, trivial⟩ (Sub.refl _) ?_
      exact ⟨kq8, Nat.lt_succ_self _, (vset x5 (IntKind.u8.wrap ((lget p0 x6).tdiv (64 : Int))) (bits .or .u64 (vget x5 (IntKind.u8.wrap ((lget p0 x6).tdiv (64 : Int)))) (IntKind.u64.wrap ((1 : Int) * 2 ^ (min ((lget p0 x6).tmod (64 : Int)).toNat IntKind.u64.bits))))), (w64 (x6 + (1 : Int))), rfl, rfl, by rw [hrec7]; exact h⟩
    · have h := (if_neg hc9).symm.trans h
      refine AW.condN (x6 < (p0.length : Int)) rfl hc9 ?_
      refine AW.exit (ρ' := [(2, (.ptr n2 0)), (3, (.ptr n3 0))]) (H' := [(n2, (.mem (.ar 1 ((Vector.replicate 4 (0 : Int)).toList.map eU64)))), (n3, (.mem (.ar 1 (x5.toList.map eU64))))]) ⟨rfl, rfl, trivial⟩ (Sub.refl _) ?_
      exact ⟨x5, rfl, rfl, h⟩
  · rintro _ _ ⟨x4, rfl, rfl, h⟩
    rw [byteset_Of_c0.eq_1] at h
    refine AW.seq ?_
    refine AW.reg ?_
    refine AO.calm rfl 22 rfl (by decide) (.ar 1 (x4.toList.map eU64)) (Calm.load 1 rfl rfl rfl (At.cast At.here rfl) ag27 (by rw [sz27]; simp [AV.size])) ?_
    refine AO.store (X' := (.ar 1 (x4.toList.map eU64))) 0 rfl rfl rfl rfl rfl rfl (Put.cast Put.here rfl) rfl (by simp [AV.size]) (by rw [sz27]; simp [AV.size]) rfl ?_
    refine AO.nil (ρ' := [(2, (.ptr n2 0))]) (H' := [(n2, (.mem (.ar 1 (x4.toList.map eU64))))]) ⟨rfl, trivial⟩ (Sub.cons 0 rfl (Sub.nil _)) ?_
    refine AW.ret (ρ' := [(2, (.ptr n2 0))]) (H' := [(n2, (.mem (.ar 1 (x4.toList.map eU64))))]) ⟨rfl, trivial⟩ (Sub.refl _) ?_
    have hr := Option.some.inj h
    subst hr
    exact ⟨[(.ar 1 (x4.toList.map eU64))], ⟨⟨_, 0, rfl, rfl, ag27, (by rw [sz27]; simp [AV.size])⟩, trivial⟩, rfl⟩
end Go.Avl.TD
/- bosket/byteset.Spans; printed by avmain.py. -/
namespace Go.Avl.TD
open Go Go.RowKit Go.Proofs Go.Avl
set_option linter.unusedVariables false
set_option maxRecDepth 100000
set_option maxHeartbeats 4000000
attribute [local irreducible] AW AO AQ Spec SpecH Calm

def byteset_Spans_c0 (k : Nat) (x4 : (List S35)) : Option (List S35) :=
  some (x4)
def byteset_Spans_c1 (k : Nat) (rec9 : ((List S35) → Int → Option (List S35))) (x8 : Int) (x13 : (List S35)) : Option (List S35) :=
  rec9 x13 (w64 (x8 + (1 : Int)))
def byteset_Spans_l2 (k : Nat) (t5 : (List Int)) : Nat → (List S35) → Int → Option (List S35)
  | 0, _, _ => none
  | j + 1, x7, x8 =>
    if x8 < (t5.length : Int) then if 0 ≤ x8 ∧ x8 < (t5.length : Int) then Option.bind (α := Bool) (if (0 : Int) < (x7.length : Int) then if 0 ≤ (w64 ((x7.length : Int) - (1 : Int))) ∧ (w64 ((x7.length : Int) - (1 : Int))) < (x7.length : Int) then some (decide ((w64 ((w64 ((lget x7 (w64 ((x7.length : Int) - (1 : Int)))).f1)) + (1 : Int))) = (w64 (lget t5 x8))))
    else none
    else some (false)) fun b15 =>
    if b15 = true then if 0 ≤ (w64 ((x7.length : Int) - (1 : Int))) ∧ (w64 ((x7.length : Int) - (1 : Int))) < (x7.length : Int) then byteset_Spans_c1 k (byteset_Spans_l2 k t5 j) x8 (lset x7 (w64 ((x7.length : Int) - (1 : Int))) (S35.mk ((lget x7 (w64 ((x7.length : Int) - (1 : Int)))).f0) (lget t5 x8)))
    else none
    else if (x7 ++ ([(S35.mk (lget t5 x8) (lget t5 x8))] : List S35)).length * 2 ≤ 140737488355328 then byteset_Spans_c1 k (byteset_Spans_l2 k t5 j) x8 (x7 ++ ([(S35.mk (lget t5 x8) (lget t5 x8))] : List S35))
    else none
    else none
    else byteset_Spans_c0 k x7
def byteset_Spans (k : Nat) (p0 : (Vector Int 4)) : Option (List S35) :=
  (byteset_List k p0).bind fun t5 =>
  byteset_Spans_l2 k t5 k ([] : List S35) (0 : Int)
theorem byteset_Spans_spec {k : Nat} {p0 : (Vector Int 4)} {r : (List S35)} (h : byteset_Spans k p0 = some r) : Spec Tryd.prog 11 [(.ar 1 (p0.toList.map eU64))] (e32 r) := by
  rw [byteset_Spans.eq_1] at h
  refine Spec.intro (res := [.tmp 2]) Tryd.func11 rfl rfl rfl (Nat.le_of_ble_eq_true rfl) ?_
  refine AW.seq ?_
  refine AW.reg ?_
  refine AO.box rfl 1 rfl (by decide) rfl rfl rfl fun n2 => ?_
  refine AO.calm rfl 2 rfl (by decide) (.fl (.slice none 0 0)) (Calm.assign rfl rfl) ?_
  refine AO.nil (ρ' := [(1, (.ptr n2 0))]) (H' := [(n2, (.mem (.ar 1 (p0.toList.map eU64))))]) ⟨rfl, trivial⟩ (Sub.refl _) ?_
  refine AW.seq ?_
  refine AW.reg ?_
  refine AO.calm rfl 3 rfl (by decide) (.fl (.slice none 0 0)) (Calm.assign rfl rfl) ?_
  refine AO.nil (ρ' := [(1, (.ptr n2 0)), (3, (.fl (.slice none 0 0)))]) (H' := [(n2, (.mem (.ar 1 (p0.toList.map eU64))))]) ⟨rfl, rfl, trivial⟩ (Sub.refl _) ?_
  refine AW.seq_mid (fun ρ H => ∃ (n3 : Nat) (x4 : (List S35)), ρ = [(3, (.own n3 0 x4.length))] ∧ H = [(n3, (.mem (.ar 2 (x4.map e35))))] ∧ byteset_Spans_c0 k x4 = some r) ?_ ?_
  · refine AW.seq ?_
    refine AW.reg ?_
    refine AO.calm rfl 7 rfl (by decide) (.ar 1 (p0.toList.map eU64)) (Calm.load 0 rfl rfl rfl (At.cast At.here rfl) ag27 (by rw [sz27]; simp [AV.size])) ?_
    obtain ⟨t5, et5, h⟩ := of_bind h
    refine AO.callS [(.ar 1 (p0.toList.map eU64))] (.fz 1 (t5.map eU8)) 8 rfl (by decide) ok17 rfl rfl rfl ⟨rfl, rfl, trivial⟩ (byteset_List_spec et5) ?_
    refine AO.calm rfl 9 rfl (by decide) (eI64 (t5.length : Int)) (Calm.lenL rfl rfl Tryd.underlying22) ?_
    refine AO.calm rfl 10 rfl (by decide) (eI64 (0 : Int)) (Calm.move rfl rfl) ?_
    refine AO.nil (ρ' := [(3, (.fl (.slice none 0 0))), (8, (.fz 1 (t5.map eU8))), (9, (eI64 (t5.length : Int))), (10, (eI64 (0 : Int)))]) (H' := []) ⟨rfl, rfl, rfl, rfl, trivial⟩ (Sub.nil _) ?_
    refine AW.block ?_
    refine AW.nilOwn 3 2 rfl fun n24 => ?_
    refine AW.weak (ρ' := [(3, (.own n24 0 ([] : List S35).length)), (8, (.fz 1 (t5.map eU8))), (9, (eI64 (t5.length : Int))), (10, (eI64 (0 : Int)))]) (H' := [(n24, (.mem (.ar 2 (([] : List S35).map e35))))]) ⟨rfl, rfl, rfl, rfl, trivial⟩ (Sub.refl _) ?_
    refine AW.loop (fun kq ρ H => ∃ (n6 : Nat) (x7 : (List S35)) (x8 : Int), ρ = [(3, (.own n6 0 x7.length)), (8, (.fz 1 (t5.map eU8))), (9, (eI64 (t5.length : Int))), (10, (eI64 x8))] ∧ H = [(n6, (.mem (.ar 2 (x7.map e35))))] ∧ byteset_Spans_l2 k t5 kq x7 x8 = some r) k ⟨n24, ([] : List S35), (0 : Int), rfl, rfl, h⟩ ?_
    rintro kq10 _ _ ⟨n6, x7, x8, rfl, rfl, h⟩
    cases kq10 with
    | zero => rw [byteset_Spans_l2.eq_1] at h; cases h
    | succ kq10 =>
    rw [byteset_Spans_l2.eq_2] at h
    generalize hrec9 : byteset_Spans_l2 k t5 kq10 = rec9 at h
    refine AW.seq ?_
    refine AW.reg ?_
    refine AO.calm rfl 11 rfl (by decide) (eBool (decide (x8 < (t5.length : Int)))) (Calm.int rfl rfl rfl rfl) ?_
    refine AO.nil (ρ' := [(3, (.own n6 0 x7.length)), (8, (.fz 1 (t5.map eU8))), (9, (eI64 (t5.length : Int))), (10, (eI64 x8)), (11, (eBool (decide (x8 < (t5.length : Int)))))]) (H' := [(n6, (.mem (.ar 2 (x7.map e35))))]) ⟨rfl, rfl, rfl, rfl, rfl, trivial⟩ (Sub.refl _) ?_
    refine AW.seq ?_
    by_cases hc11 : x8 < (t5.length : Int)
    · have h := (if_pos hc11).symm.trans h
      refine AW.condP (x8 < (t5.length : Int)) rfl hc11 ?_
      refine AW.skip (ρ' := [(3, (.own n6 0 x7.length)), (8, (.fz 1 (t5.map eU8))), (9, (eI64 (t5.length : Int))), (10, (eI64 x8))]) (H' := [(n6, (.mem (.ar 2 (x7.map e35))))]) ⟨rfl, rfl, rfl, rfl, trivial⟩ (Sub.refl _) ?_
      refine AW.seq_mid (fun ρ H => ∃ (n12 : Nat) (x13 : (List S35)), ρ = [(3, (.own n12 0 x13.length)), (8, (.fz 1 (t5.map eU8))), (9, (eI64 (t5.length : Int))), (10, (eI64 x8))] ∧ H = [(n12, (.mem (.ar 2 (x13.map e35))))] ∧ byteset_Spans_c1 k rec9 x8 x13 = some r) ?_ ?_
      · refine AW.block ?_
        refine AW.seq ?_
        refine AW.reg ?_
        obtain ⟨hg14, h⟩ := of_guard h
        refine AO.calm rfl 12 rfl (by decide) (.rp (eU8 (lget t5 x8))) (Calm.idxL (f := eU8) rfl rfl rfl hg14 Tryd.underlying22 sz5) ?_
        refine AO.calm rfl 13 rfl (by decide) (eU8 (lget t5 x8)) (Calm.loadRp rfl rfl ag5 sz5) ?_
        refine AO.calm rfl 5 rfl (by decide) (eU8 (lget t5 x8)) (Calm.assign rfl rfl) ?_
        refine AO.nil (ρ' := [(3, (.own n6 0 x7.length)), (5, (eU8 (lget t5 x8))), (8, (.fz 1 (t5.map eU8))), (9, (eI64 (t5.length : Int))), (10, (eI64 x8))]) (H' := [(n6, (.mem (.ar 2 (x7.map e35))))]) ⟨rfl, rfl, rfl, rfl, rfl, trivial⟩ (Sub.refl _) ?_
        refine AW.seq ?_
        refine AW.seq ?_
        refine AW.reg ?_
        refine AO.calm rfl 14 rfl (by decide) (.own n6 0 x7.length) (Calm.move rfl rfl) ?_
        refine AO.calm rfl 15 rfl (by decide) (eI64 (x7.length : Int)) (Calm.lenOwn rfl rfl Tryd.underlying32) ?_
        refine AO.calm rfl 6 rfl (by decide) (eI64 (x7.length : Int)) (Calm.assign rfl rfl) ?_
        refine AO.nil (ρ' := [(3, (.own n6 0 x7.length)), (5, (eU8 (lget t5 x8))), (6, (eI64 (x7.length : Int))), (8, (.fz 1 (t5.map eU8))), (9, (eI64 (t5.length : Int))), (10, (eI64 x8))]) (H' := [(n6, (.mem (.ar 2 (x7.map e35))))]) ⟨rfl, rfl, rfl, rfl, rfl, rfl, trivial⟩ (Sub.refl _) ?_
        refine AW.seq ?_
        obtain ⟨b15, hq16, h⟩ := of_bind h
        refine AW.regM [(3, (.own n6 0 x7.length)), (5, (eU8 (lget t5 x8))), (6, (eI64 (x7.length : Int))), (8, (.fz 1 (t5.map eU8))), (9, (eI64 (t5.length : Int))), (10, (eI64 x8)), (30, (eBool b15))] [(n6, (.mem (.ar 2 (x7.map e35))))] ?_ ?_
        · refine AO.calm rfl 16 rfl (by decide) (eI64 (x7.length : Int)) (Calm.move rfl rfl) ?_
          refine AO.calm rfl 17 rfl (by decide) (eBool (decide ((0 : Int) < (x7.length : Int)))) (Calm.int rfl rfl rfl rfl) ?_
          refine AO.calm rfl 18 rfl (by decide) (eBool (decide ((0 : Int) < (x7.length : Int)))) (Calm.move rfl rfl) ?_
          by_cases hc17 : (0 : Int) < (x7.length : Int)
          · have hq16 := (if_pos hc17).symm.trans hq16
            refine AO.calmG 2 true 18 rfl rfl (congrArg (fun b => some (AV.fl (Value.bool b))) (decide_eq_true hc17)) 19 rfl (by decide) (.own n6 0 x7.length) (Calm.move rfl rfl) ?_
            refine AO.calmG 2 true 18 rfl rfl (congrArg (fun b => some (AV.fl (Value.bool b))) (decide_eq_true hc17)) 20 rfl (by decide) (eI64 (x7.length : Int)) (Calm.move rfl rfl) ?_
            refine AO.calmG 2 true 18 rfl rfl (congrArg (fun b => some (AV.fl (Value.bool b))) (decide_eq_true hc17)) 21 rfl (by decide) (eI64 (w64 ((x7.length : Int) - (1 : Int)))) (Calm.int rfl rfl rfl rfl) ?_
            obtain ⟨hg18, hq16⟩ := of_guard hq16
            refine AO.calmG 2 true 18 rfl rfl (congrArg (fun b => some (AV.fl (Value.bool b))) (decide_eq_true hc17)) 22 rfl (by decide) (.ptr n6 ((w64 ((x7.length : Int) - (1 : Int))).toNat * 2 + 0)) (Calm.idxO 0 rfl rfl rfl rfl hg18 Tryd.underlying32 sz35) ?_
            refine AO.calmG 2 true 18 rfl rfl (congrArg (fun b => some (AV.fl (Value.bool b))) (decide_eq_true hc17)) 23 rfl (by decide) (.ptr n6 ((w64 ((x7.length : Int) - (1 : Int))).toNat * 2 + 0 + 1)) (Calm.fldPtr rfl rfl Tryd.underlying35 rfl sz5 _ rfl) ?_
            refine AO.calmG 2 true 18 rfl rfl (congrArg (fun b => some (AV.fl (Value.bool b))) (decide_eq_true hc17)) 24 rfl (by decide) (eU8 ((lget x7 (w64 ((x7.length : Int) - (1 : Int)))).f1)) (Calm.load 0 rfl rfl rfl (At.cast (At.lidx (w64 ((x7.length : Int) - (1 : Int))) hg18.1 hg18.2 (At.fldS (At.fld0 At.here))) (by omega)) ag5 sz5) ?_
            refine AO.calmG 2 true 18 rfl rfl (congrArg (fun b => some (AV.fl (Value.bool b))) (decide_eq_true hc17)) 25 rfl (by decide) (eI64 (w64 ((lget x7 (w64 ((x7.length : Int) - (1 : Int)))).f1))) (Calm.conv rfl rfl Tryd.underlying5 Tryd.underlying3) ?_
            refine AO.calmG 2 true 18 rfl rfl (congrArg (fun b => some (AV.fl (Value.bool b))) (decide_eq_true hc17)) 26 rfl (by decide) (eI64 (w64 ((w64 ((lget x7 (w64 ((x7.length : Int) - (1 : Int)))).f1)) + (1 : Int)))) (Calm.int rfl rfl rfl rfl) ?_
            refine AO.calmG 2 true 18 rfl rfl (congrArg (fun b => some (AV.fl (Value.bool b))) (decide_eq_true hc17)) 27 rfl (by decide) (eU8 (lget t5 x8)) (Calm.move rfl rfl) ?_
            refine AO.calmG 2 true 18 rfl rfl (congrArg (fun b => some (AV.fl (Value.bool b))) (decide_eq_true hc17)) 28 rfl (by decide) (eI64 (w64 (lget t5 x8))) (Calm.conv rfl rfl Tryd.underlying5 Tryd.underlying3) ?_
            refine AO.calmG 2 true 18 rfl rfl (congrArg (fun b => some (AV.fl (Value.bool b))) (decide_eq_true hc17)) 29 rfl (by decide) (eBool (decide ((w64 ((w64 ((lget x7 (w64 ((x7.length : Int) - (1 : Int)))).f1)) + (1 : Int))) = (w64 (lget t5 x8))))) (Calm.int rfl rfl rfl rfl) ?_
            refine AO.calm rfl 30 rfl (by decide) (eBool (decide ((w64 ((w64 ((lget x7 (w64 ((x7.length : Int) - (1 : Int)))).f1)) + (1 : Int))) = (w64 (lget t5 x8))))) (Calm.pickT rfl (congrArg (fun b => some (AV.fl (Value.bool b))) (decide_eq_true hc17)) rfl) ?_
            cases hq16
            refine AO.nilE ⟨rfl, rfl⟩ ?_ ?_
            · exact ⟨rfl, rfl, rfl, rfl, rfl, rfl, rfl, trivial⟩
            · exact (Sub.refl _)
          · have hq16 := (if_neg hc17).symm.trans hq16
            refine AO.skipG 2 false 18 rfl rfl (congrArg (fun b => some (AV.fl (Value.bool b))) (decide_eq_false hc17)) 19 rfl (by decide) ?_
            refine AO.skipG 2 false 18 rfl rfl (congrArg (fun b => some (AV.fl (Value.bool b))) (decide_eq_false hc17)) 20 rfl (by decide) ?_
            refine AO.skipG 2 false 18 rfl rfl (congrArg (fun b => some (AV.fl (Value.bool b))) (decide_eq_false hc17)) 21 rfl (by decide) ?_
            refine AO.skipG 2 false 18 rfl rfl (congrArg (fun b => some (AV.fl (Value.bool b))) (decide_eq_false hc17)) 22 rfl (by decide) ?_
            refine AO.skipG 2 false 18 rfl rfl (congrArg (fun b => some (AV.fl (Value.bool b))) (decide_eq_false hc17)) 23 rfl (by decide) ?_
            refine AO.skipG 2 false 18 rfl rfl (congrArg (fun b => some (AV.fl (Value.bool b))) (decide_eq_false hc17)) 24 rfl (by decide) ?_
            refine AO.skipG 2 false 18 rfl rfl (congrArg (fun b => some (AV.fl (Value.bool b))) (decide_eq_false hc17)) 25 rfl (by decide) ?_
            refine AO.skipG 2 false 18 rfl rfl (congrArg (fun b => some (AV.fl (Value.bool b))) (decide_eq_false hc17)) 26 rfl (by decide) ?_
            refine AO.skipG 2 false 18 rfl rfl (congrArg (fun b => some (AV.fl (Value.bool b))) (decide_eq_false hc17)) 27 rfl (by decide) ?_
            refine AO.skipG 2 false 18 rfl rfl (congrArg (fun b => some (AV.fl (Value.bool b))) (decide_eq_false hc17)) 28 rfl (by decide) ?_
            refine AO.skipG 2 false 18 rfl rfl (congrArg (fun b => some (AV.fl (Value.bool b))) (decide_eq_false hc17)) 29 rfl (by decide) ?_
            refine AO.calm rfl 30 rfl (by decide) (eBool false) (Calm.pickF rfl (congrArg (fun b => some (AV.fl (Value.bool b))) (decide_eq_false hc17)) rfl) ?_
            cases hq16
            refine AO.nilE ⟨rfl, rfl⟩ ?_ ?_
            · exact ⟨rfl, rfl, rfl, rfl, rfl, rfl, rfl, trivial⟩
            · exact (Sub.refl _)
        · by_cases hc19 : b15 = true
          · have h := (if_pos hc19).symm.trans h
            refine AW.condT' b15 rfl hc19 ?_
            refine AW.seq ?_
            refine AW.reg ?_
            refine AO.calm rfl 31 rfl (by decide) (.own n6 0 x7.length) (Calm.move rfl rfl) ?_
            refine AO.calm rfl 32 rfl (by decide) (eI64 (x7.length : Int)) (Calm.move rfl rfl) ?_
            refine AO.calm rfl 33 rfl (by decide) (eI64 (w64 ((x7.length : Int) - (1 : Int)))) (Calm.int rfl rfl rfl rfl) ?_
            refine AO.calm rfl 34 rfl (by decide) (eU8 (lget t5 x8)) (Calm.move rfl rfl) ?_
            obtain ⟨hg20, h⟩ := of_guard h
            refine AO.calm rfl 35 rfl (by decide) (.ptr n6 ((w64 ((x7.length : Int) - (1 : Int))).toNat * 2 + 0)) (Calm.idxO 0 rfl rfl rfl rfl hg20 Tryd.underlying32 sz35) ?_
            refine AO.calm rfl 36 rfl (by decide) (.ptr n6 ((w64 ((x7.length : Int) - (1 : Int))).toNat * 2 + 0 + 1)) (Calm.fldPtr rfl rfl Tryd.underlying35 rfl sz5 _ rfl) ?_
            refine AO.store (X' := (.ar 2 ((lset x7 (w64 ((x7.length : Int) - (1 : Int))) (S35.mk ((lget x7 (w64 ((x7.length : Int) - (1 : Int)))).f0) (lget t5 x8))).map e35))) 0 rfl rfl rfl rfl rfl rfl (Put.cast (Put.lidx (w64 ((x7.length : Int) - (1 : Int))) (S35.mk ((lget x7 (w64 ((x7.length : Int) - (1 : Int)))).f0) (lget t5 x8)) hg20.1 hg20.2 (Put.fldS (Put.fld0 Put.here))) (by omega)) rfl rfl sz5 rfl ?_
            refine AO.coe 3 (y' := (.own n6 0 (lset x7 (w64 ((x7.length : Int) - (1 : Int))) (S35.mk ((lget x7 (w64 ((x7.length : Int) - (1 : Int)))).f0) (lget t5 x8))).length)) rfl (fun _ _ h => lset_own h) ?_
            refine AO.coe 31 (y' := (.own n6 0 (lset x7 (w64 ((x7.length : Int) - (1 : Int))) (S35.mk ((lget x7 (w64 ((x7.length : Int) - (1 : Int)))).f0) (lget t5 x8))).length)) rfl (fun _ _ h => lset_own h) ?_
            refine AO.nil (ρ' := [(3, (.own n6 0 (lset x7 (w64 ((x7.length : Int) - (1 : Int))) (S35.mk ((lget x7 (w64 ((x7.length : Int) - (1 : Int)))).f0) (lget t5 x8))).length)), (8, (.fz 1 (t5.map eU8))), (9, (eI64 (t5.length : Int))), (10, (eI64 x8))]) (H' := [(n6, (.mem (.ar 2 ((lset x7 (w64 ((x7.length : Int) - (1 : Int))) (S35.mk ((lget x7 (w64 ((x7.length : Int) - (1 : Int)))).f0) (lget t5 x8))).map e35))))]) ⟨rfl, rfl, rfl, rfl, trivial⟩ (Sub.refl _) ?_
            refine AW.exit (ρ' := [(3, (.own n6 0 (lset x7 (w64 ((x7.length : Int) - (1 : Int))) (S35.mk ((lget x7 (w64 ((x7.length : Int) - (1 : Int)))).f0) (lget t5 x8))).length)), (8, (.fz 1 (t5.map eU8))), (9, (eI64 (t5.length : Int))), (10, (eI64 x8))]) (H' := [(n6, (.mem (.ar 2 ((lset x7 (w64 ((x7.length : Int) - (1 : Int))) (S35.mk ((lget x7 (w64 ((x7.length : Int) - (1 : Int)))).f0) (lget t5 x8))).map e35))))]) ⟨rfl, rfl, rfl, rfl, trivial⟩ (Sub.refl _) ?_
            exact ⟨n6, (lset x7 (w64 ((x7.length : Int) - (1 : Int))) (S35.mk ((lget x7 (w64 ((x7.length : Int) - (1 : Int)))).f0) (lget t5 x8))), rfl, rfl, h⟩
          · have h := (if_neg hc19).symm.trans h
            refine AW.condF' b15 rfl hc19 ?_
            refine AW.skip (ρ' := [(3, (.own n6 0 x7.length)), (5, (eU8 (lget t5 x8))), (8, (.fz 1 (t5.map eU8))), (9, (eI64 (t5.length : Int))), (10, (eI64 x8))]) (H' := [(n6, (.mem (.ar 2 (x7.map e35))))]) ⟨rfl, rfl, rfl, rfl, rfl, trivial⟩ (Sub.refl _) ?_
            refine AW.reg ?_
            refine AO.calm rfl 37 rfl (by decide) (.own n6 0 x7.length) (Calm.move rfl rfl) ?_
            refine AO.calm rfl 38 rfl (by decide) (eU8 (lget t5 x8)) (Calm.move rfl rfl) ?_
            refine AO.calm rfl 39 rfl (by decide) (eU8 (lget t5 x8)) (Calm.move rfl rfl) ?_
            refine AO.calm rfl 40 rfl (by decide) (.st [(1, (eU8 (lget t5 x8))), (1, (eU8 (lget t5 x8)))]) (Calm.build (qs := [(0, (eU8 (lget t5 x8))), (1, (eU8 (lget t5 x8)))]) rfl ⟨rfl, rfl, rfl, rfl, rfl, rfl, trivial⟩ Tryd.underlying35 rfl zr35 lay35 (.cons rfl rfl rfl rfl (Put.cast (Put.fld0 Put.here) rfl) (.cons rfl rfl rfl rfl (Put.cast (Put.fldS (Put.fld0 Put.here)) rfl) .nil)) rfl) ?_
            refine AO.lit (Z := (.st [(1, (eU8 (0 : Int))), (1, (eU8 (0 : Int)))])) (xs := (([(S35.mk (lget t5 x8) (lget t5 x8))] : List S35).map e35)) (qs := [(0, (e35 (S35.mk (lget t5 x8) (lget t5 x8))))]) rfl 41 rfl (by decide) rfl ⟨rfl, rfl, rfl, trivial⟩ Tryd.underlying32 sz35 zr35 lay35 rfl (by decide) (litOK (z := 2) [(e35 (S35.mk (lget t5 x8) (lget t5 x8)))] rfl ⟨⟨rfl, rfl⟩, trivial⟩) rfl fun n21 => ?_
            obtain ⟨hg23, h⟩ := of_guard h
            refine AO.appendL (l := x7) (m := ([(S35.mk (lget t5 x8) (lget t5 x8))] : List S35)) 1 42 rfl (by decide) rfl rfl rfl rfl rfl (Src.ownL (f := e35) (l := ([(S35.mk (lget t5 x8) (lget t5 x8))] : List S35)) 0 rfl) Tryd.underlying32 Tryd.underlying32 sz35 by35 zr35 rfl hg23 (by decide) fun n22 => ?_
            refine AO.calm rfl 3 rfl (by decide) (.own n22 0 (x7 ++ ([(S35.mk (lget t5 x8) (lget t5 x8))] : List S35)).length) (Calm.assign rfl rfl) ?_
            refine AO.nil (ρ' := [(3, (.own n22 0 (x7 ++ ([(S35.mk (lget t5 x8) (lget t5 x8))] : List S35)).length)), (8, (.fz 1 (t5.map eU8))), (9, (eI64 (t5.length : Int))), (10, (eI64 x8))]) (H' := [(n22, (.mem (.ar 2 ((x7 ++ ([(S35.mk (lget t5 x8) (lget t5 x8))] : List S35)).map e35))))]) ⟨rfl, rfl, rfl, rfl, trivial⟩ (Sub.cons 1 rfl (Sub.nil _)) ?_
            exact ⟨n22, (x7 ++ ([(S35.mk (lget t5 x8) (lget t5 x8))] : List S35)), rfl, rfl, h⟩
      · rintro _ _ ⟨n12, x13, rfl, rfl, h⟩
        rw [byteset_Spans_c1.eq_1] at h
        refine AW.reg ?_
        refine AO.calm rfl 43 rfl (by decide) (eI64 (w64 (x8 + (1 : Int)))) (Calm.int rfl rfl rfl rfl) ?_
        refine AO.calm rfl 10 rfl (by decide) (eI64 (w64 (x8 + (1 : Int)))) (Calm.move rfl rfl) ?_
        refine AO.nil (ρ' := [(3, (.own n12 0 x13.length)), (8, (.fz 1 (t5.map eU8))), (9, (eI64 (t5.length : Int))), (10, (eI64 (w64 (x8 + (1 : Int)))))]) (H' := [(n12, (.mem (.ar 2 (x13.map e35))))]) ⟨rfl, rfl, rfl, rfl, trivial⟩ (Sub.refl _) ?_
        exact ⟨kq10, Nat.lt_succ_self _, n12, x13, (w64 (x8 + (1 : Int))), rfl, rfl, by rw [hrec9]; exact h⟩
    · have h := (if_neg hc11).symm.trans h
      refine AW.condN (x8 < (t5.length : Int)) rfl hc11 ?_
      refine AW.exit (ρ' := [(3, (.own n6 0 x7.length))]) (H' := [(n6, (.mem (.ar 2 (x7.map e35))))]) ⟨rfl, trivial⟩ (Sub.refl _) ?_
      exact ⟨n6, x7, rfl, rfl, h⟩
  · rintro _ _ ⟨n3, x4, rfl, rfl, h⟩
    rw [byteset_Spans_c0.eq_1] at h
    refine AW.seq ?_
    refine AW.reg ?_
    refine AO.calm rfl 44 rfl (by decide) (.own n3 0 x4.length) (Calm.move rfl rfl) ?_
    refine AO.calm rfl 2 rfl (by decide) (.own n3 0 x4.length) (Calm.assign rfl rfl) ?_
    refine AO.nil (ρ' := [(2, (.own n3 0 x4.length))]) (H' := [(n3, (.mem (.ar 2 (x4.map e35))))]) ⟨rfl, trivial⟩ (Sub.refl _) ?_
    refine AW.freezeS 0 [(2, (.fz 2 (x4.map e35)))] rfl ⟨fz_all rfl, trivial⟩ ?_
    refine AW.ret (ρ' := [(2, (.fz 2 (x4.map e35)))]) (H' := []) ⟨rfl, trivial⟩ (Sub.refl _) ?_
    have hr := Option.some.inj h
    subst hr
    exact ⟨[(.fz 2 (x4.map e35))], ⟨rfl, rfl, trivial⟩, rfl⟩
end Go.Avl.TD
/- bosket/bosketlaw02.awake; printed by avmain.py. -/
namespace Go.Avl.TD
open Go Go.RowKit Go.Proofs Go.Avl
set_option linter.unusedVariables false
set_option maxRecDepth 100000
set_option maxHeartbeats 4000000
attribute [local irreducible] AW AO AQ Spec SpecH Calm

def bosketlaw02_awake (k : Nat) : Option Bool :=
  (byteset_Of k [(97 : Int), (98 : Int), (99 : Int), (120 : Int)]).bind fun t2 =>
  (byteset_Spans k t2).bind fun t3 =>
  Option.bind (α := Bool) (if (t3.length : Int) = (2 : Int) then if 0 ≤ (0 : Int) ∧ (0 : Int) < (t3.length : Int) then if (lget t3 (0 : Int)) = (S35.mk (97 : Int) (99 : Int)) then if 0 ≤ (1 : Int) ∧ (1 : Int) < (t3.length : Int) then some (decide ((lget t3 (1 : Int)) = (S35.mk (120 : Int) (120 : Int))))
  else none
  else some (false)
  else none
  else some (false)) fun b4 =>
  some (b4)
theorem bosketlaw02_awake_spec {k : Nat}  {r : Bool} (h : bosketlaw02_awake k = some r) : Spec Tryd.prog 7 [] (eBool r) := by
  rw [bosketlaw02_awake.eq_1] at h
  refine Spec.intro (res := [.tmp 0]) Tryd.func7 rfl rfl rfl (Nat.le_of_ble_eq_true rfl) ?_
  refine AW.seq ?_
  refine AW.reg ?_
  refine AO.calm rfl 0 rfl (by decide) (eBool false) (Calm.assign rfl rfl) ?_
  refine AO.nil (ρ' := []) (H' := []) trivial (Sub.refl _) ?_
  refine AW.seq ?_
  refine AW.reg ?_
  refine AO.lit (Z := (eU8 (0 : Int))) (xs := (([(97 : Int), (98 : Int), (99 : Int), (120 : Int)] : List Int).map eU8)) (qs := [(0, (eU8 (97 : Int))), (1, (eU8 (98 : Int))), (2, (eU8 (99 : Int))), (3, (eU8 (120 : Int)))]) rfl 2 rfl (by decide) rfl ⟨rfl, rfl, rfl, rfl, rfl, rfl, rfl, rfl, rfl, rfl, rfl, rfl, trivial⟩ Tryd.underlying22 sz5 zr5 lay5 rfl (by decide) (litOK (z := 1) [(eU8 (97 : Int)), (eU8 (98 : Int)), (eU8 (99 : Int)), (eU8 (120 : Int))] rfl ⟨⟨rfl, rfl⟩, ⟨rfl, rfl⟩, ⟨rfl, rfl⟩, ⟨rfl, rfl⟩, trivial⟩) rfl fun n1 => ?_
  obtain ⟨t2, et2, h⟩ := of_bind h
  refine AO.freezeS 0 [(2, (.fz 1 (([(97 : Int), (98 : Int), (99 : Int), (120 : Int)] : List Int).map eU8)))] rfl ⟨fz_all rfl, trivial⟩ ?_
  refine AO.callS [(.fz 1 (([(97 : Int), (98 : Int), (99 : Int), (120 : Int)] : List Int).map eU8))] (.ar 1 (t2.toList.map eU64)) 3 rfl (by decide) ok8 rfl rfl rfl ⟨rfl, rfl, trivial⟩ (byteset_Of_spec et2) ?_
  obtain ⟨t3, et3, h⟩ := of_bind h
  refine AO.callS [(.ar 1 (t2.toList.map eU64))] (.fz 2 (t3.map e35)) 4 rfl (by decide) ok11 rfl rfl rfl ⟨rfl, rfl, trivial⟩ (byteset_Spans_spec et3) ?_
  refine AO.calm rfl 1 rfl (by decide) (.fz 2 (t3.map e35)) (Calm.assign rfl rfl) ?_
  refine AO.nil (ρ' := [(1, (.fz 2 (t3.map e35)))]) (H' := []) ⟨rfl, trivial⟩ (Sub.refl _) ?_
  refine AW.seq ?_
  obtain ⟨b4, hq5, h⟩ := of_bind h
  refine AW.regM [(0, (eBool b4))] [] ?_ ?_
  · refine AO.calm rfl 5 rfl (by decide) (.fz 2 (t3.map e35)) (Calm.move rfl rfl) ?_
    refine AO.calm rfl 6 rfl (by decide) (eI64 (t3.length : Int)) (Calm.lenL rfl rfl Tryd.underlying32) ?_
    refine AO.calm rfl 7 rfl (by decide) (eBool (decide ((t3.length : Int) = (2 : Int)))) (Calm.int rfl rfl rfl rfl) ?_
    refine AO.calm rfl 8 rfl (by decide) (eBool (decide ((t3.length : Int) = (2 : Int)))) (Calm.move rfl rfl) ?_
    by_cases hc6 : (t3.length : Int) = (2 : Int)
    · have hq5 := (if_pos hc6).symm.trans hq5
      refine AO.calmG 3 true 8 rfl rfl (congrArg (fun b => some (AV.fl (Value.bool b))) (decide_eq_true hc6)) 9 rfl (by decide) (.fz 2 (t3.map e35)) (Calm.move rfl rfl) ?_
      obtain ⟨hg7, hq5⟩ := of_guard hq5
      refine AO.calmG 3 true 8 rfl rfl (congrArg (fun b => some (AV.fl (Value.bool b))) (decide_eq_true hc6)) 10 rfl (by decide) (.rp (e35 (lget t3 (0 : Int)))) (Calm.idxL (f := e35) rfl rfl rfl hg7 Tryd.underlying32 sz35) ?_
      refine AO.calmG 3 true 8 rfl rfl (congrArg (fun b => some (AV.fl (Value.bool b))) (decide_eq_true hc6)) 11 rfl (by decide) (e35 (lget t3 (0 : Int))) (Calm.loadRp rfl rfl ag35 sz35) ?_
      refine AO.calmG 3 true 8 rfl rfl (congrArg (fun b => some (AV.fl (Value.bool b))) (decide_eq_true hc6)) 12 rfl (by decide) (.st [(1, (eU8 (97 : Int))), (1, (eU8 (99 : Int)))]) (Calm.build (qs := [(0, (eU8 (97 : Int))), (1, (eU8 (99 : Int)))]) rfl ⟨rfl, rfl, rfl, rfl, rfl, rfl, trivial⟩ Tryd.underlying35 rfl zr35 lay35 (.cons rfl rfl rfl rfl (Put.cast (Put.fld0 Put.here) rfl) (.cons rfl rfl rfl rfl (Put.cast (Put.fldS (Put.fld0 Put.here)) rfl) .nil)) rfl) ?_
      refine AO.calmG 3 true 8 rfl rfl (congrArg (fun b => some (AV.fl (Value.bool b))) (decide_eq_true hc6)) 13 rfl (by decide) (eBool (decide ((lget t3 (0 : Int)) = (S35.mk (97 : Int) (99 : Int))))) (Calm.eqS rfl rfl rfl eg35 (eqk35 (lget t3 (0 : Int)) (S35.mk (97 : Int) (99 : Int))) (by decide)) ?_
      refine AO.calm rfl 14 rfl (by decide) (eBool (decide ((lget t3 (0 : Int)) = (S35.mk (97 : Int) (99 : Int))))) (Calm.pickT rfl (congrArg (fun b => some (AV.fl (Value.bool b))) (decide_eq_true hc6)) rfl) ?_
      refine AO.calm rfl 15 rfl (by decide) (eBool (decide ((lget t3 (0 : Int)) = (S35.mk (97 : Int) (99 : Int))))) (Calm.move rfl rfl) ?_
      by_cases hc8 : (lget t3 (0 : Int)) = (S35.mk (97 : Int) (99 : Int))
      · have hq5 := (if_pos hc8).symm.trans hq5
        refine AO.calmG 10 true 15 rfl rfl (congrArg (fun b => some (AV.fl (Value.bool b))) (decide_eq_true hc8)) 16 rfl (by decide) (.fz 2 (t3.map e35)) (Calm.move rfl rfl) ?_
        obtain ⟨hg9, hq5⟩ := of_guard hq5
        refine AO.calmG 10 true 15 rfl rfl (congrArg (fun b => some (AV.fl (Value.bool b))) (decide_eq_true hc8)) 17 rfl (by decide) (.rp (e35 (lget t3 (1 : Int)))) (Calm.idxL (f := e35) rfl rfl rfl hg9 Tryd.underlying32 sz35) ?_
        refine AO.calmG 10 true 15 rfl rfl (congrArg (fun b => some (AV.fl (Value.bool b))) (decide_eq_true hc8)) 18 rfl (by decide) (e35 (lget t3 (1 : Int))) (Calm.loadRp rfl rfl ag35 sz35) ?_
        refine AO.calmG 10 true 15 rfl rfl (congrArg (fun b => some (AV.fl (Value.bool b))) (decide_eq_true hc8)) 19 rfl (by decide) (.st [(1, (eU8 (120 : Int))), (1, (eU8 (120 : Int)))]) (Calm.build (qs := [(0, (eU8 (120 : Int))), (1, (eU8 (120 : Int)))]) rfl ⟨rfl, rfl, rfl, rfl, rfl, rfl, trivial⟩ Tryd.underlying35 rfl zr35 lay35 (.cons rfl rfl rfl rfl (Put.cast (Put.fld0 Put.here) rfl) (.cons rfl rfl rfl rfl (Put.cast (Put.fldS (Put.fld0 Put.here)) rfl) .nil)) rfl) ?_
        refine AO.calmG 10 true 15 rfl rfl (congrArg (fun b => some (AV.fl (Value.bool b))) (decide_eq_true hc8)) 20 rfl (by decide) (eBool (decide ((lget t3 (1 : Int)) = (S35.mk (120 : Int) (120 : Int))))) (Calm.eqS rfl rfl rfl eg35 (eqk35 (lget t3 (1 : Int)) (S35.mk (120 : Int) (120 : Int))) (by decide)) ?_
        refine AO.calm rfl 21 rfl (by decide) (eBool (decide ((lget t3 (1 : Int)) = (S35.mk (120 : Int) (120 : Int))))) (Calm.pickT rfl (congrArg (fun b => some (AV.fl (Value.bool b))) (decide_eq_true hc8)) rfl) ?_
        refine AO.calm rfl 0 rfl (by decide) (eBool (decide ((lget t3 (1 : Int)) = (S35.mk (120 : Int) (120 : Int))))) (Calm.assign rfl rfl) ?_
        cases hq5
        refine AO.nilE ⟨rfl, rfl⟩ ?_ ?_
        · exact ⟨rfl, trivial⟩
        · exact (Sub.refl _)
      · have hq5 := (if_neg hc8).symm.trans hq5
        refine AO.skipG 10 false 15 rfl rfl (congrArg (fun b => some (AV.fl (Value.bool b))) (decide_eq_false hc8)) 16 rfl (by decide) ?_
        refine AO.skipG 10 false 15 rfl rfl (congrArg (fun b => some (AV.fl (Value.bool b))) (decide_eq_false hc8)) 17 rfl (by decide) ?_
        refine AO.skipG 10 false 15 rfl rfl (congrArg (fun b => some (AV.fl (Value.bool b))) (decide_eq_false hc8)) 18 rfl (by decide) ?_
        refine AO.skipG 10 false 15 rfl rfl (congrArg (fun b => some (AV.fl (Value.bool b))) (decide_eq_false hc8)) 19 rfl (by decide) ?_
        refine AO.skipG 10 false 15 rfl rfl (congrArg (fun b => some (AV.fl (Value.bool b))) (decide_eq_false hc8)) 20 rfl (by decide) ?_
        refine AO.calm rfl 21 rfl (by decide) (eBool false) (Calm.pickF rfl (congrArg (fun b => some (AV.fl (Value.bool b))) (decide_eq_false hc8)) rfl) ?_
        refine AO.calm rfl 0 rfl (by decide) (eBool false) (Calm.assign rfl rfl) ?_
        cases hq5
        refine AO.nilE ⟨rfl, rfl⟩ ?_ ?_
        · exact ⟨rfl, trivial⟩
        · exact (Sub.refl _)
    · have hq5 := (if_neg hc6).symm.trans hq5
      refine AO.skipG 3 false 8 rfl rfl (congrArg (fun b => some (AV.fl (Value.bool b))) (decide_eq_false hc6)) 9 rfl (by decide) ?_
      refine AO.skipG 3 false 8 rfl rfl (congrArg (fun b => some (AV.fl (Value.bool b))) (decide_eq_false hc6)) 10 rfl (by decide) ?_
      refine AO.skipG 3 false 8 rfl rfl (congrArg (fun b => some (AV.fl (Value.bool b))) (decide_eq_false hc6)) 11 rfl (by decide) ?_
      refine AO.skipG 3 false 8 rfl rfl (congrArg (fun b => some (AV.fl (Value.bool b))) (decide_eq_false hc6)) 12 rfl (by decide) ?_
      refine AO.skipG 3 false 8 rfl rfl (congrArg (fun b => some (AV.fl (Value.bool b))) (decide_eq_false hc6)) 13 rfl (by decide) ?_
      refine AO.calm rfl 14 rfl (by decide) (eBool false) (Calm.pickF rfl (congrArg (fun b => some (AV.fl (Value.bool b))) (decide_eq_false hc6)) rfl) ?_
      refine AO.calm rfl 15 rfl (by decide) (eBool false) (Calm.move rfl rfl) ?_
      refine AO.skipG 10 false 15 rfl rfl rfl 16 rfl (by decide) ?_
      refine AO.skipG 10 false 15 rfl rfl rfl 17 rfl (by decide) ?_
      refine AO.skipG 10 false 15 rfl rfl rfl 18 rfl (by decide) ?_
      refine AO.skipG 10 false 15 rfl rfl rfl 19 rfl (by decide) ?_
      refine AO.skipG 10 false 15 rfl rfl rfl 20 rfl (by decide) ?_
      refine AO.calm rfl 21 rfl (by decide) (eBool false) (Calm.pickF rfl rfl rfl) ?_
      refine AO.calm rfl 0 rfl (by decide) (eBool false) (Calm.assign rfl rfl) ?_
      cases hq5
      refine AO.nilE ⟨rfl, rfl⟩ ?_ ?_
      · exact ⟨rfl, trivial⟩
      · exact (Sub.refl _)
  · refine AW.ret (ρ' := [(0, (eBool b4))]) (H' := []) ⟨rfl, trivial⟩ (Sub.refl _) ?_
    have hr := Option.some.inj h
    subst hr
    exact ⟨[(eBool b4)], ⟨rfl, rfl, trivial⟩, rfl⟩
end Go.Avl.TD
