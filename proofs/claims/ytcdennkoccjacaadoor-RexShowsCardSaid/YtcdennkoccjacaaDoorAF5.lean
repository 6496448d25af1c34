/- Parts: TEf9, TEf10, TEf24, TEf11, TEf3, TEf13, TEf4. -/
import Derived.Test.YtcdennkoccjacaaDoorAF1
import Derived.Test.YtcdennkoccjacaaDoorAF4
import Derived.Test.YtcdennkoccjacaaDoorAF3
import Derived.Test.YtcdennkoccjacaaDoorAF2
/- bosket/bosketref04.Show; printed by avmain.py. -/
namespace Go.Avl.TE
open Go Go.RowKit Go.Proofs Go.Avl
set_option linter.unusedVariables false
set_option maxRecDepth 100000
set_option maxHeartbeats 4000000
set_option linter.unusedSimpArgs false
attribute [local irreducible] AW AO AQ Spec SpecH Calm

def bosketref04_Show_c0 (k : Nat) (p0 : (List S40)) (x6 : (List ByteArray)) (x8 : (List Int)) : Option ByteArray :=
  if ((lget p0 (w64 ((p0.length : Int) - (1 : Int)))).f0) = (0 : Int) then some ((ByteArray.mk #[126]))
  else if ((lget p0 (w64 ((p0.length : Int) - (1 : Int)))).f0) = (1 : Int) then (bosketref04_set k ((lget p0 (w64 ((p0.length : Int) - (1 : Int)))).f1)).bind fun t11 =>
  some (t11)
  else if ((lget p0 (w64 ((p0.length : Int) - (1 : Int)))).f0) = (2 : Int) then Option.bind (α := ByteArray) (if 0 ≤ (0 : Int) ∧ (0 : Int) < (x6.length : Int) then if 0 ≤ (0 : Int) ∧ (0 : Int) < (x8.length : Int) then (bosketref04_around k (lget x6 (0 : Int)) (decide ((lget x8 (0 : Int)) = (3 : Int)))).bind fun t17 =>
  if 0 ≤ (1 : Int) ∧ (1 : Int) < (x6.length : Int) then if 0 ≤ (1 : Int) ∧ (1 : Int) < (x8.length : Int) then if (lget x8 (1 : Int)) = (2 : Int) then (bosketref04_around k (lget x6 (1 : Int)) true).bind fun t21 =>
  if t17.size + t21.size ≤ 9223372036854775807 then some ((t17 ++ t21))
  else none
  else if 0 ≤ (1 : Int) ∧ (1 : Int) < (x8.length : Int) then (bosketref04_around k (lget x6 (1 : Int)) (decide ((lget x8 (1 : Int)) = (3 : Int)))).bind fun t24 =>
  if t17.size + t24.size ≤ 9223372036854775807 then some ((t17 ++ t24))
  else none
  else none
  else none
  else none
  else none
  else none) fun x13 =>
  some (x13)
  else if ((lget p0 (w64 ((p0.length : Int) - (1 : Int)))).f0) = (3 : Int) then if 0 ≤ (0 : Int) ∧ (0 : Int) < (x6.length : Int) then if (lget x6 (0 : Int)).size + (ByteArray.mk #[124]).size ≤ 9223372036854775807 then if 0 ≤ (1 : Int) ∧ (1 : Int) < (x6.length : Int) then if 0 ≤ (1 : Int) ∧ (1 : Int) < (x8.length : Int) then (bosketref04_around k (lget x6 (1 : Int)) (decide ((lget x8 (1 : Int)) = (3 : Int)))).bind fun t31 =>
  if ((lget x6 (0 : Int)) ++ (ByteArray.mk #[124])).size + t31.size ≤ 9223372036854775807 then some ((((lget x6 (0 : Int)) ++ (ByteArray.mk #[124])) ++ t31))
  else none
  else none
  else none
  else none
  else none
  else if 0 ≤ (0 : Int) ∧ (0 : Int) < (x6.length : Int) then if 0 ≤ (0 : Int) ∧ (0 : Int) < (x8.length : Int) then if (lget x8 (0 : Int)) = (2 : Int) then (bosketref04_around k (lget x6 (0 : Int)) true).bind fun t36 =>
  if 0 ≤ (w64 (((lget p0 (w64 ((p0.length : Int) - (1 : Int)))).f0) - (4 : Int))) ∧ (w64 (((lget p0 (w64 ((p0.length : Int) - (1 : Int)))).f0) - (4 : Int))) < (([(ByteArray.mk #[42]), (ByteArray.mk #[43]), (ByteArray.mk #[63])] : List ByteArray).length : Int) then if t36.size + (lget ([(ByteArray.mk #[42]), (ByteArray.mk #[43]), (ByteArray.mk #[63])] : List ByteArray) (w64 (((lget p0 (w64 ((p0.length : Int) - (1 : Int)))).f0) - (4 : Int)))).size ≤ 9223372036854775807 then some ((t36 ++ (lget ([(ByteArray.mk #[42]), (ByteArray.mk #[43]), (ByteArray.mk #[63])] : List ByteArray) (w64 (((lget p0 (w64 ((p0.length : Int) - (1 : Int)))).f0) - (4 : Int))))))
  else none
  else none
  else if 0 ≤ (0 : Int) ∧ (0 : Int) < (x8.length : Int) then (bosketref04_around k (lget x6 (0 : Int)) (decide ((lget x8 (0 : Int)) = (3 : Int)))).bind fun t41 =>
  if 0 ≤ (w64 (((lget p0 (w64 ((p0.length : Int) - (1 : Int)))).f0) - (4 : Int))) ∧ (w64 (((lget p0 (w64 ((p0.length : Int) - (1 : Int)))).f0) - (4 : Int))) < (([(ByteArray.mk #[42]), (ByteArray.mk #[43]), (ByteArray.mk #[63])] : List ByteArray).length : Int) then if t41.size + (lget ([(ByteArray.mk #[42]), (ByteArray.mk #[43]), (ByteArray.mk #[63])] : List ByteArray) (w64 (((lget p0 (w64 ((p0.length : Int) - (1 : Int)))).f0) - (4 : Int)))).size ≤ 9223372036854775807 then some ((t41 ++ (lget ([(ByteArray.mk #[42]), (ByteArray.mk #[43]), (ByteArray.mk #[63])] : List ByteArray) (w64 (((lget p0 (w64 ((p0.length : Int) - (1 : Int)))).f0) - (4 : Int))))))
  else none
  else none
  else none
  else none
  else none
def bosketref04_Show_l1 (k : Nat) (self : ((List S40) → Option ByteArray)) (p0 : (List S40)) (t4 : (List (List S40))) : Nat → (List ByteArray) → (List Int) → Int → Option ByteArray
  | 0, _, _, _ => none
  | j + 1, x46, x48, x49 =>
    if x49 < (t4.length : Int) then if 0 ≤ x49 ∧ x49 < (t4.length : Int) then (self (lget t4 x49)).bind fun t54 =>
    if (x46 ++ ([t54] : List ByteArray)).length * 16 ≤ 140737488355328 then if 0 ≤ x49 ∧ x49 < (t4.length : Int) then if 0 ≤ x49 ∧ x49 < (t4.length : Int) then if 0 ≤ (w64 (((lget t4 x49).length : Int) - (1 : Int))) ∧ (w64 (((lget t4 x49).length : Int) - (1 : Int))) < ((lget t4 x49).length : Int) then if (x48 ++ ([(lget (lget t4 x49) (w64 (((lget t4 x49).length : Int) - (1 : Int)))).f0] : List Int)).length * 8 ≤ 140737488355328 then (bosketref04_Show_l1 k self p0 t4 j) (x46 ++ ([t54] : List ByteArray)) (x48 ++ ([(lget (lget t4 x49) (w64 (((lget t4 x49).length : Int) - (1 : Int)))).f0] : List Int)) (w64 (x49 + (1 : Int)))
    else none
    else none
    else none
    else none
    else none
    else none
    else bosketref04_Show_c0 k p0 x46 x48
def bosketref04_Show_r (k : Nat) : Nat → (List S40) → Option ByteArray
  | 0, _ => none
  | j + 1, p0 =>
    if 0 ≤ (w64 ((p0.length : Int) - (1 : Int))) ∧ (w64 ((p0.length : Int) - (1 : Int))) < (p0.length : Int) then (bosketref04_Parts k p0).bind fun t4 =>
    bosketref04_Show_l1 k (bosketref04_Show_r k j) p0 t4 k ([] : List ByteArray) ([] : List Int) (0 : Int)
    else none
def bosketref04_Show (k : Nat) (p0 : (List S40)) : Option ByteArray := bosketref04_Show_r k k p0
theorem bosketref04_Show_spec' (k : Nat) : ∀ (j : Nat) (p0 : (List S40)) (r : ByteArray), bosketref04_Show_r k j p0 = some r → Spec Tryd.prog 9 [(.fz 5 (p0.map e40))] (eStr r) := by
  intro j
  induction j with
  | zero => intro p0 r h; rw [bosketref04_Show_r.eq_1] at h; cases h
  | succ j hself =>
  intro p0 r h
  rw [bosketref04_Show_r.eq_2] at h
  generalize hs : bosketref04_Show_r k j = self at h hself
  refine Spec.intro (res := [.tmp 2]) Tryd.func9 rfl rfl rfl (Nat.le_of_ble_eq_true rfl) ?_
  refine AW.sr ?_
  refine AO.c (Calm.assign rfl rfl) ?_
  refine AO.nK [0] ?_
  refine AW.sr ?_
  refine AO.c (Calm.move rfl rfl) ?_
  refine AO.c (Calm.move rfl rfl) ?_
  refine AO.c (Calm.lenL rfl rfl Tryd.underlying23) ?_
  refine AO.c (x := eI64 (w64 ((p0.length : Int) - (1 : Int)))) (Calm.int rfl rfl rfl rfl) ?_
  obtain ⟨hg2, h⟩ := of_guard h
  refine AO.c (Calm.idxL (f := e40) rfl rfl rfl hg2 Tryd.underlying23 sz40) ?_
  refine AO.c (Calm.loadRp rfl rfl ag40 sz40) ?_
  refine AO.alloc rfl 3 rfl (by decide) rfl zr40 lay40 fun n3 => ?_
  refine AO.store (X' := (e40 (lget p0 (w64 ((p0.length : Int) - (1 : Int)))))) 0 rfl rfl rfl rfl rfl rfl (Put.cast Put.here rfl) rfl rfl sz40 rfl ?_
  refine AO.nK [0, 3] ?_
  refine AW.sr ?_
  refine AO.c (Calm.move rfl rfl) ?_
  obtain ⟨t4, et4, h⟩ := of_bind h
  refine AO.callS [(.fz 5 (p0.map e40))] (.fz 1 (t4.map e23)) 15 rfl (by decide) ok15 rfl rfl rfl ⟨rfl, rfl, trivial⟩ (bosketref04_Parts_spec et4) ?_
  refine AO.c (Calm.assign rfl rfl) ?_
  refine AO.nK [3, 4] ?_
  refine AW.sr ?_
  refine AO.c (Calm.assign rfl rfl) ?_
  refine AO.nK [3, 4, 5] ?_
  refine AW.sr ?_
  refine AO.c (Calm.assign rfl rfl) ?_
  refine AO.nK [3, 4, 5, 6] ?_
  refine AW.seq_mid (fun ρ H => ∃ (n5 : Nat) (n7 : Nat) (x6 : (List ByteArray)) (x8 : (List Int)), ρ = [(3, (.ptr n3 0)), (5, (.own n5 0 x6.length)), (6, (.own n7 0 x8.length))] ∧ H = [(n3, (.mem (e40 (lget p0 (w64 ((p0.length : Int) - (1 : Int))))))), (n5, (.mem (.ar 1 (x6.map eStr)))), (n7, (.mem (.ar 1 (x8.map eI64))))] ∧ bosketref04_Show_c0 k p0 x6 x8 = some r) ?_ ?_
  ·refine AW.sr ?_
   refine AO.c (Calm.assign rfl rfl) ?_
   refine AO.nK [3, 4, 5, 6, 7] ?_
   refine AW.block ?_
   refine AW.nilOwn 5 1 rfl fun n64 => ?_
   refine AW.nilOwn 6 1 rfl fun n65 => ?_
   refine AW.wH [3, 4, 5, 6, 7] (H' := [(n3, (.mem (e40 (lget p0 (w64 ((p0.length : Int) - (1 : Int))))))), (n64, (.mem (.ar 1 (([] : List ByteArray).map eStr)))), (n65, (.mem (.ar 1 (([] : List Int).map eI64))))]) (Sub.cons 2 rfl (Sub.cons 1 rfl (Sub.cons 0 rfl (Sub.nil _)))) ?_
   refine AW.loop (fun kq ρ H => ∃ (n45 : Nat) (n47 : Nat) (x46 : (List ByteArray)) (x48 : (List Int)) (x49 : Int), ρ = [(3, (.ptr n3 0)), (4, (.fz 1 (t4.map e23))), (5, (.own n45 0 x46.length)), (6, (.own n47 0 x48.length)), (7, (eI64 x49))] ∧ H = [(n3, (.mem (e40 (lget p0 (w64 ((p0.length : Int) - (1 : Int))))))), (n45, (.mem (.ar 1 (x46.map eStr)))), (n47, (.mem (.ar 1 (x48.map eI64))))] ∧ bosketref04_Show_l1 k self p0 t4 kq x46 x48 x49 = some r) k ⟨n64, n65, ([] : List ByteArray), ([] : List Int), (0 : Int), rfl, rfl, h⟩ ?_
   rintro kq51 _ _ ⟨n45, n47, x46, x48, x49, rfl, rfl, h⟩
   cases kq51 with
   | zero => rw [bosketref04_Show_l1.eq_1] at h; cases h
   | succ kq51 =>
   rw [bosketref04_Show_l1.eq_2] at h
   generalize hrec50 : bosketref04_Show_l1 k self p0 t4 kq51 = rec50 at h
   refine AW.seq ?_
   refine AW.sr ?_
   refine AO.c (Calm.move rfl rfl) ?_
   refine AO.c (Calm.move rfl rfl) ?_
   refine AO.c (Calm.lenL rfl rfl Tryd.underlying41) ?_
   refine AO.c (x := eBool (decide (x49 < (t4.length : Int)))) (Calm.int rfl rfl rfl rfl) ?_
   refine AO.nK [3, 4, 5, 6, 7, 19] ?_
   rcases of_ite h with ⟨hc52, h⟩ | ⟨hc52, h⟩
   ·refine AW.condP _ rfl hc52 ?_
    refine AW.sK [3, 4, 5, 6, 7] ?_
    refine AW.seq ?_
    refine AW.block ?_
    refine AW.sr ?_
    refine AO.c (Calm.move rfl rfl) ?_
    refine AO.c (Calm.move rfl rfl) ?_
    refine AO.c (Calm.move rfl rfl) ?_
    obtain ⟨hg53, h⟩ := of_guard h
    refine AO.c (Calm.idxL (f := e23) rfl rfl rfl hg53 Tryd.underlying41 sz23) ?_
    refine AO.c (Calm.loadRp rfl rfl ag23 sz23) ?_
    obtain ⟨t54, et54, h⟩ := of_bind h
    refine AO.callS [(.fz 5 ((lget t4 x49).map e40))] (eStr t54) 27 rfl (by decide) ok9 rfl rfl rfl ⟨rfl, rfl, trivial⟩ (hself _ _ et54) ?_
    refine AO.lit (Z := (eStr ByteArray.empty)) (xs := (([t54] : List ByteArray).map eStr)) (qs := [(0, (eStr t54))]) rfl 28 rfl (by decide) rfl ⟨rfl, rfl, rfl, trivial⟩ Tryd.underlying52 sz9 zr9 lay9 rfl (by decide) (litOK (z := 1) [(eStr t54)] rfl ⟨⟨rfl, rfl⟩, trivial⟩) rfl fun n55 => ?_
    obtain ⟨hg57, h⟩ := of_guard h
    refine AO.appendL (l := x46) (m := ([t54] : List ByteArray)) 2 29 rfl (by decide) rfl rfl rfl rfl rfl (Src.ownL (f := eStr) (l := ([t54] : List ByteArray)) 0 rfl) Tryd.underlying52 Tryd.underlying52 sz9 by9 zr9 rfl hg57 (by decide) fun n56 => ?_
    refine AO.c (Calm.assign rfl rfl) ?_
    refine AO.nH [3, 4, 5, 6, 7] (H' := [(n3, (.mem (e40 (lget p0 (w64 ((p0.length : Int) - (1 : Int))))))), (n56, (.mem (.ar 1 ((x46 ++ ([t54] : List ByteArray)).map eStr)))), (n47, (.mem (.ar 1 (x48.map eI64))))]) (Sub.cons 1 rfl (Sub.cons 1 rfl (Sub.cons 1 rfl (Sub.nil _)))) ?_
    obtain ⟨hg58, h⟩ := of_guard h
    obtain ⟨hg59, h⟩ := of_guard h
    obtain ⟨hg60, h⟩ := of_guard h
    obtain ⟨hg63, h⟩ := of_guard h
    refine AW.regEff (by rfl) (by decide +kernel) (fun (σ : Nat → Nat) => ([(.own n47 0 x48.length), (.fz 1 (t4.map e23)), (eI64 x49), (.rp (.fz 5 ((lget t4 x49).map e40))), (.fz 5 ((lget t4 x49).map e40)), (.fz 1 (t4.map e23)), (eI64 x49), (.rp (.fz 5 ((lget t4 x49).map e40))), (.fz 5 ((lget t4 x49).map e40)), (eI64 ((lget t4 x49).length : Int)), (eI64 (w64 (((lget t4 x49).length : Int) - (1 : Int)))), (.rp (e40 (lget (lget t4 x49) (w64 (((lget t4 x49).length : Int) - (1 : Int)))))), (.rp (eI64 ((lget (lget t4 x49) (w64 (((lget t4 x49).length : Int) - (1 : Int)))).f0))), (eI64 ((lget (lget t4 x49) (w64 (((lget t4 x49).length : Int) - (1 : Int)))).f0)), (.fz 1 (([(lget (lget t4 x49) (w64 (((lget t4 x49).length : Int) - (1 : Int)))).f0] : List Int).map eI64)), (.own (σ 15) 0 (x48 ++ ([(lget (lget t4 x49) (w64 (((lget t4 x49).length : Int) - (1 : Int)))).f0] : List Int)).length), (.own (σ 15) 0 (x48 ++ ([(lget (lget t4 x49) (w64 (((lget t4 x49).length : Int) - (1 : Int)))).f0] : List Int)).length)] : List AV)) (fun (L : Nat → Bool) (σ : Nat → Nat) => ((n3, (.mem (e40 (lget p0 (w64 ((p0.length : Int) - (1 : Int))))))) :: (n56, (.mem (.ar 1 ((x46 ++ ([t54] : List ByteArray)).map eStr)))) :: (bif L 15 then (((σ 15), (.mem (.ar 1 ((x48 ++ ([(lget (lget t4 x49) (w64 (((lget t4 x49).length : Int) - (1 : Int)))).f0] : List Int)).map eI64)))) :: []) else ((n47, (.mem (.ar 1 (x48.map eI64)))) :: [])) : Heap)) [(3, (.ptr n3 0)), (4, (.fz 1 (t4.map e23))), (5, (.own n56 0 (x46 ++ ([t54] : List ByteArray)).length)), (6, (.own n47 0 x48.length)), (7, (eI64 x49))] ⟨rfl, rfl, rfl, rfl, rfl, trivial⟩ (fun _ => rfl) (fun σ => (Sub.refl _)) ⟨?_, ?_, ?_, ?_, ?_, ?_, ?_, ?_, ?_, ?_, ?_, ?_, ?_, ?_, ?_, ?_, ?_, trivial⟩ (fun σ => [(3, (.ptr n3 0)), (4, (.fz 1 (t4.map e23))), (5, (.own n56 0 (x46 ++ ([t54] : List ByteArray)).length)), (6, (.own (σ 15) 0 (x48 ++ ([(lget (lget t4 x49) (w64 (((lget t4 x49).length : Int) - (1 : Int)))).f0] : List Int)).length)), (7, (eI64 x49))]) (fun σ => ((n3, (.mem (e40 (lget p0 (w64 ((p0.length : Int) - (1 : Int))))))) :: (n56, (.mem (.ar 1 ((x46 ++ ([t54] : List ByteArray)).map eStr)))) :: ((σ 15), (.mem (.ar 1 ((x48 ++ ([(lget (lget t4 x49) (w64 (((lget t4 x49).length : Int) - (1 : Int)))).f0] : List Int)).map eI64)))) :: [])) (fun σ => ⟨rfl, rfl, rfl, rfl, rfl, trivial⟩) (fun σ => Sub.refl _) (fun σ => ?_)
    ·refine StepE.calm (fun _ _ => rfl) fun L σ hc hi hd => ?_
     have m15 : L 15 = false := hc.neg (i := 0) (j := 15) rfl (by rfl) hi
     refine AO.heq (H' := ((n3, (.mem (e40 (lget p0 (w64 ((p0.length : Int) - (1 : Int))))))) :: (n56, (.mem (.ar 1 ((x46 ++ ([t54] : List ByteArray)).map eStr)))) :: (n47, (.mem (.ar 1 (x48.map eI64)))) :: [])) (by first | rfl | simp only [m15, cond_true, cond_false]) ?_
     refine AO.wK [6] ?_
     refine AO.c (Calm.move rfl rfl) ?_
     exact AO.nE (d := 30) rfl ⟨⟨30, _, rfl, rfl, rfl⟩, Sub.of_eq (by first | rfl | simp only [m15, cond_true, cond_false]) (Sub.refl _)⟩
    ·refine StepE.calm (fun _ _ => rfl) fun L σ hc hi hd => ?_
     refine AO.wK [4] ?_
     refine AO.c (Calm.move rfl rfl) ?_
     exact AO.nE (d := 31) rfl ⟨⟨31, _, rfl, rfl, rfl⟩, Sub.refl _⟩
    ·refine StepE.calm (fun _ _ => rfl) fun L σ hc hi hd => ?_
     refine AO.wK [7] ?_
     refine AO.c (Calm.move rfl rfl) ?_
     exact AO.nE (d := 32) rfl ⟨⟨32, _, rfl, rfl, rfl⟩, Sub.refl _⟩
    ·refine StepE.calm (fun _ _ => rfl) fun L σ hc hi hd => ?_
     refine AO.wK [31, 32] ?_
     refine AO.c (Calm.idxL (f := e23) rfl rfl rfl hg58 Tryd.underlying41 sz23) ?_
     exact AO.nE (d := 33) rfl ⟨⟨33, _, rfl, rfl, rfl⟩, Sub.refl _⟩
    ·refine StepE.calm (fun _ _ => rfl) fun L σ hc hi hd => ?_
     refine AO.wK [33] ?_
     refine AO.c (Calm.loadRp rfl rfl ag23 sz23) ?_
     exact AO.nE (d := 34) rfl ⟨⟨34, _, rfl, rfl, rfl⟩, Sub.refl _⟩
    ·refine StepE.calm (fun _ _ => rfl) fun L σ hc hi hd => ?_
     refine AO.wK [4] ?_
     refine AO.c (Calm.move rfl rfl) ?_
     exact AO.nE (d := 35) rfl ⟨⟨35, _, rfl, rfl, rfl⟩, Sub.refl _⟩
    ·refine StepE.calm (fun _ _ => rfl) fun L σ hc hi hd => ?_
     refine AO.wK [7] ?_
     refine AO.c (Calm.move rfl rfl) ?_
     exact AO.nE (d := 36) rfl ⟨⟨36, _, rfl, rfl, rfl⟩, Sub.refl _⟩
    ·refine StepE.calm (fun _ _ => rfl) fun L σ hc hi hd => ?_
     refine AO.wK [35, 36] ?_
     refine AO.c (Calm.idxL (f := e23) rfl rfl rfl hg59 Tryd.underlying41 sz23) ?_
     exact AO.nE (d := 37) rfl ⟨⟨37, _, rfl, rfl, rfl⟩, Sub.refl _⟩
    ·refine StepE.calm (fun _ _ => rfl) fun L σ hc hi hd => ?_
     refine AO.wK [37] ?_
     refine AO.c (Calm.loadRp rfl rfl ag23 sz23) ?_
     exact AO.nE (d := 38) rfl ⟨⟨38, _, rfl, rfl, rfl⟩, Sub.refl _⟩
    ·refine StepE.calm (fun _ _ => rfl) fun L σ hc hi hd => ?_
     refine AO.wK [38] ?_
     refine AO.c (Calm.lenL rfl rfl Tryd.underlying23) ?_
     exact AO.nE (d := 39) rfl ⟨⟨39, _, rfl, rfl, rfl⟩, Sub.refl _⟩
    ·refine StepE.calm (fun _ _ => rfl) fun L σ hc hi hd => ?_
     refine AO.wK [39] ?_
     refine AO.c (x := eI64 (w64 (((lget t4 x49).length : Int) - (1 : Int)))) (Calm.int rfl rfl rfl rfl) ?_
     exact AO.nE (d := 40) rfl ⟨⟨40, _, rfl, rfl, rfl⟩, Sub.refl _⟩
    ·refine StepE.calm (fun _ _ => rfl) fun L σ hc hi hd => ?_
     refine AO.wK [34, 40] ?_
     refine AO.c (Calm.idxL (f := e40) rfl rfl rfl hg60 Tryd.underlying23 sz40) ?_
     exact AO.nE (d := 41) rfl ⟨⟨41, _, rfl, rfl, rfl⟩, Sub.refl _⟩
    ·refine StepE.calm (fun _ _ => rfl) fun L σ hc hi hd => ?_
     refine AO.wK [41] ?_
     refine AO.c (Calm.fldRp rfl rfl Tryd.underlying40 rfl sz3 (At.cast (At.fld0 At.here) rfl)) ?_
     exact AO.nE (d := 42) rfl ⟨⟨42, _, rfl, rfl, rfl⟩, Sub.refl _⟩
    ·refine StepE.calm (fun _ _ => rfl) fun L σ hc hi hd => ?_
     refine AO.wK [42] ?_
     refine AO.c (Calm.loadRp rfl rfl ag3 sz3) ?_
     exact AO.nE (d := 43) rfl ⟨⟨43, _, rfl, rfl, rfl⟩, Sub.refl _⟩
    ·refine StepE.calm (fun _ _ => rfl) fun L σ hc hi hd => ?_
     refine AO.wK [43] ?_
     refine AO.lit (Z := (eI64 (0 : Int))) (xs := (([(lget (lget t4 x49) (w64 (((lget t4 x49).length : Int) - (1 : Int)))).f0] : List Int).map eI64)) (qs := [(0, (eI64 ((lget (lget t4 x49) (w64 (((lget t4 x49).length : Int) - (1 : Int)))).f0)))]) rfl 44 rfl (by decide) rfl ⟨rfl, rfl, rfl, trivial⟩ Tryd.underlying53 sz3 zr3 lay3 rfl (by decide) (litOK (z := 1) [(eI64 ((lget (lget t4 x49) (w64 (((lget t4 x49).length : Int) - (1 : Int)))).f0))] rfl ⟨⟨rfl, rfl⟩, trivial⟩) rfl fun n61 => ?_
     refine AO.freezeS 0 [(44, (.fz 1 (([(lget (lget t4 x49) (w64 (((lget t4 x49).length : Int) - (1 : Int)))).f0] : List Int).map eI64)))] rfl ⟨fz_all rfl, trivial⟩ ?_
     exact AO.nE (d := 44) rfl ⟨⟨44, _, rfl, rfl, rfl⟩, Sub.refl _⟩
    ·intro L σ hc hi hd
     refine AO.heq (H' := ((n3, (.mem (e40 (lget p0 (w64 ((p0.length : Int) - (1 : Int))))))) :: (n56, (.mem (.ar 1 ((x46 ++ ([t54] : List ByteArray)).map eStr)))) :: (n47, (.mem (.ar 1 (x48.map eI64)))) :: [])) (by first | rfl | simp only [hi, cond_true, cond_false]) ?_
     refine AO.wK [30, 44] ?_
     refine AO.appendL (l := x48) (m := ([(lget (lget t4 x49) (w64 (((lget t4 x49).length : Int) - (1 : Int)))).f0] : List Int)) 2 45 rfl (by decide) rfl rfl rfl rfl rfl Src.fz Tryd.underlying53 Tryd.underlying53 sz3 by3 zr3 rfl hg63 (by decide) fun n62 => ?_
     have a15 : addL L 15 15 = true := rfl
     have u15 : upd σ 15 n62 15 = n62 := rfl
     have m16 : L 16 = false := hc.neg (i := 15) (j := 16) rfl (by rfl) hi
     exact AO.nE (d := 45) rfl ⟨(upd σ 15 n62), (fun j hj => match j, hj with | 0, _ => rfl | 1, _ => rfl | 2, _ => rfl | 3, _ => rfl | 4, _ => rfl | 5, _ => rfl | 6, _ => rfl | 7, _ => rfl | 8, _ => rfl | 9, _ => rfl | 10, _ => rfl | 11, _ => rfl | 12, _ => rfl | 13, _ => rfl | 14, _ => rfl | 15, hj => Bool.noConfusion (hj.symm.trans hi) | 16, hj => Bool.noConfusion (hj.symm.trans m16) | _ + 17, _ => rfl), (fun d' hd' => ⟨_, rfl, by cases hd'; rfl⟩), Sub.of_eq (B := ((n3, (.mem (e40 (lget p0 (w64 ((p0.length : Int) - (1 : Int))))))) :: (n56, (.mem (.ar 1 ((x46 ++ ([t54] : List ByteArray)).map eStr)))) :: (n62, (.mem (.ar 1 ((x48 ++ ([(lget (lget t4 x49) (w64 (((lget t4 x49).length : Int) - (1 : Int)))).f0] : List Int)).map eI64)))) :: [])) (by simp only [a15, u15, cond_true, cond_false]) (Sub.refl _)⟩
    ·refine StepE.calm (fun _ _ => rfl) fun L σ hc hi hd => ?_
     have y15 : L 15 = true := on_get hd (i := 15) (by rfl)
     refine AO.heq (H' := ((n3, (.mem (e40 (lget p0 (w64 ((p0.length : Int) - (1 : Int))))))) :: (n56, (.mem (.ar 1 ((x46 ++ ([t54] : List ByteArray)).map eStr)))) :: ((σ 15), (.mem (.ar 1 ((x48 ++ ([(lget (lget t4 x49) (w64 (((lget t4 x49).length : Int) - (1 : Int)))).f0] : List Int)).map eI64)))) :: [])) (by first | rfl | simp only [y15, cond_true, cond_false]) ?_
     refine AO.wK [45] ?_
     refine AO.c (Calm.assign rfl rfl) ?_
     exact AO.nE (d := 6) rfl ⟨⟨6, _, rfl, rfl, rfl⟩, Sub.of_eq (by first | rfl | simp only [y15, cond_true, cond_false]) (Sub.refl _)⟩
    ·generalize σ 15 = n62
     refine AO.nK [3, 4, 5, 6, 7] ?_
     refine AW.reg ?_
     refine AO.c (Calm.move rfl rfl) ?_
     refine AO.c (x := eI64 (w64 (x49 + (1 : Int)))) (Calm.int rfl rfl rfl rfl) ?_
     refine AO.c (Calm.assign rfl rfl) ?_
     refine AO.nK [3, 4, 5, 6, 7] ?_
     exact ⟨kq51, Nat.lt_succ_self _, n56, n62, (x46 ++ ([t54] : List ByteArray)), (x48 ++ ([(lget (lget t4 x49) (w64 (((lget t4 x49).length : Int) - (1 : Int)))).f0] : List Int)), (w64 (x49 + (1 : Int))), rfl, rfl, by rw [hrec50]; exact h⟩
   ·refine AW.condN _ rfl hc52 ?_
    refine AW.eK [3, 5, 6] ?_
    exact ⟨n45, n47, x46, x48, rfl, rfl, h⟩
  ·rintro _ _ ⟨n5, n7, x6, x8, rfl, rfl, h⟩
   rw [bosketref04_Show_c0.eq_1] at h
   refine AW.seq ?_
   refine AW.sr ?_
   refine AO.c (x := .ptr n3 0) (Calm.fldPtr rfl rfl Tryd.underlying40 rfl sz3 _ rfl) ?_
   refine AO.c (Calm.load 0 rfl rfl rfl (At.cast (At.fld0 At.here) rfl) ag3 sz3) ?_
   refine AO.nK [3, 5, 6, 47] ?_
   refine AW.block ?_
   refine AW.sr ?_
   refine AO.c (x := eBool (decide (((lget p0 (w64 ((p0.length : Int) - (1 : Int)))).f0) = (0 : Int)))) (Calm.int rfl rfl rfl rfl) ?_
   refine AO.c (Calm.assign rfl rfl) ?_
   refine AO.nK [3, 5, 6, 47, 48] ?_
   rcases of_ite h with ⟨hc9, h⟩ | ⟨hc9, h⟩
   ·refine AW.condP _ rfl hc9 ?_
    refine AW.sr ?_
    refine AO.c (Calm.assign rfl rfl) ?_
    refine AO.nH [2] (H' := []) (Sub.nil _) ?_
    refine AW.rK [2] ?_
    have hr := Option.some.inj h
    subst hr
    exact ⟨[(eStr (ByteArray.mk #[126]))], ⟨rfl, rfl, trivial⟩, rfl⟩
   ·refine AW.condN _ rfl hc9 ?_
    refine AW.sr ?_
    refine AO.c (x := eBool (decide (((lget p0 (w64 ((p0.length : Int) - (1 : Int)))).f0) = (1 : Int)))) (Calm.int rfl rfl rfl rfl) ?_
    refine AO.c (Calm.assign rfl rfl) ?_
    refine AO.nK [3, 5, 6, 47, 50] ?_
    rcases of_ite h with ⟨hc10, h⟩ | ⟨hc10, h⟩
    ·refine AW.condP _ rfl hc10 ?_
     refine AW.sr ?_
     refine AO.c (x := .ptr n3 1) (Calm.fldPtr rfl rfl Tryd.underlying40 rfl sz38 _ rfl) ?_
     refine AO.c (Calm.load 0 rfl rfl rfl (At.cast (At.fldS (At.fld0 At.here)) rfl) ag38 (by rw [sz38]; simp [AV.size])) ?_
     obtain ⟨t11, et11, h⟩ := of_bind h
     refine AO.callS [(.ar 1 (((lget p0 (w64 ((p0.length : Int) - (1 : Int)))).f1).toList.map eU64))] (eStr t11) 54 rfl (by decide) ok22 rfl rfl rfl ⟨rfl, rfl, trivial⟩ (bosketref04_set_spec et11) ?_
     refine AO.c (Calm.assign rfl rfl) ?_
     refine AO.nH [2] (H' := []) (Sub.nil _) ?_
     refine AW.rK [2] ?_
     have hr := Option.some.inj h
     subst hr
     exact ⟨[(eStr t11)], ⟨rfl, rfl, trivial⟩, rfl⟩
    ·refine AW.condN _ rfl hc10 ?_
     refine AW.sr ?_
     refine AO.c (x := eBool (decide (((lget p0 (w64 ((p0.length : Int) - (1 : Int)))).f0) = (2 : Int)))) (Calm.int rfl rfl rfl rfl) ?_
     refine AO.c (Calm.assign rfl rfl) ?_
     refine AO.nK [3, 5, 6, 47, 55] ?_
     rcases of_ite h with ⟨hc12, h⟩ | ⟨hc12, h⟩
     ·refine AW.condP _ rfl hc12 ?_
      refine AW.seq ?_
      obtain ⟨x13, hq14, h⟩ := of_bind h
      refine AW.regQM (by rfl) (by decide +kernel) [(2, (eStr x13))] ?_ ?_
      ·refine AQ.c (Calm.move rfl rfl) ?_
       obtain ⟨hg15, hq14⟩ := of_guard hq14
       refine AQ.c (Calm.idxO 1 rfl rfl rfl rfl hg15 Tryd.underlying52 sz9) ?_
       refine AQ.c (Calm.load 1 rfl rfl rfl (At.cast (At.lidx (0 : Int) hg15.1 hg15.2 At.here) (by omega)) ag9 sz9) ?_
       refine AQ.c (Calm.move rfl rfl) ?_
       obtain ⟨hg16, hq14⟩ := of_guard hq14
       refine AQ.c (Calm.idxO 2 rfl rfl rfl rfl hg16 Tryd.underlying53 sz3) ?_
       refine AQ.c (Calm.load 2 rfl rfl rfl (At.cast (At.lidx (0 : Int) hg16.1 hg16.2 At.here) (by omega)) ag3 sz3) ?_
       refine AQ.c (x := eBool (decide ((lget x8 (0 : Int)) = (3 : Int)))) (Calm.int rfl rfl rfl rfl) ?_
       obtain ⟨t17, et17, hq14⟩ := of_bind hq14
       refine AQ.c (Calm.call (args := [(eStr (lget x6 (0 : Int))), (eBool (decide ((lget x8 (0 : Int)) = (3 : Int))))]) rfl rfl ok23 ⟨rfl, rfl, rfl, rfl, trivial⟩ rfl (bosketref04_around_spec et17)) ?_
       refine AQ.c (Calm.move rfl rfl) ?_
       obtain ⟨hg18, hq14⟩ := of_guard hq14
       refine AQ.c (Calm.idxO 1 rfl rfl rfl rfl hg18 Tryd.underlying52 sz9) ?_
       refine AQ.c (Calm.load 1 rfl rfl rfl (At.cast (At.lidx (1 : Int) hg18.1 hg18.2 At.here) (by omega)) ag9 sz9) ?_
       refine AQ.c (Calm.move rfl rfl) ?_
       obtain ⟨hg19, hq14⟩ := of_guard hq14
       refine AQ.c (Calm.idxO 2 rfl rfl rfl rfl hg19 Tryd.underlying53 sz3) ?_
       refine AQ.c (Calm.load 2 rfl rfl rfl (At.cast (At.lidx (1 : Int) hg19.1 hg19.2 At.here) (by omega)) ag3 sz3) ?_
       refine AQ.c (x := eBool (decide ((lget x8 (1 : Int)) = (2 : Int)))) (Calm.int rfl rfl rfl rfl) ?_
       refine AQ.c (Calm.move rfl rfl) ?_
       rcases of_ite hq14 with ⟨hc20, hq14⟩ | ⟨hc20, hq14⟩
       ·refine AQ.sF rfl rfl (bD (decide_eq_true hc20)) ?_
        refine AQ.sF rfl rfl (bD (decide_eq_true hc20)) ?_
        refine AQ.sF rfl rfl (bD (decide_eq_true hc20)) ?_
        refine AQ.sF rfl rfl (bD (decide_eq_true hc20)) ?_
        refine AQ.c (Calm.pickT rfl (bD (decide_eq_true hc20)) rfl) ?_
        obtain ⟨t21, et21, hq14⟩ := of_bind hq14
        refine AQ.c (Calm.call (args := [(eStr (lget x6 (1 : Int))), (eBool true)]) rfl rfl ok23 ⟨rfl, rfl, rfl, rfl, trivial⟩ rfl (bosketref04_around_spec et21)) ?_
        obtain ⟨hg22, hq14⟩ := of_guard hq14
        refine AQ.c (x := eStr (t17 ++ t21)) (Calm.cat rfl rfl rfl hg22) ?_
        refine AQ.c (Calm.assign rfl rfl) ?_
        cases hq14
        refine AQ.nilE rfl ?_
        exact ⟨rfl, trivial⟩
       ·refine AQ.cG rfl rfl (bD (decide_eq_false hc20)) (Calm.move rfl rfl) ?_
        obtain ⟨hg23, hq14⟩ := of_guard hq14
        refine AQ.cG rfl rfl (bD (decide_eq_false hc20)) (Calm.idxO 2 rfl rfl rfl rfl hg23 Tryd.underlying53 sz3) ?_
        refine AQ.cG rfl rfl (bD (decide_eq_false hc20)) (Calm.load 2 rfl rfl rfl (At.cast (At.lidx (1 : Int) hg23.1 hg23.2 At.here) (by omega)) ag3 sz3) ?_
        refine AQ.cG (x := eBool (decide ((lget x8 (1 : Int)) = (3 : Int)))) rfl rfl (bD (decide_eq_false hc20)) (Calm.int rfl rfl rfl rfl) ?_
        refine AQ.c (Calm.pickF rfl (bD (decide_eq_false hc20)) rfl) ?_
        obtain ⟨t24, et24, hq14⟩ := of_bind hq14
        refine AQ.c (Calm.call (args := [(eStr (lget x6 (1 : Int))), (eBool (decide ((lget x8 (1 : Int)) = (3 : Int))))]) rfl rfl ok23 ⟨rfl, rfl, rfl, rfl, trivial⟩ rfl (bosketref04_around_spec et24)) ?_
        obtain ⟨hg25, hq14⟩ := of_guard hq14
        refine AQ.c (x := eStr (t17 ++ t24)) (Calm.cat rfl rfl rfl hg25) ?_
        refine AQ.c (Calm.assign rfl rfl) ?_
        cases hq14
        refine AQ.nilE rfl ?_
        exact ⟨rfl, trivial⟩
      ·refine AW.rH [2] (H' := []) (Sub.nil _) ?_
       have hr := Option.some.inj h
       subst hr
       exact ⟨[(eStr x13)], ⟨rfl, rfl, trivial⟩, rfl⟩
     ·refine AW.condN _ rfl hc12 ?_
      refine AW.sr ?_
      refine AO.c (x := eBool (decide (((lget p0 (w64 ((p0.length : Int) - (1 : Int)))).f0) = (3 : Int)))) (Calm.int rfl rfl rfl rfl) ?_
      refine AO.c (Calm.assign rfl rfl) ?_
      refine AO.nK [3, 5, 6, 80] ?_
      rcases of_ite h with ⟨hc26, h⟩ | ⟨hc26, h⟩
      ·refine AW.condP _ rfl hc26 ?_
       refine AW.seq ?_
       refine AW.regQ (by rfl) (by decide +kernel) ?_
       refine AQ.c (Calm.move rfl rfl) ?_
       obtain ⟨hg27, h⟩ := of_guard h
       refine AQ.c (Calm.idxO 1 rfl rfl rfl rfl hg27 Tryd.underlying52 sz9) ?_
       refine AQ.c (Calm.load 1 rfl rfl rfl (At.cast (At.lidx (0 : Int) hg27.1 hg27.2 At.here) (by omega)) ag9 sz9) ?_
       obtain ⟨hg28, h⟩ := of_guard h
       refine AQ.c (x := eStr ((lget x6 (0 : Int)) ++ (ByteArray.mk #[124]))) (Calm.cat rfl rfl rfl hg28) ?_
       refine AQ.c (Calm.move rfl rfl) ?_
       obtain ⟨hg29, h⟩ := of_guard h
       refine AQ.c (Calm.idxO 1 rfl rfl rfl rfl hg29 Tryd.underlying52 sz9) ?_
       refine AQ.c (Calm.load 1 rfl rfl rfl (At.cast (At.lidx (1 : Int) hg29.1 hg29.2 At.here) (by omega)) ag9 sz9) ?_
       refine AQ.c (Calm.move rfl rfl) ?_
       obtain ⟨hg30, h⟩ := of_guard h
       refine AQ.c (Calm.idxO 2 rfl rfl rfl rfl hg30 Tryd.underlying53 sz3) ?_
       refine AQ.c (Calm.load 2 rfl rfl rfl (At.cast (At.lidx (1 : Int) hg30.1 hg30.2 At.here) (by omega)) ag3 sz3) ?_
       refine AQ.c (x := eBool (decide ((lget x8 (1 : Int)) = (3 : Int)))) (Calm.int rfl rfl rfl rfl) ?_
       obtain ⟨t31, et31, h⟩ := of_bind h
       refine AQ.c (Calm.call (args := [(eStr (lget x6 (1 : Int))), (eBool (decide ((lget x8 (1 : Int)) = (3 : Int))))]) rfl rfl ok23 ⟨rfl, rfl, rfl, rfl, trivial⟩ rfl (bosketref04_around_spec et31)) ?_
       obtain ⟨hg32, h⟩ := of_guard h
       refine AQ.c (x := eStr (((lget x6 (0 : Int)) ++ (ByteArray.mk #[124])) ++ t31)) (Calm.cat rfl rfl rfl hg32) ?_
       refine AQ.c (Calm.assign rfl rfl) ?_
       refine AQ.nK [2] ?_
       refine AW.rH [2] (H' := []) (Sub.nil _) ?_
       have hr := Option.some.inj h
       subst hr
       exact ⟨[(eStr (((lget x6 (0 : Int)) ++ (ByteArray.mk #[124])) ++ t31))], ⟨rfl, rfl, trivial⟩, rfl⟩
      ·refine AW.condN _ rfl hc26 ?_
       refine AW.sK [3, 5, 6] ?_
       refine AW.seq ?_
       obtain ⟨hg33, h⟩ := of_guard h
       obtain ⟨hg34, h⟩ := of_guard h
       rcases of_ite h with ⟨hc35, h⟩ | ⟨hc35, h⟩
       ·obtain ⟨t36, et36, h⟩ := of_bind h
        obtain ⟨hg38, h⟩ := of_guard h
        obtain ⟨hg39, h⟩ := of_guard h
        refine AW.regEff (by rfl) (by decide +kernel) (fun (σ : Nat → Nat) => ([(.own n5 0 x6.length), (.ptr n5 ((0 : Int).toNat * 1 + 0)), (eStr (lget x6 (0 : Int))), (.own n7 0 x8.length), (.ptr n7 ((0 : Int).toNat * 1 + 0)), (eI64 (lget x8 (0 : Int))), (eBool (decide ((lget x8 (0 : Int)) = (2 : Int)))), (eBool (decide ((lget x8 (0 : Int)) = (2 : Int)))), (.fl undef), (.fl undef), (.fl undef), (.fl undef), (eBool true), (eStr t36), (.fz 1 (([(ByteArray.mk #[42]), (ByteArray.mk #[43]), (ByteArray.mk #[63])] : List ByteArray).map eStr)), (.ptr n3 0), (eI64 ((lget p0 (w64 ((p0.length : Int) - (1 : Int)))).f0)), (eI64 (w64 (((lget p0 (w64 ((p0.length : Int) - (1 : Int)))).f0) - (4 : Int)))), (.rp (eStr (lget ([(ByteArray.mk #[42]), (ByteArray.mk #[43]), (ByteArray.mk #[63])] : List ByteArray) (w64 (((lget p0 (w64 ((p0.length : Int) - (1 : Int)))).f0) - (4 : Int)))))), (eStr (lget ([(ByteArray.mk #[42]), (ByteArray.mk #[43]), (ByteArray.mk #[63])] : List ByteArray) (w64 (((lget p0 (w64 ((p0.length : Int) - (1 : Int)))).f0) - (4 : Int))))), (eStr (t36 ++ (lget ([(ByteArray.mk #[42]), (ByteArray.mk #[43]), (ByteArray.mk #[63])] : List ByteArray) (w64 (((lget p0 (w64 ((p0.length : Int) - (1 : Int)))).f0) - (4 : Int)))))), (eStr (t36 ++ (lget ([(ByteArray.mk #[42]), (ByteArray.mk #[43]), (ByteArray.mk #[63])] : List ByteArray) (w64 (((lget p0 (w64 ((p0.length : Int) - (1 : Int)))).f0) - (4 : Int))))))] : List AV)) (fun (L : Nat → Bool) (σ : Nat → Nat) => ((n3, (.mem (e40 (lget p0 (w64 ((p0.length : Int) - (1 : Int))))))) :: (n5, (.mem (.ar 1 (x6.map eStr)))) :: (n7, (.mem (.ar 1 (x8.map eI64)))) :: ([]) : Heap)) [(3, (.ptr n3 0)), (5, (.own n5 0 x6.length)), (6, (.own n7 0 x8.length))] ⟨rfl, rfl, rfl, trivial⟩ (fun _ => rfl) (fun σ => (Sub.refl _)) ⟨?_, ?_, ?_, ?_, ?_, ?_, ?_, ?_, ?_, ?_, ?_, ?_, ?_, ?_, ?_, ?_, ?_, ?_, ?_, ?_, ?_, ?_, trivial⟩ (fun σ => [(2, (eStr (t36 ++ (lget ([(ByteArray.mk #[42]), (ByteArray.mk #[43]), (ByteArray.mk #[63])] : List ByteArray) (w64 (((lget p0 (w64 ((p0.length : Int) - (1 : Int)))).f0) - (4 : Int)))))))]) (fun σ => ((n3, (.mem (e40 (lget p0 (w64 ((p0.length : Int) - (1 : Int))))))) :: (n5, (.mem (.ar 1 (x6.map eStr)))) :: (n7, (.mem (.ar 1 (x8.map eI64)))) :: [])) (fun σ => ⟨rfl, trivial⟩) (fun σ => Sub.refl _) (fun σ => ?_)
        ·refine StepE.calm (fun _ _ => rfl) fun L σ hc hi hd => ?_
         refine AO.wK [5] ?_
         refine AO.c (Calm.move rfl rfl) ?_
         exact AO.nE (d := 95) rfl ⟨⟨95, _, rfl, rfl, rfl⟩, Sub.refl _⟩
        ·refine StepE.calm (fun _ _ => rfl) fun L σ hc hi hd => ?_
         refine AO.wK [95] ?_
         refine AO.c (Calm.idxO 1 rfl rfl rfl rfl hg33 Tryd.underlying52 sz9) ?_
         exact AO.nE (d := 96) rfl ⟨⟨96, _, rfl, rfl, rfl⟩, Sub.refl _⟩
        ·refine StepE.calm (fun _ _ => rfl) fun L σ hc hi hd => ?_
         refine AO.wK [96] ?_
         refine AO.c (Calm.load 1 rfl rfl rfl (At.cast (At.lidx (0 : Int) hg33.1 hg33.2 At.here) (by omega)) ag9 sz9) ?_
         exact AO.nE (d := 97) rfl ⟨⟨97, _, rfl, rfl, rfl⟩, Sub.refl _⟩
        ·refine StepE.calm (fun _ _ => rfl) fun L σ hc hi hd => ?_
         refine AO.wK [6] ?_
         refine AO.c (Calm.move rfl rfl) ?_
         exact AO.nE (d := 98) rfl ⟨⟨98, _, rfl, rfl, rfl⟩, Sub.refl _⟩
        ·refine StepE.calm (fun _ _ => rfl) fun L σ hc hi hd => ?_
         refine AO.wK [98] ?_
         refine AO.c (Calm.idxO 2 rfl rfl rfl rfl hg34 Tryd.underlying53 sz3) ?_
         exact AO.nE (d := 99) rfl ⟨⟨99, _, rfl, rfl, rfl⟩, Sub.refl _⟩
        ·refine StepE.calm (fun _ _ => rfl) fun L σ hc hi hd => ?_
         refine AO.wK [99] ?_
         refine AO.c (Calm.load 2 rfl rfl rfl (At.cast (At.lidx (0 : Int) hg34.1 hg34.2 At.here) (by omega)) ag3 sz3) ?_
         exact AO.nE (d := 100) rfl ⟨⟨100, _, rfl, rfl, rfl⟩, Sub.refl _⟩
        ·refine StepE.calm (fun _ _ => rfl) fun L σ hc hi hd => ?_
         refine AO.wK [100] ?_
         refine AO.c (x := eBool (decide ((lget x8 (0 : Int)) = (2 : Int)))) (Calm.int rfl rfl rfl rfl) ?_
         exact AO.nE (d := 101) rfl ⟨⟨101, _, rfl, rfl, rfl⟩, Sub.refl _⟩
        ·refine StepE.calm (fun _ _ => rfl) fun L σ hc hi hd => ?_
         refine AO.wK [101] ?_
         refine AO.c (Calm.move rfl rfl) ?_
         exact AO.nE (d := 102) rfl ⟨⟨102, _, rfl, rfl, rfl⟩, Sub.refl _⟩
        ·refine StepE.calm (fun _ _ => rfl) fun L σ hc hi hd => ?_
         refine AO.wK [102] ?_
         refine AO.sF rfl rfl (bD (decide_eq_true hc35)) ?_
         exact AO.nE (d := 103) rfl ⟨⟨103, _, rfl, rfl, rfl⟩, Sub.refl _⟩
        ·refine StepE.calm (fun _ _ => rfl) fun L σ hc hi hd => ?_
         refine AO.wK [102] ?_
         refine AO.sF rfl rfl (bD (decide_eq_true hc35)) ?_
         exact AO.nE (d := 104) rfl ⟨⟨104, _, rfl, rfl, rfl⟩, Sub.refl _⟩
        ·refine StepE.calm (fun _ _ => rfl) fun L σ hc hi hd => ?_
         refine AO.wK [102] ?_
         refine AO.sF rfl rfl (bD (decide_eq_true hc35)) ?_
         exact AO.nE (d := 105) rfl ⟨⟨105, _, rfl, rfl, rfl⟩, Sub.refl _⟩
        ·refine StepE.calm (fun _ _ => rfl) fun L σ hc hi hd => ?_
         refine AO.wK [102] ?_
         refine AO.sF rfl rfl (bD (decide_eq_true hc35)) ?_
         exact AO.nE (d := 106) rfl ⟨⟨106, _, rfl, rfl, rfl⟩, Sub.refl _⟩
        ·refine StepE.calm (fun _ _ => rfl) fun L σ hc hi hd => ?_
         refine AO.wK [102, 106] ?_
         refine AO.c (Calm.pickT rfl (bD (decide_eq_true hc35)) rfl) ?_
         exact AO.nE (d := 107) rfl ⟨⟨107, _, rfl, rfl, rfl⟩, Sub.refl _⟩
        ·refine StepE.calm (fun _ _ => rfl) fun L σ hc hi hd => ?_
         refine AO.wK [97, 107] ?_
         refine AO.callS [(eStr (lget x6 (0 : Int))), (eBool true)] (eStr t36) 108 rfl (by decide) ok23 rfl rfl rfl ⟨rfl, rfl, rfl, rfl, trivial⟩ (bosketref04_around_spec et36) ?_
         exact AO.nE (d := 108) rfl ⟨⟨108, _, rfl, rfl, rfl⟩, Sub.refl _⟩
        ·refine StepE.calm (fun _ _ => rfl) fun L σ hc hi hd => ?_
         refine AO.wK [] ?_
         refine AO.lit (Z := (eStr ByteArray.empty)) (xs := (([(ByteArray.mk #[42]), (ByteArray.mk #[43]), (ByteArray.mk #[63])] : List ByteArray).map eStr)) (qs := [(0, (eStr (ByteArray.mk #[42]))), (1, (eStr (ByteArray.mk #[43]))), (2, (eStr (ByteArray.mk #[63])))]) rfl 109 rfl (by decide) rfl ⟨rfl, rfl, rfl, rfl, rfl, rfl, rfl, rfl, rfl, trivial⟩ Tryd.underlying52 sz9 zr9 lay9 rfl (by decide) (litOK (z := 1) [(eStr (ByteArray.mk #[42])), (eStr (ByteArray.mk #[43])), (eStr (ByteArray.mk #[63]))] rfl ⟨⟨rfl, rfl⟩, ⟨rfl, rfl⟩, ⟨rfl, rfl⟩, trivial⟩) rfl fun n37 => ?_
         refine AO.freezeS 0 [(109, (.fz 1 (([(ByteArray.mk #[42]), (ByteArray.mk #[43]), (ByteArray.mk #[63])] : List ByteArray).map eStr)))] rfl ⟨fz_all rfl, trivial⟩ ?_
         exact AO.nE (d := 109) rfl ⟨⟨109, _, rfl, rfl, rfl⟩, Sub.refl _⟩
        ·refine StepE.calm (fun _ _ => rfl) fun L σ hc hi hd => ?_
         refine AO.wK [3] ?_
         refine AO.c (x := .ptr n3 0) (Calm.fldPtr rfl rfl Tryd.underlying40 rfl sz3 _ rfl) ?_
         exact AO.nE (d := 110) rfl ⟨⟨110, _, rfl, rfl, rfl⟩, Sub.refl _⟩
        ·refine StepE.calm (fun _ _ => rfl) fun L σ hc hi hd => ?_
         refine AO.wK [110] ?_
         refine AO.c (Calm.load 0 rfl rfl rfl (At.cast (At.fld0 At.here) rfl) ag3 sz3) ?_
         exact AO.nE (d := 111) rfl ⟨⟨111, _, rfl, rfl, rfl⟩, Sub.refl _⟩
        ·refine StepE.calm (fun _ _ => rfl) fun L σ hc hi hd => ?_
         refine AO.wK [111] ?_
         refine AO.c (x := eI64 (w64 (((lget p0 (w64 ((p0.length : Int) - (1 : Int)))).f0) - (4 : Int)))) (Calm.int rfl rfl rfl rfl) ?_
         exact AO.nE (d := 112) rfl ⟨⟨112, _, rfl, rfl, rfl⟩, Sub.refl _⟩
        ·refine StepE.calm (fun _ _ => rfl) fun L σ hc hi hd => ?_
         refine AO.wK [109, 112] ?_
         refine AO.c (Calm.idxL (f := eStr) rfl rfl rfl hg38 Tryd.underlying52 sz9) ?_
         exact AO.nE (d := 113) rfl ⟨⟨113, _, rfl, rfl, rfl⟩, Sub.refl _⟩
        ·refine StepE.calm (fun _ _ => rfl) fun L σ hc hi hd => ?_
         refine AO.wK [113] ?_
         refine AO.c (Calm.loadRp rfl rfl ag9 sz9) ?_
         exact AO.nE (d := 114) rfl ⟨⟨114, _, rfl, rfl, rfl⟩, Sub.refl _⟩
        ·refine StepE.calm (fun _ _ => rfl) fun L σ hc hi hd => ?_
         refine AO.wK [108, 114] ?_
         refine AO.c (x := eStr (t36 ++ (lget ([(ByteArray.mk #[42]), (ByteArray.mk #[43]), (ByteArray.mk #[63])] : List ByteArray) (w64 (((lget p0 (w64 ((p0.length : Int) - (1 : Int)))).f0) - (4 : Int)))))) (Calm.cat rfl rfl rfl hg39) ?_
         exact AO.nE (d := 115) rfl ⟨⟨115, _, rfl, rfl, rfl⟩, Sub.refl _⟩
        ·refine StepE.calm (fun _ _ => rfl) fun L σ hc hi hd => ?_
         refine AO.wK [115] ?_
         refine AO.c (Calm.assign rfl rfl) ?_
         exact AO.nE (d := 2) rfl ⟨⟨2, _, rfl, rfl, rfl⟩, Sub.refl _⟩
        ·refine AO.nH [2] (H' := []) (Sub.nil _) ?_
         refine AW.rK [2] ?_
         have hr := Option.some.inj h
         subst hr
         exact ⟨[(eStr (t36 ++ (lget ([(ByteArray.mk #[42]), (ByteArray.mk #[43]), (ByteArray.mk #[63])] : List ByteArray) (w64 (((lget p0 (w64 ((p0.length : Int) - (1 : Int)))).f0) - (4 : Int))))))], ⟨rfl, rfl, trivial⟩, rfl⟩
       ·obtain ⟨hg40, h⟩ := of_guard h
        obtain ⟨t41, et41, h⟩ := of_bind h
        obtain ⟨hg43, h⟩ := of_guard h
        obtain ⟨hg44, h⟩ := of_guard h
        refine AW.regEff (by rfl) (by decide +kernel) (fun (σ : Nat → Nat) => ([(.own n5 0 x6.length), (.ptr n5 ((0 : Int).toNat * 1 + 0)), (eStr (lget x6 (0 : Int))), (.own n7 0 x8.length), (.ptr n7 ((0 : Int).toNat * 1 + 0)), (eI64 (lget x8 (0 : Int))), (eBool (decide ((lget x8 (0 : Int)) = (2 : Int)))), (eBool (decide ((lget x8 (0 : Int)) = (2 : Int)))), (.own n7 0 x8.length), (.ptr n7 ((0 : Int).toNat * 1 + 0)), (eI64 (lget x8 (0 : Int))), (eBool (decide ((lget x8 (0 : Int)) = (3 : Int)))), (eBool (decide ((lget x8 (0 : Int)) = (3 : Int)))), (eStr t41), (.fz 1 (([(ByteArray.mk #[42]), (ByteArray.mk #[43]), (ByteArray.mk #[63])] : List ByteArray).map eStr)), (.ptr n3 0), (eI64 ((lget p0 (w64 ((p0.length : Int) - (1 : Int)))).f0)), (eI64 (w64 (((lget p0 (w64 ((p0.length : Int) - (1 : Int)))).f0) - (4 : Int)))), (.rp (eStr (lget ([(ByteArray.mk #[42]), (ByteArray.mk #[43]), (ByteArray.mk #[63])] : List ByteArray) (w64 (((lget p0 (w64 ((p0.length : Int) - (1 : Int)))).f0) - (4 : Int)))))), (eStr (lget ([(ByteArray.mk #[42]), (ByteArray.mk #[43]), (ByteArray.mk #[63])] : List ByteArray) (w64 (((lget p0 (w64 ((p0.length : Int) - (1 : Int)))).f0) - (4 : Int))))), (eStr (t41 ++ (lget ([(ByteArray.mk #[42]), (ByteArray.mk #[43]), (ByteArray.mk #[63])] : List ByteArray) (w64 (((lget p0 (w64 ((p0.length : Int) - (1 : Int)))).f0) - (4 : Int)))))), (eStr (t41 ++ (lget ([(ByteArray.mk #[42]), (ByteArray.mk #[43]), (ByteArray.mk #[63])] : List ByteArray) (w64 (((lget p0 (w64 ((p0.length : Int) - (1 : Int)))).f0) - (4 : Int))))))] : List AV)) (fun (L : Nat → Bool) (σ : Nat → Nat) => ((n3, (.mem (e40 (lget p0 (w64 ((p0.length : Int) - (1 : Int))))))) :: (n5, (.mem (.ar 1 (x6.map eStr)))) :: (n7, (.mem (.ar 1 (x8.map eI64)))) :: ([]) : Heap)) [(3, (.ptr n3 0)), (5, (.own n5 0 x6.length)), (6, (.own n7 0 x8.length))] ⟨rfl, rfl, rfl, trivial⟩ (fun _ => rfl) (fun σ => (Sub.refl _)) ⟨?_, ?_, ?_, ?_, ?_, ?_, ?_, ?_, ?_, ?_, ?_, ?_, ?_, ?_, ?_, ?_, ?_, ?_, ?_, ?_, ?_, ?_, trivial⟩ (fun σ => [(2, (eStr (t41 ++ (lget ([(ByteArray.mk #[42]), (ByteArray.mk #[43]), (ByteArray.mk #[63])] : List ByteArray) (w64 (((lget p0 (w64 ((p0.length : Int) - (1 : Int)))).f0) - (4 : Int)))))))]) (fun σ => ((n3, (.mem (e40 (lget p0 (w64 ((p0.length : Int) - (1 : Int))))))) :: (n5, (.mem (.ar 1 (x6.map eStr)))) :: (n7, (.mem (.ar 1 (x8.map eI64)))) :: [])) (fun σ => ⟨rfl, trivial⟩) (fun σ => Sub.refl _) (fun σ => ?_)
        ·refine StepE.calm (fun _ _ => rfl) fun L σ hc hi hd => ?_
         refine AO.wK [5] ?_
         refine AO.c (Calm.move rfl rfl) ?_
         exact AO.nE (d := 95) rfl ⟨⟨95, _, rfl, rfl, rfl⟩, Sub.refl _⟩
        ·refine StepE.calm (fun _ _ => rfl) fun L σ hc hi hd => ?_
         refine AO.wK [95] ?_
         refine AO.c (Calm.idxO 1 rfl rfl rfl rfl hg33 Tryd.underlying52 sz9) ?_
         exact AO.nE (d := 96) rfl ⟨⟨96, _, rfl, rfl, rfl⟩, Sub.refl _⟩
        ·refine StepE.calm (fun _ _ => rfl) fun L σ hc hi hd => ?_
         refine AO.wK [96] ?_
         refine AO.c (Calm.load 1 rfl rfl rfl (At.cast (At.lidx (0 : Int) hg33.1 hg33.2 At.here) (by omega)) ag9 sz9) ?_
         exact AO.nE (d := 97) rfl ⟨⟨97, _, rfl, rfl, rfl⟩, Sub.refl _⟩
        ·refine StepE.calm (fun _ _ => rfl) fun L σ hc hi hd => ?_
         refine AO.wK [6] ?_
         refine AO.c (Calm.move rfl rfl) ?_
         exact AO.nE (d := 98) rfl ⟨⟨98, _, rfl, rfl, rfl⟩, Sub.refl _⟩
        ·refine StepE.calm (fun _ _ => rfl) fun L σ hc hi hd => ?_
         refine AO.wK [98] ?_
         refine AO.c (Calm.idxO 2 rfl rfl rfl rfl hg34 Tryd.underlying53 sz3) ?_
         exact AO.nE (d := 99) rfl ⟨⟨99, _, rfl, rfl, rfl⟩, Sub.refl _⟩
        ·refine StepE.calm (fun _ _ => rfl) fun L σ hc hi hd => ?_
         refine AO.wK [99] ?_
         refine AO.c (Calm.load 2 rfl rfl rfl (At.cast (At.lidx (0 : Int) hg34.1 hg34.2 At.here) (by omega)) ag3 sz3) ?_
         exact AO.nE (d := 100) rfl ⟨⟨100, _, rfl, rfl, rfl⟩, Sub.refl _⟩
        ·refine StepE.calm (fun _ _ => rfl) fun L σ hc hi hd => ?_
         refine AO.wK [100] ?_
         refine AO.c (x := eBool (decide ((lget x8 (0 : Int)) = (2 : Int)))) (Calm.int rfl rfl rfl rfl) ?_
         exact AO.nE (d := 101) rfl ⟨⟨101, _, rfl, rfl, rfl⟩, Sub.refl _⟩
        ·refine StepE.calm (fun _ _ => rfl) fun L σ hc hi hd => ?_
         refine AO.wK [101] ?_
         refine AO.c (Calm.move rfl rfl) ?_
         exact AO.nE (d := 102) rfl ⟨⟨102, _, rfl, rfl, rfl⟩, Sub.refl _⟩
        ·refine StepE.calm (fun _ _ => rfl) fun L σ hc hi hd => ?_
         refine AO.wK [6, 102] ?_
         refine AO.cG rfl rfl (bD (decide_eq_false hc35)) (Calm.move rfl rfl) ?_
         exact AO.nE (d := 103) rfl ⟨⟨103, _, rfl, rfl, rfl⟩, Sub.refl _⟩
        ·refine StepE.calm (fun _ _ => rfl) fun L σ hc hi hd => ?_
         refine AO.wK [102, 103] ?_
         refine AO.cG rfl rfl (bD (decide_eq_false hc35)) (Calm.idxO 2 rfl rfl rfl rfl hg40 Tryd.underlying53 sz3) ?_
         exact AO.nE (d := 104) rfl ⟨⟨104, _, rfl, rfl, rfl⟩, Sub.refl _⟩
        ·refine StepE.calm (fun _ _ => rfl) fun L σ hc hi hd => ?_
         refine AO.wK [102, 104] ?_
         refine AO.cG rfl rfl (bD (decide_eq_false hc35)) (Calm.load 2 rfl rfl rfl (At.cast (At.lidx (0 : Int) hg40.1 hg40.2 At.here) (by omega)) ag3 sz3) ?_
         exact AO.nE (d := 105) rfl ⟨⟨105, _, rfl, rfl, rfl⟩, Sub.refl _⟩
        ·refine StepE.calm (fun _ _ => rfl) fun L σ hc hi hd => ?_
         refine AO.wK [102, 105] ?_
         refine AO.cG (x := eBool (decide ((lget x8 (0 : Int)) = (3 : Int)))) rfl rfl (bD (decide_eq_false hc35)) (Calm.int rfl rfl rfl rfl) ?_
         exact AO.nE (d := 106) rfl ⟨⟨106, _, rfl, rfl, rfl⟩, Sub.refl _⟩
        ·refine StepE.calm (fun _ _ => rfl) fun L σ hc hi hd => ?_
         refine AO.wK [102, 106] ?_
         refine AO.c (Calm.pickF rfl (bD (decide_eq_false hc35)) rfl) ?_
         exact AO.nE (d := 107) rfl ⟨⟨107, _, rfl, rfl, rfl⟩, Sub.refl _⟩
        ·refine StepE.calm (fun _ _ => rfl) fun L σ hc hi hd => ?_
         refine AO.wK [97, 107] ?_
         refine AO.callS [(eStr (lget x6 (0 : Int))), (eBool (decide ((lget x8 (0 : Int)) = (3 : Int))))] (eStr t41) 108 rfl (by decide) ok23 rfl rfl rfl ⟨rfl, rfl, rfl, rfl, trivial⟩ (bosketref04_around_spec et41) ?_
         exact AO.nE (d := 108) rfl ⟨⟨108, _, rfl, rfl, rfl⟩, Sub.refl _⟩
        ·refine StepE.calm (fun _ _ => rfl) fun L σ hc hi hd => ?_
         refine AO.wK [] ?_
         refine AO.lit (Z := (eStr ByteArray.empty)) (xs := (([(ByteArray.mk #[42]), (ByteArray.mk #[43]), (ByteArray.mk #[63])] : List ByteArray).map eStr)) (qs := [(0, (eStr (ByteArray.mk #[42]))), (1, (eStr (ByteArray.mk #[43]))), (2, (eStr (ByteArray.mk #[63])))]) rfl 109 rfl (by decide) rfl ⟨rfl, rfl, rfl, rfl, rfl, rfl, rfl, rfl, rfl, trivial⟩ Tryd.underlying52 sz9 zr9 lay9 rfl (by decide) (litOK (z := 1) [(eStr (ByteArray.mk #[42])), (eStr (ByteArray.mk #[43])), (eStr (ByteArray.mk #[63]))] rfl ⟨⟨rfl, rfl⟩, ⟨rfl, rfl⟩, ⟨rfl, rfl⟩, trivial⟩) rfl fun n42 => ?_
         refine AO.freezeS 0 [(109, (.fz 1 (([(ByteArray.mk #[42]), (ByteArray.mk #[43]), (ByteArray.mk #[63])] : List ByteArray).map eStr)))] rfl ⟨fz_all rfl, trivial⟩ ?_
         exact AO.nE (d := 109) rfl ⟨⟨109, _, rfl, rfl, rfl⟩, Sub.refl _⟩
        ·refine StepE.calm (fun _ _ => rfl) fun L σ hc hi hd => ?_
         refine AO.wK [3] ?_
         refine AO.c (x := .ptr n3 0) (Calm.fldPtr rfl rfl Tryd.underlying40 rfl sz3 _ rfl) ?_
         exact AO.nE (d := 110) rfl ⟨⟨110, _, rfl, rfl, rfl⟩, Sub.refl _⟩
        ·refine StepE.calm (fun _ _ => rfl) fun L σ hc hi hd => ?_
         refine AO.wK [110] ?_
         refine AO.c (Calm.load 0 rfl rfl rfl (At.cast (At.fld0 At.here) rfl) ag3 sz3) ?_
         exact AO.nE (d := 111) rfl ⟨⟨111, _, rfl, rfl, rfl⟩, Sub.refl _⟩
        ·refine StepE.calm (fun _ _ => rfl) fun L σ hc hi hd => ?_
         refine AO.wK [111] ?_
         refine AO.c (x := eI64 (w64 (((lget p0 (w64 ((p0.length : Int) - (1 : Int)))).f0) - (4 : Int)))) (Calm.int rfl rfl rfl rfl) ?_
         exact AO.nE (d := 112) rfl ⟨⟨112, _, rfl, rfl, rfl⟩, Sub.refl _⟩
        ·refine StepE.calm (fun _ _ => rfl) fun L σ hc hi hd => ?_
         refine AO.wK [109, 112] ?_
         refine AO.c (Calm.idxL (f := eStr) rfl rfl rfl hg43 Tryd.underlying52 sz9) ?_
         exact AO.nE (d := 113) rfl ⟨⟨113, _, rfl, rfl, rfl⟩, Sub.refl _⟩
        ·refine StepE.calm (fun _ _ => rfl) fun L σ hc hi hd => ?_
         refine AO.wK [113] ?_
         refine AO.c (Calm.loadRp rfl rfl ag9 sz9) ?_
         exact AO.nE (d := 114) rfl ⟨⟨114, _, rfl, rfl, rfl⟩, Sub.refl _⟩
        ·refine StepE.calm (fun _ _ => rfl) fun L σ hc hi hd => ?_
         refine AO.wK [108, 114] ?_
         refine AO.c (x := eStr (t41 ++ (lget ([(ByteArray.mk #[42]), (ByteArray.mk #[43]), (ByteArray.mk #[63])] : List ByteArray) (w64 (((lget p0 (w64 ((p0.length : Int) - (1 : Int)))).f0) - (4 : Int)))))) (Calm.cat rfl rfl rfl hg44) ?_
         exact AO.nE (d := 115) rfl ⟨⟨115, _, rfl, rfl, rfl⟩, Sub.refl _⟩
        ·refine StepE.calm (fun _ _ => rfl) fun L σ hc hi hd => ?_
         refine AO.wK [115] ?_
         refine AO.c (Calm.assign rfl rfl) ?_
         exact AO.nE (d := 2) rfl ⟨⟨2, _, rfl, rfl, rfl⟩, Sub.refl _⟩
        ·refine AO.nH [2] (H' := []) (Sub.nil _) ?_
         refine AW.rK [2] ?_
         have hr := Option.some.inj h
         subst hr
         exact ⟨[(eStr (t41 ++ (lget ([(ByteArray.mk #[42]), (ByteArray.mk #[43]), (ByteArray.mk #[63])] : List ByteArray) (w64 (((lget p0 (w64 ((p0.length : Int) - (1 : Int)))).f0) - (4 : Int))))))], ⟨rfl, rfl, trivial⟩, rfl⟩
theorem bosketref04_Show_spec {k : Nat} {p0 : (List S40)} {r : ByteArray} (h : bosketref04_Show k p0 = some r) : Spec Tryd.prog 9 [(.fz 5 (p0.map e40))] (eStr r) := bosketref04_Show_spec' k k p0 r h
end Go.Avl.TE
/- bosket/bosketref04.Same; printed by avmain.py. -/
namespace Go.Avl.TE
open Go Go.RowKit Go.Proofs Go.Avl
set_option linter.unusedVariables false
set_option maxRecDepth 100000
set_option maxHeartbeats 4000000
attribute [local irreducible] AW AO AQ Spec SpecH Calm

def bosketref04_Same_c0 (k : Nat) : Option Bool :=
  some (true)
def bosketref04_Same_l1 (k : Nat) (p0 : (List S40)) (p1 : (List S40)) : Nat → Int → Option Bool
  | 0, _ => none
  | j + 1, x4 =>
    if x4 < (p0.length : Int) then if 0 ≤ x4 ∧ x4 < (p0.length : Int) then if 0 ≤ x4 ∧ x4 < (p1.length : Int) then if (!(decide ((lget p0 x4) = (lget p1 x4)))) = true then some (false)
    else (bosketref04_Same_l1 k p0 p1 j) (w64 (x4 + (1 : Int)))
    else none
    else none
    else bosketref04_Same_c0 k
def bosketref04_Same (k : Nat) (p0 : (List S40)) (p1 : (List S40)) : Option Bool :=
  if (p0.length : Int) ≠ (p1.length : Int) then some (false)
  else bosketref04_Same_l1 k p0 p1 k (0 : Int)
theorem bosketref04_Same_spec {k : Nat} {p0 : (List S40)} {p1 : (List S40)} {r : Bool} (h : bosketref04_Same k p0 p1 = some r) : Spec Tryd.prog 10 [(.fz 5 (p0.map e40)), (.fz 5 (p1.map e40))] (eBool r) := by
  rw [bosketref04_Same.eq_1] at h
  refine Spec.intro (res := [.tmp 4]) Tryd.func10 rfl rfl rfl (Nat.le_of_ble_eq_true rfl) ?_
  refine AW.sr ?_
  refine AO.c (Calm.assign rfl rfl) ?_
  refine AO.nK [0, 1] ?_
  refine AW.seq ?_
  refine AW.sr ?_
  refine AO.c (Calm.move rfl rfl) ?_
  refine AO.c (Calm.lenL rfl rfl Tryd.underlying23) ?_
  refine AO.c (Calm.move rfl rfl) ?_
  refine AO.c (Calm.lenL rfl rfl Tryd.underlying23) ?_
  refine AO.c (x := eBool (decide ((p0.length : Int) ≠ (p1.length : Int)))) (Calm.int rfl rfl rfl rfl) ?_
  refine AO.nK [0, 1, 10] ?_
  rcases of_ite h with ⟨hc3, h⟩ | ⟨hc3, h⟩
  ·refine AW.condP _ rfl hc3 ?_
   refine AW.sr ?_
   refine AO.c (Calm.assign rfl rfl) ?_
   refine AO.nK [4] ?_
   refine AW.rK [4] ?_
   have hr := Option.some.inj h
   subst hr
   exact ⟨[(eBool false)], ⟨rfl, rfl, trivial⟩, rfl⟩
  ·refine AW.condN _ rfl hc3 ?_
   refine AW.sK [0, 1] ?_
   refine AW.seq_mid (fun ρ H => ρ = [] ∧ H = [] ∧ bosketref04_Same_c0 k = some r) ?_ ?_
   ·refine AW.sr ?_
    refine AO.c (Calm.assign rfl rfl) ?_
    refine AO.nK [0, 1, 5] ?_
    refine AW.block ?_
    refine AW.wK [0, 1, 5] ?_
    refine AW.loop (fun kq ρ H => ∃ (x4 : Int), ρ = [(0, (.fz 5 (p0.map e40))), (1, (.fz 5 (p1.map e40))), (5, (eI64 x4))] ∧ H = [] ∧ bosketref04_Same_l1 k p0 p1 kq x4 = some r) k ⟨(0 : Int), rfl, rfl, h⟩ ?_
    rintro kq6 _ _ ⟨x4, rfl, rfl, h⟩
    cases kq6 with
    | zero => rw [bosketref04_Same_l1.eq_1] at h; cases h
    | succ kq6 =>
    rw [bosketref04_Same_l1.eq_2] at h
    generalize hrec5 : bosketref04_Same_l1 k p0 p1 kq6 = rec5 at h
    refine AW.seq ?_
    refine AW.sr ?_
    refine AO.c (Calm.move rfl rfl) ?_
    refine AO.c (Calm.move rfl rfl) ?_
    refine AO.c (Calm.lenL rfl rfl Tryd.underlying23) ?_
    refine AO.c (x := eBool (decide (x4 < (p0.length : Int)))) (Calm.int rfl rfl rfl rfl) ?_
    refine AO.nK [0, 1, 5, 14] ?_
    rcases of_ite h with ⟨hc7, h⟩ | ⟨hc7, h⟩
    ·refine AW.condP _ rfl hc7 ?_
     refine AW.sK [0, 1, 5] ?_
     refine AW.seq ?_
     refine AW.block ?_
     refine AW.seq ?_
     refine AW.regQ (by rfl) (by decide +kernel) ?_
     refine AQ.c (Calm.move rfl rfl) ?_
     refine AQ.c (Calm.move rfl rfl) ?_
     obtain ⟨hg8, h⟩ := of_guard h
     refine AQ.c (Calm.idxL (f := e40) rfl rfl rfl hg8 Tryd.underlying23 sz40) ?_
     refine AQ.c (Calm.loadRp rfl rfl ag40 sz40) ?_
     refine AQ.c (Calm.move rfl rfl) ?_
     refine AQ.c (Calm.move rfl rfl) ?_
     obtain ⟨hg9, h⟩ := of_guard h
     refine AQ.c (Calm.idxL (f := e40) rfl rfl rfl hg9 Tryd.underlying23 sz40) ?_
     refine AQ.c (Calm.loadRp rfl rfl ag40 sz40) ?_
     refine AQ.c (x := eBool (!(decide ((lget p0 x4) = (lget p1 x4))))) (Calm.neS rfl rfl rfl eg40 (eqk40 (lget p0 x4) (lget p1 x4)) (by decide)) ?_
     refine AQ.nK [0, 1, 5, 25] ?_
     rcases of_ite h with ⟨hc10, h⟩ | ⟨hc10, h⟩
     ·refine AW.condT' _ rfl hc10 ?_
      refine AW.sr ?_
      refine AO.c (Calm.assign rfl rfl) ?_
      refine AO.nK [4] ?_
      refine AW.rK [4] ?_
      have hr := Option.some.inj h
      subst hr
      exact ⟨[(eBool false)], ⟨rfl, rfl, trivial⟩, rfl⟩
     ·refine AW.condF' _ rfl hc10 ?_
      refine AW.sK [0, 1, 5] ?_
      refine AW.reg ?_
      refine AO.c (Calm.move rfl rfl) ?_
      refine AO.c (x := eI64 (w64 (x4 + (1 : Int)))) (Calm.int rfl rfl rfl rfl) ?_
      refine AO.c (Calm.assign rfl rfl) ?_
      refine AO.nK [0, 1, 5] ?_
      exact ⟨kq6, Nat.lt_succ_self _, (w64 (x4 + (1 : Int))), rfl, rfl, by rw [hrec5]; exact h⟩
    ·refine AW.condN _ rfl hc7 ?_
     refine AW.eK [] ?_
     exact ⟨rfl, rfl, h⟩
   ·rintro _ _ ⟨rfl, rfl, h⟩
    rw [bosketref04_Same_c0.eq_1] at h
    refine AW.sr ?_
    refine AO.c (Calm.assign rfl rfl) ?_
    refine AO.nK [4] ?_
    refine AW.rK [4] ?_
    have hr := Option.some.inj h
    subst hr
    exact ⟨[(eBool true)], ⟨rfl, rfl, trivial⟩, rfl⟩
end Go.Avl.TE
/- slices.Equal[bosket/api.Regex,bosket/api.Piece]; printed by avmain.py. -/
namespace Go.Avl.TE
open Go Go.RowKit Go.Proofs Go.Avl
set_option linter.unusedVariables false
set_option maxRecDepth 100000
set_option maxHeartbeats 4000000
attribute [local irreducible] AW AO AQ Spec SpecH Calm

def slices_Equal_api_Regex_api_Piece__c0 (k : Nat) : Option Bool :=
  some (true)
def slices_Equal_api_Regex_api_Piece__l1 (k : Nat) (p0 : (List S40)) (p1 : (List S40)) : Nat → Int → Option Bool
  | 0, _ => none
  | j + 1, x4 =>
    if x4 < (p0.length : Int) then if 0 ≤ x4 ∧ x4 < (p0.length : Int) then if 0 ≤ x4 ∧ x4 < (p1.length : Int) then if (!(decide ((lget p0 x4) = (lget p1 x4)))) = true then some (false)
    else (slices_Equal_api_Regex_api_Piece__l1 k p0 p1 j) (w64 (x4 + (1 : Int)))
    else none
    else none
    else slices_Equal_api_Regex_api_Piece__c0 k
def slices_Equal_api_Regex_api_Piece_ (k : Nat) (p0 : (List S40)) (p1 : (List S40)) : Option Bool :=
  if (p0.length : Int) ≠ (p1.length : Int) then some (false)
  else slices_Equal_api_Regex_api_Piece__l1 k p0 p1 k (0 : Int)
theorem slices_Equal_api_Regex_api_Piece__spec {k : Nat} {p0 : (List S40)} {p1 : (List S40)} {r : Bool} (h : slices_Equal_api_Regex_api_Piece_ k p0 p1 = some r) : Spec Tryd.prog 24 [(.fz 5 (p0.map e40)), (.fz 5 (p1.map e40))] (eBool r) := by
  rw [slices_Equal_api_Regex_api_Piece_.eq_1] at h
  refine Spec.intro (res := [.tmp 4]) Tryd.func24 rfl rfl rfl (Nat.le_of_ble_eq_true rfl) ?_
  refine AW.sr ?_
  refine AO.c (Calm.assign rfl rfl) ?_
  refine AO.nK [0, 1] ?_
  refine AW.seq ?_
  refine AW.sr ?_
  refine AO.c (Calm.move rfl rfl) ?_
  refine AO.c (Calm.lenL rfl rfl Tryd.underlying23) ?_
  refine AO.c (Calm.move rfl rfl) ?_
  refine AO.c (Calm.lenL rfl rfl Tryd.underlying23) ?_
  refine AO.c (x := eBool (decide ((p0.length : Int) ≠ (p1.length : Int)))) (Calm.int rfl rfl rfl rfl) ?_
  refine AO.nK [0, 1, 10] ?_
  rcases of_ite h with ⟨hc3, h⟩ | ⟨hc3, h⟩
  ·refine AW.condP _ rfl hc3 ?_
   refine AW.sr ?_
   refine AO.c (Calm.assign rfl rfl) ?_
   refine AO.nK [4] ?_
   refine AW.rK [4] ?_
   have hr := Option.some.inj h
   subst hr
   exact ⟨[(eBool false)], ⟨rfl, rfl, trivial⟩, rfl⟩
  ·refine AW.condN _ rfl hc3 ?_
   refine AW.sK [0, 1] ?_
   refine AW.seq_mid (fun ρ H => ρ = [] ∧ H = [] ∧ slices_Equal_api_Regex_api_Piece__c0 k = some r) ?_ ?_
   ·refine AW.sr ?_
    refine AO.c (Calm.move rfl rfl) ?_
    refine AO.c (Calm.lenL rfl rfl Tryd.underlying23) ?_
    refine AO.c (Calm.move rfl rfl) ?_
    refine AO.nK [0, 1, 12, 13] ?_
    refine AW.block ?_
    refine AW.wK [0, 1, 12, 13] ?_
    refine AW.loop (fun kq ρ H => ∃ (x4 : Int), ρ = [(0, (.fz 5 (p0.map e40))), (1, (.fz 5 (p1.map e40))), (12, (eI64 (p0.length : Int))), (13, (eI64 x4))] ∧ H = [] ∧ slices_Equal_api_Regex_api_Piece__l1 k p0 p1 kq x4 = some r) k ⟨(0 : Int), rfl, rfl, h⟩ ?_
    rintro kq6 _ _ ⟨x4, rfl, rfl, h⟩
    cases kq6 with
    | zero => rw [slices_Equal_api_Regex_api_Piece__l1.eq_1] at h; cases h
    | succ kq6 =>
    rw [slices_Equal_api_Regex_api_Piece__l1.eq_2] at h
    generalize hrec5 : slices_Equal_api_Regex_api_Piece__l1 k p0 p1 kq6 = rec5 at h
    refine AW.sr ?_
    refine AO.c (x := eBool (decide (x4 < (p0.length : Int)))) (Calm.int rfl rfl rfl rfl) ?_
    refine AO.nK [0, 1, 12, 13, 14] ?_
    refine AW.seq ?_
    rcases of_ite h with ⟨hc7, h⟩ | ⟨hc7, h⟩
    ·refine AW.condP _ rfl hc7 ?_
     refine AW.sK [0, 1, 12, 13] ?_
     refine AW.seq ?_
     refine AW.block ?_
     refine AW.sr ?_
     refine AO.c (Calm.move rfl rfl) ?_
     refine AO.c (Calm.assign rfl rfl) ?_
     refine AO.nK [0, 1, 5, 12, 13] ?_
     refine AW.seq ?_
     refine AW.regQ (by rfl) (by decide +kernel) ?_
     refine AQ.c (Calm.move rfl rfl) ?_
     refine AQ.c (Calm.move rfl rfl) ?_
     obtain ⟨hg8, h⟩ := of_guard h
     refine AQ.c (Calm.idxL (f := e40) rfl rfl rfl hg8 Tryd.underlying23 sz40) ?_
     refine AQ.c (Calm.loadRp rfl rfl ag40 sz40) ?_
     refine AQ.c (Calm.move rfl rfl) ?_
     refine AQ.c (Calm.move rfl rfl) ?_
     obtain ⟨hg9, h⟩ := of_guard h
     refine AQ.c (Calm.idxL (f := e40) rfl rfl rfl hg9 Tryd.underlying23 sz40) ?_
     refine AQ.c (Calm.loadRp rfl rfl ag40 sz40) ?_
     refine AQ.c (x := eBool (!(decide ((lget p0 x4) = (lget p1 x4))))) (Calm.neS rfl rfl rfl eg40 (eqk40 (lget p0 x4) (lget p1 x4)) (by decide)) ?_
     refine AQ.nK [0, 1, 12, 13, 24] ?_
     rcases of_ite h with ⟨hc10, h⟩ | ⟨hc10, h⟩
     ·refine AW.condT' _ rfl hc10 ?_
      refine AW.sr ?_
      refine AO.c (Calm.assign rfl rfl) ?_
      refine AO.nK [4] ?_
      refine AW.rK [4] ?_
      have hr := Option.some.inj h
      subst hr
      exact ⟨[(eBool false)], ⟨rfl, rfl, trivial⟩, rfl⟩
     ·refine AW.condF' _ rfl hc10 ?_
      refine AW.sK [0, 1, 12, 13] ?_
      refine AW.reg ?_
      refine AO.c (x := eI64 (w64 (x4 + (1 : Int)))) (Calm.int rfl rfl rfl rfl) ?_
      refine AO.c (Calm.move rfl rfl) ?_
      refine AO.nK [0, 1, 12, 13] ?_
      exact ⟨kq6, Nat.lt_succ_self _, (w64 (x4 + (1 : Int))), rfl, rfl, by rw [hrec5]; exact h⟩
    ·refine AW.condN _ rfl hc7 ?_
     refine AW.eK [] ?_
     exact ⟨rfl, rfl, h⟩
   ·rintro _ _ ⟨rfl, rfl, h⟩
    rw [slices_Equal_api_Regex_api_Piece__c0.eq_1] at h
    refine AW.sr ?_
    refine AO.c (Calm.assign rfl rfl) ?_
    refine AO.nK [4] ?_
    refine AW.rK [4] ?_
    have hr := Option.some.inj h
    subst hr
    exact ⟨[(eBool true)], ⟨rfl, rfl, trivial⟩, rfl⟩
end Go.Avl.TE
/- bosket/rex.Same; printed by avmain.py. -/
namespace Go.Avl.TE
open Go Go.RowKit Go.Proofs Go.Avl
set_option linter.unusedVariables false
set_option maxRecDepth 100000
set_option maxHeartbeats 4000000
attribute [local irreducible] AW AO AQ Spec SpecH Calm

def rex_Same (k : Nat) (p0 : (List S40)) (p1 : (List S40)) : Option Bool :=
  (slices_Equal_api_Regex_api_Piece_ k p0 p1).bind fun t3 =>
  some (t3)
theorem rex_Same_spec {k : Nat} {p0 : (List S40)} {p1 : (List S40)} {r : Bool} (h : rex_Same k p0 p1 = some r) : Spec Tryd.prog 11 [(.fz 5 (p0.map e40)), (.fz 5 (p1.map e40))] (eBool r) := by
  rw [rex_Same.eq_1] at h
  refine Spec.intro (res := [.tmp 4]) Tryd.func11 rfl rfl rfl (Nat.le_of_ble_eq_true rfl) ?_
  refine AW.sr ?_
  refine AO.c (Calm.assign rfl rfl) ?_
  refine AO.nK [0, 1] ?_
  refine AW.sr ?_
  refine AO.c (Calm.move rfl rfl) ?_
  refine AO.c (Calm.move rfl rfl) ?_
  obtain ⟨t3, et3, h⟩ := of_bind h
  refine AO.callS [(.fz 5 (p0.map e40)), (.fz 5 (p1.map e40))] (eBool t3) 7 rfl (by decide) ok24 rfl rfl rfl ⟨rfl, rfl, rfl, rfl, trivial⟩ (slices_Equal_api_Regex_api_Piece__spec et3) ?_
  refine AO.c (Calm.assign rfl rfl) ?_
  refine AO.nK [4] ?_
  refine AW.rK [4] ?_
  have hr := Option.some.inj h
  subst hr
  exact ⟨[(eBool t3)], ⟨rfl, rfl, trivial⟩, rfl⟩
end Go.Avl.TE
/- bosket/bosketlaw04.RexShows; printed by avmain.py. -/
namespace Go.Avl.TE
open Go Go.RowKit Go.Proofs Go.Avl
set_option linter.unusedVariables false
set_option maxRecDepth 100000
set_option maxHeartbeats 4000000
attribute [local irreducible] AW AO AQ Spec SpecH Calm

def bosketlaw04_RexShows (k : Nat) (p0 : (List S40)) : Option Bool :=
  (bosketlaw04_awake k).bind fun t2 =>
  if (!t2) = true then some (false)
  else Option.bind (α := Bool) (if (60 : Int) < (p0.length : Int) then some (true)
  else (bosketref04_Check k p0).bind fun t7 =>
  some (decide (t7 ≠ (0 : Int)))) fun b4 =>
  if b4 = true then some (true)
  else (rex_Show k p0).bind fun t9 =>
  (rex_Parse k t9).bind fun t10 =>
  (bosketref04_Show k p0).bind fun t11 =>
  if t9 ≠ t11 then some (false)
  else if (1600 : Int) < (t9.size : Int) then Option.bind (α := Bool) (if t10.2 = (6 : Int) then some (decide ((t10.1.length : Int) = (0 : Int)))
  else some (false)) fun b14 =>
  some (b14)
  else Option.bind (α := Bool) (if t10.2 = (0 : Int) then (bosketref04_Same k t10.1 p0).bind fun t20 =>
  if t20 = true then (rex_Same k t10.1 p0).bind fun t22 =>
  some (t22)
  else some (false)
  else some (false)) fun b17 =>
  some (b17)
theorem bosketlaw04_RexShows_spec {k : Nat} {p0 : (List S40)} {r : Bool} (h : bosketlaw04_RexShows k p0 = some r) : Spec Tryd.prog 3 [(.fz 5 (p0.map e40))] (eBool r) := by
  rw [bosketlaw04_RexShows.eq_1] at h
  refine Spec.intro (res := [.tmp 2]) Tryd.func3 rfl rfl rfl (Nat.le_of_ble_eq_true rfl) ?_
  refine AW.sr ?_
  refine AO.c (Calm.assign rfl rfl) ?_
  refine AO.nK [0] ?_
  refine AW.seq ?_
  refine AW.sr ?_
  obtain ⟨t2, et2, h⟩ := of_bind h
  refine AO.callS [] (eBool t2) 6 rfl (by decide) ok5 rfl rfl rfl trivial (bosketlaw04_awake_spec et2) ?_
  refine AO.c (Calm.not rfl rfl) ?_
  refine AO.nK [0, 7] ?_
  rcases of_ite h with ⟨hc3, h⟩ | ⟨hc3, h⟩
  ·refine AW.condT' _ rfl hc3 ?_
   refine AW.sr ?_
   refine AO.c (Calm.assign rfl rfl) ?_
   refine AO.nK [2] ?_
   refine AW.rK [2] ?_
   have hr := Option.some.inj h
   subst hr
   exact ⟨[(eBool false)], ⟨rfl, rfl, trivial⟩, rfl⟩
  ·refine AW.condF' _ rfl hc3 ?_
   refine AW.sK [0] ?_
   refine AW.seq ?_
   refine AW.seq ?_
   obtain ⟨b4, hq5, h⟩ := of_bind h
   refine AW.regM [(0, (.fz 5 (p0.map e40))), (15, (eBool b4))] [] ?_ ?_
   ·refine AO.c (Calm.move rfl rfl) ?_
    refine AO.c (Calm.lenL rfl rfl Tryd.underlying23) ?_
    refine AO.c (x := eBool (decide ((60 : Int) < (p0.length : Int)))) (Calm.int rfl rfl rfl rfl) ?_
    refine AO.c (Calm.move rfl rfl) ?_
    rcases of_ite hq5 with ⟨hc6, hq5⟩ | ⟨hc6, hq5⟩
    ·refine AO.sF rfl rfl (bD (decide_eq_true hc6)) ?_
     refine AO.sF rfl rfl (bD (decide_eq_true hc6)) ?_
     refine AO.sF rfl rfl (bD (decide_eq_true hc6)) ?_
     refine AO.c (Calm.pickT rfl (bD (decide_eq_true hc6)) rfl) ?_
     cases hq5
     refine AO.nilE ⟨rfl, rfl⟩ ?_ ?_
     · exact ⟨rfl, rfl, trivial⟩
     · exact (Sub.refl _)
    ·refine AO.cG rfl rfl (bD (decide_eq_false hc6)) (Calm.move rfl rfl) ?_
     obtain ⟨t7, et7, hq5⟩ := of_bind hq5
     refine AO.callG 3 false 11 [(.fz 5 (p0.map e40))] (eI64 t7) 13 rfl (by decide) ok6 rfl rfl (bD (decide_eq_false hc6)) rfl rfl ⟨rfl, rfl, trivial⟩ (bosketref04_Check_spec et7) ?_
     refine AO.cG (x := eBool (decide (t7 ≠ (0 : Int)))) rfl rfl (bD (decide_eq_false hc6)) (Calm.int rfl rfl rfl rfl) ?_
     refine AO.c (Calm.pickF rfl (bD (decide_eq_false hc6)) rfl) ?_
     cases hq5
     refine AO.nilE ⟨rfl, rfl⟩ ?_ ?_
     · exact ⟨rfl, rfl, trivial⟩
     · exact (Sub.refl _)
   ·rcases of_ite h with ⟨hc8, h⟩ | ⟨hc8, h⟩
    ·refine AW.condT' _ rfl hc8 ?_
     refine AW.sr ?_
     refine AO.c (Calm.assign rfl rfl) ?_
     refine AO.nK [2] ?_
     refine AW.rK [2] ?_
     have hr := Option.some.inj h
     subst hr
     exact ⟨[(eBool true)], ⟨rfl, rfl, trivial⟩, rfl⟩
    ·refine AW.condF' _ rfl hc8 ?_
     refine AW.sK [0] ?_
     refine AW.sr ?_
     refine AO.c (Calm.move rfl rfl) ?_
     obtain ⟨t9, et9, h⟩ := of_bind h
     refine AO.callS [(.fz 5 (p0.map e40))] (eStr t9) 17 rfl (by decide) ok7 rfl rfl rfl ⟨rfl, rfl, trivial⟩ (rex_Show_spec et9) ?_
     refine AO.c (Calm.assign rfl rfl) ?_
     refine AO.nK [0, 3] ?_
     refine AW.sr ?_
     refine AO.c (Calm.move rfl rfl) ?_
     obtain ⟨t10, et10, h⟩ := of_bind h
     refine AO.callS [(eStr t9)] (.tup [(.fz 5 (t10.1.map e40)), (eI64 t10.2)]) 20 rfl (by decide) ok8 rfl rfl rfl ⟨rfl, rfl, trivial⟩ (rex_Parse_spec et10) ?_
     refine AO.c (Calm.move rfl rfl) ?_
     refine AO.c (Calm.extract rfl rfl rfl) ?_
     refine AO.c (Calm.extract rfl rfl rfl) ?_
     refine AO.c (Calm.assign rfl rfl) ?_
     refine AO.c (Calm.assign rfl rfl) ?_
     refine AO.nK [0, 3, 4, 5] ?_
     refine AW.seq ?_
     refine AW.sr ?_
     refine AO.c (Calm.move rfl rfl) ?_
     refine AO.c (Calm.move rfl rfl) ?_
     obtain ⟨t11, et11, h⟩ := of_bind h
     refine AO.callS [(.fz 5 (p0.map e40))] (eStr t11) 25 rfl (by decide) ok9 rfl rfl rfl ⟨rfl, rfl, trivial⟩ (bosketref04_Show_spec et11) ?_
     refine AO.c (x := eBool (decide (t9 ≠ t11))) (Calm.str rfl rfl rfl rfl) ?_
     refine AO.nK [0, 3, 4, 5, 26] ?_
     rcases of_ite h with ⟨hc12, h⟩ | ⟨hc12, h⟩
     ·refine AW.condP _ rfl hc12 ?_
      refine AW.sr ?_
      refine AO.c (Calm.assign rfl rfl) ?_
      refine AO.nK [2] ?_
      refine AW.rK [2] ?_
      have hr := Option.some.inj h
      subst hr
      exact ⟨[(eBool false)], ⟨rfl, rfl, trivial⟩, rfl⟩
     ·refine AW.condN _ rfl hc12 ?_
      refine AW.sK [0, 3, 4, 5] ?_
      refine AW.seq ?_
      refine AW.sr ?_
      refine AO.c (Calm.move rfl rfl) ?_
      refine AO.c (Calm.lenStr rfl rfl Tryd.underlying9) ?_
      refine AO.c (x := eBool (decide ((1600 : Int) < (t9.size : Int)))) (Calm.int rfl rfl rfl rfl) ?_
      refine AO.nK [0, 4, 5, 29] ?_
      rcases of_ite h with ⟨hc13, h⟩ | ⟨hc13, h⟩
      ·refine AW.condP _ rfl hc13 ?_
       refine AW.seq ?_
       obtain ⟨b14, hq15, h⟩ := of_bind h
       refine AW.regM [(2, (eBool b14))] [] ?_ ?_
       ·refine AO.c (Calm.move rfl rfl) ?_
        refine AO.c (x := eBool (decide (t10.2 = (6 : Int)))) (Calm.int rfl rfl rfl rfl) ?_
        refine AO.c (Calm.move rfl rfl) ?_
        rcases of_ite hq15 with ⟨hc16, hq15⟩ | ⟨hc16, hq15⟩
        ·refine AO.cG rfl rfl (bD (decide_eq_true hc16)) (Calm.move rfl rfl) ?_
         refine AO.cG rfl rfl (bD (decide_eq_true hc16)) (Calm.lenL rfl rfl Tryd.underlying23) ?_
         refine AO.cG (x := eBool (decide ((t10.1.length : Int) = (0 : Int)))) rfl rfl (bD (decide_eq_true hc16)) (Calm.int rfl rfl rfl rfl) ?_
         refine AO.c (Calm.pickT rfl (bD (decide_eq_true hc16)) rfl) ?_
         refine AO.c (Calm.assign rfl rfl) ?_
         cases hq15
         refine AO.nilE ⟨rfl, rfl⟩ ?_ ?_
         · exact ⟨rfl, trivial⟩
         · exact (Sub.refl _)
        ·refine AO.sT rfl rfl (bD (decide_eq_false hc16)) ?_
         refine AO.sT rfl rfl (bD (decide_eq_false hc16)) ?_
         refine AO.sT rfl rfl (bD (decide_eq_false hc16)) ?_
         refine AO.c (Calm.pickF rfl (bD (decide_eq_false hc16)) rfl) ?_
         refine AO.c (Calm.assign rfl rfl) ?_
         cases hq15
         refine AO.nilE ⟨rfl, rfl⟩ ?_ ?_
         · exact ⟨rfl, trivial⟩
         · exact (Sub.refl _)
       ·refine AW.rK [2] ?_
        have hr := Option.some.inj h
        subst hr
        exact ⟨[(eBool b14)], ⟨rfl, rfl, trivial⟩, rfl⟩
      ·refine AW.condN _ rfl hc13 ?_
       refine AW.sK [0, 4, 5] ?_
       refine AW.seq ?_
       obtain ⟨b17, hq18, h⟩ := of_bind h
       refine AW.regM [(2, (eBool b17))] [] ?_ ?_
       ·refine AO.c (Calm.move rfl rfl) ?_
        refine AO.c (x := eBool (decide (t10.2 = (0 : Int)))) (Calm.int rfl rfl rfl rfl) ?_
        refine AO.c (Calm.move rfl rfl) ?_
        rcases of_ite hq18 with ⟨hc19, hq18⟩ | ⟨hc19, hq18⟩
        ·refine AO.cG rfl rfl (bD (decide_eq_true hc19)) (Calm.move rfl rfl) ?_
         refine AO.cG rfl rfl (bD (decide_eq_true hc19)) (Calm.move rfl rfl) ?_
         obtain ⟨t20, et20, hq18⟩ := of_bind hq18
         refine AO.callG 2 true 39 [(.fz 5 (t10.1.map e40)), (.fz 5 (p0.map e40))] (eBool t20) 42 rfl (by decide) ok10 rfl rfl (bD (decide_eq_true hc19)) rfl rfl ⟨rfl, rfl, rfl, rfl, trivial⟩ (bosketref04_Same_spec et20) ?_
         refine AO.c (Calm.pickT rfl (bD (decide_eq_true hc19)) rfl) ?_
         refine AO.c (Calm.move rfl rfl) ?_
         rcases of_ite hq18 with ⟨hc21, hq18⟩ | ⟨hc21, hq18⟩
         ·refine AO.cG rfl rfl (bD hc21) (Calm.move rfl rfl) ?_
          refine AO.cG rfl rfl (bD hc21) (Calm.move rfl rfl) ?_
          obtain ⟨t22, et22, hq18⟩ := of_bind hq18
          refine AO.callG 7 true 44 [(.fz 5 (t10.1.map e40)), (.fz 5 (p0.map e40))] (eBool t22) 47 rfl (by decide) ok11 rfl rfl (bD hc21) rfl rfl ⟨rfl, rfl, rfl, rfl, trivial⟩ (rex_Same_spec et22) ?_
          refine AO.c (Calm.pickT rfl (bD hc21) rfl) ?_
          refine AO.c (Calm.assign rfl rfl) ?_
          cases hq18
          refine AO.nilE ⟨rfl, rfl⟩ ?_ ?_
          · exact ⟨rfl, trivial⟩
          · exact (Sub.refl _)
         ·refine AO.sT rfl rfl (bD (eq_false_of_ne_true hc21)) ?_
          refine AO.sT rfl rfl (bD (eq_false_of_ne_true hc21)) ?_
          refine AO.sT rfl rfl (bD (eq_false_of_ne_true hc21)) ?_
          refine AO.c (Calm.pickF rfl (bD (eq_false_of_ne_true hc21)) rfl) ?_
          refine AO.c (Calm.assign rfl rfl) ?_
          cases hq18
          refine AO.nilE ⟨rfl, rfl⟩ ?_ ?_
          · exact ⟨rfl, trivial⟩
          · exact (Sub.refl _)
        ·refine AO.sT rfl rfl (bD (decide_eq_false hc19)) ?_
         refine AO.sT rfl rfl (bD (decide_eq_false hc19)) ?_
         refine AO.sT rfl rfl (bD (decide_eq_false hc19)) ?_
         refine AO.c (Calm.pickF rfl (bD (decide_eq_false hc19)) rfl) ?_
         refine AO.c (Calm.move rfl rfl) ?_
         refine AO.sT rfl rfl rfl ?_
         refine AO.sT rfl rfl rfl ?_
         refine AO.sT rfl rfl rfl ?_
         refine AO.c (Calm.pickF rfl rfl rfl) ?_
         refine AO.c (Calm.assign rfl rfl) ?_
         cases hq18
         refine AO.nilE ⟨rfl, rfl⟩ ?_ ?_
         · exact ⟨rfl, trivial⟩
         · exact (Sub.refl _)
       ·refine AW.rK [2] ?_
        have hr := Option.some.inj h
        subst hr
        exact ⟨[(eBool b17)], ⟨rfl, rfl, trivial⟩, rfl⟩
end Go.Avl.TE
/- bosket/rex.Sets; printed by avmain.py. -/
namespace Go.Avl.TE
open Go Go.RowKit Go.Proofs Go.Avl
set_option linter.unusedVariables false
set_option maxRecDepth 100000
set_option maxHeartbeats 4000000
attribute [local irreducible] AW AO AQ Spec SpecH Calm

end Go.Avl.TE
/- bosket/bosketlaw04.RexChecks; printed by avmain.py. -/
namespace Go.Avl.TE
open Go Go.RowKit Go.Proofs Go.Avl
set_option linter.unusedVariables false
set_option maxRecDepth 100000
set_option maxHeartbeats 4000000
attribute [local irreducible] AW AO AQ Spec SpecH Calm

end Go.Avl.TE
