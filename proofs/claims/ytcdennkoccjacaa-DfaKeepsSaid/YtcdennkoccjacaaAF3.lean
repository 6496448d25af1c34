/- Parts: T3f28, T3f54, T3f55, T3f29. -/
import Derived.Test.YtcdennkoccjacaaAF1
import Derived.Test.YtcdennkoccjacaaAF2
/- bosket/bosketref08.Trim; printed by avmain.py. -/
namespace Go.Avl.T3
open Go Go.RowKit Go.Proofs Go.Avl
set_option linter.unusedVariables false
set_option maxRecDepth 100000
set_option maxHeartbeats 4000000
set_option linter.unusedSimpArgs false
attribute [local irreducible] AW AO AQ Spec SpecH Calm

def bosketref08_Trim_c0 (k : Nat) (p0 : S50) (x10 : (List (List Int))) : Option S50 :=
  some ((S50.mk p0.f0 x10 (([] : List Int) ++ p0.f2)))
def bosketref08_Trim_c1 (k : Nat) (rec14 : ((List (List Int)) → Int → Option S50)) (x13 : Int) (x18 : (List (List Int))) : Option S50 :=
  rec14 x18 (w64 (x13 + (1 : Int)))
def bosketref08_Trim_c2 (k : Nat) (rec14 : ((List (List Int)) → Int → Option S50)) (x12 : (List (List Int))) (x13 : Int) (x20 : (List Int)) : Option S50 :=
  if (x12 ++ ([x20] : List (List Int))).length * 24 ≤ 140737488355328 then bosketref08_Trim_c1 k rec14 x13 (x12 ++ ([x20] : List (List Int)))
  else none
def bosketref08_Trim_c3 (k : Nat) (rec27 : ((List Int) → Int → Option S50)) (x25 : (List Int)) (x26 : Int) (x33 : Int) : Option S50 :=
  if (x25 ++ ([x33] : List Int)).length * 8 ≤ 140737488355328 then rec27 (x25 ++ ([x33] : List Int)) (w64 (x26 + (1 : Int)))
  else none
def bosketref08_Trim_l4 (k : Nat) (rec14 : ((List (List Int)) → Int → Option S50)) (p0 : S50) (t4 : (List Bool)) (x12 : (List (List Int))) (x13 : Int) : Nat → (List Int) → Int → Option S50
  | 0, _, _ => none
  | j + 1, x25, x26 =>
    if 0 ≤ x13 ∧ x13 < (p0.f1.length : Int) then if x26 < ((lget p0.f1 x13).length : Int) then if 0 ≤ x13 ∧ x13 < (p0.f1.length : Int) then if 0 ≤ x26 ∧ x26 < ((lget p0.f1 x13).length : Int) then Option.bind (α := Bool) (if (0 : Int) ≤ (lget (lget p0.f1 x13) x26) then if 0 ≤ (lget (lget p0.f1 x13) x26) ∧ (lget (lget p0.f1 x13) x26) < (t4.length : Int) then some (!(lget t4 (lget (lget p0.f1 x13) x26)))
    else none
    else some (false)) fun b37 =>
    if b37 = true then bosketref08_Trim_c3 k (bosketref08_Trim_l4 k rec14 p0 t4 x12 x13 j) x25 x26 (-1 : Int)
    else bosketref08_Trim_c3 k (bosketref08_Trim_l4 k rec14 p0 t4 x12 x13 j) x25 x26 (lget (lget p0.f1 x13) x26)
    else none
    else none
    else bosketref08_Trim_c2 k rec14 x12 x13 x25
    else none
def bosketref08_Trim_l5 (k : Nat) (p0 : S50) (t4 : (List Bool)) : Nat → (List (List Int)) → Int → Option S50
  | 0, _, _ => none
  | j + 1, x12, x13 =>
    if x13 < (p0.f1.length : Int) then bosketref08_Trim_l4 k (bosketref08_Trim_l5 k p0 t4 j) p0 t4 x12 x13 k ([] : List Int) (0 : Int)
    else bosketref08_Trim_c0 k p0 x12
def bosketref08_Trim (k : Nat) (p0 : S50) : Option S50 :=
  (bosketref08_Alive k p0).bind fun t4 =>
  if (([] : List Int) ++ p0.f2).length * 8 ≤ 140737488355328 then bosketref08_Trim_l5 k p0 t4 k ([] : List (List Int)) (0 : Int)
  else none
def bosketref08_Trim_own_c0 (k : Nat) (p0 : S50) (x10 : (List (List Int))) : Option S50 :=
  some ((S50.mk p0.f0 x10 (([] : List Int) ++ p0.f2)))
def bosketref08_Trim_own_c1 (k : Nat) (rec14 : ((List (List Int)) → Int → Option S50)) (x13 : Int) (x18 : (List (List Int))) : Option S50 :=
  rec14 x18 (w64 (x13 + (1 : Int)))
def bosketref08_Trim_own_c2 (k : Nat) (rec14 : ((List (List Int)) → Int → Option S50)) (x12 : (List (List Int))) (x13 : Int) (x20 : (List Int)) : Option S50 :=
  if (x12 ++ ([x20] : List (List Int))).length * 24 ≤ 140737488355328 then bosketref08_Trim_own_c1 k rec14 x13 (x12 ++ ([x20] : List (List Int)))
  else none
def bosketref08_Trim_own_c3 (k : Nat) (rec27 : ((List Int) → Int → Option S50)) (x25 : (List Int)) (x26 : Int) (x33 : Int) : Option S50 :=
  if (x25 ++ ([x33] : List Int)).length * 8 ≤ 140737488355328 then rec27 (x25 ++ ([x33] : List Int)) (w64 (x26 + (1 : Int)))
  else none
def bosketref08_Trim_own_l4 (k : Nat) (rec14 : ((List (List Int)) → Int → Option S50)) (p0 : S50) (t4 : (List Bool)) (x12 : (List (List Int))) (x13 : Int) : Nat → (List Int) → Int → Option S50
  | 0, _, _ => none
  | j + 1, x25, x26 =>
    if 0 ≤ x13 ∧ x13 < (p0.f1.length : Int) then if x26 < ((lget p0.f1 x13).length : Int) then if 0 ≤ x13 ∧ x13 < (p0.f1.length : Int) then if 0 ≤ x26 ∧ x26 < ((lget p0.f1 x13).length : Int) then Option.bind (α := Bool) (if (0 : Int) ≤ (lget (lget p0.f1 x13) x26) then if 0 ≤ (lget (lget p0.f1 x13) x26) ∧ (lget (lget p0.f1 x13) x26) < (t4.length : Int) then some (!(lget t4 (lget (lget p0.f1 x13) x26)))
    else none
    else some (false)) fun b37 =>
    if b37 = true then bosketref08_Trim_own_c3 k (bosketref08_Trim_own_l4 k rec14 p0 t4 x12 x13 j) x25 x26 (-1 : Int)
    else bosketref08_Trim_own_c3 k (bosketref08_Trim_own_l4 k rec14 p0 t4 x12 x13 j) x25 x26 (lget (lget p0.f1 x13) x26)
    else none
    else none
    else bosketref08_Trim_own_c2 k rec14 x12 x13 x25
    else none
def bosketref08_Trim_own_l5 (k : Nat) (p0 : S50) (t4 : (List Bool)) : Nat → (List (List Int)) → Int → Option S50
  | 0, _, _ => none
  | j + 1, x12, x13 =>
    if x13 < (p0.f1.length : Int) then bosketref08_Trim_own_l4 k (bosketref08_Trim_own_l5 k p0 t4 j) p0 t4 x12 x13 k ([] : List Int) (0 : Int)
    else bosketref08_Trim_own_c0 k p0 x12
def bosketref08_Trim_own (k : Nat) (p0 : S50) : Option S50 :=
  (bosketref08_Alive k p0).bind fun t4 =>
  if (([] : List Int) ++ p0.f2).length * 8 ≤ 140737488355328 then bosketref08_Trim_own_l5 k p0 t4 k ([] : List (List Int)) (0 : Int)
  else none
theorem bosketref08_Trim_spec {k : Nat} {p0 : S50} {r : S50} (h : bosketref08_Trim k p0 = some r) : Spec Try.prog 28 [(e50 p0)] (e50 r) := by
  rw [bosketref08_Trim.eq_1] at h
  refine Spec.intro (res := [.cell 2 50]) Try.func28 rfl rfl rfl (Nat.le_of_ble_eq_true rfl) ?_
  refine AW.sr ?_
  refine AO.box rfl 1 rfl (by decide) rfl rfl rfl fun n2 => ?_
  refine AO.alloc rfl 2 rfl (by decide) rfl zr50 lay50 fun n3 => ?_
  refine AO.nH [1, 2] (H' := [(n2, (.mem (e50 p0))), (n3, (.mem (.st [(256, (.ar 1 ((Vector.replicate 256 (0 : Int)).toList.map eU8))), (1, (.fl (.slice none 0 0))), (1, (.fl (.slice none 0 0)))])))]) (Sub.cons 1 rfl (Sub.cons 0 rfl (Sub.nil _))) ?_
  refine AW.sr ?_
  refine AO.c (Calm.load 0 rfl rfl rfl (At.cast At.here rfl) ag50 sz50) ?_
  obtain ⟨t4, et4, h⟩ := of_bind h
  refine AO.callS [(e50 p0)] (.fz 1 (t4.map eBool)) 10 rfl (by decide) ok38 rfl rfl rfl ⟨rfl, rfl, trivial⟩ (bosketref08_Alive_spec et4) ?_
  refine AO.c (Calm.assign rfl rfl) ?_
  refine AO.nK [1, 2, 3] ?_
  refine AW.seq ?_
  obtain ⟨hg7, h⟩ := of_guard h
  refine AW.regEff (by rfl) (by decide +kernel) (fun (σ : Nat → Nat) => ([(.ptr n2 0), (.ar 1 (p0.f0.toList.map eU8)), (.own (σ 2) 0 ([] : List Int).length), (.ptr n2 257), (.fz 1 (p0.f2.map eI64)), (.own (σ 5) 0 (([] : List Int) ++ p0.f2).length), (.st [(256, (.ar 1 (p0.f0.toList.map eU8))), (1, (.fl (.slice none 0 0))), (1, (.own (σ 5) 0 (([] : List Int) ++ p0.f2).length))]), (.ptr (σ 7) 0), (.fl undef)] : List AV)) (fun (L : Nat → Bool) (σ : Nat → Nat) => ((n2, (.mem (e50 p0))) :: (n3, (.mem (.st [(256, (.ar 1 ((Vector.replicate 256 (0 : Int)).toList.map eU8))), (1, (.fl (.slice none 0 0))), (1, (.fl (.slice none 0 0)))]))) :: (bif L 2 then (bif L 5 then (bif L 7 then (bif L 8 then (((σ 7), (.mem (.st [(256, (.ar 1 (p0.f0.toList.map eU8))), (1, (.fl (.slice none 0 0))), (1, (.own (σ 5) 0 (([] : List Int) ++ p0.f2).length))]))) :: ((σ 5), (.mem (.ar 1 ((([] : List Int) ++ p0.f2).map eI64)))) :: []) else (((σ 7), (.mem (.st [(256, (.ar 1 ((Vector.replicate 256 (0 : Int)).toList.map eU8))), (1, (.fl (.slice none 0 0))), (1, (.fl (.slice none 0 0)))]))) :: ((σ 5), (.mem (.ar 1 ((([] : List Int) ++ p0.f2).map eI64)))) :: [])) else (((σ 5), (.mem (.ar 1 ((([] : List Int) ++ p0.f2).map eI64)))) :: [])) else (bif L 7 then (((σ 7), (.mem (.st [(256, (.ar 1 ((Vector.replicate 256 (0 : Int)).toList.map eU8))), (1, (.fl (.slice none 0 0))), (1, (.fl (.slice none 0 0)))]))) :: ((σ 2), (.mem (.ar 1 (([] : List Int).map eI64)))) :: []) else (((σ 2), (.mem (.ar 1 (([] : List Int).map eI64)))) :: []))) else (bif L 7 then (((σ 7), (.mem (.st [(256, (.ar 1 ((Vector.replicate 256 (0 : Int)).toList.map eU8))), (1, (.fl (.slice none 0 0))), (1, (.fl (.slice none 0 0)))]))) :: []) else ([]))) : Heap)) [(1, (.ptr n2 0)), (2, (.ptr n3 0)), (3, (.fz 1 (t4.map eBool)))] ⟨rfl, rfl, rfl, trivial⟩ (fun _ => rfl) (fun σ => (Sub.refl _)) ⟨?_, ?_, ?_, ?_, ?_, ?_, ?_, ?_, ?_, trivial⟩ (fun σ => [(1, (.ptr n2 0)), (2, (.ptr n3 0)), (3, (.fz 1 (t4.map eBool))), (4, (.ptr (σ 7) 0))]) (fun σ => ((n2, (.mem (e50 p0))) :: (n3, (.mem (.st [(256, (.ar 1 ((Vector.replicate 256 (0 : Int)).toList.map eU8))), (1, (.fl (.slice none 0 0))), (1, (.fl (.slice none 0 0)))]))) :: ((σ 7), (.mem (.st [(256, (.ar 1 (p0.f0.toList.map eU8))), (1, (.fl (.slice none 0 0))), (1, (.own (σ 5) 0 (([] : List Int) ++ p0.f2).length))]))) :: ((σ 5), (.mem (.ar 1 ((([] : List Int) ++ p0.f2).map eI64)))) :: [])) (fun σ => ⟨rfl, rfl, rfl, rfl, trivial⟩) (fun σ => Sub.refl _) (fun σ => ?_)
  ·refine StepE.calm (fun _ _ => rfl) fun L σ hc hi hd => ?_
   refine AO.wK [1] ?_
   refine AO.c (x := .ptr n2 0) (Calm.fldPtr rfl rfl Try.underlying50 rfl sz47 _ rfl) ?_
   exact AO.nE (d := 11) rfl ⟨⟨11, _, rfl, rfl, rfl⟩, Sub.refl _⟩
  ·refine StepE.calm (fun _ _ => rfl) fun L σ hc hi hd => ?_
   refine AO.wK [11] ?_
   refine AO.c (Calm.load 0 rfl rfl rfl (At.cast (At.fld0 At.here) rfl) ag47 (by rw [sz47]; simp [AV.size])) ?_
   exact AO.nE (d := 12) rfl ⟨⟨12, _, rfl, rfl, rfl⟩, Sub.refl _⟩
  ·intro L σ hc hi hd
   have m5 : L 5 = false := hc.neg (i := 2) (j := 5) rfl (by rfl) hi
   have m8 : L 8 = false := hc.neg (i := 2) (j := 8) rfl (by rfl) hi
   cases b7 : L 7 with
   | true =>
     refine AO.heq (H' := ((n2, (.mem (e50 p0))) :: (n3, (.mem (.st [(256, (.ar 1 ((Vector.replicate 256 (0 : Int)).toList.map eU8))), (1, (.fl (.slice none 0 0))), (1, (.fl (.slice none 0 0)))]))) :: ((σ 7), (.mem (.st [(256, (.ar 1 ((Vector.replicate 256 (0 : Int)).toList.map eU8))), (1, (.fl (.slice none 0 0))), (1, (.fl (.slice none 0 0)))]))) :: [])) (by first | rfl | simp only [hi, m5, b7, m8, cond_true, cond_false]) ?_
     refine AO.wK [] ?_
     refine AO.lit (Z := (eI64 (0 : Int))) (xs := (([] : List Int).map eI64)) (qs := []) rfl 13 rfl (by decide) rfl trivial Try.underlying43 sz3 zr3 lay3 rfl (by decide) (litOK (z := 1) [] rfl trivial) rfl fun n5 => ?_
     have a2 : addL L 2 2 = true := rfl
     have a5 : addL L 2 5 = false := m5
     have a7 : addL L 2 7 = true := b7
     have a8 : addL L 2 8 = false := m8
     have u2 : upd σ 2 n5 2 = n5 := rfl
     have u5 : upd σ 2 n5 5 = σ 5 := rfl
     have u7 : upd σ 2 n5 7 = σ 7 := rfl
     exact AO.nE (d := 13) rfl ⟨(upd σ 2 n5), (fun j hj => match j, hj with | 0, _ => rfl | 1, _ => rfl | 2, hj => Bool.noConfusion (hj.symm.trans hi) | 3, _ => rfl | 4, _ => rfl | 5, _ => rfl | 6, _ => rfl | 7, _ => rfl | 8, _ => rfl | _ + 9, _ => rfl), (fun d' hd' => ⟨_, rfl, by cases hd'; rfl⟩), Sub.of_eq (B := ((n2, (.mem (e50 p0))) :: (n3, (.mem (.st [(256, (.ar 1 ((Vector.replicate 256 (0 : Int)).toList.map eU8))), (1, (.fl (.slice none 0 0))), (1, (.fl (.slice none 0 0)))]))) :: ((σ 7), (.mem (.st [(256, (.ar 1 ((Vector.replicate 256 (0 : Int)).toList.map eU8))), (1, (.fl (.slice none 0 0))), (1, (.fl (.slice none 0 0)))]))) :: (n5, (.mem (.ar 1 (([] : List Int).map eI64)))) :: [])) (by simp only [a2, a5, a7, a8, u2, u5, u7, cond_true, cond_false]) (Sub.cons 1 rfl (Sub.cons 1 rfl (Sub.cons 1 rfl (Sub.cons 0 rfl (Sub.refl _)))))⟩
   | false =>
     refine AO.heq (H' := ((n2, (.mem (e50 p0))) :: (n3, (.mem (.st [(256, (.ar 1 ((Vector.replicate 256 (0 : Int)).toList.map eU8))), (1, (.fl (.slice none 0 0))), (1, (.fl (.slice none 0 0)))]))) :: [])) (by first | rfl | simp only [hi, m5, b7, m8, cond_true, cond_false]) ?_
     refine AO.wK [] ?_
     refine AO.lit (Z := (eI64 (0 : Int))) (xs := (([] : List Int).map eI64)) (qs := []) rfl 13 rfl (by decide) rfl trivial Try.underlying43 sz3 zr3 lay3 rfl (by decide) (litOK (z := 1) [] rfl trivial) rfl fun n5 => ?_
     have a2 : addL L 2 2 = true := rfl
     have a5 : addL L 2 5 = false := m5
     have a7 : addL L 2 7 = false := b7
     have a8 : addL L 2 8 = false := m8
     have u2 : upd σ 2 n5 2 = n5 := rfl
     have u5 : upd σ 2 n5 5 = σ 5 := rfl
     have u7 : upd σ 2 n5 7 = σ 7 := rfl
     exact AO.nE (d := 13) rfl ⟨(upd σ 2 n5), (fun j hj => match j, hj with | 0, _ => rfl | 1, _ => rfl | 2, hj => Bool.noConfusion (hj.symm.trans hi) | 3, _ => rfl | 4, _ => rfl | 5, _ => rfl | 6, _ => rfl | 7, _ => rfl | 8, _ => rfl | _ + 9, _ => rfl), (fun d' hd' => ⟨_, rfl, by cases hd'; rfl⟩), Sub.of_eq (B := ((n2, (.mem (e50 p0))) :: (n3, (.mem (.st [(256, (.ar 1 ((Vector.replicate 256 (0 : Int)).toList.map eU8))), (1, (.fl (.slice none 0 0))), (1, (.fl (.slice none 0 0)))]))) :: (n5, (.mem (.ar 1 (([] : List Int).map eI64)))) :: [])) (by simp only [a2, a5, a7, a8, u2, u5, u7, cond_true, cond_false]) (Sub.cons 1 rfl (Sub.cons 1 rfl (Sub.cons 0 rfl (Sub.refl _))))⟩
  ·refine StepE.calm (fun _ _ => rfl) fun L σ hc hi hd => ?_
   refine AO.wK [1] ?_
   refine AO.c (x := .ptr n2 257) (Calm.fldPtr rfl rfl Try.underlying50 rfl sz43 _ rfl) ?_
   exact AO.nE (d := 14) rfl ⟨⟨14, _, rfl, rfl, rfl⟩, Sub.refl _⟩
  ·refine StepE.calm (fun _ _ => rfl) fun L σ hc hi hd => ?_
   refine AO.wK [14] ?_
   refine AO.c (Calm.load 0 rfl rfl rfl (At.cast (At.fldS (At.fldS (At.fld0 At.here))) rfl) ag43 sz43) ?_
   exact AO.nE (d := 15) rfl ⟨⟨15, _, rfl, rfl, rfl⟩, Sub.refl _⟩
  ·intro L σ hc hi hd
   have y2 : L 2 = true := on_get hd (i := 2) (by rfl)
   have m8 : L 8 = false := hc.neg (i := 5) (j := 8) rfl (by rfl) hi
   cases b7 : L 7 with
   | true =>
     refine AO.heq (H' := ((n2, (.mem (e50 p0))) :: (n3, (.mem (.st [(256, (.ar 1 ((Vector.replicate 256 (0 : Int)).toList.map eU8))), (1, (.fl (.slice none 0 0))), (1, (.fl (.slice none 0 0)))]))) :: ((σ 7), (.mem (.st [(256, (.ar 1 ((Vector.replicate 256 (0 : Int)).toList.map eU8))), (1, (.fl (.slice none 0 0))), (1, (.fl (.slice none 0 0)))]))) :: ((σ 2), (.mem (.ar 1 (([] : List Int).map eI64)))) :: [])) (by first | rfl | simp only [hi, y2, b7, m8, cond_true, cond_false]) ?_
     refine AO.wK [13, 15] ?_
     refine AO.appendL (l := ([] : List Int)) (m := p0.f2) 3 16 rfl (by decide) rfl rfl rfl rfl rfl Src.fz Try.underlying43 Try.underlying43 sz3 by3 zr3 rfl hg7 (by decide) fun n6 => ?_
     have a2 : addL L 5 2 = true := y2
     have a5 : addL L 5 5 = true := rfl
     have a7 : addL L 5 7 = true := b7
     have a8 : addL L 5 8 = false := m8
     have u2 : upd σ 5 n6 2 = σ 2 := rfl
     have u5 : upd σ 5 n6 5 = n6 := rfl
     have u7 : upd σ 5 n6 7 = σ 7 := rfl
     have m6 : L 6 = false := hc.neg (i := 5) (j := 6) rfl (by rfl) hi
     exact AO.nE (d := 16) rfl ⟨(upd σ 5 n6), (fun j hj => match j, hj with | 0, _ => rfl | 1, _ => rfl | 2, _ => rfl | 3, _ => rfl | 4, _ => rfl | 5, hj => Bool.noConfusion (hj.symm.trans hi) | 6, hj => Bool.noConfusion (hj.symm.trans m6) | 7, _ => rfl | 8, _ => rfl | _ + 9, _ => rfl), (fun d' hd' => ⟨_, rfl, by cases hd'; rfl⟩), Sub.of_eq (B := ((n2, (.mem (e50 p0))) :: (n3, (.mem (.st [(256, (.ar 1 ((Vector.replicate 256 (0 : Int)).toList.map eU8))), (1, (.fl (.slice none 0 0))), (1, (.fl (.slice none 0 0)))]))) :: ((σ 7), (.mem (.st [(256, (.ar 1 ((Vector.replicate 256 (0 : Int)).toList.map eU8))), (1, (.fl (.slice none 0 0))), (1, (.fl (.slice none 0 0)))]))) :: (n6, (.mem (.ar 1 ((([] : List Int) ++ p0.f2).map eI64)))) :: [])) (by simp only [a2, a5, a7, a8, u2, u5, u7, cond_true, cond_false]) (Sub.refl _)⟩
   | false =>
     refine AO.heq (H' := ((n2, (.mem (e50 p0))) :: (n3, (.mem (.st [(256, (.ar 1 ((Vector.replicate 256 (0 : Int)).toList.map eU8))), (1, (.fl (.slice none 0 0))), (1, (.fl (.slice none 0 0)))]))) :: ((σ 2), (.mem (.ar 1 (([] : List Int).map eI64)))) :: [])) (by first | rfl | simp only [hi, y2, b7, m8, cond_true, cond_false]) ?_
     refine AO.wK [13, 15] ?_
     refine AO.appendL (l := ([] : List Int)) (m := p0.f2) 2 16 rfl (by decide) rfl rfl rfl rfl rfl Src.fz Try.underlying43 Try.underlying43 sz3 by3 zr3 rfl hg7 (by decide) fun n6 => ?_
     have a2 : addL L 5 2 = true := y2
     have a5 : addL L 5 5 = true := rfl
     have a7 : addL L 5 7 = false := b7
     have a8 : addL L 5 8 = false := m8
     have u2 : upd σ 5 n6 2 = σ 2 := rfl
     have u5 : upd σ 5 n6 5 = n6 := rfl
     have u7 : upd σ 5 n6 7 = σ 7 := rfl
     have m6 : L 6 = false := hc.neg (i := 5) (j := 6) rfl (by rfl) hi
     exact AO.nE (d := 16) rfl ⟨(upd σ 5 n6), (fun j hj => match j, hj with | 0, _ => rfl | 1, _ => rfl | 2, _ => rfl | 3, _ => rfl | 4, _ => rfl | 5, hj => Bool.noConfusion (hj.symm.trans hi) | 6, hj => Bool.noConfusion (hj.symm.trans m6) | 7, _ => rfl | 8, _ => rfl | _ + 9, _ => rfl), (fun d' hd' => ⟨_, rfl, by cases hd'; rfl⟩), Sub.of_eq (B := ((n2, (.mem (e50 p0))) :: (n3, (.mem (.st [(256, (.ar 1 ((Vector.replicate 256 (0 : Int)).toList.map eU8))), (1, (.fl (.slice none 0 0))), (1, (.fl (.slice none 0 0)))]))) :: (n6, (.mem (.ar 1 ((([] : List Int) ++ p0.f2).map eI64)))) :: [])) (by simp only [a2, a5, a7, a8, u2, u5, u7, cond_true, cond_false]) (Sub.refl _)⟩
  ·refine StepE.calm (fun _ _ => rfl) fun L σ hc hi hd => ?_
   have y5 : L 5 = true := on_get hd (i := 5) (by rfl)
   have y2 : L 2 = true := hc.pos (i := 2) (j := 5) rfl (by rfl) y5
   have y5 : L 5 = true := on_get hd (i := 5) (by rfl)
   have m8 : L 8 = false := hc.neg (i := 6) (j := 8) rfl (by rfl) hi
   cases b7 : L 7 with
   | true =>
     refine AO.heq (H' := ((n2, (.mem (e50 p0))) :: (n3, (.mem (.st [(256, (.ar 1 ((Vector.replicate 256 (0 : Int)).toList.map eU8))), (1, (.fl (.slice none 0 0))), (1, (.fl (.slice none 0 0)))]))) :: ((σ 7), (.mem (.st [(256, (.ar 1 ((Vector.replicate 256 (0 : Int)).toList.map eU8))), (1, (.fl (.slice none 0 0))), (1, (.fl (.slice none 0 0)))]))) :: ((σ 5), (.mem (.ar 1 ((([] : List Int) ++ p0.f2).map eI64)))) :: [])) (by first | rfl | simp only [y2, y5, b7, m8, cond_true, cond_false]) ?_
     refine AO.wK [12, 16] ?_
     refine AO.c (x := .st [(256, (.ar 1 (p0.f0.toList.map eU8))), (1, (.fl (.slice none 0 0))), (1, (.own (σ 5) 0 (([] : List Int) ++ p0.f2).length))]) (Calm.build (qs := [(0, (.ar 1 (p0.f0.toList.map eU8))), (2, (.own (σ 5) 0 (([] : List Int) ++ p0.f2).length))]) rfl ⟨rfl, rfl, rfl, rfl, rfl, rfl, trivial⟩ Try.underlying50 rfl zr50 lay50 (.cons rfl rfl (vec_size _ _) (vec_size _ _) (Put.cast (Put.fld0 Put.here) rfl) (.cons rfl rfl rfl rfl (Put.cast (Put.fldS (Put.fldS (Put.fld0 Put.here))) rfl) .nil)) rfl) ?_
     exact AO.nE (d := 17) rfl ⟨⟨17, _, rfl, rfl, rfl⟩, Sub.of_eq (by first | rfl | simp only [y2, y5, b7, m8, cond_true, cond_false]) (Sub.refl _)⟩
   | false =>
     refine AO.heq (H' := ((n2, (.mem (e50 p0))) :: (n3, (.mem (.st [(256, (.ar 1 ((Vector.replicate 256 (0 : Int)).toList.map eU8))), (1, (.fl (.slice none 0 0))), (1, (.fl (.slice none 0 0)))]))) :: ((σ 5), (.mem (.ar 1 ((([] : List Int) ++ p0.f2).map eI64)))) :: [])) (by first | rfl | simp only [y2, y5, b7, m8, cond_true, cond_false]) ?_
     refine AO.wK [12, 16] ?_
     refine AO.c (x := .st [(256, (.ar 1 (p0.f0.toList.map eU8))), (1, (.fl (.slice none 0 0))), (1, (.own (σ 5) 0 (([] : List Int) ++ p0.f2).length))]) (Calm.build (qs := [(0, (.ar 1 (p0.f0.toList.map eU8))), (2, (.own (σ 5) 0 (([] : List Int) ++ p0.f2).length))]) rfl ⟨rfl, rfl, rfl, rfl, rfl, rfl, trivial⟩ Try.underlying50 rfl zr50 lay50 (.cons rfl rfl (vec_size _ _) (vec_size _ _) (Put.cast (Put.fld0 Put.here) rfl) (.cons rfl rfl rfl rfl (Put.cast (Put.fldS (Put.fldS (Put.fld0 Put.here))) rfl) .nil)) rfl) ?_
     exact AO.nE (d := 17) rfl ⟨⟨17, _, rfl, rfl, rfl⟩, Sub.of_eq (by first | rfl | simp only [y2, y5, b7, m8, cond_true, cond_false]) (Sub.refl _)⟩
  ·intro L σ hc hi hd
   have m8 : L 8 = false := hc.neg (i := 7) (j := 8) rfl (by rfl) hi
   cases b2 : L 2 with
   | true =>
     cases b5 : L 5 with
     | true =>
       refine AO.heq (H' := ((n2, (.mem (e50 p0))) :: (n3, (.mem (.st [(256, (.ar 1 ((Vector.replicate 256 (0 : Int)).toList.map eU8))), (1, (.fl (.slice none 0 0))), (1, (.fl (.slice none 0 0)))]))) :: ((σ 5), (.mem (.ar 1 ((([] : List Int) ++ p0.f2).map eI64)))) :: [])) (by first | rfl | simp only [hi, b2, b5, m8, cond_true, cond_false]) ?_
       refine AO.wK [] ?_
       refine AO.alloc rfl 4 rfl (by decide) rfl zr50 lay50 fun n8 => ?_
       have a2 : addL L 7 2 = true := b2
       have a5 : addL L 7 5 = true := b5
       have a7 : addL L 7 7 = true := rfl
       have a8 : addL L 7 8 = false := m8
       have u2 : upd σ 7 n8 2 = σ 2 := rfl
       have u5 : upd σ 7 n8 5 = σ 5 := rfl
       have u7 : upd σ 7 n8 7 = n8 := rfl
       exact AO.nE (d := 4) rfl ⟨(upd σ 7 n8), (fun j hj => match j, hj with | 0, _ => rfl | 1, _ => rfl | 2, _ => rfl | 3, _ => rfl | 4, _ => rfl | 5, _ => rfl | 6, _ => rfl | 7, hj => Bool.noConfusion (hj.symm.trans hi) | 8, _ => rfl | _ + 9, _ => rfl), (fun d' hd' => ⟨_, rfl, by cases hd'; rfl⟩), Sub.of_eq (B := ((n2, (.mem (e50 p0))) :: (n3, (.mem (.st [(256, (.ar 1 ((Vector.replicate 256 (0 : Int)).toList.map eU8))), (1, (.fl (.slice none 0 0))), (1, (.fl (.slice none 0 0)))]))) :: (n8, (.mem (.st [(256, (.ar 1 ((Vector.replicate 256 (0 : Int)).toList.map eU8))), (1, (.fl (.slice none 0 0))), (1, (.fl (.slice none 0 0)))]))) :: ((σ 5), (.mem (.ar 1 ((([] : List Int) ++ p0.f2).map eI64)))) :: [])) (by simp only [a2, a5, a7, a8, u2, u5, u7, cond_true, cond_false]) (Sub.cons 1 rfl (Sub.cons 1 rfl (Sub.cons 0 rfl (Sub.cons 0 rfl (Sub.refl _)))))⟩
     | false =>
       refine AO.heq (H' := ((n2, (.mem (e50 p0))) :: (n3, (.mem (.st [(256, (.ar 1 ((Vector.replicate 256 (0 : Int)).toList.map eU8))), (1, (.fl (.slice none 0 0))), (1, (.fl (.slice none 0 0)))]))) :: ((σ 2), (.mem (.ar 1 (([] : List Int).map eI64)))) :: [])) (by first | rfl | simp only [hi, b2, b5, m8, cond_true, cond_false]) ?_
       refine AO.wK [] ?_
       refine AO.alloc rfl 4 rfl (by decide) rfl zr50 lay50 fun n8 => ?_
       have a2 : addL L 7 2 = true := b2
       have a5 : addL L 7 5 = false := b5
       have a7 : addL L 7 7 = true := rfl
       have a8 : addL L 7 8 = false := m8
       have u2 : upd σ 7 n8 2 = σ 2 := rfl
       have u5 : upd σ 7 n8 5 = σ 5 := rfl
       have u7 : upd σ 7 n8 7 = n8 := rfl
       exact AO.nE (d := 4) rfl ⟨(upd σ 7 n8), (fun j hj => match j, hj with | 0, _ => rfl | 1, _ => rfl | 2, _ => rfl | 3, _ => rfl | 4, _ => rfl | 5, _ => rfl | 6, _ => rfl | 7, hj => Bool.noConfusion (hj.symm.trans hi) | 8, _ => rfl | _ + 9, _ => rfl), (fun d' hd' => ⟨_, rfl, by cases hd'; rfl⟩), Sub.of_eq (B := ((n2, (.mem (e50 p0))) :: (n3, (.mem (.st [(256, (.ar 1 ((Vector.replicate 256 (0 : Int)).toList.map eU8))), (1, (.fl (.slice none 0 0))), (1, (.fl (.slice none 0 0)))]))) :: (n8, (.mem (.st [(256, (.ar 1 ((Vector.replicate 256 (0 : Int)).toList.map eU8))), (1, (.fl (.slice none 0 0))), (1, (.fl (.slice none 0 0)))]))) :: ((σ 2), (.mem (.ar 1 (([] : List Int).map eI64)))) :: [])) (by simp only [a2, a5, a7, a8, u2, u5, u7, cond_true, cond_false]) (Sub.cons 1 rfl (Sub.cons 1 rfl (Sub.cons 0 rfl (Sub.cons 0 rfl (Sub.refl _)))))⟩
   | false =>
     have m5 : L 5 = false := hc.neg (i := 2) (j := 5) rfl (by rfl) b2
     refine AO.heq (H' := ((n2, (.mem (e50 p0))) :: (n3, (.mem (.st [(256, (.ar 1 ((Vector.replicate 256 (0 : Int)).toList.map eU8))), (1, (.fl (.slice none 0 0))), (1, (.fl (.slice none 0 0)))]))) :: [])) (by first | rfl | simp only [hi, b2, m5, m8, cond_true, cond_false]) ?_
     refine AO.wK [] ?_
     refine AO.alloc rfl 4 rfl (by decide) rfl zr50 lay50 fun n8 => ?_
     have a2 : addL L 7 2 = false := b2
     have a5 : addL L 7 5 = false := m5
     have a7 : addL L 7 7 = true := rfl
     have a8 : addL L 7 8 = false := m8
     have u2 : upd σ 7 n8 2 = σ 2 := rfl
     have u5 : upd σ 7 n8 5 = σ 5 := rfl
     have u7 : upd σ 7 n8 7 = n8 := rfl
     exact AO.nE (d := 4) rfl ⟨(upd σ 7 n8), (fun j hj => match j, hj with | 0, _ => rfl | 1, _ => rfl | 2, _ => rfl | 3, _ => rfl | 4, _ => rfl | 5, _ => rfl | 6, _ => rfl | 7, hj => Bool.noConfusion (hj.symm.trans hi) | 8, _ => rfl | _ + 9, _ => rfl), (fun d' hd' => ⟨_, rfl, by cases hd'; rfl⟩), Sub.of_eq (B := ((n2, (.mem (e50 p0))) :: (n3, (.mem (.st [(256, (.ar 1 ((Vector.replicate 256 (0 : Int)).toList.map eU8))), (1, (.fl (.slice none 0 0))), (1, (.fl (.slice none 0 0)))]))) :: (n8, (.mem (.st [(256, (.ar 1 ((Vector.replicate 256 (0 : Int)).toList.map eU8))), (1, (.fl (.slice none 0 0))), (1, (.fl (.slice none 0 0)))]))) :: [])) (by simp only [a2, a5, a7, a8, u2, u5, u7, cond_true, cond_false]) (Sub.cons 1 rfl (Sub.cons 1 rfl (Sub.cons 0 rfl (Sub.refl _))))⟩
  ·intro L σ hc hi hd
   have y2 : L 2 = true := on_get hd (i := 2) (by rfl)
   have y5 : L 5 = true := on_get hd (i := 5) (by rfl)
   have y7 : L 7 = true := on_get hd (i := 7) (by rfl)
   refine AO.heq (H' := ((n2, (.mem (e50 p0))) :: (n3, (.mem (.st [(256, (.ar 1 ((Vector.replicate 256 (0 : Int)).toList.map eU8))), (1, (.fl (.slice none 0 0))), (1, (.fl (.slice none 0 0)))]))) :: ((σ 7), (.mem (.st [(256, (.ar 1 ((Vector.replicate 256 (0 : Int)).toList.map eU8))), (1, (.fl (.slice none 0 0))), (1, (.fl (.slice none 0 0)))]))) :: ((σ 5), (.mem (.ar 1 ((([] : List Int) ++ p0.f2).map eI64)))) :: [])) (by first | rfl | simp only [hi, y2, y5, y7, cond_true, cond_false]) ?_
   refine AO.wK [4, 17] ?_
   refine AO.store (X' := (.st [(256, (.ar 1 (p0.f0.toList.map eU8))), (1, (.fl (.slice none 0 0))), (1, (.own (σ 5) 0 (([] : List Int) ++ p0.f2).length))])) 2 rfl rfl rfl rfl rfl rfl (Put.cast Put.here rfl) rfl rfl sz50 rfl ?_
   have a2 : addL L 8 2 = true := y2
   have a5 : addL L 8 5 = true := y5
   have a7 : addL L 8 7 = true := y7
   have a8 : addL L 8 8 = true := rfl
   exact AO.n0 ⟨σ, (fun _ _ => rfl), (fun d' hd' => by cases hd'), Sub.of_eq (B := ((n2, (.mem (e50 p0))) :: (n3, (.mem (.st [(256, (.ar 1 ((Vector.replicate 256 (0 : Int)).toList.map eU8))), (1, (.fl (.slice none 0 0))), (1, (.fl (.slice none 0 0)))]))) :: ((σ 7), (.mem (.st [(256, (.ar 1 (p0.f0.toList.map eU8))), (1, (.fl (.slice none 0 0))), (1, (.own (σ 5) 0 (([] : List Int) ++ p0.f2).length))]))) :: ((σ 5), (.mem (.ar 1 ((([] : List Int) ++ p0.f2).map eI64)))) :: [])) (by simp only [a2, a5, a7, a8, cond_true, cond_false]) (Sub.refl _)⟩
  ·generalize σ 2 = n5
   generalize σ 5 = n6
   generalize σ 7 = n8
   refine AO.nK [1, 2, 3, 4] ?_
   refine AW.seq_mid (fun ρ H => ∃ (n9 : Nat) (x10 : (List (List Int))), ρ = [(2, (.ptr n3 0)), (4, (.ptr n8 0))] ∧ H = [(n3, (.mem (.st [(256, (.ar 1 ((Vector.replicate 256 (0 : Int)).toList.map eU8))), (1, (.fl (.slice none 0 0))), (1, (.fl (.slice none 0 0)))]))), (n8, (.mem (.st [(256, (.ar 1 (p0.f0.toList.map eU8))), (1, (.own n9 0 x10.length)), (1, (.own n6 0 (([] : List Int) ++ p0.f2).length))]))), (n9, (.mem (.ar 1 (x10.map e43)))), (n6, (.mem (.ar 1 ((([] : List Int) ++ p0.f2).map eI64))))] ∧ bosketref08_Trim_c0 k p0 x10 = some r) ?_ ?_
   ·refine AW.sr ?_
    refine AO.c (Calm.assign rfl rfl) ?_
    refine AO.nK [1, 2, 3, 4, 5] ?_
    refine AW.block ?_
    refine AW.nilOwnFld 2 1 (fun n43 => (.st [(256, (.ar 1 (p0.f0.toList.map eU8))), (1, (.own n43 0 0)), (1, (.own n6 0 (([] : List Int) ++ p0.f2).length))])) rfl (fun _ => (Put.cast (Put.fldS (Put.fld0 Put.here)) rfl)) (fun _ => rfl) (fun _ => rfl) fun n43 => ?_
    refine AW.wH [1, 2, 3, 4, 5] (H' := [(n2, (.mem (e50 p0))), (n3, (.mem (.st [(256, (.ar 1 ((Vector.replicate 256 (0 : Int)).toList.map eU8))), (1, (.fl (.slice none 0 0))), (1, (.fl (.slice none 0 0)))]))), (n8, (.mem (.st [(256, (.ar 1 (p0.f0.toList.map eU8))), (1, (.own n43 0 ([] : List (List Int)).length)), (1, (.own n6 0 (([] : List Int) ++ p0.f2).length))]))), (n43, (.mem (.ar 1 (([] : List (List Int)).map e43)))), (n6, (.mem (.ar 1 ((([] : List Int) ++ p0.f2).map eI64))))]) (Sub.cons 1 rfl (Sub.cons 1 rfl (Sub.cons 1 rfl (Sub.cons 0 rfl (Sub.cons 0 rfl (Sub.nil _)))))) ?_
    refine AW.loop (fun kq ρ H => ∃ (n11 : Nat) (x12 : (List (List Int))) (x13 : Int), ρ = [(1, (.ptr n2 0)), (2, (.ptr n3 0)), (3, (.fz 1 (t4.map eBool))), (4, (.ptr n8 0)), (5, (eI64 x13))] ∧ H = [(n2, (.mem (e50 p0))), (n3, (.mem (.st [(256, (.ar 1 ((Vector.replicate 256 (0 : Int)).toList.map eU8))), (1, (.fl (.slice none 0 0))), (1, (.fl (.slice none 0 0)))]))), (n8, (.mem (.st [(256, (.ar 1 (p0.f0.toList.map eU8))), (1, (.own n11 0 x12.length)), (1, (.own n6 0 (([] : List Int) ++ p0.f2).length))]))), (n11, (.mem (.ar 1 (x12.map e43)))), (n6, (.mem (.ar 1 ((([] : List Int) ++ p0.f2).map eI64))))] ∧ bosketref08_Trim_l5 k p0 t4 kq x12 x13 = some r) k ⟨n43, ([] : List (List Int)), (0 : Int), rfl, rfl, h⟩ ?_
    rintro kq15 _ _ ⟨n11, x12, x13, rfl, rfl, h⟩
    cases kq15 with
    | zero => rw [bosketref08_Trim_l5.eq_1] at h; cases h
    | succ kq15 =>
    rw [bosketref08_Trim_l5.eq_2] at h
    generalize hrec14 : bosketref08_Trim_l5 k p0 t4 kq15 = rec14 at h
    refine AW.seq ?_
    refine AW.sr ?_
    refine AO.c (Calm.move rfl rfl) ?_
    refine AO.c (x := .ptr n2 256) (Calm.fldPtr rfl rfl Try.underlying50 rfl sz48 _ rfl) ?_
    refine AO.c (Calm.load 0 rfl rfl rfl (At.cast (At.fldS (At.fld0 At.here)) rfl) ag48 sz48) ?_
    refine AO.c (Calm.lenL rfl rfl Try.underlying48) ?_
    refine AO.c (x := eBool (decide (x13 < (p0.f1.length : Int)))) (Calm.int rfl rfl rfl rfl) ?_
    refine AO.nK [1, 2, 3, 4, 5, 22] ?_
    rcases of_ite h with ⟨hc16, h⟩ | ⟨hc16, h⟩
    ·refine AW.condP _ rfl hc16 ?_
     refine AW.sK [1, 2, 3, 4, 5] ?_
     refine AW.seq_mid (fun ρ H => ∃ (n17 : Nat) (x18 : (List (List Int))), ρ = [(1, (.ptr n2 0)), (2, (.ptr n3 0)), (3, (.fz 1 (t4.map eBool))), (4, (.ptr n8 0)), (5, (eI64 x13))] ∧ H = [(n2, (.mem (e50 p0))), (n3, (.mem (.st [(256, (.ar 1 ((Vector.replicate 256 (0 : Int)).toList.map eU8))), (1, (.fl (.slice none 0 0))), (1, (.fl (.slice none 0 0)))]))), (n8, (.mem (.st [(256, (.ar 1 (p0.f0.toList.map eU8))), (1, (.own n17 0 x18.length)), (1, (.own n6 0 (([] : List Int) ++ p0.f2).length))]))), (n17, (.mem (.ar 1 (x18.map e43)))), (n6, (.mem (.ar 1 ((([] : List Int) ++ p0.f2).map eI64))))] ∧ bosketref08_Trim_c1 k rec14 x13 x18 = some r) ?_ ?_
     ·refine AW.block ?_
      refine AW.sr ?_
      refine AO.c (Calm.assign rfl rfl) ?_
      refine AO.nK [1, 2, 3, 4, 5, 6] ?_
      refine AW.seq_mid (fun ρ H => ∃ (n19 : Nat) (x20 : (List Int)), ρ = [(1, (.ptr n2 0)), (2, (.ptr n3 0)), (3, (.fz 1 (t4.map eBool))), (4, (.ptr n8 0)), (5, (eI64 x13)), (6, (.own n19 0 x20.length))] ∧ H = [(n2, (.mem (e50 p0))), (n3, (.mem (.st [(256, (.ar 1 ((Vector.replicate 256 (0 : Int)).toList.map eU8))), (1, (.fl (.slice none 0 0))), (1, (.fl (.slice none 0 0)))]))), (n8, (.mem (.st [(256, (.ar 1 (p0.f0.toList.map eU8))), (1, (.own n11 0 x12.length)), (1, (.own n6 0 (([] : List Int) ++ p0.f2).length))]))), (n11, (.mem (.ar 1 (x12.map e43)))), (n6, (.mem (.ar 1 ((([] : List Int) ++ p0.f2).map eI64)))), (n19, (.mem (.ar 1 (x20.map eI64))))] ∧ bosketref08_Trim_c2 k rec14 x12 x13 x20 = some r) ?_ ?_
      ·refine AW.sr ?_
       refine AO.c (Calm.assign rfl rfl) ?_
       refine AO.nK [1, 2, 3, 4, 5, 6, 7] ?_
       refine AW.block ?_
       refine AW.nilOwn 6 1 rfl fun n42 => ?_
       refine AW.wH [1, 2, 3, 4, 5, 6, 7] (H' := [(n2, (.mem (e50 p0))), (n3, (.mem (.st [(256, (.ar 1 ((Vector.replicate 256 (0 : Int)).toList.map eU8))), (1, (.fl (.slice none 0 0))), (1, (.fl (.slice none 0 0)))]))), (n8, (.mem (.st [(256, (.ar 1 (p0.f0.toList.map eU8))), (1, (.own n11 0 x12.length)), (1, (.own n6 0 (([] : List Int) ++ p0.f2).length))]))), (n11, (.mem (.ar 1 (x12.map e43)))), (n6, (.mem (.ar 1 ((([] : List Int) ++ p0.f2).map eI64)))), (n42, (.mem (.ar 1 (([] : List Int).map eI64))))]) (Sub.cons 1 rfl (Sub.cons 1 rfl (Sub.cons 1 rfl (Sub.cons 1 rfl (Sub.cons 1 rfl (Sub.cons 0 rfl (Sub.nil _))))))) ?_
       refine AW.loop (fun kq ρ H => ∃ (n24 : Nat) (x25 : (List Int)) (x26 : Int), ρ = [(1, (.ptr n2 0)), (2, (.ptr n3 0)), (3, (.fz 1 (t4.map eBool))), (4, (.ptr n8 0)), (5, (eI64 x13)), (6, (.own n24 0 x25.length)), (7, (eI64 x26))] ∧ H = [(n2, (.mem (e50 p0))), (n3, (.mem (.st [(256, (.ar 1 ((Vector.replicate 256 (0 : Int)).toList.map eU8))), (1, (.fl (.slice none 0 0))), (1, (.fl (.slice none 0 0)))]))), (n8, (.mem (.st [(256, (.ar 1 (p0.f0.toList.map eU8))), (1, (.own n11 0 x12.length)), (1, (.own n6 0 (([] : List Int) ++ p0.f2).length))]))), (n11, (.mem (.ar 1 (x12.map e43)))), (n6, (.mem (.ar 1 ((([] : List Int) ++ p0.f2).map eI64)))), (n24, (.mem (.ar 1 (x25.map eI64))))] ∧ bosketref08_Trim_l4 k rec14 p0 t4 x12 x13 kq x25 x26 = some r) k ⟨n42, ([] : List Int), (0 : Int), rfl, rfl, h⟩ ?_
       rintro kq28 _ _ ⟨n24, x25, x26, rfl, rfl, h⟩
       cases kq28 with
       | zero => rw [bosketref08_Trim_l4.eq_1] at h; cases h
       | succ kq28 =>
       rw [bosketref08_Trim_l4.eq_2] at h
       generalize hrec27 : bosketref08_Trim_l4 k rec14 p0 t4 x12 x13 kq28 = rec27 at h
       refine AW.seq ?_
       refine AW.sr ?_
       refine AO.c (Calm.move rfl rfl) ?_
       refine AO.c (x := .ptr n2 256) (Calm.fldPtr rfl rfl Try.underlying50 rfl sz48 _ rfl) ?_
       refine AO.c (Calm.load 0 rfl rfl rfl (At.cast (At.fldS (At.fld0 At.here)) rfl) ag48 sz48) ?_
       refine AO.c (Calm.move rfl rfl) ?_
       obtain ⟨hg29, h⟩ := of_guard h
       refine AO.c (Calm.idxL (f := e43) rfl rfl rfl hg29 Try.underlying48 sz43) ?_
       refine AO.c (Calm.loadRp rfl rfl ag43 sz43) ?_
       refine AO.c (Calm.lenL rfl rfl Try.underlying43) ?_
       refine AO.c (x := eBool (decide (x26 < ((lget p0.f1 x13).length : Int)))) (Calm.int rfl rfl rfl rfl) ?_
       refine AO.nK [1, 2, 3, 4, 5, 6, 7, 32] ?_
       rcases of_ite h with ⟨hc30, h⟩ | ⟨hc30, h⟩
       ·refine AW.condP _ rfl hc30 ?_
        refine AW.sK [1, 2, 3, 4, 5, 6, 7] ?_
        refine AW.seq ?_
        refine AW.block ?_
        refine AW.sr ?_
        refine AO.c (x := .ptr n2 256) (Calm.fldPtr rfl rfl Try.underlying50 rfl sz48 _ rfl) ?_
        refine AO.c (Calm.load 0 rfl rfl rfl (At.cast (At.fldS (At.fld0 At.here)) rfl) ag48 sz48) ?_
        refine AO.c (Calm.move rfl rfl) ?_
        obtain ⟨hg31, h⟩ := of_guard h
        refine AO.c (Calm.idxL (f := e43) rfl rfl rfl hg31 Try.underlying48 sz43) ?_
        refine AO.c (Calm.loadRp rfl rfl ag43 sz43) ?_
        refine AO.c (Calm.move rfl rfl) ?_
        obtain ⟨hg32, h⟩ := of_guard h
        refine AO.c (Calm.idxL (f := eI64) rfl rfl rfl hg32 Try.underlying43 sz3) ?_
        refine AO.c (Calm.loadRp rfl rfl ag3 sz3) ?_
        refine AO.c (Calm.assign rfl rfl) ?_
        refine AO.nK [1, 2, 3, 4, 5, 6, 7, 8] ?_
        refine AW.seq_mid (fun ρ H => ∃ (x33 : Int), ρ = [(1, (.ptr n2 0)), (2, (.ptr n3 0)), (3, (.fz 1 (t4.map eBool))), (4, (.ptr n8 0)), (5, (eI64 x13)), (6, (.own n24 0 x25.length)), (7, (eI64 x26)), (8, (eI64 x33))] ∧ H = [(n2, (.mem (e50 p0))), (n3, (.mem (.st [(256, (.ar 1 ((Vector.replicate 256 (0 : Int)).toList.map eU8))), (1, (.fl (.slice none 0 0))), (1, (.fl (.slice none 0 0)))]))), (n8, (.mem (.st [(256, (.ar 1 (p0.f0.toList.map eU8))), (1, (.own n11 0 x12.length)), (1, (.own n6 0 (([] : List Int) ++ p0.f2).length))]))), (n11, (.mem (.ar 1 (x12.map e43)))), (n6, (.mem (.ar 1 ((([] : List Int) ++ p0.f2).map eI64)))), (n24, (.mem (.ar 1 (x25.map eI64))))] ∧ bosketref08_Trim_c3 k rec27 x25 x26 x33 = some r) ?_ ?_
        ·refine AW.seq ?_
         obtain ⟨b37, hq38, h⟩ := of_bind h
         refine AW.regM [(1, (.ptr n2 0)), (2, (.ptr n3 0)), (3, (.fz 1 (t4.map eBool))), (4, (.ptr n8 0)), (5, (eI64 x13)), (6, (.own n24 0 x25.length)), (7, (eI64 x26)), (8, (eI64 (lget (lget p0.f1 x13) x26))), (51, (eBool b37))] [(n2, (.mem (e50 p0))), (n3, (.mem (.st [(256, (.ar 1 ((Vector.replicate 256 (0 : Int)).toList.map eU8))), (1, (.fl (.slice none 0 0))), (1, (.fl (.slice none 0 0)))]))), (n8, (.mem (.st [(256, (.ar 1 (p0.f0.toList.map eU8))), (1, (.own n11 0 x12.length)), (1, (.own n6 0 (([] : List Int) ++ p0.f2).length))]))), (n11, (.mem (.ar 1 (x12.map e43)))), (n6, (.mem (.ar 1 ((([] : List Int) ++ p0.f2).map eI64)))), (n24, (.mem (.ar 1 (x25.map eI64))))] ?_ ?_
         ·refine AO.c (Calm.move rfl rfl) ?_
          refine AO.c (x := eBool (decide ((0 : Int) ≤ (lget (lget p0.f1 x13) x26)))) (Calm.int rfl rfl rfl rfl) ?_
          refine AO.c (Calm.move rfl rfl) ?_
          rcases of_ite hq38 with ⟨hc39, hq38⟩ | ⟨hc39, hq38⟩
          ·refine AO.cG rfl rfl (bD (decide_eq_true hc39)) (Calm.move rfl rfl) ?_
           refine AO.cG rfl rfl (bD (decide_eq_true hc39)) (Calm.move rfl rfl) ?_
           obtain ⟨hg40, hq38⟩ := of_guard hq38
           refine AO.cG rfl rfl (bD (decide_eq_true hc39)) (Calm.idxL (f := eBool) rfl rfl rfl hg40 Try.underlying25 sz4) ?_
           refine AO.cG rfl rfl (bD (decide_eq_true hc39)) (Calm.loadRp rfl rfl ag4 sz4) ?_
           refine AO.cG rfl rfl (bD (decide_eq_true hc39)) (Calm.not rfl rfl) ?_
           refine AO.c (Calm.pickT rfl (bD (decide_eq_true hc39)) rfl) ?_
           cases hq38
           refine AO.nilE ⟨rfl, rfl⟩ ?_ ?_
           · exact ⟨rfl, rfl, rfl, rfl, rfl, rfl, rfl, rfl, rfl, trivial⟩
           · exact (Sub.refl _)
          ·refine AO.sT rfl rfl (bD (decide_eq_false hc39)) ?_
           refine AO.sT rfl rfl (bD (decide_eq_false hc39)) ?_
           refine AO.sT rfl rfl (bD (decide_eq_false hc39)) ?_
           refine AO.sT rfl rfl (bD (decide_eq_false hc39)) ?_
           refine AO.sT rfl rfl (bD (decide_eq_false hc39)) ?_
           refine AO.c (Calm.pickF rfl (bD (decide_eq_false hc39)) rfl) ?_
           cases hq38
           refine AO.nilE ⟨rfl, rfl⟩ ?_ ?_
           · exact ⟨rfl, rfl, rfl, rfl, rfl, rfl, rfl, rfl, rfl, trivial⟩
           · exact (Sub.refl _)
         ·rcases of_ite h with ⟨hc41, h⟩ | ⟨hc41, h⟩
          ·refine AW.condT' _ rfl hc41 ?_
           refine AW.reg ?_
           refine AO.c (Calm.assign rfl rfl) ?_
           refine AO.nK [1, 2, 3, 4, 5, 6, 7, 8] ?_
           exact ⟨(-1 : Int), rfl, rfl, h⟩
          ·refine AW.condF' _ rfl hc41 ?_
           refine AW.sK [1, 2, 3, 4, 5, 6, 7, 8] ?_
           exact ⟨(lget (lget p0.f1 x13) x26), rfl, rfl, h⟩
        ·rintro _ _ ⟨x33, rfl, rfl, h⟩
         rw [bosketref08_Trim_c3.eq_1] at h
         refine AW.reg ?_
         refine AO.c (Calm.move rfl rfl) ?_
         refine AO.c (Calm.move rfl rfl) ?_
         refine AO.lit (Z := (eI64 (0 : Int))) (xs := (([x33] : List Int).map eI64)) (qs := [(0, (eI64 x33))]) rfl 54 rfl (by decide) rfl ⟨rfl, rfl, rfl, trivial⟩ Try.underlying43 sz3 zr3 lay3 rfl (by decide) (litOK (z := 1) [(eI64 x33)] rfl ⟨⟨rfl, rfl⟩, trivial⟩) rfl fun n34 => ?_
         obtain ⟨hg36, h⟩ := of_guard h
         refine AO.appendL (l := x25) (m := ([x33] : List Int)) 6 55 rfl (by decide) rfl rfl rfl rfl rfl (Src.ownL (f := eI64) (l := ([x33] : List Int)) 0 rfl) Try.underlying43 Try.underlying43 sz3 by3 zr3 rfl hg36 (by decide) fun n35 => ?_
         refine AO.c (Calm.assign rfl rfl) ?_
         refine AO.nH [1, 2, 3, 4, 5, 6, 7] (H' := [(n2, (.mem (e50 p0))), (n3, (.mem (.st [(256, (.ar 1 ((Vector.replicate 256 (0 : Int)).toList.map eU8))), (1, (.fl (.slice none 0 0))), (1, (.fl (.slice none 0 0)))]))), (n8, (.mem (.st [(256, (.ar 1 (p0.f0.toList.map eU8))), (1, (.own n11 0 x12.length)), (1, (.own n6 0 (([] : List Int) ++ p0.f2).length))]))), (n11, (.mem (.ar 1 (x12.map e43)))), (n6, (.mem (.ar 1 ((([] : List Int) ++ p0.f2).map eI64)))), (n35, (.mem (.ar 1 ((x25 ++ ([x33] : List Int)).map eI64))))]) (Sub.cons 1 rfl (Sub.cons 1 rfl (Sub.cons 1 rfl (Sub.cons 1 rfl (Sub.cons 1 rfl (Sub.cons 1 rfl (Sub.nil _))))))) ?_
         refine AW.reg ?_
         refine AO.c (Calm.move rfl rfl) ?_
         refine AO.c (x := eI64 (w64 (x26 + (1 : Int)))) (Calm.int rfl rfl rfl rfl) ?_
         refine AO.c (Calm.assign rfl rfl) ?_
         refine AO.nK [1, 2, 3, 4, 5, 6, 7] ?_
         exact ⟨kq28, Nat.lt_succ_self _, n35, (x25 ++ ([x33] : List Int)), (w64 (x26 + (1 : Int))), rfl, rfl, by rw [hrec27]; exact h⟩
       ·refine AW.condN _ rfl hc30 ?_
        refine AW.eK [1, 2, 3, 4, 5, 6] ?_
        exact ⟨n24, x25, rfl, rfl, h⟩
      ·rintro _ _ ⟨n19, x20, rfl, rfl, h⟩
       rw [bosketref08_Trim_c2.eq_1] at h
       refine AW.reg ?_
       refine AO.c (x := .ptr n8 256) (Calm.fldPtr rfl rfl Try.underlying50 rfl sz48 _ rfl) ?_
       refine AO.c (Calm.load 2 rfl rfl rfl (At.cast (At.fldS (At.fld0 At.here)) rfl) ag48 sz48) ?_
       refine AO.c (Calm.move rfl rfl) ?_
       refine AO.freezeS 5 [(6, (.fz 1 (x20.map eI64))), (58, (.fz 1 (x20.map eI64)))] rfl ⟨fz_all rfl, fz_all rfl, trivial⟩ ?_
       refine AO.lit (Z := (.fl (.slice none 0 0))) (xs := (([x20] : List (List Int)).map e43)) (qs := [(0, (.fz 1 (x20.map eI64)))]) rfl 59 rfl (by decide) rfl ⟨rfl, rfl, rfl, trivial⟩ Try.underlying48 sz43 zr43 lay43 rfl (by decide) (litOK (z := 1) [(.fz 1 (x20.map eI64))] rfl ⟨⟨rfl, rfl⟩, trivial⟩) rfl fun n21 => ?_
       obtain ⟨hg23, h⟩ := of_guard h
       refine AO.appendL (l := x12) (m := ([x20] : List (List Int))) 4 60 rfl (by decide) rfl rfl rfl rfl rfl (Src.ownL (f := e43) (l := ([x20] : List (List Int))) 0 rfl) Try.underlying48 Try.underlying48 sz43 by43 zr43 rfl hg23 (by decide) fun n22 => ?_
       refine AO.c (x := .ptr n8 256) (Calm.fldPtr rfl rfl Try.underlying50 rfl sz48 _ rfl) ?_
       refine AO.store (X' := (.st [(256, (.ar 1 (p0.f0.toList.map eU8))), (1, (.own n22 0 (x12 ++ ([x20] : List (List Int))).length)), (1, (.own n6 0 (([] : List Int) ++ p0.f2).length))])) 3 rfl rfl rfl rfl rfl rfl (Put.cast (Put.fldS (Put.fld0 Put.here)) rfl) rfl rfl sz48 rfl ?_
       refine AO.nH [1, 2, 3, 4, 5] (H' := [(n2, (.mem (e50 p0))), (n3, (.mem (.st [(256, (.ar 1 ((Vector.replicate 256 (0 : Int)).toList.map eU8))), (1, (.fl (.slice none 0 0))), (1, (.fl (.slice none 0 0)))]))), (n8, (.mem (.st [(256, (.ar 1 (p0.f0.toList.map eU8))), (1, (.own n22 0 (x12 ++ ([x20] : List (List Int))).length)), (1, (.own n6 0 (([] : List Int) ++ p0.f2).length))]))), (n22, (.mem (.ar 1 ((x12 ++ ([x20] : List (List Int))).map e43)))), (n6, (.mem (.ar 1 ((([] : List Int) ++ p0.f2).map eI64))))]) (Sub.cons 1 rfl (Sub.cons 1 rfl (Sub.cons 1 rfl (Sub.cons 1 rfl (Sub.cons 1 rfl (Sub.nil _)))))) ?_
       exact ⟨n22, (x12 ++ ([x20] : List (List Int))), rfl, rfl, h⟩
     ·rintro _ _ ⟨n17, x18, rfl, rfl, h⟩
      rw [bosketref08_Trim_c1.eq_1] at h
      refine AW.reg ?_
      refine AO.c (Calm.move rfl rfl) ?_
      refine AO.c (x := eI64 (w64 (x13 + (1 : Int)))) (Calm.int rfl rfl rfl rfl) ?_
      refine AO.c (Calm.assign rfl rfl) ?_
      refine AO.nK [1, 2, 3, 4, 5] ?_
      exact ⟨kq15, Nat.lt_succ_self _, n17, x18, (w64 (x13 + (1 : Int))), rfl, rfl, by rw [hrec14]; exact h⟩
    ·refine AW.condN _ rfl hc16 ?_
     refine AW.eH [2, 4] (H' := [(n3, (.mem (.st [(256, (.ar 1 ((Vector.replicate 256 (0 : Int)).toList.map eU8))), (1, (.fl (.slice none 0 0))), (1, (.fl (.slice none 0 0)))]))), (n8, (.mem (.st [(256, (.ar 1 (p0.f0.toList.map eU8))), (1, (.own n11 0 x12.length)), (1, (.own n6 0 (([] : List Int) ++ p0.f2).length))]))), (n11, (.mem (.ar 1 (x12.map e43)))), (n6, (.mem (.ar 1 ((([] : List Int) ++ p0.f2).map eI64))))]) (Sub.cons 1 rfl (Sub.cons 1 rfl (Sub.cons 1 rfl (Sub.cons 1 rfl (Sub.nil _))))) ?_
     exact ⟨n11, x12, rfl, rfl, h⟩
   ·rintro _ _ ⟨n9, x10, rfl, rfl, h⟩
    rw [bosketref08_Trim_c0.eq_1] at h
    refine AW.sr ?_
    refine AO.freezeFld (X' := (.st [(256, (.ar 1 (p0.f0.toList.map eU8))), (1, (.fz 1 (x10.map e43))), (1, (.own n6 0 (([] : List Int) ++ p0.f2).length))])) (els' := (x10.map e43)) 2 1 rfl rfl (Put.cast (Put.fldS (Put.fld0 Put.here)) rfl) (by simp) (by rw [own_all]) rfl rfl (by decide) ?_
    refine AO.freezeFld (X' := (.st [(256, (.ar 1 (p0.f0.toList.map eU8))), (1, (.fz 1 (x10.map e43))), (1, (.fz 1 ((([] : List Int) ++ p0.f2).map eI64)))])) (els' := ((([] : List Int) ++ p0.f2).map eI64)) 2 1 rfl rfl (Put.cast (Put.fldS (Put.fldS (Put.fld0 Put.here))) rfl) (by simp) (by rw [own_all]) rfl rfl (by decide) ?_
    refine AO.c (x := e50 (S50.mk p0.f0 x10 (([] : List Int) ++ p0.f2))) (Calm.load 1 rfl rfl rfl (At.cast At.here rfl) ag50 sz50) ?_
    refine AO.store (X' := (e50 (S50.mk p0.f0 x10 (([] : List Int) ++ p0.f2)))) 0 rfl rfl rfl rfl rfl rfl (Put.cast Put.here rfl) rfl rfl sz50 rfl ?_
    refine AO.nH [2] (H' := [(n3, (.mem (e50 (S50.mk p0.f0 x10 (([] : List Int) ++ p0.f2)))))]) (Sub.cons 0 rfl (Sub.nil _)) ?_
    refine AW.rK [2] ?_
    have hr := Option.some.inj h
    subst hr
    exact ⟨[(e50 (S50.mk p0.f0 x10 (([] : List Int) ++ p0.f2)))], ⟨⟨_, 0, rfl, rfl, ag50, sz50⟩, trivial⟩, rfl⟩
theorem bosketref08_Trim_own_spec {k : Nat} {p0 : S50} {r : S50} (h : bosketref08_Trim_own k p0 = some r) {T0 : Heap} : SpecH Try.prog 28 [(e50 p0)] (T0) (fun x H' => ∃ m_0, x = (.st [(256, (.ar 1 (r.f0.toList.map eU8))), (1, (.fz 1 (r.f1.map e43))), (1, (.own m_0 0 r.f2.length))]) ∧ Sub ((m_0, (.mem (.ar 1 (r.f2.map eI64)))) :: T0) H') := by
  rw [bosketref08_Trim_own.eq_1] at h
  refine SpecH.intro (res := [.cell 2 50]) Try.func28 rfl rfl rfl (Nat.le_of_ble_eq_true rfl) ?_
  refine AW.sr ?_
  refine AO.box rfl 1 rfl (by decide) rfl rfl rfl fun n2 => ?_
  refine AO.alloc rfl 2 rfl (by decide) rfl zr50 lay50 fun n3 => ?_
  refine AO.nH [1, 2] (H' := ((n2, (.mem (e50 p0))) :: (n3, (.mem (.st [(256, (.ar 1 ((Vector.replicate 256 (0 : Int)).toList.map eU8))), (1, (.fl (.slice none 0 0))), (1, (.fl (.slice none 0 0)))]))) :: T0)) (Sub.cons 1 rfl (Sub.cons 0 rfl (Sub.refl _))) ?_
  refine AW.sr ?_
  refine AO.c (Calm.load 0 rfl rfl rfl (At.cast At.here rfl) ag50 sz50) ?_
  obtain ⟨t4, et4, h⟩ := of_bind h
  refine AO.callS [(e50 p0)] (.fz 1 (t4.map eBool)) 10 rfl (by decide) ok38 rfl rfl rfl ⟨rfl, rfl, trivial⟩ (bosketref08_Alive_spec et4) ?_
  refine AO.c (Calm.assign rfl rfl) ?_
  refine AO.nK [1, 2, 3] ?_
  refine AW.seq ?_
  obtain ⟨hg7, h⟩ := of_guard h
  refine AW.regEff (by rfl) (by decide +kernel) (fun (σ : Nat → Nat) => ([(.ptr n2 0), (.ar 1 (p0.f0.toList.map eU8)), (.own (σ 2) 0 ([] : List Int).length), (.ptr n2 257), (.fz 1 (p0.f2.map eI64)), (.own (σ 5) 0 (([] : List Int) ++ p0.f2).length), (.st [(256, (.ar 1 (p0.f0.toList.map eU8))), (1, (.fl (.slice none 0 0))), (1, (.own (σ 5) 0 (([] : List Int) ++ p0.f2).length))]), (.ptr (σ 7) 0), (.fl undef)] : List AV)) (fun (L : Nat → Bool) (σ : Nat → Nat) => ((n2, (.mem (e50 p0))) :: (n3, (.mem (.st [(256, (.ar 1 ((Vector.replicate 256 (0 : Int)).toList.map eU8))), (1, (.fl (.slice none 0 0))), (1, (.fl (.slice none 0 0)))]))) :: (bif L 2 then (bif L 5 then (bif L 7 then (bif L 8 then (((σ 7), (.mem (.st [(256, (.ar 1 (p0.f0.toList.map eU8))), (1, (.fl (.slice none 0 0))), (1, (.own (σ 5) 0 (([] : List Int) ++ p0.f2).length))]))) :: ((σ 5), (.mem (.ar 1 ((([] : List Int) ++ p0.f2).map eI64)))) :: T0) else (((σ 7), (.mem (.st [(256, (.ar 1 ((Vector.replicate 256 (0 : Int)).toList.map eU8))), (1, (.fl (.slice none 0 0))), (1, (.fl (.slice none 0 0)))]))) :: ((σ 5), (.mem (.ar 1 ((([] : List Int) ++ p0.f2).map eI64)))) :: T0)) else (((σ 5), (.mem (.ar 1 ((([] : List Int) ++ p0.f2).map eI64)))) :: T0)) else (bif L 7 then (((σ 7), (.mem (.st [(256, (.ar 1 ((Vector.replicate 256 (0 : Int)).toList.map eU8))), (1, (.fl (.slice none 0 0))), (1, (.fl (.slice none 0 0)))]))) :: ((σ 2), (.mem (.ar 1 (([] : List Int).map eI64)))) :: T0) else (((σ 2), (.mem (.ar 1 (([] : List Int).map eI64)))) :: T0))) else (bif L 7 then (((σ 7), (.mem (.st [(256, (.ar 1 ((Vector.replicate 256 (0 : Int)).toList.map eU8))), (1, (.fl (.slice none 0 0))), (1, (.fl (.slice none 0 0)))]))) :: T0) else (T0))) : Heap)) [(1, (.ptr n2 0)), (2, (.ptr n3 0)), (3, (.fz 1 (t4.map eBool)))] ⟨rfl, rfl, rfl, trivial⟩ (fun _ => rfl) (fun σ => (Sub.refl _)) ⟨?_, ?_, ?_, ?_, ?_, ?_, ?_, ?_, ?_, trivial⟩ (fun σ => [(1, (.ptr n2 0)), (2, (.ptr n3 0)), (3, (.fz 1 (t4.map eBool))), (4, (.ptr (σ 7) 0))]) (fun σ => ((n2, (.mem (e50 p0))) :: (n3, (.mem (.st [(256, (.ar 1 ((Vector.replicate 256 (0 : Int)).toList.map eU8))), (1, (.fl (.slice none 0 0))), (1, (.fl (.slice none 0 0)))]))) :: ((σ 7), (.mem (.st [(256, (.ar 1 (p0.f0.toList.map eU8))), (1, (.fl (.slice none 0 0))), (1, (.own (σ 5) 0 (([] : List Int) ++ p0.f2).length))]))) :: ((σ 5), (.mem (.ar 1 ((([] : List Int) ++ p0.f2).map eI64)))) :: T0)) (fun σ => ⟨rfl, rfl, rfl, rfl, trivial⟩) (fun σ => Sub.refl _) (fun σ => ?_)
  ·refine StepE.calm (fun _ _ => rfl) fun L σ hc hi hd => ?_
   refine AO.wK [1] ?_
   refine AO.c (x := .ptr n2 0) (Calm.fldPtr rfl rfl Try.underlying50 rfl sz47 _ rfl) ?_
   exact AO.nE (d := 11) rfl ⟨⟨11, _, rfl, rfl, rfl⟩, Sub.refl _⟩
  ·refine StepE.calm (fun _ _ => rfl) fun L σ hc hi hd => ?_
   refine AO.wK [11] ?_
   refine AO.c (Calm.load 0 rfl rfl rfl (At.cast (At.fld0 At.here) rfl) ag47 (by rw [sz47]; simp [AV.size])) ?_
   exact AO.nE (d := 12) rfl ⟨⟨12, _, rfl, rfl, rfl⟩, Sub.refl _⟩
  ·intro L σ hc hi hd
   have m5 : L 5 = false := hc.neg (i := 2) (j := 5) rfl (by rfl) hi
   have m8 : L 8 = false := hc.neg (i := 2) (j := 8) rfl (by rfl) hi
   cases b7 : L 7 with
   | true =>
     refine AO.heq (H' := ((n2, (.mem (e50 p0))) :: (n3, (.mem (.st [(256, (.ar 1 ((Vector.replicate 256 (0 : Int)).toList.map eU8))), (1, (.fl (.slice none 0 0))), (1, (.fl (.slice none 0 0)))]))) :: ((σ 7), (.mem (.st [(256, (.ar 1 ((Vector.replicate 256 (0 : Int)).toList.map eU8))), (1, (.fl (.slice none 0 0))), (1, (.fl (.slice none 0 0)))]))) :: T0)) (by first | rfl | simp only [hi, m5, b7, m8, cond_true, cond_false]) ?_
     refine AO.wK [] ?_
     refine AO.lit (Z := (eI64 (0 : Int))) (xs := (([] : List Int).map eI64)) (qs := []) rfl 13 rfl (by decide) rfl trivial Try.underlying43 sz3 zr3 lay3 rfl (by decide) (litOK (z := 1) [] rfl trivial) rfl fun n5 => ?_
     have a2 : addL L 2 2 = true := rfl
     have a5 : addL L 2 5 = false := m5
     have a7 : addL L 2 7 = true := b7
     have a8 : addL L 2 8 = false := m8
     have u2 : upd σ 2 n5 2 = n5 := rfl
     have u5 : upd σ 2 n5 5 = σ 5 := rfl
     have u7 : upd σ 2 n5 7 = σ 7 := rfl
     exact AO.nE (d := 13) rfl ⟨(upd σ 2 n5), (fun j hj => match j, hj with | 0, _ => rfl | 1, _ => rfl | 2, hj => Bool.noConfusion (hj.symm.trans hi) | 3, _ => rfl | 4, _ => rfl | 5, _ => rfl | 6, _ => rfl | 7, _ => rfl | 8, _ => rfl | _ + 9, _ => rfl), (fun d' hd' => ⟨_, rfl, by cases hd'; rfl⟩), Sub.of_eq (B := ((n2, (.mem (e50 p0))) :: (n3, (.mem (.st [(256, (.ar 1 ((Vector.replicate 256 (0 : Int)).toList.map eU8))), (1, (.fl (.slice none 0 0))), (1, (.fl (.slice none 0 0)))]))) :: ((σ 7), (.mem (.st [(256, (.ar 1 ((Vector.replicate 256 (0 : Int)).toList.map eU8))), (1, (.fl (.slice none 0 0))), (1, (.fl (.slice none 0 0)))]))) :: (n5, (.mem (.ar 1 (([] : List Int).map eI64)))) :: T0)) (by simp only [a2, a5, a7, a8, u2, u5, u7, cond_true, cond_false]) (Sub.cons 1 rfl (Sub.cons 1 rfl (Sub.cons 1 rfl (Sub.cons 0 rfl (Sub.refl _)))))⟩
   | false =>
     refine AO.heq (H' := ((n2, (.mem (e50 p0))) :: (n3, (.mem (.st [(256, (.ar 1 ((Vector.replicate 256 (0 : Int)).toList.map eU8))), (1, (.fl (.slice none 0 0))), (1, (.fl (.slice none 0 0)))]))) :: T0)) (by first | rfl | simp only [hi, m5, b7, m8, cond_true, cond_false]) ?_
     refine AO.wK [] ?_
     refine AO.lit (Z := (eI64 (0 : Int))) (xs := (([] : List Int).map eI64)) (qs := []) rfl 13 rfl (by decide) rfl trivial Try.underlying43 sz3 zr3 lay3 rfl (by decide) (litOK (z := 1) [] rfl trivial) rfl fun n5 => ?_
     have a2 : addL L 2 2 = true := rfl
     have a5 : addL L 2 5 = false := m5
     have a7 : addL L 2 7 = false := b7
     have a8 : addL L 2 8 = false := m8
     have u2 : upd σ 2 n5 2 = n5 := rfl
     have u5 : upd σ 2 n5 5 = σ 5 := rfl
     have u7 : upd σ 2 n5 7 = σ 7 := rfl
     exact AO.nE (d := 13) rfl ⟨(upd σ 2 n5), (fun j hj => match j, hj with | 0, _ => rfl | 1, _ => rfl | 2, hj => Bool.noConfusion (hj.symm.trans hi) | 3, _ => rfl | 4, _ => rfl | 5, _ => rfl | 6, _ => rfl | 7, _ => rfl | 8, _ => rfl | _ + 9, _ => rfl), (fun d' hd' => ⟨_, rfl, by cases hd'; rfl⟩), Sub.of_eq (B := ((n2, (.mem (e50 p0))) :: (n3, (.mem (.st [(256, (.ar 1 ((Vector.replicate 256 (0 : Int)).toList.map eU8))), (1, (.fl (.slice none 0 0))), (1, (.fl (.slice none 0 0)))]))) :: (n5, (.mem (.ar 1 (([] : List Int).map eI64)))) :: T0)) (by simp only [a2, a5, a7, a8, u2, u5, u7, cond_true, cond_false]) (Sub.cons 1 rfl (Sub.cons 1 rfl (Sub.cons 0 rfl (Sub.refl _))))⟩
  ·refine StepE.calm (fun _ _ => rfl) fun L σ hc hi hd => ?_
   refine AO.wK [1] ?_
   refine AO.c (x := .ptr n2 257) (Calm.fldPtr rfl rfl Try.underlying50 rfl sz43 _ rfl) ?_
   exact AO.nE (d := 14) rfl ⟨⟨14, _, rfl, rfl, rfl⟩, Sub.refl _⟩
  ·refine StepE.calm (fun _ _ => rfl) fun L σ hc hi hd => ?_
   refine AO.wK [14] ?_
   refine AO.c (Calm.load 0 rfl rfl rfl (At.cast (At.fldS (At.fldS (At.fld0 At.here))) rfl) ag43 sz43) ?_
   exact AO.nE (d := 15) rfl ⟨⟨15, _, rfl, rfl, rfl⟩, Sub.refl _⟩
  ·intro L σ hc hi hd
   have y2 : L 2 = true := on_get hd (i := 2) (by rfl)
   have m8 : L 8 = false := hc.neg (i := 5) (j := 8) rfl (by rfl) hi
   cases b7 : L 7 with
   | true =>
     refine AO.heq (H' := ((n2, (.mem (e50 p0))) :: (n3, (.mem (.st [(256, (.ar 1 ((Vector.replicate 256 (0 : Int)).toList.map eU8))), (1, (.fl (.slice none 0 0))), (1, (.fl (.slice none 0 0)))]))) :: ((σ 7), (.mem (.st [(256, (.ar 1 ((Vector.replicate 256 (0 : Int)).toList.map eU8))), (1, (.fl (.slice none 0 0))), (1, (.fl (.slice none 0 0)))]))) :: ((σ 2), (.mem (.ar 1 (([] : List Int).map eI64)))) :: T0)) (by first | rfl | simp only [hi, y2, b7, m8, cond_true, cond_false]) ?_
     refine AO.wK [13, 15] ?_
     refine AO.appendL (l := ([] : List Int)) (m := p0.f2) 3 16 rfl (by decide) rfl rfl rfl rfl rfl Src.fz Try.underlying43 Try.underlying43 sz3 by3 zr3 rfl hg7 (by decide) fun n6 => ?_
     have a2 : addL L 5 2 = true := y2
     have a5 : addL L 5 5 = true := rfl
     have a7 : addL L 5 7 = true := b7
     have a8 : addL L 5 8 = false := m8
     have u2 : upd σ 5 n6 2 = σ 2 := rfl
     have u5 : upd σ 5 n6 5 = n6 := rfl
     have u7 : upd σ 5 n6 7 = σ 7 := rfl
     have m6 : L 6 = false := hc.neg (i := 5) (j := 6) rfl (by rfl) hi
     exact AO.nE (d := 16) rfl ⟨(upd σ 5 n6), (fun j hj => match j, hj with | 0, _ => rfl | 1, _ => rfl | 2, _ => rfl | 3, _ => rfl | 4, _ => rfl | 5, hj => Bool.noConfusion (hj.symm.trans hi) | 6, hj => Bool.noConfusion (hj.symm.trans m6) | 7, _ => rfl | 8, _ => rfl | _ + 9, _ => rfl), (fun d' hd' => ⟨_, rfl, by cases hd'; rfl⟩), Sub.of_eq (B := ((n2, (.mem (e50 p0))) :: (n3, (.mem (.st [(256, (.ar 1 ((Vector.replicate 256 (0 : Int)).toList.map eU8))), (1, (.fl (.slice none 0 0))), (1, (.fl (.slice none 0 0)))]))) :: ((σ 7), (.mem (.st [(256, (.ar 1 ((Vector.replicate 256 (0 : Int)).toList.map eU8))), (1, (.fl (.slice none 0 0))), (1, (.fl (.slice none 0 0)))]))) :: (n6, (.mem (.ar 1 ((([] : List Int) ++ p0.f2).map eI64)))) :: T0)) (by simp only [a2, a5, a7, a8, u2, u5, u7, cond_true, cond_false]) (Sub.refl _)⟩
   | false =>
     refine AO.heq (H' := ((n2, (.mem (e50 p0))) :: (n3, (.mem (.st [(256, (.ar 1 ((Vector.replicate 256 (0 : Int)).toList.map eU8))), (1, (.fl (.slice none 0 0))), (1, (.fl (.slice none 0 0)))]))) :: ((σ 2), (.mem (.ar 1 (([] : List Int).map eI64)))) :: T0)) (by first | rfl | simp only [hi, y2, b7, m8, cond_true, cond_false]) ?_
     refine AO.wK [13, 15] ?_
     refine AO.appendL (l := ([] : List Int)) (m := p0.f2) 2 16 rfl (by decide) rfl rfl rfl rfl rfl Src.fz Try.underlying43 Try.underlying43 sz3 by3 zr3 rfl hg7 (by decide) fun n6 => ?_
     have a2 : addL L 5 2 = true := y2
     have a5 : addL L 5 5 = true := rfl
     have a7 : addL L 5 7 = false := b7
     have a8 : addL L 5 8 = false := m8
     have u2 : upd σ 5 n6 2 = σ 2 := rfl
     have u5 : upd σ 5 n6 5 = n6 := rfl
     have u7 : upd σ 5 n6 7 = σ 7 := rfl
     have m6 : L 6 = false := hc.neg (i := 5) (j := 6) rfl (by rfl) hi
     exact AO.nE (d := 16) rfl ⟨(upd σ 5 n6), (fun j hj => match j, hj with | 0, _ => rfl | 1, _ => rfl | 2, _ => rfl | 3, _ => rfl | 4, _ => rfl | 5, hj => Bool.noConfusion (hj.symm.trans hi) | 6, hj => Bool.noConfusion (hj.symm.trans m6) | 7, _ => rfl | 8, _ => rfl | _ + 9, _ => rfl), (fun d' hd' => ⟨_, rfl, by cases hd'; rfl⟩), Sub.of_eq (B := ((n2, (.mem (e50 p0))) :: (n3, (.mem (.st [(256, (.ar 1 ((Vector.replicate 256 (0 : Int)).toList.map eU8))), (1, (.fl (.slice none 0 0))), (1, (.fl (.slice none 0 0)))]))) :: (n6, (.mem (.ar 1 ((([] : List Int) ++ p0.f2).map eI64)))) :: T0)) (by simp only [a2, a5, a7, a8, u2, u5, u7, cond_true, cond_false]) (Sub.refl _)⟩
  ·refine StepE.calm (fun _ _ => rfl) fun L σ hc hi hd => ?_
   have y5 : L 5 = true := on_get hd (i := 5) (by rfl)
   have y2 : L 2 = true := hc.pos (i := 2) (j := 5) rfl (by rfl) y5
   have y5 : L 5 = true := on_get hd (i := 5) (by rfl)
   have m8 : L 8 = false := hc.neg (i := 6) (j := 8) rfl (by rfl) hi
   cases b7 : L 7 with
   | true =>
     refine AO.heq (H' := ((n2, (.mem (e50 p0))) :: (n3, (.mem (.st [(256, (.ar 1 ((Vector.replicate 256 (0 : Int)).toList.map eU8))), (1, (.fl (.slice none 0 0))), (1, (.fl (.slice none 0 0)))]))) :: ((σ 7), (.mem (.st [(256, (.ar 1 ((Vector.replicate 256 (0 : Int)).toList.map eU8))), (1, (.fl (.slice none 0 0))), (1, (.fl (.slice none 0 0)))]))) :: ((σ 5), (.mem (.ar 1 ((([] : List Int) ++ p0.f2).map eI64)))) :: T0)) (by first | rfl | simp only [y2, y5, b7, m8, cond_true, cond_false]) ?_
     refine AO.wK [12, 16] ?_
     refine AO.c (x := .st [(256, (.ar 1 (p0.f0.toList.map eU8))), (1, (.fl (.slice none 0 0))), (1, (.own (σ 5) 0 (([] : List Int) ++ p0.f2).length))]) (Calm.build (qs := [(0, (.ar 1 (p0.f0.toList.map eU8))), (2, (.own (σ 5) 0 (([] : List Int) ++ p0.f2).length))]) rfl ⟨rfl, rfl, rfl, rfl, rfl, rfl, trivial⟩ Try.underlying50 rfl zr50 lay50 (.cons rfl rfl (vec_size _ _) (vec_size _ _) (Put.cast (Put.fld0 Put.here) rfl) (.cons rfl rfl rfl rfl (Put.cast (Put.fldS (Put.fldS (Put.fld0 Put.here))) rfl) .nil)) rfl) ?_
     exact AO.nE (d := 17) rfl ⟨⟨17, _, rfl, rfl, rfl⟩, Sub.of_eq (by first | rfl | simp only [y2, y5, b7, m8, cond_true, cond_false]) (Sub.refl _)⟩
   | false =>
     refine AO.heq (H' := ((n2, (.mem (e50 p0))) :: (n3, (.mem (.st [(256, (.ar 1 ((Vector.replicate 256 (0 : Int)).toList.map eU8))), (1, (.fl (.slice none 0 0))), (1, (.fl (.slice none 0 0)))]))) :: ((σ 5), (.mem (.ar 1 ((([] : List Int) ++ p0.f2).map eI64)))) :: T0)) (by first | rfl | simp only [y2, y5, b7, m8, cond_true, cond_false]) ?_
     refine AO.wK [12, 16] ?_
     refine AO.c (x := .st [(256, (.ar 1 (p0.f0.toList.map eU8))), (1, (.fl (.slice none 0 0))), (1, (.own (σ 5) 0 (([] : List Int) ++ p0.f2).length))]) (Calm.build (qs := [(0, (.ar 1 (p0.f0.toList.map eU8))), (2, (.own (σ 5) 0 (([] : List Int) ++ p0.f2).length))]) rfl ⟨rfl, rfl, rfl, rfl, rfl, rfl, trivial⟩ Try.underlying50 rfl zr50 lay50 (.cons rfl rfl (vec_size _ _) (vec_size _ _) (Put.cast (Put.fld0 Put.here) rfl) (.cons rfl rfl rfl rfl (Put.cast (Put.fldS (Put.fldS (Put.fld0 Put.here))) rfl) .nil)) rfl) ?_
     exact AO.nE (d := 17) rfl ⟨⟨17, _, rfl, rfl, rfl⟩, Sub.of_eq (by first | rfl | simp only [y2, y5, b7, m8, cond_true, cond_false]) (Sub.refl _)⟩
  ·intro L σ hc hi hd
   have m8 : L 8 = false := hc.neg (i := 7) (j := 8) rfl (by rfl) hi
   cases b2 : L 2 with
   | true =>
     cases b5 : L 5 with
     | true =>
       refine AO.heq (H' := ((n2, (.mem (e50 p0))) :: (n3, (.mem (.st [(256, (.ar 1 ((Vector.replicate 256 (0 : Int)).toList.map eU8))), (1, (.fl (.slice none 0 0))), (1, (.fl (.slice none 0 0)))]))) :: ((σ 5), (.mem (.ar 1 ((([] : List Int) ++ p0.f2).map eI64)))) :: T0)) (by first | rfl | simp only [hi, b2, b5, m8, cond_true, cond_false]) ?_
       refine AO.wK [] ?_
       refine AO.alloc rfl 4 rfl (by decide) rfl zr50 lay50 fun n8 => ?_
       have a2 : addL L 7 2 = true := b2
       have a5 : addL L 7 5 = true := b5
       have a7 : addL L 7 7 = true := rfl
       have a8 : addL L 7 8 = false := m8
       have u2 : upd σ 7 n8 2 = σ 2 := rfl
       have u5 : upd σ 7 n8 5 = σ 5 := rfl
       have u7 : upd σ 7 n8 7 = n8 := rfl
       exact AO.nE (d := 4) rfl ⟨(upd σ 7 n8), (fun j hj => match j, hj with | 0, _ => rfl | 1, _ => rfl | 2, _ => rfl | 3, _ => rfl | 4, _ => rfl | 5, _ => rfl | 6, _ => rfl | 7, hj => Bool.noConfusion (hj.symm.trans hi) | 8, _ => rfl | _ + 9, _ => rfl), (fun d' hd' => ⟨_, rfl, by cases hd'; rfl⟩), Sub.of_eq (B := ((n2, (.mem (e50 p0))) :: (n3, (.mem (.st [(256, (.ar 1 ((Vector.replicate 256 (0 : Int)).toList.map eU8))), (1, (.fl (.slice none 0 0))), (1, (.fl (.slice none 0 0)))]))) :: (n8, (.mem (.st [(256, (.ar 1 ((Vector.replicate 256 (0 : Int)).toList.map eU8))), (1, (.fl (.slice none 0 0))), (1, (.fl (.slice none 0 0)))]))) :: ((σ 5), (.mem (.ar 1 ((([] : List Int) ++ p0.f2).map eI64)))) :: T0)) (by simp only [a2, a5, a7, a8, u2, u5, u7, cond_true, cond_false]) (Sub.cons 1 rfl (Sub.cons 1 rfl (Sub.cons 0 rfl (Sub.cons 0 rfl (Sub.refl _)))))⟩
     | false =>
       refine AO.heq (H' := ((n2, (.mem (e50 p0))) :: (n3, (.mem (.st [(256, (.ar 1 ((Vector.replicate 256 (0 : Int)).toList.map eU8))), (1, (.fl (.slice none 0 0))), (1, (.fl (.slice none 0 0)))]))) :: ((σ 2), (.mem (.ar 1 (([] : List Int).map eI64)))) :: T0)) (by first | rfl | simp only [hi, b2, b5, m8, cond_true, cond_false]) ?_
       refine AO.wK [] ?_
       refine AO.alloc rfl 4 rfl (by decide) rfl zr50 lay50 fun n8 => ?_
       have a2 : addL L 7 2 = true := b2
       have a5 : addL L 7 5 = false := b5
       have a7 : addL L 7 7 = true := rfl
       have a8 : addL L 7 8 = false := m8
       have u2 : upd σ 7 n8 2 = σ 2 := rfl
       have u5 : upd σ 7 n8 5 = σ 5 := rfl
       have u7 : upd σ 7 n8 7 = n8 := rfl
       exact AO.nE (d := 4) rfl ⟨(upd σ 7 n8), (fun j hj => match j, hj with | 0, _ => rfl | 1, _ => rfl | 2, _ => rfl | 3, _ => rfl | 4, _ => rfl | 5, _ => rfl | 6, _ => rfl | 7, hj => Bool.noConfusion (hj.symm.trans hi) | 8, _ => rfl | _ + 9, _ => rfl), (fun d' hd' => ⟨_, rfl, by cases hd'; rfl⟩), Sub.of_eq (B := ((n2, (.mem (e50 p0))) :: (n3, (.mem (.st [(256, (.ar 1 ((Vector.replicate 256 (0 : Int)).toList.map eU8))), (1, (.fl (.slice none 0 0))), (1, (.fl (.slice none 0 0)))]))) :: (n8, (.mem (.st [(256, (.ar 1 ((Vector.replicate 256 (0 : Int)).toList.map eU8))), (1, (.fl (.slice none 0 0))), (1, (.fl (.slice none 0 0)))]))) :: ((σ 2), (.mem (.ar 1 (([] : List Int).map eI64)))) :: T0)) (by simp only [a2, a5, a7, a8, u2, u5, u7, cond_true, cond_false]) (Sub.cons 1 rfl (Sub.cons 1 rfl (Sub.cons 0 rfl (Sub.cons 0 rfl (Sub.refl _)))))⟩
   | false =>
     have m5 : L 5 = false := hc.neg (i := 2) (j := 5) rfl (by rfl) b2
     refine AO.heq (H' := ((n2, (.mem (e50 p0))) :: (n3, (.mem (.st [(256, (.ar 1 ((Vector.replicate 256 (0 : Int)).toList.map eU8))), (1, (.fl (.slice none 0 0))), (1, (.fl (.slice none 0 0)))]))) :: T0)) (by first | rfl | simp only [hi, b2, m5, m8, cond_true, cond_false]) ?_
     refine AO.wK [] ?_
     refine AO.alloc rfl 4 rfl (by decide) rfl zr50 lay50 fun n8 => ?_
     have a2 : addL L 7 2 = false := b2
     have a5 : addL L 7 5 = false := m5
     have a7 : addL L 7 7 = true := rfl
     have a8 : addL L 7 8 = false := m8
     have u2 : upd σ 7 n8 2 = σ 2 := rfl
     have u5 : upd σ 7 n8 5 = σ 5 := rfl
     have u7 : upd σ 7 n8 7 = n8 := rfl
     exact AO.nE (d := 4) rfl ⟨(upd σ 7 n8), (fun j hj => match j, hj with | 0, _ => rfl | 1, _ => rfl | 2, _ => rfl | 3, _ => rfl | 4, _ => rfl | 5, _ => rfl | 6, _ => rfl | 7, hj => Bool.noConfusion (hj.symm.trans hi) | 8, _ => rfl | _ + 9, _ => rfl), (fun d' hd' => ⟨_, rfl, by cases hd'; rfl⟩), Sub.of_eq (B := ((n2, (.mem (e50 p0))) :: (n3, (.mem (.st [(256, (.ar 1 ((Vector.replicate 256 (0 : Int)).toList.map eU8))), (1, (.fl (.slice none 0 0))), (1, (.fl (.slice none 0 0)))]))) :: (n8, (.mem (.st [(256, (.ar 1 ((Vector.replicate 256 (0 : Int)).toList.map eU8))), (1, (.fl (.slice none 0 0))), (1, (.fl (.slice none 0 0)))]))) :: T0)) (by simp only [a2, a5, a7, a8, u2, u5, u7, cond_true, cond_false]) (Sub.cons 1 rfl (Sub.cons 1 rfl (Sub.cons 0 rfl (Sub.refl _))))⟩
  ·intro L σ hc hi hd
   have y2 : L 2 = true := on_get hd (i := 2) (by rfl)
   have y5 : L 5 = true := on_get hd (i := 5) (by rfl)
   have y7 : L 7 = true := on_get hd (i := 7) (by rfl)
   refine AO.heq (H' := ((n2, (.mem (e50 p0))) :: (n3, (.mem (.st [(256, (.ar 1 ((Vector.replicate 256 (0 : Int)).toList.map eU8))), (1, (.fl (.slice none 0 0))), (1, (.fl (.slice none 0 0)))]))) :: ((σ 7), (.mem (.st [(256, (.ar 1 ((Vector.replicate 256 (0 : Int)).toList.map eU8))), (1, (.fl (.slice none 0 0))), (1, (.fl (.slice none 0 0)))]))) :: ((σ 5), (.mem (.ar 1 ((([] : List Int) ++ p0.f2).map eI64)))) :: T0)) (by first | rfl | simp only [hi, y2, y5, y7, cond_true, cond_false]) ?_
   refine AO.wK [4, 17] ?_
   refine AO.store (X' := (.st [(256, (.ar 1 (p0.f0.toList.map eU8))), (1, (.fl (.slice none 0 0))), (1, (.own (σ 5) 0 (([] : List Int) ++ p0.f2).length))])) 2 rfl rfl rfl rfl rfl rfl (Put.cast Put.here rfl) rfl rfl sz50 rfl ?_
   have a2 : addL L 8 2 = true := y2
   have a5 : addL L 8 5 = true := y5
   have a7 : addL L 8 7 = true := y7
   have a8 : addL L 8 8 = true := rfl
   exact AO.n0 ⟨σ, (fun _ _ => rfl), (fun d' hd' => by cases hd'), Sub.of_eq (B := ((n2, (.mem (e50 p0))) :: (n3, (.mem (.st [(256, (.ar 1 ((Vector.replicate 256 (0 : Int)).toList.map eU8))), (1, (.fl (.slice none 0 0))), (1, (.fl (.slice none 0 0)))]))) :: ((σ 7), (.mem (.st [(256, (.ar 1 (p0.f0.toList.map eU8))), (1, (.fl (.slice none 0 0))), (1, (.own (σ 5) 0 (([] : List Int) ++ p0.f2).length))]))) :: ((σ 5), (.mem (.ar 1 ((([] : List Int) ++ p0.f2).map eI64)))) :: T0)) (by simp only [a2, a5, a7, a8, cond_true, cond_false]) (Sub.refl _)⟩
  ·generalize σ 2 = n5
   generalize σ 5 = n6
   generalize σ 7 = n8
   refine AO.nK [1, 2, 3, 4] ?_
   refine AW.seq_mid (fun ρ H => ∃ (n9 : Nat) (x10 : (List (List Int))), ρ = [(2, (.ptr n3 0)), (4, (.ptr n8 0))] ∧ H = ((n3, (.mem (.st [(256, (.ar 1 ((Vector.replicate 256 (0 : Int)).toList.map eU8))), (1, (.fl (.slice none 0 0))), (1, (.fl (.slice none 0 0)))]))) :: (n8, (.mem (.st [(256, (.ar 1 (p0.f0.toList.map eU8))), (1, (.own n9 0 x10.length)), (1, (.own n6 0 (([] : List Int) ++ p0.f2).length))]))) :: (n9, (.mem (.ar 1 (x10.map e43)))) :: (n6, (.mem (.ar 1 ((([] : List Int) ++ p0.f2).map eI64)))) :: T0) ∧ bosketref08_Trim_own_c0 k p0 x10 = some r) ?_ ?_
   ·refine AW.sr ?_
    refine AO.c (Calm.assign rfl rfl) ?_
    refine AO.nK [1, 2, 3, 4, 5] ?_
    refine AW.block ?_
    refine AW.nilOwnFld 2 1 (fun n43 => (.st [(256, (.ar 1 (p0.f0.toList.map eU8))), (1, (.own n43 0 0)), (1, (.own n6 0 (([] : List Int) ++ p0.f2).length))])) rfl (fun _ => (Put.cast (Put.fldS (Put.fld0 Put.here)) rfl)) (fun _ => rfl) (fun _ => rfl) fun n43 => ?_
    refine AW.wH [1, 2, 3, 4, 5] (H' := ((n2, (.mem (e50 p0))) :: (n3, (.mem (.st [(256, (.ar 1 ((Vector.replicate 256 (0 : Int)).toList.map eU8))), (1, (.fl (.slice none 0 0))), (1, (.fl (.slice none 0 0)))]))) :: (n8, (.mem (.st [(256, (.ar 1 (p0.f0.toList.map eU8))), (1, (.own n43 0 ([] : List (List Int)).length)), (1, (.own n6 0 (([] : List Int) ++ p0.f2).length))]))) :: (n43, (.mem (.ar 1 (([] : List (List Int)).map e43)))) :: (n6, (.mem (.ar 1 ((([] : List Int) ++ p0.f2).map eI64)))) :: T0)) (Sub.cons 1 rfl (Sub.cons 1 rfl (Sub.cons 1 rfl (Sub.cons 0 rfl (Sub.cons 0 rfl (Sub.refl _)))))) ?_
    refine AW.loop (fun kq ρ H => ∃ (n11 : Nat) (x12 : (List (List Int))) (x13 : Int), ρ = [(1, (.ptr n2 0)), (2, (.ptr n3 0)), (3, (.fz 1 (t4.map eBool))), (4, (.ptr n8 0)), (5, (eI64 x13))] ∧ H = ((n2, (.mem (e50 p0))) :: (n3, (.mem (.st [(256, (.ar 1 ((Vector.replicate 256 (0 : Int)).toList.map eU8))), (1, (.fl (.slice none 0 0))), (1, (.fl (.slice none 0 0)))]))) :: (n8, (.mem (.st [(256, (.ar 1 (p0.f0.toList.map eU8))), (1, (.own n11 0 x12.length)), (1, (.own n6 0 (([] : List Int) ++ p0.f2).length))]))) :: (n11, (.mem (.ar 1 (x12.map e43)))) :: (n6, (.mem (.ar 1 ((([] : List Int) ++ p0.f2).map eI64)))) :: T0) ∧ bosketref08_Trim_own_l5 k p0 t4 kq x12 x13 = some r) k ⟨n43, ([] : List (List Int)), (0 : Int), rfl, rfl, h⟩ ?_
    rintro kq15 _ _ ⟨n11, x12, x13, rfl, rfl, h⟩
    cases kq15 with
    | zero => rw [bosketref08_Trim_own_l5.eq_1] at h; cases h
    | succ kq15 =>
    rw [bosketref08_Trim_own_l5.eq_2] at h
    generalize hrec14 : bosketref08_Trim_own_l5 k p0 t4 kq15 = rec14 at h
    refine AW.seq ?_
    refine AW.sr ?_
    refine AO.c (Calm.move rfl rfl) ?_
    refine AO.c (x := .ptr n2 256) (Calm.fldPtr rfl rfl Try.underlying50 rfl sz48 _ rfl) ?_
    refine AO.c (Calm.load 0 rfl rfl rfl (At.cast (At.fldS (At.fld0 At.here)) rfl) ag48 sz48) ?_
    refine AO.c (Calm.lenL rfl rfl Try.underlying48) ?_
    refine AO.c (x := eBool (decide (x13 < (p0.f1.length : Int)))) (Calm.int rfl rfl rfl rfl) ?_
    refine AO.nK [1, 2, 3, 4, 5, 22] ?_
    rcases of_ite h with ⟨hc16, h⟩ | ⟨hc16, h⟩
    ·refine AW.condP _ rfl hc16 ?_
     refine AW.sK [1, 2, 3, 4, 5] ?_
     refine AW.seq_mid (fun ρ H => ∃ (n17 : Nat) (x18 : (List (List Int))), ρ = [(1, (.ptr n2 0)), (2, (.ptr n3 0)), (3, (.fz 1 (t4.map eBool))), (4, (.ptr n8 0)), (5, (eI64 x13))] ∧ H = ((n2, (.mem (e50 p0))) :: (n3, (.mem (.st [(256, (.ar 1 ((Vector.replicate 256 (0 : Int)).toList.map eU8))), (1, (.fl (.slice none 0 0))), (1, (.fl (.slice none 0 0)))]))) :: (n8, (.mem (.st [(256, (.ar 1 (p0.f0.toList.map eU8))), (1, (.own n17 0 x18.length)), (1, (.own n6 0 (([] : List Int) ++ p0.f2).length))]))) :: (n17, (.mem (.ar 1 (x18.map e43)))) :: (n6, (.mem (.ar 1 ((([] : List Int) ++ p0.f2).map eI64)))) :: T0) ∧ bosketref08_Trim_own_c1 k rec14 x13 x18 = some r) ?_ ?_
     ·refine AW.block ?_
      refine AW.sr ?_
      refine AO.c (Calm.assign rfl rfl) ?_
      refine AO.nK [1, 2, 3, 4, 5, 6] ?_
      refine AW.seq_mid (fun ρ H => ∃ (n19 : Nat) (x20 : (List Int)), ρ = [(1, (.ptr n2 0)), (2, (.ptr n3 0)), (3, (.fz 1 (t4.map eBool))), (4, (.ptr n8 0)), (5, (eI64 x13)), (6, (.own n19 0 x20.length))] ∧ H = ((n2, (.mem (e50 p0))) :: (n3, (.mem (.st [(256, (.ar 1 ((Vector.replicate 256 (0 : Int)).toList.map eU8))), (1, (.fl (.slice none 0 0))), (1, (.fl (.slice none 0 0)))]))) :: (n8, (.mem (.st [(256, (.ar 1 (p0.f0.toList.map eU8))), (1, (.own n11 0 x12.length)), (1, (.own n6 0 (([] : List Int) ++ p0.f2).length))]))) :: (n11, (.mem (.ar 1 (x12.map e43)))) :: (n6, (.mem (.ar 1 ((([] : List Int) ++ p0.f2).map eI64)))) :: (n19, (.mem (.ar 1 (x20.map eI64)))) :: T0) ∧ bosketref08_Trim_own_c2 k rec14 x12 x13 x20 = some r) ?_ ?_
      ·refine AW.sr ?_
       refine AO.c (Calm.assign rfl rfl) ?_
       refine AO.nK [1, 2, 3, 4, 5, 6, 7] ?_
       refine AW.block ?_
       refine AW.nilOwn 6 1 rfl fun n42 => ?_
       refine AW.wH [1, 2, 3, 4, 5, 6, 7] (H' := ((n2, (.mem (e50 p0))) :: (n3, (.mem (.st [(256, (.ar 1 ((Vector.replicate 256 (0 : Int)).toList.map eU8))), (1, (.fl (.slice none 0 0))), (1, (.fl (.slice none 0 0)))]))) :: (n8, (.mem (.st [(256, (.ar 1 (p0.f0.toList.map eU8))), (1, (.own n11 0 x12.length)), (1, (.own n6 0 (([] : List Int) ++ p0.f2).length))]))) :: (n11, (.mem (.ar 1 (x12.map e43)))) :: (n6, (.mem (.ar 1 ((([] : List Int) ++ p0.f2).map eI64)))) :: (n42, (.mem (.ar 1 (([] : List Int).map eI64)))) :: T0)) (Sub.cons 1 rfl (Sub.cons 1 rfl (Sub.cons 1 rfl (Sub.cons 1 rfl (Sub.cons 1 rfl (Sub.cons 0 rfl (Sub.refl _))))))) ?_
       refine AW.loop (fun kq ρ H => ∃ (n24 : Nat) (x25 : (List Int)) (x26 : Int), ρ = [(1, (.ptr n2 0)), (2, (.ptr n3 0)), (3, (.fz 1 (t4.map eBool))), (4, (.ptr n8 0)), (5, (eI64 x13)), (6, (.own n24 0 x25.length)), (7, (eI64 x26))] ∧ H = ((n2, (.mem (e50 p0))) :: (n3, (.mem (.st [(256, (.ar 1 ((Vector.replicate 256 (0 : Int)).toList.map eU8))), (1, (.fl (.slice none 0 0))), (1, (.fl (.slice none 0 0)))]))) :: (n8, (.mem (.st [(256, (.ar 1 (p0.f0.toList.map eU8))), (1, (.own n11 0 x12.length)), (1, (.own n6 0 (([] : List Int) ++ p0.f2).length))]))) :: (n11, (.mem (.ar 1 (x12.map e43)))) :: (n6, (.mem (.ar 1 ((([] : List Int) ++ p0.f2).map eI64)))) :: (n24, (.mem (.ar 1 (x25.map eI64)))) :: T0) ∧ bosketref08_Trim_own_l4 k rec14 p0 t4 x12 x13 kq x25 x26 = some r) k ⟨n42, ([] : List Int), (0 : Int), rfl, rfl, h⟩ ?_
       rintro kq28 _ _ ⟨n24, x25, x26, rfl, rfl, h⟩
       cases kq28 with
       | zero => rw [bosketref08_Trim_own_l4.eq_1] at h; cases h
       | succ kq28 =>
       rw [bosketref08_Trim_own_l4.eq_2] at h
       generalize hrec27 : bosketref08_Trim_own_l4 k rec14 p0 t4 x12 x13 kq28 = rec27 at h
       refine AW.seq ?_
       refine AW.sr ?_
       refine AO.c (Calm.move rfl rfl) ?_
       refine AO.c (x := .ptr n2 256) (Calm.fldPtr rfl rfl Try.underlying50 rfl sz48 _ rfl) ?_
       refine AO.c (Calm.load 0 rfl rfl rfl (At.cast (At.fldS (At.fld0 At.here)) rfl) ag48 sz48) ?_
       refine AO.c (Calm.move rfl rfl) ?_
       obtain ⟨hg29, h⟩ := of_guard h
       refine AO.c (Calm.idxL (f := e43) rfl rfl rfl hg29 Try.underlying48 sz43) ?_
       refine AO.c (Calm.loadRp rfl rfl ag43 sz43) ?_
       refine AO.c (Calm.lenL rfl rfl Try.underlying43) ?_
       refine AO.c (x := eBool (decide (x26 < ((lget p0.f1 x13).length : Int)))) (Calm.int rfl rfl rfl rfl) ?_
       refine AO.nK [1, 2, 3, 4, 5, 6, 7, 32] ?_
       rcases of_ite h with ⟨hc30, h⟩ | ⟨hc30, h⟩
       ·refine AW.condP _ rfl hc30 ?_
        refine AW.sK [1, 2, 3, 4, 5, 6, 7] ?_
        refine AW.seq ?_
        refine AW.block ?_
        refine AW.sr ?_
        refine AO.c (x := .ptr n2 256) (Calm.fldPtr rfl rfl Try.underlying50 rfl sz48 _ rfl) ?_
        refine AO.c (Calm.load 0 rfl rfl rfl (At.cast (At.fldS (At.fld0 At.here)) rfl) ag48 sz48) ?_
        refine AO.c (Calm.move rfl rfl) ?_
        obtain ⟨hg31, h⟩ := of_guard h
        refine AO.c (Calm.idxL (f := e43) rfl rfl rfl hg31 Try.underlying48 sz43) ?_
        refine AO.c (Calm.loadRp rfl rfl ag43 sz43) ?_
        refine AO.c (Calm.move rfl rfl) ?_
        obtain ⟨hg32, h⟩ := of_guard h
        refine AO.c (Calm.idxL (f := eI64) rfl rfl rfl hg32 Try.underlying43 sz3) ?_
        refine AO.c (Calm.loadRp rfl rfl ag3 sz3) ?_
        refine AO.c (Calm.assign rfl rfl) ?_
        refine AO.nK [1, 2, 3, 4, 5, 6, 7, 8] ?_
        refine AW.seq_mid (fun ρ H => ∃ (x33 : Int), ρ = [(1, (.ptr n2 0)), (2, (.ptr n3 0)), (3, (.fz 1 (t4.map eBool))), (4, (.ptr n8 0)), (5, (eI64 x13)), (6, (.own n24 0 x25.length)), (7, (eI64 x26)), (8, (eI64 x33))] ∧ H = ((n2, (.mem (e50 p0))) :: (n3, (.mem (.st [(256, (.ar 1 ((Vector.replicate 256 (0 : Int)).toList.map eU8))), (1, (.fl (.slice none 0 0))), (1, (.fl (.slice none 0 0)))]))) :: (n8, (.mem (.st [(256, (.ar 1 (p0.f0.toList.map eU8))), (1, (.own n11 0 x12.length)), (1, (.own n6 0 (([] : List Int) ++ p0.f2).length))]))) :: (n11, (.mem (.ar 1 (x12.map e43)))) :: (n6, (.mem (.ar 1 ((([] : List Int) ++ p0.f2).map eI64)))) :: (n24, (.mem (.ar 1 (x25.map eI64)))) :: T0) ∧ bosketref08_Trim_own_c3 k rec27 x25 x26 x33 = some r) ?_ ?_
        ·refine AW.seq ?_
         obtain ⟨b37, hq38, h⟩ := of_bind h
         refine AW.regM [(1, (.ptr n2 0)), (2, (.ptr n3 0)), (3, (.fz 1 (t4.map eBool))), (4, (.ptr n8 0)), (5, (eI64 x13)), (6, (.own n24 0 x25.length)), (7, (eI64 x26)), (8, (eI64 (lget (lget p0.f1 x13) x26))), (51, (eBool b37))] ((n2, (.mem (e50 p0))) :: (n3, (.mem (.st [(256, (.ar 1 ((Vector.replicate 256 (0 : Int)).toList.map eU8))), (1, (.fl (.slice none 0 0))), (1, (.fl (.slice none 0 0)))]))) :: (n8, (.mem (.st [(256, (.ar 1 (p0.f0.toList.map eU8))), (1, (.own n11 0 x12.length)), (1, (.own n6 0 (([] : List Int) ++ p0.f2).length))]))) :: (n11, (.mem (.ar 1 (x12.map e43)))) :: (n6, (.mem (.ar 1 ((([] : List Int) ++ p0.f2).map eI64)))) :: (n24, (.mem (.ar 1 (x25.map eI64)))) :: T0) ?_ ?_
         ·refine AO.c (Calm.move rfl rfl) ?_
          refine AO.c (x := eBool (decide ((0 : Int) ≤ (lget (lget p0.f1 x13) x26)))) (Calm.int rfl rfl rfl rfl) ?_
          refine AO.c (Calm.move rfl rfl) ?_
          rcases of_ite hq38 with ⟨hc39, hq38⟩ | ⟨hc39, hq38⟩
          ·refine AO.cG rfl rfl (bD (decide_eq_true hc39)) (Calm.move rfl rfl) ?_
           refine AO.cG rfl rfl (bD (decide_eq_true hc39)) (Calm.move rfl rfl) ?_
           obtain ⟨hg40, hq38⟩ := of_guard hq38
           refine AO.cG rfl rfl (bD (decide_eq_true hc39)) (Calm.idxL (f := eBool) rfl rfl rfl hg40 Try.underlying25 sz4) ?_
           refine AO.cG rfl rfl (bD (decide_eq_true hc39)) (Calm.loadRp rfl rfl ag4 sz4) ?_
           refine AO.cG rfl rfl (bD (decide_eq_true hc39)) (Calm.not rfl rfl) ?_
           refine AO.c (Calm.pickT rfl (bD (decide_eq_true hc39)) rfl) ?_
           cases hq38
           refine AO.nilE ⟨rfl, rfl⟩ ?_ ?_
           · exact ⟨rfl, rfl, rfl, rfl, rfl, rfl, rfl, rfl, rfl, trivial⟩
           · exact (Sub.refl _)
          ·refine AO.sT rfl rfl (bD (decide_eq_false hc39)) ?_
           refine AO.sT rfl rfl (bD (decide_eq_false hc39)) ?_
           refine AO.sT rfl rfl (bD (decide_eq_false hc39)) ?_
           refine AO.sT rfl rfl (bD (decide_eq_false hc39)) ?_
           refine AO.sT rfl rfl (bD (decide_eq_false hc39)) ?_
           refine AO.c (Calm.pickF rfl (bD (decide_eq_false hc39)) rfl) ?_
           cases hq38
           refine AO.nilE ⟨rfl, rfl⟩ ?_ ?_
           · exact ⟨rfl, rfl, rfl, rfl, rfl, rfl, rfl, rfl, rfl, trivial⟩
           · exact (Sub.refl _)
         ·rcases of_ite h with ⟨hc41, h⟩ | ⟨hc41, h⟩
          ·refine AW.condT' _ rfl hc41 ?_
           refine AW.reg ?_
           refine AO.c (Calm.assign rfl rfl) ?_
           refine AO.nK [1, 2, 3, 4, 5, 6, 7, 8] ?_
           exact ⟨(-1 : Int), rfl, rfl, h⟩
          ·refine AW.condF' _ rfl hc41 ?_
           refine AW.sK [1, 2, 3, 4, 5, 6, 7, 8] ?_
           exact ⟨(lget (lget p0.f1 x13) x26), rfl, rfl, h⟩
        ·rintro _ _ ⟨x33, rfl, rfl, h⟩
         rw [bosketref08_Trim_own_c3.eq_1] at h
         refine AW.reg ?_
         refine AO.c (Calm.move rfl rfl) ?_
         refine AO.c (Calm.move rfl rfl) ?_
         refine AO.lit (Z := (eI64 (0 : Int))) (xs := (([x33] : List Int).map eI64)) (qs := [(0, (eI64 x33))]) rfl 54 rfl (by decide) rfl ⟨rfl, rfl, rfl, trivial⟩ Try.underlying43 sz3 zr3 lay3 rfl (by decide) (litOK (z := 1) [(eI64 x33)] rfl ⟨⟨rfl, rfl⟩, trivial⟩) rfl fun n34 => ?_
         obtain ⟨hg36, h⟩ := of_guard h
         refine AO.appendL (l := x25) (m := ([x33] : List Int)) 6 55 rfl (by decide) rfl rfl rfl rfl rfl (Src.ownL (f := eI64) (l := ([x33] : List Int)) 0 rfl) Try.underlying43 Try.underlying43 sz3 by3 zr3 rfl hg36 (by decide) fun n35 => ?_
         refine AO.c (Calm.assign rfl rfl) ?_
         refine AO.nH [1, 2, 3, 4, 5, 6, 7] (H' := ((n2, (.mem (e50 p0))) :: (n3, (.mem (.st [(256, (.ar 1 ((Vector.replicate 256 (0 : Int)).toList.map eU8))), (1, (.fl (.slice none 0 0))), (1, (.fl (.slice none 0 0)))]))) :: (n8, (.mem (.st [(256, (.ar 1 (p0.f0.toList.map eU8))), (1, (.own n11 0 x12.length)), (1, (.own n6 0 (([] : List Int) ++ p0.f2).length))]))) :: (n11, (.mem (.ar 1 (x12.map e43)))) :: (n6, (.mem (.ar 1 ((([] : List Int) ++ p0.f2).map eI64)))) :: (n35, (.mem (.ar 1 ((x25 ++ ([x33] : List Int)).map eI64)))) :: T0)) (Sub.cons 1 rfl (Sub.cons 1 rfl (Sub.cons 1 rfl (Sub.cons 1 rfl (Sub.cons 1 rfl (Sub.cons 1 rfl (Sub.drop (Sub.refl _)))))))) ?_
         refine AW.reg ?_
         refine AO.c (Calm.move rfl rfl) ?_
         refine AO.c (x := eI64 (w64 (x26 + (1 : Int)))) (Calm.int rfl rfl rfl rfl) ?_
         refine AO.c (Calm.assign rfl rfl) ?_
         refine AO.nK [1, 2, 3, 4, 5, 6, 7] ?_
         exact ⟨kq28, Nat.lt_succ_self _, n35, (x25 ++ ([x33] : List Int)), (w64 (x26 + (1 : Int))), rfl, rfl, by rw [hrec27]; exact h⟩
       ·refine AW.condN _ rfl hc30 ?_
        refine AW.eK [1, 2, 3, 4, 5, 6] ?_
        exact ⟨n24, x25, rfl, rfl, h⟩
      ·rintro _ _ ⟨n19, x20, rfl, rfl, h⟩
       rw [bosketref08_Trim_own_c2.eq_1] at h
       refine AW.reg ?_
       refine AO.c (x := .ptr n8 256) (Calm.fldPtr rfl rfl Try.underlying50 rfl sz48 _ rfl) ?_
       refine AO.c (Calm.load 2 rfl rfl rfl (At.cast (At.fldS (At.fld0 At.here)) rfl) ag48 sz48) ?_
       refine AO.c (Calm.move rfl rfl) ?_
       refine AO.freezeS 5 [(6, (.fz 1 (x20.map eI64))), (58, (.fz 1 (x20.map eI64)))] rfl ⟨fz_all rfl, fz_all rfl, trivial⟩ ?_
       refine AO.lit (Z := (.fl (.slice none 0 0))) (xs := (([x20] : List (List Int)).map e43)) (qs := [(0, (.fz 1 (x20.map eI64)))]) rfl 59 rfl (by decide) rfl ⟨rfl, rfl, rfl, trivial⟩ Try.underlying48 sz43 zr43 lay43 rfl (by decide) (litOK (z := 1) [(.fz 1 (x20.map eI64))] rfl ⟨⟨rfl, rfl⟩, trivial⟩) rfl fun n21 => ?_
       obtain ⟨hg23, h⟩ := of_guard h
       refine AO.appendL (l := x12) (m := ([x20] : List (List Int))) 4 60 rfl (by decide) rfl rfl rfl rfl rfl (Src.ownL (f := e43) (l := ([x20] : List (List Int))) 0 rfl) Try.underlying48 Try.underlying48 sz43 by43 zr43 rfl hg23 (by decide) fun n22 => ?_
       refine AO.c (x := .ptr n8 256) (Calm.fldPtr rfl rfl Try.underlying50 rfl sz48 _ rfl) ?_
       refine AO.store (X' := (.st [(256, (.ar 1 (p0.f0.toList.map eU8))), (1, (.own n22 0 (x12 ++ ([x20] : List (List Int))).length)), (1, (.own n6 0 (([] : List Int) ++ p0.f2).length))])) 3 rfl rfl rfl rfl rfl rfl (Put.cast (Put.fldS (Put.fld0 Put.here)) rfl) rfl rfl sz48 rfl ?_
       refine AO.nH [1, 2, 3, 4, 5] (H' := ((n2, (.mem (e50 p0))) :: (n3, (.mem (.st [(256, (.ar 1 ((Vector.replicate 256 (0 : Int)).toList.map eU8))), (1, (.fl (.slice none 0 0))), (1, (.fl (.slice none 0 0)))]))) :: (n8, (.mem (.st [(256, (.ar 1 (p0.f0.toList.map eU8))), (1, (.own n22 0 (x12 ++ ([x20] : List (List Int))).length)), (1, (.own n6 0 (([] : List Int) ++ p0.f2).length))]))) :: (n22, (.mem (.ar 1 ((x12 ++ ([x20] : List (List Int))).map e43)))) :: (n6, (.mem (.ar 1 ((([] : List Int) ++ p0.f2).map eI64)))) :: T0)) (Sub.cons 1 rfl (Sub.cons 1 rfl (Sub.cons 1 rfl (Sub.cons 1 rfl (Sub.cons 1 rfl (Sub.drop (Sub.refl _))))))) ?_
       exact ⟨n22, (x12 ++ ([x20] : List (List Int))), rfl, rfl, h⟩
     ·rintro _ _ ⟨n17, x18, rfl, rfl, h⟩
      rw [bosketref08_Trim_own_c1.eq_1] at h
      refine AW.reg ?_
      refine AO.c (Calm.move rfl rfl) ?_
      refine AO.c (x := eI64 (w64 (x13 + (1 : Int)))) (Calm.int rfl rfl rfl rfl) ?_
      refine AO.c (Calm.assign rfl rfl) ?_
      refine AO.nK [1, 2, 3, 4, 5] ?_
      exact ⟨kq15, Nat.lt_succ_self _, n17, x18, (w64 (x13 + (1 : Int))), rfl, rfl, by rw [hrec14]; exact h⟩
    ·refine AW.condN _ rfl hc16 ?_
     refine AW.eH [2, 4] (H' := ((n3, (.mem (.st [(256, (.ar 1 ((Vector.replicate 256 (0 : Int)).toList.map eU8))), (1, (.fl (.slice none 0 0))), (1, (.fl (.slice none 0 0)))]))) :: (n8, (.mem (.st [(256, (.ar 1 (p0.f0.toList.map eU8))), (1, (.own n11 0 x12.length)), (1, (.own n6 0 (([] : List Int) ++ p0.f2).length))]))) :: (n11, (.mem (.ar 1 (x12.map e43)))) :: (n6, (.mem (.ar 1 ((([] : List Int) ++ p0.f2).map eI64)))) :: T0)) (Sub.cons 1 rfl (Sub.cons 1 rfl (Sub.cons 1 rfl (Sub.cons 1 rfl (Sub.drop (Sub.refl _)))))) ?_
     exact ⟨n11, x12, rfl, rfl, h⟩
   ·rintro _ _ ⟨n9, x10, rfl, rfl, h⟩
    rw [bosketref08_Trim_own_c0.eq_1] at h
    refine AW.sr ?_
    refine AO.freezeFld (X' := (.st [(256, (.ar 1 (p0.f0.toList.map eU8))), (1, (.fz 1 (x10.map e43))), (1, (.own n6 0 (([] : List Int) ++ p0.f2).length))])) (els' := (x10.map e43)) 2 1 rfl rfl (Put.cast (Put.fldS (Put.fld0 Put.here)) rfl) (by simp) (by rw [own_all]) rfl rfl (by decide) ?_
    refine AO.c (x := .st [(256, (.ar 1 (p0.f0.toList.map eU8))), (1, (.fz 1 (x10.map e43))), (1, (.own n6 0 (([] : List Int) ++ p0.f2).length))]) (Calm.load 1 rfl rfl rfl (At.cast At.here rfl) ag50 sz50) ?_
    refine AO.store (X' := (.st [(256, (.ar 1 (p0.f0.toList.map eU8))), (1, (.fz 1 (x10.map e43))), (1, (.own n6 0 (([] : List Int) ++ p0.f2).length))])) 0 rfl rfl rfl rfl rfl rfl (Put.cast Put.here rfl) rfl rfl sz50 rfl ?_
    refine AO.nH [2] (H' := ((n3, (.mem (.st [(256, (.ar 1 (p0.f0.toList.map eU8))), (1, (.fz 1 (x10.map e43))), (1, (.own n6 0 (([] : List Int) ++ p0.f2).length))]))) :: (n6, (.mem (.ar 1 ((([] : List Int) ++ p0.f2).map eI64)))) :: T0)) (Sub.cons 0 rfl (Sub.cons 1 rfl (Sub.drop (Sub.refl _)))) ?_
    refine AW.rK [2] ?_
    have hr := Option.some.inj h
    subst hr
    exact ⟨[(.st [(256, (.ar 1 (p0.f0.toList.map eU8))), (1, (.fz 1 (x10.map e43))), (1, (.own n6 0 (([] : List Int) ++ p0.f2).length))])], ⟨⟨_, 0, rfl, rfl, ag50, sz50⟩, trivial⟩, n6, rfl, (Sub.cons 1 rfl (Sub.drop (Sub.refl _)))⟩
end Go.Avl.T3
/- slices.Equal[[]int,int]; printed by avmain.py. -/
namespace Go.Avl.T3
open Go Go.RowKit Go.Proofs Go.Avl
set_option linter.unusedVariables false
set_option maxRecDepth 100000
set_option maxHeartbeats 4000000
attribute [local irreducible] AW AO AQ Spec SpecH Calm

def slices_Equal_int_int__c0 (k : Nat) : Option Bool :=
  some (true)
def slices_Equal_int_int__l1 (k : Nat) (p0 : (List Int)) (p1 : (List Int)) : Nat → Int → Option Bool
  | 0, _ => none
  | j + 1, x4 =>
    if x4 < (p0.length : Int) then if 0 ≤ x4 ∧ x4 < (p0.length : Int) then if 0 ≤ x4 ∧ x4 < (p1.length : Int) then if (lget p0 x4) ≠ (lget p1 x4) then some (false)
    else (slices_Equal_int_int__l1 k p0 p1 j) (w64 (x4 + (1 : Int)))
    else none
    else none
    else slices_Equal_int_int__c0 k
def slices_Equal_int_int_ (k : Nat) (p0 : (List Int)) (p1 : (List Int)) : Option Bool :=
  if (p0.length : Int) ≠ (p1.length : Int) then some (false)
  else slices_Equal_int_int__l1 k p0 p1 k (0 : Int)
theorem slices_Equal_int_int__spec {k : Nat} {p0 : (List Int)} {p1 : (List Int)} {r : Bool} (h : slices_Equal_int_int_ k p0 p1 = some r) : Spec Try.prog 54 [(.fz 1 (p0.map eI64)), (.fz 1 (p1.map eI64))] (eBool r) := by
  rw [slices_Equal_int_int_.eq_1] at h
  refine Spec.intro (res := [.tmp 4]) Try.func54 rfl rfl rfl (Nat.le_of_ble_eq_true rfl) ?_
  refine AW.sr ?_
  refine AO.c (Calm.assign rfl rfl) ?_
  refine AO.nK [0, 1] ?_
  refine AW.seq ?_
  refine AW.sr ?_
  refine AO.c (Calm.move rfl rfl) ?_
  refine AO.c (Calm.lenL rfl rfl Try.underlying43) ?_
  refine AO.c (Calm.move rfl rfl) ?_
  refine AO.c (Calm.lenL rfl rfl Try.underlying43) ?_
  refine AO.c (x := eBool (decide ((p0.length : Int) ≠ (p1.length : Int)))) (Calm.int rfl rfl rfl rfl) ?_
  refine AO.nK [0, 1, 10] ?_
  rcases of_ite h with ⟨hc3, h⟩ | ⟨hc3, h⟩
  ·refine AW.condP _ rfl hc3 ?_
   refine AW.sr ?_
   refine AO.c (Calm.assign rfl rfl) ?_
   refine AO.nK [4] ?_
   refine AW.rK [4] ?_
   have hr := Option.some.inj h
   subst hr
   exact ⟨[(eBool false)], ⟨rfl, rfl, trivial⟩, rfl⟩
  ·refine AW.condN _ rfl hc3 ?_
   refine AW.sK [0, 1] ?_
   refine AW.seq_mid (fun ρ H => ρ = [] ∧ H = [] ∧ slices_Equal_int_int__c0 k = some r) ?_ ?_
   ·refine AW.sr ?_
    refine AO.c (Calm.move rfl rfl) ?_
    refine AO.c (Calm.lenL rfl rfl Try.underlying43) ?_
    refine AO.c (Calm.move rfl rfl) ?_
    refine AO.nK [0, 1, 12, 13] ?_
    refine AW.block ?_
    refine AW.wK [0, 1, 12, 13] ?_
    refine AW.loop (fun kq ρ H => ∃ (x4 : Int), ρ = [(0, (.fz 1 (p0.map eI64))), (1, (.fz 1 (p1.map eI64))), (12, (eI64 (p0.length : Int))), (13, (eI64 x4))] ∧ H = [] ∧ slices_Equal_int_int__l1 k p0 p1 kq x4 = some r) k ⟨(0 : Int), rfl, rfl, h⟩ ?_
    rintro kq6 _ _ ⟨x4, rfl, rfl, h⟩
    cases kq6 with
    | zero => rw [slices_Equal_int_int__l1.eq_1] at h; cases h
    | succ kq6 =>
    rw [slices_Equal_int_int__l1.eq_2] at h
    generalize hrec5 : slices_Equal_int_int__l1 k p0 p1 kq6 = rec5 at h
    refine AW.sr ?_
    refine AO.c (x := eBool (decide (x4 < (p0.length : Int)))) (Calm.int rfl rfl rfl rfl) ?_
    refine AO.nK [0, 1, 12, 13, 14] ?_
    refine AW.seq ?_
    rcases of_ite h with ⟨hc7, h⟩ | ⟨hc7, h⟩
    ·refine AW.condP _ rfl hc7 ?_
     refine AW.sK [0, 1, 12, 13] ?_
     refine AW.seq ?_
     refine AW.block ?_
     refine AW.sr ?_
     refine AO.c (Calm.move rfl rfl) ?_
     refine AO.c (Calm.assign rfl rfl) ?_
     refine AO.nK [0, 1, 5, 12, 13] ?_
     refine AW.seq ?_
     refine AW.regQ (by rfl) (by decide +kernel) ?_
     refine AQ.c (Calm.move rfl rfl) ?_
     refine AQ.c (Calm.move rfl rfl) ?_
     obtain ⟨hg8, h⟩ := of_guard h
     refine AQ.c (Calm.idxL (f := eI64) rfl rfl rfl hg8 Try.underlying43 sz3) ?_
     refine AQ.c (Calm.loadRp rfl rfl ag3 sz3) ?_
     refine AQ.c (Calm.move rfl rfl) ?_
     refine AQ.c (Calm.move rfl rfl) ?_
     obtain ⟨hg9, h⟩ := of_guard h
     refine AQ.c (Calm.idxL (f := eI64) rfl rfl rfl hg9 Try.underlying43 sz3) ?_
     refine AQ.c (Calm.loadRp rfl rfl ag3 sz3) ?_
     refine AQ.c (x := eBool (decide ((lget p0 x4) ≠ (lget p1 x4)))) (Calm.int rfl rfl rfl rfl) ?_
     refine AQ.nK [0, 1, 12, 13, 24] ?_
     rcases of_ite h with ⟨hc10, h⟩ | ⟨hc10, h⟩
     ·refine AW.condP _ rfl hc10 ?_
      refine AW.sr ?_
      refine AO.c (Calm.assign rfl rfl) ?_
      refine AO.nK [4] ?_
      refine AW.rK [4] ?_
      have hr := Option.some.inj h
      subst hr
      exact ⟨[(eBool false)], ⟨rfl, rfl, trivial⟩, rfl⟩
     ·refine AW.condN _ rfl hc10 ?_
      refine AW.sK [0, 1, 12, 13] ?_
      refine AW.reg ?_
      refine AO.c (x := eI64 (w64 (x4 + (1 : Int)))) (Calm.int rfl rfl rfl rfl) ?_
      refine AO.c (Calm.move rfl rfl) ?_
      refine AO.nK [0, 1, 12, 13] ?_
      exact ⟨kq6, Nat.lt_succ_self _, (w64 (x4 + (1 : Int))), rfl, rfl, by rw [hrec5]; exact h⟩
    ·refine AW.condN _ rfl hc7 ?_
     refine AW.eK [] ?_
     exact ⟨rfl, rfl, h⟩
   ·rintro _ _ ⟨rfl, rfl, h⟩
    rw [slices_Equal_int_int__c0.eq_1] at h
    refine AW.sr ?_
    refine AO.c (Calm.assign rfl rfl) ?_
    refine AO.nK [4] ?_
    refine AW.rK [4] ?_
    have hr := Option.some.inj h
    subst hr
    exact ⟨[(eBool true)], ⟨rfl, rfl, trivial⟩, rfl⟩
end Go.Avl.T3
/- slices.EqualFunc[[][]int,[][]int,[]int,[]int]; printed by avmain.py. -/
namespace Go.Avl.T3
open Go Go.RowKit Go.Proofs Go.Avl
set_option linter.unusedVariables false
set_option maxRecDepth 100000
set_option maxHeartbeats 4000000
attribute [local irreducible] AW AO AQ Spec SpecH Calm

def slices_EqualFunc_int_int_int_int__c0 (k : Nat) : Option Bool :=
  some (true)
def slices_EqualFunc_int_int_int_int__l1 (k : Nat) (p0 : (List (List Int))) (p1 : (List (List Int))) : Nat → Int → Option Bool
  | 0, _ => none
  | j + 1, x5 =>
    if x5 < (p0.length : Int) then if 0 ≤ x5 ∧ x5 < (p0.length : Int) then if 0 ≤ x5 ∧ x5 < (p1.length : Int) then (slices_Equal_int_int_ k (lget p0 x5) (lget p1 x5)).bind fun t11 =>
    if (!t11) = true then some (false)
    else (slices_EqualFunc_int_int_int_int__l1 k p0 p1 j) (w64 (x5 + (1 : Int)))
    else none
    else none
    else slices_EqualFunc_int_int_int_int__c0 k
def slices_EqualFunc_int_int_int_int_ (k : Nat) (p0 : (List (List Int))) (p1 : (List (List Int))) : Option Bool :=
  if (p0.length : Int) ≠ (p1.length : Int) then some (false)
  else slices_EqualFunc_int_int_int_int__l1 k p0 p1 k (0 : Int)
theorem slices_EqualFunc_int_int_int_int__spec {k : Nat} {p0 : (List (List Int))} {p1 : (List (List Int))} {r : Bool} (h : slices_EqualFunc_int_int_int_int_ k p0 p1 = some r) : Spec Try.prog 55 [(.fz 1 (p0.map e43)), (.fz 1 (p1.map e43)), (.fl (.func (.func 54) #[] #[]))] (eBool r) := by
  rw [slices_EqualFunc_int_int_int_int_.eq_1] at h
  refine Spec.intro (res := [.tmp 6]) Try.func55 rfl rfl rfl (Nat.le_of_ble_eq_true rfl) ?_
  refine AW.sr ?_
  refine AO.c (Calm.assign rfl rfl) ?_
  refine AO.nK [0, 1, 2] ?_
  refine AW.seq ?_
  refine AW.sr ?_
  refine AO.c (Calm.move rfl rfl) ?_
  refine AO.c (Calm.lenL rfl rfl Try.underlying48) ?_
  refine AO.c (Calm.move rfl rfl) ?_
  refine AO.c (Calm.lenL rfl rfl Try.underlying48) ?_
  refine AO.c (x := eBool (decide ((p0.length : Int) ≠ (p1.length : Int)))) (Calm.int rfl rfl rfl rfl) ?_
  refine AO.nK [0, 1, 2, 14] ?_
  rcases of_ite h with ⟨hc4, h⟩ | ⟨hc4, h⟩
  ·refine AW.condP _ rfl hc4 ?_
   refine AW.sr ?_
   refine AO.c (Calm.assign rfl rfl) ?_
   refine AO.nK [6] ?_
   refine AW.rK [6] ?_
   have hr := Option.some.inj h
   subst hr
   exact ⟨[(eBool false)], ⟨rfl, rfl, trivial⟩, rfl⟩
  ·refine AW.condN _ rfl hc4 ?_
   refine AW.sK [0, 1, 2] ?_
   refine AW.seq_mid (fun ρ H => ρ = [] ∧ H = [] ∧ slices_EqualFunc_int_int_int_int__c0 k = some r) ?_ ?_
   ·refine AW.sr ?_
    refine AO.c (Calm.move rfl rfl) ?_
    refine AO.c (Calm.lenL rfl rfl Try.underlying48) ?_
    refine AO.c (Calm.move rfl rfl) ?_
    refine AO.nK [1, 2, 15, 16, 17] ?_
    refine AW.block ?_
    refine AW.wK [1, 2, 15, 16, 17] ?_
    refine AW.loop (fun kq ρ H => ∃ (x5 : Int), ρ = [(1, (.fz 1 (p1.map e43))), (2, (.fl (.func (.func 54) #[] #[]))), (15, (.fz 1 (p0.map e43))), (16, (eI64 (p0.length : Int))), (17, (eI64 x5))] ∧ H = [] ∧ slices_EqualFunc_int_int_int_int__l1 k p0 p1 kq x5 = some r) k ⟨(0 : Int), rfl, rfl, h⟩ ?_
    rintro kq7 _ _ ⟨x5, rfl, rfl, h⟩
    cases kq7 with
    | zero => rw [slices_EqualFunc_int_int_int_int__l1.eq_1] at h; cases h
    | succ kq7 =>
    rw [slices_EqualFunc_int_int_int_int__l1.eq_2] at h
    generalize hrec6 : slices_EqualFunc_int_int_int_int__l1 k p0 p1 kq7 = rec6 at h
    refine AW.sr ?_
    refine AO.c (x := eBool (decide (x5 < (p0.length : Int)))) (Calm.int rfl rfl rfl rfl) ?_
    refine AO.nK [1, 2, 15, 16, 17, 18] ?_
    refine AW.seq ?_
    rcases of_ite h with ⟨hc8, h⟩ | ⟨hc8, h⟩
    ·refine AW.condP _ rfl hc8 ?_
     refine AW.sK [1, 2, 15, 16, 17] ?_
     refine AW.seq ?_
     refine AW.block ?_
     refine AW.sr ?_
     refine AO.c (Calm.move rfl rfl) ?_
     obtain ⟨hg9, h⟩ := of_guard h
     refine AO.c (Calm.idxL (f := e43) rfl rfl rfl hg9 Try.underlying48 sz43) ?_
     refine AO.c (Calm.loadRp rfl rfl ag43 sz43) ?_
     refine AO.c (Calm.assign rfl rfl) ?_
     refine AO.c (Calm.assign rfl rfl) ?_
     refine AO.nK [1, 2, 7, 8, 15, 16, 17] ?_
     refine AW.sr ?_
     refine AO.c (Calm.move rfl rfl) ?_
     refine AO.c (Calm.move rfl rfl) ?_
     obtain ⟨hg10, h⟩ := of_guard h
     refine AO.c (Calm.idxL (f := e43) rfl rfl rfl hg10 Try.underlying48 sz43) ?_
     refine AO.c (Calm.loadRp rfl rfl ag43 sz43) ?_
     refine AO.c (Calm.assign rfl rfl) ?_
     refine AO.nK [1, 2, 8, 9, 15, 16, 17] ?_
     refine AW.sr ?_
     refine AO.c (Calm.move rfl rfl) ?_
     refine AO.c (Calm.move rfl rfl) ?_
     refine AO.c (Calm.move rfl rfl) ?_
     obtain ⟨t11, et11, h⟩ := of_bind h
     refine AO.callS [(.fz 1 ((lget p0 x5).map eI64)), (.fz 1 ((lget p1 x5).map eI64))] (eBool t11) 29 rfl (by decide) ok54 rfl rfl rfl ⟨rfl, rfl, rfl, rfl, trivial⟩ (slices_Equal_int_int__spec et11) ?_
     refine AO.c (Calm.not rfl rfl) ?_
     refine AO.nK [1, 2, 15, 16, 17, 30] ?_
     rcases of_ite h with ⟨hc12, h⟩ | ⟨hc12, h⟩
     ·refine AW.condT' _ rfl hc12 ?_
      refine AW.sr ?_
      refine AO.c (Calm.assign rfl rfl) ?_
      refine AO.nK [6] ?_
      refine AW.rK [6] ?_
      have hr := Option.some.inj h
      subst hr
      exact ⟨[(eBool false)], ⟨rfl, rfl, trivial⟩, rfl⟩
     ·refine AW.condF' _ rfl hc12 ?_
      refine AW.sK [1, 2, 15, 16, 17] ?_
      refine AW.reg ?_
      refine AO.c (x := eI64 (w64 (x5 + (1 : Int)))) (Calm.int rfl rfl rfl rfl) ?_
      refine AO.c (Calm.move rfl rfl) ?_
      refine AO.nK [1, 2, 15, 16, 17] ?_
      exact ⟨kq7, Nat.lt_succ_self _, (w64 (x5 + (1 : Int))), rfl, rfl, by rw [hrec6]; exact h⟩
    ·refine AW.condN _ rfl hc8 ?_
     refine AW.eK [] ?_
     exact ⟨rfl, rfl, h⟩
   ·rintro _ _ ⟨rfl, rfl, h⟩
    rw [slices_EqualFunc_int_int_int_int__c0.eq_1] at h
    refine AW.sr ?_
    refine AO.c (Calm.assign rfl rfl) ?_
    refine AO.nK [6] ?_
    refine AW.rK [6] ?_
    have hr := Option.some.inj h
    subst hr
    exact ⟨[(eBool true)], ⟨rfl, rfl, trivial⟩, rfl⟩
end Go.Avl.T3
/- bosket/dfa.Same; printed by avmain.py. -/
namespace Go.Avl.T3
open Go Go.RowKit Go.Proofs Go.Avl
set_option linter.unusedVariables false
set_option maxRecDepth 100000
set_option maxHeartbeats 4000000
attribute [local irreducible] AW AO AQ Spec SpecH Calm

def dfa_Same (k : Nat) (p0 : S50) (p1 : S50) : Option Bool :=
  Option.bind (α := Bool) (if p0.f0 = p1.f0 then (slices_Equal_int_int_ k p0.f2 p1.f2).bind fun t8 =>
  if t8 = true then (slices_EqualFunc_int_int_int_int_ k p0.f1 p1.f1).bind fun t10 =>
  some (t10)
  else some (false)
  else some (false)) fun b5 =>
  some (b5)
theorem dfa_Same_spec {k : Nat} {p0 : S50} {p1 : S50} {r : Bool} (h : dfa_Same k p0 p1 = some r) : Spec Try.prog 29 [(e50 p0), (e50 p1)] (eBool r) := by
  rw [dfa_Same.eq_1] at h
  refine Spec.intro (res := [.tmp 4]) Try.func29 rfl rfl rfl (Nat.le_of_ble_eq_true rfl) ?_
  refine AW.sr ?_
  refine AO.box rfl 2 rfl (by decide) rfl rfl rfl fun n3 => ?_
  refine AO.box rfl 3 rfl (by decide) rfl rfl rfl fun n4 => ?_
  refine AO.c (Calm.assign rfl rfl) ?_
  refine AO.nH [2, 3] (H' := [(n3, (.mem (e50 p0))), (n4, (.mem (e50 p1)))]) (Sub.cons 1 rfl (Sub.cons 0 rfl (Sub.nil _))) ?_
  refine AW.seq ?_
  obtain ⟨b5, hq6, h⟩ := of_bind h
  refine AW.regM [(4, (eBool b5))] [] ?_ ?_
  ·refine AO.c (x := .ptr n3 0) (Calm.fldPtr rfl rfl Try.underlying50 rfl sz47 _ rfl) ?_
   refine AO.c (Calm.load 0 rfl rfl rfl (At.cast (At.fld0 At.here) rfl) ag47 (by rw [sz47]; simp [AV.size])) ?_
   refine AO.c (x := .ptr n4 0) (Calm.fldPtr rfl rfl Try.underlying50 rfl sz47 _ rfl) ?_
   refine AO.c (Calm.load 1 rfl rfl rfl (At.cast (At.fld0 At.here) rfl) ag47 (by rw [sz47]; simp [AV.size])) ?_
   refine AO.c (x := eBool (decide (p0.f0 = p1.f0))) (Calm.eqA rfl rfl rfl eg47 (eqa47 p0.f0 p1.f0) (by decide)) ?_
   refine AO.c (Calm.move rfl rfl) ?_
   rcases of_ite hq6 with ⟨hc7, hq6⟩ | ⟨hc7, hq6⟩
   ·refine AO.cG (x := .ptr n3 257) rfl rfl (bD (decide_eq_true hc7)) (Calm.fldPtr rfl rfl Try.underlying50 rfl sz43 _ rfl) ?_
    refine AO.cG rfl rfl (bD (decide_eq_true hc7)) (Calm.load 0 rfl rfl rfl (At.cast (At.fldS (At.fldS (At.fld0 At.here))) rfl) ag43 sz43) ?_
    refine AO.cG (x := .ptr n4 257) rfl rfl (bD (decide_eq_true hc7)) (Calm.fldPtr rfl rfl Try.underlying50 rfl sz43 _ rfl) ?_
    refine AO.cG rfl rfl (bD (decide_eq_true hc7)) (Calm.load 1 rfl rfl rfl (At.cast (At.fldS (At.fldS (At.fld0 At.here))) rfl) ag43 sz43) ?_
    obtain ⟨t8, et8, hq6⟩ := of_bind hq6
    refine AO.callG 5 true 10 [(.fz 1 (p0.f2.map eI64)), (.fz 1 (p1.f2.map eI64))] (eBool t8) 15 rfl (by decide) ok54 rfl rfl (bD (decide_eq_true hc7)) rfl rfl ⟨rfl, rfl, rfl, rfl, trivial⟩ (slices_Equal_int_int__spec et8) ?_
    refine AO.c (Calm.pickT rfl (bD (decide_eq_true hc7)) rfl) ?_
    refine AO.c (Calm.move rfl rfl) ?_
    rcases of_ite hq6 with ⟨hc9, hq6⟩ | ⟨hc9, hq6⟩
    ·refine AO.cG (x := .ptr n3 256) rfl rfl (bD hc9) (Calm.fldPtr rfl rfl Try.underlying50 rfl sz48 _ rfl) ?_
     refine AO.cG rfl rfl (bD hc9) (Calm.load 0 rfl rfl rfl (At.cast (At.fldS (At.fld0 At.here)) rfl) ag48 sz48) ?_
     refine AO.cG (x := .ptr n4 256) rfl rfl (bD hc9) (Calm.fldPtr rfl rfl Try.underlying50 rfl sz48 _ rfl) ?_
     refine AO.cG rfl rfl (bD hc9) (Calm.load 1 rfl rfl rfl (At.cast (At.fldS (At.fld0 At.here)) rfl) ag48 sz48) ?_
     obtain ⟨t10, et10, hq6⟩ := of_bind hq6
     refine AO.callG 12 true 17 [(.fz 1 (p0.f1.map e43)), (.fz 1 (p1.f1.map e43)), (.fl (.func (.func 54) #[] #[]))] (eBool t10) 22 rfl (by decide) ok55 rfl rfl (bD hc9) rfl rfl ⟨rfl, rfl, rfl, rfl, rfl, rfl, trivial⟩ (slices_EqualFunc_int_int_int_int__spec et10) ?_
     refine AO.c (Calm.pickT rfl (bD hc9) rfl) ?_
     refine AO.c (Calm.assign rfl rfl) ?_
     cases hq6
     refine AO.nilE ⟨rfl, rfl⟩ ?_ ?_
     · exact ⟨rfl, trivial⟩
     · exact (Sub.nil _)
    ·refine AO.sT rfl rfl (bD (eq_false_of_ne_true hc9)) ?_
     refine AO.sT rfl rfl (bD (eq_false_of_ne_true hc9)) ?_
     refine AO.sT rfl rfl (bD (eq_false_of_ne_true hc9)) ?_
     refine AO.sT rfl rfl (bD (eq_false_of_ne_true hc9)) ?_
     refine AO.sT rfl rfl (bD (eq_false_of_ne_true hc9)) ?_
     refine AO.c (Calm.pickF rfl (bD (eq_false_of_ne_true hc9)) rfl) ?_
     refine AO.c (Calm.assign rfl rfl) ?_
     cases hq6
     refine AO.nilE ⟨rfl, rfl⟩ ?_ ?_
     · exact ⟨rfl, trivial⟩
     · exact (Sub.nil _)
   ·refine AO.sT rfl rfl (bD (decide_eq_false hc7)) ?_
    refine AO.sT rfl rfl (bD (decide_eq_false hc7)) ?_
    refine AO.sT rfl rfl (bD (decide_eq_false hc7)) ?_
    refine AO.sT rfl rfl (bD (decide_eq_false hc7)) ?_
    refine AO.sT rfl rfl (bD (decide_eq_false hc7)) ?_
    refine AO.c (Calm.pickF rfl (bD (decide_eq_false hc7)) rfl) ?_
    refine AO.c (Calm.move rfl rfl) ?_
    refine AO.sT rfl rfl rfl ?_
    refine AO.sT rfl rfl rfl ?_
    refine AO.sT rfl rfl rfl ?_
    refine AO.sT rfl rfl rfl ?_
    refine AO.sT rfl rfl rfl ?_
    refine AO.c (Calm.pickF rfl rfl rfl) ?_
    refine AO.c (Calm.assign rfl rfl) ?_
    cases hq6
    refine AO.nilE ⟨rfl, rfl⟩ ?_ ?_
    · exact ⟨rfl, trivial⟩
    · exact (Sub.nil _)
  ·refine AW.rK [4] ?_
   have hr := Option.some.inj h
   subst hr
   exact ⟨[(eBool b5)], ⟨rfl, rfl, trivial⟩, rfl⟩
end Go.Avl.T3
