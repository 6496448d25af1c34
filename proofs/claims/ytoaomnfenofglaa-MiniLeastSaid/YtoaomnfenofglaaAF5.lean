/- Parts: T5f38, T5f41, T5f73, T5f70, T5f39, T5f40. -/
import Derived.Test.YtoaomnfenofglaaAF1
import Derived.Test.YtoaomnfenofglaaAF4
import Derived.Test.YtoaomnfenofglaaAv3
/- bosket/bosketref08.Trim; printed by avmain.py. -/
namespace Go.Avl.T5
open Go Go.RowKit Go.Proofs Go.Avl
set_option linter.unusedVariables false
set_option maxRecDepth 100000
set_option maxHeartbeats 4000000
set_option linter.unusedSimpArgs false
attribute [local irreducible] AW AO AQ Spec SpecH Calm

def bosketref08_Trim_c0 (k : Nat) (p0 : S30) (x10 : (List (List Int))) : Option S30 :=
  some ((S30.mk p0.f0 x10 (([] : List Int) ++ p0.f2)))
def bosketref08_Trim_c1 (k : Nat) (rec14 : ((List (List Int)) → Int → Option S30)) (x13 : Int) (x18 : (List (List Int))) : Option S30 :=
  rec14 x18 (w64 (x13 + (1 : Int)))
def bosketref08_Trim_c2 (k : Nat) (rec14 : ((List (List Int)) → Int → Option S30)) (x12 : (List (List Int))) (x13 : Int) (x20 : (List Int)) : Option S30 :=
  if (x12 ++ ([x20] : List (List Int))).length * 24 ≤ 140737488355328 then bosketref08_Trim_c1 k rec14 x13 (x12 ++ ([x20] : List (List Int)))
  else none
def bosketref08_Trim_c3 (k : Nat) (rec27 : ((List Int) → Int → Option S30)) (x25 : (List Int)) (x26 : Int) (x33 : Int) : Option S30 :=
  if (x25 ++ ([x33] : List Int)).length * 8 ≤ 140737488355328 then rec27 (x25 ++ ([x33] : List Int)) (w64 (x26 + (1 : Int)))
  else none
def bosketref08_Trim_l4 (k : Nat) (rec14 : ((List (List Int)) → Int → Option S30)) (p0 : S30) (t4 : (List Bool)) (x12 : (List (List Int))) (x13 : Int) : Nat → (List Int) → Int → Option S30
  | 0, _, _ => none
  | j + 1, x25, x26 =>
    if 0 ≤ x13 ∧ x13 < (p0.f1.length : Int) then if x26 < ((lget p0.f1 x13).length : Int) then if 0 ≤ x13 ∧ x13 < (p0.f1.length : Int) then if 0 ≤ x26 ∧ x26 < ((lget p0.f1 x13).length : Int) then Option.bind (α := Bool) (if (0 : Int) ≤ (lget (lget p0.f1 x13) x26) then if 0 ≤ (lget (lget p0.f1 x13) x26) ∧ (lget (lget p0.f1 x13) x26) < (t4.length : Int) then some (!(lget t4 (lget (lget p0.f1 x13) x26)))
    else none
    else some (false)) fun b37 =>
    if b37 = true then bosketref08_Trim_c3 k (bosketref08_Trim_l4 k rec14 p0 t4 x12 x13 j) x25 x26 (-1 : Int)
    else bosketref08_Trim_c3 k (bosketref08_Trim_l4 k rec14 p0 t4 x12 x13 j) x25 x26 (lget (lget p0.f1 x13) x26)
    else none
    else none
    else bosketref08_Trim_c2 k rec14 x12 x13 x25
    else none
def bosketref08_Trim_l5 (k : Nat) (p0 : S30) (t4 : (List Bool)) : Nat → (List (List Int)) → Int → Option S30
  | 0, _, _ => none
  | j + 1, x12, x13 =>
    if x13 < (p0.f1.length : Int) then bosketref08_Trim_l4 k (bosketref08_Trim_l5 k p0 t4 j) p0 t4 x12 x13 k ([] : List Int) (0 : Int)
    else bosketref08_Trim_c0 k p0 x12
def bosketref08_Trim (k : Nat) (p0 : S30) : Option S30 :=
  (bosketref08_Alive k p0).bind fun t4 =>
  if (([] : List Int) ++ p0.f2).length * 8 ≤ 140737488355328 then bosketref08_Trim_l5 k p0 t4 k ([] : List (List Int)) (0 : Int)
  else none
theorem bosketref08_Trim_spec {k : Nat} {p0 : S30} {r : S30} (h : bosketref08_Trim k p0 = some r) : Spec Try.prog 38 [(e30 p0)] (e30 r) := by
  rw [bosketref08_Trim.eq_1] at h
  refine Spec.intro (res := [.cell 2 30]) Try.func38 rfl rfl rfl (Nat.le_of_ble_eq_true rfl) ?_
  refine AW.sr ?_
  refine AO.box rfl 1 rfl (by decide) rfl rfl rfl fun n2 => ?_
  refine AO.alloc rfl 2 rfl (by decide) rfl zr30 lay30 fun n3 => ?_
  refine AO.nH [1, 2] (H' := [(n2, (.mem (e30 p0))), (n3, (.mem (.st [(256, (.ar 1 ((Vector.replicate 256 (0 : Int)).toList.map eU8))), (1, (.fl (.slice none 0 0))), (1, (.fl (.slice none 0 0)))])))]) (Sub.cons 1 rfl (Sub.cons 0 rfl (Sub.nil _))) ?_
  refine AW.sr ?_
  refine AO.c (Calm.load 0 rfl rfl rfl (At.cast At.here rfl) ag30 sz30) ?_
  obtain ⟨t4, et4, h⟩ := of_bind h
  refine AO.callS [(e30 p0)] (.fz 1 (t4.map eBool)) 10 rfl (by decide) ok72 rfl rfl rfl ⟨rfl, rfl, trivial⟩ (bosketref08_Alive_spec et4) ?_
  refine AO.c (Calm.assign rfl rfl) ?_
  refine AO.nK [1, 2, 3] ?_
  refine AW.seq ?_
  obtain ⟨hg7, h⟩ := of_guard h
  refine AW.regEff (by rfl) (by decide +kernel) (fun (σ : Nat → Nat) => ([(.ptr n2 0), (.ar 1 (p0.f0.toList.map eU8)), (.own (σ 2) 0 ([] : List Int).length), (.ptr n2 257), (.fz 1 (p0.f2.map eI64)), (.own (σ 5) 0 (([] : List Int) ++ p0.f2).length), (.st [(256, (.ar 1 (p0.f0.toList.map eU8))), (1, (.fl (.slice none 0 0))), (1, (.own (σ 5) 0 (([] : List Int) ++ p0.f2).length))]), (.ptr (σ 7) 0), (.fl undef)] : List AV)) (fun (L : Nat → Bool) (σ : Nat → Nat) => ((n2, (.mem (e30 p0))) :: (n3, (.mem (.st [(256, (.ar 1 ((Vector.replicate 256 (0 : Int)).toList.map eU8))), (1, (.fl (.slice none 0 0))), (1, (.fl (.slice none 0 0)))]))) :: (bif L 2 then (bif L 5 then (bif L 7 then (bif L 8 then (((σ 7), (.mem (.st [(256, (.ar 1 (p0.f0.toList.map eU8))), (1, (.fl (.slice none 0 0))), (1, (.own (σ 5) 0 (([] : List Int) ++ p0.f2).length))]))) :: ((σ 5), (.mem (.ar 1 ((([] : List Int) ++ p0.f2).map eI64)))) :: []) else (((σ 7), (.mem (.st [(256, (.ar 1 ((Vector.replicate 256 (0 : Int)).toList.map eU8))), (1, (.fl (.slice none 0 0))), (1, (.fl (.slice none 0 0)))]))) :: ((σ 5), (.mem (.ar 1 ((([] : List Int) ++ p0.f2).map eI64)))) :: [])) else (((σ 5), (.mem (.ar 1 ((([] : List Int) ++ p0.f2).map eI64)))) :: [])) else (bif L 7 then (((σ 7), (.mem (.st [(256, (.ar 1 ((Vector.replicate 256 (0 : Int)).toList.map eU8))), (1, (.fl (.slice none 0 0))), (1, (.fl (.slice none 0 0)))]))) :: ((σ 2), (.mem (.ar 1 (([] : List Int).map eI64)))) :: []) else (((σ 2), (.mem (.ar 1 (([] : List Int).map eI64)))) :: []))) else (bif L 7 then (((σ 7), (.mem (.st [(256, (.ar 1 ((Vector.replicate 256 (0 : Int)).toList.map eU8))), (1, (.fl (.slice none 0 0))), (1, (.fl (.slice none 0 0)))]))) :: []) else ([]))) : Heap)) [(1, (.ptr n2 0)), (2, (.ptr n3 0)), (3, (.fz 1 (t4.map eBool)))] ⟨rfl, rfl, rfl, trivial⟩ (fun _ => rfl) (fun σ => (Sub.refl _)) ⟨?_, ?_, ?_, ?_, ?_, ?_, ?_, ?_, ?_, trivial⟩ (fun σ => [(1, (.ptr n2 0)), (2, (.ptr n3 0)), (3, (.fz 1 (t4.map eBool))), (4, (.ptr (σ 7) 0))]) (fun σ => ((n2, (.mem (e30 p0))) :: (n3, (.mem (.st [(256, (.ar 1 ((Vector.replicate 256 (0 : Int)).toList.map eU8))), (1, (.fl (.slice none 0 0))), (1, (.fl (.slice none 0 0)))]))) :: ((σ 7), (.mem (.st [(256, (.ar 1 (p0.f0.toList.map eU8))), (1, (.fl (.slice none 0 0))), (1, (.own (σ 5) 0 (([] : List Int) ++ p0.f2).length))]))) :: ((σ 5), (.mem (.ar 1 ((([] : List Int) ++ p0.f2).map eI64)))) :: [])) (fun σ => ⟨rfl, rfl, rfl, rfl, trivial⟩) (fun σ => Sub.refl _) (fun σ => ?_)
  ·refine StepE.calm (fun _ _ => rfl) fun L σ hc hi hd => ?_
   refine AO.wK [1] ?_
   refine AO.c (x := .ptr n2 0) (Calm.fldPtr rfl rfl Try.underlying30 rfl sz27 _ rfl) ?_
   exact AO.nE (d := 11) rfl ⟨⟨11, _, rfl, rfl, rfl⟩, Sub.refl _⟩
  ·refine StepE.calm (fun _ _ => rfl) fun L σ hc hi hd => ?_
   refine AO.wK [11] ?_
   refine AO.c (Calm.load 0 rfl rfl rfl (At.cast (At.fld0 At.here) rfl) ag27 (by rw [sz27]; simp [AV.size])) ?_
   exact AO.nE (d := 12) rfl ⟨⟨12, _, rfl, rfl, rfl⟩, Sub.refl _⟩
  ·intro L σ hc hi hd
   have m5 : L 5 = false := hc.neg (i := 2) (j := 5) rfl (by rfl) hi
   have m8 : L 8 = false := hc.neg (i := 2) (j := 8) rfl (by rfl) hi
   cases b7 : L 7 with
   | true =>
     refine AO.heq (H' := ((n2, (.mem (e30 p0))) :: (n3, (.mem (.st [(256, (.ar 1 ((Vector.replicate 256 (0 : Int)).toList.map eU8))), (1, (.fl (.slice none 0 0))), (1, (.fl (.slice none 0 0)))]))) :: ((σ 7), (.mem (.st [(256, (.ar 1 ((Vector.replicate 256 (0 : Int)).toList.map eU8))), (1, (.fl (.slice none 0 0))), (1, (.fl (.slice none 0 0)))]))) :: [])) (by first | rfl | simp only [hi, m5, b7, m8, cond_true, cond_false]) ?_
     refine AO.wK [] ?_
     refine AO.lit (Z := (eI64 (0 : Int))) (xs := (([] : List Int).map eI64)) (qs := []) rfl 13 rfl (by decide) rfl trivial Try.underlying25 sz3 zr3 lay3 rfl (by decide) (litOK (z := 1) [] rfl trivial) rfl fun n5 => ?_
     have a2 : addL L 2 2 = true := rfl
     have a5 : addL L 2 5 = false := m5
     have a7 : addL L 2 7 = true := b7
     have a8 : addL L 2 8 = false := m8
     have u2 : upd σ 2 n5 2 = n5 := rfl
     have u5 : upd σ 2 n5 5 = σ 5 := rfl
     have u7 : upd σ 2 n5 7 = σ 7 := rfl
     exact AO.nE (d := 13) rfl ⟨(upd σ 2 n5), (fun j hj => match j, hj with | 0, _ => rfl | 1, _ => rfl | 2, hj => Bool.noConfusion (hj.symm.trans hi) | 3, _ => rfl | 4, _ => rfl | 5, _ => rfl | 6, _ => rfl | 7, _ => rfl | 8, _ => rfl | _ + 9, _ => rfl), (fun d' hd' => ⟨_, rfl, by cases hd'; rfl⟩), Sub.of_eq (B := ((n2, (.mem (e30 p0))) :: (n3, (.mem (.st [(256, (.ar 1 ((Vector.replicate 256 (0 : Int)).toList.map eU8))), (1, (.fl (.slice none 0 0))), (1, (.fl (.slice none 0 0)))]))) :: ((σ 7), (.mem (.st [(256, (.ar 1 ((Vector.replicate 256 (0 : Int)).toList.map eU8))), (1, (.fl (.slice none 0 0))), (1, (.fl (.slice none 0 0)))]))) :: (n5, (.mem (.ar 1 (([] : List Int).map eI64)))) :: [])) (by simp only [a2, a5, a7, a8, u2, u5, u7, cond_true, cond_false]) (Sub.cons 1 rfl (Sub.cons 1 rfl (Sub.cons 1 rfl (Sub.cons 0 rfl (Sub.refl _)))))⟩
   | false =>
     refine AO.heq (H' := ((n2, (.mem (e30 p0))) :: (n3, (.mem (.st [(256, (.ar 1 ((Vector.replicate 256 (0 : Int)).toList.map eU8))), (1, (.fl (.slice none 0 0))), (1, (.fl (.slice none 0 0)))]))) :: [])) (by first | rfl | simp only [hi, m5, b7, m8, cond_true, cond_false]) ?_
     refine AO.wK [] ?_
     refine AO.lit (Z := (eI64 (0 : Int))) (xs := (([] : List Int).map eI64)) (qs := []) rfl 13 rfl (by decide) rfl trivial Try.underlying25 sz3 zr3 lay3 rfl (by decide) (litOK (z := 1) [] rfl trivial) rfl fun n5 => ?_
     have a2 : addL L 2 2 = true := rfl
     have a5 : addL L 2 5 = false := m5
     have a7 : addL L 2 7 = false := b7
     have a8 : addL L 2 8 = false := m8
     have u2 : upd σ 2 n5 2 = n5 := rfl
     have u5 : upd σ 2 n5 5 = σ 5 := rfl
     have u7 : upd σ 2 n5 7 = σ 7 := rfl
     exact AO.nE (d := 13) rfl ⟨(upd σ 2 n5), (fun j hj => match j, hj with | 0, _ => rfl | 1, _ => rfl | 2, hj => Bool.noConfusion (hj.symm.trans hi) | 3, _ => rfl | 4, _ => rfl | 5, _ => rfl | 6, _ => rfl | 7, _ => rfl | 8, _ => rfl | _ + 9, _ => rfl), (fun d' hd' => ⟨_, rfl, by cases hd'; rfl⟩), Sub.of_eq (B := ((n2, (.mem (e30 p0))) :: (n3, (.mem (.st [(256, (.ar 1 ((Vector.replicate 256 (0 : Int)).toList.map eU8))), (1, (.fl (.slice none 0 0))), (1, (.fl (.slice none 0 0)))]))) :: (n5, (.mem (.ar 1 (([] : List Int).map eI64)))) :: [])) (by simp only [a2, a5, a7, a8, u2, u5, u7, cond_true, cond_false]) (Sub.cons 1 rfl (Sub.cons 1 rfl (Sub.cons 0 rfl (Sub.refl _))))⟩
  ·refine StepE.calm (fun _ _ => rfl) fun L σ hc hi hd => ?_
   refine AO.wK [1] ?_
   refine AO.c (x := .ptr n2 257) (Calm.fldPtr rfl rfl Try.underlying30 rfl sz25 _ rfl) ?_
   exact AO.nE (d := 14) rfl ⟨⟨14, _, rfl, rfl, rfl⟩, Sub.refl _⟩
  ·refine StepE.calm (fun _ _ => rfl) fun L σ hc hi hd => ?_
   refine AO.wK [14] ?_
   refine AO.c (Calm.load 0 rfl rfl rfl (At.cast (At.fldS (At.fldS (At.fld0 At.here))) rfl) ag25 sz25) ?_
   exact AO.nE (d := 15) rfl ⟨⟨15, _, rfl, rfl, rfl⟩, Sub.refl _⟩
  ·intro L σ hc hi hd
   have y2 : L 2 = true := on_get hd (i := 2) (by rfl)
   have m8 : L 8 = false := hc.neg (i := 5) (j := 8) rfl (by rfl) hi
   cases b7 : L 7 with
   | true =>
     refine AO.heq (H' := ((n2, (.mem (e30 p0))) :: (n3, (.mem (.st [(256, (.ar 1 ((Vector.replicate 256 (0 : Int)).toList.map eU8))), (1, (.fl (.slice none 0 0))), (1, (.fl (.slice none 0 0)))]))) :: ((σ 7), (.mem (.st [(256, (.ar 1 ((Vector.replicate 256 (0 : Int)).toList.map eU8))), (1, (.fl (.slice none 0 0))), (1, (.fl (.slice none 0 0)))]))) :: ((σ 2), (.mem (.ar 1 (([] : List Int).map eI64)))) :: [])) (by first | rfl | simp only [hi, y2, b7, m8, cond_true, cond_false]) ?_
     refine AO.wK [13, 15] ?_
     refine AO.appendL (l := ([] : List Int)) (m := p0.f2) 3 16 rfl (by decide) rfl rfl rfl rfl rfl Src.fz Try.underlying25 Try.underlying25 sz3 by3 zr3 rfl hg7 (by decide) fun n6 => ?_
     have a2 : addL L 5 2 = true := y2
     have a5 : addL L 5 5 = true := rfl
     have a7 : addL L 5 7 = true := b7
     have a8 : addL L 5 8 = false := m8
     have u2 : upd σ 5 n6 2 = σ 2 := rfl
     have u5 : upd σ 5 n6 5 = n6 := rfl
     have u7 : upd σ 5 n6 7 = σ 7 := rfl
     have m6 : L 6 = false := hc.neg (i := 5) (j := 6) rfl (by rfl) hi
     exact AO.nE (d := 16) rfl ⟨(upd σ 5 n6), (fun j hj => match j, hj with | 0, _ => rfl | 1, _ => rfl | 2, _ => rfl | 3, _ => rfl | 4, _ => rfl | 5, hj => Bool.noConfusion (hj.symm.trans hi) | 6, hj => Bool.noConfusion (hj.symm.trans m6) | 7, _ => rfl | 8, _ => rfl | _ + 9, _ => rfl), (fun d' hd' => ⟨_, rfl, by cases hd'; rfl⟩), Sub.of_eq (B := ((n2, (.mem (e30 p0))) :: (n3, (.mem (.st [(256, (.ar 1 ((Vector.replicate 256 (0 : Int)).toList.map eU8))), (1, (.fl (.slice none 0 0))), (1, (.fl (.slice none 0 0)))]))) :: ((σ 7), (.mem (.st [(256, (.ar 1 ((Vector.replicate 256 (0 : Int)).toList.map eU8))), (1, (.fl (.slice none 0 0))), (1, (.fl (.slice none 0 0)))]))) :: (n6, (.mem (.ar 1 ((([] : List Int) ++ p0.f2).map eI64)))) :: [])) (by simp only [a2, a5, a7, a8, u2, u5, u7, cond_true, cond_false]) (Sub.refl _)⟩
   | false =>
     refine AO.heq (H' := ((n2, (.mem (e30 p0))) :: (n3, (.mem (.st [(256, (.ar 1 ((Vector.replicate 256 (0 : Int)).toList.map eU8))), (1, (.fl (.slice none 0 0))), (1, (.fl (.slice none 0 0)))]))) :: ((σ 2), (.mem (.ar 1 (([] : List Int).map eI64)))) :: [])) (by first | rfl | simp only [hi, y2, b7, m8, cond_true, cond_false]) ?_
     refine AO.wK [13, 15] ?_
     refine AO.appendL (l := ([] : List Int)) (m := p0.f2) 2 16 rfl (by decide) rfl rfl rfl rfl rfl Src.fz Try.underlying25 Try.underlying25 sz3 by3 zr3 rfl hg7 (by decide) fun n6 => ?_
     have a2 : addL L 5 2 = true := y2
     have a5 : addL L 5 5 = true := rfl
     have a7 : addL L 5 7 = false := b7
     have a8 : addL L 5 8 = false := m8
     have u2 : upd σ 5 n6 2 = σ 2 := rfl
     have u5 : upd σ 5 n6 5 = n6 := rfl
     have u7 : upd σ 5 n6 7 = σ 7 := rfl
     have m6 : L 6 = false := hc.neg (i := 5) (j := 6) rfl (by rfl) hi
     exact AO.nE (d := 16) rfl ⟨(upd σ 5 n6), (fun j hj => match j, hj with | 0, _ => rfl | 1, _ => rfl | 2, _ => rfl | 3, _ => rfl | 4, _ => rfl | 5, hj => Bool.noConfusion (hj.symm.trans hi) | 6, hj => Bool.noConfusion (hj.symm.trans m6) | 7, _ => rfl | 8, _ => rfl | _ + 9, _ => rfl), (fun d' hd' => ⟨_, rfl, by cases hd'; rfl⟩), Sub.of_eq (B := ((n2, (.mem (e30 p0))) :: (n3, (.mem (.st [(256, (.ar 1 ((Vector.replicate 256 (0 : Int)).toList.map eU8))), (1, (.fl (.slice none 0 0))), (1, (.fl (.slice none 0 0)))]))) :: (n6, (.mem (.ar 1 ((([] : List Int) ++ p0.f2).map eI64)))) :: [])) (by simp only [a2, a5, a7, a8, u2, u5, u7, cond_true, cond_false]) (Sub.refl _)⟩
  ·refine StepE.calm (fun _ _ => rfl) fun L σ hc hi hd => ?_
   have y5 : L 5 = true := on_get hd (i := 5) (by rfl)
   have y2 : L 2 = true := hc.pos (i := 2) (j := 5) rfl (by rfl) y5
   have y5 : L 5 = true := on_get hd (i := 5) (by rfl)
   have m8 : L 8 = false := hc.neg (i := 6) (j := 8) rfl (by rfl) hi
   cases b7 : L 7 with
   | true =>
     refine AO.heq (H' := ((n2, (.mem (e30 p0))) :: (n3, (.mem (.st [(256, (.ar 1 ((Vector.replicate 256 (0 : Int)).toList.map eU8))), (1, (.fl (.slice none 0 0))), (1, (.fl (.slice none 0 0)))]))) :: ((σ 7), (.mem (.st [(256, (.ar 1 ((Vector.replicate 256 (0 : Int)).toList.map eU8))), (1, (.fl (.slice none 0 0))), (1, (.fl (.slice none 0 0)))]))) :: ((σ 5), (.mem (.ar 1 ((([] : List Int) ++ p0.f2).map eI64)))) :: [])) (by first | rfl | simp only [y2, y5, b7, m8, cond_true, cond_false]) ?_
     refine AO.wK [12, 16] ?_
     refine AO.c (x := .st [(256, (.ar 1 (p0.f0.toList.map eU8))), (1, (.fl (.slice none 0 0))), (1, (.own (σ 5) 0 (([] : List Int) ++ p0.f2).length))]) (Calm.build (qs := [(0, (.ar 1 (p0.f0.toList.map eU8))), (2, (.own (σ 5) 0 (([] : List Int) ++ p0.f2).length))]) rfl ⟨rfl, rfl, rfl, rfl, rfl, rfl, trivial⟩ Try.underlying30 rfl zr30 lay30 (.cons rfl rfl (vec_size _ _) (vec_size _ _) (Put.cast (Put.fld0 Put.here) rfl) (.cons rfl rfl rfl rfl (Put.cast (Put.fldS (Put.fldS (Put.fld0 Put.here))) rfl) .nil)) rfl) ?_
     exact AO.nE (d := 17) rfl ⟨⟨17, _, rfl, rfl, rfl⟩, Sub.of_eq (by first | rfl | simp only [y2, y5, b7, m8, cond_true, cond_false]) (Sub.refl _)⟩
   | false =>
     refine AO.heq (H' := ((n2, (.mem (e30 p0))) :: (n3, (.mem (.st [(256, (.ar 1 ((Vector.replicate 256 (0 : Int)).toList.map eU8))), (1, (.fl (.slice none 0 0))), (1, (.fl (.slice none 0 0)))]))) :: ((σ 5), (.mem (.ar 1 ((([] : List Int) ++ p0.f2).map eI64)))) :: [])) (by first | rfl | simp only [y2, y5, b7, m8, cond_true, cond_false]) ?_
     refine AO.wK [12, 16] ?_
     refine AO.c (x := .st [(256, (.ar 1 (p0.f0.toList.map eU8))), (1, (.fl (.slice none 0 0))), (1, (.own (σ 5) 0 (([] : List Int) ++ p0.f2).length))]) (Calm.build (qs := [(0, (.ar 1 (p0.f0.toList.map eU8))), (2, (.own (σ 5) 0 (([] : List Int) ++ p0.f2).length))]) rfl ⟨rfl, rfl, rfl, rfl, rfl, rfl, trivial⟩ Try.underlying30 rfl zr30 lay30 (.cons rfl rfl (vec_size _ _) (vec_size _ _) (Put.cast (Put.fld0 Put.here) rfl) (.cons rfl rfl rfl rfl (Put.cast (Put.fldS (Put.fldS (Put.fld0 Put.here))) rfl) .nil)) rfl) ?_
     exact AO.nE (d := 17) rfl ⟨⟨17, _, rfl, rfl, rfl⟩, Sub.of_eq (by first | rfl | simp only [y2, y5, b7, m8, cond_true, cond_false]) (Sub.refl _)⟩
  ·intro L σ hc hi hd
   have m8 : L 8 = false := hc.neg (i := 7) (j := 8) rfl (by rfl) hi
   cases b2 : L 2 with
   | true =>
     cases b5 : L 5 with
     | true =>
       refine AO.heq (H' := ((n2, (.mem (e30 p0))) :: (n3, (.mem (.st [(256, (.ar 1 ((Vector.replicate 256 (0 : Int)).toList.map eU8))), (1, (.fl (.slice none 0 0))), (1, (.fl (.slice none 0 0)))]))) :: ((σ 5), (.mem (.ar 1 ((([] : List Int) ++ p0.f2).map eI64)))) :: [])) (by first | rfl | simp only [hi, b2, b5, m8, cond_true, cond_false]) ?_
       refine AO.wK [] ?_
       refine AO.alloc rfl 4 rfl (by decide) rfl zr30 lay30 fun n8 => ?_
       have a2 : addL L 7 2 = true := b2
       have a5 : addL L 7 5 = true := b5
       have a7 : addL L 7 7 = true := rfl
       have a8 : addL L 7 8 = false := m8
       have u2 : upd σ 7 n8 2 = σ 2 := rfl
       have u5 : upd σ 7 n8 5 = σ 5 := rfl
       have u7 : upd σ 7 n8 7 = n8 := rfl
       exact AO.nE (d := 4) rfl ⟨(upd σ 7 n8), (fun j hj => match j, hj with | 0, _ => rfl | 1, _ => rfl | 2, _ => rfl | 3, _ => rfl | 4, _ => rfl | 5, _ => rfl | 6, _ => rfl | 7, hj => Bool.noConfusion (hj.symm.trans hi) | 8, _ => rfl | _ + 9, _ => rfl), (fun d' hd' => ⟨_, rfl, by cases hd'; rfl⟩), Sub.of_eq (B := ((n2, (.mem (e30 p0))) :: (n3, (.mem (.st [(256, (.ar 1 ((Vector.replicate 256 (0 : Int)).toList.map eU8))), (1, (.fl (.slice none 0 0))), (1, (.fl (.slice none 0 0)))]))) :: (n8, (.mem (.st [(256, (.ar 1 ((Vector.replicate 256 (0 : Int)).toList.map eU8))), (1, (.fl (.slice none 0 0))), (1, (.fl (.slice none 0 0)))]))) :: ((σ 5), (.mem (.ar 1 ((([] : List Int) ++ p0.f2).map eI64)))) :: [])) (by simp only [a2, a5, a7, a8, u2, u5, u7, cond_true, cond_false]) (Sub.cons 1 rfl (Sub.cons 1 rfl (Sub.cons 0 rfl (Sub.cons 0 rfl (Sub.refl _)))))⟩
     | false =>
       refine AO.heq (H' := ((n2, (.mem (e30 p0))) :: (n3, (.mem (.st [(256, (.ar 1 ((Vector.replicate 256 (0 : Int)).toList.map eU8))), (1, (.fl (.slice none 0 0))), (1, (.fl (.slice none 0 0)))]))) :: ((σ 2), (.mem (.ar 1 (([] : List Int).map eI64)))) :: [])) (by first | rfl | simp only [hi, b2, b5, m8, cond_true, cond_false]) ?_
       refine AO.wK [] ?_
       refine AO.alloc rfl 4 rfl (by decide) rfl zr30 lay30 fun n8 => ?_
       have a2 : addL L 7 2 = true := b2
       have a5 : addL L 7 5 = false := b5
       have a7 : addL L 7 7 = true := rfl
       have a8 : addL L 7 8 = false := m8
       have u2 : upd σ 7 n8 2 = σ 2 := rfl
       have u5 : upd σ 7 n8 5 = σ 5 := rfl
       have u7 : upd σ 7 n8 7 = n8 := rfl
       exact AO.nE (d := 4) rfl ⟨(upd σ 7 n8), (fun j hj => match j, hj with | 0, _ => rfl | 1, _ => rfl | 2, _ => rfl | 3, _ => rfl | 4, _ => rfl | 5, _ => rfl | 6, _ => rfl | 7, hj => Bool.noConfusion (hj.symm.trans hi) | 8, _ => rfl | _ + 9, _ => rfl), (fun d' hd' => ⟨_, rfl, by cases hd'; rfl⟩), Sub.of_eq (B := ((n2, (.mem (e30 p0))) :: (n3, (.mem (.st [(256, (.ar 1 ((Vector.replicate 256 (0 : Int)).toList.map eU8))), (1, (.fl (.slice none 0 0))), (1, (.fl (.slice none 0 0)))]))) :: (n8, (.mem (.st [(256, (.ar 1 ((Vector.replicate 256 (0 : Int)).toList.map eU8))), (1, (.fl (.slice none 0 0))), (1, (.fl (.slice none 0 0)))]))) :: ((σ 2), (.mem (.ar 1 (([] : List Int).map eI64)))) :: [])) (by simp only [a2, a5, a7, a8, u2, u5, u7, cond_true, cond_false]) (Sub.cons 1 rfl (Sub.cons 1 rfl (Sub.cons 0 rfl (Sub.cons 0 rfl (Sub.refl _)))))⟩
   | false =>
     have m5 : L 5 = false := hc.neg (i := 2) (j := 5) rfl (by rfl) b2
     refine AO.heq (H' := ((n2, (.mem (e30 p0))) :: (n3, (.mem (.st [(256, (.ar 1 ((Vector.replicate 256 (0 : Int)).toList.map eU8))), (1, (.fl (.slice none 0 0))), (1, (.fl (.slice none 0 0)))]))) :: [])) (by first | rfl | simp only [hi, b2, m5, m8, cond_true, cond_false]) ?_
     refine AO.wK [] ?_
     refine AO.alloc rfl 4 rfl (by decide) rfl zr30 lay30 fun n8 => ?_
     have a2 : addL L 7 2 = false := b2
     have a5 : addL L 7 5 = false := m5
     have a7 : addL L 7 7 = true := rfl
     have a8 : addL L 7 8 = false := m8
     have u2 : upd σ 7 n8 2 = σ 2 := rfl
     have u5 : upd σ 7 n8 5 = σ 5 := rfl
     have u7 : upd σ 7 n8 7 = n8 := rfl
     exact AO.nE (d := 4) rfl ⟨(upd σ 7 n8), (fun j hj => match j, hj with | 0, _ => rfl | 1, _ => rfl | 2, _ => rfl | 3, _ => rfl | 4, _ => rfl | 5, _ => rfl | 6, _ => rfl | 7, hj => Bool.noConfusion (hj.symm.trans hi) | 8, _ => rfl | _ + 9, _ => rfl), (fun d' hd' => ⟨_, rfl, by cases hd'; rfl⟩), Sub.of_eq (B := ((n2, (.mem (e30 p0))) :: (n3, (.mem (.st [(256, (.ar 1 ((Vector.replicate 256 (0 : Int)).toList.map eU8))), (1, (.fl (.slice none 0 0))), (1, (.fl (.slice none 0 0)))]))) :: (n8, (.mem (.st [(256, (.ar 1 ((Vector.replicate 256 (0 : Int)).toList.map eU8))), (1, (.fl (.slice none 0 0))), (1, (.fl (.slice none 0 0)))]))) :: [])) (by simp only [a2, a5, a7, a8, u2, u5, u7, cond_true, cond_false]) (Sub.cons 1 rfl (Sub.cons 1 rfl (Sub.cons 0 rfl (Sub.refl _))))⟩
  ·intro L σ hc hi hd
   have y2 : L 2 = true := on_get hd (i := 2) (by rfl)
   have y5 : L 5 = true := on_get hd (i := 5) (by rfl)
   have y7 : L 7 = true := on_get hd (i := 7) (by rfl)
   refine AO.heq (H' := ((n2, (.mem (e30 p0))) :: (n3, (.mem (.st [(256, (.ar 1 ((Vector.replicate 256 (0 : Int)).toList.map eU8))), (1, (.fl (.slice none 0 0))), (1, (.fl (.slice none 0 0)))]))) :: ((σ 7), (.mem (.st [(256, (.ar 1 ((Vector.replicate 256 (0 : Int)).toList.map eU8))), (1, (.fl (.slice none 0 0))), (1, (.fl (.slice none 0 0)))]))) :: ((σ 5), (.mem (.ar 1 ((([] : List Int) ++ p0.f2).map eI64)))) :: [])) (by first | rfl | simp only [hi, y2, y5, y7, cond_true, cond_false]) ?_
   refine AO.wK [4, 17] ?_
   refine AO.store (X' := (.st [(256, (.ar 1 (p0.f0.toList.map eU8))), (1, (.fl (.slice none 0 0))), (1, (.own (σ 5) 0 (([] : List Int) ++ p0.f2).length))])) 2 rfl rfl rfl rfl rfl rfl (Put.cast Put.here rfl) rfl rfl sz30 rfl ?_
   have a2 : addL L 8 2 = true := y2
   have a5 : addL L 8 5 = true := y5
   have a7 : addL L 8 7 = true := y7
   have a8 : addL L 8 8 = true := rfl
   exact AO.n0 ⟨σ, (fun _ _ => rfl), (fun d' hd' => by cases hd'), Sub.of_eq (B := ((n2, (.mem (e30 p0))) :: (n3, (.mem (.st [(256, (.ar 1 ((Vector.replicate 256 (0 : Int)).toList.map eU8))), (1, (.fl (.slice none 0 0))), (1, (.fl (.slice none 0 0)))]))) :: ((σ 7), (.mem (.st [(256, (.ar 1 (p0.f0.toList.map eU8))), (1, (.fl (.slice none 0 0))), (1, (.own (σ 5) 0 (([] : List Int) ++ p0.f2).length))]))) :: ((σ 5), (.mem (.ar 1 ((([] : List Int) ++ p0.f2).map eI64)))) :: [])) (by simp only [a2, a5, a7, a8, cond_true, cond_false]) (Sub.refl _)⟩
  ·generalize σ 2 = n5
   generalize σ 5 = n6
   generalize σ 7 = n8
   refine AO.nK [1, 2, 3, 4] ?_
   refine AW.seq_mid (fun ρ H => ∃ (n9 : Nat) (x10 : (List (List Int))), ρ = [(2, (.ptr n3 0)), (4, (.ptr n8 0))] ∧ H = [(n3, (.mem (.st [(256, (.ar 1 ((Vector.replicate 256 (0 : Int)).toList.map eU8))), (1, (.fl (.slice none 0 0))), (1, (.fl (.slice none 0 0)))]))), (n8, (.mem (.st [(256, (.ar 1 (p0.f0.toList.map eU8))), (1, (.own n9 0 x10.length)), (1, (.own n6 0 (([] : List Int) ++ p0.f2).length))]))), (n9, (.mem (.ar 1 (x10.map e25)))), (n6, (.mem (.ar 1 ((([] : List Int) ++ p0.f2).map eI64))))] ∧ bosketref08_Trim_c0 k p0 x10 = some r) ?_ ?_
   ·refine AW.sr ?_
    refine AO.c (Calm.assign rfl rfl) ?_
    refine AO.nK [1, 2, 3, 4, 5] ?_
    refine AW.block ?_
    refine AW.nilOwnFld 2 1 (fun n43 => (.st [(256, (.ar 1 (p0.f0.toList.map eU8))), (1, (.own n43 0 0)), (1, (.own n6 0 (([] : List Int) ++ p0.f2).length))])) rfl (fun _ => (Put.cast (Put.fldS (Put.fld0 Put.here)) rfl)) (fun _ => rfl) (fun _ => rfl) fun n43 => ?_
    refine AW.wH [1, 2, 3, 4, 5] (H' := [(n2, (.mem (e30 p0))), (n3, (.mem (.st [(256, (.ar 1 ((Vector.replicate 256 (0 : Int)).toList.map eU8))), (1, (.fl (.slice none 0 0))), (1, (.fl (.slice none 0 0)))]))), (n8, (.mem (.st [(256, (.ar 1 (p0.f0.toList.map eU8))), (1, (.own n43 0 ([] : List (List Int)).length)), (1, (.own n6 0 (([] : List Int) ++ p0.f2).length))]))), (n43, (.mem (.ar 1 (([] : List (List Int)).map e25)))), (n6, (.mem (.ar 1 ((([] : List Int) ++ p0.f2).map eI64))))]) (Sub.cons 1 rfl (Sub.cons 1 rfl (Sub.cons 1 rfl (Sub.cons 0 rfl (Sub.cons 0 rfl (Sub.nil _)))))) ?_
    refine AW.loop (fun kq ρ H => ∃ (n11 : Nat) (x12 : (List (List Int))) (x13 : Int), ρ = [(1, (.ptr n2 0)), (2, (.ptr n3 0)), (3, (.fz 1 (t4.map eBool))), (4, (.ptr n8 0)), (5, (eI64 x13))] ∧ H = [(n2, (.mem (e30 p0))), (n3, (.mem (.st [(256, (.ar 1 ((Vector.replicate 256 (0 : Int)).toList.map eU8))), (1, (.fl (.slice none 0 0))), (1, (.fl (.slice none 0 0)))]))), (n8, (.mem (.st [(256, (.ar 1 (p0.f0.toList.map eU8))), (1, (.own n11 0 x12.length)), (1, (.own n6 0 (([] : List Int) ++ p0.f2).length))]))), (n11, (.mem (.ar 1 (x12.map e25)))), (n6, (.mem (.ar 1 ((([] : List Int) ++ p0.f2).map eI64))))] ∧ bosketref08_Trim_l5 k p0 t4 kq x12 x13 = some r) k ⟨n43, ([] : List (List Int)), (0 : Int), rfl, rfl, h⟩ ?_
    rintro kq15 _ _ ⟨n11, x12, x13, rfl, rfl, h⟩
    cases kq15 with
    | zero => rw [bosketref08_Trim_l5.eq_1] at h; cases h
    | succ kq15 =>
    rw [bosketref08_Trim_l5.eq_2] at h
    generalize hrec14 : bosketref08_Trim_l5 k p0 t4 kq15 = rec14 at h
    refine AW.seq ?_
    refine AW.sr ?_
    refine AO.c (Calm.move rfl rfl) ?_
    refine AO.c (x := .ptr n2 256) (Calm.fldPtr rfl rfl Try.underlying30 rfl sz28 _ rfl) ?_
    refine AO.c (Calm.load 0 rfl rfl rfl (At.cast (At.fldS (At.fld0 At.here)) rfl) ag28 sz28) ?_
    refine AO.c (Calm.lenL rfl rfl Try.underlying28) ?_
    refine AO.c (x := eBool (decide (x13 < (p0.f1.length : Int)))) (Calm.int rfl rfl rfl rfl) ?_
    refine AO.nK [1, 2, 3, 4, 5, 22] ?_
    rcases of_ite h with ⟨hc16, h⟩ | ⟨hc16, h⟩
    ·refine AW.condP _ rfl hc16 ?_
     refine AW.sK [1, 2, 3, 4, 5] ?_
     refine AW.seq_mid (fun ρ H => ∃ (n17 : Nat) (x18 : (List (List Int))), ρ = [(1, (.ptr n2 0)), (2, (.ptr n3 0)), (3, (.fz 1 (t4.map eBool))), (4, (.ptr n8 0)), (5, (eI64 x13))] ∧ H = [(n2, (.mem (e30 p0))), (n3, (.mem (.st [(256, (.ar 1 ((Vector.replicate 256 (0 : Int)).toList.map eU8))), (1, (.fl (.slice none 0 0))), (1, (.fl (.slice none 0 0)))]))), (n8, (.mem (.st [(256, (.ar 1 (p0.f0.toList.map eU8))), (1, (.own n17 0 x18.length)), (1, (.own n6 0 (([] : List Int) ++ p0.f2).length))]))), (n17, (.mem (.ar 1 (x18.map e25)))), (n6, (.mem (.ar 1 ((([] : List Int) ++ p0.f2).map eI64))))] ∧ bosketref08_Trim_c1 k rec14 x13 x18 = some r) ?_ ?_
     ·refine AW.block ?_
      refine AW.sr ?_
      refine AO.c (Calm.assign rfl rfl) ?_
      refine AO.nK [1, 2, 3, 4, 5, 6] ?_
      refine AW.seq_mid (fun ρ H => ∃ (n19 : Nat) (x20 : (List Int)), ρ = [(1, (.ptr n2 0)), (2, (.ptr n3 0)), (3, (.fz 1 (t4.map eBool))), (4, (.ptr n8 0)), (5, (eI64 x13)), (6, (.own n19 0 x20.length))] ∧ H = [(n2, (.mem (e30 p0))), (n3, (.mem (.st [(256, (.ar 1 ((Vector.replicate 256 (0 : Int)).toList.map eU8))), (1, (.fl (.slice none 0 0))), (1, (.fl (.slice none 0 0)))]))), (n8, (.mem (.st [(256, (.ar 1 (p0.f0.toList.map eU8))), (1, (.own n11 0 x12.length)), (1, (.own n6 0 (([] : List Int) ++ p0.f2).length))]))), (n11, (.mem (.ar 1 (x12.map e25)))), (n6, (.mem (.ar 1 ((([] : List Int) ++ p0.f2).map eI64)))), (n19, (.mem (.ar 1 (x20.map eI64))))] ∧ bosketref08_Trim_c2 k rec14 x12 x13 x20 = some r) ?_ ?_
      ·refine AW.sr ?_
       refine AO.c (Calm.assign rfl rfl) ?_
       refine AO.nK [1, 2, 3, 4, 5, 6, 7] ?_
       refine AW.block ?_
       refine AW.nilOwn 6 1 rfl fun n42 => ?_
       refine AW.wH [1, 2, 3, 4, 5, 6, 7] (H' := [(n2, (.mem (e30 p0))), (n3, (.mem (.st [(256, (.ar 1 ((Vector.replicate 256 (0 : Int)).toList.map eU8))), (1, (.fl (.slice none 0 0))), (1, (.fl (.slice none 0 0)))]))), (n8, (.mem (.st [(256, (.ar 1 (p0.f0.toList.map eU8))), (1, (.own n11 0 x12.length)), (1, (.own n6 0 (([] : List Int) ++ p0.f2).length))]))), (n11, (.mem (.ar 1 (x12.map e25)))), (n6, (.mem (.ar 1 ((([] : List Int) ++ p0.f2).map eI64)))), (n42, (.mem (.ar 1 (([] : List Int).map eI64))))]) (Sub.cons 1 rfl (Sub.cons 1 rfl (Sub.cons 1 rfl (Sub.cons 1 rfl (Sub.cons 1 rfl (Sub.cons 0 rfl (Sub.nil _))))))) ?_
       refine AW.loop (fun kq ρ H => ∃ (n24 : Nat) (x25 : (List Int)) (x26 : Int), ρ = [(1, (.ptr n2 0)), (2, (.ptr n3 0)), (3, (.fz 1 (t4.map eBool))), (4, (.ptr n8 0)), (5, (eI64 x13)), (6, (.own n24 0 x25.length)), (7, (eI64 x26))] ∧ H = [(n2, (.mem (e30 p0))), (n3, (.mem (.st [(256, (.ar 1 ((Vector.replicate 256 (0 : Int)).toList.map eU8))), (1, (.fl (.slice none 0 0))), (1, (.fl (.slice none 0 0)))]))), (n8, (.mem (.st [(256, (.ar 1 (p0.f0.toList.map eU8))), (1, (.own n11 0 x12.length)), (1, (.own n6 0 (([] : List Int) ++ p0.f2).length))]))), (n11, (.mem (.ar 1 (x12.map e25)))), (n6, (.mem (.ar 1 ((([] : List Int) ++ p0.f2).map eI64)))), (n24, (.mem (.ar 1 (x25.map eI64))))] ∧ bosketref08_Trim_l4 k rec14 p0 t4 x12 x13 kq x25 x26 = some r) k ⟨n42, ([] : List Int), (0 : Int), rfl, rfl, h⟩ ?_
       rintro kq28 _ _ ⟨n24, x25, x26, rfl, rfl, h⟩
       cases kq28 with
       | zero => rw [bosketref08_Trim_l4.eq_1] at h; cases h
       | succ kq28 =>
       rw [bosketref08_Trim_l4.eq_2] at h
       generalize hrec27 : bosketref08_Trim_l4 k rec14 p0 t4 x12 x13 kq28 = rec27 at h
       refine AW.seq ?_
       refine AW.sr ?_
       refine AO.c (Calm.move rfl rfl) ?_
       refine AO.c (x := .ptr n2 256) (Calm.fldPtr rfl rfl Try.underlying30 rfl sz28 _ rfl) ?_
       refine AO.c (Calm.load 0 rfl rfl rfl (At.cast (At.fldS (At.fld0 At.here)) rfl) ag28 sz28) ?_
       refine AO.c (Calm.move rfl rfl) ?_
       obtain ⟨hg29, h⟩ := of_guard h
       refine AO.c (Calm.idxL (f := e25) rfl rfl rfl hg29 Try.underlying28 sz25) ?_
       refine AO.c (Calm.loadRp rfl rfl ag25 sz25) ?_
       refine AO.c (Calm.lenL rfl rfl Try.underlying25) ?_
       refine AO.c (x := eBool (decide (x26 < ((lget p0.f1 x13).length : Int)))) (Calm.int rfl rfl rfl rfl) ?_
       refine AO.nK [1, 2, 3, 4, 5, 6, 7, 32] ?_
       rcases of_ite h with ⟨hc30, h⟩ | ⟨hc30, h⟩
       ·refine AW.condP _ rfl hc30 ?_
        refine AW.sK [1, 2, 3, 4, 5, 6, 7] ?_
        refine AW.seq ?_
        refine AW.block ?_
        refine AW.sr ?_
        refine AO.c (x := .ptr n2 256) (Calm.fldPtr rfl rfl Try.underlying30 rfl sz28 _ rfl) ?_
        refine AO.c (Calm.load 0 rfl rfl rfl (At.cast (At.fldS (At.fld0 At.here)) rfl) ag28 sz28) ?_
        refine AO.c (Calm.move rfl rfl) ?_
        obtain ⟨hg31, h⟩ := of_guard h
        refine AO.c (Calm.idxL (f := e25) rfl rfl rfl hg31 Try.underlying28 sz25) ?_
        refine AO.c (Calm.loadRp rfl rfl ag25 sz25) ?_
        refine AO.c (Calm.move rfl rfl) ?_
        obtain ⟨hg32, h⟩ := of_guard h
        refine AO.c (Calm.idxL (f := eI64) rfl rfl rfl hg32 Try.underlying25 sz3) ?_
        refine AO.c (Calm.loadRp rfl rfl ag3 sz3) ?_
        refine AO.c (Calm.assign rfl rfl) ?_
        refine AO.nK [1, 2, 3, 4, 5, 6, 7, 8] ?_
        refine AW.seq_mid (fun ρ H => ∃ (x33 : Int), ρ = [(1, (.ptr n2 0)), (2, (.ptr n3 0)), (3, (.fz 1 (t4.map eBool))), (4, (.ptr n8 0)), (5, (eI64 x13)), (6, (.own n24 0 x25.length)), (7, (eI64 x26)), (8, (eI64 x33))] ∧ H = [(n2, (.mem (e30 p0))), (n3, (.mem (.st [(256, (.ar 1 ((Vector.replicate 256 (0 : Int)).toList.map eU8))), (1, (.fl (.slice none 0 0))), (1, (.fl (.slice none 0 0)))]))), (n8, (.mem (.st [(256, (.ar 1 (p0.f0.toList.map eU8))), (1, (.own n11 0 x12.length)), (1, (.own n6 0 (([] : List Int) ++ p0.f2).length))]))), (n11, (.mem (.ar 1 (x12.map e25)))), (n6, (.mem (.ar 1 ((([] : List Int) ++ p0.f2).map eI64)))), (n24, (.mem (.ar 1 (x25.map eI64))))] ∧ bosketref08_Trim_c3 k rec27 x25 x26 x33 = some r) ?_ ?_
        ·refine AW.seq ?_
         obtain ⟨b37, hq38, h⟩ := of_bind h
         refine AW.regM [(1, (.ptr n2 0)), (2, (.ptr n3 0)), (3, (.fz 1 (t4.map eBool))), (4, (.ptr n8 0)), (5, (eI64 x13)), (6, (.own n24 0 x25.length)), (7, (eI64 x26)), (8, (eI64 (lget (lget p0.f1 x13) x26))), (51, (eBool b37))] [(n2, (.mem (e30 p0))), (n3, (.mem (.st [(256, (.ar 1 ((Vector.replicate 256 (0 : Int)).toList.map eU8))), (1, (.fl (.slice none 0 0))), (1, (.fl (.slice none 0 0)))]))), (n8, (.mem (.st [(256, (.ar 1 (p0.f0.toList.map eU8))), (1, (.own n11 0 x12.length)), (1, (.own n6 0 (([] : List Int) ++ p0.f2).length))]))), (n11, (.mem (.ar 1 (x12.map e25)))), (n6, (.mem (.ar 1 ((([] : List Int) ++ p0.f2).map eI64)))), (n24, (.mem (.ar 1 (x25.map eI64))))] ?_ ?_
         ·refine AO.c (Calm.move rfl rfl) ?_
          refine AO.c (x := eBool (decide ((0 : Int) ≤ (lget (lget p0.f1 x13) x26)))) (Calm.int rfl rfl rfl rfl) ?_
          refine AO.c (Calm.move rfl rfl) ?_
          rcases of_ite hq38 with ⟨hc39, hq38⟩ | ⟨hc39, hq38⟩
          ·refine AO.cG rfl rfl (bD (decide_eq_true hc39)) (Calm.move rfl rfl) ?_
           refine AO.cG rfl rfl (bD (decide_eq_true hc39)) (Calm.move rfl rfl) ?_
           obtain ⟨hg40, hq38⟩ := of_guard hq38
           refine AO.cG rfl rfl (bD (decide_eq_true hc39)) (Calm.idxL (f := eBool) rfl rfl rfl hg40 Try.underlying49 sz4) ?_
           refine AO.cG rfl rfl (bD (decide_eq_true hc39)) (Calm.loadRp rfl rfl ag4 sz4) ?_
           refine AO.cG rfl rfl (bD (decide_eq_true hc39)) (Calm.not rfl rfl) ?_
           refine AO.c (Calm.pickT rfl (bD (decide_eq_true hc39)) rfl) ?_
           cases hq38
           refine AO.nilE ⟨rfl, rfl⟩ ?_ ?_
           · exact ⟨rfl, rfl, rfl, rfl, rfl, rfl, rfl, rfl, rfl, trivial⟩
           · exact (Sub.refl _)
          ·refine AO.sT rfl rfl (bD (decide_eq_false hc39)) ?_
           refine AO.sT rfl rfl (bD (decide_eq_false hc39)) ?_
           refine AO.sT rfl rfl (bD (decide_eq_false hc39)) ?_
           refine AO.sT rfl rfl (bD (decide_eq_false hc39)) ?_
           refine AO.sT rfl rfl (bD (decide_eq_false hc39)) ?_
           refine AO.c (Calm.pickF rfl (bD (decide_eq_false hc39)) rfl) ?_
           cases hq38
           refine AO.nilE ⟨rfl, rfl⟩ ?_ ?_
           · exact ⟨rfl, rfl, rfl, rfl, rfl, rfl, rfl, rfl, rfl, trivial⟩
           · exact (Sub.refl _)
         ·rcases of_ite h with ⟨hc41, h⟩ | ⟨hc41, h⟩
          ·refine AW.condT' _ rfl hc41 ?_
           refine AW.reg ?_
           refine AO.c (Calm.assign rfl rfl) ?_
           refine AO.nK [1, 2, 3, 4, 5, 6, 7, 8] ?_
           exact ⟨(-1 : Int), rfl, rfl, h⟩
          ·refine AW.condF' _ rfl hc41 ?_
           refine AW.sK [1, 2, 3, 4, 5, 6, 7, 8] ?_
           exact ⟨(lget (lget p0.f1 x13) x26), rfl, rfl, h⟩
        ·rintro _ _ ⟨x33, rfl, rfl, h⟩
         rw [bosketref08_Trim_c3.eq_1] at h
         refine AW.reg ?_
         refine AO.c (Calm.move rfl rfl) ?_
         refine AO.c (Calm.move rfl rfl) ?_
         refine AO.lit (Z := (eI64 (0 : Int))) (xs := (([x33] : List Int).map eI64)) (qs := [(0, (eI64 x33))]) rfl 54 rfl (by decide) rfl ⟨rfl, rfl, rfl, trivial⟩ Try.underlying25 sz3 zr3 lay3 rfl (by decide) (litOK (z := 1) [(eI64 x33)] rfl ⟨⟨rfl, rfl⟩, trivial⟩) rfl fun n34 => ?_
         obtain ⟨hg36, h⟩ := of_guard h
         refine AO.appendL (l := x25) (m := ([x33] : List Int)) 6 55 rfl (by decide) rfl rfl rfl rfl rfl (Src.ownL (f := eI64) (l := ([x33] : List Int)) 0 rfl) Try.underlying25 Try.underlying25 sz3 by3 zr3 rfl hg36 (by decide) fun n35 => ?_
         refine AO.c (Calm.assign rfl rfl) ?_
         refine AO.nH [1, 2, 3, 4, 5, 6, 7] (H' := [(n2, (.mem (e30 p0))), (n3, (.mem (.st [(256, (.ar 1 ((Vector.replicate 256 (0 : Int)).toList.map eU8))), (1, (.fl (.slice none 0 0))), (1, (.fl (.slice none 0 0)))]))), (n8, (.mem (.st [(256, (.ar 1 (p0.f0.toList.map eU8))), (1, (.own n11 0 x12.length)), (1, (.own n6 0 (([] : List Int) ++ p0.f2).length))]))), (n11, (.mem (.ar 1 (x12.map e25)))), (n6, (.mem (.ar 1 ((([] : List Int) ++ p0.f2).map eI64)))), (n35, (.mem (.ar 1 ((x25 ++ ([x33] : List Int)).map eI64))))]) (Sub.cons 1 rfl (Sub.cons 1 rfl (Sub.cons 1 rfl (Sub.cons 1 rfl (Sub.cons 1 rfl (Sub.cons 1 rfl (Sub.nil _))))))) ?_
         refine AW.reg ?_
         refine AO.c (Calm.move rfl rfl) ?_
         refine AO.c (x := eI64 (w64 (x26 + (1 : Int)))) (Calm.int rfl rfl rfl rfl) ?_
         refine AO.c (Calm.assign rfl rfl) ?_
         refine AO.nK [1, 2, 3, 4, 5, 6, 7] ?_
         exact ⟨kq28, Nat.lt_succ_self _, n35, (x25 ++ ([x33] : List Int)), (w64 (x26 + (1 : Int))), rfl, rfl, by rw [hrec27]; exact h⟩
       ·refine AW.condN _ rfl hc30 ?_
        refine AW.eK [1, 2, 3, 4, 5, 6] ?_
        exact ⟨n24, x25, rfl, rfl, h⟩
      ·rintro _ _ ⟨n19, x20, rfl, rfl, h⟩
       rw [bosketref08_Trim_c2.eq_1] at h
       refine AW.reg ?_
       refine AO.c (x := .ptr n8 256) (Calm.fldPtr rfl rfl Try.underlying30 rfl sz28 _ rfl) ?_
       refine AO.c (Calm.load 2 rfl rfl rfl (At.cast (At.fldS (At.fld0 At.here)) rfl) ag28 sz28) ?_
       refine AO.c (Calm.move rfl rfl) ?_
       refine AO.freezeS 5 [(6, (.fz 1 (x20.map eI64))), (58, (.fz 1 (x20.map eI64)))] rfl ⟨fz_all rfl, fz_all rfl, trivial⟩ ?_
       refine AO.lit (Z := (.fl (.slice none 0 0))) (xs := (([x20] : List (List Int)).map e25)) (qs := [(0, (.fz 1 (x20.map eI64)))]) rfl 59 rfl (by decide) rfl ⟨rfl, rfl, rfl, trivial⟩ Try.underlying28 sz25 zr25 lay25 rfl (by decide) (litOK (z := 1) [(.fz 1 (x20.map eI64))] rfl ⟨⟨rfl, rfl⟩, trivial⟩) rfl fun n21 => ?_
       obtain ⟨hg23, h⟩ := of_guard h
       refine AO.appendL (l := x12) (m := ([x20] : List (List Int))) 4 60 rfl (by decide) rfl rfl rfl rfl rfl (Src.ownL (f := e25) (l := ([x20] : List (List Int))) 0 rfl) Try.underlying28 Try.underlying28 sz25 by25 zr25 rfl hg23 (by decide) fun n22 => ?_
       refine AO.c (x := .ptr n8 256) (Calm.fldPtr rfl rfl Try.underlying30 rfl sz28 _ rfl) ?_
       refine AO.store (X' := (.st [(256, (.ar 1 (p0.f0.toList.map eU8))), (1, (.own n22 0 (x12 ++ ([x20] : List (List Int))).length)), (1, (.own n6 0 (([] : List Int) ++ p0.f2).length))])) 3 rfl rfl rfl rfl rfl rfl (Put.cast (Put.fldS (Put.fld0 Put.here)) rfl) rfl rfl sz28 rfl ?_
       refine AO.nH [1, 2, 3, 4, 5] (H' := [(n2, (.mem (e30 p0))), (n3, (.mem (.st [(256, (.ar 1 ((Vector.replicate 256 (0 : Int)).toList.map eU8))), (1, (.fl (.slice none 0 0))), (1, (.fl (.slice none 0 0)))]))), (n8, (.mem (.st [(256, (.ar 1 (p0.f0.toList.map eU8))), (1, (.own n22 0 (x12 ++ ([x20] : List (List Int))).length)), (1, (.own n6 0 (([] : List Int) ++ p0.f2).length))]))), (n22, (.mem (.ar 1 ((x12 ++ ([x20] : List (List Int))).map e25)))), (n6, (.mem (.ar 1 ((([] : List Int) ++ p0.f2).map eI64))))]) (Sub.cons 1 rfl (Sub.cons 1 rfl (Sub.cons 1 rfl (Sub.cons 1 rfl (Sub.cons 1 rfl (Sub.nil _)))))) ?_
       exact ⟨n22, (x12 ++ ([x20] : List (List Int))), rfl, rfl, h⟩
     ·rintro _ _ ⟨n17, x18, rfl, rfl, h⟩
      rw [bosketref08_Trim_c1.eq_1] at h
      refine AW.reg ?_
      refine AO.c (Calm.move rfl rfl) ?_
      refine AO.c (x := eI64 (w64 (x13 + (1 : Int)))) (Calm.int rfl rfl rfl rfl) ?_
      refine AO.c (Calm.assign rfl rfl) ?_
      refine AO.nK [1, 2, 3, 4, 5] ?_
      exact ⟨kq15, Nat.lt_succ_self _, n17, x18, (w64 (x13 + (1 : Int))), rfl, rfl, by rw [hrec14]; exact h⟩
    ·refine AW.condN _ rfl hc16 ?_
     refine AW.eH [2, 4] (H' := [(n3, (.mem (.st [(256, (.ar 1 ((Vector.replicate 256 (0 : Int)).toList.map eU8))), (1, (.fl (.slice none 0 0))), (1, (.fl (.slice none 0 0)))]))), (n8, (.mem (.st [(256, (.ar 1 (p0.f0.toList.map eU8))), (1, (.own n11 0 x12.length)), (1, (.own n6 0 (([] : List Int) ++ p0.f2).length))]))), (n11, (.mem (.ar 1 (x12.map e25)))), (n6, (.mem (.ar 1 ((([] : List Int) ++ p0.f2).map eI64))))]) (Sub.cons 1 rfl (Sub.cons 1 rfl (Sub.cons 1 rfl (Sub.cons 1 rfl (Sub.nil _))))) ?_
     exact ⟨n11, x12, rfl, rfl, h⟩
   ·rintro _ _ ⟨n9, x10, rfl, rfl, h⟩
    rw [bosketref08_Trim_c0.eq_1] at h
    refine AW.sr ?_
    refine AO.freezeFld (X' := (.st [(256, (.ar 1 (p0.f0.toList.map eU8))), (1, (.fz 1 (x10.map e25))), (1, (.own n6 0 (([] : List Int) ++ p0.f2).length))])) (els' := (x10.map e25)) 2 1 rfl rfl (Put.cast (Put.fldS (Put.fld0 Put.here)) rfl) (by simp) (by rw [own_all]) rfl rfl (by decide) ?_
    refine AO.freezeFld (X' := (.st [(256, (.ar 1 (p0.f0.toList.map eU8))), (1, (.fz 1 (x10.map e25))), (1, (.fz 1 ((([] : List Int) ++ p0.f2).map eI64)))])) (els' := ((([] : List Int) ++ p0.f2).map eI64)) 2 1 rfl rfl (Put.cast (Put.fldS (Put.fldS (Put.fld0 Put.here))) rfl) (by simp) (by rw [own_all]) rfl rfl (by decide) ?_
    refine AO.c (x := e30 (S30.mk p0.f0 x10 (([] : List Int) ++ p0.f2))) (Calm.load 1 rfl rfl rfl (At.cast At.here rfl) ag30 sz30) ?_
    refine AO.store (X' := (e30 (S30.mk p0.f0 x10 (([] : List Int) ++ p0.f2)))) 0 rfl rfl rfl rfl rfl rfl (Put.cast Put.here rfl) rfl rfl sz30 rfl ?_
    refine AO.nH [2] (H' := [(n3, (.mem (e30 (S30.mk p0.f0 x10 (([] : List Int) ++ p0.f2)))))]) (Sub.cons 0 rfl (Sub.nil _)) ?_
    refine AW.rK [2] ?_
    have hr := Option.some.inj h
    subst hr
    exact ⟨[(e30 (S30.mk p0.f0 x10 (([] : List Int) ++ p0.f2)))], ⟨⟨_, 0, rfl, rfl, ag30, sz30⟩, trivial⟩, rfl⟩
end Go.Avl.T5
/- bosket/bosketref08.Mark; printed by avmain.py. -/
namespace Go.Avl.T5
open Go Go.RowKit Go.Proofs Go.Avl
set_option linter.unusedVariables false
set_option maxRecDepth 100000
set_option maxHeartbeats 4000000
attribute [local irreducible] AW AO AQ Spec SpecH Calm

def bosketref08_Mark (k : Nat) (p0 : S30) (p1 : Int) : Option Int :=
  Option.bind (α := Bool) (if p1 < (0 : Int) then some (true)
  else some (decide ((p0.f2.length : Int) ≤ p1))) fun b4 =>
  if b4 = true then some ((-1 : Int))
  else if 0 ≤ p1 ∧ p1 < (p0.f2.length : Int) then some ((lget p0.f2 p1))
  else none
theorem bosketref08_Mark_spec {k : Nat} {p0 : S30} {p1 : Int} {r : Int} (h : bosketref08_Mark k p0 p1 = some r) : Spec Try.prog 41 [(e30 p0), (eI64 p1)] (eI64 r) := by
  rw [bosketref08_Mark.eq_1] at h
  refine Spec.intro (res := [.tmp 4]) Try.func41 rfl rfl rfl (Nat.le_of_ble_eq_true rfl) ?_
  refine AW.sr ?_
  refine AO.box rfl 2 rfl (by decide) rfl rfl rfl fun n3 => ?_
  refine AO.c (Calm.assign rfl rfl) ?_
  refine AO.nK [1, 2] ?_
  refine AW.seq ?_
  refine AW.seq ?_
  obtain ⟨b4, hq5, h⟩ := of_bind h
  refine AW.regM [(1, (eI64 p1)), (2, (.ptr n3 0)), (13, (eBool b4))] [(n3, (.mem (e30 p0)))] ?_ ?_
  ·refine AO.c (Calm.move rfl rfl) ?_
   refine AO.c (x := eBool (decide (p1 < (0 : Int)))) (Calm.int rfl rfl rfl rfl) ?_
   refine AO.c (Calm.move rfl rfl) ?_
   rcases of_ite hq5 with ⟨hc6, hq5⟩ | ⟨hc6, hq5⟩
   ·refine AO.sF rfl rfl (bD (decide_eq_true hc6)) ?_
    refine AO.sF rfl rfl (bD (decide_eq_true hc6)) ?_
    refine AO.sF rfl rfl (bD (decide_eq_true hc6)) ?_
    refine AO.sF rfl rfl (bD (decide_eq_true hc6)) ?_
    refine AO.sF rfl rfl (bD (decide_eq_true hc6)) ?_
    refine AO.c (Calm.pickT rfl (bD (decide_eq_true hc6)) rfl) ?_
    cases hq5
    refine AO.nilE ⟨rfl, rfl⟩ ?_ ?_
    · exact ⟨rfl, rfl, rfl, trivial⟩
    · exact (Sub.refl _)
   ·refine AO.cG rfl rfl (bD (decide_eq_false hc6)) (Calm.move rfl rfl) ?_
    refine AO.cG (x := .ptr n3 257) rfl rfl (bD (decide_eq_false hc6)) (Calm.fldPtr rfl rfl Try.underlying30 rfl sz25 _ rfl) ?_
    refine AO.cG rfl rfl (bD (decide_eq_false hc6)) (Calm.load 0 rfl rfl rfl (At.cast (At.fldS (At.fldS (At.fld0 At.here))) rfl) ag25 sz25) ?_
    refine AO.cG rfl rfl (bD (decide_eq_false hc6)) (Calm.lenL rfl rfl Try.underlying25) ?_
    refine AO.cG (x := eBool (decide ((p0.f2.length : Int) ≤ p1))) rfl rfl (bD (decide_eq_false hc6)) (Calm.int rfl rfl rfl rfl) ?_
    refine AO.c (Calm.pickF rfl (bD (decide_eq_false hc6)) rfl) ?_
    cases hq5
    refine AO.nilE ⟨rfl, rfl⟩ ?_ ?_
    · exact ⟨rfl, rfl, rfl, trivial⟩
    · exact (Sub.refl _)
  ·rcases of_ite h with ⟨hc7, h⟩ | ⟨hc7, h⟩
   ·refine AW.condT' _ rfl hc7 ?_
    refine AW.sr ?_
    refine AO.c (Calm.assign rfl rfl) ?_
    refine AO.nH [4] (H' := []) (Sub.nil _) ?_
    refine AW.rK [4] ?_
    have hr := Option.some.inj h
    subst hr
    exact ⟨[(eI64 (-1 : Int))], ⟨rfl, rfl, trivial⟩, rfl⟩
   ·refine AW.condF' _ rfl hc7 ?_
    refine AW.sK [1, 2] ?_
    refine AW.sr ?_
    refine AO.c (x := .ptr n3 257) (Calm.fldPtr rfl rfl Try.underlying30 rfl sz25 _ rfl) ?_
    refine AO.c (Calm.load 0 rfl rfl rfl (At.cast (At.fldS (At.fldS (At.fld0 At.here))) rfl) ag25 sz25) ?_
    refine AO.c (Calm.move rfl rfl) ?_
    obtain ⟨hg8, h⟩ := of_guard h
    refine AO.c (Calm.idxL (f := eI64) rfl rfl rfl hg8 Try.underlying25 sz3) ?_
    refine AO.c (Calm.loadRp rfl rfl ag3 sz3) ?_
    refine AO.c (Calm.assign rfl rfl) ?_
    refine AO.nH [4] (H' := []) (Sub.nil _) ?_
    refine AW.rK [4] ?_
    have hr := Option.some.inj h
    subst hr
    exact ⟨[(eI64 (lget p0.f2 p1))], ⟨rfl, rfl, trivial⟩, rfl⟩
end Go.Avl.T5
/- bosket/bosketref09.to; printed by avmain.py. -/
namespace Go.Avl.T5
open Go Go.RowKit Go.Proofs Go.Avl
set_option linter.unusedVariables false
set_option maxRecDepth 100000
set_option maxHeartbeats 4000000
attribute [local irreducible] AW AO AQ Spec SpecH Calm

def bosketref09_to (k : Nat) (p0 : S30) (p1 : Int) (p2 : Int) : Option Int :=
  Option.bind (α := Bool) (if (p0.f1.length : Int) ≤ p1 then some (true)
  else if 0 ≤ p1 ∧ p1 < (p0.f1.length : Int) then if 0 ≤ p2 ∧ p2 < ((lget p0.f1 p1).length : Int) then some (decide ((lget (lget p0.f1 p1) p2) < (0 : Int)))
  else none
  else none) fun b5 =>
  if b5 = true then some ((p0.f1.length : Int))
  else if 0 ≤ p1 ∧ p1 < (p0.f1.length : Int) then if 0 ≤ p2 ∧ p2 < ((lget p0.f1 p1).length : Int) then some ((lget (lget p0.f1 p1) p2))
  else none
  else none
theorem bosketref09_to_spec {k : Nat} {p0 : S30} {p1 : Int} {p2 : Int} {r : Int} (h : bosketref09_to k p0 p1 p2 = some r) : Spec Try.prog 73 [(e30 p0), (eI64 p1), (eI64 p2)] (eI64 r) := by
  rw [bosketref09_to.eq_1] at h
  refine Spec.intro (res := [.tmp 6]) Try.func73 rfl rfl rfl (Nat.le_of_ble_eq_true rfl) ?_
  refine AW.sr ?_
  refine AO.box rfl 3 rfl (by decide) rfl rfl rfl fun n4 => ?_
  refine AO.c (Calm.assign rfl rfl) ?_
  refine AO.nK [1, 2, 3] ?_
  refine AW.seq ?_
  refine AW.seq ?_
  obtain ⟨b5, hq6, h⟩ := of_bind h
  refine AW.regM [(1, (eI64 p1)), (2, (eI64 p2)), (3, (.ptr n4 0)), (22, (eBool b5))] [(n4, (.mem (e30 p0)))] ?_ ?_
  ·refine AO.c (Calm.move rfl rfl) ?_
   refine AO.c (x := .ptr n4 256) (Calm.fldPtr rfl rfl Try.underlying30 rfl sz28 _ rfl) ?_
   refine AO.c (Calm.load 0 rfl rfl rfl (At.cast (At.fldS (At.fld0 At.here)) rfl) ag28 sz28) ?_
   refine AO.c (Calm.lenL rfl rfl Try.underlying28) ?_
   refine AO.c (x := eBool (decide ((p0.f1.length : Int) ≤ p1))) (Calm.int rfl rfl rfl rfl) ?_
   refine AO.c (Calm.move rfl rfl) ?_
   rcases of_ite hq6 with ⟨hc7, hq6⟩ | ⟨hc7, hq6⟩
   ·refine AO.sF rfl rfl (bD (decide_eq_true hc7)) ?_
    refine AO.sF rfl rfl (bD (decide_eq_true hc7)) ?_
    refine AO.sF rfl rfl (bD (decide_eq_true hc7)) ?_
    refine AO.sF rfl rfl (bD (decide_eq_true hc7)) ?_
    refine AO.sF rfl rfl (bD (decide_eq_true hc7)) ?_
    refine AO.sF rfl rfl (bD (decide_eq_true hc7)) ?_
    refine AO.sF rfl rfl (bD (decide_eq_true hc7)) ?_
    refine AO.sF rfl rfl (bD (decide_eq_true hc7)) ?_
    refine AO.sF rfl rfl (bD (decide_eq_true hc7)) ?_
    refine AO.c (Calm.pickT rfl (bD (decide_eq_true hc7)) rfl) ?_
    cases hq6
    refine AO.nilE ⟨rfl, rfl⟩ ?_ ?_
    · exact ⟨rfl, rfl, rfl, rfl, trivial⟩
    · exact (Sub.refl _)
   ·refine AO.cG (x := .ptr n4 256) rfl rfl (bD (decide_eq_false hc7)) (Calm.fldPtr rfl rfl Try.underlying30 rfl sz28 _ rfl) ?_
    refine AO.cG rfl rfl (bD (decide_eq_false hc7)) (Calm.load 0 rfl rfl rfl (At.cast (At.fldS (At.fld0 At.here)) rfl) ag28 sz28) ?_
    refine AO.cG rfl rfl (bD (decide_eq_false hc7)) (Calm.move rfl rfl) ?_
    obtain ⟨hg8, hq6⟩ := of_guard hq6
    refine AO.cG rfl rfl (bD (decide_eq_false hc7)) (Calm.idxL (f := e25) rfl rfl rfl hg8 Try.underlying28 sz25) ?_
    refine AO.cG rfl rfl (bD (decide_eq_false hc7)) (Calm.loadRp rfl rfl ag25 sz25) ?_
    refine AO.cG rfl rfl (bD (decide_eq_false hc7)) (Calm.move rfl rfl) ?_
    obtain ⟨hg9, hq6⟩ := of_guard hq6
    refine AO.cG rfl rfl (bD (decide_eq_false hc7)) (Calm.idxL (f := eI64) rfl rfl rfl hg9 Try.underlying25 sz3) ?_
    refine AO.cG rfl rfl (bD (decide_eq_false hc7)) (Calm.loadRp rfl rfl ag3 sz3) ?_
    refine AO.cG (x := eBool (decide ((lget (lget p0.f1 p1) p2) < (0 : Int)))) rfl rfl (bD (decide_eq_false hc7)) (Calm.int rfl rfl rfl rfl) ?_
    refine AO.c (Calm.pickF rfl (bD (decide_eq_false hc7)) rfl) ?_
    cases hq6
    refine AO.nilE ⟨rfl, rfl⟩ ?_ ?_
    · exact ⟨rfl, rfl, rfl, rfl, trivial⟩
    · exact (Sub.refl _)
  ·rcases of_ite h with ⟨hc10, h⟩ | ⟨hc10, h⟩
   ·refine AW.condT' _ rfl hc10 ?_
    refine AW.sr ?_
    refine AO.c (x := .ptr n4 256) (Calm.fldPtr rfl rfl Try.underlying30 rfl sz28 _ rfl) ?_
    refine AO.c (Calm.load 0 rfl rfl rfl (At.cast (At.fldS (At.fld0 At.here)) rfl) ag28 sz28) ?_
    refine AO.c (Calm.lenL rfl rfl Try.underlying28) ?_
    refine AO.c (Calm.assign rfl rfl) ?_
    refine AO.nH [6] (H' := []) (Sub.nil _) ?_
    refine AW.rK [6] ?_
    have hr := Option.some.inj h
    subst hr
    exact ⟨[(eI64 (p0.f1.length : Int))], ⟨rfl, rfl, trivial⟩, rfl⟩
   ·refine AW.condF' _ rfl hc10 ?_
    refine AW.sK [1, 2, 3] ?_
    refine AW.sr ?_
    refine AO.c (x := .ptr n4 256) (Calm.fldPtr rfl rfl Try.underlying30 rfl sz28 _ rfl) ?_
    refine AO.c (Calm.load 0 rfl rfl rfl (At.cast (At.fldS (At.fld0 At.here)) rfl) ag28 sz28) ?_
    refine AO.c (Calm.move rfl rfl) ?_
    obtain ⟨hg11, h⟩ := of_guard h
    refine AO.c (Calm.idxL (f := e25) rfl rfl rfl hg11 Try.underlying28 sz25) ?_
    refine AO.c (Calm.loadRp rfl rfl ag25 sz25) ?_
    refine AO.c (Calm.move rfl rfl) ?_
    obtain ⟨hg12, h⟩ := of_guard h
    refine AO.c (Calm.idxL (f := eI64) rfl rfl rfl hg12 Try.underlying25 sz3) ?_
    refine AO.c (Calm.loadRp rfl rfl ag3 sz3) ?_
    refine AO.c (Calm.assign rfl rfl) ?_
    refine AO.nH [6] (H' := []) (Sub.nil _) ?_
    refine AW.rK [6] ?_
    have hr := Option.some.inj h
    subst hr
    exact ⟨[(eI64 (lget (lget p0.f1 p1) p2))], ⟨rfl, rfl, trivial⟩, rfl⟩
end Go.Avl.T5
/- bosket/bosketref09.Apart; printed by avmain.py. -/
namespace Go.Avl.T5
open Go Go.RowKit Go.Proofs Go.Avl
set_option linter.unusedVariables false
set_option maxRecDepth 100000
set_option maxHeartbeats 4000000
attribute [local irreducible] AW AO AQ Spec SpecH Calm

def bosketref09_Apart_c0 (k : Nat) (x6 : (List (List Bool))) : Option (List (List Bool)) :=
  some (x6)
def bosketref09_Apart_c1 (k : Nat) (rec11 : ((List (List Bool)) → Int → Option (List (List Bool)))) (x10 : Int) (x14 : (List (List Bool))) : Option (List (List Bool)) :=
  rec11 x14 (w64 (x10 + (1 : Int)))
def bosketref09_Apart_c2 (k : Nat) (rec19 : ((List (List Bool)) → Int → Option (List (List Bool)))) (x18 : Int) (x22 : (List (List Bool))) : Option (List (List Bool)) :=
  rec19 x22 (w64 (x18 + (1 : Int)))
def bosketref09_Apart_c3 (k : Nat) (rec27 : ((List (List Bool)) → Int → Option (List (List Bool)))) (x26 : Int) (x30 : (List (List Bool))) : Option (List (List Bool)) :=
  rec27 x30 (w64 (x26 + (1 : Int)))
def bosketref09_Apart_l4 (k : Nat) (rec27 : ((List (List Bool)) → Int → Option (List (List Bool)))) (p0 : S30) (x18 : Int) (x26 : Int) : Nat → (List (List Bool)) → Int → Option (List (List Bool))
  | 0, _, _ => none
  | j + 1, x32, x34 =>
    Option.bind (α := Bool) (if 0 ≤ (0 : Int) ∧ (0 : Int) < (p0.f1.length : Int) then if x34 < ((lget p0.f1 (0 : Int)).length : Int) then if 0 ≤ x18 ∧ x18 < (x32.length : Int) then if 0 ≤ x26 ∧ x26 < ((lget x32 x18).length : Int) then some (!(lget (lget x32 x18) x26))
    else none
    else none
    else some (false)
    else none) fun b37 =>
    if b37 = true then if 0 ≤ x18 ∧ x18 < (x32.length : Int) then (bosketref09_to k p0 x18 x34).bind fun t45 =>
    if 0 ≤ t45 ∧ t45 < (x32.length : Int) then (bosketref09_to k p0 x26 x34).bind fun t47 =>
    if 0 ≤ t47 ∧ t47 < ((lget x32 t45).length : Int) then if 0 ≤ x26 ∧ x26 < ((lget x32 x18).length : Int) then (bosketref09_Apart_l4 k rec27 p0 x18 x26 j) (lset x32 x18 (lset (lget x32 x18) x26 (lget (lget x32 t45) t47))) (w64 (x34 + (1 : Int)))
    else none
    else none
    else none
    else none
    else bosketref09_Apart_c3 k rec27 x26 x32
def bosketref09_Apart_l5 (k : Nat) (rec19 : ((List (List Bool)) → Int → Option (List (List Bool)))) (p0 : S30) (x18 : Int) : Nat → (List (List Bool)) → Int → Option (List (List Bool))
  | 0, _, _ => none
  | j + 1, x24, x26 =>
    if x26 < (w64 ((p0.f1.length : Int) + (1 : Int))) then bosketref09_Apart_l4 k (bosketref09_Apart_l5 k rec19 p0 x18 j) p0 x18 x26 k x24 (0 : Int)
    else bosketref09_Apart_c2 k rec19 x18 x24
def bosketref09_Apart_l6 (k : Nat) (rec11 : ((List (List Bool)) → Int → Option (List (List Bool)))) (p0 : S30) (x10 : Int) : Nat → (List (List Bool)) → Int → Option (List (List Bool))
  | 0, _, _ => none
  | j + 1, x16, x18 =>
    if x18 < (w64 ((p0.f1.length : Int) + (1 : Int))) then bosketref09_Apart_l5 k (bosketref09_Apart_l6 k rec11 p0 x10 j) p0 x18 k x16 (0 : Int)
    else bosketref09_Apart_c1 k rec11 x10 x16
def bosketref09_Apart_l7 (k : Nat) (p0 : S30) : Nat → (List (List Bool)) → Int → Option (List (List Bool))
  | 0, _, _ => none
  | j + 1, x8, x10 =>
    if x10 < (w64 ((p0.f1.length : Int) + (1 : Int))) then bosketref09_Apart_l6 k (bosketref09_Apart_l7 k p0 j) p0 x10 k x8 (0 : Int)
    else bosketref09_Apart_c0 k x8
def bosketref09_Apart_c8 (k : Nat) (p0 : S30) (x4 : (List (List Bool))) : Option (List (List Bool)) :=
  bosketref09_Apart_l7 k p0 k x4 (0 : Int)
def bosketref09_Apart_c9 (k : Nat) (rec54 : ((List (List Bool)) → Int → Option (List (List Bool)))) (x53 : Int) (x58 : (List (List Bool))) : Option (List (List Bool)) :=
  rec54 x58 (w64 (x53 + (1 : Int)))
def bosketref09_Apart_c10 (k : Nat) (rec54 : ((List (List Bool)) → Int → Option (List (List Bool)))) (x51 : (List (List Bool))) (x53 : Int) (x62 : (List Bool)) : Option (List (List Bool)) :=
  if (x51 ++ [x62]).length * 24 ≤ 140737488355328 then bosketref09_Apart_c9 k rec54 x53 (x51 ++ [x62])
  else none
def bosketref09_Apart_l11 (k : Nat) (rec54 : ((List (List Bool)) → Int → Option (List (List Bool)))) (p0 : S30) (x51 : (List (List Bool))) (x53 : Int) : Nat → (List Bool) → Int → Option (List (List Bool))
  | 0, _, _ => none
  | j + 1, x66, x67 =>
    if x67 < (w64 ((p0.f1.length : Int) + (1 : Int))) then (bosketref08_Mark k p0 x53).bind fun t71 =>
    (bosketref08_Mark k p0 x67).bind fun t72 =>
    if 0 ≤ x67 ∧ x67 < (x66.length : Int) then (bosketref09_Apart_l11 k rec54 p0 x51 x53 j) (lset x66 x67 (decide (t71 ≠ t72))) (w64 (x67 + (1 : Int)))
    else none
    else bosketref09_Apart_c10 k rec54 x51 x53 x66
def bosketref09_Apart_l12 (k : Nat) (p0 : S30) : Nat → (List (List Bool)) → Int → Option (List (List Bool))
  | 0, _, _ => none
  | j + 1, x51, x53 =>
    if x53 < (w64 ((p0.f1.length : Int) + (1 : Int))) then if 0 ≤ (w64 ((p0.f1.length : Int) + (1 : Int))) ∧ (w64 ((p0.f1.length : Int) + (1 : Int))) * (1 : Int) ≤ 140737488355328 ∧ (w64 ((p0.f1.length : Int) + (1 : Int))) ≤ 9223372036854775807 then bosketref09_Apart_l11 k (bosketref09_Apart_l12 k p0 j) p0 x51 x53 k (List.replicate (w64 ((p0.f1.length : Int) + (1 : Int))).toNat false) (0 : Int)
    else none
    else bosketref09_Apart_c8 k p0 x51
def bosketref09_Apart (k : Nat) (p0 : S30) : Option (List (List Bool)) :=
  bosketref09_Apart_l12 k p0 k ([] : List (List Bool)) (0 : Int)
theorem bosketref09_Apart_spec {k : Nat} {p0 : S30} {r : (List (List Bool))} (h : bosketref09_Apart k p0 = some r) : Spec Try.prog 70 [(e30 p0)] (e78 r) := by
  rw [bosketref09_Apart.eq_1] at h
  refine Spec.intro (res := [.tmp 2]) Try.func70 rfl rfl rfl (Nat.le_of_ble_eq_true rfl) ?_
  refine AW.sr ?_
  refine AO.box rfl 1 rfl (by decide) rfl rfl rfl fun n2 => ?_
  refine AO.c (Calm.assign rfl rfl) ?_
  refine AO.nK [1] ?_
  refine AW.sr ?_
  refine AO.c (x := .ptr n2 256) (Calm.fldPtr rfl rfl Try.underlying30 rfl sz28 _ rfl) ?_
  refine AO.c (Calm.load 0 rfl rfl rfl (At.cast (At.fldS (At.fld0 At.here)) rfl) ag28 sz28) ?_
  refine AO.c (Calm.lenL rfl rfl Try.underlying28) ?_
  refine AO.c (x := eI64 (w64 ((p0.f1.length : Int) + (1 : Int)))) (Calm.int rfl rfl rfl rfl) ?_
  refine AO.c (Calm.assign rfl rfl) ?_
  refine AO.nK [1, 3] ?_
  refine AW.sr ?_
  refine AO.c (Calm.assign rfl rfl) ?_
  refine AO.nK [1, 3, 4] ?_
  refine AW.seq_mid (fun ρ H => ∃ (n3 : Nat) (ns5 : (Nat → Nat)) (x4 : (List (List Bool))), ρ = [(1, (.ptr n2 0)), (3, (eI64 (w64 ((p0.f1.length : Int) + (1 : Int))))), (4, (.own n3 0 x4.length))] ∧ H = ((n2, (.mem (e30 p0))) :: (n3, (.mem (.ar 1 (ownsF ns5 0 x4)))) :: (famF 1 eBool ns5 0 x4 ++ [])) ∧ bosketref09_Apart_c8 k p0 x4 = some r) ?_ ?_
  ·refine AW.sr ?_
   refine AO.c (Calm.assign rfl rfl) ?_
   refine AO.nK [1, 3, 4, 5] ?_
   refine AW.block ?_
   refine AW.nilOwn 4 1 rfl fun n74 => ?_
   refine AW.heq (H' := ((n74, (.mem (.ar 1 (ownsF (fun _ => 0) 0 ([] : List (List Bool)))))) :: (n2, (.mem (e30 p0))) :: (famF 1 eBool (fun _ => 0) 0 ([] : List (List Bool)) ++ []))) rfl ?_
   refine AW.wH [1, 3, 4, 5] (H' := ((n2, (.mem (e30 p0))) :: (n74, (.mem (.ar 1 (ownsF (fun _ => 0) 0 ([] : List (List Bool)))))) :: (famF 1 eBool (fun _ => 0) 0 ([] : List (List Bool)) ++ []))) (Sub.cons 1 rfl (Sub.cons 0 rfl (Sub.refl _))) ?_
   refine AW.loop (fun kq ρ H => ∃ (n50 : Nat) (ns52 : (Nat → Nat)) (x51 : (List (List Bool))) (x53 : Int), ρ = [(1, (.ptr n2 0)), (3, (eI64 (w64 ((p0.f1.length : Int) + (1 : Int))))), (4, (.own n50 0 x51.length)), (5, (eI64 x53))] ∧ H = ((n2, (.mem (e30 p0))) :: (n50, (.mem (.ar 1 (ownsF ns52 0 x51)))) :: (famF 1 eBool ns52 0 x51 ++ [])) ∧ bosketref09_Apart_l12 k p0 kq x51 x53 = some r) k ⟨n74, (fun _ => 0), ([] : List (List Bool)), (0 : Int), rfl, rfl, h⟩ ?_
   rintro kq55 _ _ ⟨n50, ns52, x51, x53, rfl, rfl, h⟩
   cases kq55 with
   | zero => rw [bosketref09_Apart_l12.eq_1] at h; cases h
   | succ kq55 =>
   rw [bosketref09_Apart_l12.eq_2] at h
   generalize hrec54 : bosketref09_Apart_l12 k p0 kq55 = rec54 at h
   refine AW.seq ?_
   refine AW.sr ?_
   refine AO.c (Calm.move rfl rfl) ?_
   refine AO.c (Calm.move rfl rfl) ?_
   refine AO.c (x := eBool (decide (x53 < (w64 ((p0.f1.length : Int) + (1 : Int)))))) (Calm.int rfl rfl rfl rfl) ?_
   refine AO.nK [1, 3, 4, 5, 18] ?_
   rcases of_ite h with ⟨hc56, h⟩ | ⟨hc56, h⟩
   ·refine AW.condP _ rfl hc56 ?_
    refine AW.sK [1, 3, 4, 5] ?_
    refine AW.seq_mid (fun ρ H => ∃ (n57 : Nat) (ns59 : (Nat → Nat)) (x58 : (List (List Bool))), ρ = [(1, (.ptr n2 0)), (3, (eI64 (w64 ((p0.f1.length : Int) + (1 : Int))))), (4, (.own n57 0 x58.length)), (5, (eI64 x53))] ∧ H = ((n2, (.mem (e30 p0))) :: (n57, (.mem (.ar 1 (ownsF ns59 0 x58)))) :: (famF 1 eBool ns59 0 x58 ++ [])) ∧ bosketref09_Apart_c9 k rec54 x53 x58 = some r) ?_ ?_
    ·refine AW.block ?_
     refine AW.sr ?_
     refine AO.c (Calm.move rfl rfl) ?_
     obtain ⟨hg61, h⟩ := of_guard h
     refine AO.makeL (f := eBool) false rfl 22 rfl (by decide) rfl rfl rfl Try.underlying49 sz4 by4 zr4 lay4 rfl hg61 fun n60 => ?_
     refine AO.c (Calm.assign rfl rfl) ?_
     refine AO.nH [1, 3, 4, 5, 6] (H' := ((n2, (.mem (e30 p0))) :: (n50, (.mem (.ar 1 (ownsF ns52 0 x51)))) :: (n60, (.mem (.ar 1 ((List.replicate (w64 ((p0.f1.length : Int) + (1 : Int))).toNat false).map eBool)))) :: (famF 1 eBool ns52 0 x51 ++ []))) (Sub.cons 1 rfl (Sub.cons 1 rfl (Sub.cons 0 rfl (Sub.refl _)))) ?_
     refine AW.seq_mid (fun ρ H => ∃ (x62 : (List Bool)), ρ = [(1, (.ptr n2 0)), (3, (eI64 (w64 ((p0.f1.length : Int) + (1 : Int))))), (4, (.own n50 0 x51.length)), (5, (eI64 x53)), (6, (.own n60 0 x62.length))] ∧ H = ((n2, (.mem (e30 p0))) :: (n50, (.mem (.ar 1 (ownsF ns52 0 x51)))) :: (n60, (.mem (.ar 1 (x62.map eBool)))) :: (famF 1 eBool ns52 0 x51 ++ [])) ∧ bosketref09_Apart_c10 k rec54 x51 x53 x62 = some r) ?_ ?_
     ·refine AW.sr ?_
      refine AO.c (Calm.assign rfl rfl) ?_
      refine AO.nK [1, 3, 4, 5, 6, 7] ?_
      refine AW.block ?_
      refine AW.wK [1, 3, 4, 5, 6, 7] ?_
      refine AW.loop (fun kq ρ H => ∃ (x66 : (List Bool)) (x67 : Int), ρ = [(1, (.ptr n2 0)), (3, (eI64 (w64 ((p0.f1.length : Int) + (1 : Int))))), (4, (.own n50 0 x51.length)), (5, (eI64 x53)), (6, (.own n60 0 x66.length)), (7, (eI64 x67))] ∧ H = ((n2, (.mem (e30 p0))) :: (n50, (.mem (.ar 1 (ownsF ns52 0 x51)))) :: (n60, (.mem (.ar 1 (x66.map eBool)))) :: (famF 1 eBool ns52 0 x51 ++ [])) ∧ bosketref09_Apart_l11 k rec54 p0 x51 x53 kq x66 x67 = some r) k ⟨(List.replicate (w64 ((p0.f1.length : Int) + (1 : Int))).toNat false), (0 : Int), rfl, rfl, h⟩ ?_
      rintro kq69 _ _ ⟨x66, x67, rfl, rfl, h⟩
      cases kq69 with
      | zero => rw [bosketref09_Apart_l11.eq_1] at h; cases h
      | succ kq69 =>
      rw [bosketref09_Apart_l11.eq_2] at h
      generalize hrec68 : bosketref09_Apart_l11 k rec54 p0 x51 x53 kq69 = rec68 at h
      refine AW.seq ?_
      refine AW.sr ?_
      refine AO.c (Calm.move rfl rfl) ?_
      refine AO.c (Calm.move rfl rfl) ?_
      refine AO.c (x := eBool (decide (x67 < (w64 ((p0.f1.length : Int) + (1 : Int)))))) (Calm.int rfl rfl rfl rfl) ?_
      refine AO.nK [1, 3, 4, 5, 6, 7, 25] ?_
      rcases of_ite h with ⟨hc70, h⟩ | ⟨hc70, h⟩
      ·refine AW.condP _ rfl hc70 ?_
       refine AW.sK [1, 3, 4, 5, 6, 7] ?_
       refine AW.seq ?_
       refine AW.block ?_
       obtain ⟨t71, et71, h⟩ := of_bind h
       obtain ⟨t72, et72, h⟩ := of_bind h
       obtain ⟨hg73, h⟩ := of_guard h
       refine AW.regAnyL rfl rfl (by rfl) (by decide +kernel) (by decide +kernel) [(.own n60 0 x66.length), (eI64 x67), (e30 p0), (eI64 x53), (eI64 t71), (e30 p0), (eI64 x67), (eI64 t72), (eBool (decide (t71 ≠ t72))), (.ptr n60 (x67.toNat * 1 + 0))] [(1, (.ptr n2 0)), (3, (eI64 (w64 ((p0.f1.length : Int) + (1 : Int))))), (4, (.own n50 0 x51.length)), (5, (eI64 x53)), (6, (.own n60 0 x66.length)), (7, (eI64 x67))] ⟨rfl, rfl, rfl, rfl, rfl, rfl, trivial⟩ rfl ?_ [(1, (.ptr n2 0)), (3, (eI64 (w64 ((p0.f1.length : Int) + (1 : Int))))), (4, (.own n50 0 x51.length)), (5, (eI64 x53)), (6, (.own n60 0 x66.length)), (7, (eI64 x67)), (36, (eBool (decide (t71 ≠ t72)))), (37, (.ptr n60 (x67.toNat * 1 + 0)))] ⟨rfl, rfl, rfl, rfl, rfl, rfl, rfl, rfl, trivial⟩ ?_
       ·refine ⟨?_, ?_, ?_, ?_, ?_, ?_, ?_, ?_, ?_, ?_, trivial⟩
        ·refine AO.wK [6] ?_
         refine AO.c (Calm.move rfl rfl) ?_
         exact AO.nE (d := 28) rfl ⟨⟨_, rfl, rfl⟩, Sub.refl _⟩
        ·refine AO.wK [7] ?_
         refine AO.c (Calm.move rfl rfl) ?_
         exact AO.nE (d := 29) rfl ⟨⟨_, rfl, rfl⟩, Sub.refl _⟩
        ·refine AO.wK [1] ?_
         refine AO.c (Calm.load 0 rfl rfl rfl (At.cast At.here rfl) ag30 sz30) ?_
         exact AO.nE (d := 30) rfl ⟨⟨_, rfl, rfl⟩, Sub.refl _⟩
        ·refine AO.wK [5] ?_
         refine AO.c (Calm.move rfl rfl) ?_
         exact AO.nE (d := 31) rfl ⟨⟨_, rfl, rfl⟩, Sub.refl _⟩
        ·refine AO.wK [30, 31] ?_
         refine AO.callS [(e30 p0), (eI64 x53)] (eI64 t71) 32 rfl (by decide) ok41 rfl rfl rfl ⟨rfl, rfl, rfl, rfl, trivial⟩ (bosketref08_Mark_spec et71) ?_
         exact AO.nE (d := 32) rfl ⟨⟨_, rfl, rfl⟩, Sub.refl _⟩
        ·refine AO.wK [1] ?_
         refine AO.c (Calm.load 0 rfl rfl rfl (At.cast At.here rfl) ag30 sz30) ?_
         exact AO.nE (d := 33) rfl ⟨⟨_, rfl, rfl⟩, Sub.refl _⟩
        ·refine AO.wK [7] ?_
         refine AO.c (Calm.move rfl rfl) ?_
         exact AO.nE (d := 34) rfl ⟨⟨_, rfl, rfl⟩, Sub.refl _⟩
        ·refine AO.wK [33, 34] ?_
         refine AO.callS [(e30 p0), (eI64 x67)] (eI64 t72) 35 rfl (by decide) ok41 rfl rfl rfl ⟨rfl, rfl, rfl, rfl, trivial⟩ (bosketref08_Mark_spec et72) ?_
         exact AO.nE (d := 35) rfl ⟨⟨_, rfl, rfl⟩, Sub.refl _⟩
        ·refine AO.wK [32, 35] ?_
         refine AO.c (x := eBool (decide (t71 ≠ t72))) (Calm.int rfl rfl rfl rfl) ?_
         exact AO.nE (d := 36) rfl ⟨⟨_, rfl, rfl⟩, Sub.refl _⟩
        ·refine AO.wK [28, 29] ?_
         refine AO.c (Calm.idxO 2 rfl rfl rfl rfl hg73 Try.underlying49 sz4) ?_
         exact AO.nE (d := 37) rfl ⟨⟨_, rfl, rfl⟩, Sub.refl _⟩
       ·refine AO.store (X' := (.ar 1 ((lset x66 x67 (decide (t71 ≠ t72))).map eBool))) 2 rfl rfl rfl rfl rfl rfl (Put.cast (Put.lidx x67 (decide (t71 ≠ t72)) hg73.1 hg73.2 Put.here) (by omega)) rfl rfl sz4 rfl ?_
        refine AO.coe 6 (y' := (.own n60 0 (lset x66 x67 (decide (t71 ≠ t72))).length)) rfl (fun _ _ h => lset_own h) ?_
        refine AO.nK [1, 3, 4, 5, 6, 7] ?_
        refine AW.reg ?_
        refine AO.c (Calm.move rfl rfl) ?_
        refine AO.c (x := eI64 (w64 (x67 + (1 : Int)))) (Calm.int rfl rfl rfl rfl) ?_
        refine AO.c (Calm.assign rfl rfl) ?_
        refine AO.nK [1, 3, 4, 5, 6, 7] ?_
        exact ⟨kq69, Nat.lt_succ_self _, (lset x66 x67 (decide (t71 ≠ t72))), (w64 (x67 + (1 : Int))), rfl, rfl, by rw [hrec68]; exact h⟩
      ·refine AW.condN _ rfl hc70 ?_
       refine AW.eK [1, 3, 4, 5, 6] ?_
       exact ⟨x66, rfl, rfl, h⟩
     ·rintro _ _ ⟨x62, rfl, rfl, h⟩
      rw [bosketref09_Apart_c10.eq_1] at h
      refine AW.reg ?_
      refine AO.c (Calm.move rfl rfl) ?_
      refine AO.c (Calm.move rfl rfl) ?_
      refine AO.lit (Z := (.fl (.slice none 0 0))) (xs := [(.own n60 0 x62.length)]) (qs := [(0, (.own n60 0 x62.length))]) rfl 40 rfl (by decide) rfl ⟨rfl, rfl, rfl, trivial⟩ Try.underlying78 sz49 zr49 lay49 rfl (by decide) (litOK (z := 1) [(.own n60 0 x62.length)] rfl ⟨⟨rfl, rfl⟩, trivial⟩) rfl fun n63 => ?_
      obtain ⟨hg65, h⟩ := of_guard h
      refine AO.appendF (ns := ns52) (x := x51) (m := n60) (r := x62) 2 0 41 rfl (by decide) rfl rfl rfl rfl rfl rfl Try.underlying78 Try.underlying78 sz49 by49 zr49 rfl hg65 (by decide) fun n64 => ?_
      refine AO.wH [1, 3, 5, 41] (H' := ((n2, (.mem (e30 p0))) :: (n64, (.mem (.ar 1 (ownsF (updN ns52 x51.length n60) 0 (x51 ++ [x62]))))) :: (famF 1 eBool (updN ns52 x51.length n60) 0 (x51 ++ [x62]) ++ []))) (Sub.cons 1 rfl (Sub.cons 1 rfl ((famSub 1 eBool ns52 x51 n60 x62 _).trans (Sub.cons 1 rfl (Sub.drop (Sub.refl _)))))) ?_
      refine AO.c (Calm.assign rfl rfl) ?_
      refine AO.nK [1, 3, 4, 5] ?_
      exact ⟨n64, (updN ns52 x51.length n60), (x51 ++ [x62]), rfl, rfl, h⟩
    ·rintro _ _ ⟨n57, ns59, x58, rfl, rfl, h⟩
     rw [bosketref09_Apart_c9.eq_1] at h
     refine AW.reg ?_
     refine AO.c (Calm.move rfl rfl) ?_
     refine AO.c (x := eI64 (w64 (x53 + (1 : Int)))) (Calm.int rfl rfl rfl rfl) ?_
     refine AO.c (Calm.assign rfl rfl) ?_
     refine AO.nK [1, 3, 4, 5] ?_
     exact ⟨kq55, Nat.lt_succ_self _, n57, ns59, x58, (w64 (x53 + (1 : Int))), rfl, rfl, by rw [hrec54]; exact h⟩
   ·refine AW.condN _ rfl hc56 ?_
    refine AW.eK [1, 3, 4] ?_
    exact ⟨n50, ns52, x51, rfl, rfl, h⟩
  ·rintro _ _ ⟨n3, ns5, x4, rfl, rfl, h⟩
   rw [bosketref09_Apart_c8.eq_1] at h
   refine AW.seq_mid (fun ρ H => ∃ (ns7 : (Nat → Nat)) (x6 : (List (List Bool))), ρ = [(4, (.own n3 0 x6.length))] ∧ H = ((n3, (.mem (.ar 1 (ownsF ns7 0 x6)))) :: (famF 1 eBool ns7 0 x6 ++ [])) ∧ bosketref09_Apart_c0 k x6 = some r) ?_ ?_
   ·refine AW.sr ?_
    refine AO.c (Calm.assign rfl rfl) ?_
    refine AO.nK [1, 3, 4, 8] ?_
    refine AW.block ?_
    refine AW.wK [1, 3, 4, 8] ?_
    refine AW.loop (fun kq ρ H => ∃ (ns9 : (Nat → Nat)) (x8 : (List (List Bool))) (x10 : Int), ρ = [(1, (.ptr n2 0)), (3, (eI64 (w64 ((p0.f1.length : Int) + (1 : Int))))), (4, (.own n3 0 x8.length)), (8, (eI64 x10))] ∧ H = ((n2, (.mem (e30 p0))) :: (n3, (.mem (.ar 1 (ownsF ns9 0 x8)))) :: (famF 1 eBool ns9 0 x8 ++ [])) ∧ bosketref09_Apart_l7 k p0 kq x8 x10 = some r) k ⟨ns5, x4, (0 : Int), rfl, rfl, h⟩ ?_
    rintro kq12 _ _ ⟨ns9, x8, x10, rfl, rfl, h⟩
    cases kq12 with
    | zero => rw [bosketref09_Apart_l7.eq_1] at h; cases h
    | succ kq12 =>
    rw [bosketref09_Apart_l7.eq_2] at h
    generalize hrec11 : bosketref09_Apart_l7 k p0 kq12 = rec11 at h
    refine AW.seq ?_
    refine AW.sr ?_
    refine AO.c (Calm.move rfl rfl) ?_
    refine AO.c (Calm.move rfl rfl) ?_
    refine AO.c (x := eBool (decide (x10 < (w64 ((p0.f1.length : Int) + (1 : Int)))))) (Calm.int rfl rfl rfl rfl) ?_
    refine AO.nK [1, 3, 4, 8, 44] ?_
    rcases of_ite h with ⟨hc13, h⟩ | ⟨hc13, h⟩
    ·refine AW.condP _ rfl hc13 ?_
     refine AW.sK [1, 3, 4, 8] ?_
     refine AW.seq_mid (fun ρ H => ∃ (ns15 : (Nat → Nat)) (x14 : (List (List Bool))), ρ = [(1, (.ptr n2 0)), (3, (eI64 (w64 ((p0.f1.length : Int) + (1 : Int))))), (4, (.own n3 0 x14.length)), (8, (eI64 x10))] ∧ H = ((n2, (.mem (e30 p0))) :: (n3, (.mem (.ar 1 (ownsF ns15 0 x14)))) :: (famF 1 eBool ns15 0 x14 ++ [])) ∧ bosketref09_Apart_c1 k rec11 x10 x14 = some r) ?_ ?_
     ·refine AW.block ?_
      refine AW.sr ?_
      refine AO.c (Calm.assign rfl rfl) ?_
      refine AO.nK [1, 3, 4, 8, 9] ?_
      refine AW.block ?_
      refine AW.wK [1, 3, 4, 8, 9] ?_
      refine AW.loop (fun kq ρ H => ∃ (ns17 : (Nat → Nat)) (x16 : (List (List Bool))) (x18 : Int), ρ = [(1, (.ptr n2 0)), (3, (eI64 (w64 ((p0.f1.length : Int) + (1 : Int))))), (4, (.own n3 0 x16.length)), (8, (eI64 x10)), (9, (eI64 x18))] ∧ H = ((n2, (.mem (e30 p0))) :: (n3, (.mem (.ar 1 (ownsF ns17 0 x16)))) :: (famF 1 eBool ns17 0 x16 ++ [])) ∧ bosketref09_Apart_l6 k rec11 p0 x10 kq x16 x18 = some r) k ⟨ns9, x8, (0 : Int), rfl, rfl, h⟩ ?_
      rintro kq20 _ _ ⟨ns17, x16, x18, rfl, rfl, h⟩
      cases kq20 with
      | zero => rw [bosketref09_Apart_l6.eq_1] at h; cases h
      | succ kq20 =>
      rw [bosketref09_Apart_l6.eq_2] at h
      generalize hrec19 : bosketref09_Apart_l6 k rec11 p0 x10 kq20 = rec19 at h
      refine AW.seq ?_
      refine AW.sr ?_
      refine AO.c (Calm.move rfl rfl) ?_
      refine AO.c (Calm.move rfl rfl) ?_
      refine AO.c (x := eBool (decide (x18 < (w64 ((p0.f1.length : Int) + (1 : Int)))))) (Calm.int rfl rfl rfl rfl) ?_
      refine AO.nK [1, 3, 4, 8, 9, 49] ?_
      rcases of_ite h with ⟨hc21, h⟩ | ⟨hc21, h⟩
      ·refine AW.condP _ rfl hc21 ?_
       refine AW.sK [1, 3, 4, 8, 9] ?_
       refine AW.seq_mid (fun ρ H => ∃ (ns23 : (Nat → Nat)) (x22 : (List (List Bool))), ρ = [(1, (.ptr n2 0)), (3, (eI64 (w64 ((p0.f1.length : Int) + (1 : Int))))), (4, (.own n3 0 x22.length)), (8, (eI64 x10)), (9, (eI64 x18))] ∧ H = ((n2, (.mem (e30 p0))) :: (n3, (.mem (.ar 1 (ownsF ns23 0 x22)))) :: (famF 1 eBool ns23 0 x22 ++ [])) ∧ bosketref09_Apart_c2 k rec19 x18 x22 = some r) ?_ ?_
       ·refine AW.block ?_
        refine AW.sr ?_
        refine AO.c (Calm.assign rfl rfl) ?_
        refine AO.nK [1, 3, 4, 8, 9, 10] ?_
        refine AW.block ?_
        refine AW.wK [1, 3, 4, 8, 9, 10] ?_
        refine AW.loop (fun kq ρ H => ∃ (ns25 : (Nat → Nat)) (x24 : (List (List Bool))) (x26 : Int), ρ = [(1, (.ptr n2 0)), (3, (eI64 (w64 ((p0.f1.length : Int) + (1 : Int))))), (4, (.own n3 0 x24.length)), (8, (eI64 x10)), (9, (eI64 x18)), (10, (eI64 x26))] ∧ H = ((n2, (.mem (e30 p0))) :: (n3, (.mem (.ar 1 (ownsF ns25 0 x24)))) :: (famF 1 eBool ns25 0 x24 ++ [])) ∧ bosketref09_Apart_l5 k rec19 p0 x18 kq x24 x26 = some r) k ⟨ns17, x16, (0 : Int), rfl, rfl, h⟩ ?_
        rintro kq28 _ _ ⟨ns25, x24, x26, rfl, rfl, h⟩
        cases kq28 with
        | zero => rw [bosketref09_Apart_l5.eq_1] at h; cases h
        | succ kq28 =>
        rw [bosketref09_Apart_l5.eq_2] at h
        generalize hrec27 : bosketref09_Apart_l5 k rec19 p0 x18 kq28 = rec27 at h
        refine AW.seq ?_
        refine AW.sr ?_
        refine AO.c (Calm.move rfl rfl) ?_
        refine AO.c (Calm.move rfl rfl) ?_
        refine AO.c (x := eBool (decide (x26 < (w64 ((p0.f1.length : Int) + (1 : Int)))))) (Calm.int rfl rfl rfl rfl) ?_
        refine AO.nK [1, 3, 4, 8, 9, 10, 54] ?_
        rcases of_ite h with ⟨hc29, h⟩ | ⟨hc29, h⟩
        ·refine AW.condP _ rfl hc29 ?_
         refine AW.sK [1, 3, 4, 8, 9, 10] ?_
         refine AW.seq_mid (fun ρ H => ∃ (ns31 : (Nat → Nat)) (x30 : (List (List Bool))), ρ = [(1, (.ptr n2 0)), (3, (eI64 (w64 ((p0.f1.length : Int) + (1 : Int))))), (4, (.own n3 0 x30.length)), (8, (eI64 x10)), (9, (eI64 x18)), (10, (eI64 x26))] ∧ H = ((n2, (.mem (e30 p0))) :: (n3, (.mem (.ar 1 (ownsF ns31 0 x30)))) :: (famF 1 eBool ns31 0 x30 ++ [])) ∧ bosketref09_Apart_c3 k rec27 x26 x30 = some r) ?_ ?_
         ·refine AW.block ?_
          refine AW.sr ?_
          refine AO.c (Calm.assign rfl rfl) ?_
          refine AO.nK [1, 3, 4, 8, 9, 10, 11] ?_
          refine AW.block ?_
          refine AW.wK [1, 3, 4, 8, 9, 10, 11] ?_
          refine AW.loop (fun kq ρ H => ∃ (ns33 : (Nat → Nat)) (x32 : (List (List Bool))) (x34 : Int), ρ = [(1, (.ptr n2 0)), (3, (eI64 (w64 ((p0.f1.length : Int) + (1 : Int))))), (4, (.own n3 0 x32.length)), (8, (eI64 x10)), (9, (eI64 x18)), (10, (eI64 x26)), (11, (eI64 x34))] ∧ H = ((n2, (.mem (e30 p0))) :: (n3, (.mem (.ar 1 (ownsF ns33 0 x32)))) :: (famF 1 eBool ns33 0 x32 ++ [])) ∧ bosketref09_Apart_l4 k rec27 p0 x18 x26 kq x32 x34 = some r) k ⟨ns25, x24, (0 : Int), rfl, rfl, h⟩ ?_
          rintro kq36 _ _ ⟨ns33, x32, x34, rfl, rfl, h⟩
          cases kq36 with
          | zero => rw [bosketref09_Apart_l4.eq_1] at h; cases h
          | succ kq36 =>
          rw [bosketref09_Apart_l4.eq_2] at h
          generalize hrec35 : bosketref09_Apart_l4 k rec27 p0 x18 x26 kq36 = rec35 at h
          refine AW.seq ?_
          refine AW.seq ?_
          obtain ⟨b37, hq38, h⟩ := of_bind h
          refine AW.regM [(1, (.ptr n2 0)), (3, (eI64 (w64 ((p0.f1.length : Int) + (1 : Int))))), (4, (.own n3 0 x32.length)), (8, (eI64 x10)), (9, (eI64 x18)), (10, (eI64 x26)), (11, (eI64 x34)), (73, (eBool b37))] ((n2, (.mem (e30 p0))) :: (n3, (.mem (.ar 1 (ownsF ns33 0 x32)))) :: (famF 1 eBool ns33 0 x32 ++ [])) ?_ ?_
          ·refine AO.c (Calm.move rfl rfl) ?_
           refine AO.c (x := .ptr n2 256) (Calm.fldPtr rfl rfl Try.underlying30 rfl sz28 _ rfl) ?_
           refine AO.c (Calm.load 0 rfl rfl rfl (At.cast (At.fldS (At.fld0 At.here)) rfl) ag28 sz28) ?_
           obtain ⟨hg39, hq38⟩ := of_guard hq38
           refine AO.c (Calm.idxL (f := e25) rfl rfl rfl hg39 Try.underlying28 sz25) ?_
           refine AO.c (Calm.loadRp rfl rfl ag25 sz25) ?_
           refine AO.c (Calm.lenL rfl rfl Try.underlying25) ?_
           refine AO.c (x := eBool (decide (x34 < ((lget p0.f1 (0 : Int)).length : Int)))) (Calm.int rfl rfl rfl rfl) ?_
           refine AO.c (Calm.move rfl rfl) ?_
           rcases of_ite hq38 with ⟨hc40, hq38⟩ | ⟨hc40, hq38⟩
           ·refine AO.cG rfl rfl (bD (decide_eq_true hc40)) (Calm.move rfl rfl) ?_
            refine AO.cG rfl rfl (bD (decide_eq_true hc40)) (Calm.move rfl rfl) ?_
            obtain ⟨hg41, hq38⟩ := of_guard hq38
            refine AO.cG (x := .ptr n3 (x18.toNat * 1 + 0)) rfl rfl (bD (decide_eq_true hc40)) (Calm.idxF 1 rfl rfl rfl rfl hg41 Try.underlying78 sz49) ?_
            refine AO.cG rfl rfl (bD (decide_eq_true hc40)) (Calm.load 1 rfl rfl rfl (At.cast (At.ownF hg41) rfl) ag49 sz49) ?_
            refine AO.cG rfl rfl (bD (decide_eq_true hc40)) (Calm.move rfl rfl) ?_
            obtain ⟨hg42, hq38⟩ := of_guard hq38
            refine AO.cG rfl rfl (bD (decide_eq_true hc40)) (Calm.idxO (f := eBool) (l := lget x32 x18) (x18.toNat + 2) rfl rfl rfl (consAt (consAt (famAt hg41))) hg42 Try.underlying49 sz4) ?_
            refine AO.cG rfl rfl (bD (decide_eq_true hc40)) (Calm.load (x18.toNat + 2) rfl rfl (consAt (consAt (famAt hg41))) (At.cast (At.lidx x26 hg42.1 hg42.2 At.here) rfl) ag4 sz4) ?_
            refine AO.cG rfl rfl (bD (decide_eq_true hc40)) (Calm.not rfl rfl) ?_
            refine AO.c (Calm.pickT rfl (bD (decide_eq_true hc40)) rfl) ?_
            cases hq38
            refine AO.nilE ⟨rfl, rfl⟩ ?_ ?_
            · exact ⟨rfl, rfl, rfl, rfl, rfl, rfl, rfl, rfl, trivial⟩
            · exact (Sub.refl _)
           ·refine AO.sT rfl rfl (bD (decide_eq_false hc40)) ?_
            refine AO.sT rfl rfl (bD (decide_eq_false hc40)) ?_
            refine AO.sT rfl rfl (bD (decide_eq_false hc40)) ?_
            refine AO.sT rfl rfl (bD (decide_eq_false hc40)) ?_
            refine AO.sT rfl rfl (bD (decide_eq_false hc40)) ?_
            refine AO.sT rfl rfl (bD (decide_eq_false hc40)) ?_
            refine AO.sT rfl rfl (bD (decide_eq_false hc40)) ?_
            refine AO.sT rfl rfl (bD (decide_eq_false hc40)) ?_
            refine AO.c (Calm.pickF rfl (bD (decide_eq_false hc40)) rfl) ?_
            cases hq38
            refine AO.nilE ⟨rfl, rfl⟩ ?_ ?_
            · exact ⟨rfl, rfl, rfl, rfl, rfl, rfl, rfl, rfl, trivial⟩
            · exact (Sub.refl _)
          ·rcases of_ite h with ⟨hc43, h⟩ | ⟨hc43, h⟩
           ·refine AW.condT' _ rfl hc43 ?_
            refine AW.sK [1, 3, 4, 8, 9, 10, 11] ?_
            refine AW.seq ?_
            refine AW.block ?_
            obtain ⟨hg44, h⟩ := of_guard h
            obtain ⟨t45, et45, h⟩ := of_bind h
            obtain ⟨hg46, h⟩ := of_guard h
            obtain ⟨t47, et47, h⟩ := of_bind h
            obtain ⟨hg48, h⟩ := of_guard h
            obtain ⟨hg49, h⟩ := of_guard h
            refine AW.regAnyL rfl rfl (by rfl) (by decide +kernel) (by decide +kernel) [(.own n3 0 x32.length), (eI64 x18), (.ptr n3 (x18.toNat * 1 + 0)), (.own (ns33 x18.toNat) 0 (lget x32 x18).length), (eI64 x26), (.own n3 0 x32.length), (e30 p0), (eI64 x18), (eI64 x34), (eI64 t45), (.ptr n3 (t45.toNat * 1 + 0)), (.own (ns33 t45.toNat) 0 (lget x32 t45).length), (e30 p0), (eI64 x26), (eI64 x34), (eI64 t47), (.ptr (ns33 t45.toNat) (t47.toNat * 1 + 0)), (eBool (lget (lget x32 t45) t47)), (.ptr (ns33 x18.toNat) (x26.toNat * 1 + 0))] [(1, (.ptr n2 0)), (3, (eI64 (w64 ((p0.f1.length : Int) + (1 : Int))))), (4, (.own n3 0 x32.length)), (8, (eI64 x10)), (9, (eI64 x18)), (10, (eI64 x26)), (11, (eI64 x34))] ⟨rfl, rfl, rfl, rfl, rfl, rfl, rfl, trivial⟩ rfl ?_ [(1, (.ptr n2 0)), (3, (eI64 (w64 ((p0.f1.length : Int) + (1 : Int))))), (4, (.own n3 0 x32.length)), (8, (eI64 x10)), (9, (eI64 x18)), (10, (eI64 x26)), (11, (eI64 x34)), (93, (eBool (lget (lget x32 t45) t47))), (94, (.ptr (ns33 x18.toNat) (x26.toNat * 1 + 0)))] ⟨rfl, rfl, rfl, rfl, rfl, rfl, rfl, rfl, rfl, trivial⟩ ?_
            ·refine ⟨?_, ?_, ?_, ?_, ?_, ?_, ?_, ?_, ?_, ?_, ?_, ?_, ?_, ?_, ?_, ?_, ?_, ?_, ?_, trivial⟩
             ·refine AO.wK [4] ?_
              refine AO.c (Calm.move rfl rfl) ?_
              exact AO.nE (d := 76) rfl ⟨⟨_, rfl, rfl⟩, Sub.refl _⟩
             ·refine AO.wK [9] ?_
              refine AO.c (Calm.move rfl rfl) ?_
              exact AO.nE (d := 77) rfl ⟨⟨_, rfl, rfl⟩, Sub.refl _⟩
             ·refine AO.wK [76, 77] ?_
              refine AO.c (x := .ptr n3 (x18.toNat * 1 + 0)) (Calm.idxF 1 rfl rfl rfl rfl hg44 Try.underlying78 sz49) ?_
              exact AO.nE (d := 78) rfl ⟨⟨_, rfl, rfl⟩, Sub.refl _⟩
             ·refine AO.wK [78] ?_
              refine AO.c (Calm.load 1 rfl rfl rfl (At.cast (At.ownF hg44) rfl) ag49 sz49) ?_
              exact AO.nE (d := 79) rfl ⟨⟨_, rfl, rfl⟩, Sub.refl _⟩
             ·refine AO.wK [10] ?_
              refine AO.c (Calm.move rfl rfl) ?_
              exact AO.nE (d := 80) rfl ⟨⟨_, rfl, rfl⟩, Sub.refl _⟩
             ·refine AO.wK [4] ?_
              refine AO.c (Calm.move rfl rfl) ?_
              exact AO.nE (d := 81) rfl ⟨⟨_, rfl, rfl⟩, Sub.refl _⟩
             ·refine AO.wK [1] ?_
              refine AO.c (Calm.load 0 rfl rfl rfl (At.cast At.here rfl) ag30 sz30) ?_
              exact AO.nE (d := 82) rfl ⟨⟨_, rfl, rfl⟩, Sub.refl _⟩
             ·refine AO.wK [9] ?_
              refine AO.c (Calm.move rfl rfl) ?_
              exact AO.nE (d := 83) rfl ⟨⟨_, rfl, rfl⟩, Sub.refl _⟩
             ·refine AO.wK [11] ?_
              refine AO.c (Calm.move rfl rfl) ?_
              exact AO.nE (d := 84) rfl ⟨⟨_, rfl, rfl⟩, Sub.refl _⟩
             ·refine AO.wK [82, 83, 84] ?_
              refine AO.callS [(e30 p0), (eI64 x18), (eI64 x34)] (eI64 t45) 85 rfl (by decide) ok73 rfl rfl rfl ⟨rfl, rfl, rfl, rfl, rfl, rfl, trivial⟩ (bosketref09_to_spec et45) ?_
              exact AO.nE (d := 85) rfl ⟨⟨_, rfl, rfl⟩, Sub.refl _⟩
             ·refine AO.wK [81, 85] ?_
              refine AO.c (x := .ptr n3 (t45.toNat * 1 + 0)) (Calm.idxF 1 rfl rfl rfl rfl hg46 Try.underlying78 sz49) ?_
              exact AO.nE (d := 86) rfl ⟨⟨_, rfl, rfl⟩, Sub.refl _⟩
             ·refine AO.wK [86] ?_
              refine AO.c (Calm.load 1 rfl rfl rfl (At.cast (At.ownF hg46) rfl) ag49 sz49) ?_
              exact AO.nE (d := 87) rfl ⟨⟨_, rfl, rfl⟩, Sub.refl _⟩
             ·refine AO.wK [1] ?_
              refine AO.c (Calm.load 0 rfl rfl rfl (At.cast At.here rfl) ag30 sz30) ?_
              exact AO.nE (d := 88) rfl ⟨⟨_, rfl, rfl⟩, Sub.refl _⟩
             ·refine AO.wK [10] ?_
              refine AO.c (Calm.move rfl rfl) ?_
              exact AO.nE (d := 89) rfl ⟨⟨_, rfl, rfl⟩, Sub.refl _⟩
             ·refine AO.wK [11] ?_
              refine AO.c (Calm.move rfl rfl) ?_
              exact AO.nE (d := 90) rfl ⟨⟨_, rfl, rfl⟩, Sub.refl _⟩
             ·refine AO.wK [88, 89, 90] ?_
              refine AO.callS [(e30 p0), (eI64 x26), (eI64 x34)] (eI64 t47) 91 rfl (by decide) ok73 rfl rfl rfl ⟨rfl, rfl, rfl, rfl, rfl, rfl, trivial⟩ (bosketref09_to_spec et47) ?_
              exact AO.nE (d := 91) rfl ⟨⟨_, rfl, rfl⟩, Sub.refl _⟩
             ·refine AO.wK [87, 91] ?_
              refine AO.c (Calm.idxO (f := eBool) (l := lget x32 t45) (t45.toNat + 2) rfl rfl rfl (consAt (consAt (famAt hg46))) hg48 Try.underlying49 sz4) ?_
              exact AO.nE (d := 92) rfl ⟨⟨_, rfl, rfl⟩, Sub.refl _⟩
             ·refine AO.wK [92] ?_
              refine AO.c (Calm.load (t45.toNat + 2) rfl rfl (consAt (consAt (famAt hg46))) (At.cast (At.lidx t47 hg48.1 hg48.2 At.here) rfl) ag4 sz4) ?_
              exact AO.nE (d := 93) rfl ⟨⟨_, rfl, rfl⟩, Sub.refl _⟩
             ·refine AO.wK [79, 80] ?_
              refine AO.c (Calm.idxO (f := eBool) (l := lget x32 x18) (x18.toNat + 2) rfl rfl rfl (consAt (consAt (famAt hg44))) hg49 Try.underlying49 sz4) ?_
              exact AO.nE (d := 94) rfl ⟨⟨_, rfl, rfl⟩, Sub.refl _⟩
            ·refine AO.store (X' := .ar 1 ((lset (lget x32 x18) x26 (lget (lget x32 t45) t47)).map eBool)) (x18.toNat + 2) rfl rfl rfl rfl rfl (consAt (consAt (famAt hg44))) (Put.cast (Put.lidx x26 (lget (lget x32 t45) t47) hg49.1 hg49.2 Put.here) rfl) rfl rfl sz4 rfl ?_
             refine AO.heq (H' := ((n2, (.mem (e30 p0))) :: (n3, (.mem (.ar 1 (ownsF ns33 0 x32)))) :: (famF 1 eBool ns33 0 (lset x32 x18 (lset (lget x32 x18) x26 (lget (lget x32 t45) t47))) ++ []))) ((consEq (consEq (famSet hg44)))) ?_
             refine AO.heq (H' := ((n2, (.mem (e30 p0))) :: (n3, (.mem (.ar 1 (ownsF ns33 0 (lset x32 x18 (lset (lget x32 x18) x26 (lget (lget x32 t45) t47))))))) :: (famF 1 eBool ns33 0 (lset x32 x18 (lset (lget x32 x18) x26 (lget (lget x32 t45) t47))) ++ []))) (by rw [ownSet hg44 (by simp [lset])]) ?_
             refine AO.coe 4 (y' := (.own n3 0 (lset x32 x18 (lset (lget x32 x18) x26 (lget (lget x32 t45) t47))).length)) rfl (fun _ _ h => own_len (by simp [lset]) h) ?_
             refine AO.nK [1, 3, 4, 8, 9, 10, 11] ?_
             refine AW.reg ?_
             refine AO.c (Calm.move rfl rfl) ?_
             refine AO.c (x := eI64 (w64 (x34 + (1 : Int)))) (Calm.int rfl rfl rfl rfl) ?_
             refine AO.c (Calm.assign rfl rfl) ?_
             refine AO.nK [1, 3, 4, 8, 9, 10, 11] ?_
             exact ⟨kq36, Nat.lt_succ_self _, ns33, (lset x32 x18 (lset (lget x32 x18) x26 (lget (lget x32 t45) t47))), (w64 (x34 + (1 : Int))), rfl, rfl, by rw [hrec35]; exact h⟩
           ·refine AW.condF' _ rfl hc43 ?_
            refine AW.eK [1, 3, 4, 8, 9, 10] ?_
            exact ⟨ns33, x32, rfl, rfl, h⟩
         ·rintro _ _ ⟨ns31, x30, rfl, rfl, h⟩
          rw [bosketref09_Apart_c3.eq_1] at h
          refine AW.reg ?_
          refine AO.c (Calm.move rfl rfl) ?_
          refine AO.c (x := eI64 (w64 (x26 + (1 : Int)))) (Calm.int rfl rfl rfl rfl) ?_
          refine AO.c (Calm.assign rfl rfl) ?_
          refine AO.nK [1, 3, 4, 8, 9, 10] ?_
          exact ⟨kq28, Nat.lt_succ_self _, ns31, x30, (w64 (x26 + (1 : Int))), rfl, rfl, by rw [hrec27]; exact h⟩
        ·refine AW.condN _ rfl hc29 ?_
         refine AW.eK [1, 3, 4, 8, 9] ?_
         exact ⟨ns25, x24, rfl, rfl, h⟩
       ·rintro _ _ ⟨ns23, x22, rfl, rfl, h⟩
        rw [bosketref09_Apart_c2.eq_1] at h
        refine AW.reg ?_
        refine AO.c (Calm.move rfl rfl) ?_
        refine AO.c (x := eI64 (w64 (x18 + (1 : Int)))) (Calm.int rfl rfl rfl rfl) ?_
        refine AO.c (Calm.assign rfl rfl) ?_
        refine AO.nK [1, 3, 4, 8, 9] ?_
        exact ⟨kq20, Nat.lt_succ_self _, ns23, x22, (w64 (x18 + (1 : Int))), rfl, rfl, by rw [hrec19]; exact h⟩
      ·refine AW.condN _ rfl hc21 ?_
       refine AW.eK [1, 3, 4, 8] ?_
       exact ⟨ns17, x16, rfl, rfl, h⟩
     ·rintro _ _ ⟨ns15, x14, rfl, rfl, h⟩
      rw [bosketref09_Apart_c1.eq_1] at h
      refine AW.reg ?_
      refine AO.c (Calm.move rfl rfl) ?_
      refine AO.c (x := eI64 (w64 (x10 + (1 : Int)))) (Calm.int rfl rfl rfl rfl) ?_
      refine AO.c (Calm.assign rfl rfl) ?_
      refine AO.nK [1, 3, 4, 8] ?_
      exact ⟨kq12, Nat.lt_succ_self _, ns15, x14, (w64 (x10 + (1 : Int))), rfl, rfl, by rw [hrec11]; exact h⟩
    ·refine AW.condN _ rfl hc13 ?_
     refine AW.eH [4] (H' := ((n3, (.mem (.ar 1 (ownsF ns9 0 x8)))) :: (famF 1 eBool ns9 0 x8 ++ []))) (Sub.cons 1 rfl (Sub.drop (Sub.refl _))) ?_
     exact ⟨ns9, x8, rfl, rfl, h⟩
   ·rintro _ _ ⟨ns7, x6, rfl, rfl, h⟩
    rw [bosketref09_Apart_c0.eq_1] at h
    refine AW.sr ?_
    refine AO.c (Calm.move rfl rfl) ?_
    refine AO.c (Calm.assign rfl rfl) ?_
    refine AO.nK [2] ?_
    refine AW.wH [2] (H' := ((n3, (.mem (.ar 1 (ownsF ns7 0 x6)))) :: (famF 1 eBool ns7 0 x6 ++ []))) (Sub.cons 0 rfl (Sub.refl _)) ?_
    refine AW.famFz0 ?_
    refine AW.freezeS 0 [(2, (.fz 1 (x6.map e49)))] rfl ⟨fz_all rfl, trivial⟩ ?_
    refine AW.rK [2] ?_
    have hr := Option.some.inj h
    subst hr
    exact ⟨[(.fz 1 (x6.map e49))], ⟨rfl, rfl, trivial⟩, rfl⟩
end Go.Avl.T5
/- bosket/bosketref09.Apartness; printed by avmain.py. -/
namespace Go.Avl.T5
open Go Go.RowKit Go.Proofs Go.Avl
set_option linter.unusedVariables false
set_option maxRecDepth 100000
set_option maxHeartbeats 4000000
attribute [local irreducible] AW AO AQ Spec SpecH Calm

def bosketref09_Apartness_c0 (k : Nat) : Option Bool :=
  some (true)
def bosketref09_Apartness_c1 (k : Nat) (rec5 : (Int → Option Bool)) (x4 : Int) : Option Bool :=
  rec5 (w64 (x4 + (1 : Int)))
def bosketref09_Apartness_c2 (k : Nat) (rec5 : (Int → Option Bool)) (p0 : S30) (t3 : (List (List Bool))) (x4 : Int) : Option Bool :=
  Option.bind (α := Bool) (if 0 ≤ x4 ∧ x4 < (t3.length : Int) then if 0 ≤ (p0.f1.length : Int) ∧ (p0.f1.length : Int) < ((lget t3 x4).length : Int) then if (!(lget (lget t3 x4) (p0.f1.length : Int))) = true then some (decide ((1 : Int) < (p0.f1.length : Int)))
  else some (false)
  else none
  else none) fun b8 =>
  if b8 = true then some (false)
  else bosketref09_Apartness_c1 k rec5 x4
def bosketref09_Apartness_l3 (k : Nat) (rec5 : (Int → Option Bool)) (p0 : S30) (t3 : (List (List Bool))) (x4 : Int) : Nat → Int → Option Bool
  | 0, _ => none
  | j + 1, x14 =>
    if x14 < x4 then if 0 ≤ x4 ∧ x4 < (t3.length : Int) then if 0 ≤ x14 ∧ x14 < ((lget t3 x4).length : Int) then if (!(lget (lget t3 x4) x14)) = true then some (false)
    else (bosketref09_Apartness_l3 k rec5 p0 t3 x4 j) (w64 (x14 + (1 : Int)))
    else none
    else none
    else bosketref09_Apartness_c2 k rec5 p0 t3 x4
def bosketref09_Apartness_l4 (k : Nat) (p0 : S30) (t3 : (List (List Bool))) : Nat → Int → Option Bool
  | 0, _ => none
  | j + 1, x4 =>
    if x4 < (p0.f1.length : Int) then bosketref09_Apartness_l3 k (bosketref09_Apartness_l4 k p0 t3 j) p0 t3 x4 k (0 : Int)
    else bosketref09_Apartness_c0 k
def bosketref09_Apartness (k : Nat) (p0 : S30) : Option Bool :=
  (bosketref09_Apart k p0).bind fun t3 =>
  bosketref09_Apartness_l4 k p0 t3 k (0 : Int)
theorem bosketref09_Apartness_spec {k : Nat} {p0 : S30} {r : Bool} (h : bosketref09_Apartness k p0 = some r) : Spec Try.prog 39 [(e30 p0)] (eBool r) := by
  rw [bosketref09_Apartness.eq_1] at h
  refine Spec.intro (res := [.tmp 2]) Try.func39 rfl rfl rfl (Nat.le_of_ble_eq_true rfl) ?_
  refine AW.sr ?_
  refine AO.box rfl 1 rfl (by decide) rfl rfl rfl fun n2 => ?_
  refine AO.c (Calm.assign rfl rfl) ?_
  refine AO.nK [1] ?_
  refine AW.sr ?_
  refine AO.c (Calm.load 0 rfl rfl rfl (At.cast At.here rfl) ag30 sz30) ?_
  obtain ⟨t3, et3, h⟩ := of_bind h
  refine AO.callS [(e30 p0)] (.fz 1 (t3.map e49)) 7 rfl (by decide) ok70 rfl rfl rfl ⟨rfl, rfl, trivial⟩ (bosketref09_Apart_spec et3) ?_
  refine AO.c (Calm.assign rfl rfl) ?_
  refine AO.nK [1, 3] ?_
  refine AW.seq_mid (fun ρ H => ρ = [] ∧ H = [] ∧ bosketref09_Apartness_c0 k = some r) ?_ ?_
  ·refine AW.sr ?_
   refine AO.c (Calm.assign rfl rfl) ?_
   refine AO.nK [1, 3, 4] ?_
   refine AW.block ?_
   refine AW.wK [1, 3, 4] ?_
   refine AW.loop (fun kq ρ H => ∃ (x4 : Int), ρ = [(1, (.ptr n2 0)), (3, (.fz 1 (t3.map e49))), (4, (eI64 x4))] ∧ H = [(n2, (.mem (e30 p0)))] ∧ bosketref09_Apartness_l4 k p0 t3 kq x4 = some r) k ⟨(0 : Int), rfl, rfl, h⟩ ?_
   rintro kq6 _ _ ⟨x4, rfl, rfl, h⟩
   cases kq6 with
   | zero => rw [bosketref09_Apartness_l4.eq_1] at h; cases h
   | succ kq6 =>
   rw [bosketref09_Apartness_l4.eq_2] at h
   generalize hrec5 : bosketref09_Apartness_l4 k p0 t3 kq6 = rec5 at h
   refine AW.seq ?_
   refine AW.sr ?_
   refine AO.c (Calm.move rfl rfl) ?_
   refine AO.c (x := .ptr n2 256) (Calm.fldPtr rfl rfl Try.underlying30 rfl sz28 _ rfl) ?_
   refine AO.c (Calm.load 0 rfl rfl rfl (At.cast (At.fldS (At.fld0 At.here)) rfl) ag28 sz28) ?_
   refine AO.c (Calm.lenL rfl rfl Try.underlying28) ?_
   refine AO.c (x := eBool (decide (x4 < (p0.f1.length : Int)))) (Calm.int rfl rfl rfl rfl) ?_
   refine AO.nK [1, 3, 4, 12] ?_
   rcases of_ite h with ⟨hc7, h⟩ | ⟨hc7, h⟩
   ·refine AW.condP _ rfl hc7 ?_
    refine AW.sK [1, 3, 4] ?_
    refine AW.seq_mid (fun ρ H => ρ = [(1, (.ptr n2 0)), (3, (.fz 1 (t3.map e49))), (4, (eI64 x4))] ∧ H = [(n2, (.mem (e30 p0)))] ∧ bosketref09_Apartness_c1 k rec5 x4 = some r) ?_ ?_
    ·refine AW.block ?_
     refine AW.seq_mid (fun ρ H => ρ = [(1, (.ptr n2 0)), (3, (.fz 1 (t3.map e49))), (4, (eI64 x4))] ∧ H = [(n2, (.mem (e30 p0)))] ∧ bosketref09_Apartness_c2 k rec5 p0 t3 x4 = some r) ?_ ?_
     ·refine AW.sr ?_
      refine AO.c (Calm.assign rfl rfl) ?_
      refine AO.nK [1, 3, 4, 5] ?_
      refine AW.block ?_
      refine AW.wK [1, 3, 4, 5] ?_
      refine AW.loop (fun kq ρ H => ∃ (x14 : Int), ρ = [(1, (.ptr n2 0)), (3, (.fz 1 (t3.map e49))), (4, (eI64 x4)), (5, (eI64 x14))] ∧ H = [(n2, (.mem (e30 p0)))] ∧ bosketref09_Apartness_l3 k rec5 p0 t3 x4 kq x14 = some r) k ⟨(0 : Int), rfl, rfl, h⟩ ?_
      rintro kq16 _ _ ⟨x14, rfl, rfl, h⟩
      cases kq16 with
      | zero => rw [bosketref09_Apartness_l3.eq_1] at h; cases h
      | succ kq16 =>
      rw [bosketref09_Apartness_l3.eq_2] at h
      generalize hrec15 : bosketref09_Apartness_l3 k rec5 p0 t3 x4 kq16 = rec15 at h
      refine AW.seq ?_
      refine AW.sr ?_
      refine AO.c (Calm.move rfl rfl) ?_
      refine AO.c (Calm.move rfl rfl) ?_
      refine AO.c (x := eBool (decide (x14 < x4))) (Calm.int rfl rfl rfl rfl) ?_
      refine AO.nK [1, 3, 4, 5, 17] ?_
      rcases of_ite h with ⟨hc17, h⟩ | ⟨hc17, h⟩
      ·refine AW.condP _ rfl hc17 ?_
       refine AW.sK [1, 3, 4, 5] ?_
       refine AW.seq ?_
       refine AW.block ?_
       refine AW.sr ?_
       refine AO.c (Calm.move rfl rfl) ?_
       refine AO.c (Calm.move rfl rfl) ?_
       obtain ⟨hg18, h⟩ := of_guard h
       refine AO.c (Calm.idxL (f := e49) rfl rfl rfl hg18 Try.underlying78 sz49) ?_
       refine AO.c (Calm.loadRp rfl rfl ag49 sz49) ?_
       refine AO.c (Calm.move rfl rfl) ?_
       obtain ⟨hg19, h⟩ := of_guard h
       refine AO.c (Calm.idxL (f := eBool) rfl rfl rfl hg19 Try.underlying49 sz4) ?_
       refine AO.c (Calm.loadRp rfl rfl ag4 sz4) ?_
       refine AO.c (Calm.not rfl rfl) ?_
       refine AO.nK [1, 3, 4, 5, 27] ?_
       rcases of_ite h with ⟨hc20, h⟩ | ⟨hc20, h⟩
       ·refine AW.condT' _ rfl hc20 ?_
        refine AW.sr ?_
        refine AO.c (Calm.assign rfl rfl) ?_
        refine AO.nH [2] (H' := []) (Sub.nil _) ?_
        refine AW.rK [2] ?_
        have hr := Option.some.inj h
        subst hr
        exact ⟨[(eBool false)], ⟨rfl, rfl, trivial⟩, rfl⟩
       ·refine AW.condF' _ rfl hc20 ?_
        refine AW.sK [1, 3, 4, 5] ?_
        refine AW.reg ?_
        refine AO.c (Calm.move rfl rfl) ?_
        refine AO.c (x := eI64 (w64 (x14 + (1 : Int)))) (Calm.int rfl rfl rfl rfl) ?_
        refine AO.c (Calm.assign rfl rfl) ?_
        refine AO.nK [1, 3, 4, 5] ?_
        exact ⟨kq16, Nat.lt_succ_self _, (w64 (x14 + (1 : Int))), rfl, rfl, by rw [hrec15]; exact h⟩
      ·refine AW.condN _ rfl hc17 ?_
       refine AW.eK [1, 3, 4] ?_
       exact ⟨rfl, rfl, h⟩
     ·rintro _ _ ⟨rfl, rfl, h⟩
      rw [bosketref09_Apartness_c2.eq_1] at h
      refine AW.seq ?_
      obtain ⟨b8, hq9, h⟩ := of_bind h
      refine AW.regQM (by rfl) (by decide +kernel) [(1, (.ptr n2 0)), (3, (.fz 1 (t3.map e49))), (4, (eI64 x4)), (43, (eBool b8))] ?_ ?_
      ·refine AQ.c (Calm.move rfl rfl) ?_
       refine AQ.c (Calm.move rfl rfl) ?_
       obtain ⟨hg10, hq9⟩ := of_guard hq9
       refine AQ.c (Calm.idxL (f := e49) rfl rfl rfl hg10 Try.underlying78 sz49) ?_
       refine AQ.c (Calm.loadRp rfl rfl ag49 sz49) ?_
       refine AQ.c (x := .ptr n2 256) (Calm.fldPtr rfl rfl Try.underlying30 rfl sz28 _ rfl) ?_
       refine AQ.c (Calm.load 0 rfl rfl rfl (At.cast (At.fldS (At.fld0 At.here)) rfl) ag28 sz28) ?_
       refine AQ.c (Calm.lenL rfl rfl Try.underlying28) ?_
       obtain ⟨hg11, hq9⟩ := of_guard hq9
       refine AQ.c (Calm.idxL (f := eBool) rfl rfl rfl hg11 Try.underlying49 sz4) ?_
       refine AQ.c (Calm.loadRp rfl rfl ag4 sz4) ?_
       refine AQ.c (Calm.not rfl rfl) ?_
       refine AQ.c (Calm.move rfl rfl) ?_
       rcases of_ite hq9 with ⟨hc12, hq9⟩ | ⟨hc12, hq9⟩
       ·refine AQ.cG (x := .ptr n2 256) rfl rfl (bD hc12) (Calm.fldPtr rfl rfl Try.underlying30 rfl sz28 _ rfl) ?_
        refine AQ.cG rfl rfl (bD hc12) (Calm.load 0 rfl rfl rfl (At.cast (At.fldS (At.fld0 At.here)) rfl) ag28 sz28) ?_
        refine AQ.cG rfl rfl (bD hc12) (Calm.lenL rfl rfl Try.underlying28) ?_
        refine AQ.cG (x := eBool (decide ((1 : Int) < (p0.f1.length : Int)))) rfl rfl (bD hc12) (Calm.int rfl rfl rfl rfl) ?_
        refine AQ.c (Calm.pickT rfl (bD hc12) rfl) ?_
        cases hq9
        refine AQ.nilE rfl ?_
        exact ⟨rfl, rfl, rfl, rfl, trivial⟩
       ·refine AQ.sT rfl rfl (bD (eq_false_of_ne_true hc12)) ?_
        refine AQ.sT rfl rfl (bD (eq_false_of_ne_true hc12)) ?_
        refine AQ.sT rfl rfl (bD (eq_false_of_ne_true hc12)) ?_
        refine AQ.sT rfl rfl (bD (eq_false_of_ne_true hc12)) ?_
        refine AQ.c (Calm.pickF rfl (bD (eq_false_of_ne_true hc12)) rfl) ?_
        cases hq9
        refine AQ.nilE rfl ?_
        exact ⟨rfl, rfl, rfl, rfl, trivial⟩
      ·rcases of_ite h with ⟨hc13, h⟩ | ⟨hc13, h⟩
       ·refine AW.condT' _ rfl hc13 ?_
        refine AW.sr ?_
        refine AO.c (Calm.assign rfl rfl) ?_
        refine AO.nH [2] (H' := []) (Sub.nil _) ?_
        refine AW.rK [2] ?_
        have hr := Option.some.inj h
        subst hr
        exact ⟨[(eBool false)], ⟨rfl, rfl, trivial⟩, rfl⟩
       ·refine AW.condF' _ rfl hc13 ?_
        refine AW.sK [1, 3, 4] ?_
        exact ⟨rfl, rfl, h⟩
    ·rintro _ _ ⟨rfl, rfl, h⟩
     rw [bosketref09_Apartness_c1.eq_1] at h
     refine AW.reg ?_
     refine AO.c (Calm.move rfl rfl) ?_
     refine AO.c (x := eI64 (w64 (x4 + (1 : Int)))) (Calm.int rfl rfl rfl rfl) ?_
     refine AO.c (Calm.assign rfl rfl) ?_
     refine AO.nK [1, 3, 4] ?_
     exact ⟨kq6, Nat.lt_succ_self _, (w64 (x4 + (1 : Int))), rfl, rfl, by rw [hrec5]; exact h⟩
   ·refine AW.condN _ rfl hc7 ?_
    refine AW.eH [] (H' := []) (Sub.nil _) ?_
    exact ⟨rfl, rfl, h⟩
  ·rintro _ _ ⟨rfl, rfl, h⟩
   rw [bosketref09_Apartness_c0.eq_1] at h
   refine AW.sr ?_
   refine AO.c (Calm.assign rfl rfl) ?_
   refine AO.nK [2] ?_
   refine AW.rK [2] ?_
   have hr := Option.some.inj h
   subst hr
   exact ⟨[(eBool true)], ⟨rfl, rfl, trivial⟩, rfl⟩
end Go.Avl.T5
/- bosket/bosketref09.Classes; printed by avmain.py. -/
namespace Go.Avl.T5
open Go Go.RowKit Go.Proofs Go.Avl
set_option linter.unusedVariables false
set_option maxRecDepth 100000
set_option maxHeartbeats 4000000
attribute [local irreducible] AW AO AQ Spec SpecH Calm

def bosketref09_Classes_c0 (k : Nat) : Option Bool :=
  some (true)
def bosketref09_Classes_c1 (k : Nat) (rec5 : (Int → Option Bool)) (x4 : Int) : Option Bool :=
  rec5 (w64 (x4 + (1 : Int)))
def bosketref09_Classes_c2 (k : Nat) (rec9 : (Int → Option Bool)) (x8 : Int) : Option Bool :=
  rec9 (w64 (x8 + (1 : Int)))
def bosketref09_Classes_c3 (k : Nat) (rec9 : (Int → Option Bool)) (x8 : Int) (b12 : Bool) : Option Bool :=
  if b12 = true then some (false)
  else bosketref09_Classes_c2 k rec9 x8
def bosketref09_Classes_l4 (k : Nat) (rec9 : (Int → Option Bool)) (p0 : S30) (x4 : Int) (x8 : Int) : Nat → Bool → Int → Option Bool
  | 0, _, _ => none
  | j + 1, b14, x15 =>
    if x15 < (p0.f1.length : Int) then Option.bind (α := Bool) (if b14 = true then (bosketref09_to k p0 x15 x4).bind fun t22 =>
    (bosketref09_to k p0 x15 x8).bind fun t23 =>
    some (decide (t22 = t23))
    else some (false)) fun b19 =>
    (bosketref09_Classes_l4 k rec9 p0 x4 x8 j) b19 (w64 (x15 + (1 : Int)))
    else bosketref09_Classes_c3 k rec9 x8 b14
def bosketref09_Classes_l5 (k : Nat) (rec5 : (Int → Option Bool)) (p0 : S30) (x4 : Int) : Nat → Int → Option Bool
  | 0, _ => none
  | j + 1, x8 =>
    if x8 < x4 then bosketref09_Classes_l4 k (bosketref09_Classes_l5 k rec5 p0 x4 j) p0 x4 x8 k true (0 : Int)
    else bosketref09_Classes_c1 k rec5 x4
def bosketref09_Classes_l6 (k : Nat) (p0 : S30) (x3 : Int) : Nat → Int → Option Bool
  | 0, _ => none
  | j + 1, x4 =>
    if x4 < x3 then bosketref09_Classes_l5 k (bosketref09_Classes_l6 k p0 x3 j) p0 x4 k (0 : Int)
    else bosketref09_Classes_c0 k
def bosketref09_Classes_c7 (k : Nat) (p0 : S30) (x3 : Int) : Option Bool :=
  bosketref09_Classes_l6 k p0 x3 k (0 : Int)
def bosketref09_Classes_c8 (k : Nat) (rec26 : (Int → Int → Option Bool)) (x25 : Int) (x29 : Int) : Option Bool :=
  rec26 x29 (w64 (x25 + (1 : Int)))
def bosketref09_Classes_l9 (k : Nat) (p0 : S30) : Nat → Int → Int → Option Bool
  | 0, _, _ => none
  | j + 1, x24, x25 =>
    if x25 < (256 : Int) then if 0 ≤ x25 ∧ x25 < (256 : Int) then if x24 < (w64 (vget p0.f0 x25)) then some (false)
    else if 0 ≤ x25 ∧ x25 < (256 : Int) then if (w64 (vget p0.f0 x25)) = x24 then bosketref09_Classes_c8 k (bosketref09_Classes_l9 k p0 j) x25 (w64 (x24 + (1 : Int)))
    else bosketref09_Classes_c8 k (bosketref09_Classes_l9 k p0 j) x25 x24
    else none
    else none
    else bosketref09_Classes_c7 k p0 x24
def bosketref09_Classes (k : Nat) (p0 : S30) : Option Bool :=
  bosketref09_Classes_l9 k p0 k (0 : Int) (0 : Int)
theorem bosketref09_Classes_spec {k : Nat} {p0 : S30} {r : Bool} (h : bosketref09_Classes k p0 = some r) : Spec Try.prog 40 [(e30 p0)] (eBool r) := by
  rw [bosketref09_Classes.eq_1] at h
  refine Spec.intro (res := [.tmp 2]) Try.func40 rfl rfl rfl (Nat.le_of_ble_eq_true rfl) ?_
  refine AW.sr ?_
  refine AO.box rfl 1 rfl (by decide) rfl rfl rfl fun n2 => ?_
  refine AO.c (Calm.assign rfl rfl) ?_
  refine AO.nK [1] ?_
  refine AW.sr ?_
  refine AO.c (Calm.assign rfl rfl) ?_
  refine AO.nK [1, 3] ?_
  refine AW.seq_mid (fun ρ H => ∃ (x3 : Int), ρ = [(1, (.ptr n2 0)), (3, (eI64 x3))] ∧ H = [(n2, (.mem (e30 p0)))] ∧ bosketref09_Classes_c7 k p0 x3 = some r) ?_ ?_
  ·refine AW.sr ?_
   refine AO.c (Calm.assign rfl rfl) ?_
   refine AO.nK [1, 3, 4] ?_
   refine AW.block ?_
   refine AW.wK [1, 3, 4] ?_
   refine AW.loop (fun kq ρ H => ∃ (x24 : Int) (x25 : Int), ρ = [(1, (.ptr n2 0)), (3, (eI64 x24)), (4, (eI64 x25))] ∧ H = [(n2, (.mem (e30 p0)))] ∧ bosketref09_Classes_l9 k p0 kq x24 x25 = some r) k ⟨(0 : Int), (0 : Int), rfl, rfl, h⟩ ?_
   rintro kq27 _ _ ⟨x24, x25, rfl, rfl, h⟩
   cases kq27 with
   | zero => rw [bosketref09_Classes_l9.eq_1] at h; cases h
   | succ kq27 =>
   rw [bosketref09_Classes_l9.eq_2] at h
   generalize hrec26 : bosketref09_Classes_l9 k p0 kq27 = rec26 at h
   refine AW.seq ?_
   refine AW.sr ?_
   refine AO.c (Calm.move rfl rfl) ?_
   refine AO.c (x := eBool (decide (x25 < (256 : Int)))) (Calm.int rfl rfl rfl rfl) ?_
   refine AO.nK [1, 3, 4, 10] ?_
   rcases of_ite h with ⟨hc28, h⟩ | ⟨hc28, h⟩
   ·refine AW.condP _ rfl hc28 ?_
    refine AW.sK [1, 3, 4] ?_
    refine AW.seq_mid (fun ρ H => ∃ (x29 : Int), ρ = [(1, (.ptr n2 0)), (3, (eI64 x29)), (4, (eI64 x25))] ∧ H = [(n2, (.mem (e30 p0)))] ∧ bosketref09_Classes_c8 k rec26 x25 x29 = some r) ?_ ?_
    ·refine AW.block ?_
     refine AW.seq ?_
     refine AW.sr ?_
     refine AO.c (Calm.move rfl rfl) ?_
     refine AO.c (x := .ptr n2 0) (Calm.fldPtr rfl rfl Try.underlying30 rfl sz27 _ rfl) ?_
     obtain ⟨hg30, h⟩ := of_guard h
     refine AO.c (Calm.idxP rfl rfl rfl hg30 Try.underlying27 sz5) ?_
     refine AO.c (Calm.load 0 rfl rfl rfl (At.cast (At.fld0 (At.vidx x25 hg30.1 hg30.2 At.here)) (by omega)) ag5 sz5) ?_
     refine AO.c (x := eI64 (w64 (vget p0.f0 x25))) (Calm.conv rfl rfl Try.underlying5 Try.underlying3) ?_
     refine AO.c (Calm.move rfl rfl) ?_
     refine AO.c (x := eBool (decide (x24 < (w64 (vget p0.f0 x25))))) (Calm.int rfl rfl rfl rfl) ?_
     refine AO.nK [1, 3, 4, 19] ?_
     rcases of_ite h with ⟨hc31, h⟩ | ⟨hc31, h⟩
     ·refine AW.condP _ rfl hc31 ?_
      refine AW.sr ?_
      refine AO.c (Calm.assign rfl rfl) ?_
      refine AO.nH [2] (H' := []) (Sub.nil _) ?_
      refine AW.rK [2] ?_
      have hr := Option.some.inj h
      subst hr
      exact ⟨[(eBool false)], ⟨rfl, rfl, trivial⟩, rfl⟩
     ·refine AW.condN _ rfl hc31 ?_
      refine AW.sK [1, 3, 4] ?_
      refine AW.sr ?_
      refine AO.c (Calm.move rfl rfl) ?_
      refine AO.c (x := .ptr n2 0) (Calm.fldPtr rfl rfl Try.underlying30 rfl sz27 _ rfl) ?_
      obtain ⟨hg32, h⟩ := of_guard h
      refine AO.c (Calm.idxP rfl rfl rfl hg32 Try.underlying27 sz5) ?_
      refine AO.c (Calm.load 0 rfl rfl rfl (At.cast (At.fld0 (At.vidx x25 hg32.1 hg32.2 At.here)) (by omega)) ag5 sz5) ?_
      refine AO.c (x := eI64 (w64 (vget p0.f0 x25))) (Calm.conv rfl rfl Try.underlying5 Try.underlying3) ?_
      refine AO.c (Calm.move rfl rfl) ?_
      refine AO.c (x := eBool (decide ((w64 (vget p0.f0 x25)) = x24))) (Calm.int rfl rfl rfl rfl) ?_
      refine AO.nK [1, 3, 4, 26] ?_
      rcases of_ite h with ⟨hc33, h⟩ | ⟨hc33, h⟩
      ·refine AW.condP _ rfl hc33 ?_
       refine AW.reg ?_
       refine AO.c (Calm.move rfl rfl) ?_
       refine AO.c (x := eI64 (w64 (x24 + (1 : Int)))) (Calm.int rfl rfl rfl rfl) ?_
       refine AO.c (Calm.assign rfl rfl) ?_
       refine AO.nK [1, 3, 4] ?_
       exact ⟨(w64 (x24 + (1 : Int))), rfl, rfl, h⟩
      ·refine AW.condN _ rfl hc33 ?_
       refine AW.sK [1, 3, 4] ?_
       exact ⟨x24, rfl, rfl, h⟩
    ·rintro _ _ ⟨x29, rfl, rfl, h⟩
     rw [bosketref09_Classes_c8.eq_1] at h
     refine AW.reg ?_
     refine AO.c (Calm.move rfl rfl) ?_
     refine AO.c (x := eI64 (w64 (x25 + (1 : Int)))) (Calm.int rfl rfl rfl rfl) ?_
     refine AO.c (Calm.assign rfl rfl) ?_
     refine AO.nK [1, 3, 4] ?_
     exact ⟨kq27, Nat.lt_succ_self _, x29, (w64 (x25 + (1 : Int))), rfl, rfl, by rw [hrec26]; exact h⟩
   ·refine AW.condN _ rfl hc28 ?_
    refine AW.eK [1, 3] ?_
    exact ⟨x24, rfl, rfl, h⟩
  ·rintro _ _ ⟨x3, rfl, rfl, h⟩
   rw [bosketref09_Classes_c7.eq_1] at h
   refine AW.seq_mid (fun ρ H => ρ = [] ∧ H = [] ∧ bosketref09_Classes_c0 k = some r) ?_ ?_
   ·refine AW.sr ?_
    refine AO.c (Calm.assign rfl rfl) ?_
    refine AO.nK [1, 3, 5] ?_
    refine AW.block ?_
    refine AW.wK [1, 3, 5] ?_
    refine AW.loop (fun kq ρ H => ∃ (x4 : Int), ρ = [(1, (.ptr n2 0)), (3, (eI64 x3)), (5, (eI64 x4))] ∧ H = [(n2, (.mem (e30 p0)))] ∧ bosketref09_Classes_l6 k p0 x3 kq x4 = some r) k ⟨(0 : Int), rfl, rfl, h⟩ ?_
    rintro kq6 _ _ ⟨x4, rfl, rfl, h⟩
    cases kq6 with
    | zero => rw [bosketref09_Classes_l6.eq_1] at h; cases h
    | succ kq6 =>
    rw [bosketref09_Classes_l6.eq_2] at h
    generalize hrec5 : bosketref09_Classes_l6 k p0 x3 kq6 = rec5 at h
    refine AW.seq ?_
    refine AW.sr ?_
    refine AO.c (Calm.move rfl rfl) ?_
    refine AO.c (Calm.move rfl rfl) ?_
    refine AO.c (x := eBool (decide (x4 < x3))) (Calm.int rfl rfl rfl rfl) ?_
    refine AO.nK [1, 3, 5, 31] ?_
    rcases of_ite h with ⟨hc7, h⟩ | ⟨hc7, h⟩
    ·refine AW.condP _ rfl hc7 ?_
     refine AW.sK [1, 3, 5] ?_
     refine AW.seq_mid (fun ρ H => ρ = [(1, (.ptr n2 0)), (3, (eI64 x3)), (5, (eI64 x4))] ∧ H = [(n2, (.mem (e30 p0)))] ∧ bosketref09_Classes_c1 k rec5 x4 = some r) ?_ ?_
     ·refine AW.block ?_
      refine AW.sr ?_
      refine AO.c (Calm.assign rfl rfl) ?_
      refine AO.nK [1, 3, 5, 6] ?_
      refine AW.block ?_
      refine AW.wK [1, 3, 5, 6] ?_
      refine AW.loop (fun kq ρ H => ∃ (x8 : Int), ρ = [(1, (.ptr n2 0)), (3, (eI64 x3)), (5, (eI64 x4)), (6, (eI64 x8))] ∧ H = [(n2, (.mem (e30 p0)))] ∧ bosketref09_Classes_l5 k rec5 p0 x4 kq x8 = some r) k ⟨(0 : Int), rfl, rfl, h⟩ ?_
      rintro kq10 _ _ ⟨x8, rfl, rfl, h⟩
      cases kq10 with
      | zero => rw [bosketref09_Classes_l5.eq_1] at h; cases h
      | succ kq10 =>
      rw [bosketref09_Classes_l5.eq_2] at h
      generalize hrec9 : bosketref09_Classes_l5 k rec5 p0 x4 kq10 = rec9 at h
      refine AW.seq ?_
      refine AW.sr ?_
      refine AO.c (Calm.move rfl rfl) ?_
      refine AO.c (Calm.move rfl rfl) ?_
      refine AO.c (x := eBool (decide (x8 < x4))) (Calm.int rfl rfl rfl rfl) ?_
      refine AO.nK [1, 3, 5, 6, 36] ?_
      rcases of_ite h with ⟨hc11, h⟩ | ⟨hc11, h⟩
      ·refine AW.condP _ rfl hc11 ?_
       refine AW.sK [1, 3, 5, 6] ?_
       refine AW.seq_mid (fun ρ H => ρ = [(1, (.ptr n2 0)), (3, (eI64 x3)), (5, (eI64 x4)), (6, (eI64 x8))] ∧ H = [(n2, (.mem (e30 p0)))] ∧ bosketref09_Classes_c2 k rec9 x8 = some r) ?_ ?_
       ·refine AW.block ?_
        refine AW.sr ?_
        refine AO.c (Calm.assign rfl rfl) ?_
        refine AO.nK [1, 3, 5, 6, 7] ?_
        refine AW.seq_mid (fun ρ H => ∃ (b12 : Bool), ρ = [(1, (.ptr n2 0)), (3, (eI64 x3)), (5, (eI64 x4)), (6, (eI64 x8)), (7, (eBool b12))] ∧ H = [(n2, (.mem (e30 p0)))] ∧ bosketref09_Classes_c3 k rec9 x8 b12 = some r) ?_ ?_
        ·refine AW.sr ?_
         refine AO.c (Calm.assign rfl rfl) ?_
         refine AO.nK [1, 3, 5, 6, 7, 8] ?_
         refine AW.block ?_
         refine AW.wK [1, 3, 5, 6, 7, 8] ?_
         refine AW.loop (fun kq ρ H => ∃ (b14 : Bool) (x15 : Int), ρ = [(1, (.ptr n2 0)), (3, (eI64 x3)), (5, (eI64 x4)), (6, (eI64 x8)), (7, (eBool b14)), (8, (eI64 x15))] ∧ H = [(n2, (.mem (e30 p0)))] ∧ bosketref09_Classes_l4 k rec9 p0 x4 x8 kq b14 x15 = some r) k ⟨true, (0 : Int), rfl, rfl, h⟩ ?_
         rintro kq17 _ _ ⟨b14, x15, rfl, rfl, h⟩
         cases kq17 with
         | zero => rw [bosketref09_Classes_l4.eq_1] at h; cases h
         | succ kq17 =>
         rw [bosketref09_Classes_l4.eq_2] at h
         generalize hrec16 : bosketref09_Classes_l4 k rec9 p0 x4 x8 kq17 = rec16 at h
         refine AW.seq ?_
         refine AW.sr ?_
         refine AO.c (Calm.move rfl rfl) ?_
         refine AO.c (x := .ptr n2 256) (Calm.fldPtr rfl rfl Try.underlying30 rfl sz28 _ rfl) ?_
         refine AO.c (Calm.load 0 rfl rfl rfl (At.cast (At.fldS (At.fld0 At.here)) rfl) ag28 sz28) ?_
         refine AO.c (Calm.lenL rfl rfl Try.underlying28) ?_
         refine AO.c (x := eBool (decide (x15 < (p0.f1.length : Int)))) (Calm.int rfl rfl rfl rfl) ?_
         refine AO.nK [1, 3, 5, 6, 7, 8, 43] ?_
         rcases of_ite h with ⟨hc18, h⟩ | ⟨hc18, h⟩
         ·refine AW.condP _ rfl hc18 ?_
          refine AW.sK [1, 3, 5, 6, 7, 8] ?_
          refine AW.seq ?_
          refine AW.block ?_
          obtain ⟨b19, hq20, h⟩ := of_bind h
          refine AW.regQM (by rfl) (by decide +kernel) [(1, (.ptr n2 0)), (3, (eI64 x3)), (5, (eI64 x4)), (6, (eI64 x8)), (7, (eBool b19)), (8, (eI64 x15))] ?_ ?_
          ·refine AQ.c (Calm.move rfl rfl) ?_
           refine AQ.c (Calm.move rfl rfl) ?_
           rcases of_ite hq20 with ⟨hc21, hq20⟩ | ⟨hc21, hq20⟩
           ·refine AQ.cG rfl rfl (bD hc21) (Calm.load 0 rfl rfl rfl (At.cast At.here rfl) ag30 sz30) ?_
            refine AQ.cG rfl rfl (bD hc21) (Calm.move rfl rfl) ?_
            refine AQ.cG rfl rfl (bD hc21) (Calm.move rfl rfl) ?_
            obtain ⟨t22, et22, hq20⟩ := of_bind hq20
            refine AQ.cG rfl rfl (bD hc21) (Calm.call (args := [(e30 p0), (eI64 x15), (eI64 x4)]) rfl rfl ok73 ⟨rfl, rfl, rfl, rfl, rfl, rfl, trivial⟩ rfl (bosketref09_to_spec et22)) ?_
            refine AQ.cG rfl rfl (bD hc21) (Calm.load 0 rfl rfl rfl (At.cast At.here rfl) ag30 sz30) ?_
            refine AQ.cG rfl rfl (bD hc21) (Calm.move rfl rfl) ?_
            refine AQ.cG rfl rfl (bD hc21) (Calm.move rfl rfl) ?_
            obtain ⟨t23, et23, hq20⟩ := of_bind hq20
            refine AQ.cG rfl rfl (bD hc21) (Calm.call (args := [(e30 p0), (eI64 x15), (eI64 x8)]) rfl rfl ok73 ⟨rfl, rfl, rfl, rfl, rfl, rfl, trivial⟩ rfl (bosketref09_to_spec et23)) ?_
            refine AQ.cG (x := eBool (decide (t22 = t23))) rfl rfl (bD hc21) (Calm.int rfl rfl rfl rfl) ?_
            refine AQ.c (Calm.pickT rfl (bD hc21) rfl) ?_
            refine AQ.c (Calm.assign rfl rfl) ?_
            cases hq20
            refine AQ.nilE rfl ?_
            exact ⟨rfl, rfl, rfl, rfl, rfl, rfl, trivial⟩
           ·refine AQ.sT rfl rfl (bD (eq_false_of_ne_true hc21)) ?_
            refine AQ.sT rfl rfl (bD (eq_false_of_ne_true hc21)) ?_
            refine AQ.sT rfl rfl (bD (eq_false_of_ne_true hc21)) ?_
            refine AQ.sT rfl rfl (bD (eq_false_of_ne_true hc21)) ?_
            refine AQ.sT rfl rfl (bD (eq_false_of_ne_true hc21)) ?_
            refine AQ.sT rfl rfl (bD (eq_false_of_ne_true hc21)) ?_
            refine AQ.sT rfl rfl (bD (eq_false_of_ne_true hc21)) ?_
            refine AQ.sT rfl rfl (bD (eq_false_of_ne_true hc21)) ?_
            refine AQ.sT rfl rfl (bD (eq_false_of_ne_true hc21)) ?_
            refine AQ.c (Calm.pickF rfl (bD (eq_false_of_ne_true hc21)) rfl) ?_
            refine AQ.c (Calm.assign rfl rfl) ?_
            cases hq20
            refine AQ.nilE rfl ?_
            exact ⟨rfl, rfl, rfl, rfl, rfl, rfl, trivial⟩
          ·refine AW.reg ?_
           refine AO.c (Calm.move rfl rfl) ?_
           refine AO.c (x := eI64 (w64 (x15 + (1 : Int)))) (Calm.int rfl rfl rfl rfl) ?_
           refine AO.c (Calm.assign rfl rfl) ?_
           refine AO.nK [1, 3, 5, 6, 7, 8] ?_
           exact ⟨kq17, Nat.lt_succ_self _, b19, (w64 (x15 + (1 : Int))), rfl, rfl, by rw [hrec16]; exact h⟩
         ·refine AW.condN _ rfl hc18 ?_
          refine AW.eK [1, 3, 5, 6, 7] ?_
          exact ⟨b14, rfl, rfl, h⟩
        ·rintro _ _ ⟨b12, rfl, rfl, h⟩
         rw [bosketref09_Classes_c3.eq_1] at h
         refine AW.sr ?_
         refine AO.c (Calm.move rfl rfl) ?_
         refine AO.nK [1, 3, 5, 6, 58] ?_
         rcases of_ite h with ⟨hc13, h⟩ | ⟨hc13, h⟩
         ·refine AW.condT' _ rfl hc13 ?_
          refine AW.sr ?_
          refine AO.c (Calm.assign rfl rfl) ?_
          refine AO.nH [2] (H' := []) (Sub.nil _) ?_
          refine AW.rK [2] ?_
          have hr := Option.some.inj h
          subst hr
          exact ⟨[(eBool false)], ⟨rfl, rfl, trivial⟩, rfl⟩
         ·refine AW.condF' _ rfl hc13 ?_
          refine AW.sK [1, 3, 5, 6] ?_
          exact ⟨rfl, rfl, h⟩
       ·rintro _ _ ⟨rfl, rfl, h⟩
        rw [bosketref09_Classes_c2.eq_1] at h
        refine AW.reg ?_
        refine AO.c (Calm.move rfl rfl) ?_
        refine AO.c (x := eI64 (w64 (x8 + (1 : Int)))) (Calm.int rfl rfl rfl rfl) ?_
        refine AO.c (Calm.assign rfl rfl) ?_
        refine AO.nK [1, 3, 5, 6] ?_
        exact ⟨kq10, Nat.lt_succ_self _, (w64 (x8 + (1 : Int))), rfl, rfl, by rw [hrec9]; exact h⟩
      ·refine AW.condN _ rfl hc11 ?_
       refine AW.eK [1, 3, 5] ?_
       exact ⟨rfl, rfl, h⟩
     ·rintro _ _ ⟨rfl, rfl, h⟩
      rw [bosketref09_Classes_c1.eq_1] at h
      refine AW.reg ?_
      refine AO.c (Calm.move rfl rfl) ?_
      refine AO.c (x := eI64 (w64 (x4 + (1 : Int)))) (Calm.int rfl rfl rfl rfl) ?_
      refine AO.c (Calm.assign rfl rfl) ?_
      refine AO.nK [1, 3, 5] ?_
      exact ⟨kq6, Nat.lt_succ_self _, (w64 (x4 + (1 : Int))), rfl, rfl, by rw [hrec5]; exact h⟩
    ·refine AW.condN _ rfl hc7 ?_
     refine AW.eH [] (H' := []) (Sub.nil _) ?_
     exact ⟨rfl, rfl, h⟩
   ·rintro _ _ ⟨rfl, rfl, h⟩
    rw [bosketref09_Classes_c0.eq_1] at h
    refine AW.sr ?_
    refine AO.c (Calm.assign rfl rfl) ?_
    refine AO.nK [2] ?_
    refine AW.rK [2] ?_
    have hr := Option.some.inj h
    subst hr
    exact ⟨[(eBool true)], ⟨rfl, rfl, trivial⟩, rfl⟩
end Go.Avl.T5
