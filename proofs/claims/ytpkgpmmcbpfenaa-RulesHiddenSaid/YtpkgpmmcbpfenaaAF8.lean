/- Parts: T7f80, T7f79, T7f106, T7f127, T7f126, T7f105. -/
import Derived.Test.YtpkgpmmcbpfenaaAF1
import Derived.Test.YtpkgpmmcbpfenaaAF7
/- bosket/dfa.Trim; printed by avmain.py. -/
namespace Go.Avl.T7
open Go Go.RowKit Go.Proofs Go.Avl
set_option linter.unusedVariables false
set_option maxRecDepth 100000
set_option maxHeartbeats 4000000
set_option linter.unusedSimpArgs false
attribute [local irreducible] AW AO AQ Spec SpecH Calm

def F80_c0 (k : Nat) (p0 : S55) (t5 : (List Int)) (x8 : (List (List Int))) : Option S55 :=
  some ((S55.mk p0.f0 x8 t5))
def F80_c1 (k : Nat) (rec12 : ((List (List Int)) → Int → Option S55)) (x11 : Int) (x16 : (List (List Int))) : Option S55 :=
  rec12 x16 (w64 (x11 + (1 : Int)))
def F80_c2 (k : Nat) (rec12 : ((List (List Int)) → Int → Option S55)) (x10 : (List (List Int))) (x11 : Int) (x21 : (List Int)) : Option S55 :=
  if (x10 ++ ([x21] : List (List Int))).length * 24 ≤ 140737488355328 then F80_c1 k rec12 x11 (x10 ++ ([x21] : List (List Int)))
  else none
def F80_c3 (k : Nat) (rec27 : ((List Int) → Int → Option S55)) (x26 : Int) (x30 : (List Int)) : Option S55 :=
  rec27 x30 (w64 (x26 + (1 : Int)))
def F80_l4 (k : Nat) (rec12 : ((List (List Int)) → Int → Option S55)) (t4 : (List Bool)) (x10 : (List (List Int))) (x11 : Int) (t18 : (List Int)) : Nat → (List Int) → Int → Option S55
  | 0, _, _ => none
  | j + 1, x25, x26 =>
    if x26 < (t18.length : Int) then if 0 ≤ x26 ∧ x26 < (x25.length : Int) then Option.bind (α := Bool) (if (0 : Int) ≤ (lget x25 x26) then if (lget x25 x26) < (t4.length : Int) then if 0 ≤ (lget x25 x26) ∧ (lget x25 x26) < (t4.length : Int) then some (!(lget t4 (lget x25 x26)))
    else none
    else some (false)
    else some (false)) fun b32 =>
    if b32 = true then if 0 ≤ x26 ∧ x26 < (x25.length : Int) then F80_c3 k (F80_l4 k rec12 t4 x10 x11 t18 j) x26 (lset x25 x26 (-1 : Int))
    else none
    else F80_c3 k (F80_l4 k rec12 t4 x10 x11 t18 j) x26 x25
    else none
    else F80_c2 k rec12 x10 x11 x25
def F80_l5 (k : Nat) (p0 : S55) (t4 : (List Bool)) (t5 : (List Int)) : Nat → (List (List Int)) → Int → Option S55
  | 0, _, _ => none
  | j + 1, x10, x11 =>
    if x11 < (p0.f1.length : Int) then if 0 ≤ x11 ∧ x11 < (p0.f1.length : Int) then (F104b k (lget p0.f1 x11)).bind fun t18 =>
    F80_l4 k (F80_l5 k p0 t4 t5 j) t4 x10 x11 t18 k t18 (0 : Int)
    else none
    else F80_c0 k p0 t5 x10
def F80 (k : Nat) (p0 : S55) : Option S55 :=
  (F103 k p0).bind fun t4 =>
  (F104a k p0.f2).bind fun t5 =>
  F80_l5 k p0 t4 t5 k ([] : List (List Int)) (0 : Int)
theorem F80_spec {k : Nat} {p0 : S55} {r : S55} (h : F80 k p0 = some r) : Spec Try.prog 80 [(e55 p0)] (e55 r) := by
  rw [F80.eq_1] at h
  refine Spec.intro (res := [.cell 2 55]) Try.func80 rfl rfl rfl (Nat.le_of_ble_eq_true rfl) ?_
  refine AW.sr ?_
  refine AO.box rfl 1 rfl (by decide) rfl rfl rfl fun n2 => ?_
  refine AO.alloc rfl 2 rfl (by decide) rfl zr55 lay55 fun n3 => ?_
  refine AO.nH [1, 2] (H' := [(n2, (.mem (e55 p0))), (n3, (.mem (.st [(256, (.ar 1 ((Vector.replicate 256 (0 : Int)).toList.map eU8))), (1, (.fl (.slice none 0 0))), (1, (.fl (.slice none 0 0)))])))]) (Sub.cons 1 rfl (Sub.cons 0 rfl (Sub.nil _))) ?_
  refine AW.sr ?_
  refine AO.c (Calm.load 0 rfl rfl rfl (At.cast At.here rfl) ag55 sz55) ?_
  obtain ⟨t4, et4, h⟩ := of_bind h
  refine AO.callS [(e55 p0)] (.fz 1 (t4.map eBool)) 11 rfl (by decide) ok103 rfl rfl rfl ⟨rfl, rfl, trivial⟩ (F103_spec et4) ?_
  refine AO.ag rfl rfl ?_
  refine AO.nK [1, 2, 3] ?_
  refine AW.seq ?_
  obtain ⟨t5, et5, h⟩ := of_bind h
  refine AW.regEff (by rfl) (by decide +kernel) (fun (σ : Nat → Nat) => ([(.ptr n2 0), (.ar 1 (p0.f0.toList.map eU8)), (.ptr n2 257), (.fz 1 (p0.f2.map eI64)), (.fz 1 (t5.map eI64)), (.st [(256, (.ar 1 (p0.f0.toList.map eU8))), (1, (.fl (.slice none 0 0))), (1, (.fz 1 (t5.map eI64)))]), (.ptr (σ 6) 0), (.fl undef)] : List AV)) (fun (L : Nat → Bool) (σ : Nat → Nat) => ((n2, (.mem (e55 p0))) :: (n3, (.mem (.st [(256, (.ar 1 ((Vector.replicate 256 (0 : Int)).toList.map eU8))), (1, (.fl (.slice none 0 0))), (1, (.fl (.slice none 0 0)))]))) :: (bif L 6 then (bif L 7 then (((σ 6), (.mem (.st [(256, (.ar 1 (p0.f0.toList.map eU8))), (1, (.fl (.slice none 0 0))), (1, (.fz 1 (t5.map eI64)))]))) :: []) else (((σ 6), (.mem (.st [(256, (.ar 1 ((Vector.replicate 256 (0 : Int)).toList.map eU8))), (1, (.fl (.slice none 0 0))), (1, (.fl (.slice none 0 0)))]))) :: [])) else ([])) : Heap)) [(1, (.ptr n2 0)), (2, (.ptr n3 0)), (3, (.fz 1 (t4.map eBool)))] ⟨rfl, rfl, rfl, trivial⟩ (fun _ => rfl) (fun σ => (Sub.refl _)) ⟨?_, ?_, ?_, ?_, ?_, ?_, ?_, ?_, trivial⟩ (fun σ => [(1, (.ptr n2 0)), (2, (.ptr n3 0)), (3, (.fz 1 (t4.map eBool))), (4, (.ptr (σ 6) 0))]) (fun σ => ((n2, (.mem (e55 p0))) :: (n3, (.mem (.st [(256, (.ar 1 ((Vector.replicate 256 (0 : Int)).toList.map eU8))), (1, (.fl (.slice none 0 0))), (1, (.fl (.slice none 0 0)))]))) :: ((σ 6), (.mem (.st [(256, (.ar 1 (p0.f0.toList.map eU8))), (1, (.fl (.slice none 0 0))), (1, (.fz 1 (t5.map eI64)))]))) :: [])) (fun σ => ⟨rfl, rfl, rfl, rfl, trivial⟩) (fun σ => Sub.refl _) (fun σ => ?_)
  ·refine StepE.calm (fun _ _ => rfl) fun L σ hc hi hd => ?_
   refine AO.wK [1] ?_
   refine AO.c (x := .ptr n2 0) (Calm.fldPtr rfl rfl Try.underlying55 rfl sz52 _ rfl) ?_
   exact AO.nE (d := 12) rfl ⟨⟨12, _, rfl, rfl, rfl⟩, Sub.refl _⟩
  ·refine StepE.calm (fun _ _ => rfl) fun L σ hc hi hd => ?_
   refine AO.wK [12] ?_
   refine AO.c (Calm.load 0 rfl rfl rfl (At.cast (At.fld0 At.here) rfl) ag52 (by rw [sz52]; simp [AV.size])) ?_
   exact AO.nE (d := 13) rfl ⟨⟨13, _, rfl, rfl, rfl⟩, Sub.refl _⟩
  ·refine StepE.calm (fun _ _ => rfl) fun L σ hc hi hd => ?_
   refine AO.wK [1] ?_
   refine AO.c (x := .ptr n2 257) (Calm.fldPtr rfl rfl Try.underlying55 rfl sz35 _ rfl) ?_
   exact AO.nE (d := 14) rfl ⟨⟨14, _, rfl, rfl, rfl⟩, Sub.refl _⟩
  ·refine StepE.calm (fun _ _ => rfl) fun L σ hc hi hd => ?_
   refine AO.wK [14] ?_
   refine AO.c (Calm.load 0 rfl rfl rfl (At.cast (At.fldS (At.fldS (At.fld0 At.here))) rfl) ag35 sz35) ?_
   exact AO.nE (d := 15) rfl ⟨⟨15, _, rfl, rfl, rfl⟩, Sub.refl _⟩
  ·refine StepE.calm (fun _ _ => rfl) fun L σ hc hi hd => ?_
   refine AO.wK [15] ?_
   refine AO.callS [(.fz 1 (p0.f2.map eI64))] (.fz 1 (t5.map eI64)) 16 rfl (by decide) ok104 rfl rfl rfl ⟨rfl, rfl, trivial⟩ (F104a_spec et5) ?_
   exact AO.nE (d := 16) rfl ⟨⟨16, _, rfl, rfl, rfl⟩, Sub.refl _⟩
  ·refine StepE.calm (fun _ _ => rfl) fun L σ hc hi hd => ?_
   refine AO.wK [13, 16] ?_
   refine AO.c (x := .st [(256, (.ar 1 (p0.f0.toList.map eU8))), (1, (.fl (.slice none 0 0))), (1, (.fz 1 (t5.map eI64)))]) (Calm.build (qs := [(0, (.ar 1 (p0.f0.toList.map eU8))), (2, (.fz 1 (t5.map eI64)))]) rfl ⟨rfl, rfl, rfl, rfl, rfl, rfl, trivial⟩ Try.underlying55 rfl zr55 lay55 (.cons rfl rfl (vec_size _ _) (vec_size _ _) (Put.cast (Put.fld0 Put.here) rfl) (.cons rfl rfl rfl rfl (Put.cast (Put.fldS (Put.fldS (Put.fld0 Put.here))) rfl) .nil)) rfl) ?_
   exact AO.nE (d := 17) rfl ⟨⟨17, _, rfl, rfl, rfl⟩, Sub.refl _⟩
  ·intro L σ hc hi hd
   have m7 : L 7 = false := hc.neg (i := 6) (j := 7) rfl (by rfl) hi
   refine AO.heq (H' := ((n2, (.mem (e55 p0))) :: (n3, (.mem (.st [(256, (.ar 1 ((Vector.replicate 256 (0 : Int)).toList.map eU8))), (1, (.fl (.slice none 0 0))), (1, (.fl (.slice none 0 0)))]))) :: [])) (by first | rfl | simp only [hi, m7, cond_true, cond_false]) ?_
   refine AO.wK [] ?_
   refine AO.alloc rfl 4 rfl (by decide) rfl zr55 lay55 fun n6 => ?_
   have a6 : addL L 6 6 = true := rfl
   have a7 : addL L 6 7 = false := m7
   have u6 : upd σ 6 n6 6 = n6 := rfl
   exact AO.nE (d := 4) rfl ⟨(upd σ 6 n6), (fun j hj => match j, hj with | 0, _ => rfl | 1, _ => rfl | 2, _ => rfl | 3, _ => rfl | 4, _ => rfl | 5, _ => rfl | 6, hj => Bool.noConfusion (hj.symm.trans hi) | 7, _ => rfl | _ + 8, _ => rfl), (fun d' hd' => ⟨_, rfl, by cases hd'; rfl⟩), Sub.of_eq (B := ((n2, (.mem (e55 p0))) :: (n3, (.mem (.st [(256, (.ar 1 ((Vector.replicate 256 (0 : Int)).toList.map eU8))), (1, (.fl (.slice none 0 0))), (1, (.fl (.slice none 0 0)))]))) :: (n6, (.mem (.st [(256, (.ar 1 ((Vector.replicate 256 (0 : Int)).toList.map eU8))), (1, (.fl (.slice none 0 0))), (1, (.fl (.slice none 0 0)))]))) :: [])) (by simp only [a6, a7, u6, cond_true, cond_false]) (Sub.cons 1 rfl (Sub.cons 1 rfl (Sub.cons 0 rfl (Sub.refl _))))⟩
  ·intro L σ hc hi hd
   have y6 : L 6 = true := on_get hd (i := 6) (by rfl)
   refine AO.heq (H' := ((n2, (.mem (e55 p0))) :: (n3, (.mem (.st [(256, (.ar 1 ((Vector.replicate 256 (0 : Int)).toList.map eU8))), (1, (.fl (.slice none 0 0))), (1, (.fl (.slice none 0 0)))]))) :: ((σ 6), (.mem (.st [(256, (.ar 1 ((Vector.replicate 256 (0 : Int)).toList.map eU8))), (1, (.fl (.slice none 0 0))), (1, (.fl (.slice none 0 0)))]))) :: [])) (by first | rfl | simp only [hi, y6, cond_true, cond_false]) ?_
   refine AO.wK [4, 17] ?_
   refine AO.store (X' := (.st [(256, (.ar 1 (p0.f0.toList.map eU8))), (1, (.fl (.slice none 0 0))), (1, (.fz 1 (t5.map eI64)))])) 2 rfl rfl rfl rfl rfl rfl (Put.cast Put.here rfl) rfl rfl sz55 rfl ?_
   have a6 : addL L 7 6 = true := y6
   have a7 : addL L 7 7 = true := rfl
   exact AO.n0 ⟨σ, (fun _ _ => rfl), (fun d' hd' => by cases hd'), Sub.of_eq (B := ((n2, (.mem (e55 p0))) :: (n3, (.mem (.st [(256, (.ar 1 ((Vector.replicate 256 (0 : Int)).toList.map eU8))), (1, (.fl (.slice none 0 0))), (1, (.fl (.slice none 0 0)))]))) :: ((σ 6), (.mem (.st [(256, (.ar 1 (p0.f0.toList.map eU8))), (1, (.fl (.slice none 0 0))), (1, (.fz 1 (t5.map eI64)))]))) :: [])) (by simp only [a6, a7, cond_true, cond_false]) (Sub.refl _)⟩
  ·generalize σ 6 = n6
   refine AO.nK [1, 2, 3, 4] ?_
   refine AW.seq_mid (fun ρ H => ∃ (n7 : Nat) (x8 : (List (List Int))), ρ = [(2, (.ptr n3 0)), (4, (.ptr n6 0))] ∧ H = [(n3, (.mem (.st [(256, (.ar 1 ((Vector.replicate 256 (0 : Int)).toList.map eU8))), (1, (.fl (.slice none 0 0))), (1, (.fl (.slice none 0 0)))]))), (n6, (.mem (.st [(256, (.ar 1 (p0.f0.toList.map eU8))), (1, (.own n7 0 x8.length)), (1, (.fz 1 (t5.map eI64)))]))), (n7, (.mem (.ar 1 (x8.map e35))))] ∧ F80_c0 k p0 t5 x8 = some r) ?_ ?_
   ·refine AW.sr ?_
    refine AO.c (x := .ptr n2 256) (Calm.fldPtr rfl rfl Try.underlying55 rfl sz53 _ rfl) ?_
    refine AO.c (Calm.load 0 rfl rfl rfl (At.cast (At.fldS (At.fld0 At.here)) rfl) ag53 sz53) ?_
    refine AO.c (Calm.lenL rfl rfl Try.underlying53) ?_
    refine AO.mv rfl rfl ?_
    refine AO.nH [2, 3, 4, 19, 20, 21] (H' := [(n3, (.mem (.st [(256, (.ar 1 ((Vector.replicate 256 (0 : Int)).toList.map eU8))), (1, (.fl (.slice none 0 0))), (1, (.fl (.slice none 0 0)))]))), (n6, (.mem (.st [(256, (.ar 1 (p0.f0.toList.map eU8))), (1, (.fl (.slice none 0 0))), (1, (.fz 1 (t5.map eI64)))])))]) (Sub.cons 1 rfl (Sub.cons 1 rfl (Sub.nil _))) ?_
    refine AW.block ?_
    refine AW.nilOwnFld 1 1 (fun n39 => (.st [(256, (.ar 1 (p0.f0.toList.map eU8))), (1, (.own n39 0 0)), (1, (.fz 1 (t5.map eI64)))])) rfl (fun _ => (Put.cast (Put.fldS (Put.fld0 Put.here)) rfl)) (fun _ => rfl) (fun _ => rfl) fun n39 => ?_
    refine AW.wH [2, 3, 4, 19, 20, 21] (H' := [(n3, (.mem (.st [(256, (.ar 1 ((Vector.replicate 256 (0 : Int)).toList.map eU8))), (1, (.fl (.slice none 0 0))), (1, (.fl (.slice none 0 0)))]))), (n6, (.mem (.st [(256, (.ar 1 (p0.f0.toList.map eU8))), (1, (.own n39 0 ([] : List (List Int)).length)), (1, (.fz 1 (t5.map eI64)))]))), (n39, (.mem (.ar 1 (([] : List (List Int)).map e35))))]) (Sub.cons 1 rfl (Sub.cons 1 rfl (Sub.cons 0 rfl (Sub.nil _)))) ?_
    refine AW.loop (fun kq ρ H => ∃ (n9 : Nat) (x10 : (List (List Int))) (x11 : Int), ρ = [(2, (.ptr n3 0)), (3, (.fz 1 (t4.map eBool))), (4, (.ptr n6 0)), (19, (.fz 1 (p0.f1.map e35))), (20, (eI64 (p0.f1.length : Int))), (21, (eI64 x11))] ∧ H = [(n3, (.mem (.st [(256, (.ar 1 ((Vector.replicate 256 (0 : Int)).toList.map eU8))), (1, (.fl (.slice none 0 0))), (1, (.fl (.slice none 0 0)))]))), (n6, (.mem (.st [(256, (.ar 1 (p0.f0.toList.map eU8))), (1, (.own n9 0 x10.length)), (1, (.fz 1 (t5.map eI64)))]))), (n9, (.mem (.ar 1 (x10.map e35))))] ∧ F80_l5 k p0 t4 t5 kq x10 x11 = some r) k ⟨n39, ([] : List (List Int)), (0 : Int), rfl, rfl, h⟩ ?_
    rintro kq13 _ _ ⟨n9, x10, x11, rfl, rfl, h⟩
    cases kq13 with
    | zero => rw [F80_l5.eq_1] at h; cases h
    | succ kq13 =>
    rw [F80_l5.eq_2] at h
    generalize hrec12 : F80_l5 k p0 t4 t5 kq13 = rec12 at h
    refine AW.sr ?_
    refine AO.c (x := eBool (decide (x11 < (p0.f1.length : Int)))) (Calm.int rfl rfl rfl rfl) ?_
    refine AO.nK [2, 3, 4, 19, 20, 21, 22] ?_
    refine AW.seq ?_
    rcases of_ite h with ⟨hc14, h⟩ | ⟨hc14, h⟩
    ·refine AW.condP _ rfl hc14 ?_
     refine AW.sK [2, 3, 4, 19, 20, 21] ?_
     refine AW.seq_mid (fun ρ H => ∃ (n15 : Nat) (x16 : (List (List Int))), ρ = [(2, (.ptr n3 0)), (3, (.fz 1 (t4.map eBool))), (4, (.ptr n6 0)), (19, (.fz 1 (p0.f1.map e35))), (20, (eI64 (p0.f1.length : Int))), (21, (eI64 x11))] ∧ H = [(n3, (.mem (.st [(256, (.ar 1 ((Vector.replicate 256 (0 : Int)).toList.map eU8))), (1, (.fl (.slice none 0 0))), (1, (.fl (.slice none 0 0)))]))), (n6, (.mem (.st [(256, (.ar 1 (p0.f0.toList.map eU8))), (1, (.own n15 0 x16.length)), (1, (.fz 1 (t5.map eI64)))]))), (n15, (.mem (.ar 1 (x16.map e35))))] ∧ F80_c1 k rec12 x11 x16 = some r) ?_ ?_
     ·refine AW.block ?_
      refine AW.sr ?_
      obtain ⟨hg17, h⟩ := of_guard h
      refine AO.c (Calm.idxL (f := e35) rfl rfl rfl hg17 Try.underlying53 sz35) ?_
      refine AO.c (Calm.loadRp rfl rfl ag35 sz35) ?_
      refine AO.ag rfl rfl ?_
      refine AO.nK [2, 3, 4, 6, 19, 20, 21] ?_
      refine AW.sr ?_
      refine AO.mv rfl rfl ?_
      obtain ⟨t18, et18, h⟩ := of_bind h
      refine AO.callH [(.fz 1 ((lget p0.f1 x11).map eI64))] [(n3, (.mem (.st [(256, (.ar 1 ((Vector.replicate 256 (0 : Int)).toList.map eU8))), (1, (.fl (.slice none 0 0))), (1, (.fl (.slice none 0 0)))]))), (n6, (.mem (.st [(256, (.ar 1 (p0.f0.toList.map eU8))), (1, (.own n9 0 x10.length)), (1, (.fz 1 (t5.map eI64)))]))), (n9, (.mem (.ar 1 (x10.map e35))))] _ rfl rfl rfl 26 rfl (by decide) ok104 ⟨rfl, rfl, trivial⟩ (Sub.refl _) (F104b_spec et18) ?_
      rintro _ _ ⟨n20, rfl, hs19⟩
      refine AO.wH [2, 3, 4, 6, 19, 20, 21, 25, 26] hs19 ?_
      refine AO.ag rfl rfl ?_
      refine AO.nH [2, 3, 4, 7, 19, 20, 21] (H' := [(n3, (.mem (.st [(256, (.ar 1 ((Vector.replicate 256 (0 : Int)).toList.map eU8))), (1, (.fl (.slice none 0 0))), (1, (.fl (.slice none 0 0)))]))), (n6, (.mem (.st [(256, (.ar 1 (p0.f0.toList.map eU8))), (1, (.own n9 0 x10.length)), (1, (.fz 1 (t5.map eI64)))]))), (n9, (.mem (.ar 1 (x10.map e35)))), (n20, (.mem (.ar 1 (t18.map eI64))))]) (Sub.cons 1 rfl (Sub.cons 1 rfl (Sub.cons 1 rfl (Sub.cons 0 rfl (Sub.nil _))))) ?_
      refine AW.seq_mid (fun ρ H => ∃ (x21 : (List Int)), ρ = [(2, (.ptr n3 0)), (3, (.fz 1 (t4.map eBool))), (4, (.ptr n6 0)), (7, (.own n20 0 x21.length)), (19, (.fz 1 (p0.f1.map e35))), (20, (eI64 (p0.f1.length : Int))), (21, (eI64 x11))] ∧ H = [(n3, (.mem (.st [(256, (.ar 1 ((Vector.replicate 256 (0 : Int)).toList.map eU8))), (1, (.fl (.slice none 0 0))), (1, (.fl (.slice none 0 0)))]))), (n6, (.mem (.st [(256, (.ar 1 (p0.f0.toList.map eU8))), (1, (.own n9 0 x10.length)), (1, (.fz 1 (t5.map eI64)))]))), (n9, (.mem (.ar 1 (x10.map e35)))), (n20, (.mem (.ar 1 (x21.map eI64))))] ∧ F80_c2 k rec12 x10 x11 x21 = some r) ?_ ?_
      ·refine AW.sr ?_
       refine AO.mv rfl rfl ?_
       refine AO.c (Calm.lenOwn rfl rfl Try.underlying35) ?_
       refine AO.mv rfl rfl ?_
       refine AO.nK [2, 3, 4, 7, 19, 20, 21, 27, 28, 29] ?_
       refine AW.block ?_
       refine AW.wK [2, 3, 4, 7, 19, 20, 21, 27, 28, 29] ?_
       refine AW.loop (fun kq ρ H => ∃ (x25 : (List Int)) (x26 : Int), ρ = [(2, (.ptr n3 0)), (3, (.fz 1 (t4.map eBool))), (4, (.ptr n6 0)), (7, (.own n20 0 x25.length)), (19, (.fz 1 (p0.f1.map e35))), (20, (eI64 (p0.f1.length : Int))), (21, (eI64 x11)), (27, (.own n20 0 x25.length)), (28, (eI64 (t18.length : Int))), (29, (eI64 x26))] ∧ H = [(n3, (.mem (.st [(256, (.ar 1 ((Vector.replicate 256 (0 : Int)).toList.map eU8))), (1, (.fl (.slice none 0 0))), (1, (.fl (.slice none 0 0)))]))), (n6, (.mem (.st [(256, (.ar 1 (p0.f0.toList.map eU8))), (1, (.own n9 0 x10.length)), (1, (.fz 1 (t5.map eI64)))]))), (n9, (.mem (.ar 1 (x10.map e35)))), (n20, (.mem (.ar 1 (x25.map eI64))))] ∧ F80_l4 k rec12 t4 x10 x11 t18 kq x25 x26 = some r) k ⟨t18, (0 : Int), rfl, rfl, h⟩ ?_
       rintro kq28 _ _ ⟨x25, x26, rfl, rfl, h⟩
       cases kq28 with
       | zero => rw [F80_l4.eq_1] at h; cases h
       | succ kq28 =>
       rw [F80_l4.eq_2] at h
       generalize hrec27 : F80_l4 k rec12 t4 x10 x11 t18 kq28 = rec27 at h
       refine AW.sr ?_
       refine AO.c (x := eBool (decide (x26 < (t18.length : Int)))) (Calm.int rfl rfl rfl rfl) ?_
       refine AO.nK [2, 3, 4, 7, 19, 20, 21, 27, 28, 29, 30] ?_
       refine AW.seq ?_
       rcases of_ite h with ⟨hc29, h⟩ | ⟨hc29, h⟩
       ·refine AW.condP _ rfl hc29 ?_
        refine AW.sK [2, 3, 4, 7, 19, 20, 21, 27, 28, 29] ?_
        refine AW.seq_mid (fun ρ H => ∃ (x30 : (List Int)), ρ = [(2, (.ptr n3 0)), (3, (.fz 1 (t4.map eBool))), (4, (.ptr n6 0)), (7, (.own n20 0 x30.length)), (19, (.fz 1 (p0.f1.map e35))), (20, (eI64 (p0.f1.length : Int))), (21, (eI64 x11)), (27, (.own n20 0 x30.length)), (28, (eI64 (t18.length : Int))), (29, (eI64 x26))] ∧ H = [(n3, (.mem (.st [(256, (.ar 1 ((Vector.replicate 256 (0 : Int)).toList.map eU8))), (1, (.fl (.slice none 0 0))), (1, (.fl (.slice none 0 0)))]))), (n6, (.mem (.st [(256, (.ar 1 (p0.f0.toList.map eU8))), (1, (.own n9 0 x10.length)), (1, (.fz 1 (t5.map eI64)))]))), (n9, (.mem (.ar 1 (x10.map e35)))), (n20, (.mem (.ar 1 (x30.map eI64))))] ∧ F80_c3 k rec27 x26 x30 = some r) ?_ ?_
        ·refine AW.block ?_
         refine AW.sr ?_
         refine AO.mv rfl rfl ?_
         obtain ⟨hg31, h⟩ := of_guard h
         refine AO.c (Calm.idxO 3 rfl rfl rfl rfl hg31 Try.underlying35 sz3) ?_
         refine AO.c (Calm.load 3 rfl rfl rfl (At.cast (At.lidx x26 hg31.1 hg31.2 At.here) (by omega)) ag3 sz3) ?_
         refine AO.ag rfl rfl ?_
         refine AO.ag rfl rfl ?_
         refine AO.nK [2, 3, 4, 7, 8, 9, 19, 20, 21, 27, 28, 29] ?_
         refine AW.seq ?_
         obtain ⟨b32, hq33, h⟩ := of_bind h
         refine AW.regM [(2, (.ptr n3 0)), (3, (.fz 1 (t4.map eBool))), (4, (.ptr n6 0)), (7, (.own n20 0 x25.length)), (8, (eI64 x26)), (19, (.fz 1 (p0.f1.map e35))), (20, (eI64 (p0.f1.length : Int))), (21, (eI64 x11)), (27, (.own n20 0 x25.length)), (28, (eI64 (t18.length : Int))), (29, (eI64 x26)), (48, (eBool b32))] [(n3, (.mem (.st [(256, (.ar 1 ((Vector.replicate 256 (0 : Int)).toList.map eU8))), (1, (.fl (.slice none 0 0))), (1, (.fl (.slice none 0 0)))]))), (n6, (.mem (.st [(256, (.ar 1 (p0.f0.toList.map eU8))), (1, (.own n9 0 x10.length)), (1, (.fz 1 (t5.map eI64)))]))), (n9, (.mem (.ar 1 (x10.map e35)))), (n20, (.mem (.ar 1 (x25.map eI64))))] ?_ ?_
         ·refine AO.mv rfl rfl ?_
          refine AO.c (x := eBool (decide ((0 : Int) ≤ (lget x25 x26)))) (Calm.int rfl rfl rfl rfl) ?_
          refine AO.mv rfl rfl ?_
          rcases of_ite hq33 with ⟨hc34, hq33⟩ | ⟨hc34, hq33⟩
          ·refine AO.cG rfl rfl (bD (decide_eq_true hc34)) (Calm.move rfl rfl) ?_
           refine AO.cG rfl rfl (bD (decide_eq_true hc34)) (Calm.move rfl rfl) ?_
           refine AO.cG rfl rfl (bD (decide_eq_true hc34)) (Calm.lenL rfl rfl Try.underlying98) ?_
           refine AO.cG (x := eBool (decide ((lget x25 x26) < (t4.length : Int)))) rfl rfl (bD (decide_eq_true hc34)) (Calm.int rfl rfl rfl rfl) ?_
           refine AO.c (Calm.pickT rfl (bD (decide_eq_true hc34)) rfl) ?_
           refine AO.mv rfl rfl ?_
           rcases of_ite hq33 with ⟨hc35, hq33⟩ | ⟨hc35, hq33⟩
           ·refine AO.cG rfl rfl (bD (decide_eq_true hc35)) (Calm.move rfl rfl) ?_
            refine AO.cG rfl rfl (bD (decide_eq_true hc35)) (Calm.move rfl rfl) ?_
            obtain ⟨hg36, hq33⟩ := of_guard hq33
            refine AO.cG rfl rfl (bD (decide_eq_true hc35)) (Calm.idxL (f := eBool) rfl rfl rfl hg36 Try.underlying98 sz4) ?_
            refine AO.cG rfl rfl (bD (decide_eq_true hc35)) (Calm.loadRp rfl rfl ag4 sz4) ?_
            refine AO.cG rfl rfl (bD (decide_eq_true hc35)) (Calm.not rfl rfl) ?_
            refine AO.c (Calm.pickT rfl (bD (decide_eq_true hc35)) rfl) ?_
            cases hq33
            refine AO.nilE ⟨rfl, rfl⟩ ?_ ?_
            · exact ⟨rfl, rfl, rfl, rfl, rfl, rfl, rfl, rfl, rfl, rfl, rfl, rfl, trivial⟩
            · exact (Sub.refl _)
           ·refine AO.sT rfl rfl (bD (decide_eq_false hc35)) ?_
            refine AO.sT rfl rfl (bD (decide_eq_false hc35)) ?_
            refine AO.sT rfl rfl (bD (decide_eq_false hc35)) ?_
            refine AO.sT rfl rfl (bD (decide_eq_false hc35)) ?_
            refine AO.sT rfl rfl (bD (decide_eq_false hc35)) ?_
            refine AO.c (Calm.pickF rfl (bD (decide_eq_false hc35)) rfl) ?_
            cases hq33
            refine AO.nilE ⟨rfl, rfl⟩ ?_ ?_
            · exact ⟨rfl, rfl, rfl, rfl, rfl, rfl, rfl, rfl, rfl, rfl, rfl, rfl, trivial⟩
            · exact (Sub.refl _)
          ·refine AO.sT rfl rfl (bD (decide_eq_false hc34)) ?_
           refine AO.sT rfl rfl (bD (decide_eq_false hc34)) ?_
           refine AO.sT rfl rfl (bD (decide_eq_false hc34)) ?_
           refine AO.sT rfl rfl (bD (decide_eq_false hc34)) ?_
           refine AO.c (Calm.pickF rfl (bD (decide_eq_false hc34)) rfl) ?_
           refine AO.mv rfl rfl ?_
           refine AO.sT rfl rfl rfl ?_
           refine AO.sT rfl rfl rfl ?_
           refine AO.sT rfl rfl rfl ?_
           refine AO.sT rfl rfl rfl ?_
           refine AO.sT rfl rfl rfl ?_
           refine AO.c (Calm.pickF rfl rfl rfl) ?_
           cases hq33
           refine AO.nilE ⟨rfl, rfl⟩ ?_ ?_
           · exact ⟨rfl, rfl, rfl, rfl, rfl, rfl, rfl, rfl, rfl, rfl, rfl, rfl, trivial⟩
           · exact (Sub.refl _)
         ·rcases of_ite h with ⟨hc37, h⟩ | ⟨hc37, h⟩
          ·refine AW.condT' _ rfl hc37 ?_
           refine AW.reg ?_
           refine AO.mv rfl rfl ?_
           refine AO.mv rfl rfl ?_
           obtain ⟨hg38, h⟩ := of_guard h
           refine AO.c (Calm.idxO 3 rfl rfl rfl rfl hg38 Try.underlying35 sz3) ?_
           refine AO.store (X' := (.ar 1 ((lset x25 x26 (-1 : Int)).map eI64))) 3 rfl rfl rfl rfl rfl rfl (Put.cast (Put.lidx x26 (-1 : Int) hg38.1 hg38.2 Put.here) (by omega)) rfl rfl sz3 rfl ?_
           refine AO.coe 7 (y' := (.own n20 0 (lset x25 x26 (-1 : Int)).length)) rfl (fun _ _ h => lset_own h) ?_
           refine AO.coe 27 (y' := (.own n20 0 (lset x25 x26 (-1 : Int)).length)) rfl (fun _ _ h => lset_own h) ?_
           refine AO.coe 49 (y' := (.own n20 0 (lset x25 x26 (-1 : Int)).length)) rfl (fun _ _ h => lset_own h) ?_
           refine AO.nK [2, 3, 4, 7, 19, 20, 21, 27, 28, 29] ?_
           exact ⟨(lset x25 x26 (-1 : Int)), rfl, rfl, h⟩
          ·refine AW.condF' _ rfl hc37 ?_
           refine AW.sK [2, 3, 4, 7, 19, 20, 21, 27, 28, 29] ?_
           exact ⟨x25, rfl, rfl, h⟩
        ·rintro _ _ ⟨x30, rfl, rfl, h⟩
         rw [F80_c3.eq_1] at h
         refine AW.reg ?_
         refine AO.c (x := eI64 (w64 (x26 + (1 : Int)))) (Calm.int rfl rfl rfl rfl) ?_
         refine AO.mv rfl rfl ?_
         refine AO.nK [2, 3, 4, 7, 19, 20, 21, 27, 28, 29] ?_
         exact ⟨kq28, Nat.lt_succ_self _, x30, (w64 (x26 + (1 : Int))), rfl, rfl, by rw [hrec27]; exact h⟩
       ·refine AW.condN _ rfl hc29 ?_
        refine AW.eK [2, 3, 4, 7, 19, 20, 21] ?_
        exact ⟨x25, rfl, rfl, h⟩
      ·rintro _ _ ⟨x21, rfl, rfl, h⟩
       rw [F80_c2.eq_1] at h
       refine AW.reg ?_
       refine AO.c (x := .ptr n6 256) (Calm.fldPtr rfl rfl Try.underlying55 rfl sz53 _ rfl) ?_
       refine AO.c (Calm.load 1 rfl rfl rfl (At.cast (At.fldS (At.fld0 At.here)) rfl) ag53 sz53) ?_
       refine AO.mv rfl rfl ?_
       refine AO.freezeS 3 [(7, (.fz 1 (x21.map eI64))), (55, (.fz 1 (x21.map eI64)))] rfl ⟨fz_all rfl, fz_all rfl, trivial⟩ ?_
       refine AO.lit (Z := (.fl (.slice none 0 0))) (xs := (([x21] : List (List Int)).map e35)) (qs := [(0, (.fz 1 (x21.map eI64)))]) rfl 56 rfl (by decide) rfl ⟨rfl, rfl, rfl, trivial⟩ Try.underlying53 sz35 zr35 lay35 rfl (by decide) (litOK (z := 1) [(.fz 1 (x21.map eI64))] rfl ⟨⟨rfl, rfl⟩, trivial⟩) rfl fun n22 => ?_
       obtain ⟨hg24, h⟩ := of_guard h
       refine AO.appendL (l := x10) (m := ([x21] : List (List Int))) 3 57 rfl (by decide) rfl rfl rfl rfl rfl (Src.ownL (f := e35) (l := ([x21] : List (List Int))) 0 rfl) Try.underlying53 Try.underlying53 sz35 by35 zr35 rfl hg24 (by decide) fun n23 => ?_
       refine AO.c (x := .ptr n6 256) (Calm.fldPtr rfl rfl Try.underlying55 rfl sz53 _ rfl) ?_
       refine AO.store (X' := (.st [(256, (.ar 1 (p0.f0.toList.map eU8))), (1, (.own n23 0 (x10 ++ ([x21] : List (List Int))).length)), (1, (.fz 1 (t5.map eI64)))])) 2 rfl rfl rfl rfl rfl rfl (Put.cast (Put.fldS (Put.fld0 Put.here)) rfl) rfl rfl sz53 rfl ?_
       refine AO.nH [2, 3, 4, 19, 20, 21] (H' := [(n3, (.mem (.st [(256, (.ar 1 ((Vector.replicate 256 (0 : Int)).toList.map eU8))), (1, (.fl (.slice none 0 0))), (1, (.fl (.slice none 0 0)))]))), (n6, (.mem (.st [(256, (.ar 1 (p0.f0.toList.map eU8))), (1, (.own n23 0 (x10 ++ ([x21] : List (List Int))).length)), (1, (.fz 1 (t5.map eI64)))]))), (n23, (.mem (.ar 1 ((x10 ++ ([x21] : List (List Int))).map e35))))]) (Sub.cons 1 rfl (Sub.cons 1 rfl (Sub.cons 1 rfl (Sub.nil _)))) ?_
       exact ⟨n23, (x10 ++ ([x21] : List (List Int))), rfl, rfl, h⟩
     ·rintro _ _ ⟨n15, x16, rfl, rfl, h⟩
      rw [F80_c1.eq_1] at h
      refine AW.reg ?_
      refine AO.c (x := eI64 (w64 (x11 + (1 : Int)))) (Calm.int rfl rfl rfl rfl) ?_
      refine AO.mv rfl rfl ?_
      refine AO.nK [2, 3, 4, 19, 20, 21] ?_
      exact ⟨kq13, Nat.lt_succ_self _, n15, x16, (w64 (x11 + (1 : Int))), rfl, rfl, by rw [hrec12]; exact h⟩
    ·refine AW.condN _ rfl hc14 ?_
     refine AW.eK [2, 4] ?_
     exact ⟨n9, x10, rfl, rfl, h⟩
   ·rintro _ _ ⟨n7, x8, rfl, rfl, h⟩
    rw [F80_c0.eq_1] at h
    refine AW.sr ?_
    refine AO.freezeFld (X' := (.st [(256, (.ar 1 (p0.f0.toList.map eU8))), (1, (.fz 1 (x8.map e35))), (1, (.fz 1 (t5.map eI64)))])) (els' := (x8.map e35)) 2 1 rfl rfl (Put.cast (Put.fldS (Put.fld0 Put.here)) rfl) (by simp) (by rw [own_all]) rfl rfl (by decide) ?_
    refine AO.c (x := e55 (S55.mk p0.f0 x8 t5)) (Calm.load 1 rfl rfl rfl (At.cast At.here rfl) ag55 sz55) ?_
    refine AO.store (X' := (e55 (S55.mk p0.f0 x8 t5))) 0 rfl rfl rfl rfl rfl rfl (Put.cast Put.here rfl) rfl rfl sz55 rfl ?_
    refine AO.nH [2] (H' := [(n3, (.mem (e55 (S55.mk p0.f0 x8 t5))))]) (Sub.cons 0 rfl (Sub.nil _)) ?_
    refine AW.rK [2] ?_
    have hr := Option.some.inj h
    subst hr
    exact ⟨[(e55 (S55.mk p0.f0 x8 t5))], ⟨⟨_, 0, rfl, rfl, ag55, sz55⟩, trivial⟩, rfl⟩
end Go.Avl.T7
/- bosket/dfa.Order; printed by avmain.py. -/
namespace Go.Avl.T7
open Go Go.RowKit Go.Proofs Go.Avl
set_option linter.unusedVariables false
set_option maxRecDepth 100000
set_option maxHeartbeats 4000000
set_option linter.unusedSimpArgs false
attribute [local irreducible] AW AO AQ Spec SpecH Calm

def F79_c0 (k : Nat) (p0 : S55) (x12 : (List (List Int))) (x14 : (List Int)) : Option S55 :=
  some ((S55.mk p0.f0 x12 x14))
def F79_c1 (k : Nat) (rec23 : ((List Int) → (List (List Int)) → (List Int) → (List Int) → Int → Option S55)) (x22 : Int) (x26 : (List Int)) (x28 : (List (List Int))) (x30 : (List Int)) (x32 : (List Int)) : Option S55 :=
  rec23 x26 x28 x30 x32 (w64 (x22 + (1 : Int)))
def F79_c2 (k : Nat) (rec23 : ((List Int) → (List (List Int)) → (List Int) → (List Int) → Int → Option S55)) (p0 : S55) (x17 : (List (List Int))) (x19 : (List Int)) (x22 : Int) (x37 : (List Int)) (x39 : (List Int)) (x41 : (List Int)) : Option S55 :=
  if (x17 ++ ([x41] : List (List Int))).length * 24 ≤ 140737488355328 then if 0 ≤ x22 ∧ x22 < (x39.length : Int) then if 0 ≤ (lget x39 x22) ∧ (lget x39 x22) < (p0.f2.length : Int) then if (x19 ++ ([(lget p0.f2 (lget x39 x22))] : List Int)).length * 8 ≤ 140737488355328 then F79_c1 k rec23 x22 x37 (x17 ++ ([x41] : List (List Int))) (x19 ++ ([(lget p0.f2 (lget x39 x22))] : List Int)) x39
  else none
  else none
  else none
  else none
def F79_c3 (k : Nat) (rec58 : ((List Int) → (List Int) → (List Int) → Int → Option S55)) (x56 : (List Int)) (x57 : Int) (x62 : (List Int)) (x64 : (List Int)) (x65 : Int) : Option S55 :=
  if (x56 ++ ([x65] : List Int)).length * 8 ≤ 140737488355328 then rec58 x62 x64 (x56 ++ ([x65] : List Int)) (w64 (x57 + (1 : Int)))
  else none
def F79_c4 (k : Nat) (rec58 : ((List Int) → (List Int) → (List Int) → Int → Option S55)) (p0 : S55) (x21 : (List Int)) (x22 : Int) (x56 : (List Int)) (x57 : Int) (x62 : (List Int)) (x64 : (List Int)) : Option S55 :=
  if (0 : Int) ≤ (lget (lget p0.f1 (lget x21 x22)) x57) then if 0 ≤ (lget (lget p0.f1 (lget x21 x22)) x57) ∧ (lget (lget p0.f1 (lget x21 x22)) x57) < (x62.length : Int) then F79_c3 k rec58 x56 x57 x62 x64 (lget x62 (lget (lget p0.f1 (lget x21 x22)) x57))
  else none
  else F79_c3 k rec58 x56 x57 x62 x64 (lget (lget p0.f1 (lget x21 x22)) x57)
def F79_l5 (k : Nat) (rec23 : ((List Int) → (List (List Int)) → (List Int) → (List Int) → Int → Option S55)) (p0 : S55) (x17 : (List (List Int))) (x19 : (List Int)) (x21 : (List Int)) (x22 : Int) : Nat → (List Int) → (List Int) → (List Int) → Int → Option S55
  | 0, _, _, _, _ => none
  | j + 1, x52, x54, x56, x57 =>
    if x57 < ((lget p0.f1 (lget x21 x22)).length : Int) then if 0 ≤ x57 ∧ x57 < ((lget p0.f1 (lget x21 x22)).length : Int) then Option.bind (α := Bool) (if (0 : Int) ≤ (lget (lget p0.f1 (lget x21 x22)) x57) then if 0 ≤ (lget (lget p0.f1 (lget x21 x22)) x57) ∧ (lget (lget p0.f1 (lget x21 x22)) x57) < (x52.length : Int) then some (decide ((lget x52 (lget (lget p0.f1 (lget x21 x22)) x57)) = (-1 : Int)))
    else none
    else some (false)) fun b71 =>
    if b71 = true then if 0 ≤ (lget (lget p0.f1 (lget x21 x22)) x57) ∧ (lget (lget p0.f1 (lget x21 x22)) x57) < (x52.length : Int) then if (x54 ++ ([(lget (lget p0.f1 (lget x21 x22)) x57)] : List Int)).length * 8 ≤ 140737488355328 then F79_c4 k (F79_l5 k rec23 p0 x17 x19 x21 x22 j) p0 x21 x22 x56 x57 (lset x52 (lget (lget p0.f1 (lget x21 x22)) x57) (x54.length : Int)) (x54 ++ ([(lget (lget p0.f1 (lget x21 x22)) x57)] : List Int))
    else none
    else none
    else F79_c4 k (F79_l5 k rec23 p0 x17 x19 x21 x22 j) p0 x21 x22 x56 x57 x52 x54
    else none
    else F79_c2 k rec23 p0 x17 x19 x22 x52 x54 x56
def F79_l6 (k : Nat) (p0 : S55) : Nat → (List Int) → (List (List Int)) → (List Int) → (List Int) → Int → Option S55
  | 0, _, _, _, _, _ => none
  | j + 1, x15, x17, x19, x21, x22 =>
    if x22 < (x21.length : Int) then if 0 ≤ x22 ∧ x22 < (x21.length : Int) then if 0 ≤ (lget x21 x22) ∧ (lget x21 x22) < (p0.f1.length : Int) then if 0 ≤ ((lget p0.f1 (lget x21 x22)).length : Int) ∧ ((lget p0.f1 (lget x21 x22)).length : Int) * (8 : Int) ≤ 140737488355328 ∧ ((lget p0.f1 (lget x21 x22)).length : Int) ≤ 9223372036854775807 then if 0 ≤ x22 ∧ x22 < (x21.length : Int) then if 0 ≤ (lget x21 x22) ∧ (lget x21 x22) < (p0.f1.length : Int) then F79_l5 k (F79_l6 k p0 j) p0 x17 x19 x21 x22 k x15 x21 ([] : List Int) (0 : Int)
    else none
    else none
    else none
    else none
    else none
    else F79_c0 k p0 x17 x19
def F79_c7 (k : Nat) (p0 : S55) (x6 : (List Int)) : Option S55 :=
  if (p0.f1.length : Int) = (0 : Int) then some ((S55.mk p0.f0 ([] : List (List Int)) ([] : List Int)))
  else if 0 ≤ (0 : Int) ∧ (0 : Int) < (x6.length : Int) then F79_l6 k p0 k (lset x6 (0 : Int) (0 : Int)) ([] : List (List Int)) ([] : List Int) ([(0 : Int)] : List Int) (0 : Int)
  else none
def F79_l8 (k : Nat) (p0 : S55) : Nat → (List Int) → Int → Option S55
  | 0, _, _ => none
  | j + 1, x82, x83 =>
    if x83 < ((List.replicate (p0.f1.length : Int).toNat (0 : Int)).length : Int) then if 0 ≤ x83 ∧ x83 < (x82.length : Int) then (F79_l8 k p0 j) (lset x82 x83 (-1 : Int)) (w64 (x83 + (1 : Int)))
    else none
    else F79_c7 k p0 x82
def F79 (k : Nat) (p0 : S55) : Option S55 :=
  if 0 ≤ (p0.f1.length : Int) ∧ (p0.f1.length : Int) * (8 : Int) ≤ 140737488355328 ∧ (p0.f1.length : Int) ≤ 9223372036854775807 then F79_l8 k p0 k (List.replicate (p0.f1.length : Int).toNat (0 : Int)) (0 : Int)
  else none
theorem F79_spec {k : Nat} {p0 : S55} {r : S55} (h : F79 k p0 = some r) : Spec Try.prog 79 [(e55 p0)] (e55 r) := by
  rw [F79.eq_1] at h
  refine Spec.intro (res := [.cell 2 55]) Try.func79 rfl rfl rfl (Nat.le_of_ble_eq_true rfl) ?_
  refine AW.sr ?_
  refine AO.box rfl 1 rfl (by decide) rfl rfl rfl fun n2 => ?_
  refine AO.alloc rfl 2 rfl (by decide) rfl zr55 lay55 fun n3 => ?_
  refine AO.nH [1, 2] (H' := [(n2, (.mem (e55 p0))), (n3, (.mem (.st [(256, (.ar 1 ((Vector.replicate 256 (0 : Int)).toList.map eU8))), (1, (.fl (.slice none 0 0))), (1, (.fl (.slice none 0 0)))])))]) (Sub.cons 1 rfl (Sub.cons 0 rfl (Sub.nil _))) ?_
  refine AW.sr ?_
  refine AO.c (x := .ptr n2 256) (Calm.fldPtr rfl rfl Try.underlying55 rfl sz53 _ rfl) ?_
  refine AO.c (Calm.load 0 rfl rfl rfl (At.cast (At.fldS (At.fld0 At.here)) rfl) ag53 sz53) ?_
  refine AO.c (Calm.lenL rfl rfl Try.underlying53) ?_
  obtain ⟨hg5, h⟩ := of_guard h
  refine AO.makeL (f := eI64) (0 : Int) rfl 14 rfl (by decide) rfl rfl rfl Try.underlying35 sz3 by3 zr3 lay3 rfl hg5 fun n4 => ?_
  refine AO.ag rfl rfl ?_
  refine AO.nH [1, 2, 3] (H' := [(n2, (.mem (e55 p0))), (n3, (.mem (.st [(256, (.ar 1 ((Vector.replicate 256 (0 : Int)).toList.map eU8))), (1, (.fl (.slice none 0 0))), (1, (.fl (.slice none 0 0)))]))), (n4, (.mem (.ar 1 ((List.replicate (p0.f1.length : Int).toNat (0 : Int)).map eI64))))]) (Sub.cons 1 rfl (Sub.cons 1 rfl (Sub.cons 0 rfl (Sub.nil _)))) ?_
  refine AW.seq_mid (fun ρ H => ∃ (x6 : (List Int)), ρ = [(1, (.ptr n2 0)), (2, (.ptr n3 0)), (3, (.own n4 0 x6.length))] ∧ H = [(n2, (.mem (e55 p0))), (n3, (.mem (.st [(256, (.ar 1 ((Vector.replicate 256 (0 : Int)).toList.map eU8))), (1, (.fl (.slice none 0 0))), (1, (.fl (.slice none 0 0)))]))), (n4, (.mem (.ar 1 (x6.map eI64))))] ∧ F79_c7 k p0 x6 = some r) ?_ ?_
  ·refine AW.sr ?_
   refine AO.mv rfl rfl ?_
   refine AO.c (Calm.lenOwn rfl rfl Try.underlying35) ?_
   refine AO.mv rfl rfl ?_
   refine AO.nK [1, 2, 3, 16, 17] ?_
   refine AW.block ?_
   refine AW.wK [1, 2, 3, 16, 17] ?_
   refine AW.loop (fun kq ρ H => ∃ (x82 : (List Int)) (x83 : Int), ρ = [(1, (.ptr n2 0)), (2, (.ptr n3 0)), (3, (.own n4 0 x82.length)), (16, (eI64 ((List.replicate (p0.f1.length : Int).toNat (0 : Int)).length : Int))), (17, (eI64 x83))] ∧ H = [(n2, (.mem (e55 p0))), (n3, (.mem (.st [(256, (.ar 1 ((Vector.replicate 256 (0 : Int)).toList.map eU8))), (1, (.fl (.slice none 0 0))), (1, (.fl (.slice none 0 0)))]))), (n4, (.mem (.ar 1 (x82.map eI64))))] ∧ F79_l8 k p0 kq x82 x83 = some r) k ⟨(List.replicate (p0.f1.length : Int).toNat (0 : Int)), (0 : Int), rfl, rfl, h⟩ ?_
   rintro kq85 _ _ ⟨x82, x83, rfl, rfl, h⟩
   cases kq85 with
   | zero => rw [F79_l8.eq_1] at h; cases h
   | succ kq85 =>
   rw [F79_l8.eq_2] at h
   generalize hrec84 : F79_l8 k p0 kq85 = rec84 at h
   refine AW.sr ?_
   refine AO.c (x := eBool (decide (x83 < ((List.replicate (p0.f1.length : Int).toNat (0 : Int)).length : Int)))) (Calm.int rfl rfl rfl rfl) ?_
   refine AO.nK [1, 2, 3, 16, 17, 18] ?_
   refine AW.seq ?_
   rcases of_ite h with ⟨hc86, h⟩ | ⟨hc86, h⟩
   ·refine AW.condP _ rfl hc86 ?_
    refine AW.sK [1, 2, 3, 16, 17] ?_
    refine AW.seq ?_
    refine AW.block ?_
    refine AW.sr ?_
    refine AO.mv rfl rfl ?_
    refine AO.ag rfl rfl ?_
    refine AO.nK [1, 2, 3, 4, 16, 17] ?_
    refine AW.reg ?_
    refine AO.mv rfl rfl ?_
    refine AO.mv rfl rfl ?_
    obtain ⟨hg87, h⟩ := of_guard h
    refine AO.c (Calm.idxO 2 rfl rfl rfl rfl hg87 Try.underlying35 sz3) ?_
    refine AO.store (X' := (.ar 1 ((lset x82 x83 (-1 : Int)).map eI64))) 2 rfl rfl rfl rfl rfl rfl (Put.cast (Put.lidx x83 (-1 : Int) hg87.1 hg87.2 Put.here) (by omega)) rfl rfl sz3 rfl ?_
    refine AO.coe 3 (y' := (.own n4 0 (lset x82 x83 (-1 : Int)).length)) rfl (fun _ _ h => lset_own h) ?_
    refine AO.coe 20 (y' := (.own n4 0 (lset x82 x83 (-1 : Int)).length)) rfl (fun _ _ h => lset_own h) ?_
    refine AO.nK [1, 2, 3, 16, 17] ?_
    refine AW.reg ?_
    refine AO.c (x := eI64 (w64 (x83 + (1 : Int)))) (Calm.int rfl rfl rfl rfl) ?_
    refine AO.mv rfl rfl ?_
    refine AO.nK [1, 2, 3, 16, 17] ?_
    exact ⟨kq85, Nat.lt_succ_self _, (lset x82 x83 (-1 : Int)), (w64 (x83 + (1 : Int))), rfl, rfl, by rw [hrec84]; exact h⟩
   ·refine AW.condN _ rfl hc86 ?_
    refine AW.eK [1, 2, 3] ?_
    exact ⟨x82, rfl, rfl, h⟩
  ·rintro _ _ ⟨x6, rfl, rfl, h⟩
   rw [F79_c7.eq_1] at h
   refine AW.sr ?_
   refine AO.c (x := .ptr n2 0) (Calm.fldPtr rfl rfl Try.underlying55 rfl sz52 _ rfl) ?_
   refine AO.c (Calm.load 0 rfl rfl rfl (At.cast (At.fld0 At.here) rfl) ag52 (by rw [sz52]; simp [AV.size])) ?_
   refine AO.c (x := .st [(256, (.ar 1 (p0.f0.toList.map eU8))), (1, (.fl (.slice none 0 0))), (1, (.fl (.slice none 0 0)))]) (Calm.build (qs := [(0, (.ar 1 (p0.f0.toList.map eU8)))]) rfl ⟨rfl, rfl, rfl, trivial⟩ Try.underlying55 rfl zr55 lay55 (.cons rfl rfl (vec_size _ _) (vec_size _ _) (Put.cast (Put.fld0 Put.here) rfl) .nil) rfl) ?_
   refine AO.alloc rfl 5 rfl (by decide) rfl zr55 lay55 fun n7 => ?_
   refine AO.store (X' := (.st [(256, (.ar 1 (p0.f0.toList.map eU8))), (1, (.fl (.slice none 0 0))), (1, (.fl (.slice none 0 0)))])) 0 rfl rfl rfl rfl rfl rfl (Put.cast Put.here rfl) rfl rfl sz55 rfl ?_
   refine AO.nH [1, 2, 3, 5] (H' := [(n2, (.mem (e55 p0))), (n3, (.mem (.st [(256, (.ar 1 ((Vector.replicate 256 (0 : Int)).toList.map eU8))), (1, (.fl (.slice none 0 0))), (1, (.fl (.slice none 0 0)))]))), (n4, (.mem (.ar 1 (x6.map eI64)))), (n7, (.mem (.st [(256, (.ar 1 (p0.f0.toList.map eU8))), (1, (.fl (.slice none 0 0))), (1, (.fl (.slice none 0 0)))])))]) (Sub.cons 1 rfl (Sub.cons 1 rfl (Sub.cons 1 rfl (Sub.cons 0 rfl (Sub.nil _))))) ?_
   refine AW.seq ?_
   refine AW.sr ?_
   refine AO.c (x := .ptr n2 256) (Calm.fldPtr rfl rfl Try.underlying55 rfl sz53 _ rfl) ?_
   refine AO.c (Calm.load 0 rfl rfl rfl (At.cast (At.fldS (At.fld0 At.here)) rfl) ag53 sz53) ?_
   refine AO.c (Calm.lenL rfl rfl Try.underlying53) ?_
   refine AO.c (x := eBool (decide ((p0.f1.length : Int) = (0 : Int)))) (Calm.int rfl rfl rfl rfl) ?_
   refine AO.nK [1, 2, 3, 5, 30] ?_
   rcases of_ite h with ⟨hc8, h⟩ | ⟨hc8, h⟩
   ·refine AW.condP _ rfl hc8 ?_
    refine AW.sr ?_
    refine AO.c (Calm.load 3 rfl rfl rfl (At.cast At.here rfl) ag55 sz55) ?_
    refine AO.store (X' := (.st [(256, (.ar 1 (p0.f0.toList.map eU8))), (1, (.fl (.slice none 0 0))), (1, (.fl (.slice none 0 0)))])) 1 rfl rfl rfl rfl rfl rfl (Put.cast Put.here rfl) rfl rfl sz55 rfl ?_
    refine AO.nH [2] (H' := [(n3, (.mem (.st [(256, (.ar 1 (p0.f0.toList.map eU8))), (1, (.fl (.slice none 0 0))), (1, (.fl (.slice none 0 0)))])))]) (Sub.cons 1 rfl (Sub.nil _)) ?_
    refine AW.coeFld (X' := (.st [(256, (.ar 1 (p0.f0.toList.map eU8))), (1, (.fz 1 (([] : List (List Int)).map e35))), (1, (.fl (.slice none 0 0)))])) 0 rfl (Put.cast (Put.fldS (Put.fld0 Put.here)) rfl) rfl (nil_fz 1) rfl rfl ?_
    refine AW.coeFld (X' := (.st [(256, (.ar 1 (p0.f0.toList.map eU8))), (1, (.fz 1 (([] : List (List Int)).map e35))), (1, (.fz 1 (([] : List Int).map eI64)))])) 0 rfl (Put.cast (Put.fldS (Put.fldS (Put.fld0 Put.here))) rfl) rfl (nil_fz 1) rfl rfl ?_
    refine AW.rK [2] ?_
    have hr := Option.some.inj h
    subst hr
    exact ⟨[(e55 (S55.mk p0.f0 ([] : List (List Int)) ([] : List Int)))], ⟨⟨_, 0, rfl, rfl, ag55, sz55⟩, trivial⟩, rfl⟩
   ·refine AW.condN _ rfl hc8 ?_
    refine AW.sK [1, 2, 3, 5] ?_
    refine AW.sr ?_
    refine AO.lit (Z := (eI64 (0 : Int))) (xs := (([(0 : Int)] : List Int).map eI64)) (qs := [(0, (eI64 (0 : Int)))]) rfl 32 rfl (by decide) rfl ⟨rfl, rfl, rfl, trivial⟩ Try.underlying35 sz3 zr3 lay3 rfl (by decide) (litOK (z := 1) [(eI64 (0 : Int))] rfl ⟨⟨rfl, rfl⟩, trivial⟩) rfl fun n9 => ?_
    refine AO.ag rfl rfl ?_
    refine AO.nH [1, 2, 3, 5, 6] (H' := [(n2, (.mem (e55 p0))), (n3, (.mem (.st [(256, (.ar 1 ((Vector.replicate 256 (0 : Int)).toList.map eU8))), (1, (.fl (.slice none 0 0))), (1, (.fl (.slice none 0 0)))]))), (n4, (.mem (.ar 1 (x6.map eI64)))), (n7, (.mem (.st [(256, (.ar 1 (p0.f0.toList.map eU8))), (1, (.fl (.slice none 0 0))), (1, (.fl (.slice none 0 0)))]))), (n9, (.mem (.ar 1 (([(0 : Int)] : List Int).map eI64))))]) (Sub.cons 1 rfl (Sub.cons 1 rfl (Sub.cons 1 rfl (Sub.cons 1 rfl (Sub.cons 0 rfl (Sub.nil _)))))) ?_
    refine AW.sr ?_
    refine AO.mv rfl rfl ?_
    obtain ⟨hg10, h⟩ := of_guard h
    refine AO.c (Calm.idxO 2 rfl rfl rfl rfl hg10 Try.underlying35 sz3) ?_
    refine AO.store (X' := (.ar 1 ((lset x6 (0 : Int) (0 : Int)).map eI64))) 2 rfl rfl rfl rfl rfl rfl (Put.cast (Put.lidx (0 : Int) (0 : Int) hg10.1 hg10.2 Put.here) (by omega)) rfl rfl sz3 rfl ?_
    refine AO.coe 3 (y' := (.own n4 0 (lset x6 (0 : Int) (0 : Int)).length)) rfl (fun _ _ h => lset_own h) ?_
    refine AO.coe 33 (y' := (.own n4 0 (lset x6 (0 : Int) (0 : Int)).length)) rfl (fun _ _ h => lset_own h) ?_
    refine AO.nK [1, 2, 3, 5, 6] ?_
    refine AW.seq_mid (fun ρ H => ∃ (n11 : Nat) (n13 : Nat) (x12 : (List (List Int))) (x14 : (List Int)), ρ = [(2, (.ptr n3 0)), (5, (.ptr n7 0))] ∧ H = [(n3, (.mem (.st [(256, (.ar 1 ((Vector.replicate 256 (0 : Int)).toList.map eU8))), (1, (.fl (.slice none 0 0))), (1, (.fl (.slice none 0 0)))]))), (n7, (.mem (.st [(256, (.ar 1 (p0.f0.toList.map eU8))), (1, (.own n11 0 x12.length)), (1, (.own n13 0 x14.length))]))), (n11, (.mem (.ar 1 (x12.map e35)))), (n13, (.mem (.ar 1 (x14.map eI64))))] ∧ F79_c0 k p0 x12 x14 = some r) ?_ ?_
    ·refine AW.sr ?_
     refine AO.ag rfl rfl ?_
     refine AO.nK [1, 2, 3, 5, 6, 7] ?_
     refine AW.block ?_
     refine AW.nilOwnFld 3 1 (fun n80 => (.st [(256, (.ar 1 (p0.f0.toList.map eU8))), (1, (.own n80 0 0)), (1, (.fl (.slice none 0 0)))])) rfl (fun _ => (Put.cast (Put.fldS (Put.fld0 Put.here)) rfl)) (fun _ => rfl) (fun _ => rfl) fun n80 => ?_
     refine AW.nilOwnFld 4 1 (fun n81 => (.st [(256, (.ar 1 (p0.f0.toList.map eU8))), (1, (.own n80 0 ([] : List (List Int)).length)), (1, (.own n81 0 0))])) rfl (fun _ => (Put.cast (Put.fldS (Put.fldS (Put.fld0 Put.here))) rfl)) (fun _ => rfl) (fun _ => rfl) fun n81 => ?_
     refine AW.wH [1, 2, 3, 5, 6, 7] (H' := [(n2, (.mem (e55 p0))), (n3, (.mem (.st [(256, (.ar 1 ((Vector.replicate 256 (0 : Int)).toList.map eU8))), (1, (.fl (.slice none 0 0))), (1, (.fl (.slice none 0 0)))]))), (n4, (.mem (.ar 1 ((lset x6 (0 : Int) (0 : Int)).map eI64)))), (n7, (.mem (.st [(256, (.ar 1 (p0.f0.toList.map eU8))), (1, (.own n80 0 ([] : List (List Int)).length)), (1, (.own n81 0 ([] : List Int).length))]))), (n80, (.mem (.ar 1 (([] : List (List Int)).map e35)))), (n81, (.mem (.ar 1 (([] : List Int).map eI64)))), (n9, (.mem (.ar 1 (([(0 : Int)] : List Int).map eI64))))]) (Sub.cons 2 rfl (Sub.cons 2 rfl (Sub.cons 2 rfl (Sub.cons 2 rfl (Sub.cons 1 rfl (Sub.cons 0 rfl (Sub.cons 0 rfl (Sub.nil _)))))))) ?_
     refine AW.loop (fun kq ρ H => ∃ (n16 : Nat) (n18 : Nat) (n20 : Nat) (x15 : (List Int)) (x17 : (List (List Int))) (x19 : (List Int)) (x21 : (List Int)) (x22 : Int), ρ = [(1, (.ptr n2 0)), (2, (.ptr n3 0)), (3, (.own n4 0 x15.length)), (5, (.ptr n7 0)), (6, (.own n20 0 x21.length)), (7, (eI64 x22))] ∧ H = [(n2, (.mem (e55 p0))), (n3, (.mem (.st [(256, (.ar 1 ((Vector.replicate 256 (0 : Int)).toList.map eU8))), (1, (.fl (.slice none 0 0))), (1, (.fl (.slice none 0 0)))]))), (n4, (.mem (.ar 1 (x15.map eI64)))), (n7, (.mem (.st [(256, (.ar 1 (p0.f0.toList.map eU8))), (1, (.own n16 0 x17.length)), (1, (.own n18 0 x19.length))]))), (n16, (.mem (.ar 1 (x17.map e35)))), (n18, (.mem (.ar 1 (x19.map eI64)))), (n20, (.mem (.ar 1 (x21.map eI64))))] ∧ F79_l6 k p0 kq x15 x17 x19 x21 x22 = some r) k ⟨n80, n81, n9, (lset x6 (0 : Int) (0 : Int)), ([] : List (List Int)), ([] : List Int), ([(0 : Int)] : List Int), (0 : Int), rfl, rfl, h⟩ ?_
     rintro kq24 _ _ ⟨n16, n18, n20, x15, x17, x19, x21, x22, rfl, rfl, h⟩
     cases kq24 with
     | zero => rw [F79_l6.eq_1] at h; cases h
     | succ kq24 =>
     rw [F79_l6.eq_2] at h
     generalize hrec23 : F79_l6 k p0 kq24 = rec23 at h
     refine AW.seq ?_
     refine AW.sr ?_
     refine AO.mv rfl rfl ?_
     refine AO.mv rfl rfl ?_
     refine AO.c (Calm.lenOwn rfl rfl Try.underlying35) ?_
     refine AO.c (x := eBool (decide (x22 < (x21.length : Int)))) (Calm.int rfl rfl rfl rfl) ?_
     refine AO.nK [1, 2, 3, 5, 6, 7, 38] ?_
     rcases of_ite h with ⟨hc25, h⟩ | ⟨hc25, h⟩
     ·refine AW.condP _ rfl hc25 ?_
      refine AW.sK [1, 2, 3, 5, 6, 7] ?_
      refine AW.seq_mid (fun ρ H => ∃ (n27 : Nat) (n29 : Nat) (n31 : Nat) (x26 : (List Int)) (x28 : (List (List Int))) (x30 : (List Int)) (x32 : (List Int)), ρ = [(1, (.ptr n2 0)), (2, (.ptr n3 0)), (3, (.own n4 0 x26.length)), (5, (.ptr n7 0)), (6, (.own n31 0 x32.length)), (7, (eI64 x22))] ∧ H = [(n2, (.mem (e55 p0))), (n3, (.mem (.st [(256, (.ar 1 ((Vector.replicate 256 (0 : Int)).toList.map eU8))), (1, (.fl (.slice none 0 0))), (1, (.fl (.slice none 0 0)))]))), (n4, (.mem (.ar 1 (x26.map eI64)))), (n7, (.mem (.st [(256, (.ar 1 (p0.f0.toList.map eU8))), (1, (.own n27 0 x28.length)), (1, (.own n29 0 x30.length))]))), (n27, (.mem (.ar 1 (x28.map e35)))), (n29, (.mem (.ar 1 (x30.map eI64)))), (n31, (.mem (.ar 1 (x32.map eI64))))] ∧ F79_c1 k rec23 x22 x26 x28 x30 x32 = some r) ?_ ?_
      ·refine AW.block ?_
       refine AW.seq ?_
       obtain ⟨hg33, h⟩ := of_guard h
       obtain ⟨hg34, h⟩ := of_guard h
       obtain ⟨hg36, h⟩ := of_guard h
       refine AW.regEff (by rfl) (by decide +kernel) (fun (σ : Nat → Nat) => ([(.ptr n2 256), (.fz 1 (p0.f1.map e35)), (.own n20 0 x21.length), (eI64 x22), (.ptr n20 (x22.toNat * 1 + 0)), (eI64 (lget x21 x22)), (.rp (.fz 1 ((lget p0.f1 (lget x21 x22)).map eI64))), (.fz 1 ((lget p0.f1 (lget x21 x22)).map eI64)), (eI64 ((lget p0.f1 (lget x21 x22)).length : Int)), (.own (σ 9) 0 ([] : List Int).length), (.own (σ 9) 0 ([] : List Int).length)] : List AV)) (fun (L : Nat → Bool) (σ : Nat → Nat) => ((n2, (.mem (e55 p0))) :: (n3, (.mem (.st [(256, (.ar 1 ((Vector.replicate 256 (0 : Int)).toList.map eU8))), (1, (.fl (.slice none 0 0))), (1, (.fl (.slice none 0 0)))]))) :: (n4, (.mem (.ar 1 (x15.map eI64)))) :: (n7, (.mem (.st [(256, (.ar 1 (p0.f0.toList.map eU8))), (1, (.own n16 0 x17.length)), (1, (.own n18 0 x19.length))]))) :: (n16, (.mem (.ar 1 (x17.map e35)))) :: (n18, (.mem (.ar 1 (x19.map eI64)))) :: (n20, (.mem (.ar 1 (x21.map eI64)))) :: (bif L 9 then (((σ 9), (.mem (.ar 1 (([] : List Int).map eI64)))) :: []) else ([])) : Heap)) [(1, (.ptr n2 0)), (2, (.ptr n3 0)), (3, (.own n4 0 x15.length)), (5, (.ptr n7 0)), (6, (.own n20 0 x21.length)), (7, (eI64 x22))] ⟨rfl, rfl, rfl, rfl, rfl, rfl, trivial⟩ (fun _ => rfl) (fun σ => (Sub.refl _)) ⟨?_, ?_, ?_, ?_, ?_, ?_, ?_, ?_, ?_, ?_, ?_, trivial⟩ (fun σ => [(1, (.ptr n2 0)), (2, (.ptr n3 0)), (3, (.own n4 0 x15.length)), (5, (.ptr n7 0)), (6, (.own n20 0 x21.length)), (7, (eI64 x22)), (8, (.own (σ 9) 0 ([] : List Int).length))]) (fun σ => ((n2, (.mem (e55 p0))) :: (n3, (.mem (.st [(256, (.ar 1 ((Vector.replicate 256 (0 : Int)).toList.map eU8))), (1, (.fl (.slice none 0 0))), (1, (.fl (.slice none 0 0)))]))) :: (n4, (.mem (.ar 1 (x15.map eI64)))) :: (n7, (.mem (.st [(256, (.ar 1 (p0.f0.toList.map eU8))), (1, (.own n16 0 x17.length)), (1, (.own n18 0 x19.length))]))) :: (n16, (.mem (.ar 1 (x17.map e35)))) :: (n18, (.mem (.ar 1 (x19.map eI64)))) :: (n20, (.mem (.ar 1 (x21.map eI64)))) :: ((σ 9), (.mem (.ar 1 (([] : List Int).map eI64)))) :: [])) (fun σ => ⟨rfl, rfl, rfl, rfl, rfl, rfl, rfl, trivial⟩) (fun σ => Sub.refl _) (fun σ => ?_)
       ·refine StepE.calm (fun _ _ => rfl) fun L σ hc hi hd => ?_
        refine AO.wK [1] ?_
        refine AO.c (x := .ptr n2 256) (Calm.fldPtr rfl rfl Try.underlying55 rfl sz53 _ rfl) ?_
        exact AO.nE (d := 41) rfl ⟨⟨41, _, rfl, rfl, rfl⟩, Sub.refl _⟩
       ·refine StepE.calm (fun _ _ => rfl) fun L σ hc hi hd => ?_
        refine AO.wK [41] ?_
        refine AO.c (Calm.load 0 rfl rfl rfl (At.cast (At.fldS (At.fld0 At.here)) rfl) ag53 sz53) ?_
        exact AO.nE (d := 42) rfl ⟨⟨42, _, rfl, rfl, rfl⟩, Sub.refl _⟩
       ·refine StepE.calm (fun _ _ => rfl) fun L σ hc hi hd => ?_
        refine AO.wK [6] ?_
        refine AO.mv rfl rfl ?_
        exact AO.nE (d := 43) rfl ⟨⟨43, _, rfl, rfl, rfl⟩, Sub.refl _⟩
       ·refine StepE.calm (fun _ _ => rfl) fun L σ hc hi hd => ?_
        refine AO.wK [7] ?_
        refine AO.mv rfl rfl ?_
        exact AO.nE (d := 44) rfl ⟨⟨44, _, rfl, rfl, rfl⟩, Sub.refl _⟩
       ·refine StepE.calm (fun _ _ => rfl) fun L σ hc hi hd => ?_
        refine AO.wK [43, 44] ?_
        refine AO.c (Calm.idxO 6 rfl rfl rfl rfl hg33 Try.underlying35 sz3) ?_
        exact AO.nE (d := 45) rfl ⟨⟨45, _, rfl, rfl, rfl⟩, Sub.refl _⟩
       ·refine StepE.calm (fun _ _ => rfl) fun L σ hc hi hd => ?_
        refine AO.wK [45] ?_
        refine AO.c (Calm.load 6 rfl rfl rfl (At.cast (At.lidx x22 hg33.1 hg33.2 At.here) (by omega)) ag3 sz3) ?_
        exact AO.nE (d := 46) rfl ⟨⟨46, _, rfl, rfl, rfl⟩, Sub.refl _⟩
       ·refine StepE.calm (fun _ _ => rfl) fun L σ hc hi hd => ?_
        refine AO.wK [42, 46] ?_
        refine AO.c (Calm.idxL (f := e35) rfl rfl rfl hg34 Try.underlying53 sz35) ?_
        exact AO.nE (d := 47) rfl ⟨⟨47, _, rfl, rfl, rfl⟩, Sub.refl _⟩
       ·refine StepE.calm (fun _ _ => rfl) fun L σ hc hi hd => ?_
        refine AO.wK [47] ?_
        refine AO.c (Calm.loadRp rfl rfl ag35 sz35) ?_
        exact AO.nE (d := 48) rfl ⟨⟨48, _, rfl, rfl, rfl⟩, Sub.refl _⟩
       ·refine StepE.calm (fun _ _ => rfl) fun L σ hc hi hd => ?_
        refine AO.wK [48] ?_
        refine AO.c (Calm.lenL rfl rfl Try.underlying35) ?_
        exact AO.nE (d := 49) rfl ⟨⟨49, _, rfl, rfl, rfl⟩, Sub.refl _⟩
       ·intro L σ hc hi hd
        refine AO.heq (H' := ((n2, (.mem (e55 p0))) :: (n3, (.mem (.st [(256, (.ar 1 ((Vector.replicate 256 (0 : Int)).toList.map eU8))), (1, (.fl (.slice none 0 0))), (1, (.fl (.slice none 0 0)))]))) :: (n4, (.mem (.ar 1 (x15.map eI64)))) :: (n7, (.mem (.st [(256, (.ar 1 (p0.f0.toList.map eU8))), (1, (.own n16 0 x17.length)), (1, (.own n18 0 x19.length))]))) :: (n16, (.mem (.ar 1 (x17.map e35)))) :: (n18, (.mem (.ar 1 (x19.map eI64)))) :: (n20, (.mem (.ar 1 (x21.map eI64)))) :: [])) (by first | rfl | simp only [hi, cond_true, cond_false]) ?_
        refine AO.wK [49] ?_
        refine AO.makeRoom (f := eI64) (0 : Int) rfl 50 rfl (by decide) rfl rfl rfl Try.underlying35 sz3 by3 zr3 lay3 rfl hg36 fun n35 => ?_
        have a9 : addL L 9 9 = true := rfl
        have u9 : upd σ 9 n35 9 = n35 := rfl
        have m10 : L 10 = false := hc.neg (i := 9) (j := 10) rfl (by rfl) hi
        exact AO.nE (d := 50) rfl ⟨(upd σ 9 n35), (fun j hj => match j, hj with | 0, _ => rfl | 1, _ => rfl | 2, _ => rfl | 3, _ => rfl | 4, _ => rfl | 5, _ => rfl | 6, _ => rfl | 7, _ => rfl | 8, _ => rfl | 9, hj => Bool.noConfusion (hj.symm.trans hi) | 10, hj => Bool.noConfusion (hj.symm.trans m10) | _ + 11, _ => rfl), (fun d' hd' => ⟨_, rfl, by cases hd'; rfl⟩), Sub.of_eq (B := ((n2, (.mem (e55 p0))) :: (n3, (.mem (.st [(256, (.ar 1 ((Vector.replicate 256 (0 : Int)).toList.map eU8))), (1, (.fl (.slice none 0 0))), (1, (.fl (.slice none 0 0)))]))) :: (n4, (.mem (.ar 1 (x15.map eI64)))) :: (n7, (.mem (.st [(256, (.ar 1 (p0.f0.toList.map eU8))), (1, (.own n16 0 x17.length)), (1, (.own n18 0 x19.length))]))) :: (n16, (.mem (.ar 1 (x17.map e35)))) :: (n18, (.mem (.ar 1 (x19.map eI64)))) :: (n20, (.mem (.ar 1 (x21.map eI64)))) :: (n35, (.mem (.ar 1 (([] : List Int).map eI64)))) :: [])) (by simp only [a9, u9, cond_true, cond_false]) (Sub.cons 1 rfl (Sub.cons 1 rfl (Sub.cons 1 rfl (Sub.cons 1 rfl (Sub.cons 1 rfl (Sub.cons 1 rfl (Sub.cons 1 rfl (Sub.cons 0 rfl (Sub.refl _)))))))))⟩
       ·refine StepE.calm (fun _ _ => rfl) fun L σ hc hi hd => ?_
        have y9 : L 9 = true := on_get hd (i := 9) (by rfl)
        refine AO.heq (H' := ((n2, (.mem (e55 p0))) :: (n3, (.mem (.st [(256, (.ar 1 ((Vector.replicate 256 (0 : Int)).toList.map eU8))), (1, (.fl (.slice none 0 0))), (1, (.fl (.slice none 0 0)))]))) :: (n4, (.mem (.ar 1 (x15.map eI64)))) :: (n7, (.mem (.st [(256, (.ar 1 (p0.f0.toList.map eU8))), (1, (.own n16 0 x17.length)), (1, (.own n18 0 x19.length))]))) :: (n16, (.mem (.ar 1 (x17.map e35)))) :: (n18, (.mem (.ar 1 (x19.map eI64)))) :: (n20, (.mem (.ar 1 (x21.map eI64)))) :: ((σ 9), (.mem (.ar 1 (([] : List Int).map eI64)))) :: [])) (by first | rfl | simp only [y9, cond_true, cond_false]) ?_
        refine AO.wK [50] ?_
        refine AO.ag rfl rfl ?_
        exact AO.nE (d := 8) rfl ⟨⟨8, _, rfl, rfl, rfl⟩, Sub.of_eq (by first | rfl | simp only [y9, cond_true, cond_false]) (Sub.refl _)⟩
       ·generalize σ 9 = n35
        refine AO.nK [1, 2, 3, 5, 6, 7, 8] ?_
        refine AW.seq_mid (fun ρ H => ∃ (n38 : Nat) (n40 : Nat) (x37 : (List Int)) (x39 : (List Int)) (x41 : (List Int)), ρ = [(1, (.ptr n2 0)), (2, (.ptr n3 0)), (3, (.own n4 0 x37.length)), (5, (.ptr n7 0)), (6, (.own n38 0 x39.length)), (7, (eI64 x22)), (8, (.own n40 0 x41.length))] ∧ H = [(n2, (.mem (e55 p0))), (n3, (.mem (.st [(256, (.ar 1 ((Vector.replicate 256 (0 : Int)).toList.map eU8))), (1, (.fl (.slice none 0 0))), (1, (.fl (.slice none 0 0)))]))), (n4, (.mem (.ar 1 (x37.map eI64)))), (n7, (.mem (.st [(256, (.ar 1 (p0.f0.toList.map eU8))), (1, (.own n16 0 x17.length)), (1, (.own n18 0 x19.length))]))), (n16, (.mem (.ar 1 (x17.map e35)))), (n18, (.mem (.ar 1 (x19.map eI64)))), (n38, (.mem (.ar 1 (x39.map eI64)))), (n40, (.mem (.ar 1 (x41.map eI64))))] ∧ F79_c2 k rec23 p0 x17 x19 x22 x37 x39 x41 = some r) ?_ ?_
        ·refine AW.seq ?_
         refine AW.regQ (by rfl) (by decide +kernel) ?_
         refine AQ.c (x := .ptr n2 256) (Calm.fldPtr rfl rfl Try.underlying55 rfl sz53 _ rfl) ?_
         refine AQ.c (Calm.load 0 rfl rfl rfl (At.cast (At.fldS (At.fld0 At.here)) rfl) ag53 sz53) ?_
         refine AQ.c (Calm.move rfl rfl) ?_
         refine AQ.c (Calm.move rfl rfl) ?_
         obtain ⟨hg50, h⟩ := of_guard h
         refine AQ.c (Calm.idxO 6 rfl rfl rfl rfl hg50 Try.underlying35 sz3) ?_
         refine AQ.c (Calm.load 6 rfl rfl rfl (At.cast (At.lidx x22 hg50.1 hg50.2 At.here) (by omega)) ag3 sz3) ?_
         obtain ⟨hg51, h⟩ := of_guard h
         refine AQ.c (Calm.idxL (f := e35) rfl rfl rfl hg51 Try.underlying53 sz35) ?_
         refine AQ.c (Calm.loadRp rfl rfl ag35 sz35) ?_
         refine AQ.c (Calm.lenL rfl rfl Try.underlying35) ?_
         refine AQ.c (Calm.move rfl rfl) ?_
         refine AQ.nK [1, 2, 3, 5, 6, 7, 8, 58, 59, 60] ?_
         refine AW.block ?_
         refine AW.wK [1, 2, 3, 5, 6, 7, 8, 58, 59, 60] ?_
         refine AW.loop (fun kq ρ H => ∃ (n53 : Nat) (n55 : Nat) (x52 : (List Int)) (x54 : (List Int)) (x56 : (List Int)) (x57 : Int), ρ = [(1, (.ptr n2 0)), (2, (.ptr n3 0)), (3, (.own n4 0 x52.length)), (5, (.ptr n7 0)), (6, (.own n53 0 x54.length)), (7, (eI64 x22)), (8, (.own n55 0 x56.length)), (58, (.fz 1 ((lget p0.f1 (lget x21 x22)).map eI64))), (59, (eI64 ((lget p0.f1 (lget x21 x22)).length : Int))), (60, (eI64 x57))] ∧ H = [(n2, (.mem (e55 p0))), (n3, (.mem (.st [(256, (.ar 1 ((Vector.replicate 256 (0 : Int)).toList.map eU8))), (1, (.fl (.slice none 0 0))), (1, (.fl (.slice none 0 0)))]))), (n4, (.mem (.ar 1 (x52.map eI64)))), (n7, (.mem (.st [(256, (.ar 1 (p0.f0.toList.map eU8))), (1, (.own n16 0 x17.length)), (1, (.own n18 0 x19.length))]))), (n16, (.mem (.ar 1 (x17.map e35)))), (n18, (.mem (.ar 1 (x19.map eI64)))), (n53, (.mem (.ar 1 (x54.map eI64)))), (n55, (.mem (.ar 1 (x56.map eI64))))] ∧ F79_l5 k rec23 p0 x17 x19 x21 x22 kq x52 x54 x56 x57 = some r) k ⟨n20, n35, x15, x21, ([] : List Int), (0 : Int), rfl, rfl, h⟩ ?_
         rintro kq59 _ _ ⟨n53, n55, x52, x54, x56, x57, rfl, rfl, h⟩
         cases kq59 with
         | zero => rw [F79_l5.eq_1] at h; cases h
         | succ kq59 =>
         rw [F79_l5.eq_2] at h
         generalize hrec58 : F79_l5 k rec23 p0 x17 x19 x21 x22 kq59 = rec58 at h
         refine AW.sr ?_
         refine AO.c (x := eBool (decide (x57 < ((lget p0.f1 (lget x21 x22)).length : Int)))) (Calm.int rfl rfl rfl rfl) ?_
         refine AO.nK [1, 2, 3, 5, 6, 7, 8, 58, 59, 60, 61] ?_
         refine AW.seq ?_
         rcases of_ite h with ⟨hc60, h⟩ | ⟨hc60, h⟩
         ·refine AW.condP _ rfl hc60 ?_
          refine AW.sK [1, 2, 3, 5, 6, 7, 8, 58, 59, 60] ?_
          refine AW.seq ?_
          refine AW.block ?_
          refine AW.sr ?_
          obtain ⟨hg61, h⟩ := of_guard h
          refine AO.c (Calm.idxL (f := eI64) rfl rfl rfl hg61 Try.underlying35 sz3) ?_
          refine AO.c (Calm.loadRp rfl rfl ag3 sz3) ?_
          refine AO.ag rfl rfl ?_
          refine AO.nK [1, 2, 3, 5, 6, 7, 8, 10, 58, 59, 60] ?_
          refine AW.seq_mid (fun ρ H => ∃ (n63 : Nat) (x62 : (List Int)) (x64 : (List Int)), ρ = [(1, (.ptr n2 0)), (2, (.ptr n3 0)), (3, (.own n4 0 x62.length)), (5, (.ptr n7 0)), (6, (.own n63 0 x64.length)), (7, (eI64 x22)), (8, (.own n55 0 x56.length)), (10, (eI64 (lget (lget p0.f1 (lget x21 x22)) x57))), (58, (.fz 1 ((lget p0.f1 (lget x21 x22)).map eI64))), (59, (eI64 ((lget p0.f1 (lget x21 x22)).length : Int))), (60, (eI64 x57))] ∧ H = [(n2, (.mem (e55 p0))), (n3, (.mem (.st [(256, (.ar 1 ((Vector.replicate 256 (0 : Int)).toList.map eU8))), (1, (.fl (.slice none 0 0))), (1, (.fl (.slice none 0 0)))]))), (n4, (.mem (.ar 1 (x62.map eI64)))), (n7, (.mem (.st [(256, (.ar 1 (p0.f0.toList.map eU8))), (1, (.own n16 0 x17.length)), (1, (.own n18 0 x19.length))]))), (n16, (.mem (.ar 1 (x17.map e35)))), (n18, (.mem (.ar 1 (x19.map eI64)))), (n63, (.mem (.ar 1 (x64.map eI64)))), (n55, (.mem (.ar 1 (x56.map eI64))))] ∧ F79_c4 k rec58 p0 x21 x22 x56 x57 x62 x64 = some r) ?_ ?_
          ·refine AW.seq ?_
           obtain ⟨b71, hq72, h⟩ := of_bind h
           refine AW.regM [(1, (.ptr n2 0)), (2, (.ptr n3 0)), (3, (.own n4 0 x52.length)), (5, (.ptr n7 0)), (6, (.own n53 0 x54.length)), (7, (eI64 x22)), (8, (.own n55 0 x56.length)), (10, (eI64 (lget (lget p0.f1 (lget x21 x22)) x57))), (58, (.fz 1 ((lget p0.f1 (lget x21 x22)).map eI64))), (59, (eI64 ((lget p0.f1 (lget x21 x22)).length : Int))), (60, (eI64 x57)), (72, (eBool b71))] [(n2, (.mem (e55 p0))), (n3, (.mem (.st [(256, (.ar 1 ((Vector.replicate 256 (0 : Int)).toList.map eU8))), (1, (.fl (.slice none 0 0))), (1, (.fl (.slice none 0 0)))]))), (n4, (.mem (.ar 1 (x52.map eI64)))), (n7, (.mem (.st [(256, (.ar 1 (p0.f0.toList.map eU8))), (1, (.own n16 0 x17.length)), (1, (.own n18 0 x19.length))]))), (n16, (.mem (.ar 1 (x17.map e35)))), (n18, (.mem (.ar 1 (x19.map eI64)))), (n53, (.mem (.ar 1 (x54.map eI64)))), (n55, (.mem (.ar 1 (x56.map eI64))))] ?_ ?_
           ·refine AO.mv rfl rfl ?_
            refine AO.c (x := eBool (decide ((0 : Int) ≤ (lget (lget p0.f1 (lget x21 x22)) x57)))) (Calm.int rfl rfl rfl rfl) ?_
            refine AO.mv rfl rfl ?_
            rcases of_ite hq72 with ⟨hc73, hq72⟩ | ⟨hc73, hq72⟩
            ·refine AO.cG rfl rfl (bD (decide_eq_true hc73)) (Calm.move rfl rfl) ?_
             refine AO.cG rfl rfl (bD (decide_eq_true hc73)) (Calm.move rfl rfl) ?_
             obtain ⟨hg74, hq72⟩ := of_guard hq72
             refine AO.cG rfl rfl (bD (decide_eq_true hc73)) (Calm.idxO 2 rfl rfl rfl rfl hg74 Try.underlying35 sz3) ?_
             refine AO.cG rfl rfl (bD (decide_eq_true hc73)) (Calm.load 2 rfl rfl rfl (At.cast (At.lidx (lget (lget p0.f1 (lget x21 x22)) x57) hg74.1 hg74.2 At.here) (by omega)) ag3 sz3) ?_
             refine AO.cG (x := eBool (decide ((lget x52 (lget (lget p0.f1 (lget x21 x22)) x57)) = (-1 : Int)))) rfl rfl (bD (decide_eq_true hc73)) (Calm.int rfl rfl rfl rfl) ?_
             refine AO.c (Calm.pickT rfl (bD (decide_eq_true hc73)) rfl) ?_
             cases hq72
             refine AO.nilE ⟨rfl, rfl⟩ ?_ ?_
             · exact ⟨rfl, rfl, rfl, rfl, rfl, rfl, rfl, rfl, rfl, rfl, rfl, rfl, trivial⟩
             · exact (Sub.refl _)
            ·refine AO.sT rfl rfl (bD (decide_eq_false hc73)) ?_
             refine AO.sT rfl rfl (bD (decide_eq_false hc73)) ?_
             refine AO.sT rfl rfl (bD (decide_eq_false hc73)) ?_
             refine AO.sT rfl rfl (bD (decide_eq_false hc73)) ?_
             refine AO.sT rfl rfl (bD (decide_eq_false hc73)) ?_
             refine AO.c (Calm.pickF rfl (bD (decide_eq_false hc73)) rfl) ?_
             cases hq72
             refine AO.nilE ⟨rfl, rfl⟩ ?_ ?_
             · exact ⟨rfl, rfl, rfl, rfl, rfl, rfl, rfl, rfl, rfl, rfl, rfl, rfl, trivial⟩
             · exact (Sub.refl _)
           ·rcases of_ite h with ⟨hc75, h⟩ | ⟨hc75, h⟩
            ·refine AW.condT' _ rfl hc75 ?_
             refine AW.sr ?_
             refine AO.mv rfl rfl ?_
             refine AO.mv rfl rfl ?_
             refine AO.mv rfl rfl ?_
             refine AO.c (Calm.lenOwn rfl rfl Try.underlying35) ?_
             obtain ⟨hg76, h⟩ := of_guard h
             refine AO.c (Calm.idxO 2 rfl rfl rfl rfl hg76 Try.underlying35 sz3) ?_
             refine AO.store (X' := (.ar 1 ((lset x52 (lget (lget p0.f1 (lget x21 x22)) x57) (x54.length : Int)).map eI64))) 2 rfl rfl rfl rfl rfl rfl (Put.cast (Put.lidx (lget (lget p0.f1 (lget x21 x22)) x57) (x54.length : Int) hg76.1 hg76.2 Put.here) (by omega)) rfl rfl sz3 rfl ?_
             refine AO.coe 3 (y' := (.own n4 0 (lset x52 (lget (lget p0.f1 (lget x21 x22)) x57) (x54.length : Int)).length)) rfl (fun _ _ h => lset_own h) ?_
             refine AO.coe 73 (y' := (.own n4 0 (lset x52 (lget (lget p0.f1 (lget x21 x22)) x57) (x54.length : Int)).length)) rfl (fun _ _ h => lset_own h) ?_
             refine AO.nK [1, 2, 3, 5, 6, 7, 8, 10, 58, 59, 60] ?_
             refine AW.reg ?_
             refine AO.mv rfl rfl ?_
             refine AO.mv rfl rfl ?_
             refine AO.lit (Z := (eI64 (0 : Int))) (xs := (([(lget (lget p0.f1 (lget x21 x22)) x57)] : List Int).map eI64)) (qs := [(0, (eI64 (lget (lget p0.f1 (lget x21 x22)) x57)))]) rfl 80 rfl (by decide) rfl ⟨rfl, rfl, rfl, trivial⟩ Try.underlying35 sz3 zr3 lay3 rfl (by decide) (litOK (z := 1) [(eI64 (lget (lget p0.f1 (lget x21 x22)) x57))] rfl ⟨⟨rfl, rfl⟩, trivial⟩) rfl fun n77 => ?_
             obtain ⟨hg79, h⟩ := of_guard h
             refine AO.appendL (l := x54) (m := ([(lget (lget p0.f1 (lget x21 x22)) x57)] : List Int)) 7 81 rfl (by decide) rfl rfl rfl rfl rfl (Src.ownL (f := eI64) (l := ([(lget (lget p0.f1 (lget x21 x22)) x57)] : List Int)) 0 rfl) Try.underlying35 Try.underlying35 sz3 by3 zr3 rfl hg79 (by decide) fun n78 => ?_
             refine AO.ag rfl rfl ?_
             refine AO.nH [1, 2, 3, 5, 6, 7, 8, 10, 58, 59, 60] (H' := [(n2, (.mem (e55 p0))), (n3, (.mem (.st [(256, (.ar 1 ((Vector.replicate 256 (0 : Int)).toList.map eU8))), (1, (.fl (.slice none 0 0))), (1, (.fl (.slice none 0 0)))]))), (n4, (.mem (.ar 1 ((lset x52 (lget (lget p0.f1 (lget x21 x22)) x57) (x54.length : Int)).map eI64)))), (n7, (.mem (.st [(256, (.ar 1 (p0.f0.toList.map eU8))), (1, (.own n16 0 x17.length)), (1, (.own n18 0 x19.length))]))), (n16, (.mem (.ar 1 (x17.map e35)))), (n18, (.mem (.ar 1 (x19.map eI64)))), (n78, (.mem (.ar 1 ((x54 ++ ([(lget (lget p0.f1 (lget x21 x22)) x57)] : List Int)).map eI64)))), (n55, (.mem (.ar 1 (x56.map eI64))))]) (Sub.cons 1 rfl (Sub.cons 1 rfl (Sub.cons 1 rfl (Sub.cons 1 rfl (Sub.cons 1 rfl (Sub.cons 1 rfl (Sub.cons 1 rfl (Sub.cons 1 rfl (Sub.nil _))))))))) ?_
             exact ⟨n78, (lset x52 (lget (lget p0.f1 (lget x21 x22)) x57) (x54.length : Int)), (x54 ++ ([(lget (lget p0.f1 (lget x21 x22)) x57)] : List Int)), rfl, rfl, h⟩
            ·refine AW.condF' _ rfl hc75 ?_
             refine AW.sK [1, 2, 3, 5, 6, 7, 8, 10, 58, 59, 60] ?_
             exact ⟨n53, x52, x54, rfl, rfl, h⟩
          ·rintro _ _ ⟨n63, x62, x64, rfl, rfl, h⟩
           rw [F79_c4.eq_1] at h
           refine AW.seq_mid (fun ρ H => ∃ (x65 : Int), ρ = [(1, (.ptr n2 0)), (2, (.ptr n3 0)), (3, (.own n4 0 x62.length)), (5, (.ptr n7 0)), (6, (.own n63 0 x64.length)), (7, (eI64 x22)), (8, (.own n55 0 x56.length)), (10, (eI64 x65)), (58, (.fz 1 ((lget p0.f1 (lget x21 x22)).map eI64))), (59, (eI64 ((lget p0.f1 (lget x21 x22)).length : Int))), (60, (eI64 x57))] ∧ H = [(n2, (.mem (e55 p0))), (n3, (.mem (.st [(256, (.ar 1 ((Vector.replicate 256 (0 : Int)).toList.map eU8))), (1, (.fl (.slice none 0 0))), (1, (.fl (.slice none 0 0)))]))), (n4, (.mem (.ar 1 (x62.map eI64)))), (n7, (.mem (.st [(256, (.ar 1 (p0.f0.toList.map eU8))), (1, (.own n16 0 x17.length)), (1, (.own n18 0 x19.length))]))), (n16, (.mem (.ar 1 (x17.map e35)))), (n18, (.mem (.ar 1 (x19.map eI64)))), (n63, (.mem (.ar 1 (x64.map eI64)))), (n55, (.mem (.ar 1 (x56.map eI64))))] ∧ F79_c3 k rec58 x56 x57 x62 x64 x65 = some r) ?_ ?_
           ·refine AW.sr ?_
            refine AO.mv rfl rfl ?_
            refine AO.c (x := eBool (decide ((0 : Int) ≤ (lget (lget p0.f1 (lget x21 x22)) x57)))) (Calm.int rfl rfl rfl rfl) ?_
            refine AO.nK [1, 2, 3, 5, 6, 7, 8, 10, 58, 59, 60, 83] ?_
            rcases of_ite h with ⟨hc69, h⟩ | ⟨hc69, h⟩
            ·refine AW.condP _ rfl hc69 ?_
             refine AW.reg ?_
             refine AO.mv rfl rfl ?_
             refine AO.mv rfl rfl ?_
             obtain ⟨hg70, h⟩ := of_guard h
             refine AO.c (Calm.idxO 2 rfl rfl rfl rfl hg70 Try.underlying35 sz3) ?_
             refine AO.c (Calm.load 2 rfl rfl rfl (At.cast (At.lidx (lget (lget p0.f1 (lget x21 x22)) x57) hg70.1 hg70.2 At.here) (by omega)) ag3 sz3) ?_
             refine AO.ag rfl rfl ?_
             refine AO.nK [1, 2, 3, 5, 6, 7, 8, 10, 58, 59, 60] ?_
             exact ⟨(lget x62 (lget (lget p0.f1 (lget x21 x22)) x57)), rfl, rfl, h⟩
            ·refine AW.condN _ rfl hc69 ?_
             refine AW.sK [1, 2, 3, 5, 6, 7, 8, 10, 58, 59, 60] ?_
             exact ⟨(lget (lget p0.f1 (lget x21 x22)) x57), rfl, rfl, h⟩
           ·rintro _ _ ⟨x65, rfl, rfl, h⟩
            rw [F79_c3.eq_1] at h
            refine AW.reg ?_
            refine AO.mv rfl rfl ?_
            refine AO.mv rfl rfl ?_
            refine AO.lit (Z := (eI64 (0 : Int))) (xs := (([x65] : List Int).map eI64)) (qs := [(0, (eI64 x65))]) rfl 90 rfl (by decide) rfl ⟨rfl, rfl, rfl, trivial⟩ Try.underlying35 sz3 zr3 lay3 rfl (by decide) (litOK (z := 1) [(eI64 x65)] rfl ⟨⟨rfl, rfl⟩, trivial⟩) rfl fun n66 => ?_
            obtain ⟨hg68, h⟩ := of_guard h
            refine AO.appendL (l := x56) (m := ([x65] : List Int)) 8 91 rfl (by decide) rfl rfl rfl rfl rfl (Src.ownL (f := eI64) (l := ([x65] : List Int)) 0 rfl) Try.underlying35 Try.underlying35 sz3 by3 zr3 rfl hg68 (by decide) fun n67 => ?_
            refine AO.ag rfl rfl ?_
            refine AO.nH [1, 2, 3, 5, 6, 7, 8, 58, 59, 60] (H' := [(n2, (.mem (e55 p0))), (n3, (.mem (.st [(256, (.ar 1 ((Vector.replicate 256 (0 : Int)).toList.map eU8))), (1, (.fl (.slice none 0 0))), (1, (.fl (.slice none 0 0)))]))), (n4, (.mem (.ar 1 (x62.map eI64)))), (n7, (.mem (.st [(256, (.ar 1 (p0.f0.toList.map eU8))), (1, (.own n16 0 x17.length)), (1, (.own n18 0 x19.length))]))), (n16, (.mem (.ar 1 (x17.map e35)))), (n18, (.mem (.ar 1 (x19.map eI64)))), (n63, (.mem (.ar 1 (x64.map eI64)))), (n67, (.mem (.ar 1 ((x56 ++ ([x65] : List Int)).map eI64))))]) (Sub.cons 1 rfl (Sub.cons 1 rfl (Sub.cons 1 rfl (Sub.cons 1 rfl (Sub.cons 1 rfl (Sub.cons 1 rfl (Sub.cons 1 rfl (Sub.cons 1 rfl (Sub.nil _))))))))) ?_
            refine AW.reg ?_
            refine AO.c (x := eI64 (w64 (x57 + (1 : Int)))) (Calm.int rfl rfl rfl rfl) ?_
            refine AO.mv rfl rfl ?_
            refine AO.nK [1, 2, 3, 5, 6, 7, 8, 58, 59, 60] ?_
            exact ⟨kq59, Nat.lt_succ_self _, n63, n67, x62, x64, (x56 ++ ([x65] : List Int)), (w64 (x57 + (1 : Int))), rfl, rfl, by rw [hrec58]; exact h⟩
         ·refine AW.condN _ rfl hc60 ?_
          refine AW.eK [1, 2, 3, 5, 6, 7, 8] ?_
          exact ⟨n53, n55, x52, x54, x56, rfl, rfl, h⟩
        ·rintro _ _ ⟨n38, n40, x37, x39, x41, rfl, rfl, h⟩
         rw [F79_c2.eq_1] at h
         refine AW.sr ?_
         refine AO.c (x := .ptr n7 256) (Calm.fldPtr rfl rfl Try.underlying55 rfl sz53 _ rfl) ?_
         refine AO.c (Calm.load 3 rfl rfl rfl (At.cast (At.fldS (At.fld0 At.here)) rfl) ag53 sz53) ?_
         refine AO.mv rfl rfl ?_
         refine AO.freezeS 7 [(8, (.fz 1 (x41.map eI64))), (95, (.fz 1 (x41.map eI64)))] rfl ⟨fz_all rfl, fz_all rfl, trivial⟩ ?_
         refine AO.lit (Z := (.fl (.slice none 0 0))) (xs := (([x41] : List (List Int)).map e35)) (qs := [(0, (.fz 1 (x41.map eI64)))]) rfl 96 rfl (by decide) rfl ⟨rfl, rfl, rfl, trivial⟩ Try.underlying53 sz35 zr35 lay35 rfl (by decide) (litOK (z := 1) [(.fz 1 (x41.map eI64))] rfl ⟨⟨rfl, rfl⟩, trivial⟩) rfl fun n42 => ?_
         obtain ⟨hg44, h⟩ := of_guard h
         refine AO.appendL (l := x17) (m := ([x41] : List (List Int))) 5 97 rfl (by decide) rfl rfl rfl rfl rfl (Src.ownL (f := e35) (l := ([x41] : List (List Int))) 0 rfl) Try.underlying53 Try.underlying53 sz35 by35 zr35 rfl hg44 (by decide) fun n43 => ?_
         refine AO.c (x := .ptr n7 256) (Calm.fldPtr rfl rfl Try.underlying55 rfl sz53 _ rfl) ?_
         refine AO.store (X' := (.st [(256, (.ar 1 (p0.f0.toList.map eU8))), (1, (.own n43 0 (x17 ++ ([x41] : List (List Int))).length)), (1, (.own n18 0 x19.length))])) 4 rfl rfl rfl rfl rfl rfl (Put.cast (Put.fldS (Put.fld0 Put.here)) rfl) rfl rfl sz53 rfl ?_
         refine AO.nH [1, 2, 3, 5, 6, 7] (H' := [(n2, (.mem (e55 p0))), (n3, (.mem (.st [(256, (.ar 1 ((Vector.replicate 256 (0 : Int)).toList.map eU8))), (1, (.fl (.slice none 0 0))), (1, (.fl (.slice none 0 0)))]))), (n4, (.mem (.ar 1 (x37.map eI64)))), (n7, (.mem (.st [(256, (.ar 1 (p0.f0.toList.map eU8))), (1, (.own n43 0 (x17 ++ ([x41] : List (List Int))).length)), (1, (.own n18 0 x19.length))]))), (n43, (.mem (.ar 1 ((x17 ++ ([x41] : List (List Int))).map e35)))), (n18, (.mem (.ar 1 (x19.map eI64)))), (n38, (.mem (.ar 1 (x39.map eI64))))]) (Sub.cons 1 rfl (Sub.cons 1 rfl (Sub.cons 1 rfl (Sub.cons 1 rfl (Sub.cons 1 rfl (Sub.cons 1 rfl (Sub.cons 1 rfl (Sub.nil _)))))))) ?_
         obtain ⟨hg45, h⟩ := of_guard h
         obtain ⟨hg46, h⟩ := of_guard h
         obtain ⟨hg49, h⟩ := of_guard h
         refine AW.regEff (by rfl) (by decide +kernel) (fun (σ : Nat → Nat) => ([(.ptr n7 257), (.own n18 0 x19.length), (.ptr n2 257), (.fz 1 (p0.f2.map eI64)), (.own n38 0 x39.length), (eI64 x22), (.ptr n38 (x22.toNat * 1 + 0)), (eI64 (lget x39 x22)), (.rp (eI64 (lget p0.f2 (lget x39 x22)))), (eI64 (lget p0.f2 (lget x39 x22))), (.fz 1 (([(lget p0.f2 (lget x39 x22))] : List Int).map eI64)), (.own (σ 11) 0 (x19 ++ ([(lget p0.f2 (lget x39 x22))] : List Int)).length), (.ptr n7 257), (.fl undef)] : List AV)) (fun (L : Nat → Bool) (σ : Nat → Nat) => ((n2, (.mem (e55 p0))) :: (n3, (.mem (.st [(256, (.ar 1 ((Vector.replicate 256 (0 : Int)).toList.map eU8))), (1, (.fl (.slice none 0 0))), (1, (.fl (.slice none 0 0)))]))) :: (n4, (.mem (.ar 1 (x37.map eI64)))) :: (n43, (.mem (.ar 1 ((x17 ++ ([x41] : List (List Int))).map e35)))) :: (n38, (.mem (.ar 1 (x39.map eI64)))) :: (bif L 11 then (bif L 13 then ((n7, (.mem (.st [(256, (.ar 1 (p0.f0.toList.map eU8))), (1, (.own n43 0 (x17 ++ ([x41] : List (List Int))).length)), (1, (.own (σ 11) 0 (x19 ++ ([(lget p0.f2 (lget x39 x22))] : List Int)).length))]))) :: ((σ 11), (.mem (.ar 1 ((x19 ++ ([(lget p0.f2 (lget x39 x22))] : List Int)).map eI64)))) :: []) else ((n7, (.mem (.st [(256, (.ar 1 (p0.f0.toList.map eU8))), (1, (.own n43 0 (x17 ++ ([x41] : List (List Int))).length)), (1, (.own n18 0 x19.length))]))) :: ((σ 11), (.mem (.ar 1 ((x19 ++ ([(lget p0.f2 (lget x39 x22))] : List Int)).map eI64)))) :: [])) else ((n7, (.mem (.st [(256, (.ar 1 (p0.f0.toList.map eU8))), (1, (.own n43 0 (x17 ++ ([x41] : List (List Int))).length)), (1, (.own n18 0 x19.length))]))) :: (n18, (.mem (.ar 1 (x19.map eI64)))) :: [])) : Heap)) [(1, (.ptr n2 0)), (2, (.ptr n3 0)), (3, (.own n4 0 x37.length)), (5, (.ptr n7 0)), (6, (.own n38 0 x39.length)), (7, (eI64 x22))] ⟨rfl, rfl, rfl, rfl, rfl, rfl, trivial⟩ (fun _ => rfl) (fun σ => (Sub.cons 0 rfl (Sub.cons 0 rfl (Sub.cons 0 rfl (Sub.cons 1 rfl (Sub.cons 2 rfl (Sub.cons 0 rfl (Sub.cons 0 rfl (Sub.refl _))))))))) ⟨?_, ?_, ?_, ?_, ?_, ?_, ?_, ?_, ?_, ?_, ?_, ?_, ?_, ?_, trivial⟩ (fun σ => [(1, (.ptr n2 0)), (2, (.ptr n3 0)), (3, (.own n4 0 x37.length)), (5, (.ptr n7 0)), (6, (.own n38 0 x39.length)), (7, (eI64 x22))]) (fun σ => ((n2, (.mem (e55 p0))) :: (n3, (.mem (.st [(256, (.ar 1 ((Vector.replicate 256 (0 : Int)).toList.map eU8))), (1, (.fl (.slice none 0 0))), (1, (.fl (.slice none 0 0)))]))) :: (n4, (.mem (.ar 1 (x37.map eI64)))) :: (n43, (.mem (.ar 1 ((x17 ++ ([x41] : List (List Int))).map e35)))) :: (n38, (.mem (.ar 1 (x39.map eI64)))) :: (n7, (.mem (.st [(256, (.ar 1 (p0.f0.toList.map eU8))), (1, (.own n43 0 (x17 ++ ([x41] : List (List Int))).length)), (1, (.own (σ 11) 0 (x19 ++ ([(lget p0.f2 (lget x39 x22))] : List Int)).length))]))) :: ((σ 11), (.mem (.ar 1 ((x19 ++ ([(lget p0.f2 (lget x39 x22))] : List Int)).map eI64)))) :: [])) (fun σ => ⟨rfl, rfl, rfl, rfl, rfl, rfl, trivial⟩) (fun σ => Sub.refl _) (fun σ => ?_)
         ·refine StepE.calm (fun _ _ => rfl) fun L σ hc hi hd => ?_
          have m1 : L 1 = false := hc.neg (i := 0) (j := 1) rfl (by rfl) hi
          have m11 : L 11 = false := hc.neg (i := 1) (j := 11) rfl (by rfl) m1
          have m13 : L 13 = false := hc.neg (i := 0) (j := 13) rfl (by rfl) hi
          refine AO.heq (H' := ((n2, (.mem (e55 p0))) :: (n3, (.mem (.st [(256, (.ar 1 ((Vector.replicate 256 (0 : Int)).toList.map eU8))), (1, (.fl (.slice none 0 0))), (1, (.fl (.slice none 0 0)))]))) :: (n4, (.mem (.ar 1 (x37.map eI64)))) :: (n43, (.mem (.ar 1 ((x17 ++ ([x41] : List (List Int))).map e35)))) :: (n38, (.mem (.ar 1 (x39.map eI64)))) :: (n7, (.mem (.st [(256, (.ar 1 (p0.f0.toList.map eU8))), (1, (.own n43 0 (x17 ++ ([x41] : List (List Int))).length)), (1, (.own n18 0 x19.length))]))) :: (n18, (.mem (.ar 1 (x19.map eI64)))) :: [])) (by first | rfl | simp only [m11, m13, cond_true, cond_false]) ?_
          refine AO.wK [5] ?_
          refine AO.c (x := .ptr n7 257) (Calm.fldPtr rfl rfl Try.underlying55 rfl sz35 _ rfl) ?_
          exact AO.nE (d := 99) rfl ⟨⟨99, _, rfl, rfl, rfl⟩, Sub.of_eq (by first | rfl | simp only [m11, m13, cond_true, cond_false]) (Sub.refl _)⟩
         ·refine StepE.calm (fun _ _ => rfl) fun L σ hc hi hd => ?_
          have m11 : L 11 = false := hc.neg (i := 1) (j := 11) rfl (by rfl) hi
          have m13 : L 13 = false := hc.neg (i := 1) (j := 13) rfl (by rfl) hi
          refine AO.heq (H' := ((n2, (.mem (e55 p0))) :: (n3, (.mem (.st [(256, (.ar 1 ((Vector.replicate 256 (0 : Int)).toList.map eU8))), (1, (.fl (.slice none 0 0))), (1, (.fl (.slice none 0 0)))]))) :: (n4, (.mem (.ar 1 (x37.map eI64)))) :: (n43, (.mem (.ar 1 ((x17 ++ ([x41] : List (List Int))).map e35)))) :: (n38, (.mem (.ar 1 (x39.map eI64)))) :: (n7, (.mem (.st [(256, (.ar 1 (p0.f0.toList.map eU8))), (1, (.own n43 0 (x17 ++ ([x41] : List (List Int))).length)), (1, (.own n18 0 x19.length))]))) :: (n18, (.mem (.ar 1 (x19.map eI64)))) :: [])) (by first | rfl | simp only [m11, m13, cond_true, cond_false]) ?_
          refine AO.wK [99] ?_
          refine AO.c (Calm.load 5 rfl rfl rfl (At.cast (At.fldS (At.fldS (At.fld0 At.here))) rfl) ag35 sz35) ?_
          exact AO.nE (d := 100) rfl ⟨⟨100, _, rfl, rfl, rfl⟩, Sub.of_eq (by first | rfl | simp only [m11, m13, cond_true, cond_false]) (Sub.refl _)⟩
         ·refine StepE.calm (fun _ _ => rfl) fun L σ hc hi hd => ?_
          refine AO.wK [1] ?_
          refine AO.c (x := .ptr n2 257) (Calm.fldPtr rfl rfl Try.underlying55 rfl sz35 _ rfl) ?_
          exact AO.nE (d := 101) rfl ⟨⟨101, _, rfl, rfl, rfl⟩, Sub.refl _⟩
         ·refine StepE.calm (fun _ _ => rfl) fun L σ hc hi hd => ?_
          refine AO.wK [101] ?_
          refine AO.c (Calm.load 0 rfl rfl rfl (At.cast (At.fldS (At.fldS (At.fld0 At.here))) rfl) ag35 sz35) ?_
          exact AO.nE (d := 102) rfl ⟨⟨102, _, rfl, rfl, rfl⟩, Sub.refl _⟩
         ·refine StepE.calm (fun _ _ => rfl) fun L σ hc hi hd => ?_
          refine AO.wK [6] ?_
          refine AO.mv rfl rfl ?_
          exact AO.nE (d := 103) rfl ⟨⟨103, _, rfl, rfl, rfl⟩, Sub.refl _⟩
         ·refine StepE.calm (fun _ _ => rfl) fun L σ hc hi hd => ?_
          refine AO.wK [7] ?_
          refine AO.mv rfl rfl ?_
          exact AO.nE (d := 104) rfl ⟨⟨104, _, rfl, rfl, rfl⟩, Sub.refl _⟩
         ·refine StepE.calm (fun _ _ => rfl) fun L σ hc hi hd => ?_
          refine AO.wK [103, 104] ?_
          refine AO.c (Calm.idxO 4 rfl rfl rfl rfl hg45 Try.underlying35 sz3) ?_
          exact AO.nE (d := 105) rfl ⟨⟨105, _, rfl, rfl, rfl⟩, Sub.refl _⟩
         ·refine StepE.calm (fun _ _ => rfl) fun L σ hc hi hd => ?_
          refine AO.wK [105] ?_
          refine AO.c (Calm.load 4 rfl rfl rfl (At.cast (At.lidx x22 hg45.1 hg45.2 At.here) (by omega)) ag3 sz3) ?_
          exact AO.nE (d := 106) rfl ⟨⟨106, _, rfl, rfl, rfl⟩, Sub.refl _⟩
         ·refine StepE.calm (fun _ _ => rfl) fun L σ hc hi hd => ?_
          refine AO.wK [102, 106] ?_
          refine AO.c (Calm.idxL (f := eI64) rfl rfl rfl hg46 Try.underlying35 sz3) ?_
          exact AO.nE (d := 107) rfl ⟨⟨107, _, rfl, rfl, rfl⟩, Sub.refl _⟩
         ·refine StepE.calm (fun _ _ => rfl) fun L σ hc hi hd => ?_
          refine AO.wK [107] ?_
          refine AO.c (Calm.loadRp rfl rfl ag3 sz3) ?_
          exact AO.nE (d := 108) rfl ⟨⟨108, _, rfl, rfl, rfl⟩, Sub.refl _⟩
         ·refine StepE.calm (fun _ _ => rfl) fun L σ hc hi hd => ?_
          refine AO.wK [108] ?_
          refine AO.lit (Z := (eI64 (0 : Int))) (xs := (([(lget p0.f2 (lget x39 x22))] : List Int).map eI64)) (qs := [(0, (eI64 (lget p0.f2 (lget x39 x22))))]) rfl 109 rfl (by decide) rfl ⟨rfl, rfl, rfl, trivial⟩ Try.underlying35 sz3 zr3 lay3 rfl (by decide) (litOK (z := 1) [(eI64 (lget p0.f2 (lget x39 x22)))] rfl ⟨⟨rfl, rfl⟩, trivial⟩) rfl fun n47 => ?_
          refine AO.freezeS 0 [(109, (.fz 1 (([(lget p0.f2 (lget x39 x22))] : List Int).map eI64)))] rfl ⟨fz_all rfl, trivial⟩ ?_
          exact AO.nE (d := 109) rfl ⟨⟨109, _, rfl, rfl, rfl⟩, Sub.refl _⟩
         ·intro L σ hc hi hd
          have m13 : L 13 = false := hc.neg (i := 11) (j := 13) rfl (by rfl) hi
          refine AO.heq (H' := ((n2, (.mem (e55 p0))) :: (n3, (.mem (.st [(256, (.ar 1 ((Vector.replicate 256 (0 : Int)).toList.map eU8))), (1, (.fl (.slice none 0 0))), (1, (.fl (.slice none 0 0)))]))) :: (n4, (.mem (.ar 1 (x37.map eI64)))) :: (n43, (.mem (.ar 1 ((x17 ++ ([x41] : List (List Int))).map e35)))) :: (n38, (.mem (.ar 1 (x39.map eI64)))) :: (n7, (.mem (.st [(256, (.ar 1 (p0.f0.toList.map eU8))), (1, (.own n43 0 (x17 ++ ([x41] : List (List Int))).length)), (1, (.own n18 0 x19.length))]))) :: (n18, (.mem (.ar 1 (x19.map eI64)))) :: [])) (by first | rfl | simp only [hi, m13, cond_true, cond_false]) ?_
          refine AO.wK [100, 109] ?_
          refine AO.appendL (l := x19) (m := ([(lget p0.f2 (lget x39 x22))] : List Int)) 6 110 rfl (by decide) rfl rfl rfl rfl rfl Src.fz Try.underlying35 Try.underlying35 sz3 by3 zr3 rfl hg49 (by decide) fun n48 => ?_
          have a11 : addL L 11 11 = true := rfl
          have a13 : addL L 11 13 = false := m13
          have u11 : upd σ 11 n48 11 = n48 := rfl
          exact AO.nE (d := 110) rfl ⟨(upd σ 11 n48), (fun j hj => match j, hj with | 0, _ => rfl | 1, _ => rfl | 2, _ => rfl | 3, _ => rfl | 4, _ => rfl | 5, _ => rfl | 6, _ => rfl | 7, _ => rfl | 8, _ => rfl | 9, _ => rfl | 10, _ => rfl | 11, hj => Bool.noConfusion (hj.symm.trans hi) | 12, _ => rfl | 13, _ => rfl | _ + 14, _ => rfl), (fun d' hd' => ⟨_, rfl, by cases hd'; rfl⟩), Sub.of_eq (B := ((n2, (.mem (e55 p0))) :: (n3, (.mem (.st [(256, (.ar 1 ((Vector.replicate 256 (0 : Int)).toList.map eU8))), (1, (.fl (.slice none 0 0))), (1, (.fl (.slice none 0 0)))]))) :: (n4, (.mem (.ar 1 (x37.map eI64)))) :: (n43, (.mem (.ar 1 ((x17 ++ ([x41] : List (List Int))).map e35)))) :: (n38, (.mem (.ar 1 (x39.map eI64)))) :: (n7, (.mem (.st [(256, (.ar 1 (p0.f0.toList.map eU8))), (1, (.own n43 0 (x17 ++ ([x41] : List (List Int))).length)), (1, (.own n18 0 x19.length))]))) :: (n48, (.mem (.ar 1 ((x19 ++ ([(lget p0.f2 (lget x39 x22))] : List Int)).map eI64)))) :: [])) (by simp only [a11, a13, u11, cond_true, cond_false]) (Sub.refl _)⟩
         ·refine StepE.calm (fun _ _ => rfl) fun L σ hc hi hd => ?_
          have y11 : L 11 = true := on_get hd (i := 11) (by rfl)
          have m13 : L 13 = false := hc.neg (i := 12) (j := 13) rfl (by rfl) hi
          refine AO.heq (H' := ((n2, (.mem (e55 p0))) :: (n3, (.mem (.st [(256, (.ar 1 ((Vector.replicate 256 (0 : Int)).toList.map eU8))), (1, (.fl (.slice none 0 0))), (1, (.fl (.slice none 0 0)))]))) :: (n4, (.mem (.ar 1 (x37.map eI64)))) :: (n43, (.mem (.ar 1 ((x17 ++ ([x41] : List (List Int))).map e35)))) :: (n38, (.mem (.ar 1 (x39.map eI64)))) :: (n7, (.mem (.st [(256, (.ar 1 (p0.f0.toList.map eU8))), (1, (.own n43 0 (x17 ++ ([x41] : List (List Int))).length)), (1, (.own n18 0 x19.length))]))) :: ((σ 11), (.mem (.ar 1 ((x19 ++ ([(lget p0.f2 (lget x39 x22))] : List Int)).map eI64)))) :: [])) (by first | rfl | simp only [y11, m13, cond_true, cond_false]) ?_
          refine AO.wK [5] ?_
          refine AO.c (x := .ptr n7 257) (Calm.fldPtr rfl rfl Try.underlying55 rfl sz35 _ rfl) ?_
          exact AO.nE (d := 111) rfl ⟨⟨111, _, rfl, rfl, rfl⟩, Sub.of_eq (by first | rfl | simp only [y11, m13, cond_true, cond_false]) (Sub.refl _)⟩
         ·intro L σ hc hi hd
          have y11 : L 11 = true := on_get hd (i := 11) (by rfl)
          refine AO.heq (H' := ((n2, (.mem (e55 p0))) :: (n3, (.mem (.st [(256, (.ar 1 ((Vector.replicate 256 (0 : Int)).toList.map eU8))), (1, (.fl (.slice none 0 0))), (1, (.fl (.slice none 0 0)))]))) :: (n4, (.mem (.ar 1 (x37.map eI64)))) :: (n43, (.mem (.ar 1 ((x17 ++ ([x41] : List (List Int))).map e35)))) :: (n38, (.mem (.ar 1 (x39.map eI64)))) :: (n7, (.mem (.st [(256, (.ar 1 (p0.f0.toList.map eU8))), (1, (.own n43 0 (x17 ++ ([x41] : List (List Int))).length)), (1, (.own n18 0 x19.length))]))) :: ((σ 11), (.mem (.ar 1 ((x19 ++ ([(lget p0.f2 (lget x39 x22))] : List Int)).map eI64)))) :: [])) (by first | rfl | simp only [hi, y11, cond_true, cond_false]) ?_
          refine AO.wK [110, 111] ?_
          refine AO.store (X' := (.st [(256, (.ar 1 (p0.f0.toList.map eU8))), (1, (.own n43 0 (x17 ++ ([x41] : List (List Int))).length)), (1, (.own (σ 11) 0 (x19 ++ ([(lget p0.f2 (lget x39 x22))] : List Int)).length))])) 5 rfl rfl rfl rfl rfl rfl (Put.cast (Put.fldS (Put.fldS (Put.fld0 Put.here))) rfl) rfl rfl sz35 rfl ?_
          have a11 : addL L 13 11 = true := y11
          have a13 : addL L 13 13 = true := rfl
          exact AO.n0 ⟨σ, (fun _ _ => rfl), (fun d' hd' => by cases hd'), Sub.of_eq (B := ((n2, (.mem (e55 p0))) :: (n3, (.mem (.st [(256, (.ar 1 ((Vector.replicate 256 (0 : Int)).toList.map eU8))), (1, (.fl (.slice none 0 0))), (1, (.fl (.slice none 0 0)))]))) :: (n4, (.mem (.ar 1 (x37.map eI64)))) :: (n43, (.mem (.ar 1 ((x17 ++ ([x41] : List (List Int))).map e35)))) :: (n38, (.mem (.ar 1 (x39.map eI64)))) :: (n7, (.mem (.st [(256, (.ar 1 (p0.f0.toList.map eU8))), (1, (.own n43 0 (x17 ++ ([x41] : List (List Int))).length)), (1, (.own (σ 11) 0 (x19 ++ ([(lget p0.f2 (lget x39 x22))] : List Int)).length))]))) :: ((σ 11), (.mem (.ar 1 ((x19 ++ ([(lget p0.f2 (lget x39 x22))] : List Int)).map eI64)))) :: [])) (by simp only [a11, a13, cond_true, cond_false]) (Sub.refl _)⟩
         ·generalize σ 11 = n48
          refine AO.nH [1, 2, 3, 5, 6, 7] (H' := [(n2, (.mem (e55 p0))), (n3, (.mem (.st [(256, (.ar 1 ((Vector.replicate 256 (0 : Int)).toList.map eU8))), (1, (.fl (.slice none 0 0))), (1, (.fl (.slice none 0 0)))]))), (n4, (.mem (.ar 1 (x37.map eI64)))), (n7, (.mem (.st [(256, (.ar 1 (p0.f0.toList.map eU8))), (1, (.own n43 0 (x17 ++ ([x41] : List (List Int))).length)), (1, (.own n48 0 (x19 ++ ([(lget p0.f2 (lget x39 x22))] : List Int)).length))]))), (n43, (.mem (.ar 1 ((x17 ++ ([x41] : List (List Int))).map e35)))), (n48, (.mem (.ar 1 ((x19 ++ ([(lget p0.f2 (lget x39 x22))] : List Int)).map eI64)))), (n38, (.mem (.ar 1 (x39.map eI64))))]) (Sub.cons 0 rfl (Sub.cons 0 rfl (Sub.cons 0 rfl (Sub.cons 2 rfl (Sub.cons 0 rfl (Sub.cons 1 rfl (Sub.cons 0 rfl (Sub.nil _)))))))) ?_
          exact ⟨n43, n48, n38, x37, (x17 ++ ([x41] : List (List Int))), (x19 ++ ([(lget p0.f2 (lget x39 x22))] : List Int)), x39, rfl, rfl, h⟩
      ·rintro _ _ ⟨n27, n29, n31, x26, x28, x30, x32, rfl, rfl, h⟩
       rw [F79_c1.eq_1] at h
       refine AW.reg ?_
       refine AO.mv rfl rfl ?_
       refine AO.c (x := eI64 (w64 (x22 + (1 : Int)))) (Calm.int rfl rfl rfl rfl) ?_
       refine AO.ag rfl rfl ?_
       refine AO.nK [1, 2, 3, 5, 6, 7] ?_
       exact ⟨kq24, Nat.lt_succ_self _, n27, n29, n31, x26, x28, x30, x32, (w64 (x22 + (1 : Int))), rfl, rfl, by rw [hrec23]; exact h⟩
     ·refine AW.condN _ rfl hc25 ?_
      refine AW.eH [2, 5] (H' := [(n3, (.mem (.st [(256, (.ar 1 ((Vector.replicate 256 (0 : Int)).toList.map eU8))), (1, (.fl (.slice none 0 0))), (1, (.fl (.slice none 0 0)))]))), (n7, (.mem (.st [(256, (.ar 1 (p0.f0.toList.map eU8))), (1, (.own n16 0 x17.length)), (1, (.own n18 0 x19.length))]))), (n16, (.mem (.ar 1 (x17.map e35)))), (n18, (.mem (.ar 1 (x19.map eI64))))]) (Sub.cons 1 rfl (Sub.cons 2 rfl (Sub.cons 2 rfl (Sub.cons 2 rfl (Sub.nil _))))) ?_
      exact ⟨n16, n18, x17, x19, rfl, rfl, h⟩
    ·rintro _ _ ⟨n11, n13, x12, x14, rfl, rfl, h⟩
     rw [F79_c0.eq_1] at h
     refine AW.sr ?_
     refine AO.freezeFld (X' := (.st [(256, (.ar 1 (p0.f0.toList.map eU8))), (1, (.fz 1 (x12.map e35))), (1, (.own n13 0 x14.length))])) (els' := (x12.map e35)) 2 1 rfl rfl (Put.cast (Put.fldS (Put.fld0 Put.here)) rfl) (by simp) (by rw [own_all]) rfl rfl (by decide) ?_
     refine AO.freezeFld (X' := (.st [(256, (.ar 1 (p0.f0.toList.map eU8))), (1, (.fz 1 (x12.map e35))), (1, (.fz 1 (x14.map eI64)))])) (els' := (x14.map eI64)) 2 1 rfl rfl (Put.cast (Put.fldS (Put.fldS (Put.fld0 Put.here))) rfl) (by simp) (by rw [own_all]) rfl rfl (by decide) ?_
     refine AO.c (x := e55 (S55.mk p0.f0 x12 x14)) (Calm.load 1 rfl rfl rfl (At.cast At.here rfl) ag55 sz55) ?_
     refine AO.store (X' := (e55 (S55.mk p0.f0 x12 x14))) 0 rfl rfl rfl rfl rfl rfl (Put.cast Put.here rfl) rfl rfl sz55 rfl ?_
     refine AO.nH [2] (H' := [(n3, (.mem (e55 (S55.mk p0.f0 x12 x14))))]) (Sub.cons 0 rfl (Sub.nil _)) ?_
     refine AW.rK [2] ?_
     have hr := Option.some.inj h
     subst hr
     exact ⟨[(e55 (S55.mk p0.f0 x12 x14))], ⟨⟨_, 0, rfl, rfl, ag55, sz55⟩, trivial⟩, rfl⟩
end Go.Avl.T7
/- bosket/mini.blocks; printed by avmain.py. -/
namespace Go.Avl.T7
open Go Go.RowKit Go.Proofs Go.Avl
set_option linter.unusedVariables false
set_option maxRecDepth 100000
set_option maxHeartbeats 4000000
attribute [local irreducible] AW AO AQ Spec SpecH Calm

def F106_c0 (k : Nat) (x5 : (List Int)) : Option (List Int) :=
  some (x5)
def F106_l1 (k : Nat) (p0 : S55) : Nat → (List Int) → Int → Option (List Int)
  | 0, _, _ => none
  | j + 1, x6, x7 =>
    if x7 < (p0.f2.length : Int) then if 0 ≤ x7 ∧ x7 < (p0.f2.length : Int) then if 0 ≤ x7 ∧ x7 < (x6.length : Int) then (F106_l1 k p0 j) (lset x6 x7 (w64 ((lget p0.f2 x7) + (1 : Int)))) (w64 (x7 + (1 : Int)))
    else none
    else none
    else F106_c0 k x6
def F106 (k : Nat) (p0 : S55) : Option (List Int) :=
  if 0 ≤ (w64 ((p0.f1.length : Int) + (1 : Int))) ∧ (w64 ((p0.f1.length : Int) + (1 : Int))) * (8 : Int) ≤ 140737488355328 ∧ (w64 ((p0.f1.length : Int) + (1 : Int))) ≤ 9223372036854775807 then F106_l1 k p0 k (List.replicate (w64 ((p0.f1.length : Int) + (1 : Int))).toNat (0 : Int)) (0 : Int)
  else none
theorem F106_spec {k : Nat} {p0 : S55} {r : (List Int)} (h : F106 k p0 = some r) : Spec Try.prog 106 [(e55 p0)] (e35 r) := by
  rw [F106.eq_1] at h
  refine Spec.intro (res := [.tmp 2]) Try.func106 rfl rfl rfl (Nat.le_of_ble_eq_true rfl) ?_
  refine AW.sr ?_
  refine AO.box rfl 1 rfl (by decide) rfl rfl rfl fun n2 => ?_
  refine AO.ag rfl rfl ?_
  refine AO.nK [1] ?_
  refine AW.sr ?_
  refine AO.c (x := .ptr n2 256) (Calm.fldPtr rfl rfl Try.underlying55 rfl sz53 _ rfl) ?_
  refine AO.c (Calm.load 0 rfl rfl rfl (At.cast (At.fldS (At.fld0 At.here)) rfl) ag53 sz53) ?_
  refine AO.c (Calm.lenL rfl rfl Try.underlying53) ?_
  refine AO.c (x := eI64 (w64 ((p0.f1.length : Int) + (1 : Int)))) (Calm.int rfl rfl rfl rfl) ?_
  obtain ⟨hg4, h⟩ := of_guard h
  refine AO.makeL (f := eI64) (0 : Int) rfl 10 rfl (by decide) rfl rfl rfl Try.underlying35 sz3 by3 zr3 lay3 rfl hg4 fun n3 => ?_
  refine AO.ag rfl rfl ?_
  refine AO.nH [1, 3] (H' := [(n2, (.mem (e55 p0))), (n3, (.mem (.ar 1 ((List.replicate (w64 ((p0.f1.length : Int) + (1 : Int))).toNat (0 : Int)).map eI64))))]) (Sub.cons 1 rfl (Sub.cons 0 rfl (Sub.nil _))) ?_
  refine AW.seq_mid (fun ρ H => ∃ (x5 : (List Int)), ρ = [(3, (.own n3 0 x5.length))] ∧ H = [(n3, (.mem (.ar 1 (x5.map eI64))))] ∧ F106_c0 k x5 = some r) ?_ ?_
  ·refine AW.sr ?_
   refine AO.c (x := .ptr n2 257) (Calm.fldPtr rfl rfl Try.underlying55 rfl sz35 _ rfl) ?_
   refine AO.c (Calm.load 0 rfl rfl rfl (At.cast (At.fldS (At.fldS (At.fld0 At.here))) rfl) ag35 sz35) ?_
   refine AO.c (Calm.lenL rfl rfl Try.underlying35) ?_
   refine AO.mv rfl rfl ?_
   refine AO.nH [3, 12, 13, 14] (H' := [(n3, (.mem (.ar 1 ((List.replicate (w64 ((p0.f1.length : Int) + (1 : Int))).toNat (0 : Int)).map eI64))))]) (Sub.cons 1 rfl (Sub.nil _)) ?_
   refine AW.block ?_
   refine AW.wK [3, 12, 13, 14] ?_
   refine AW.loop (fun kq ρ H => ∃ (x6 : (List Int)) (x7 : Int), ρ = [(3, (.own n3 0 x6.length)), (12, (.fz 1 (p0.f2.map eI64))), (13, (eI64 (p0.f2.length : Int))), (14, (eI64 x7))] ∧ H = [(n3, (.mem (.ar 1 (x6.map eI64))))] ∧ F106_l1 k p0 kq x6 x7 = some r) k ⟨(List.replicate (w64 ((p0.f1.length : Int) + (1 : Int))).toNat (0 : Int)), (0 : Int), rfl, rfl, h⟩ ?_
   rintro kq9 _ _ ⟨x6, x7, rfl, rfl, h⟩
   cases kq9 with
   | zero => rw [F106_l1.eq_1] at h; cases h
   | succ kq9 =>
   rw [F106_l1.eq_2] at h
   generalize hrec8 : F106_l1 k p0 kq9 = rec8 at h
   refine AW.sr ?_
   refine AO.c (x := eBool (decide (x7 < (p0.f2.length : Int)))) (Calm.int rfl rfl rfl rfl) ?_
   refine AO.nK [3, 12, 13, 14, 15] ?_
   refine AW.seq ?_
   rcases of_ite h with ⟨hc10, h⟩ | ⟨hc10, h⟩
   ·refine AW.condP _ rfl hc10 ?_
    refine AW.sK [3, 12, 13, 14] ?_
    refine AW.seq ?_
    refine AW.block ?_
    refine AW.sr ?_
    refine AO.mv rfl rfl ?_
    obtain ⟨hg11, h⟩ := of_guard h
    refine AO.c (Calm.idxL (f := eI64) rfl rfl rfl hg11 Try.underlying35 sz3) ?_
    refine AO.c (Calm.loadRp rfl rfl ag3 sz3) ?_
    refine AO.ag rfl rfl ?_
    refine AO.ag rfl rfl ?_
    refine AO.nK [3, 4, 5, 12, 13, 14] ?_
    refine AW.reg ?_
    refine AO.mv rfl rfl ?_
    refine AO.mv rfl rfl ?_
    refine AO.mv rfl rfl ?_
    refine AO.c (x := eI64 (w64 ((lget p0.f2 x7) + (1 : Int)))) (Calm.int rfl rfl rfl rfl) ?_
    obtain ⟨hg12, h⟩ := of_guard h
    refine AO.c (Calm.idxO 0 rfl rfl rfl rfl hg12 Try.underlying35 sz3) ?_
    refine AO.store (X' := (.ar 1 ((lset x6 x7 (w64 ((lget p0.f2 x7) + (1 : Int)))).map eI64))) 0 rfl rfl rfl rfl rfl rfl (Put.cast (Put.lidx x7 (w64 ((lget p0.f2 x7) + (1 : Int))) hg12.1 hg12.2 Put.here) (by omega)) rfl rfl sz3 rfl ?_
    refine AO.coe 3 (y' := (.own n3 0 (lset x6 x7 (w64 ((lget p0.f2 x7) + (1 : Int)))).length)) rfl (fun _ _ h => lset_own h) ?_
    refine AO.coe 19 (y' := (.own n3 0 (lset x6 x7 (w64 ((lget p0.f2 x7) + (1 : Int)))).length)) rfl (fun _ _ h => lset_own h) ?_
    refine AO.nK [3, 12, 13, 14] ?_
    refine AW.reg ?_
    refine AO.c (x := eI64 (w64 (x7 + (1 : Int)))) (Calm.int rfl rfl rfl rfl) ?_
    refine AO.mv rfl rfl ?_
    refine AO.nK [3, 12, 13, 14] ?_
    exact ⟨kq9, Nat.lt_succ_self _, (lset x6 x7 (w64 ((lget p0.f2 x7) + (1 : Int)))), (w64 (x7 + (1 : Int))), rfl, rfl, by rw [hrec8]; exact h⟩
   ·refine AW.condN _ rfl hc10 ?_
    refine AW.eK [3] ?_
    exact ⟨x6, rfl, rfl, h⟩
  ·rintro _ _ ⟨x5, rfl, rfl, h⟩
   rw [F106_c0.eq_1] at h
   refine AW.sr ?_
   refine AO.mv rfl rfl ?_
   refine AO.ag rfl rfl ?_
   refine AO.nK [2] ?_
   refine AW.freezeS 0 [(2, (.fz 1 (x5.map eI64)))] rfl ⟨fz_all rfl, trivial⟩ ?_
   refine AW.rK [2] ?_
   have hr := Option.some.inj h
   subst hr
   exact ⟨[(.fz 1 (x5.map eI64))], ⟨rfl, rfl, trivial⟩, rfl⟩
end Go.Avl.T7
/- bosket/mini.word; printed by avmain.py. -/
namespace Go.Avl.T7
open Go Go.RowKit Go.Proofs Go.Avl
set_option linter.unusedVariables false
set_option maxRecDepth 100000
set_option maxHeartbeats 4000000
attribute [local irreducible] AW AO AQ Spec SpecH Calm

def F127 (k : Nat) (p0 : Int) : Option ByteArray :=
  (some (strOfNums ([(w8 (Int.fdiv p0 (2 ^ (min (8 : Int).toNat IntKind.i64.bits)))), (w8 p0)] : List Int))).bind fun x3 =>
  some (x3)
theorem F127_spec {k : Nat} {p0 : Int} {r : ByteArray} (h : F127 k p0 = some r) : Spec Try.prog 127 [(eI64 p0)] (eStr r) := by
  rw [F127.eq_1] at h
  refine Spec.intro (res := [.tmp 2]) Try.func127 rfl rfl rfl (Nat.le_of_ble_eq_true rfl) ?_
  refine AW.sr ?_
  refine AO.ag rfl rfl ?_
  refine AO.nK [0] ?_
  refine AW.sr ?_
  refine AO.mv rfl rfl ?_
  refine AO.c (x := eI64 (Int.fdiv p0 (2 ^ (min (8 : Int).toNat IntKind.i64.bits)))) (Calm.shr rfl rfl rfl (by decide)) ?_
  refine AO.c (x := eU8 (w8 (Int.fdiv p0 (2 ^ (min (8 : Int).toNat IntKind.i64.bits))))) (Calm.conv rfl rfl Try.underlying3 Try.underlying5) ?_
  refine AO.mv rfl rfl ?_
  refine AO.c (x := eU8 (w8 p0)) (Calm.conv rfl rfl Try.underlying3 Try.underlying5) ?_
  refine AO.lit (Z := (eU8 (0 : Int))) (xs := (([(w8 (Int.fdiv p0 (2 ^ (min (8 : Int).toNat IntKind.i64.bits)))), (w8 p0)] : List Int).map eU8)) (qs := [(0, (eU8 (w8 (Int.fdiv p0 (2 ^ (min (8 : Int).toNat IntKind.i64.bits)))))), (1, (eU8 (w8 p0)))]) rfl 8 rfl (by decide) rfl ⟨rfl, rfl, rfl, rfl, rfl, rfl, trivial⟩ Try.underlying102 sz5 zr5 lay5 rfl (by decide) (litOK (z := 1) [(eU8 (w8 (Int.fdiv p0 (2 ^ (min (8 : Int).toNat IntKind.i64.bits))))), (eU8 (w8 p0))] rfl ⟨⟨rfl, rfl⟩, ⟨rfl, rfl⟩, trivial⟩) rfl fun n2 => ?_
  refine AO.c (x := eStr (strOfNums ([(w8 (Int.fdiv p0 (2 ^ (min (8 : Int).toNat IntKind.i64.bits)))), (w8 p0)] : List Int))) (Calm.strO 0 rfl rfl rfl Try.underlying102 Try.underlying9 Try.underlying5) ?_
  obtain ⟨x3, ex3, h⟩ := of_bind h
  refine AO.c (Calm.assign rfl (congrArg (fun x => some (eStr x)) (Option.some.inj ex3))) ?_
  refine AO.nH [2] (H' := []) (Sub.nil _) ?_
  refine AW.rK [2] ?_
  have hr := Option.some.inj h
  subst hr
  exact ⟨[(eStr x3)], ⟨rfl, rfl, trivial⟩, rfl⟩
end Go.Avl.T7
/- bosket/mini.row; printed by avmain.py. -/
namespace Go.Avl.T7
open Go Go.RowKit Go.Proofs Go.Avl
set_option linter.unusedVariables false
set_option maxRecDepth 100000
set_option maxHeartbeats 4000000
attribute [local irreducible] AW AO AQ Spec SpecH Calm

def F126_c0 (k : Nat) (x7 : ByteArray) : Option ByteArray :=
  some (x7)
def F126_c1 (k : Nat) (rec11 : (ByteArray → Int → Option ByteArray)) (p1 : (List Int)) (x9 : ByteArray) (x10 : Int) (x14 : Int) : Option ByteArray :=
  if 0 ≤ x14 ∧ x14 < (p1.length : Int) then (F127 k (lget p1 x14)).bind fun t16 =>
  if x9.size + t16.size ≤ 9223372036854775807 then rec11 (x9 ++ t16) (w64 (x10 + (1 : Int)))
  else none
  else none
def F126_l2 (k : Nat) (p0 : S55) (p1 : (List Int)) (p2 : Int) (t8 : Int) : Nat → ByteArray → Int → Option ByteArray
  | 0, _, _ => none
  | j + 1, x9, x10 =>
    if x10 < t8 then Option.bind (α := Bool) (if p2 < (p0.f1.length : Int) then if 0 ≤ p2 ∧ p2 < (p0.f1.length : Int) then if 0 ≤ x10 ∧ x10 < ((lget p0.f1 p2).length : Int) then some (decide ((0 : Int) ≤ (lget (lget p0.f1 p2) x10)))
    else none
    else none
    else some (false)) fun b18 =>
    if b18 = true then if 0 ≤ p2 ∧ p2 < (p0.f1.length : Int) then if 0 ≤ x10 ∧ x10 < ((lget p0.f1 p2).length : Int) then F126_c1 k (F126_l2 k p0 p1 p2 t8 j) p1 x9 x10 (lget (lget p0.f1 p2) x10)
    else none
    else none
    else F126_c1 k (F126_l2 k p0 p1 p2 t8 j) p1 x9 x10 (p0.f1.length : Int)
    else F126_c0 k x9
def F126 (k : Nat) (p0 : S55) (p1 : (List Int)) (p2 : Int) : Option ByteArray :=
  if 0 ≤ p2 ∧ p2 < (p1.length : Int) then (F127 k (lget p1 p2)).bind fun t6 =>
  (F101 k p0.f0).bind fun t8 =>
  F126_l2 k p0 p1 p2 t8 k t6 (0 : Int)
  else none
theorem F126_spec {k : Nat} {p0 : S55} {p1 : (List Int)} {p2 : Int} {r : ByteArray} (h : F126 k p0 p1 p2 = some r) : Spec Try.prog 126 [(e55 p0), (.fz 1 (p1.map eI64)), (eI64 p2)] (eStr r) := by
  rw [F126.eq_1] at h
  refine Spec.intro (res := [.tmp 6]) Try.func126 rfl rfl rfl (Nat.le_of_ble_eq_true rfl) ?_
  refine AW.sr ?_
  refine AO.box rfl 3 rfl (by decide) rfl rfl rfl fun n4 => ?_
  refine AO.ag rfl rfl ?_
  refine AO.nK [1, 2, 3] ?_
  refine AW.sr ?_
  refine AO.mv rfl rfl ?_
  refine AO.mv rfl rfl ?_
  obtain ⟨hg5, h⟩ := of_guard h
  refine AO.c (Calm.idxL (f := eI64) rfl rfl rfl hg5 Try.underlying35 sz3) ?_
  refine AO.c (Calm.loadRp rfl rfl ag3 sz3) ?_
  obtain ⟨t6, et6, h⟩ := of_bind h
  refine AO.callS [(eI64 (lget p1 p2))] (eStr t6) 14 rfl (by decide) ok127 rfl rfl rfl ⟨rfl, rfl, trivial⟩ (F127_spec et6) ?_
  refine AO.ag rfl rfl ?_
  refine AO.nK [1, 2, 3, 7] ?_
  refine AW.seq_mid (fun ρ H => ∃ (x7 : ByteArray), ρ = [(7, (eStr x7))] ∧ H = [] ∧ F126_c0 k x7 = some r) ?_ ?_
  ·refine AW.sr ?_
   refine AO.c (x := .ptr n4 0) (Calm.fldPtr rfl rfl Try.underlying55 rfl sz52 _ rfl) ?_
   refine AO.c (Calm.load 0 rfl rfl rfl (At.cast (At.fld0 At.here) rfl) ag52 (by rw [sz52]; simp [AV.size])) ?_
   obtain ⟨t8, et8, h⟩ := of_bind h
   refine AO.callS [(.ar 1 (p0.f0.toList.map eU8))] (eI64 t8) 17 rfl (by decide) ok101 rfl rfl rfl ⟨rfl, rfl, trivial⟩ (F101_spec et8) ?_
   refine AO.mv rfl rfl ?_
   refine AO.nK [1, 2, 3, 7, 17, 18] ?_
   refine AW.block ?_
   refine AW.wK [1, 2, 3, 7, 17, 18] ?_
   refine AW.loop (fun kq ρ H => ∃ (x9 : ByteArray) (x10 : Int), ρ = [(1, (.fz 1 (p1.map eI64))), (2, (eI64 p2)), (3, (.ptr n4 0)), (7, (eStr x9)), (17, (eI64 t8)), (18, (eI64 x10))] ∧ H = [(n4, (.mem (e55 p0)))] ∧ F126_l2 k p0 p1 p2 t8 kq x9 x10 = some r) k ⟨t6, (0 : Int), rfl, rfl, h⟩ ?_
   rintro kq12 _ _ ⟨x9, x10, rfl, rfl, h⟩
   cases kq12 with
   | zero => rw [F126_l2.eq_1] at h; cases h
   | succ kq12 =>
   rw [F126_l2.eq_2] at h
   generalize hrec11 : F126_l2 k p0 p1 p2 t8 kq12 = rec11 at h
   refine AW.sr ?_
   refine AO.c (x := eBool (decide (x10 < t8))) (Calm.int rfl rfl rfl rfl) ?_
   refine AO.nK [1, 2, 3, 7, 17, 18, 19] ?_
   refine AW.seq ?_
   rcases of_ite h with ⟨hc13, h⟩ | ⟨hc13, h⟩
   ·refine AW.condP _ rfl hc13 ?_
    refine AW.sK [1, 2, 3, 7, 17, 18] ?_
    refine AW.seq ?_
    refine AW.block ?_
    refine AW.sr ?_
    refine AO.mv rfl rfl ?_
    refine AO.ag rfl rfl ?_
    refine AO.nK [1, 2, 3, 7, 8, 17, 18] ?_
    refine AW.sr ?_
    refine AO.c (x := .ptr n4 256) (Calm.fldPtr rfl rfl Try.underlying55 rfl sz53 _ rfl) ?_
    refine AO.c (Calm.load 0 rfl rfl rfl (At.cast (At.fldS (At.fld0 At.here)) rfl) ag53 sz53) ?_
    refine AO.c (Calm.lenL rfl rfl Try.underlying53) ?_
    refine AO.ag rfl rfl ?_
    refine AO.nK [1, 2, 3, 7, 8, 9, 17, 18] ?_
    refine AW.seq_mid (fun ρ H => ∃ (x14 : Int), ρ = [(1, (.fz 1 (p1.map eI64))), (2, (eI64 p2)), (3, (.ptr n4 0)), (7, (eStr x9)), (9, (eI64 x14)), (17, (eI64 t8)), (18, (eI64 x10))] ∧ H = [(n4, (.mem (e55 p0)))] ∧ F126_c1 k rec11 p1 x9 x10 x14 = some r) ?_ ?_
    ·refine AW.seq ?_
     obtain ⟨b18, hq19, h⟩ := of_bind h
     refine AW.regM [(1, (.fz 1 (p1.map eI64))), (2, (eI64 p2)), (3, (.ptr n4 0)), (7, (eStr x9)), (8, (eI64 x10)), (9, (eI64 (p0.f1.length : Int))), (17, (eI64 t8)), (18, (eI64 x10)), (39, (eBool b18))] [(n4, (.mem (e55 p0)))] ?_ ?_
     ·refine AO.mv rfl rfl ?_
      refine AO.c (x := .ptr n4 256) (Calm.fldPtr rfl rfl Try.underlying55 rfl sz53 _ rfl) ?_
      refine AO.c (Calm.load 0 rfl rfl rfl (At.cast (At.fldS (At.fld0 At.here)) rfl) ag53 sz53) ?_
      refine AO.c (Calm.lenL rfl rfl Try.underlying53) ?_
      refine AO.c (x := eBool (decide (p2 < (p0.f1.length : Int)))) (Calm.int rfl rfl rfl rfl) ?_
      refine AO.mv rfl rfl ?_
      rcases of_ite hq19 with ⟨hc20, hq19⟩ | ⟨hc20, hq19⟩
      ·refine AO.cG (x := .ptr n4 256) rfl rfl (bD (decide_eq_true hc20)) (Calm.fldPtr rfl rfl Try.underlying55 rfl sz53 _ rfl) ?_
       refine AO.cG rfl rfl (bD (decide_eq_true hc20)) (Calm.load 0 rfl rfl rfl (At.cast (At.fldS (At.fld0 At.here)) rfl) ag53 sz53) ?_
       refine AO.cG rfl rfl (bD (decide_eq_true hc20)) (Calm.move rfl rfl) ?_
       obtain ⟨hg21, hq19⟩ := of_guard hq19
       refine AO.cG rfl rfl (bD (decide_eq_true hc20)) (Calm.idxL (f := e35) rfl rfl rfl hg21 Try.underlying53 sz35) ?_
       refine AO.cG rfl rfl (bD (decide_eq_true hc20)) (Calm.loadRp rfl rfl ag35 sz35) ?_
       refine AO.cG rfl rfl (bD (decide_eq_true hc20)) (Calm.move rfl rfl) ?_
       obtain ⟨hg22, hq19⟩ := of_guard hq19
       refine AO.cG rfl rfl (bD (decide_eq_true hc20)) (Calm.idxL (f := eI64) rfl rfl rfl hg22 Try.underlying35 sz3) ?_
       refine AO.cG rfl rfl (bD (decide_eq_true hc20)) (Calm.loadRp rfl rfl ag3 sz3) ?_
       refine AO.cG (x := eBool (decide ((0 : Int) ≤ (lget (lget p0.f1 p2) x10)))) rfl rfl (bD (decide_eq_true hc20)) (Calm.int rfl rfl rfl rfl) ?_
       refine AO.c (Calm.pickT rfl (bD (decide_eq_true hc20)) rfl) ?_
       cases hq19
       refine AO.nilE ⟨rfl, rfl⟩ ?_ ?_
       · exact ⟨rfl, rfl, rfl, rfl, rfl, rfl, rfl, rfl, rfl, trivial⟩
       · exact (Sub.refl _)
      ·refine AO.sT rfl rfl (bD (decide_eq_false hc20)) ?_
       refine AO.sT rfl rfl (bD (decide_eq_false hc20)) ?_
       refine AO.sT rfl rfl (bD (decide_eq_false hc20)) ?_
       refine AO.sT rfl rfl (bD (decide_eq_false hc20)) ?_
       refine AO.sT rfl rfl (bD (decide_eq_false hc20)) ?_
       refine AO.sT rfl rfl (bD (decide_eq_false hc20)) ?_
       refine AO.sT rfl rfl (bD (decide_eq_false hc20)) ?_
       refine AO.sT rfl rfl (bD (decide_eq_false hc20)) ?_
       refine AO.sT rfl rfl (bD (decide_eq_false hc20)) ?_
       refine AO.c (Calm.pickF rfl (bD (decide_eq_false hc20)) rfl) ?_
       cases hq19
       refine AO.nilE ⟨rfl, rfl⟩ ?_ ?_
       · exact ⟨rfl, rfl, rfl, rfl, rfl, rfl, rfl, rfl, rfl, trivial⟩
       · exact (Sub.refl _)
     ·rcases of_ite h with ⟨hc23, h⟩ | ⟨hc23, h⟩
      ·refine AW.condT' _ rfl hc23 ?_
       refine AW.reg ?_
       refine AO.c (x := .ptr n4 256) (Calm.fldPtr rfl rfl Try.underlying55 rfl sz53 _ rfl) ?_
       refine AO.c (Calm.load 0 rfl rfl rfl (At.cast (At.fldS (At.fld0 At.here)) rfl) ag53 sz53) ?_
       refine AO.mv rfl rfl ?_
       obtain ⟨hg24, h⟩ := of_guard h
       refine AO.c (Calm.idxL (f := e35) rfl rfl rfl hg24 Try.underlying53 sz35) ?_
       refine AO.c (Calm.loadRp rfl rfl ag35 sz35) ?_
       refine AO.mv rfl rfl ?_
       obtain ⟨hg25, h⟩ := of_guard h
       refine AO.c (Calm.idxL (f := eI64) rfl rfl rfl hg25 Try.underlying35 sz3) ?_
       refine AO.c (Calm.loadRp rfl rfl ag3 sz3) ?_
       refine AO.ag rfl rfl ?_
       refine AO.nK [1, 2, 3, 7, 9, 17, 18] ?_
       exact ⟨(lget (lget p0.f1 p2) x10), rfl, rfl, h⟩
      ·refine AW.condF' _ rfl hc23 ?_
       refine AW.sK [1, 2, 3, 7, 9, 17, 18] ?_
       exact ⟨(p0.f1.length : Int), rfl, rfl, h⟩
    ·rintro _ _ ⟨x14, rfl, rfl, h⟩
     rw [F126_c1.eq_1] at h
     refine AW.reg ?_
     refine AO.mv rfl rfl ?_
     refine AO.mv rfl rfl ?_
     refine AO.mv rfl rfl ?_
     obtain ⟨hg15, h⟩ := of_guard h
     refine AO.c (Calm.idxL (f := eI64) rfl rfl rfl hg15 Try.underlying35 sz3) ?_
     refine AO.c (Calm.loadRp rfl rfl ag3 sz3) ?_
     obtain ⟨t16, et16, h⟩ := of_bind h
     refine AO.callS [(eI64 (lget p1 x14))] (eStr t16) 53 rfl (by decide) ok127 rfl rfl rfl ⟨rfl, rfl, trivial⟩ (F127_spec et16) ?_
     obtain ⟨hg17, h⟩ := of_guard h
     refine AO.c (x := eStr (x9 ++ t16)) (Calm.cat rfl rfl rfl hg17) ?_
     refine AO.ag rfl rfl ?_
     refine AO.nK [1, 2, 3, 7, 17, 18] ?_
     refine AW.reg ?_
     refine AO.c (x := eI64 (w64 (x10 + (1 : Int)))) (Calm.int rfl rfl rfl rfl) ?_
     refine AO.mv rfl rfl ?_
     refine AO.nK [1, 2, 3, 7, 17, 18] ?_
     exact ⟨kq12, Nat.lt_succ_self _, (x9 ++ t16), (w64 (x10 + (1 : Int))), rfl, rfl, by rw [hrec11]; exact h⟩
   ·refine AW.condN _ rfl hc13 ?_
    refine AW.eH [7] (H' := []) (Sub.nil _) ?_
    exact ⟨x9, rfl, rfl, h⟩
  ·rintro _ _ ⟨x7, rfl, rfl, h⟩
   rw [F126_c0.eq_1] at h
   refine AW.sr ?_
   refine AO.mv rfl rfl ?_
   refine AO.ag rfl rfl ?_
   refine AO.nK [6] ?_
   refine AW.rK [6] ?_
   have hr := Option.some.inj h
   subst hr
   exact ⟨[(eStr x7)], ⟨rfl, rfl, trivial⟩, rfl⟩
end Go.Avl.T7
/- bosket/mini.split; printed by avmain.py. -/
namespace Go.Avl.T7
open Go Go.RowKit Go.Proofs Go.Avl
set_option linter.unusedVariables false
set_option maxRecDepth 100000
set_option maxHeartbeats 4000000
attribute [local irreducible] AW AO AQ Spec SpecH Calm

def F105_c0 (k : Nat) (x7 : (List (ByteArray × Int))) (x8 : (List Int)) : Option ((List Int) × Int) :=
  some (x8, (x7.length : Int))
def F105_c1 (k : Nat) (rec12 : ((List (ByteArray × Int)) → (List Int) → Int → Option ((List Int) × Int))) (x10 : (List Int)) (x11 : Int) (x16 : (List (ByteArray × Int))) (x17 : Int) : Option ((List Int) × Int) :=
  if 0 ≤ x11 ∧ x11 < (x10.length : Int) then rec12 x16 (lset x10 x11 x17) (w64 (x11 + (1 : Int)))
  else none
def F105_l2 (k : Nat) (p0 : S55) (p1 : (List Int)) : Nat → (List (ByteArray × Int)) → (List Int) → Int → Option ((List Int) × Int)
  | 0, _, _, _ => none
  | j + 1, x9, x10, x11 =>
    if x11 < (p1.length : Int) then (F126 k p0 p1 x11).bind fun t15 =>
    if (!((mget x9 t15).isSome)) = true then F105_c1 k (F105_l2 k p0 p1 j) x10 x11 (mput x9 t15 (x9.length : Int)) (x9.length : Int)
    else F105_c1 k (F105_l2 k p0 p1 j) x10 x11 x9 ((mget x9 t15).getD (0 : Int))
    else F105_c0 k x9 x10
def F105 (k : Nat) (p0 : S55) (p1 : (List Int)) : Option ((List Int) × Int) :=
  if 0 ≤ (p1.length : Int) ∧ (p1.length : Int) * (8 : Int) ≤ 140737488355328 ∧ (p1.length : Int) ≤ 9223372036854775807 then F105_l2 k p0 p1 k ([] : List (ByteArray × Int)) (List.replicate (p1.length : Int).toNat (0 : Int)) (0 : Int)
  else none
theorem F105_spec {k : Nat} {p0 : S55} {p1 : (List Int)} {r : ((List Int) × Int)} (h : F105 k p0 p1 = some r) : Spec Try.prog 105 [(e55 p0), (.fz 1 (p1.map eI64))] (.tup [(.fz 1 (r.1.map eI64)), (eI64 r.2)]) := by
  rw [F105.eq_1] at h
  refine Spec.intro (res := [.tmp 4, .tmp 5]) Try.func105 rfl rfl rfl (Nat.le_of_ble_eq_true rfl) ?_
  refine AW.sr ?_
  refine AO.box rfl 2 rfl (by decide) rfl rfl rfl fun n3 => ?_
  refine AO.ag rfl rfl ?_
  refine AO.ag rfl rfl ?_
  refine AO.nK [1, 2] ?_
  refine AW.sr ?_
  refine AO.makeMap rfl 12 rfl (by decide) rfl fun n4 => ?_
  refine AO.ag rfl rfl ?_
  refine AO.nH [1, 2, 6] (H' := [(n3, (.mem (e55 p0))), (n4, (.map (encM Value.string eI64 ([] : List (ByteArray × Int)))))]) (Sub.cons 1 rfl (Sub.cons 0 rfl (Sub.nil _))) ?_
  refine AW.sr ?_
  refine AO.mv rfl rfl ?_
  refine AO.c (Calm.lenL rfl rfl Try.underlying35) ?_
  obtain ⟨hg6, h⟩ := of_guard h
  refine AO.makeL (f := eI64) (0 : Int) rfl 15 rfl (by decide) rfl rfl rfl Try.underlying35 sz3 by3 zr3 lay3 rfl hg6 fun n5 => ?_
  refine AO.ag rfl rfl ?_
  refine AO.nH [1, 2, 6, 7] (H' := [(n3, (.mem (e55 p0))), (n4, (.map (encM Value.string eI64 ([] : List (ByteArray × Int))))), (n5, (.mem (.ar 1 ((List.replicate (p1.length : Int).toNat (0 : Int)).map eI64))))]) (Sub.cons 1 rfl (Sub.cons 1 rfl (Sub.cons 0 rfl (Sub.nil _)))) ?_
  refine AW.seq_mid (fun ρ H => ∃ (x7 : (List (ByteArray × Int))) (x8 : (List Int)), ρ = [(6, (.mp n4)), (7, (.own n5 0 x8.length))] ∧ H = [(n4, (.map (encM Value.string eI64 x7))), (n5, (.mem (.ar 1 (x8.map eI64))))] ∧ F105_c0 k x7 x8 = some r) ?_ ?_
  ·refine AW.sr ?_
   refine AO.mv rfl rfl ?_
   refine AO.c (Calm.lenL rfl rfl Try.underlying35) ?_
   refine AO.mv rfl rfl ?_
   refine AO.nK [1, 2, 6, 7, 17, 18] ?_
   refine AW.block ?_
   refine AW.wK [1, 2, 6, 7, 17, 18] ?_
   refine AW.loop (fun kq ρ H => ∃ (x9 : (List (ByteArray × Int))) (x10 : (List Int)) (x11 : Int), ρ = [(1, (.fz 1 (p1.map eI64))), (2, (.ptr n3 0)), (6, (.mp n4)), (7, (.own n5 0 x10.length)), (17, (eI64 (p1.length : Int))), (18, (eI64 x11))] ∧ H = [(n3, (.mem (e55 p0))), (n4, (.map (encM Value.string eI64 x9))), (n5, (.mem (.ar 1 (x10.map eI64))))] ∧ F105_l2 k p0 p1 kq x9 x10 x11 = some r) k ⟨([] : List (ByteArray × Int)), (List.replicate (p1.length : Int).toNat (0 : Int)), (0 : Int), rfl, rfl, h⟩ ?_
   rintro kq13 _ _ ⟨x9, x10, x11, rfl, rfl, h⟩
   cases kq13 with
   | zero => rw [F105_l2.eq_1] at h; cases h
   | succ kq13 =>
   rw [F105_l2.eq_2] at h
   generalize hrec12 : F105_l2 k p0 p1 kq13 = rec12 at h
   refine AW.sr ?_
   refine AO.c (x := eBool (decide (x11 < (p1.length : Int)))) (Calm.int rfl rfl rfl rfl) ?_
   refine AO.nK [1, 2, 6, 7, 17, 18, 19] ?_
   refine AW.seq ?_
   rcases of_ite h with ⟨hc14, h⟩ | ⟨hc14, h⟩
   ·refine AW.condP _ rfl hc14 ?_
    refine AW.sK [1, 2, 6, 7, 17, 18] ?_
    refine AW.seq ?_
    refine AW.block ?_
    refine AW.sr ?_
    refine AO.mv rfl rfl ?_
    refine AO.ag rfl rfl ?_
    refine AO.nK [1, 2, 6, 7, 8, 17, 18] ?_
    refine AW.sr ?_
    refine AO.c (Calm.load 0 rfl rfl rfl (At.cast At.here rfl) ag55 sz55) ?_
    refine AO.mv rfl rfl ?_
    refine AO.mv rfl rfl ?_
    obtain ⟨t15, et15, h⟩ := of_bind h
    refine AO.callS [(e55 p0), (.fz 1 (p1.map eI64)), (eI64 x11)] (eStr t15) 24 rfl (by decide) ok126 rfl rfl rfl ⟨rfl, rfl, rfl, rfl, rfl, rfl, trivial⟩ (F126_spec et15) ?_
    refine AO.ag rfl rfl ?_
    refine AO.nK [1, 2, 6, 7, 8, 9, 17, 18] ?_
    refine AW.sr ?_
    refine AO.mv rfl rfl ?_
    refine AO.mv rfl rfl ?_
    refine AO.c (x := .tup [(eI64 ((mget x9 t15).getD (0 : Int))), (eBool ((mget x9 t15).isSome))]) (Calm.look2 (f := eI64) string_inj string_key (0 : Int) 1 rfl rfl rfl rfl Try.underlying109 Try.underlying9 mz3) ?_
    refine AO.mv rfl rfl ?_
    refine AO.c (Calm.extract rfl rfl rfl) ?_
    refine AO.c (Calm.extract rfl rfl rfl) ?_
    refine AO.ag rfl rfl ?_
    refine AO.ag rfl rfl ?_
    refine AO.nK [1, 2, 6, 7, 8, 9, 10, 11, 17, 18] ?_
    refine AW.seq_mid (fun ρ H => ∃ (x16 : (List (ByteArray × Int))) (x17 : Int), ρ = [(1, (.fz 1 (p1.map eI64))), (2, (.ptr n3 0)), (6, (.mp n4)), (7, (.own n5 0 x10.length)), (8, (eI64 x11)), (10, (eI64 x17)), (17, (eI64 (p1.length : Int))), (18, (eI64 x11))] ∧ H = [(n3, (.mem (e55 p0))), (n4, (.map (encM Value.string eI64 x16))), (n5, (.mem (.ar 1 (x10.map eI64))))] ∧ F105_c1 k rec12 x10 x11 x16 x17 = some r) ?_ ?_
    ·refine AW.sr ?_
     refine AO.mv rfl rfl ?_
     refine AO.c (Calm.not rfl rfl) ?_
     refine AO.nK [1, 2, 6, 7, 8, 9, 10, 17, 18, 32] ?_
     rcases of_ite h with ⟨hc19, h⟩ | ⟨hc19, h⟩
     ·refine AW.condT' _ rfl hc19 ?_
      refine AW.sr ?_
      refine AO.mv rfl rfl ?_
      refine AO.c (x := eI64 (x9.length : Int)) (Calm.lenMap 1 rfl rfl rfl Try.underlying109) ?_
      refine AO.ag rfl rfl ?_
      refine AO.nK [1, 2, 6, 7, 8, 9, 10, 17, 18] ?_
      refine AW.reg ?_
      refine AO.mv rfl rfl ?_
      refine AO.mv rfl rfl ?_
      refine AO.mv rfl rfl ?_
      refine AO.mapPut (f := eI64) string_inj string_key 1 rfl rfl rfl rfl rfl rfl rfl rfl Try.underlying109 Try.underlying9 ?_
      refine AO.nK [1, 2, 6, 7, 8, 10, 17, 18] ?_
      exact ⟨(mput x9 t15 (x9.length : Int)), (x9.length : Int), rfl, rfl, h⟩
     ·refine AW.condF' _ rfl hc19 ?_
      refine AW.sK [1, 2, 6, 7, 8, 10, 17, 18] ?_
      exact ⟨x9, ((mget x9 t15).getD (0 : Int)), rfl, rfl, h⟩
    ·rintro _ _ ⟨x16, x17, rfl, rfl, h⟩
     rw [F105_c1.eq_1] at h
     refine AW.reg ?_
     refine AO.mv rfl rfl ?_
     refine AO.mv rfl rfl ?_
     refine AO.mv rfl rfl ?_
     obtain ⟨hg18, h⟩ := of_guard h
     refine AO.c (Calm.idxO 2 rfl rfl rfl rfl hg18 Try.underlying35 sz3) ?_
     refine AO.store (X' := (.ar 1 ((lset x10 x11 x17).map eI64))) 2 rfl rfl rfl rfl rfl rfl (Put.cast (Put.lidx x11 x17 hg18.1 hg18.2 Put.here) (by omega)) rfl rfl sz3 rfl ?_
     refine AO.coe 7 (y' := (.own n5 0 (lset x10 x11 x17).length)) rfl (fun _ _ h => lset_own h) ?_
     refine AO.coe 38 (y' := (.own n5 0 (lset x10 x11 x17).length)) rfl (fun _ _ h => lset_own h) ?_
     refine AO.nK [1, 2, 6, 7, 17, 18] ?_
     refine AW.reg ?_
     refine AO.c (x := eI64 (w64 (x11 + (1 : Int)))) (Calm.int rfl rfl rfl rfl) ?_
     refine AO.mv rfl rfl ?_
     refine AO.nK [1, 2, 6, 7, 17, 18] ?_
     exact ⟨kq13, Nat.lt_succ_self _, x16, (lset x10 x11 x17), (w64 (x11 + (1 : Int))), rfl, rfl, by rw [hrec12]; exact h⟩
   ·refine AW.condN _ rfl hc14 ?_
    refine AW.eH [6, 7] (H' := [(n4, (.map (encM Value.string eI64 x9))), (n5, (.mem (.ar 1 (x10.map eI64))))]) (Sub.cons 1 rfl (Sub.cons 1 rfl (Sub.nil _))) ?_
    exact ⟨x9, x10, rfl, rfl, h⟩
  ·rintro _ _ ⟨x7, x8, rfl, rfl, h⟩
   rw [F105_c0.eq_1] at h
   refine AW.sr ?_
   refine AO.mv rfl rfl ?_
   refine AO.mv rfl rfl ?_
   refine AO.c (x := eI64 (x7.length : Int)) (Calm.lenMap 0 rfl rfl rfl Try.underlying109) ?_
   refine AO.ag rfl rfl ?_
   refine AO.ag rfl rfl ?_
   refine AO.nH [4, 5] (H' := [(n5, (.mem (.ar 1 (x8.map eI64))))]) (Sub.cons 1 rfl (Sub.nil _)) ?_
   refine AW.freezeS 0 [(4, (.fz 1 (x8.map eI64)))] rfl ⟨fz_all rfl, trivial⟩ ?_
   refine AW.rK [4, 5] ?_
   have hr := Option.some.inj h
   subst hr
   exact ⟨[(.fz 1 (x8.map eI64)), (eI64 (x7.length : Int))], ⟨rfl, rfl, rfl, rfl, trivial⟩, rfl⟩
end Go.Avl.T7
