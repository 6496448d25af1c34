/- Parts: T5f93, T5f66, T5f84, T5f86, T5f87, T5f58, T5f23, T5f6. -/
import Derived.Test.YtoaomnfenofglaaAF1
import Derived.Test.YtoaomnfenofglaaAF2
/- slices.Clone[[]int,int]; printed by avmain.py. -/
namespace Go.Avl.T5
open Go Go.RowKit Go.Proofs Go.Avl
set_option linter.unusedVariables false
set_option maxRecDepth 100000
set_option maxHeartbeats 4000000
attribute [local irreducible] AW AO AQ Spec SpecH Calm

def slices_Clone_int_int_ (k : Nat) (p0 : (List Int)) : Option (List Int) :=
  if (([] : List Int) ++ p0).length * 8 ≤ 140737488355328 then some ((([] : List Int) ++ p0))
  else none
def slices_Clone_int_int__own (k : Nat) (p0 : (List Int)) : Option (List Int) :=
  if (([] : List Int) ++ p0).length * 8 ≤ 140737488355328 then some ((([] : List Int) ++ p0))
  else none
theorem slices_Clone_int_int__spec {k : Nat} {p0 : (List Int)} {r : (List Int)} (h : slices_Clone_int_int_ k p0 = some r) : Spec Try.prog 93 [(.fz 1 (p0.map eI64))] (e25 r) := by
  rw [slices_Clone_int_int_.eq_1] at h
  refine Spec.intro (res := [.tmp 2]) Try.func93 rfl rfl rfl (Nat.le_of_ble_eq_true rfl) ?_
  refine AW.sr ?_
  refine AO.c (Calm.assign rfl rfl) ?_
  refine AO.nK [0] ?_
  refine AW.seq ?_
  refine AW.sr ?_
  refine AO.c (Calm.move rfl rfl) ?_
  refine AO.nilFz rfl 4 rfl (by decide) rfl rfl Try.underlying25 fun gb2 hgb2 => ?_
  refine AO.nK [0, 4] ?_
  cases gb2
  ·refine AW.condF rfl ?_
   refine AW.sK [0] ?_
   refine AW.sr ?_
   refine AO.lit (Z := (eI64 (0 : Int))) (xs := (([] : List Int).map eI64)) (qs := []) rfl 5 rfl (by decide) rfl trivial Try.underlying25 sz3 zr3 lay3 rfl (by decide) (litOK (z := 1) [] rfl trivial) rfl fun n3 => ?_
   refine AO.c (Calm.move rfl rfl) ?_
   obtain ⟨hg5, h⟩ := of_guard h
   refine AO.appendL (l := ([] : List Int)) (m := p0) 0 7 rfl (by decide) rfl rfl rfl rfl rfl Src.fz Try.underlying25 Try.underlying25 sz3 by3 zr3 rfl hg5 (by decide) fun n4 => ?_
   refine AO.c (Calm.assign rfl rfl) ?_
   refine AO.nK [2] ?_
   refine AW.freezeS 0 [(2, (.fz 1 ((([] : List Int) ++ p0).map eI64)))] rfl ⟨fz_all rfl, trivial⟩ ?_
   refine AW.rK [2] ?_
   have hr := Option.some.inj h
   subst hr
   exact ⟨[(.fz 1 ((([] : List Int) ++ p0).map eI64))], ⟨rfl, rfl, trivial⟩, rfl⟩
  ·have hn6 : p0 = [] := List.map_eq_nil_iff.1 (hgb2 rfl)
   have h : (some ([])) = some r := by simpa [hn6] using h
   refine AW.condT rfl ?_
   refine AW.sr ?_
   refine AO.c (Calm.assign rfl rfl) ?_
   refine AO.nK [2] ?_
   refine AW.coeC 2 (y' := (.fz 1 (([] : List Int).map eI64))) rfl Coe.nil ?_
   refine AW.rK [2] ?_
   have hr := Option.some.inj h
   subst hr
   exact ⟨[(.fz 1 (([] : List Int).map eI64))], ⟨rfl, rfl, trivial⟩, rfl⟩
theorem slices_Clone_int_int__own_spec {k : Nat} {p0 : (List Int)} {r : (List Int)} (h : slices_Clone_int_int__own k p0 = some r) {T0 : Heap} : SpecH Try.prog 93 [(.fz 1 (p0.map eI64))] (T0) (fun x H' => ∃ m, x = .own m 0 r.length ∧ Sub ((m, .mem (.ar 1 (r.map eI64))) :: T0) H') := by
  rw [slices_Clone_int_int__own.eq_1] at h
  refine SpecH.intro (res := [.tmp 2]) Try.func93 rfl rfl rfl (Nat.le_of_ble_eq_true rfl) ?_
  refine AW.sr ?_
  refine AO.c (Calm.assign rfl rfl) ?_
  refine AO.nK [0] ?_
  refine AW.seq ?_
  refine AW.sr ?_
  refine AO.c (Calm.move rfl rfl) ?_
  refine AO.nilFz rfl 4 rfl (by decide) rfl rfl Try.underlying25 fun gb2 hgb2 => ?_
  refine AO.nK [0, 4] ?_
  cases gb2
  ·refine AW.condF rfl ?_
   refine AW.sK [0] ?_
   refine AW.sr ?_
   refine AO.lit (Z := (eI64 (0 : Int))) (xs := (([] : List Int).map eI64)) (qs := []) rfl 5 rfl (by decide) rfl trivial Try.underlying25 sz3 zr3 lay3 rfl (by decide) (litOK (z := 1) [] rfl trivial) rfl fun n4 => ?_
   refine AO.c (Calm.move rfl rfl) ?_
   obtain ⟨hg6, h⟩ := of_guard h
   refine AO.appendL (l := ([] : List Int)) (m := p0) 0 7 rfl (by decide) rfl rfl rfl rfl rfl Src.fz Try.underlying25 Try.underlying25 sz3 by3 zr3 rfl hg6 (by decide) fun n5 => ?_
   refine AO.c (Calm.assign rfl rfl) ?_
   refine AO.nK [2] ?_
   refine AW.rK [2] ?_
   have hr := Option.some.inj h
   subst hr
   exact ⟨[(.own n5 0 (([] : List Int) ++ p0).length)], ⟨rfl, rfl, trivial⟩, n5, rfl, (Sub.cons 0 rfl (Sub.refl _))⟩
  ·have hn7 : p0 = [] := List.map_eq_nil_iff.1 (hgb2 rfl)
   have h : (some ([])) = some r := by simpa [hn7] using h
   refine AW.condT rfl ?_
   refine AW.sr ?_
   refine AO.c (Calm.assign rfl rfl) ?_
   refine AO.nK [2] ?_
   refine AW.nilOwn 2 1 rfl fun n3 => ?_
   refine AW.rK [2] ?_
   have hr := Option.some.inj h
   subst hr
   exact ⟨[(.own n3 0 ([] : List Int).length)], ⟨rfl, rfl, trivial⟩, n3, rfl, (Sub.cons 0 rfl (Sub.refl _))⟩
end Go.Avl.T5
/- bosket/dfa.Trim; printed by avmain.py. -/
namespace Go.Avl.T5
open Go Go.RowKit Go.Proofs Go.Avl
set_option linter.unusedVariables false
set_option maxRecDepth 100000
set_option maxHeartbeats 4000000
set_option linter.unusedSimpArgs false
attribute [local irreducible] AW AO AQ Spec SpecH Calm

def dfa_Trim_c0 (k : Nat) (p0 : S30) (t5 : (List Int)) (x8 : (List (List Int))) : Option S30 :=
  some ((S30.mk p0.f0 x8 t5))
def dfa_Trim_c1 (k : Nat) (rec12 : ((List (List Int)) → Int → Option S30)) (x11 : Int) (x16 : (List (List Int))) : Option S30 :=
  rec12 x16 (w64 (x11 + (1 : Int)))
def dfa_Trim_c2 (k : Nat) (rec12 : ((List (List Int)) → Int → Option S30)) (x10 : (List (List Int))) (x11 : Int) (x21 : (List Int)) : Option S30 :=
  if (x10 ++ ([x21] : List (List Int))).length * 24 ≤ 140737488355328 then dfa_Trim_c1 k rec12 x11 (x10 ++ ([x21] : List (List Int)))
  else none
def dfa_Trim_c3 (k : Nat) (rec27 : ((List Int) → Int → Option S30)) (x26 : Int) (x30 : (List Int)) : Option S30 :=
  rec27 x30 (w64 (x26 + (1 : Int)))
def dfa_Trim_l4 (k : Nat) (rec12 : ((List (List Int)) → Int → Option S30)) (t4 : (List Bool)) (x10 : (List (List Int))) (x11 : Int) (t18 : (List Int)) : Nat → (List Int) → Int → Option S30
  | 0, _, _ => none
  | j + 1, x25, x26 =>
    if x26 < (t18.length : Int) then if 0 ≤ x26 ∧ x26 < (x25.length : Int) then Option.bind (α := Bool) (if (0 : Int) ≤ (lget x25 x26) then if (lget x25 x26) < (t4.length : Int) then if 0 ≤ (lget x25 x26) ∧ (lget x25 x26) < (t4.length : Int) then some (!(lget t4 (lget x25 x26)))
    else none
    else some (false)
    else some (false)) fun b32 =>
    if b32 = true then if 0 ≤ x26 ∧ x26 < (x25.length : Int) then dfa_Trim_c3 k (dfa_Trim_l4 k rec12 t4 x10 x11 t18 j) x26 (lset x25 x26 (-1 : Int))
    else none
    else dfa_Trim_c3 k (dfa_Trim_l4 k rec12 t4 x10 x11 t18 j) x26 x25
    else none
    else dfa_Trim_c2 k rec12 x10 x11 x25
def dfa_Trim_l5 (k : Nat) (p0 : S30) (t4 : (List Bool)) (t5 : (List Int)) : Nat → (List (List Int)) → Int → Option S30
  | 0, _, _ => none
  | j + 1, x10, x11 =>
    if x11 < (p0.f1.length : Int) then if 0 ≤ x11 ∧ x11 < (p0.f1.length : Int) then (slices_Clone_int_int__own k (lget p0.f1 x11)).bind fun t18 =>
    dfa_Trim_l4 k (dfa_Trim_l5 k p0 t4 t5 j) t4 x10 x11 t18 k t18 (0 : Int)
    else none
    else dfa_Trim_c0 k p0 t5 x10
def dfa_Trim (k : Nat) (p0 : S30) : Option S30 :=
  (dfa_Alive k p0).bind fun t4 =>
  (slices_Clone_int_int_ k p0.f2).bind fun t5 =>
  dfa_Trim_l5 k p0 t4 t5 k ([] : List (List Int)) (0 : Int)
theorem dfa_Trim_spec {k : Nat} {p0 : S30} {r : S30} (h : dfa_Trim k p0 = some r) : Spec Try.prog 66 [(e30 p0)] (e30 r) := by
  rw [dfa_Trim.eq_1] at h
  refine Spec.intro (res := [.cell 2 30]) Try.func66 rfl rfl rfl (Nat.le_of_ble_eq_true rfl) ?_
  refine AW.sr ?_
  refine AO.box rfl 1 rfl (by decide) rfl rfl rfl fun n2 => ?_
  refine AO.alloc rfl 2 rfl (by decide) rfl zr30 lay30 fun n3 => ?_
  refine AO.nH [1, 2] (H' := [(n2, (.mem (e30 p0))), (n3, (.mem (.st [(256, (.ar 1 ((Vector.replicate 256 (0 : Int)).toList.map eU8))), (1, (.fl (.slice none 0 0))), (1, (.fl (.slice none 0 0)))])))]) (Sub.cons 1 rfl (Sub.cons 0 rfl (Sub.nil _))) ?_
  refine AW.sr ?_
  refine AO.c (Calm.load 0 rfl rfl rfl (At.cast At.here rfl) ag30 sz30) ?_
  obtain ⟨t4, et4, h⟩ := of_bind h
  refine AO.callS [(e30 p0)] (.fz 1 (t4.map eBool)) 11 rfl (by decide) ok92 rfl rfl rfl ⟨rfl, rfl, trivial⟩ (dfa_Alive_spec et4) ?_
  refine AO.c (Calm.assign rfl rfl) ?_
  refine AO.nK [1, 2, 3] ?_
  refine AW.seq ?_
  obtain ⟨t5, et5, h⟩ := of_bind h
  refine AW.regEff (by rfl) (by decide +kernel) (fun (σ : Nat → Nat) => ([(.ptr n2 0), (.ar 1 (p0.f0.toList.map eU8)), (.ptr n2 257), (.fz 1 (p0.f2.map eI64)), (.fz 1 (t5.map eI64)), (.st [(256, (.ar 1 (p0.f0.toList.map eU8))), (1, (.fl (.slice none 0 0))), (1, (.fz 1 (t5.map eI64)))]), (.ptr (σ 6) 0), (.fl undef)] : List AV)) (fun (L : Nat → Bool) (σ : Nat → Nat) => ((n2, (.mem (e30 p0))) :: (n3, (.mem (.st [(256, (.ar 1 ((Vector.replicate 256 (0 : Int)).toList.map eU8))), (1, (.fl (.slice none 0 0))), (1, (.fl (.slice none 0 0)))]))) :: (bif L 6 then (bif L 7 then (((σ 6), (.mem (.st [(256, (.ar 1 (p0.f0.toList.map eU8))), (1, (.fl (.slice none 0 0))), (1, (.fz 1 (t5.map eI64)))]))) :: []) else (((σ 6), (.mem (.st [(256, (.ar 1 ((Vector.replicate 256 (0 : Int)).toList.map eU8))), (1, (.fl (.slice none 0 0))), (1, (.fl (.slice none 0 0)))]))) :: [])) else ([])) : Heap)) [(1, (.ptr n2 0)), (2, (.ptr n3 0)), (3, (.fz 1 (t4.map eBool)))] ⟨rfl, rfl, rfl, trivial⟩ (fun _ => rfl) (fun σ => (Sub.refl _)) ⟨?_, ?_, ?_, ?_, ?_, ?_, ?_, ?_, trivial⟩ (fun σ => [(1, (.ptr n2 0)), (2, (.ptr n3 0)), (3, (.fz 1 (t4.map eBool))), (4, (.ptr (σ 6) 0))]) (fun σ => ((n2, (.mem (e30 p0))) :: (n3, (.mem (.st [(256, (.ar 1 ((Vector.replicate 256 (0 : Int)).toList.map eU8))), (1, (.fl (.slice none 0 0))), (1, (.fl (.slice none 0 0)))]))) :: ((σ 6), (.mem (.st [(256, (.ar 1 (p0.f0.toList.map eU8))), (1, (.fl (.slice none 0 0))), (1, (.fz 1 (t5.map eI64)))]))) :: [])) (fun σ => ⟨rfl, rfl, rfl, rfl, trivial⟩) (fun σ => Sub.refl _) (fun σ => ?_)
  ·refine StepE.calm (fun _ _ => rfl) fun L σ hc hi hd => ?_
   refine AO.wK [1] ?_
   refine AO.c (x := .ptr n2 0) (Calm.fldPtr rfl rfl Try.underlying30 rfl sz27 _ rfl) ?_
   exact AO.nE (d := 12) rfl ⟨⟨12, _, rfl, rfl, rfl⟩, Sub.refl _⟩
  ·refine StepE.calm (fun _ _ => rfl) fun L σ hc hi hd => ?_
   refine AO.wK [12] ?_
   refine AO.c (Calm.load 0 rfl rfl rfl (At.cast (At.fld0 At.here) rfl) ag27 (by rw [sz27]; simp [AV.size])) ?_
   exact AO.nE (d := 13) rfl ⟨⟨13, _, rfl, rfl, rfl⟩, Sub.refl _⟩
  ·refine StepE.calm (fun _ _ => rfl) fun L σ hc hi hd => ?_
   refine AO.wK [1] ?_
   refine AO.c (x := .ptr n2 257) (Calm.fldPtr rfl rfl Try.underlying30 rfl sz25 _ rfl) ?_
   exact AO.nE (d := 14) rfl ⟨⟨14, _, rfl, rfl, rfl⟩, Sub.refl _⟩
  ·refine StepE.calm (fun _ _ => rfl) fun L σ hc hi hd => ?_
   refine AO.wK [14] ?_
   refine AO.c (Calm.load 0 rfl rfl rfl (At.cast (At.fldS (At.fldS (At.fld0 At.here))) rfl) ag25 sz25) ?_
   exact AO.nE (d := 15) rfl ⟨⟨15, _, rfl, rfl, rfl⟩, Sub.refl _⟩
  ·refine StepE.calm (fun _ _ => rfl) fun L σ hc hi hd => ?_
   refine AO.wK [15] ?_
   refine AO.callS [(.fz 1 (p0.f2.map eI64))] (.fz 1 (t5.map eI64)) 16 rfl (by decide) ok93 rfl rfl rfl ⟨rfl, rfl, trivial⟩ (slices_Clone_int_int__spec et5) ?_
   exact AO.nE (d := 16) rfl ⟨⟨16, _, rfl, rfl, rfl⟩, Sub.refl _⟩
  ·refine StepE.calm (fun _ _ => rfl) fun L σ hc hi hd => ?_
   refine AO.wK [13, 16] ?_
   refine AO.c (x := .st [(256, (.ar 1 (p0.f0.toList.map eU8))), (1, (.fl (.slice none 0 0))), (1, (.fz 1 (t5.map eI64)))]) (Calm.build (qs := [(0, (.ar 1 (p0.f0.toList.map eU8))), (2, (.fz 1 (t5.map eI64)))]) rfl ⟨rfl, rfl, rfl, rfl, rfl, rfl, trivial⟩ Try.underlying30 rfl zr30 lay30 (.cons rfl rfl (vec_size _ _) (vec_size _ _) (Put.cast (Put.fld0 Put.here) rfl) (.cons rfl rfl rfl rfl (Put.cast (Put.fldS (Put.fldS (Put.fld0 Put.here))) rfl) .nil)) rfl) ?_
   exact AO.nE (d := 17) rfl ⟨⟨17, _, rfl, rfl, rfl⟩, Sub.refl _⟩
  ·intro L σ hc hi hd
   have m7 : L 7 = false := hc.neg (i := 6) (j := 7) rfl (by rfl) hi
   refine AO.heq (H' := ((n2, (.mem (e30 p0))) :: (n3, (.mem (.st [(256, (.ar 1 ((Vector.replicate 256 (0 : Int)).toList.map eU8))), (1, (.fl (.slice none 0 0))), (1, (.fl (.slice none 0 0)))]))) :: [])) (by first | rfl | simp only [hi, m7, cond_true, cond_false]) ?_
   refine AO.wK [] ?_
   refine AO.alloc rfl 4 rfl (by decide) rfl zr30 lay30 fun n6 => ?_
   have a6 : addL L 6 6 = true := rfl
   have a7 : addL L 6 7 = false := m7
   have u6 : upd σ 6 n6 6 = n6 := rfl
   exact AO.nE (d := 4) rfl ⟨(upd σ 6 n6), (fun j hj => match j, hj with | 0, _ => rfl | 1, _ => rfl | 2, _ => rfl | 3, _ => rfl | 4, _ => rfl | 5, _ => rfl | 6, hj => Bool.noConfusion (hj.symm.trans hi) | 7, _ => rfl | _ + 8, _ => rfl), (fun d' hd' => ⟨_, rfl, by cases hd'; rfl⟩), Sub.of_eq (B := ((n2, (.mem (e30 p0))) :: (n3, (.mem (.st [(256, (.ar 1 ((Vector.replicate 256 (0 : Int)).toList.map eU8))), (1, (.fl (.slice none 0 0))), (1, (.fl (.slice none 0 0)))]))) :: (n6, (.mem (.st [(256, (.ar 1 ((Vector.replicate 256 (0 : Int)).toList.map eU8))), (1, (.fl (.slice none 0 0))), (1, (.fl (.slice none 0 0)))]))) :: [])) (by simp only [a6, a7, u6, cond_true, cond_false]) (Sub.cons 1 rfl (Sub.cons 1 rfl (Sub.cons 0 rfl (Sub.refl _))))⟩
  ·intro L σ hc hi hd
   have y6 : L 6 = true := on_get hd (i := 6) (by rfl)
   refine AO.heq (H' := ((n2, (.mem (e30 p0))) :: (n3, (.mem (.st [(256, (.ar 1 ((Vector.replicate 256 (0 : Int)).toList.map eU8))), (1, (.fl (.slice none 0 0))), (1, (.fl (.slice none 0 0)))]))) :: ((σ 6), (.mem (.st [(256, (.ar 1 ((Vector.replicate 256 (0 : Int)).toList.map eU8))), (1, (.fl (.slice none 0 0))), (1, (.fl (.slice none 0 0)))]))) :: [])) (by first | rfl | simp only [hi, y6, cond_true, cond_false]) ?_
   refine AO.wK [4, 17] ?_
   refine AO.store (X' := (.st [(256, (.ar 1 (p0.f0.toList.map eU8))), (1, (.fl (.slice none 0 0))), (1, (.fz 1 (t5.map eI64)))])) 2 rfl rfl rfl rfl rfl rfl (Put.cast Put.here rfl) rfl rfl sz30 rfl ?_
   have a6 : addL L 7 6 = true := y6
   have a7 : addL L 7 7 = true := rfl
   exact AO.n0 ⟨σ, (fun _ _ => rfl), (fun d' hd' => by cases hd'), Sub.of_eq (B := ((n2, (.mem (e30 p0))) :: (n3, (.mem (.st [(256, (.ar 1 ((Vector.replicate 256 (0 : Int)).toList.map eU8))), (1, (.fl (.slice none 0 0))), (1, (.fl (.slice none 0 0)))]))) :: ((σ 6), (.mem (.st [(256, (.ar 1 (p0.f0.toList.map eU8))), (1, (.fl (.slice none 0 0))), (1, (.fz 1 (t5.map eI64)))]))) :: [])) (by simp only [a6, a7, cond_true, cond_false]) (Sub.refl _)⟩
  ·generalize σ 6 = n6
   refine AO.nK [1, 2, 3, 4] ?_
   refine AW.seq_mid (fun ρ H => ∃ (n7 : Nat) (x8 : (List (List Int))), ρ = [(2, (.ptr n3 0)), (4, (.ptr n6 0))] ∧ H = [(n3, (.mem (.st [(256, (.ar 1 ((Vector.replicate 256 (0 : Int)).toList.map eU8))), (1, (.fl (.slice none 0 0))), (1, (.fl (.slice none 0 0)))]))), (n6, (.mem (.st [(256, (.ar 1 (p0.f0.toList.map eU8))), (1, (.own n7 0 x8.length)), (1, (.fz 1 (t5.map eI64)))]))), (n7, (.mem (.ar 1 (x8.map e25))))] ∧ dfa_Trim_c0 k p0 t5 x8 = some r) ?_ ?_
   ·refine AW.sr ?_
    refine AO.c (x := .ptr n2 256) (Calm.fldPtr rfl rfl Try.underlying30 rfl sz28 _ rfl) ?_
    refine AO.c (Calm.load 0 rfl rfl rfl (At.cast (At.fldS (At.fld0 At.here)) rfl) ag28 sz28) ?_
    refine AO.c (Calm.lenL rfl rfl Try.underlying28) ?_
    refine AO.c (Calm.move rfl rfl) ?_
    refine AO.nH [2, 3, 4, 19, 20, 21] (H' := [(n3, (.mem (.st [(256, (.ar 1 ((Vector.replicate 256 (0 : Int)).toList.map eU8))), (1, (.fl (.slice none 0 0))), (1, (.fl (.slice none 0 0)))]))), (n6, (.mem (.st [(256, (.ar 1 (p0.f0.toList.map eU8))), (1, (.fl (.slice none 0 0))), (1, (.fz 1 (t5.map eI64)))])))]) (Sub.cons 1 rfl (Sub.cons 1 rfl (Sub.nil _))) ?_
    refine AW.block ?_
    refine AW.nilOwnFld 1 1 (fun n39 => (.st [(256, (.ar 1 (p0.f0.toList.map eU8))), (1, (.own n39 0 0)), (1, (.fz 1 (t5.map eI64)))])) rfl (fun _ => (Put.cast (Put.fldS (Put.fld0 Put.here)) rfl)) (fun _ => rfl) (fun _ => rfl) fun n39 => ?_
    refine AW.wH [2, 3, 4, 19, 20, 21] (H' := [(n3, (.mem (.st [(256, (.ar 1 ((Vector.replicate 256 (0 : Int)).toList.map eU8))), (1, (.fl (.slice none 0 0))), (1, (.fl (.slice none 0 0)))]))), (n6, (.mem (.st [(256, (.ar 1 (p0.f0.toList.map eU8))), (1, (.own n39 0 ([] : List (List Int)).length)), (1, (.fz 1 (t5.map eI64)))]))), (n39, (.mem (.ar 1 (([] : List (List Int)).map e25))))]) (Sub.cons 1 rfl (Sub.cons 1 rfl (Sub.cons 0 rfl (Sub.nil _)))) ?_
    refine AW.loop (fun kq ρ H => ∃ (n9 : Nat) (x10 : (List (List Int))) (x11 : Int), ρ = [(2, (.ptr n3 0)), (3, (.fz 1 (t4.map eBool))), (4, (.ptr n6 0)), (19, (.fz 1 (p0.f1.map e25))), (20, (eI64 (p0.f1.length : Int))), (21, (eI64 x11))] ∧ H = [(n3, (.mem (.st [(256, (.ar 1 ((Vector.replicate 256 (0 : Int)).toList.map eU8))), (1, (.fl (.slice none 0 0))), (1, (.fl (.slice none 0 0)))]))), (n6, (.mem (.st [(256, (.ar 1 (p0.f0.toList.map eU8))), (1, (.own n9 0 x10.length)), (1, (.fz 1 (t5.map eI64)))]))), (n9, (.mem (.ar 1 (x10.map e25))))] ∧ dfa_Trim_l5 k p0 t4 t5 kq x10 x11 = some r) k ⟨n39, ([] : List (List Int)), (0 : Int), rfl, rfl, h⟩ ?_
    rintro kq13 _ _ ⟨n9, x10, x11, rfl, rfl, h⟩
    cases kq13 with
    | zero => rw [dfa_Trim_l5.eq_1] at h; cases h
    | succ kq13 =>
    rw [dfa_Trim_l5.eq_2] at h
    generalize hrec12 : dfa_Trim_l5 k p0 t4 t5 kq13 = rec12 at h
    refine AW.sr ?_
    refine AO.c (x := eBool (decide (x11 < (p0.f1.length : Int)))) (Calm.int rfl rfl rfl rfl) ?_
    refine AO.nK [2, 3, 4, 19, 20, 21, 22] ?_
    refine AW.seq ?_
    rcases of_ite h with ⟨hc14, h⟩ | ⟨hc14, h⟩
    ·refine AW.condP _ rfl hc14 ?_
     refine AW.sK [2, 3, 4, 19, 20, 21] ?_
     refine AW.seq_mid (fun ρ H => ∃ (n15 : Nat) (x16 : (List (List Int))), ρ = [(2, (.ptr n3 0)), (3, (.fz 1 (t4.map eBool))), (4, (.ptr n6 0)), (19, (.fz 1 (p0.f1.map e25))), (20, (eI64 (p0.f1.length : Int))), (21, (eI64 x11))] ∧ H = [(n3, (.mem (.st [(256, (.ar 1 ((Vector.replicate 256 (0 : Int)).toList.map eU8))), (1, (.fl (.slice none 0 0))), (1, (.fl (.slice none 0 0)))]))), (n6, (.mem (.st [(256, (.ar 1 (p0.f0.toList.map eU8))), (1, (.own n15 0 x16.length)), (1, (.fz 1 (t5.map eI64)))]))), (n15, (.mem (.ar 1 (x16.map e25))))] ∧ dfa_Trim_c1 k rec12 x11 x16 = some r) ?_ ?_
     ·refine AW.block ?_
      refine AW.sr ?_
      obtain ⟨hg17, h⟩ := of_guard h
      refine AO.c (Calm.idxL (f := e25) rfl rfl rfl hg17 Try.underlying28 sz25) ?_
      refine AO.c (Calm.loadRp rfl rfl ag25 sz25) ?_
      refine AO.c (Calm.assign rfl rfl) ?_
      refine AO.nK [2, 3, 4, 6, 19, 20, 21] ?_
      refine AW.sr ?_
      refine AO.c (Calm.move rfl rfl) ?_
      obtain ⟨t18, et18, h⟩ := of_bind h
      refine AO.callH [(.fz 1 ((lget p0.f1 x11).map eI64))] [(n3, (.mem (.st [(256, (.ar 1 ((Vector.replicate 256 (0 : Int)).toList.map eU8))), (1, (.fl (.slice none 0 0))), (1, (.fl (.slice none 0 0)))]))), (n6, (.mem (.st [(256, (.ar 1 (p0.f0.toList.map eU8))), (1, (.own n9 0 x10.length)), (1, (.fz 1 (t5.map eI64)))]))), (n9, (.mem (.ar 1 (x10.map e25))))] _ rfl rfl rfl 26 rfl (by decide) ok93 ⟨rfl, rfl, trivial⟩ (Sub.refl _) (slices_Clone_int_int__own_spec et18) ?_
      rintro _ _ ⟨n20, rfl, hs19⟩
      refine AO.wH [2, 3, 4, 6, 19, 20, 21, 25, 26] hs19 ?_
      refine AO.c (Calm.assign rfl rfl) ?_
      refine AO.nH [2, 3, 4, 7, 19, 20, 21] (H' := [(n3, (.mem (.st [(256, (.ar 1 ((Vector.replicate 256 (0 : Int)).toList.map eU8))), (1, (.fl (.slice none 0 0))), (1, (.fl (.slice none 0 0)))]))), (n6, (.mem (.st [(256, (.ar 1 (p0.f0.toList.map eU8))), (1, (.own n9 0 x10.length)), (1, (.fz 1 (t5.map eI64)))]))), (n9, (.mem (.ar 1 (x10.map e25)))), (n20, (.mem (.ar 1 (t18.map eI64))))]) (Sub.cons 1 rfl (Sub.cons 1 rfl (Sub.cons 1 rfl (Sub.cons 0 rfl (Sub.nil _))))) ?_
      refine AW.seq_mid (fun ρ H => ∃ (x21 : (List Int)), ρ = [(2, (.ptr n3 0)), (3, (.fz 1 (t4.map eBool))), (4, (.ptr n6 0)), (7, (.own n20 0 x21.length)), (19, (.fz 1 (p0.f1.map e25))), (20, (eI64 (p0.f1.length : Int))), (21, (eI64 x11))] ∧ H = [(n3, (.mem (.st [(256, (.ar 1 ((Vector.replicate 256 (0 : Int)).toList.map eU8))), (1, (.fl (.slice none 0 0))), (1, (.fl (.slice none 0 0)))]))), (n6, (.mem (.st [(256, (.ar 1 (p0.f0.toList.map eU8))), (1, (.own n9 0 x10.length)), (1, (.fz 1 (t5.map eI64)))]))), (n9, (.mem (.ar 1 (x10.map e25)))), (n20, (.mem (.ar 1 (x21.map eI64))))] ∧ dfa_Trim_c2 k rec12 x10 x11 x21 = some r) ?_ ?_
      ·refine AW.sr ?_
       refine AO.c (Calm.move rfl rfl) ?_
       refine AO.c (Calm.lenOwn rfl rfl Try.underlying25) ?_
       refine AO.c (Calm.move rfl rfl) ?_
       refine AO.nK [2, 3, 4, 7, 19, 20, 21, 27, 28, 29] ?_
       refine AW.block ?_
       refine AW.wK [2, 3, 4, 7, 19, 20, 21, 27, 28, 29] ?_
       refine AW.loop (fun kq ρ H => ∃ (x25 : (List Int)) (x26 : Int), ρ = [(2, (.ptr n3 0)), (3, (.fz 1 (t4.map eBool))), (4, (.ptr n6 0)), (7, (.own n20 0 x25.length)), (19, (.fz 1 (p0.f1.map e25))), (20, (eI64 (p0.f1.length : Int))), (21, (eI64 x11)), (27, (.own n20 0 x25.length)), (28, (eI64 (t18.length : Int))), (29, (eI64 x26))] ∧ H = [(n3, (.mem (.st [(256, (.ar 1 ((Vector.replicate 256 (0 : Int)).toList.map eU8))), (1, (.fl (.slice none 0 0))), (1, (.fl (.slice none 0 0)))]))), (n6, (.mem (.st [(256, (.ar 1 (p0.f0.toList.map eU8))), (1, (.own n9 0 x10.length)), (1, (.fz 1 (t5.map eI64)))]))), (n9, (.mem (.ar 1 (x10.map e25)))), (n20, (.mem (.ar 1 (x25.map eI64))))] ∧ dfa_Trim_l4 k rec12 t4 x10 x11 t18 kq x25 x26 = some r) k ⟨t18, (0 : Int), rfl, rfl, h⟩ ?_
       rintro kq28 _ _ ⟨x25, x26, rfl, rfl, h⟩
       cases kq28 with
       | zero => rw [dfa_Trim_l4.eq_1] at h; cases h
       | succ kq28 =>
       rw [dfa_Trim_l4.eq_2] at h
       generalize hrec27 : dfa_Trim_l4 k rec12 t4 x10 x11 t18 kq28 = rec27 at h
       refine AW.sr ?_
       refine AO.c (x := eBool (decide (x26 < (t18.length : Int)))) (Calm.int rfl rfl rfl rfl) ?_
       refine AO.nK [2, 3, 4, 7, 19, 20, 21, 27, 28, 29, 30] ?_
       refine AW.seq ?_
       rcases of_ite h with ⟨hc29, h⟩ | ⟨hc29, h⟩
       ·refine AW.condP _ rfl hc29 ?_
        refine AW.sK [2, 3, 4, 7, 19, 20, 21, 27, 28, 29] ?_
        refine AW.seq_mid (fun ρ H => ∃ (x30 : (List Int)), ρ = [(2, (.ptr n3 0)), (3, (.fz 1 (t4.map eBool))), (4, (.ptr n6 0)), (7, (.own n20 0 x30.length)), (19, (.fz 1 (p0.f1.map e25))), (20, (eI64 (p0.f1.length : Int))), (21, (eI64 x11)), (27, (.own n20 0 x30.length)), (28, (eI64 (t18.length : Int))), (29, (eI64 x26))] ∧ H = [(n3, (.mem (.st [(256, (.ar 1 ((Vector.replicate 256 (0 : Int)).toList.map eU8))), (1, (.fl (.slice none 0 0))), (1, (.fl (.slice none 0 0)))]))), (n6, (.mem (.st [(256, (.ar 1 (p0.f0.toList.map eU8))), (1, (.own n9 0 x10.length)), (1, (.fz 1 (t5.map eI64)))]))), (n9, (.mem (.ar 1 (x10.map e25)))), (n20, (.mem (.ar 1 (x30.map eI64))))] ∧ dfa_Trim_c3 k rec27 x26 x30 = some r) ?_ ?_
        ·refine AW.block ?_
         refine AW.sr ?_
         refine AO.c (Calm.move rfl rfl) ?_
         obtain ⟨hg31, h⟩ := of_guard h
         refine AO.c (Calm.idxO 3 rfl rfl rfl rfl hg31 Try.underlying25 sz3) ?_
         refine AO.c (Calm.load 3 rfl rfl rfl (At.cast (At.lidx x26 hg31.1 hg31.2 At.here) (by omega)) ag3 sz3) ?_
         refine AO.c (Calm.assign rfl rfl) ?_
         refine AO.c (Calm.assign rfl rfl) ?_
         refine AO.nK [2, 3, 4, 7, 8, 9, 19, 20, 21, 27, 28, 29] ?_
         refine AW.seq ?_
         obtain ⟨b32, hq33, h⟩ := of_bind h
         refine AW.regM [(2, (.ptr n3 0)), (3, (.fz 1 (t4.map eBool))), (4, (.ptr n6 0)), (7, (.own n20 0 x25.length)), (8, (eI64 x26)), (19, (.fz 1 (p0.f1.map e25))), (20, (eI64 (p0.f1.length : Int))), (21, (eI64 x11)), (27, (.own n20 0 x25.length)), (28, (eI64 (t18.length : Int))), (29, (eI64 x26)), (48, (eBool b32))] [(n3, (.mem (.st [(256, (.ar 1 ((Vector.replicate 256 (0 : Int)).toList.map eU8))), (1, (.fl (.slice none 0 0))), (1, (.fl (.slice none 0 0)))]))), (n6, (.mem (.st [(256, (.ar 1 (p0.f0.toList.map eU8))), (1, (.own n9 0 x10.length)), (1, (.fz 1 (t5.map eI64)))]))), (n9, (.mem (.ar 1 (x10.map e25)))), (n20, (.mem (.ar 1 (x25.map eI64))))] ?_ ?_
         ·refine AO.c (Calm.move rfl rfl) ?_
          refine AO.c (x := eBool (decide ((0 : Int) ≤ (lget x25 x26)))) (Calm.int rfl rfl rfl rfl) ?_
          refine AO.c (Calm.move rfl rfl) ?_
          rcases of_ite hq33 with ⟨hc34, hq33⟩ | ⟨hc34, hq33⟩
          ·refine AO.cG rfl rfl (bD (decide_eq_true hc34)) (Calm.move rfl rfl) ?_
           refine AO.cG rfl rfl (bD (decide_eq_true hc34)) (Calm.move rfl rfl) ?_
           refine AO.cG rfl rfl (bD (decide_eq_true hc34)) (Calm.lenL rfl rfl Try.underlying49) ?_
           refine AO.cG (x := eBool (decide ((lget x25 x26) < (t4.length : Int)))) rfl rfl (bD (decide_eq_true hc34)) (Calm.int rfl rfl rfl rfl) ?_
           refine AO.c (Calm.pickT rfl (bD (decide_eq_true hc34)) rfl) ?_
           refine AO.c (Calm.move rfl rfl) ?_
           rcases of_ite hq33 with ⟨hc35, hq33⟩ | ⟨hc35, hq33⟩
           ·refine AO.cG rfl rfl (bD (decide_eq_true hc35)) (Calm.move rfl rfl) ?_
            refine AO.cG rfl rfl (bD (decide_eq_true hc35)) (Calm.move rfl rfl) ?_
            obtain ⟨hg36, hq33⟩ := of_guard hq33
            refine AO.cG rfl rfl (bD (decide_eq_true hc35)) (Calm.idxL (f := eBool) rfl rfl rfl hg36 Try.underlying49 sz4) ?_
            refine AO.cG rfl rfl (bD (decide_eq_true hc35)) (Calm.loadRp rfl rfl ag4 sz4) ?_
            refine AO.cG rfl rfl (bD (decide_eq_true hc35)) (Calm.not rfl rfl) ?_
            refine AO.c (Calm.pickT rfl (bD (decide_eq_true hc35)) rfl) ?_
            cases hq33
            refine AO.nilE ⟨rfl, rfl⟩ ?_ ?_
            · exact ⟨rfl, rfl, rfl, rfl, rfl, rfl, rfl, rfl, rfl, rfl, rfl, rfl, trivial⟩
            · exact (Sub.refl _)
           ·refine AO.sT rfl rfl (bD (decide_eq_false hc35)) ?_
            refine AO.sT rfl rfl (bD (decide_eq_false hc35)) ?_
            refine AO.sT rfl rfl (bD (decide_eq_false hc35)) ?_
            refine AO.sT rfl rfl (bD (decide_eq_false hc35)) ?_
            refine AO.sT rfl rfl (bD (decide_eq_false hc35)) ?_
            refine AO.c (Calm.pickF rfl (bD (decide_eq_false hc35)) rfl) ?_
            cases hq33
            refine AO.nilE ⟨rfl, rfl⟩ ?_ ?_
            · exact ⟨rfl, rfl, rfl, rfl, rfl, rfl, rfl, rfl, rfl, rfl, rfl, rfl, trivial⟩
            · exact (Sub.refl _)
          ·refine AO.sT rfl rfl (bD (decide_eq_false hc34)) ?_
           refine AO.sT rfl rfl (bD (decide_eq_false hc34)) ?_
           refine AO.sT rfl rfl (bD (decide_eq_false hc34)) ?_
           refine AO.sT rfl rfl (bD (decide_eq_false hc34)) ?_
           refine AO.c (Calm.pickF rfl (bD (decide_eq_false hc34)) rfl) ?_
           refine AO.c (Calm.move rfl rfl) ?_
           refine AO.sT rfl rfl rfl ?_
           refine AO.sT rfl rfl rfl ?_
           refine AO.sT rfl rfl rfl ?_
           refine AO.sT rfl rfl rfl ?_
           refine AO.sT rfl rfl rfl ?_
           refine AO.c (Calm.pickF rfl rfl rfl) ?_
           cases hq33
           refine AO.nilE ⟨rfl, rfl⟩ ?_ ?_
           · exact ⟨rfl, rfl, rfl, rfl, rfl, rfl, rfl, rfl, rfl, rfl, rfl, rfl, trivial⟩
           · exact (Sub.refl _)
         ·rcases of_ite h with ⟨hc37, h⟩ | ⟨hc37, h⟩
          ·refine AW.condT' _ rfl hc37 ?_
           refine AW.reg ?_
           refine AO.c (Calm.move rfl rfl) ?_
           refine AO.c (Calm.move rfl rfl) ?_
           obtain ⟨hg38, h⟩ := of_guard h
           refine AO.c (Calm.idxO 3 rfl rfl rfl rfl hg38 Try.underlying25 sz3) ?_
           refine AO.store (X' := (.ar 1 ((lset x25 x26 (-1 : Int)).map eI64))) 3 rfl rfl rfl rfl rfl rfl (Put.cast (Put.lidx x26 (-1 : Int) hg38.1 hg38.2 Put.here) (by omega)) rfl rfl sz3 rfl ?_
           refine AO.coe 7 (y' := (.own n20 0 (lset x25 x26 (-1 : Int)).length)) rfl (fun _ _ h => lset_own h) ?_
           refine AO.coe 27 (y' := (.own n20 0 (lset x25 x26 (-1 : Int)).length)) rfl (fun _ _ h => lset_own h) ?_
           refine AO.coe 49 (y' := (.own n20 0 (lset x25 x26 (-1 : Int)).length)) rfl (fun _ _ h => lset_own h) ?_
           refine AO.nK [2, 3, 4, 7, 19, 20, 21, 27, 28, 29] ?_
           exact ⟨(lset x25 x26 (-1 : Int)), rfl, rfl, h⟩
          ·refine AW.condF' _ rfl hc37 ?_
           refine AW.sK [2, 3, 4, 7, 19, 20, 21, 27, 28, 29] ?_
           exact ⟨x25, rfl, rfl, h⟩
        ·rintro _ _ ⟨x30, rfl, rfl, h⟩
         rw [dfa_Trim_c3.eq_1] at h
         refine AW.reg ?_
         refine AO.c (x := eI64 (w64 (x26 + (1 : Int)))) (Calm.int rfl rfl rfl rfl) ?_
         refine AO.c (Calm.move rfl rfl) ?_
         refine AO.nK [2, 3, 4, 7, 19, 20, 21, 27, 28, 29] ?_
         exact ⟨kq28, Nat.lt_succ_self _, x30, (w64 (x26 + (1 : Int))), rfl, rfl, by rw [hrec27]; exact h⟩
       ·refine AW.condN _ rfl hc29 ?_
        refine AW.eK [2, 3, 4, 7, 19, 20, 21] ?_
        exact ⟨x25, rfl, rfl, h⟩
      ·rintro _ _ ⟨x21, rfl, rfl, h⟩
       rw [dfa_Trim_c2.eq_1] at h
       refine AW.reg ?_
       refine AO.c (x := .ptr n6 256) (Calm.fldPtr rfl rfl Try.underlying30 rfl sz28 _ rfl) ?_
       refine AO.c (Calm.load 1 rfl rfl rfl (At.cast (At.fldS (At.fld0 At.here)) rfl) ag28 sz28) ?_
       refine AO.c (Calm.move rfl rfl) ?_
       refine AO.freezeS 3 [(7, (.fz 1 (x21.map eI64))), (55, (.fz 1 (x21.map eI64)))] rfl ⟨fz_all rfl, fz_all rfl, trivial⟩ ?_
       refine AO.lit (Z := (.fl (.slice none 0 0))) (xs := (([x21] : List (List Int)).map e25)) (qs := [(0, (.fz 1 (x21.map eI64)))]) rfl 56 rfl (by decide) rfl ⟨rfl, rfl, rfl, trivial⟩ Try.underlying28 sz25 zr25 lay25 rfl (by decide) (litOK (z := 1) [(.fz 1 (x21.map eI64))] rfl ⟨⟨rfl, rfl⟩, trivial⟩) rfl fun n22 => ?_
       obtain ⟨hg24, h⟩ := of_guard h
       refine AO.appendL (l := x10) (m := ([x21] : List (List Int))) 3 57 rfl (by decide) rfl rfl rfl rfl rfl (Src.ownL (f := e25) (l := ([x21] : List (List Int))) 0 rfl) Try.underlying28 Try.underlying28 sz25 by25 zr25 rfl hg24 (by decide) fun n23 => ?_
       refine AO.c (x := .ptr n6 256) (Calm.fldPtr rfl rfl Try.underlying30 rfl sz28 _ rfl) ?_
       refine AO.store (X' := (.st [(256, (.ar 1 (p0.f0.toList.map eU8))), (1, (.own n23 0 (x10 ++ ([x21] : List (List Int))).length)), (1, (.fz 1 (t5.map eI64)))])) 2 rfl rfl rfl rfl rfl rfl (Put.cast (Put.fldS (Put.fld0 Put.here)) rfl) rfl rfl sz28 rfl ?_
       refine AO.nH [2, 3, 4, 19, 20, 21] (H' := [(n3, (.mem (.st [(256, (.ar 1 ((Vector.replicate 256 (0 : Int)).toList.map eU8))), (1, (.fl (.slice none 0 0))), (1, (.fl (.slice none 0 0)))]))), (n6, (.mem (.st [(256, (.ar 1 (p0.f0.toList.map eU8))), (1, (.own n23 0 (x10 ++ ([x21] : List (List Int))).length)), (1, (.fz 1 (t5.map eI64)))]))), (n23, (.mem (.ar 1 ((x10 ++ ([x21] : List (List Int))).map e25))))]) (Sub.cons 1 rfl (Sub.cons 1 rfl (Sub.cons 1 rfl (Sub.nil _)))) ?_
       exact ⟨n23, (x10 ++ ([x21] : List (List Int))), rfl, rfl, h⟩
     ·rintro _ _ ⟨n15, x16, rfl, rfl, h⟩
      rw [dfa_Trim_c1.eq_1] at h
      refine AW.reg ?_
      refine AO.c (x := eI64 (w64 (x11 + (1 : Int)))) (Calm.int rfl rfl rfl rfl) ?_
      refine AO.c (Calm.move rfl rfl) ?_
      refine AO.nK [2, 3, 4, 19, 20, 21] ?_
      exact ⟨kq13, Nat.lt_succ_self _, n15, x16, (w64 (x11 + (1 : Int))), rfl, rfl, by rw [hrec12]; exact h⟩
    ·refine AW.condN _ rfl hc14 ?_
     refine AW.eK [2, 4] ?_
     exact ⟨n9, x10, rfl, rfl, h⟩
   ·rintro _ _ ⟨n7, x8, rfl, rfl, h⟩
    rw [dfa_Trim_c0.eq_1] at h
    refine AW.sr ?_
    refine AO.freezeFld (X' := (.st [(256, (.ar 1 (p0.f0.toList.map eU8))), (1, (.fz 1 (x8.map e25))), (1, (.fz 1 (t5.map eI64)))])) (els' := (x8.map e25)) 2 1 rfl rfl (Put.cast (Put.fldS (Put.fld0 Put.here)) rfl) (by simp) (by rw [own_all]) rfl rfl (by decide) ?_
    refine AO.c (x := e30 (S30.mk p0.f0 x8 t5)) (Calm.load 1 rfl rfl rfl (At.cast At.here rfl) ag30 sz30) ?_
    refine AO.store (X' := (e30 (S30.mk p0.f0 x8 t5))) 0 rfl rfl rfl rfl rfl rfl (Put.cast Put.here rfl) rfl rfl sz30 rfl ?_
    refine AO.nH [2] (H' := [(n3, (.mem (e30 (S30.mk p0.f0 x8 t5))))]) (Sub.cons 0 rfl (Sub.nil _)) ?_
    refine AW.rK [2] ?_
    have hr := Option.some.inj h
    subst hr
    exact ⟨[(e30 (S30.mk p0.f0 x8 t5))], ⟨⟨_, 0, rfl, rfl, ag30, sz30⟩, trivial⟩, rfl⟩
end Go.Avl.T5
/- bosket/dfa.Reached; printed by avmain.py. -/
namespace Go.Avl.T5
open Go Go.RowKit Go.Proofs Go.Avl
set_option linter.unusedVariables false
set_option maxRecDepth 100000
set_option maxHeartbeats 4000000
attribute [local irreducible] AW AO AQ Spec SpecH Calm

def dfa_Reached_c0 (k : Nat) (x11 : (List Bool)) : Option (List Bool) :=
  some (x11)
def dfa_Reached_c1 (k : Nat) (rec27 : ((List Bool) → (List Int) → Int → Option (List Bool))) (x26 : Int) (x30 : (List Bool)) (x32 : (List Int)) : Option (List Bool) :=
  rec27 x30 x32 (w64 (x26 + (1 : Int)))
def dfa_Reached_l2 (k : Nat) (rec16 : ((List Bool) → (List Int) → Option (List Bool))) (p0 : S30) (x15 : (List Int)) : Nat → (List Bool) → (List Int) → Int → Option (List Bool)
  | 0, _, _, _ => none
  | j + 1, x23, x25, x26 =>
    if x26 < ((lget p0.f1 (lget x15 (0 : Int))).length : Int) then if 0 ≤ x26 ∧ x26 < ((lget p0.f1 (lget x15 (0 : Int))).length : Int) then Option.bind (α := Bool) (if (0 : Int) ≤ (lget (lget p0.f1 (lget x15 (0 : Int))) x26) then if (lget (lget p0.f1 (lget x15 (0 : Int))) x26) < (x23.length : Int) then if 0 ≤ (lget (lget p0.f1 (lget x15 (0 : Int))) x26) ∧ (lget (lget p0.f1 (lget x15 (0 : Int))) x26) < (x23.length : Int) then some (!(lget x23 (lget (lget p0.f1 (lget x15 (0 : Int))) x26)))
    else none
    else some (false)
    else some (false)) fun b34 =>
    if b34 = true then if 0 ≤ (lget (lget p0.f1 (lget x15 (0 : Int))) x26) ∧ (lget (lget p0.f1 (lget x15 (0 : Int))) x26) < (x23.length : Int) then if (x25 ++ ([(lget (lget p0.f1 (lget x15 (0 : Int))) x26)] : List Int)).length * 8 ≤ 140737488355328 then dfa_Reached_c1 k (dfa_Reached_l2 k rec16 p0 x15 j) x26 (lset x23 (lget (lget p0.f1 (lget x15 (0 : Int))) x26) true) (x25 ++ ([(lget (lget p0.f1 (lget x15 (0 : Int))) x26)] : List Int))
    else none
    else none
    else dfa_Reached_c1 k (dfa_Reached_l2 k rec16 p0 x15 j) x26 x23 x25
    else none
    else rec16 x23 x25
def dfa_Reached_l3 (k : Nat) (p0 : S30) : Nat → (List Bool) → (List Int) → Option (List Bool)
  | 0, _, _ => none
  | j + 1, x13, x15 =>
    if (0 : Int) < (x15.length : Int) then if 0 ≤ (0 : Int) ∧ (0 : Int) < (x15.length : Int) then if 0 ≤ (1 : Int) ∧ (1 : Int) ≤ (x15.length : Int) then if 0 ≤ (lget x15 (0 : Int)) ∧ (lget x15 (0 : Int)) < (p0.f1.length : Int) then dfa_Reached_l2 k (dfa_Reached_l3 k p0 j) p0 x15 k x13 (x15.drop (1 : Int).toNat) (0 : Int)
    else none
    else none
    else none
    else dfa_Reached_c0 k x13
def dfa_Reached (k : Nat) (p0 : S30) (p1 : Int) : Option (List Bool) :=
  if 0 ≤ (p0.f1.length : Int) ∧ (p0.f1.length : Int) * (1 : Int) ≤ 140737488355328 ∧ (p0.f1.length : Int) ≤ 9223372036854775807 then Option.bind (α := Bool) (if p1 < (0 : Int) then some (true)
  else some (decide (((List.replicate (p0.f1.length : Int).toNat false).length : Int) ≤ p1))) fun b6 =>
  if b6 = true then some ((List.replicate (p0.f1.length : Int).toNat false))
  else if 0 ≤ p1 ∧ p1 < ((List.replicate (p0.f1.length : Int).toNat false).length : Int) then dfa_Reached_l3 k p0 k (lset (List.replicate (p0.f1.length : Int).toNat false) p1 true) ([p1] : List Int)
  else none
  else none
theorem dfa_Reached_spec {k : Nat} {p0 : S30} {p1 : Int} {r : (List Bool)} (h : dfa_Reached k p0 p1 = some r) : Spec Try.prog 84 [(e30 p0), (eI64 p1)] (e49 r) := by
  rw [dfa_Reached.eq_1] at h
  refine Spec.intro (res := [.tmp 4]) Try.func84 rfl rfl rfl (Nat.le_of_ble_eq_true rfl) ?_
  refine AW.sr ?_
  refine AO.box rfl 2 rfl (by decide) rfl rfl rfl fun n3 => ?_
  refine AO.c (Calm.assign rfl rfl) ?_
  refine AO.nK [1, 2] ?_
  refine AW.sr ?_
  refine AO.c (x := .ptr n3 256) (Calm.fldPtr rfl rfl Try.underlying30 rfl sz28 _ rfl) ?_
  refine AO.c (Calm.load 0 rfl rfl rfl (At.cast (At.fldS (At.fld0 At.here)) rfl) ag28 sz28) ?_
  refine AO.c (Calm.lenL rfl rfl Try.underlying28) ?_
  obtain ⟨hg5, h⟩ := of_guard h
  refine AO.makeL (f := eBool) false rfl 13 rfl (by decide) rfl rfl rfl Try.underlying49 sz4 by4 zr4 lay4 rfl hg5 fun n4 => ?_
  refine AO.c (Calm.assign rfl rfl) ?_
  refine AO.nH [1, 2, 5] (H' := [(n3, (.mem (e30 p0))), (n4, (.mem (.ar 1 ((List.replicate (p0.f1.length : Int).toNat false).map eBool))))]) (Sub.cons 1 rfl (Sub.cons 0 rfl (Sub.nil _))) ?_
  refine AW.seq ?_
  refine AW.seq ?_
  obtain ⟨b6, hq7, h⟩ := of_bind h
  refine AW.regM [(1, (eI64 p1)), (2, (.ptr n3 0)), (5, (.own n4 0 (List.replicate (p0.f1.length : Int).toNat false).length)), (21, (eBool b6))] [(n3, (.mem (e30 p0))), (n4, (.mem (.ar 1 ((List.replicate (p0.f1.length : Int).toNat false).map eBool))))] ?_ ?_
  ·refine AO.c (Calm.move rfl rfl) ?_
   refine AO.c (x := eBool (decide (p1 < (0 : Int)))) (Calm.int rfl rfl rfl rfl) ?_
   refine AO.c (Calm.move rfl rfl) ?_
   rcases of_ite hq7 with ⟨hc8, hq7⟩ | ⟨hc8, hq7⟩
   ·refine AO.sF rfl rfl (bD (decide_eq_true hc8)) ?_
    refine AO.sF rfl rfl (bD (decide_eq_true hc8)) ?_
    refine AO.sF rfl rfl (bD (decide_eq_true hc8)) ?_
    refine AO.sF rfl rfl (bD (decide_eq_true hc8)) ?_
    refine AO.c (Calm.pickT rfl (bD (decide_eq_true hc8)) rfl) ?_
    cases hq7
    refine AO.nilE ⟨rfl, rfl⟩ ?_ ?_
    · exact ⟨rfl, rfl, rfl, rfl, trivial⟩
    · exact (Sub.refl _)
   ·refine AO.cG rfl rfl (bD (decide_eq_false hc8)) (Calm.move rfl rfl) ?_
    refine AO.cG rfl rfl (bD (decide_eq_false hc8)) (Calm.move rfl rfl) ?_
    refine AO.cG rfl rfl (bD (decide_eq_false hc8)) (Calm.lenOwn rfl rfl Try.underlying49) ?_
    refine AO.cG (x := eBool (decide (((List.replicate (p0.f1.length : Int).toNat false).length : Int) ≤ p1))) rfl rfl (bD (decide_eq_false hc8)) (Calm.int rfl rfl rfl rfl) ?_
    refine AO.c (Calm.pickF rfl (bD (decide_eq_false hc8)) rfl) ?_
    cases hq7
    refine AO.nilE ⟨rfl, rfl⟩ ?_ ?_
    · exact ⟨rfl, rfl, rfl, rfl, trivial⟩
    · exact (Sub.refl _)
  ·rcases of_ite h with ⟨hc9, h⟩ | ⟨hc9, h⟩
   ·refine AW.condT' _ rfl hc9 ?_
    refine AW.sr ?_
    refine AO.c (Calm.move rfl rfl) ?_
    refine AO.c (Calm.assign rfl rfl) ?_
    refine AO.nH [4] (H' := [(n4, (.mem (.ar 1 ((List.replicate (p0.f1.length : Int).toNat false).map eBool))))]) (Sub.cons 1 rfl (Sub.nil _)) ?_
    refine AW.freezeS 0 [(4, (.fz 1 ((List.replicate (p0.f1.length : Int).toNat false).map eBool)))] rfl ⟨fz_all rfl, trivial⟩ ?_
    refine AW.rK [4] ?_
    have hr := Option.some.inj h
    subst hr
    exact ⟨[(.fz 1 ((List.replicate (p0.f1.length : Int).toNat false).map eBool))], ⟨rfl, rfl, trivial⟩, rfl⟩
   ·refine AW.condF' _ rfl hc9 ?_
    refine AW.sK [1, 2, 5] ?_
    refine AW.sr ?_
    refine AO.c (Calm.move rfl rfl) ?_
    refine AO.c (Calm.move rfl rfl) ?_
    obtain ⟨hg10, h⟩ := of_guard h
    refine AO.c (Calm.idxO 1 rfl rfl rfl rfl hg10 Try.underlying49 sz4) ?_
    refine AO.store (X' := (.ar 1 ((lset (List.replicate (p0.f1.length : Int).toNat false) p1 true).map eBool))) 1 rfl rfl rfl rfl rfl rfl (Put.cast (Put.lidx p1 true hg10.1 hg10.2 Put.here) (by omega)) rfl rfl sz4 rfl ?_
    refine AO.coe 5 (y' := (.own n4 0 (lset (List.replicate (p0.f1.length : Int).toNat false) p1 true).length)) rfl (fun _ _ h => lset_own h) ?_
    refine AO.coe 23 (y' := (.own n4 0 (lset (List.replicate (p0.f1.length : Int).toNat false) p1 true).length)) rfl (fun _ _ h => lset_own h) ?_
    refine AO.nK [1, 2, 5] ?_
    refine AW.seq_mid (fun ρ H => ∃ (x11 : (List Bool)), ρ = [(5, (.own n4 0 x11.length))] ∧ H = [(n4, (.mem (.ar 1 (x11.map eBool))))] ∧ dfa_Reached_c0 k x11 = some r) ?_ ?_
    ·refine AW.sr ?_
     refine AO.c (Calm.move rfl rfl) ?_
     refine AO.lit (Z := (eI64 (0 : Int))) (xs := (([p1] : List Int).map eI64)) (qs := [(0, (eI64 p1))]) rfl 27 rfl (by decide) rfl ⟨rfl, rfl, rfl, trivial⟩ Try.underlying25 sz3 zr3 lay3 rfl (by decide) (litOK (z := 1) [(eI64 p1)] rfl ⟨⟨rfl, rfl⟩, trivial⟩) rfl fun n12 => ?_
     refine AO.c (Calm.assign rfl rfl) ?_
     refine AO.nH [2, 5, 6] (H' := [(n3, (.mem (e30 p0))), (n4, (.mem (.ar 1 ((lset (List.replicate (p0.f1.length : Int).toNat false) p1 true).map eBool)))), (n12, (.mem (.ar 1 (([p1] : List Int).map eI64))))]) (Sub.cons 1 rfl (Sub.cons 1 rfl (Sub.cons 0 rfl (Sub.nil _)))) ?_
     refine AW.block ?_
     refine AW.wK [2, 5, 6] ?_
     refine AW.loop (fun kq ρ H => ∃ (n14 : Nat) (x13 : (List Bool)) (x15 : (List Int)), ρ = [(2, (.ptr n3 0)), (5, (.own n4 0 x13.length)), (6, (.own n14 0 x15.length))] ∧ H = [(n3, (.mem (e30 p0))), (n4, (.mem (.ar 1 (x13.map eBool)))), (n14, (.mem (.ar 1 (x15.map eI64))))] ∧ dfa_Reached_l3 k p0 kq x13 x15 = some r) k ⟨n12, (lset (List.replicate (p0.f1.length : Int).toNat false) p1 true), ([p1] : List Int), rfl, rfl, h⟩ ?_
     rintro kq17 _ _ ⟨n14, x13, x15, rfl, rfl, h⟩
     cases kq17 with
     | zero => rw [dfa_Reached_l3.eq_1] at h; cases h
     | succ kq17 =>
     rw [dfa_Reached_l3.eq_2] at h
     generalize hrec16 : dfa_Reached_l3 k p0 kq17 = rec16 at h
     refine AW.seq ?_
     refine AW.sr ?_
     refine AO.c (Calm.move rfl rfl) ?_
     refine AO.c (Calm.lenOwn rfl rfl Try.underlying25) ?_
     refine AO.c (x := eBool (decide ((0 : Int) < (x15.length : Int)))) (Calm.int rfl rfl rfl rfl) ?_
     refine AO.nK [2, 5, 6, 30] ?_
     rcases of_ite h with ⟨hc18, h⟩ | ⟨hc18, h⟩
     ·refine AW.condP _ rfl hc18 ?_
      refine AW.sK [2, 5, 6] ?_
      refine AW.block ?_
      refine AW.sr ?_
      refine AO.c (Calm.move rfl rfl) ?_
      obtain ⟨hg19, h⟩ := of_guard h
      refine AO.c (Calm.idxO 2 rfl rfl rfl rfl hg19 Try.underlying25 sz3) ?_
      refine AO.c (Calm.load 2 rfl rfl rfl (At.cast (At.lidx (0 : Int) hg19.1 hg19.2 At.here) (by omega)) ag3 sz3) ?_
      refine AO.c (Calm.assign rfl rfl) ?_
      refine AO.nK [2, 5, 6, 7] ?_
      refine AW.sr ?_
      refine AO.c (Calm.move rfl rfl) ?_
      obtain ⟨hg20, h⟩ := of_guard h
      refine AO.sufNew (l := x15) (f := eI64) 2 35 rfl (by decide) rfl rfl rfl rfl rfl hg20 Try.underlying25 sz3 fun n21 => ?_
      refine AO.c (Calm.assign rfl rfl) ?_
      refine AO.nK [2, 5, 6, 7] ?_
      refine AW.sr ?_
      refine AO.c (x := .ptr n3 256) (Calm.fldPtr rfl rfl Try.underlying30 rfl sz28 _ rfl) ?_
      refine AO.c (Calm.load 0 rfl rfl rfl (At.cast (At.fldS (At.fld0 At.here)) rfl) ag28 sz28) ?_
      refine AO.c (Calm.move rfl rfl) ?_
      obtain ⟨hg22, h⟩ := of_guard h
      refine AO.c (Calm.idxL (f := e25) rfl rfl rfl hg22 Try.underlying28 sz25) ?_
      refine AO.c (Calm.loadRp rfl rfl ag25 sz25) ?_
      refine AO.c (Calm.lenL rfl rfl Try.underlying25) ?_
      refine AO.c (Calm.move rfl rfl) ?_
      refine AO.nK [2, 5, 6, 40, 41, 42] ?_
      refine AW.block ?_
      refine AW.wK [2, 5, 6, 40, 41, 42] ?_
      refine AW.loop (fun kq ρ H => ∃ (n24 : Nat) (x23 : (List Bool)) (x25 : (List Int)) (x26 : Int), ρ = [(2, (.ptr n3 0)), (5, (.own n4 0 x23.length)), (6, (.own n24 0 x25.length)), (40, (.fz 1 ((lget p0.f1 (lget x15 (0 : Int))).map eI64))), (41, (eI64 ((lget p0.f1 (lget x15 (0 : Int))).length : Int))), (42, (eI64 x26))] ∧ H = [(n3, (.mem (e30 p0))), (n4, (.mem (.ar 1 (x23.map eBool)))), (n24, (.mem (.ar 1 (x25.map eI64))))] ∧ dfa_Reached_l2 k rec16 p0 x15 kq x23 x25 x26 = some r) k ⟨n21, x13, (x15.drop (1 : Int).toNat), (0 : Int), rfl, rfl, h⟩ ?_
      rintro kq28 _ _ ⟨n24, x23, x25, x26, rfl, rfl, h⟩
      cases kq28 with
      | zero => rw [dfa_Reached_l2.eq_1] at h; cases h
      | succ kq28 =>
      rw [dfa_Reached_l2.eq_2] at h
      generalize hrec27 : dfa_Reached_l2 k rec16 p0 x15 kq28 = rec27 at h
      refine AW.sr ?_
      refine AO.c (x := eBool (decide (x26 < ((lget p0.f1 (lget x15 (0 : Int))).length : Int)))) (Calm.int rfl rfl rfl rfl) ?_
      refine AO.nK [2, 5, 6, 40, 41, 42, 43] ?_
      refine AW.seq ?_
      rcases of_ite h with ⟨hc29, h⟩ | ⟨hc29, h⟩
      ·refine AW.condP _ rfl hc29 ?_
       refine AW.sK [2, 5, 6, 40, 41, 42] ?_
       refine AW.seq_mid (fun ρ H => ∃ (n31 : Nat) (x30 : (List Bool)) (x32 : (List Int)), ρ = [(2, (.ptr n3 0)), (5, (.own n4 0 x30.length)), (6, (.own n31 0 x32.length)), (40, (.fz 1 ((lget p0.f1 (lget x15 (0 : Int))).map eI64))), (41, (eI64 ((lget p0.f1 (lget x15 (0 : Int))).length : Int))), (42, (eI64 x26))] ∧ H = [(n3, (.mem (e30 p0))), (n4, (.mem (.ar 1 (x30.map eBool)))), (n31, (.mem (.ar 1 (x32.map eI64))))] ∧ dfa_Reached_c1 k rec27 x26 x30 x32 = some r) ?_ ?_
       ·refine AW.block ?_
        refine AW.sr ?_
        obtain ⟨hg33, h⟩ := of_guard h
        refine AO.c (Calm.idxL (f := eI64) rfl rfl rfl hg33 Try.underlying25 sz3) ?_
        refine AO.c (Calm.loadRp rfl rfl ag3 sz3) ?_
        refine AO.c (Calm.assign rfl rfl) ?_
        refine AO.nK [2, 5, 6, 9, 40, 41, 42] ?_
        refine AW.seq ?_
        obtain ⟨b34, hq35, h⟩ := of_bind h
        refine AW.regM [(2, (.ptr n3 0)), (5, (.own n4 0 x23.length)), (6, (.own n24 0 x25.length)), (9, (eI64 (lget (lget p0.f1 (lget x15 (0 : Int))) x26))), (40, (.fz 1 ((lget p0.f1 (lget x15 (0 : Int))).map eI64))), (41, (eI64 ((lget p0.f1 (lget x15 (0 : Int))).length : Int))), (42, (eI64 x26)), (60, (eBool b34))] [(n3, (.mem (e30 p0))), (n4, (.mem (.ar 1 (x23.map eBool)))), (n24, (.mem (.ar 1 (x25.map eI64))))] ?_ ?_
        ·refine AO.c (Calm.move rfl rfl) ?_
         refine AO.c (x := eBool (decide ((0 : Int) ≤ (lget (lget p0.f1 (lget x15 (0 : Int))) x26)))) (Calm.int rfl rfl rfl rfl) ?_
         refine AO.c (Calm.move rfl rfl) ?_
         rcases of_ite hq35 with ⟨hc36, hq35⟩ | ⟨hc36, hq35⟩
         ·refine AO.cG rfl rfl (bD (decide_eq_true hc36)) (Calm.move rfl rfl) ?_
          refine AO.cG rfl rfl (bD (decide_eq_true hc36)) (Calm.move rfl rfl) ?_
          refine AO.cG rfl rfl (bD (decide_eq_true hc36)) (Calm.lenOwn rfl rfl Try.underlying49) ?_
          refine AO.cG (x := eBool (decide ((lget (lget p0.f1 (lget x15 (0 : Int))) x26) < (x23.length : Int)))) rfl rfl (bD (decide_eq_true hc36)) (Calm.int rfl rfl rfl rfl) ?_
          refine AO.c (Calm.pickT rfl (bD (decide_eq_true hc36)) rfl) ?_
          refine AO.c (Calm.move rfl rfl) ?_
          rcases of_ite hq35 with ⟨hc37, hq35⟩ | ⟨hc37, hq35⟩
          ·refine AO.cG rfl rfl (bD (decide_eq_true hc37)) (Calm.move rfl rfl) ?_
           refine AO.cG rfl rfl (bD (decide_eq_true hc37)) (Calm.move rfl rfl) ?_
           obtain ⟨hg38, hq35⟩ := of_guard hq35
           refine AO.cG rfl rfl (bD (decide_eq_true hc37)) (Calm.idxO 1 rfl rfl rfl rfl hg38 Try.underlying49 sz4) ?_
           refine AO.cG rfl rfl (bD (decide_eq_true hc37)) (Calm.load 1 rfl rfl rfl (At.cast (At.lidx (lget (lget p0.f1 (lget x15 (0 : Int))) x26) hg38.1 hg38.2 At.here) (by omega)) ag4 sz4) ?_
           refine AO.cG rfl rfl (bD (decide_eq_true hc37)) (Calm.not rfl rfl) ?_
           refine AO.c (Calm.pickT rfl (bD (decide_eq_true hc37)) rfl) ?_
           cases hq35
           refine AO.nilE ⟨rfl, rfl⟩ ?_ ?_
           · exact ⟨rfl, rfl, rfl, rfl, rfl, rfl, rfl, rfl, trivial⟩
           · exact (Sub.refl _)
          ·refine AO.sT rfl rfl (bD (decide_eq_false hc37)) ?_
           refine AO.sT rfl rfl (bD (decide_eq_false hc37)) ?_
           refine AO.sT rfl rfl (bD (decide_eq_false hc37)) ?_
           refine AO.sT rfl rfl (bD (decide_eq_false hc37)) ?_
           refine AO.sT rfl rfl (bD (decide_eq_false hc37)) ?_
           refine AO.c (Calm.pickF rfl (bD (decide_eq_false hc37)) rfl) ?_
           cases hq35
           refine AO.nilE ⟨rfl, rfl⟩ ?_ ?_
           · exact ⟨rfl, rfl, rfl, rfl, rfl, rfl, rfl, rfl, trivial⟩
           · exact (Sub.refl _)
         ·refine AO.sT rfl rfl (bD (decide_eq_false hc36)) ?_
          refine AO.sT rfl rfl (bD (decide_eq_false hc36)) ?_
          refine AO.sT rfl rfl (bD (decide_eq_false hc36)) ?_
          refine AO.sT rfl rfl (bD (decide_eq_false hc36)) ?_
          refine AO.c (Calm.pickF rfl (bD (decide_eq_false hc36)) rfl) ?_
          refine AO.c (Calm.move rfl rfl) ?_
          refine AO.sT rfl rfl rfl ?_
          refine AO.sT rfl rfl rfl ?_
          refine AO.sT rfl rfl rfl ?_
          refine AO.sT rfl rfl rfl ?_
          refine AO.sT rfl rfl rfl ?_
          refine AO.c (Calm.pickF rfl rfl rfl) ?_
          cases hq35
          refine AO.nilE ⟨rfl, rfl⟩ ?_ ?_
          · exact ⟨rfl, rfl, rfl, rfl, rfl, rfl, rfl, rfl, trivial⟩
          · exact (Sub.refl _)
        ·rcases of_ite h with ⟨hc39, h⟩ | ⟨hc39, h⟩
         ·refine AW.condT' _ rfl hc39 ?_
          refine AW.sr ?_
          refine AO.c (Calm.move rfl rfl) ?_
          refine AO.c (Calm.move rfl rfl) ?_
          obtain ⟨hg40, h⟩ := of_guard h
          refine AO.c (Calm.idxO 1 rfl rfl rfl rfl hg40 Try.underlying49 sz4) ?_
          refine AO.store (X' := (.ar 1 ((lset x23 (lget (lget p0.f1 (lget x15 (0 : Int))) x26) true).map eBool))) 1 rfl rfl rfl rfl rfl rfl (Put.cast (Put.lidx (lget (lget p0.f1 (lget x15 (0 : Int))) x26) true hg40.1 hg40.2 Put.here) (by omega)) rfl rfl sz4 rfl ?_
          refine AO.coe 5 (y' := (.own n4 0 (lset x23 (lget (lget p0.f1 (lget x15 (0 : Int))) x26) true).length)) rfl (fun _ _ h => lset_own h) ?_
          refine AO.coe 61 (y' := (.own n4 0 (lset x23 (lget (lget p0.f1 (lget x15 (0 : Int))) x26) true).length)) rfl (fun _ _ h => lset_own h) ?_
          refine AO.nK [2, 5, 6, 9, 40, 41, 42] ?_
          refine AW.reg ?_
          refine AO.c (Calm.move rfl rfl) ?_
          refine AO.c (Calm.move rfl rfl) ?_
          refine AO.lit (Z := (eI64 (0 : Int))) (xs := (([(lget (lget p0.f1 (lget x15 (0 : Int))) x26)] : List Int).map eI64)) (qs := [(0, (eI64 (lget (lget p0.f1 (lget x15 (0 : Int))) x26)))]) rfl 66 rfl (by decide) rfl ⟨rfl, rfl, rfl, trivial⟩ Try.underlying25 sz3 zr3 lay3 rfl (by decide) (litOK (z := 1) [(eI64 (lget (lget p0.f1 (lget x15 (0 : Int))) x26))] rfl ⟨⟨rfl, rfl⟩, trivial⟩) rfl fun n41 => ?_
          obtain ⟨hg43, h⟩ := of_guard h
          refine AO.appendL (l := x25) (m := ([(lget (lget p0.f1 (lget x15 (0 : Int))) x26)] : List Int)) 3 67 rfl (by decide) rfl rfl rfl rfl rfl (Src.ownL (f := eI64) (l := ([(lget (lget p0.f1 (lget x15 (0 : Int))) x26)] : List Int)) 0 rfl) Try.underlying25 Try.underlying25 sz3 by3 zr3 rfl hg43 (by decide) fun n42 => ?_
          refine AO.c (Calm.assign rfl rfl) ?_
          refine AO.nH [2, 5, 6, 40, 41, 42] (H' := [(n3, (.mem (e30 p0))), (n4, (.mem (.ar 1 ((lset x23 (lget (lget p0.f1 (lget x15 (0 : Int))) x26) true).map eBool)))), (n42, (.mem (.ar 1 ((x25 ++ ([(lget (lget p0.f1 (lget x15 (0 : Int))) x26)] : List Int)).map eI64))))]) (Sub.cons 1 rfl (Sub.cons 1 rfl (Sub.cons 1 rfl (Sub.nil _)))) ?_
          exact ⟨n42, (lset x23 (lget (lget p0.f1 (lget x15 (0 : Int))) x26) true), (x25 ++ ([(lget (lget p0.f1 (lget x15 (0 : Int))) x26)] : List Int)), rfl, rfl, h⟩
         ·refine AW.condF' _ rfl hc39 ?_
          refine AW.sK [2, 5, 6, 40, 41, 42] ?_
          exact ⟨n24, x23, x25, rfl, rfl, h⟩
       ·rintro _ _ ⟨n31, x30, x32, rfl, rfl, h⟩
        rw [dfa_Reached_c1.eq_1] at h
        refine AW.reg ?_
        refine AO.c (x := eI64 (w64 (x26 + (1 : Int)))) (Calm.int rfl rfl rfl rfl) ?_
        refine AO.c (Calm.move rfl rfl) ?_
        refine AO.nK [2, 5, 6, 40, 41, 42] ?_
        exact ⟨kq28, Nat.lt_succ_self _, n31, x30, x32, (w64 (x26 + (1 : Int))), rfl, rfl, by rw [hrec27]; exact h⟩
      ·refine AW.condN _ rfl hc29 ?_
       refine AW.eK [2, 5, 6] ?_
       exact ⟨kq17, Nat.lt_succ_self _, n24, x23, x25, rfl, rfl, by rw [hrec16]; exact h⟩
     ·refine AW.condN _ rfl hc18 ?_
      refine AW.eH [5] (H' := [(n4, (.mem (.ar 1 (x13.map eBool))))]) (Sub.cons 1 rfl (Sub.nil _)) ?_
      exact ⟨x13, rfl, rfl, h⟩
    ·rintro _ _ ⟨x11, rfl, rfl, h⟩
     rw [dfa_Reached_c0.eq_1] at h
     refine AW.sr ?_
     refine AO.c (Calm.move rfl rfl) ?_
     refine AO.c (Calm.assign rfl rfl) ?_
     refine AO.nK [4] ?_
     refine AW.freezeS 0 [(4, (.fz 1 (x11.map eBool)))] rfl ⟨fz_all rfl, trivial⟩ ?_
     refine AW.rK [4] ?_
     have hr := Option.some.inj h
     subst hr
     exact ⟨[(.fz 1 (x11.map eBool))], ⟨rfl, rfl, trivial⟩, rfl⟩
end Go.Avl.T5
/- bosket/fuse.ends; printed by avmain.py. -/
namespace Go.Avl.T5
open Go Go.RowKit Go.Proofs Go.Avl
set_option linter.unusedVariables false
set_option maxRecDepth 100000
set_option maxHeartbeats 4000000
attribute [local irreducible] AW AO AQ Spec SpecH Calm

def fuse_ends (k : Nat) (p0 : S30) (p1 : (List Int)) (p2 : Int) : Option Bool :=
  (dfa_Mark k p0 p2).bind fun t5 =>
  (dfa_Step k p0 p2 (10 : Int)).bind fun t6 =>
  if (0 : Int) ≤ t6 then some (false)
  else Option.bind (α := Bool) (if t5 < (p1.length : Int) then if 0 ≤ t5 ∧ t5 < (p1.length : Int) then if (lget p1 t5) = (2 : Int) then some (true)
  else (dfa_Step k p0 p2 (32 : Int)).bind fun t13 =>
  some (decide (t13 < (0 : Int)))
  else none
  else (dfa_Step k p0 p2 (32 : Int)).bind fun t14 =>
  some (decide (t14 < (0 : Int)))) fun b8 =>
  some (b8)
theorem fuse_ends_spec {k : Nat} {p0 : S30} {p1 : (List Int)} {p2 : Int} {r : Bool} (h : fuse_ends k p0 p1 p2 = some r) : Spec Try.prog 86 [(e30 p0), (.fz 1 (p1.map eI64)), (eI64 p2)] (eBool r) := by
  rw [fuse_ends.eq_1] at h
  refine Spec.intro (res := [.tmp 6]) Try.func86 rfl rfl rfl (Nat.le_of_ble_eq_true rfl) ?_
  refine AW.sr ?_
  refine AO.box rfl 3 rfl (by decide) rfl rfl rfl fun n4 => ?_
  refine AO.c (Calm.assign rfl rfl) ?_
  refine AO.nK [1, 2, 3] ?_
  refine AW.sr ?_
  refine AO.c (Calm.load 0 rfl rfl rfl (At.cast At.here rfl) ag30 sz30) ?_
  refine AO.c (Calm.move rfl rfl) ?_
  obtain ⟨t5, et5, h⟩ := of_bind h
  refine AO.callS [(e30 p0), (eI64 p2)] (eI64 t5) 10 rfl (by decide) ok85 rfl rfl rfl ⟨rfl, rfl, rfl, rfl, trivial⟩ (dfa_Mark_spec et5) ?_
  refine AO.c (Calm.assign rfl rfl) ?_
  refine AO.nK [1, 2, 3, 7] ?_
  refine AW.seq ?_
  refine AW.sr ?_
  refine AO.c (Calm.load 0 rfl rfl rfl (At.cast At.here rfl) ag30 sz30) ?_
  refine AO.c (Calm.move rfl rfl) ?_
  obtain ⟨t6, et6, h⟩ := of_bind h
  refine AO.callS [(e30 p0), (eI64 p2), (eU8 (10 : Int))] (eI64 t6) 13 rfl (by decide) ok97 rfl rfl rfl ⟨rfl, rfl, rfl, rfl, rfl, rfl, trivial⟩ (dfa_Step_spec et6) ?_
  refine AO.c (x := eBool (decide ((0 : Int) ≤ t6))) (Calm.int rfl rfl rfl rfl) ?_
  refine AO.nK [1, 2, 3, 7, 14] ?_
  rcases of_ite h with ⟨hc7, h⟩ | ⟨hc7, h⟩
  ·refine AW.condP _ rfl hc7 ?_
   refine AW.sr ?_
   refine AO.c (Calm.assign rfl rfl) ?_
   refine AO.nH [6] (H' := []) (Sub.nil _) ?_
   refine AW.rK [6] ?_
   have hr := Option.some.inj h
   subst hr
   exact ⟨[(eBool false)], ⟨rfl, rfl, trivial⟩, rfl⟩
  ·refine AW.condN _ rfl hc7 ?_
   refine AW.sK [1, 2, 3, 7] ?_
   refine AW.seq ?_
   obtain ⟨b8, hq9, h⟩ := of_bind h
   refine AW.regM [(6, (eBool b8))] [] ?_ ?_
   ·refine AO.c (Calm.move rfl rfl) ?_
    refine AO.c (Calm.move rfl rfl) ?_
    refine AO.c (Calm.lenL rfl rfl Try.underlying25) ?_
    refine AO.c (x := eBool (decide (t5 < (p1.length : Int)))) (Calm.int rfl rfl rfl rfl) ?_
    refine AO.c (Calm.move rfl rfl) ?_
    rcases of_ite hq9 with ⟨hc10, hq9⟩ | ⟨hc10, hq9⟩
    ·refine AO.cG rfl rfl (bD (decide_eq_true hc10)) (Calm.move rfl rfl) ?_
     refine AO.cG rfl rfl (bD (decide_eq_true hc10)) (Calm.move rfl rfl) ?_
     obtain ⟨hg11, hq9⟩ := of_guard hq9
     refine AO.cG rfl rfl (bD (decide_eq_true hc10)) (Calm.idxL (f := eI64) rfl rfl rfl hg11 Try.underlying25 sz3) ?_
     refine AO.cG rfl rfl (bD (decide_eq_true hc10)) (Calm.loadRp rfl rfl ag3 sz3) ?_
     refine AO.cG (x := eBool (decide ((lget p1 t5) = (2 : Int)))) rfl rfl (bD (decide_eq_true hc10)) (Calm.int rfl rfl rfl rfl) ?_
     refine AO.c (Calm.pickT rfl (bD (decide_eq_true hc10)) rfl) ?_
     refine AO.c (Calm.move rfl rfl) ?_
     rcases of_ite hq9 with ⟨hc12, hq9⟩ | ⟨hc12, hq9⟩
     ·refine AO.sF rfl rfl (bD (decide_eq_true hc12)) ?_
      refine AO.sF rfl rfl (bD (decide_eq_true hc12)) ?_
      refine AO.sF rfl rfl (bD (decide_eq_true hc12)) ?_
      refine AO.sF rfl rfl (bD (decide_eq_true hc12)) ?_
      refine AO.c (Calm.pickT rfl (bD (decide_eq_true hc12)) rfl) ?_
      refine AO.c (Calm.assign rfl rfl) ?_
      cases hq9
      refine AO.nilE ⟨rfl, rfl⟩ ?_ ?_
      · exact ⟨rfl, trivial⟩
      · exact (Sub.nil _)
     ·refine AO.cG rfl rfl (bD (decide_eq_false hc12)) (Calm.load 0 rfl rfl rfl (At.cast At.here rfl) ag30 sz30) ?_
      refine AO.cG rfl rfl (bD (decide_eq_false hc12)) (Calm.move rfl rfl) ?_
      obtain ⟨t13, et13, hq9⟩ := of_bind hq9
      refine AO.callG 11 false 26 [(e30 p0), (eI64 p2), (eU8 (32 : Int))] (eI64 t13) 29 rfl (by decide) ok97 rfl rfl (bD (decide_eq_false hc12)) rfl rfl ⟨rfl, rfl, rfl, rfl, rfl, rfl, trivial⟩ (dfa_Step_spec et13) ?_
      refine AO.cG (x := eBool (decide (t13 < (0 : Int)))) rfl rfl (bD (decide_eq_false hc12)) (Calm.int rfl rfl rfl rfl) ?_
      refine AO.c (Calm.pickF rfl (bD (decide_eq_false hc12)) rfl) ?_
      refine AO.c (Calm.assign rfl rfl) ?_
      cases hq9
      refine AO.nilE ⟨rfl, rfl⟩ ?_ ?_
      · exact ⟨rfl, trivial⟩
      · exact (Sub.nil _)
    ·refine AO.sT rfl rfl (bD (decide_eq_false hc10)) ?_
     refine AO.sT rfl rfl (bD (decide_eq_false hc10)) ?_
     refine AO.sT rfl rfl (bD (decide_eq_false hc10)) ?_
     refine AO.sT rfl rfl (bD (decide_eq_false hc10)) ?_
     refine AO.sT rfl rfl (bD (decide_eq_false hc10)) ?_
     refine AO.c (Calm.pickF rfl (bD (decide_eq_false hc10)) rfl) ?_
     refine AO.c (Calm.move rfl rfl) ?_
     refine AO.cG rfl rfl rfl (Calm.load 0 rfl rfl rfl (At.cast At.here rfl) ag30 sz30) ?_
     refine AO.cG rfl rfl rfl (Calm.move rfl rfl) ?_
     obtain ⟨t14, et14, hq9⟩ := of_bind hq9
     refine AO.callG 11 false 26 [(e30 p0), (eI64 p2), (eU8 (32 : Int))] (eI64 t14) 29 rfl (by decide) ok97 rfl rfl rfl rfl rfl ⟨rfl, rfl, rfl, rfl, rfl, rfl, trivial⟩ (dfa_Step_spec et14) ?_
     refine AO.cG (x := eBool (decide (t14 < (0 : Int)))) rfl rfl rfl (Calm.int rfl rfl rfl rfl) ?_
     refine AO.c (Calm.pickF rfl rfl rfl) ?_
     refine AO.c (Calm.assign rfl rfl) ?_
     cases hq9
     refine AO.nilE ⟨rfl, rfl⟩ ?_ ?_
     · exact ⟨rfl, trivial⟩
     · exact (Sub.nil _)
   ·refine AW.rK [6] ?_
    have hr := Option.some.inj h
    subst hr
    exact ⟨[(eBool b8)], ⟨rfl, rfl, trivial⟩, rfl⟩
end Go.Avl.T5
/- bosket/fuse.blanks; printed by avmain.py. -/
namespace Go.Avl.T5
open Go Go.RowKit Go.Proofs Go.Avl
set_option linter.unusedVariables false
set_option maxRecDepth 100000
set_option maxHeartbeats 4000000
attribute [local irreducible] AW AO AQ Spec SpecH Calm

def fuse_blanks_c0 (k : Nat) : Option Bool :=
  some (true)
def fuse_blanks_c1 (k : Nat) (rec6 : (Int → Option Bool)) (x5 : Int) : Option Bool :=
  rec6 (w64 (x5 + (1 : Int)))
def fuse_blanks_c2 (k : Nat) (rec14 : (Int → Option Bool)) (x13 : Int) : Option Bool :=
  rec14 (w64 (x13 + (1 : Int)))
def fuse_blanks_l3 (k : Nat) (rec14 : (Int → Option Bool)) (p0 : S30) (x13 : Int) : Nat → Int → Option Bool
  | 0, _ => none
  | j + 1, x24 =>
    if x24 < (256 : Int) then Option.bind (α := Bool) (if x24 ≠ (32 : Int) then if x24 ≠ (10 : Int) then if x24 ≠ (9 : Int) then if x24 ≠ (13 : Int) then (dfa_Step k p0 x13 (w8 x24)).bind fun t34 =>
    some (decide ((0 : Int) ≤ t34))
    else some (false)
    else some (false)
    else some (false)
    else some (false)) fun b28 =>
    if b28 = true then some (false)
    else (fuse_blanks_l3 k rec14 p0 x13 j) (w64 (x24 + (1 : Int)))
    else fuse_blanks_c2 k rec14 x13
def fuse_blanks_l4 (k : Nat) (rec6 : (Int → Option Bool)) (p0 : S30) (p1 : Int) (x5 : Int) (t12 : (List Bool)) : Nat → Int → Option Bool
  | 0, _ => none
  | j + 1, x13 =>
    if x13 < (t12.length : Int) then if 0 ≤ x13 ∧ x13 < (t12.length : Int) then if (!(lget t12 x13)) = true then fuse_blanks_c2 k (fuse_blanks_l4 k rec6 p0 p1 x5 t12 j) x13
    else (dfa_Mark k p0 x13).bind fun t19 =>
    Option.bind (α := Bool) (if (0 : Int) ≤ t19 then some (decide (t19 ≠ p1))
    else some (false)) fun b20 =>
    if b20 = true then some (false)
    else fuse_blanks_l3 k (fuse_blanks_l4 k rec6 p0 p1 x5 t12 j) p0 x13 k (0 : Int)
    else none
    else fuse_blanks_c1 k rec6 x5
def fuse_blanks_l5 (k : Nat) (p0 : S30) (p1 : Int) : Nat → Int → Option Bool
  | 0, _ => none
  | j + 1, x5 =>
    if x5 < (([(32 : Int), (10 : Int), (9 : Int), (13 : Int)] : List Int).length : Int) then if 0 ≤ x5 ∧ x5 < (([(32 : Int), (10 : Int), (9 : Int), (13 : Int)] : List Int).length : Int) then (some (lget ([(32 : Int), (10 : Int), (9 : Int), (13 : Int)] : List Int) x5)).bind fun x10 =>
    (dfa_Step k p0 (0 : Int) x10).bind fun t11 =>
    (dfa_Reached k p0 t11).bind fun t12 =>
    fuse_blanks_l4 k (fuse_blanks_l5 k p0 p1 j) p0 p1 x5 t12 k (0 : Int)
    else none
    else fuse_blanks_c0 k
def fuse_blanks (k : Nat) (p0 : S30) (p1 : Int) : Option Bool :=
  fuse_blanks_l5 k p0 p1 k (0 : Int)
theorem fuse_blanks_spec {k : Nat} {p0 : S30} {p1 : Int} {r : Bool} (h : fuse_blanks k p0 p1 = some r) : Spec Try.prog 87 [(e30 p0), (eI64 p1)] (eBool r) := by
  rw [fuse_blanks.eq_1] at h
  refine Spec.intro (res := [.tmp 4]) Try.func87 rfl rfl rfl (Nat.le_of_ble_eq_true rfl) ?_
  refine AW.sr ?_
  refine AO.box rfl 2 rfl (by decide) rfl rfl rfl fun n3 => ?_
  refine AO.c (Calm.assign rfl rfl) ?_
  refine AO.nK [1, 2] ?_
  refine AW.seq_mid (fun ρ H => ρ = [] ∧ H = [] ∧ fuse_blanks_c0 k = some r) ?_ ?_
  ·refine AW.sr ?_
   refine AO.lit (Z := (eU8 (0 : Int))) (xs := (([(32 : Int), (10 : Int), (9 : Int), (13 : Int)] : List Int).map eU8)) (qs := [(0, (eU8 (32 : Int))), (1, (eU8 (10 : Int))), (2, (eU8 (9 : Int))), (3, (eU8 (13 : Int)))]) rfl 12 rfl (by decide) rfl ⟨rfl, rfl, rfl, rfl, rfl, rfl, rfl, rfl, rfl, rfl, rfl, rfl, trivial⟩ Try.underlying77 sz5 zr5 lay5 rfl (by decide) (litOK (z := 1) [(eU8 (32 : Int)), (eU8 (10 : Int)), (eU8 (9 : Int)), (eU8 (13 : Int))] rfl ⟨⟨rfl, rfl⟩, ⟨rfl, rfl⟩, ⟨rfl, rfl⟩, ⟨rfl, rfl⟩, trivial⟩) rfl fun n4 => ?_
   refine AO.c (Calm.lenOwn rfl rfl Try.underlying77) ?_
   refine AO.c (Calm.move rfl rfl) ?_
   refine AO.nH [1, 2, 12, 13, 14] (H' := [(n3, (.mem (e30 p0))), (n4, (.mem (.ar 1 (([(32 : Int), (10 : Int), (9 : Int), (13 : Int)] : List Int).map eU8))))]) (Sub.cons 1 rfl (Sub.cons 0 rfl (Sub.nil _))) ?_
   refine AW.block ?_
   refine AW.wK [1, 2, 12, 13, 14] ?_
   refine AW.loop (fun kq ρ H => ∃ (x5 : Int), ρ = [(1, (eI64 p1)), (2, (.ptr n3 0)), (12, (.own n4 0 ([(32 : Int), (10 : Int), (9 : Int), (13 : Int)] : List Int).length)), (13, (eI64 (([(32 : Int), (10 : Int), (9 : Int), (13 : Int)] : List Int).length : Int))), (14, (eI64 x5))] ∧ H = [(n3, (.mem (e30 p0))), (n4, (.mem (.ar 1 (([(32 : Int), (10 : Int), (9 : Int), (13 : Int)] : List Int).map eU8))))] ∧ fuse_blanks_l5 k p0 p1 kq x5 = some r) k ⟨(0 : Int), rfl, rfl, h⟩ ?_
   rintro kq7 _ _ ⟨x5, rfl, rfl, h⟩
   cases kq7 with
   | zero => rw [fuse_blanks_l5.eq_1] at h; cases h
   | succ kq7 =>
   rw [fuse_blanks_l5.eq_2] at h
   generalize hrec6 : fuse_blanks_l5 k p0 p1 kq7 = rec6 at h
   refine AW.sr ?_
   refine AO.c (x := eBool (decide (x5 < (([(32 : Int), (10 : Int), (9 : Int), (13 : Int)] : List Int).length : Int)))) (Calm.int rfl rfl rfl rfl) ?_
   refine AO.nK [1, 2, 12, 13, 14, 15] ?_
   refine AW.seq ?_
   rcases of_ite h with ⟨hc8, h⟩ | ⟨hc8, h⟩
   ·refine AW.condP _ rfl hc8 ?_
    refine AW.sK [1, 2, 12, 13, 14] ?_
    refine AW.seq_mid (fun ρ H => ρ = [(1, (eI64 p1)), (2, (.ptr n3 0)), (12, (.own n4 0 ([(32 : Int), (10 : Int), (9 : Int), (13 : Int)] : List Int).length)), (13, (eI64 (([(32 : Int), (10 : Int), (9 : Int), (13 : Int)] : List Int).length : Int))), (14, (eI64 x5))] ∧ H = [(n3, (.mem (e30 p0))), (n4, (.mem (.ar 1 (([(32 : Int), (10 : Int), (9 : Int), (13 : Int)] : List Int).map eU8))))] ∧ fuse_blanks_c1 k rec6 x5 = some r) ?_ ?_
    ·refine AW.block ?_
     refine AW.sr ?_
     obtain ⟨hg9, h⟩ := of_guard h
     refine AO.c (Calm.idxO 1 rfl rfl rfl rfl hg9 Try.underlying77 sz5) ?_
     refine AO.c (Calm.load 1 rfl rfl rfl (At.cast (At.lidx x5 hg9.1 hg9.2 At.here) (by omega)) ag5 sz5) ?_
     obtain ⟨x10, ex10, h⟩ := of_bind h
     refine AO.c (Calm.assign rfl (congrArg (fun x => some (eU8 x)) (Option.some.inj ex10))) ?_
     refine AO.nK [1, 2, 6, 12, 13, 14] ?_
     refine AW.sr ?_
     refine AO.c (Calm.load 0 rfl rfl rfl (At.cast At.here rfl) ag30 sz30) ?_
     refine AO.c (Calm.move rfl rfl) ?_
     obtain ⟨t11, et11, h⟩ := of_bind h
     refine AO.callS [(e30 p0), (eI64 (0 : Int)), (eU8 x10)] (eI64 t11) 20 rfl (by decide) ok97 rfl rfl rfl ⟨rfl, rfl, rfl, rfl, rfl, rfl, trivial⟩ (dfa_Step_spec et11) ?_
     refine AO.c (Calm.assign rfl rfl) ?_
     refine AO.nK [1, 2, 7, 12, 13, 14] ?_
     refine AW.sr ?_
     refine AO.c (Calm.load 0 rfl rfl rfl (At.cast At.here rfl) ag30 sz30) ?_
     refine AO.c (Calm.move rfl rfl) ?_
     obtain ⟨t12, et12, h⟩ := of_bind h
     refine AO.callS [(e30 p0), (eI64 t11)] (.fz 1 (t12.map eBool)) 23 rfl (by decide) ok84 rfl rfl rfl ⟨rfl, rfl, rfl, rfl, trivial⟩ (dfa_Reached_spec et12) ?_
     refine AO.c (Calm.lenL rfl rfl Try.underlying49) ?_
     refine AO.c (Calm.move rfl rfl) ?_
     refine AO.nK [1, 2, 12, 13, 14, 23, 24, 25] ?_
     refine AW.block ?_
     refine AW.wK [1, 2, 12, 13, 14, 23, 24, 25] ?_
     refine AW.loop (fun kq ρ H => ∃ (x13 : Int), ρ = [(1, (eI64 p1)), (2, (.ptr n3 0)), (12, (.own n4 0 ([(32 : Int), (10 : Int), (9 : Int), (13 : Int)] : List Int).length)), (13, (eI64 (([(32 : Int), (10 : Int), (9 : Int), (13 : Int)] : List Int).length : Int))), (14, (eI64 x5)), (23, (.fz 1 (t12.map eBool))), (24, (eI64 (t12.length : Int))), (25, (eI64 x13))] ∧ H = [(n3, (.mem (e30 p0))), (n4, (.mem (.ar 1 (([(32 : Int), (10 : Int), (9 : Int), (13 : Int)] : List Int).map eU8))))] ∧ fuse_blanks_l4 k rec6 p0 p1 x5 t12 kq x13 = some r) k ⟨(0 : Int), rfl, rfl, h⟩ ?_
     rintro kq15 _ _ ⟨x13, rfl, rfl, h⟩
     cases kq15 with
     | zero => rw [fuse_blanks_l4.eq_1] at h; cases h
     | succ kq15 =>
     rw [fuse_blanks_l4.eq_2] at h
     generalize hrec14 : fuse_blanks_l4 k rec6 p0 p1 x5 t12 kq15 = rec14 at h
     refine AW.sr ?_
     refine AO.c (x := eBool (decide (x13 < (t12.length : Int)))) (Calm.int rfl rfl rfl rfl) ?_
     refine AO.nK [1, 2, 12, 13, 14, 23, 24, 25, 26] ?_
     refine AW.seq ?_
     rcases of_ite h with ⟨hc16, h⟩ | ⟨hc16, h⟩
     ·refine AW.condP _ rfl hc16 ?_
      refine AW.sK [1, 2, 12, 13, 14, 23, 24, 25] ?_
      refine AW.seq_mid (fun ρ H => ρ = [(1, (eI64 p1)), (2, (.ptr n3 0)), (12, (.own n4 0 ([(32 : Int), (10 : Int), (9 : Int), (13 : Int)] : List Int).length)), (13, (eI64 (([(32 : Int), (10 : Int), (9 : Int), (13 : Int)] : List Int).length : Int))), (14, (eI64 x5)), (23, (.fz 1 (t12.map eBool))), (24, (eI64 (t12.length : Int))), (25, (eI64 x13))] ∧ H = [(n3, (.mem (e30 p0))), (n4, (.mem (.ar 1 (([(32 : Int), (10 : Int), (9 : Int), (13 : Int)] : List Int).map eU8))))] ∧ fuse_blanks_c2 k rec14 x13 = some r) ?_ ?_
      ·refine AW.block ?_
       refine AW.sr ?_
       refine AO.c (Calm.move rfl rfl) ?_
       obtain ⟨hg17, h⟩ := of_guard h
       refine AO.c (Calm.idxL (f := eBool) rfl rfl rfl hg17 Try.underlying49 sz4) ?_
       refine AO.c (Calm.loadRp rfl rfl ag4 sz4) ?_
       refine AO.c (Calm.assign rfl rfl) ?_
       refine AO.c (Calm.assign rfl rfl) ?_
       refine AO.nK [1, 2, 8, 9, 12, 13, 14, 23, 24, 25] ?_
       refine AW.seq ?_
       refine AW.sr ?_
       refine AO.c (Calm.move rfl rfl) ?_
       refine AO.c (Calm.not rfl rfl) ?_
       refine AO.nK [1, 2, 8, 12, 13, 14, 23, 24, 25, 31] ?_
       rcases of_ite h with ⟨hc18, h⟩ | ⟨hc18, h⟩
       ·refine AW.condT' _ rfl hc18 ?_
        refine AW.eK [1, 2, 12, 13, 14, 23, 24, 25] ?_
        exact ⟨rfl, rfl, h⟩
       ·refine AW.condF' _ rfl hc18 ?_
        refine AW.sK [1, 2, 8, 12, 13, 14, 23, 24, 25] ?_
        refine AW.seq ?_
        refine AW.sr ?_
        refine AO.c (Calm.load 0 rfl rfl rfl (At.cast At.here rfl) ag30 sz30) ?_
        refine AO.c (Calm.move rfl rfl) ?_
        obtain ⟨t19, et19, h⟩ := of_bind h
        refine AO.callS [(e30 p0), (eI64 x13)] (eI64 t19) 34 rfl (by decide) ok85 rfl rfl rfl ⟨rfl, rfl, rfl, rfl, trivial⟩ (dfa_Mark_spec et19) ?_
        refine AO.c (Calm.assign rfl rfl) ?_
        refine AO.nK [1, 2, 8, 10, 12, 13, 14, 23, 24, 25] ?_
        refine AW.seq ?_
        obtain ⟨b20, hq21, h⟩ := of_bind h
        refine AW.regM [(1, (eI64 p1)), (2, (.ptr n3 0)), (8, (eI64 x13)), (12, (.own n4 0 ([(32 : Int), (10 : Int), (9 : Int), (13 : Int)] : List Int).length)), (13, (eI64 (([(32 : Int), (10 : Int), (9 : Int), (13 : Int)] : List Int).length : Int))), (14, (eI64 x5)), (23, (.fz 1 (t12.map eBool))), (24, (eI64 (t12.length : Int))), (25, (eI64 x13)), (41, (eBool b20))] [(n3, (.mem (e30 p0))), (n4, (.mem (.ar 1 (([(32 : Int), (10 : Int), (9 : Int), (13 : Int)] : List Int).map eU8))))] ?_ ?_
        ·refine AO.c (Calm.move rfl rfl) ?_
         refine AO.c (x := eBool (decide ((0 : Int) ≤ t19))) (Calm.int rfl rfl rfl rfl) ?_
         refine AO.c (Calm.move rfl rfl) ?_
         rcases of_ite hq21 with ⟨hc22, hq21⟩ | ⟨hc22, hq21⟩
         ·refine AO.cG rfl rfl (bD (decide_eq_true hc22)) (Calm.move rfl rfl) ?_
          refine AO.cG rfl rfl (bD (decide_eq_true hc22)) (Calm.move rfl rfl) ?_
          refine AO.cG (x := eBool (decide (t19 ≠ p1))) rfl rfl (bD (decide_eq_true hc22)) (Calm.int rfl rfl rfl rfl) ?_
          refine AO.c (Calm.pickT rfl (bD (decide_eq_true hc22)) rfl) ?_
          cases hq21
          refine AO.nilE ⟨rfl, rfl⟩ ?_ ?_
          · exact ⟨rfl, rfl, rfl, rfl, rfl, rfl, rfl, rfl, rfl, rfl, trivial⟩
          · exact (Sub.refl _)
         ·refine AO.sT rfl rfl (bD (decide_eq_false hc22)) ?_
          refine AO.sT rfl rfl (bD (decide_eq_false hc22)) ?_
          refine AO.sT rfl rfl (bD (decide_eq_false hc22)) ?_
          refine AO.c (Calm.pickF rfl (bD (decide_eq_false hc22)) rfl) ?_
          cases hq21
          refine AO.nilE ⟨rfl, rfl⟩ ?_ ?_
          · exact ⟨rfl, rfl, rfl, rfl, rfl, rfl, rfl, rfl, rfl, rfl, trivial⟩
          · exact (Sub.refl _)
        ·rcases of_ite h with ⟨hc23, h⟩ | ⟨hc23, h⟩
         ·refine AW.condT' _ rfl hc23 ?_
          refine AW.sr ?_
          refine AO.c (Calm.assign rfl rfl) ?_
          refine AO.nH [4] (H' := []) (Sub.nil _) ?_
          refine AW.rK [4] ?_
          have hr := Option.some.inj h
          subst hr
          exact ⟨[(eBool false)], ⟨rfl, rfl, trivial⟩, rfl⟩
         ·refine AW.condF' _ rfl hc23 ?_
          refine AW.sK [1, 2, 8, 12, 13, 14, 23, 24, 25] ?_
          refine AW.sr ?_
          refine AO.c (Calm.move rfl rfl) ?_
          refine AO.nK [1, 2, 8, 12, 13, 14, 23, 24, 25, 42] ?_
          refine AW.block ?_
          refine AW.wK [1, 2, 8, 12, 13, 14, 23, 24, 25, 42] ?_
          refine AW.loop (fun kq ρ H => ∃ (x24 : Int), ρ = [(1, (eI64 p1)), (2, (.ptr n3 0)), (8, (eI64 x13)), (12, (.own n4 0 ([(32 : Int), (10 : Int), (9 : Int), (13 : Int)] : List Int).length)), (13, (eI64 (([(32 : Int), (10 : Int), (9 : Int), (13 : Int)] : List Int).length : Int))), (14, (eI64 x5)), (23, (.fz 1 (t12.map eBool))), (24, (eI64 (t12.length : Int))), (25, (eI64 x13)), (42, (eI64 x24))] ∧ H = [(n3, (.mem (e30 p0))), (n4, (.mem (.ar 1 (([(32 : Int), (10 : Int), (9 : Int), (13 : Int)] : List Int).map eU8))))] ∧ fuse_blanks_l3 k rec14 p0 x13 kq x24 = some r) k ⟨(0 : Int), rfl, rfl, h⟩ ?_
          rintro kq26 _ _ ⟨x24, rfl, rfl, h⟩
          cases kq26 with
          | zero => rw [fuse_blanks_l3.eq_1] at h; cases h
          | succ kq26 =>
          rw [fuse_blanks_l3.eq_2] at h
          generalize hrec25 : fuse_blanks_l3 k rec14 p0 x13 kq26 = rec25 at h
          refine AW.sr ?_
          refine AO.c (x := eBool (decide (x24 < (256 : Int)))) (Calm.int rfl rfl rfl rfl) ?_
          refine AO.nK [1, 2, 8, 12, 13, 14, 23, 24, 25, 42, 43] ?_
          refine AW.seq ?_
          rcases of_ite h with ⟨hc27, h⟩ | ⟨hc27, h⟩
          ·refine AW.condP _ rfl hc27 ?_
           refine AW.sK [1, 2, 8, 12, 13, 14, 23, 24, 25, 42] ?_
           refine AW.seq ?_
           refine AW.block ?_
           refine AW.sr ?_
           refine AO.c (Calm.move rfl rfl) ?_
           refine AO.c (Calm.assign rfl rfl) ?_
           refine AO.nK [1, 2, 8, 11, 12, 13, 14, 23, 24, 25, 42] ?_
           refine AW.seq ?_
           obtain ⟨b28, hq29, h⟩ := of_bind h
           refine AW.regM [(1, (eI64 p1)), (2, (.ptr n3 0)), (8, (eI64 x13)), (12, (.own n4 0 ([(32 : Int), (10 : Int), (9 : Int), (13 : Int)] : List Int).length)), (13, (eI64 (([(32 : Int), (10 : Int), (9 : Int), (13 : Int)] : List Int).length : Int))), (14, (eI64 x5)), (23, (.fz 1 (t12.map eBool))), (24, (eI64 (t12.length : Int))), (25, (eI64 x13)), (42, (eI64 x24)), (66, (eBool b28))] [(n3, (.mem (e30 p0))), (n4, (.mem (.ar 1 (([(32 : Int), (10 : Int), (9 : Int), (13 : Int)] : List Int).map eU8))))] ?_ ?_
           ·refine AO.c (Calm.move rfl rfl) ?_
            refine AO.c (x := eBool (decide (x24 ≠ (32 : Int)))) (Calm.int rfl rfl rfl rfl) ?_
            refine AO.c (Calm.move rfl rfl) ?_
            rcases of_ite hq29 with ⟨hc30, hq29⟩ | ⟨hc30, hq29⟩
            ·refine AO.cG rfl rfl (bD (decide_eq_true hc30)) (Calm.move rfl rfl) ?_
             refine AO.cG (x := eBool (decide (x24 ≠ (10 : Int)))) rfl rfl (bD (decide_eq_true hc30)) (Calm.int rfl rfl rfl rfl) ?_
             refine AO.c (Calm.pickT rfl (bD (decide_eq_true hc30)) rfl) ?_
             refine AO.c (Calm.move rfl rfl) ?_
             rcases of_ite hq29 with ⟨hc31, hq29⟩ | ⟨hc31, hq29⟩
             ·refine AO.cG rfl rfl (bD (decide_eq_true hc31)) (Calm.move rfl rfl) ?_
              refine AO.cG (x := eBool (decide (x24 ≠ (9 : Int)))) rfl rfl (bD (decide_eq_true hc31)) (Calm.int rfl rfl rfl rfl) ?_
              refine AO.c (Calm.pickT rfl (bD (decide_eq_true hc31)) rfl) ?_
              refine AO.c (Calm.move rfl rfl) ?_
              rcases of_ite hq29 with ⟨hc32, hq29⟩ | ⟨hc32, hq29⟩
              ·refine AO.cG rfl rfl (bD (decide_eq_true hc32)) (Calm.move rfl rfl) ?_
               refine AO.cG (x := eBool (decide (x24 ≠ (13 : Int)))) rfl rfl (bD (decide_eq_true hc32)) (Calm.int rfl rfl rfl rfl) ?_
               refine AO.c (Calm.pickT rfl (bD (decide_eq_true hc32)) rfl) ?_
               refine AO.c (Calm.move rfl rfl) ?_
               rcases of_ite hq29 with ⟨hc33, hq29⟩ | ⟨hc33, hq29⟩
               ·refine AO.cG rfl rfl (bD (decide_eq_true hc33)) (Calm.load 0 rfl rfl rfl (At.cast At.here rfl) ag30 sz30) ?_
                refine AO.cG rfl rfl (bD (decide_eq_true hc33)) (Calm.move rfl rfl) ?_
                refine AO.cG rfl rfl (bD (decide_eq_true hc33)) (Calm.move rfl rfl) ?_
                refine AO.cG (x := eU8 (w8 x24)) rfl rfl (bD (decide_eq_true hc33)) (Calm.conv rfl rfl Try.underlying3 Try.underlying5) ?_
                obtain ⟨t34, et34, hq29⟩ := of_bind hq29
                refine AO.callG 14 true 59 [(e30 p0), (eI64 x13), (eU8 (w8 x24))] (eI64 t34) 64 rfl (by decide) ok97 rfl rfl (bD (decide_eq_true hc33)) rfl rfl ⟨rfl, rfl, rfl, rfl, rfl, rfl, trivial⟩ (dfa_Step_spec et34) ?_
                refine AO.cG (x := eBool (decide ((0 : Int) ≤ t34))) rfl rfl (bD (decide_eq_true hc33)) (Calm.int rfl rfl rfl rfl) ?_
                refine AO.c (Calm.pickT rfl (bD (decide_eq_true hc33)) rfl) ?_
                cases hq29
                refine AO.nilE ⟨rfl, rfl⟩ ?_ ?_
                · exact ⟨rfl, rfl, rfl, rfl, rfl, rfl, rfl, rfl, rfl, rfl, rfl, trivial⟩
                · exact (Sub.refl _)
               ·refine AO.sT rfl rfl (bD (decide_eq_false hc33)) ?_
                refine AO.sT rfl rfl (bD (decide_eq_false hc33)) ?_
                refine AO.sT rfl rfl (bD (decide_eq_false hc33)) ?_
                refine AO.sT rfl rfl (bD (decide_eq_false hc33)) ?_
                refine AO.sT rfl rfl (bD (decide_eq_false hc33)) ?_
                refine AO.sT rfl rfl (bD (decide_eq_false hc33)) ?_
                refine AO.c (Calm.pickF rfl (bD (decide_eq_false hc33)) rfl) ?_
                cases hq29
                refine AO.nilE ⟨rfl, rfl⟩ ?_ ?_
                · exact ⟨rfl, rfl, rfl, rfl, rfl, rfl, rfl, rfl, rfl, rfl, rfl, trivial⟩
                · exact (Sub.refl _)
              ·refine AO.sT rfl rfl (bD (decide_eq_false hc32)) ?_
               refine AO.sT rfl rfl (bD (decide_eq_false hc32)) ?_
               refine AO.c (Calm.pickF rfl (bD (decide_eq_false hc32)) rfl) ?_
               refine AO.c (Calm.move rfl rfl) ?_
               refine AO.sT rfl rfl rfl ?_
               refine AO.sT rfl rfl rfl ?_
               refine AO.sT rfl rfl rfl ?_
               refine AO.sT rfl rfl rfl ?_
               refine AO.sT rfl rfl rfl ?_
               refine AO.sT rfl rfl rfl ?_
               refine AO.c (Calm.pickF rfl rfl rfl) ?_
               cases hq29
               refine AO.nilE ⟨rfl, rfl⟩ ?_ ?_
               · exact ⟨rfl, rfl, rfl, rfl, rfl, rfl, rfl, rfl, rfl, rfl, rfl, trivial⟩
               · exact (Sub.refl _)
             ·refine AO.sT rfl rfl (bD (decide_eq_false hc31)) ?_
              refine AO.sT rfl rfl (bD (decide_eq_false hc31)) ?_
              refine AO.c (Calm.pickF rfl (bD (decide_eq_false hc31)) rfl) ?_
              refine AO.c (Calm.move rfl rfl) ?_
              refine AO.sT rfl rfl rfl ?_
              refine AO.sT rfl rfl rfl ?_
              refine AO.c (Calm.pickF rfl rfl rfl) ?_
              refine AO.c (Calm.move rfl rfl) ?_
              refine AO.sT rfl rfl rfl ?_
              refine AO.sT rfl rfl rfl ?_
              refine AO.sT rfl rfl rfl ?_
              refine AO.sT rfl rfl rfl ?_
              refine AO.sT rfl rfl rfl ?_
              refine AO.sT rfl rfl rfl ?_
              refine AO.c (Calm.pickF rfl rfl rfl) ?_
              cases hq29
              refine AO.nilE ⟨rfl, rfl⟩ ?_ ?_
              · exact ⟨rfl, rfl, rfl, rfl, rfl, rfl, rfl, rfl, rfl, rfl, rfl, trivial⟩
              · exact (Sub.refl _)
            ·refine AO.sT rfl rfl (bD (decide_eq_false hc30)) ?_
             refine AO.sT rfl rfl (bD (decide_eq_false hc30)) ?_
             refine AO.c (Calm.pickF rfl (bD (decide_eq_false hc30)) rfl) ?_
             refine AO.c (Calm.move rfl rfl) ?_
             refine AO.sT rfl rfl rfl ?_
             refine AO.sT rfl rfl rfl ?_
             refine AO.c (Calm.pickF rfl rfl rfl) ?_
             refine AO.c (Calm.move rfl rfl) ?_
             refine AO.sT rfl rfl rfl ?_
             refine AO.sT rfl rfl rfl ?_
             refine AO.c (Calm.pickF rfl rfl rfl) ?_
             refine AO.c (Calm.move rfl rfl) ?_
             refine AO.sT rfl rfl rfl ?_
             refine AO.sT rfl rfl rfl ?_
             refine AO.sT rfl rfl rfl ?_
             refine AO.sT rfl rfl rfl ?_
             refine AO.sT rfl rfl rfl ?_
             refine AO.sT rfl rfl rfl ?_
             refine AO.c (Calm.pickF rfl rfl rfl) ?_
             cases hq29
             refine AO.nilE ⟨rfl, rfl⟩ ?_ ?_
             · exact ⟨rfl, rfl, rfl, rfl, rfl, rfl, rfl, rfl, rfl, rfl, rfl, trivial⟩
             · exact (Sub.refl _)
           ·rcases of_ite h with ⟨hc35, h⟩ | ⟨hc35, h⟩
            ·refine AW.condT' _ rfl hc35 ?_
             refine AW.sr ?_
             refine AO.c (Calm.assign rfl rfl) ?_
             refine AO.nH [4] (H' := []) (Sub.nil _) ?_
             refine AW.rK [4] ?_
             have hr := Option.some.inj h
             subst hr
             exact ⟨[(eBool false)], ⟨rfl, rfl, trivial⟩, rfl⟩
            ·refine AW.condF' _ rfl hc35 ?_
             refine AW.sK [1, 2, 8, 12, 13, 14, 23, 24, 25, 42] ?_
             refine AW.reg ?_
             refine AO.c (x := eI64 (w64 (x24 + (1 : Int)))) (Calm.int rfl rfl rfl rfl) ?_
             refine AO.c (Calm.move rfl rfl) ?_
             refine AO.nK [1, 2, 8, 12, 13, 14, 23, 24, 25, 42] ?_
             exact ⟨kq26, Nat.lt_succ_self _, (w64 (x24 + (1 : Int))), rfl, rfl, by rw [hrec25]; exact h⟩
          ·refine AW.condN _ rfl hc27 ?_
           refine AW.eK [1, 2, 12, 13, 14, 23, 24, 25] ?_
           exact ⟨rfl, rfl, h⟩
      ·rintro _ _ ⟨rfl, rfl, h⟩
       rw [fuse_blanks_c2.eq_1] at h
       refine AW.reg ?_
       refine AO.c (x := eI64 (w64 (x13 + (1 : Int)))) (Calm.int rfl rfl rfl rfl) ?_
       refine AO.c (Calm.move rfl rfl) ?_
       refine AO.nK [1, 2, 12, 13, 14, 23, 24, 25] ?_
       exact ⟨kq15, Nat.lt_succ_self _, (w64 (x13 + (1 : Int))), rfl, rfl, by rw [hrec14]; exact h⟩
     ·refine AW.condN _ rfl hc16 ?_
      refine AW.eK [1, 2, 12, 13, 14] ?_
      exact ⟨rfl, rfl, h⟩
    ·rintro _ _ ⟨rfl, rfl, h⟩
     rw [fuse_blanks_c1.eq_1] at h
     refine AW.reg ?_
     refine AO.c (x := eI64 (w64 (x5 + (1 : Int)))) (Calm.int rfl rfl rfl rfl) ?_
     refine AO.c (Calm.move rfl rfl) ?_
     refine AO.nK [1, 2, 12, 13, 14] ?_
     exact ⟨kq7, Nat.lt_succ_self _, (w64 (x5 + (1 : Int))), rfl, rfl, by rw [hrec6]; exact h⟩
   ·refine AW.condN _ rfl hc8 ?_
    refine AW.eH [] (H' := []) (Sub.nil _) ?_
    exact ⟨rfl, rfl, h⟩
  ·rintro _ _ ⟨rfl, rfl, h⟩
   rw [fuse_blanks_c0.eq_1] at h
   refine AW.sr ?_
   refine AO.c (Calm.assign rfl rfl) ?_
   refine AO.nK [4] ?_
   refine AW.rK [4] ?_
   have hr := Option.some.inj h
   subst hr
   exact ⟨[(eBool true)], ⟨rfl, rfl, trivial⟩, rfl⟩
end Go.Avl.T5
/- bosket/fuse.Safe; printed by avmain.py. -/
namespace Go.Avl.T5
open Go Go.RowKit Go.Proofs Go.Avl
set_option linter.unusedVariables false
set_option maxRecDepth 100000
set_option maxHeartbeats 4000000
attribute [local irreducible] AW AO AQ Spec SpecH Calm

def fuse_Safe_c0 (k : Nat) (p2 : Int) (t12 : S30) : Option Bool :=
  (fuse_blanks k t12 p2).bind fun t15 =>
  some (t15)
def fuse_Safe_l1 (k : Nat) (p1 : (List Int)) (p2 : Int) (t12 : S30) (t14 : (List Bool)) : Nat → Int → Option Bool
  | 0, _ => none
  | j + 1, x16 =>
    if x16 < (t12.f1.length : Int) then (dfa_Mark k t12 x16).bind fun t20 =>
    Option.bind (α := Bool) (if 0 ≤ x16 ∧ x16 < (t14.length : Int) then if (lget t14 x16) = true then if (0 : Int) ≤ t20 then if t20 ≠ p2 then (fuse_ends k t12 p1 x16).bind fun t27 =>
    some (!t27)
    else some (false)
    else some (false)
    else some (false)
    else none) fun b21 =>
    if b21 = true then some (false)
    else (fuse_Safe_l1 k p1 p2 t12 t14 j) (w64 (x16 + (1 : Int)))
    else fuse_Safe_c0 k p2 t12
def fuse_Safe (k : Nat) (p0 : S30) (p1 : (List Int)) (p2 : Int) : Option Bool :=
  Option.bind (α := Bool) (if p2 < (0 : Int) then some (true)
  else (dfa_Has k p0 (ByteArray.mk #[32])).bind fun t8 =>
  if t8 ≠ p2 then some (true)
  else (dfa_Has k p0 (ByteArray.mk #[10])).bind fun t10 =>
  some (decide (t10 ≠ p2))) fun b5 =>
  if b5 = true then some (false)
  else (dfa_Trim k p0).bind fun t12 =>
  (dfa_Reached k t12 (0 : Int)).bind fun t14 =>
  fuse_Safe_l1 k p1 p2 t12 t14 k (0 : Int)
theorem fuse_Safe_spec {k : Nat} {p0 : S30} {p1 : (List Int)} {p2 : Int} {r : Bool} (h : fuse_Safe k p0 p1 p2 = some r) : Spec Try.prog 58 [(e30 p0), (.fz 1 (p1.map eI64)), (eI64 p2)] (eBool r) := by
  rw [fuse_Safe.eq_1] at h
  refine Spec.intro (res := [.tmp 6]) Try.func58 rfl rfl rfl (Nat.le_of_ble_eq_true rfl) ?_
  refine AW.sr ?_
  refine AO.box rfl 3 rfl (by decide) rfl rfl rfl fun n4 => ?_
  refine AO.c (Calm.assign rfl rfl) ?_
  refine AO.nK [1, 2, 3] ?_
  refine AW.seq ?_
  refine AW.seq ?_
  obtain ⟨b5, hq6, h⟩ := of_bind h
  refine AW.regM [(1, (.fz 1 (p1.map eI64))), (2, (eI64 p2)), (3, (.ptr n4 0)), (24, (eBool b5))] [(n4, (.mem (e30 p0)))] ?_ ?_
  ·refine AO.c (Calm.move rfl rfl) ?_
   refine AO.c (x := eBool (decide (p2 < (0 : Int)))) (Calm.int rfl rfl rfl rfl) ?_
   refine AO.c (Calm.move rfl rfl) ?_
   rcases of_ite hq6 with ⟨hc7, hq6⟩ | ⟨hc7, hq6⟩
   ·refine AO.sF rfl rfl (bD (decide_eq_true hc7)) ?_
    refine AO.sF rfl rfl (bD (decide_eq_true hc7)) ?_
    refine AO.sF rfl rfl (bD (decide_eq_true hc7)) ?_
    refine AO.sF rfl rfl (bD (decide_eq_true hc7)) ?_
    refine AO.c (Calm.pickT rfl (bD (decide_eq_true hc7)) rfl) ?_
    refine AO.c (Calm.move rfl rfl) ?_
    refine AO.sF rfl rfl rfl ?_
    refine AO.sF rfl rfl rfl ?_
    refine AO.sF rfl rfl rfl ?_
    refine AO.sF rfl rfl rfl ?_
    refine AO.c (Calm.pickT rfl rfl rfl) ?_
    cases hq6
    refine AO.nilE ⟨rfl, rfl⟩ ?_ ?_
    · exact ⟨rfl, rfl, rfl, rfl, trivial⟩
    · exact (Sub.refl _)
   ·refine AO.cG rfl rfl (bD (decide_eq_false hc7)) (Calm.load 0 rfl rfl rfl (At.cast At.here rfl) ag30 sz30) ?_
    obtain ⟨t8, et8, hq6⟩ := of_bind hq6
    refine AO.callG 2 false 13 [(e30 p0), (eStr (ByteArray.mk #[32]))] (eI64 t8) 15 rfl (by decide) ok83 rfl rfl (bD (decide_eq_false hc7)) rfl rfl ⟨rfl, rfl, rfl, rfl, trivial⟩ (dfa_Has_spec et8) ?_
    refine AO.cG rfl rfl (bD (decide_eq_false hc7)) (Calm.move rfl rfl) ?_
    refine AO.cG (x := eBool (decide (t8 ≠ p2))) rfl rfl (bD (decide_eq_false hc7)) (Calm.int rfl rfl rfl rfl) ?_
    refine AO.c (Calm.pickF rfl (bD (decide_eq_false hc7)) rfl) ?_
    refine AO.c (Calm.move rfl rfl) ?_
    rcases of_ite hq6 with ⟨hc9, hq6⟩ | ⟨hc9, hq6⟩
    ·refine AO.sF rfl rfl (bD (decide_eq_true hc9)) ?_
     refine AO.sF rfl rfl (bD (decide_eq_true hc9)) ?_
     refine AO.sF rfl rfl (bD (decide_eq_true hc9)) ?_
     refine AO.sF rfl rfl (bD (decide_eq_true hc9)) ?_
     refine AO.c (Calm.pickT rfl (bD (decide_eq_true hc9)) rfl) ?_
     cases hq6
     refine AO.nilE ⟨rfl, rfl⟩ ?_ ?_
     · exact ⟨rfl, rfl, rfl, rfl, trivial⟩
     · exact (Sub.refl _)
    ·refine AO.cG rfl rfl (bD (decide_eq_false hc9)) (Calm.load 0 rfl rfl rfl (At.cast At.here rfl) ag30 sz30) ?_
     obtain ⟨t10, et10, hq6⟩ := of_bind hq6
     refine AO.callG 8 false 19 [(e30 p0), (eStr (ByteArray.mk #[10]))] (eI64 t10) 21 rfl (by decide) ok83 rfl rfl (bD (decide_eq_false hc9)) rfl rfl ⟨rfl, rfl, rfl, rfl, trivial⟩ (dfa_Has_spec et10) ?_
     refine AO.cG rfl rfl (bD (decide_eq_false hc9)) (Calm.move rfl rfl) ?_
     refine AO.cG (x := eBool (decide (t10 ≠ p2))) rfl rfl (bD (decide_eq_false hc9)) (Calm.int rfl rfl rfl rfl) ?_
     refine AO.c (Calm.pickF rfl (bD (decide_eq_false hc9)) rfl) ?_
     cases hq6
     refine AO.nilE ⟨rfl, rfl⟩ ?_ ?_
     · exact ⟨rfl, rfl, rfl, rfl, trivial⟩
     · exact (Sub.refl _)
  ·rcases of_ite h with ⟨hc11, h⟩ | ⟨hc11, h⟩
   ·refine AW.condT' _ rfl hc11 ?_
    refine AW.sr ?_
    refine AO.c (Calm.assign rfl rfl) ?_
    refine AO.nH [6] (H' := []) (Sub.nil _) ?_
    refine AW.rK [6] ?_
    have hr := Option.some.inj h
    subst hr
    exact ⟨[(eBool false)], ⟨rfl, rfl, trivial⟩, rfl⟩
   ·refine AW.condF' _ rfl hc11 ?_
    refine AW.sK [1, 2, 3] ?_
    refine AW.sr ?_
    refine AO.c (Calm.load 0 rfl rfl rfl (At.cast At.here rfl) ag30 sz30) ?_
    obtain ⟨t12, et12, h⟩ := of_bind h
    refine AO.callS [(e30 p0)] (e30 t12) 26 rfl (by decide) ok66 rfl rfl rfl ⟨rfl, rfl, trivial⟩ (dfa_Trim_spec et12) ?_
    refine AO.alloc rfl 7 rfl (by decide) rfl zr30 lay30 fun n13 => ?_
    refine AO.store (X' := (e30 t12)) 0 rfl rfl rfl rfl rfl rfl (Put.cast Put.here rfl) rfl rfl sz30 rfl ?_
    refine AO.nH [1, 2, 7] (H' := [(n13, (.mem (e30 t12)))]) (Sub.cons 0 rfl (Sub.nil _)) ?_
    refine AW.sr ?_
    refine AO.c (Calm.load 0 rfl rfl rfl (At.cast At.here rfl) ag30 sz30) ?_
    obtain ⟨t14, et14, h⟩ := of_bind h
    refine AO.callS [(e30 t12), (eI64 (0 : Int))] (.fz 1 (t14.map eBool)) 28 rfl (by decide) ok84 rfl rfl rfl ⟨rfl, rfl, rfl, rfl, trivial⟩ (dfa_Reached_spec et14) ?_
    refine AO.c (Calm.assign rfl rfl) ?_
    refine AO.nK [1, 2, 7, 8] ?_
    refine AW.seq_mid (fun ρ H => ρ = [(2, (eI64 p2)), (7, (.ptr n13 0))] ∧ H = [(n13, (.mem (e30 t12)))] ∧ fuse_Safe_c0 k p2 t12 = some r) ?_ ?_
    ·refine AW.sr ?_
     refine AO.c (x := .ptr n13 256) (Calm.fldPtr rfl rfl Try.underlying30 rfl sz28 _ rfl) ?_
     refine AO.c (Calm.load 0 rfl rfl rfl (At.cast (At.fldS (At.fld0 At.here)) rfl) ag28 sz28) ?_
     refine AO.c (Calm.lenL rfl rfl Try.underlying28) ?_
     refine AO.c (Calm.move rfl rfl) ?_
     refine AO.nK [1, 2, 7, 8, 31, 32] ?_
     refine AW.block ?_
     refine AW.wK [1, 2, 7, 8, 31, 32] ?_
     refine AW.loop (fun kq ρ H => ∃ (x16 : Int), ρ = [(1, (.fz 1 (p1.map eI64))), (2, (eI64 p2)), (7, (.ptr n13 0)), (8, (.fz 1 (t14.map eBool))), (31, (eI64 (t12.f1.length : Int))), (32, (eI64 x16))] ∧ H = [(n13, (.mem (e30 t12)))] ∧ fuse_Safe_l1 k p1 p2 t12 t14 kq x16 = some r) k ⟨(0 : Int), rfl, rfl, h⟩ ?_
     rintro kq18 _ _ ⟨x16, rfl, rfl, h⟩
     cases kq18 with
     | zero => rw [fuse_Safe_l1.eq_1] at h; cases h
     | succ kq18 =>
     rw [fuse_Safe_l1.eq_2] at h
     generalize hrec17 : fuse_Safe_l1 k p1 p2 t12 t14 kq18 = rec17 at h
     refine AW.sr ?_
     refine AO.c (x := eBool (decide (x16 < (t12.f1.length : Int)))) (Calm.int rfl rfl rfl rfl) ?_
     refine AO.nK [1, 2, 7, 8, 31, 32, 33] ?_
     refine AW.seq ?_
     rcases of_ite h with ⟨hc19, h⟩ | ⟨hc19, h⟩
     ·refine AW.condP _ rfl hc19 ?_
      refine AW.sK [1, 2, 7, 8, 31, 32] ?_
      refine AW.seq ?_
      refine AW.block ?_
      refine AW.sr ?_
      refine AO.c (Calm.move rfl rfl) ?_
      refine AO.c (Calm.assign rfl rfl) ?_
      refine AO.nK [1, 2, 7, 8, 9, 31, 32] ?_
      refine AW.sr ?_
      refine AO.c (Calm.load 0 rfl rfl rfl (At.cast At.here rfl) ag30 sz30) ?_
      refine AO.c (Calm.move rfl rfl) ?_
      obtain ⟨t20, et20, h⟩ := of_bind h
      refine AO.callS [(e30 t12), (eI64 x16)] (eI64 t20) 37 rfl (by decide) ok85 rfl rfl rfl ⟨rfl, rfl, rfl, rfl, trivial⟩ (dfa_Mark_spec et20) ?_
      refine AO.c (Calm.assign rfl rfl) ?_
      refine AO.nK [1, 2, 7, 8, 9, 10, 31, 32] ?_
      refine AW.seq ?_
      obtain ⟨b21, hq22, h⟩ := of_bind h
      refine AW.regM [(1, (.fz 1 (p1.map eI64))), (2, (eI64 p2)), (7, (.ptr n13 0)), (8, (.fz 1 (t14.map eBool))), (31, (eI64 (t12.f1.length : Int))), (32, (eI64 x16)), (57, (eBool b21))] [(n13, (.mem (e30 t12)))] ?_ ?_
      ·refine AO.c (Calm.move rfl rfl) ?_
       refine AO.c (Calm.move rfl rfl) ?_
       obtain ⟨hg23, hq22⟩ := of_guard hq22
       refine AO.c (Calm.idxL (f := eBool) rfl rfl rfl hg23 Try.underlying49 sz4) ?_
       refine AO.c (Calm.loadRp rfl rfl ag4 sz4) ?_
       refine AO.c (Calm.move rfl rfl) ?_
       rcases of_ite hq22 with ⟨hc24, hq22⟩ | ⟨hc24, hq22⟩
       ·refine AO.cG rfl rfl (bD hc24) (Calm.move rfl rfl) ?_
        refine AO.cG (x := eBool (decide ((0 : Int) ≤ t20))) rfl rfl (bD hc24) (Calm.int rfl rfl rfl rfl) ?_
        refine AO.c (Calm.pickT rfl (bD hc24) rfl) ?_
        refine AO.c (Calm.move rfl rfl) ?_
        rcases of_ite hq22 with ⟨hc25, hq22⟩ | ⟨hc25, hq22⟩
        ·refine AO.cG rfl rfl (bD (decide_eq_true hc25)) (Calm.move rfl rfl) ?_
         refine AO.cG rfl rfl (bD (decide_eq_true hc25)) (Calm.move rfl rfl) ?_
         refine AO.cG (x := eBool (decide (t20 ≠ p2))) rfl rfl (bD (decide_eq_true hc25)) (Calm.int rfl rfl rfl rfl) ?_
         refine AO.c (Calm.pickT rfl (bD (decide_eq_true hc25)) rfl) ?_
         refine AO.c (Calm.move rfl rfl) ?_
         rcases of_ite hq22 with ⟨hc26, hq22⟩ | ⟨hc26, hq22⟩
         ·refine AO.cG rfl rfl (bD (decide_eq_true hc26)) (Calm.load 0 rfl rfl rfl (At.cast At.here rfl) ag30 sz30) ?_
          refine AO.cG rfl rfl (bD (decide_eq_true hc26)) (Calm.move rfl rfl) ?_
          refine AO.cG rfl rfl (bD (decide_eq_true hc26)) (Calm.move rfl rfl) ?_
          obtain ⟨t27, et27, hq22⟩ := of_bind hq22
          refine AO.callG 13 true 51 [(e30 t12), (.fz 1 (p1.map eI64)), (eI64 x16)] (eBool t27) 55 rfl (by decide) ok86 rfl rfl (bD (decide_eq_true hc26)) rfl rfl ⟨rfl, rfl, rfl, rfl, rfl, rfl, trivial⟩ (fuse_ends_spec et27) ?_
          refine AO.cG rfl rfl (bD (decide_eq_true hc26)) (Calm.not rfl rfl) ?_
          refine AO.c (Calm.pickT rfl (bD (decide_eq_true hc26)) rfl) ?_
          cases hq22
          refine AO.nilE ⟨rfl, rfl⟩ ?_ ?_
          · exact ⟨rfl, rfl, rfl, rfl, rfl, rfl, rfl, trivial⟩
          · exact (Sub.refl _)
         ·refine AO.sT rfl rfl (bD (decide_eq_false hc26)) ?_
          refine AO.sT rfl rfl (bD (decide_eq_false hc26)) ?_
          refine AO.sT rfl rfl (bD (decide_eq_false hc26)) ?_
          refine AO.sT rfl rfl (bD (decide_eq_false hc26)) ?_
          refine AO.sT rfl rfl (bD (decide_eq_false hc26)) ?_
          refine AO.c (Calm.pickF rfl (bD (decide_eq_false hc26)) rfl) ?_
          cases hq22
          refine AO.nilE ⟨rfl, rfl⟩ ?_ ?_
          · exact ⟨rfl, rfl, rfl, rfl, rfl, rfl, rfl, trivial⟩
          · exact (Sub.refl _)
        ·refine AO.sT rfl rfl (bD (decide_eq_false hc25)) ?_
         refine AO.sT rfl rfl (bD (decide_eq_false hc25)) ?_
         refine AO.sT rfl rfl (bD (decide_eq_false hc25)) ?_
         refine AO.c (Calm.pickF rfl (bD (decide_eq_false hc25)) rfl) ?_
         refine AO.c (Calm.move rfl rfl) ?_
         refine AO.sT rfl rfl rfl ?_
         refine AO.sT rfl rfl rfl ?_
         refine AO.sT rfl rfl rfl ?_
         refine AO.sT rfl rfl rfl ?_
         refine AO.sT rfl rfl rfl ?_
         refine AO.c (Calm.pickF rfl rfl rfl) ?_
         cases hq22
         refine AO.nilE ⟨rfl, rfl⟩ ?_ ?_
         · exact ⟨rfl, rfl, rfl, rfl, rfl, rfl, rfl, trivial⟩
         · exact (Sub.refl _)
       ·refine AO.sT rfl rfl (bD (eq_false_of_ne_true hc24)) ?_
        refine AO.sT rfl rfl (bD (eq_false_of_ne_true hc24)) ?_
        refine AO.c (Calm.pickF rfl (bD (eq_false_of_ne_true hc24)) rfl) ?_
        refine AO.c (Calm.move rfl rfl) ?_
        refine AO.sT rfl rfl rfl ?_
        refine AO.sT rfl rfl rfl ?_
        refine AO.sT rfl rfl rfl ?_
        refine AO.c (Calm.pickF rfl rfl rfl) ?_
        refine AO.c (Calm.move rfl rfl) ?_
        refine AO.sT rfl rfl rfl ?_
        refine AO.sT rfl rfl rfl ?_
        refine AO.sT rfl rfl rfl ?_
        refine AO.sT rfl rfl rfl ?_
        refine AO.sT rfl rfl rfl ?_
        refine AO.c (Calm.pickF rfl rfl rfl) ?_
        cases hq22
        refine AO.nilE ⟨rfl, rfl⟩ ?_ ?_
        · exact ⟨rfl, rfl, rfl, rfl, rfl, rfl, rfl, trivial⟩
        · exact (Sub.refl _)
      ·rcases of_ite h with ⟨hc28, h⟩ | ⟨hc28, h⟩
       ·refine AW.condT' _ rfl hc28 ?_
        refine AW.sr ?_
        refine AO.c (Calm.assign rfl rfl) ?_
        refine AO.nH [6] (H' := []) (Sub.nil _) ?_
        refine AW.rK [6] ?_
        have hr := Option.some.inj h
        subst hr
        exact ⟨[(eBool false)], ⟨rfl, rfl, trivial⟩, rfl⟩
       ·refine AW.condF' _ rfl hc28 ?_
        refine AW.sK [1, 2, 7, 8, 31, 32] ?_
        refine AW.reg ?_
        refine AO.c (x := eI64 (w64 (x16 + (1 : Int)))) (Calm.int rfl rfl rfl rfl) ?_
        refine AO.c (Calm.move rfl rfl) ?_
        refine AO.nK [1, 2, 7, 8, 31, 32] ?_
        exact ⟨kq18, Nat.lt_succ_self _, (w64 (x16 + (1 : Int))), rfl, rfl, by rw [hrec17]; exact h⟩
     ·refine AW.condN _ rfl hc19 ?_
      refine AW.eK [2, 7] ?_
      exact ⟨rfl, rfl, h⟩
    ·rintro _ _ ⟨rfl, rfl, h⟩
     rw [fuse_Safe_c0.eq_1] at h
     refine AW.sr ?_
     refine AO.c (Calm.load 0 rfl rfl rfl (At.cast At.here rfl) ag30 sz30) ?_
     refine AO.c (Calm.move rfl rfl) ?_
     obtain ⟨t15, et15, h⟩ := of_bind h
     refine AO.callS [(e30 t12), (eI64 p2)] (eBool t15) 61 rfl (by decide) ok87 rfl rfl rfl ⟨rfl, rfl, rfl, rfl, trivial⟩ (fuse_blanks_spec et15) ?_
     refine AO.c (Calm.assign rfl rfl) ?_
     refine AO.nH [6] (H' := []) (Sub.nil _) ?_
     refine AW.rK [6] ?_
     have hr := Option.some.inj h
     subst hr
     exact ⟨[(eBool t15)], ⟨rfl, rfl, trivial⟩, rfl⟩
end Go.Avl.T5
/- bosket/bosketlaw15.awake; printed by avmain.py. -/
namespace Go.Avl.T5
open Go Go.RowKit Go.Proofs Go.Avl
set_option linter.unusedVariables false
set_option maxRecDepth 100000
set_option maxHeartbeats 4000000
attribute [local irreducible] AW AO AQ Spec SpecH Calm

def bosketlaw15_awake (k : Nat) : Option Bool :=
  (bosketlaw15_machine k).bind fun t1 =>
  (fuse_Gaps k t1 (2 : Int) [(ByteArray.mk #[97]), (ByteArray.mk #[97])]).bind fun t3 =>
  Option.bind (α := Bool) (if t3.2 = (0 : Int) then if (t3.1.length : Int) = (1 : Int) then if 0 ≤ (0 : Int) ∧ (0 : Int) < (t3.1.length : Int) then if (lget t3.1 (0 : Int)) = true then (bosketlaw15_machine k).bind fun t10 =>
  (fuse_Safe k t10 [] (2 : Int)).bind fun t11 =>
  some (t11)
  else some (false)
  else none
  else some (false)
  else some (false)) fun b4 =>
  some (b4)
theorem bosketlaw15_awake_spec {k : Nat}  {r : Bool} (h : bosketlaw15_awake k = some r) : Spec Try.prog 23 [] (eBool r) := by
  rw [bosketlaw15_awake.eq_1] at h
  refine Spec.intro (res := [.tmp 0]) Try.func23 rfl rfl rfl (Nat.le_of_ble_eq_true rfl) ?_
  refine AW.sr ?_
  refine AO.c (Calm.assign rfl rfl) ?_
  refine AO.nK [] ?_
  refine AW.sr ?_
  obtain ⟨t1, et1, h⟩ := of_bind h
  refine AO.callS [] (e30 t1) 4 rfl (by decide) ok57 rfl rfl rfl trivial (bosketlaw15_machine_spec et1) ?_
  refine AO.lit (Z := (eStr ByteArray.empty)) (xs := (([(ByteArray.mk #[97]), (ByteArray.mk #[97])] : List ByteArray).map eStr)) (qs := [(0, (eStr (ByteArray.mk #[97]))), (1, (eStr (ByteArray.mk #[97])))]) rfl 5 rfl (by decide) rfl ⟨rfl, rfl, rfl, rfl, rfl, rfl, trivial⟩ Try.underlying53 sz9 zr9 lay9 rfl (by decide) (litOK (z := 1) [(eStr (ByteArray.mk #[97])), (eStr (ByteArray.mk #[97]))] rfl ⟨⟨rfl, rfl⟩, ⟨rfl, rfl⟩, trivial⟩) rfl fun n2 => ?_
  obtain ⟨t3, et3, h⟩ := of_bind h
  refine AO.freezeS 0 [(5, (.fz 1 (([(ByteArray.mk #[97]), (ByteArray.mk #[97])] : List ByteArray).map eStr)))] rfl ⟨fz_all rfl, trivial⟩ ?_
  refine AO.callS [(e30 t1), (eI64 (2 : Int)), (.fz 1 (([(ByteArray.mk #[97]), (ByteArray.mk #[97])] : List ByteArray).map eStr))] (.tup [(.fz 1 (t3.1.map eBool)), (eI64 t3.2)]) 6 rfl (by decide) ok27 rfl rfl rfl ⟨rfl, rfl, rfl, rfl, rfl, rfl, trivial⟩ (fuse_Gaps_spec et3) ?_
  refine AO.c (Calm.move rfl rfl) ?_
  refine AO.c (Calm.extract rfl rfl rfl) ?_
  refine AO.c (Calm.extract rfl rfl rfl) ?_
  refine AO.c (Calm.assign rfl rfl) ?_
  refine AO.c (Calm.assign rfl rfl) ?_
  refine AO.nK [1, 2] ?_
  refine AW.seq ?_
  obtain ⟨b4, hq5, h⟩ := of_bind h
  refine AW.regM [(0, (eBool b4))] [] ?_ ?_
  ·refine AO.c (Calm.move rfl rfl) ?_
   refine AO.c (x := eBool (decide (t3.2 = (0 : Int)))) (Calm.int rfl rfl rfl rfl) ?_
   refine AO.c (Calm.move rfl rfl) ?_
   rcases of_ite hq5 with ⟨hc6, hq5⟩ | ⟨hc6, hq5⟩
   ·refine AO.cG rfl rfl (bD (decide_eq_true hc6)) (Calm.move rfl rfl) ?_
    refine AO.cG rfl rfl (bD (decide_eq_true hc6)) (Calm.lenL rfl rfl Try.underlying49) ?_
    refine AO.cG (x := eBool (decide ((t3.1.length : Int) = (1 : Int)))) rfl rfl (bD (decide_eq_true hc6)) (Calm.int rfl rfl rfl rfl) ?_
    refine AO.c (Calm.pickT rfl (bD (decide_eq_true hc6)) rfl) ?_
    refine AO.c (Calm.move rfl rfl) ?_
    rcases of_ite hq5 with ⟨hc7, hq5⟩ | ⟨hc7, hq5⟩
    ·refine AO.cG rfl rfl (bD (decide_eq_true hc7)) (Calm.move rfl rfl) ?_
     obtain ⟨hg8, hq5⟩ := of_guard hq5
     refine AO.cG rfl rfl (bD (decide_eq_true hc7)) (Calm.idxL (f := eBool) rfl rfl rfl hg8 Try.underlying49 sz4) ?_
     refine AO.cG rfl rfl (bD (decide_eq_true hc7)) (Calm.loadRp rfl rfl ag4 sz4) ?_
     refine AO.c (Calm.pickT rfl (bD (decide_eq_true hc7)) rfl) ?_
     refine AO.c (Calm.move rfl rfl) ?_
     rcases of_ite hq5 with ⟨hc9, hq5⟩ | ⟨hc9, hq5⟩
     ·obtain ⟨t10, et10, hq5⟩ := of_bind hq5
      refine AO.callG 12 true 21 [] (e30 t10) 22 rfl (by decide) ok57 rfl rfl (bD hc9) rfl rfl trivial (bosketlaw15_machine_spec et10) ?_
      obtain ⟨t11, et11, hq5⟩ := of_bind hq5
      refine AO.callCG 12 true 21 [(e30 t10), (.fz 1 (([] : List Int).map eI64)), (eI64 (2 : Int))] (eBool t11) 23 rfl (by decide) ok58 rfl rfl (bD hc9) rfl rfl ⟨⟨_, rfl, Coe.refl, rfl⟩, ⟨_, rfl, Coe.nil, rfl⟩, ⟨_, rfl, Coe.refl, rfl⟩, trivial⟩ (fuse_Safe_spec et11) ?_
      refine AO.c (Calm.pickT rfl (bD hc9) rfl) ?_
      refine AO.c (Calm.assign rfl rfl) ?_
      cases hq5
      refine AO.nilE ⟨rfl, rfl⟩ ?_ ?_
      · exact ⟨rfl, trivial⟩
      · exact (Sub.refl _)
     ·refine AO.sT rfl rfl (bD (eq_false_of_ne_true hc9)) ?_
      refine AO.sT rfl rfl (bD (eq_false_of_ne_true hc9)) ?_
      refine AO.c (Calm.pickF rfl (bD (eq_false_of_ne_true hc9)) rfl) ?_
      refine AO.c (Calm.assign rfl rfl) ?_
      cases hq5
      refine AO.nilE ⟨rfl, rfl⟩ ?_ ?_
      · exact ⟨rfl, trivial⟩
      · exact (Sub.refl _)
    ·refine AO.sT rfl rfl (bD (decide_eq_false hc7)) ?_
     refine AO.sT rfl rfl (bD (decide_eq_false hc7)) ?_
     refine AO.sT rfl rfl (bD (decide_eq_false hc7)) ?_
     refine AO.c (Calm.pickF rfl (bD (decide_eq_false hc7)) rfl) ?_
     refine AO.c (Calm.move rfl rfl) ?_
     refine AO.sT rfl rfl rfl ?_
     refine AO.sT rfl rfl rfl ?_
     refine AO.c (Calm.pickF rfl rfl rfl) ?_
     refine AO.c (Calm.assign rfl rfl) ?_
     cases hq5
     refine AO.nilE ⟨rfl, rfl⟩ ?_ ?_
     · exact ⟨rfl, trivial⟩
     · exact (Sub.refl _)
   ·refine AO.sT rfl rfl (bD (decide_eq_false hc6)) ?_
    refine AO.sT rfl rfl (bD (decide_eq_false hc6)) ?_
    refine AO.sT rfl rfl (bD (decide_eq_false hc6)) ?_
    refine AO.c (Calm.pickF rfl (bD (decide_eq_false hc6)) rfl) ?_
    refine AO.c (Calm.move rfl rfl) ?_
    refine AO.sT rfl rfl rfl ?_
    refine AO.sT rfl rfl rfl ?_
    refine AO.sT rfl rfl rfl ?_
    refine AO.c (Calm.pickF rfl rfl rfl) ?_
    refine AO.c (Calm.move rfl rfl) ?_
    refine AO.sT rfl rfl rfl ?_
    refine AO.sT rfl rfl rfl ?_
    refine AO.c (Calm.pickF rfl rfl rfl) ?_
    refine AO.c (Calm.assign rfl rfl) ?_
    cases hq5
    refine AO.nilE ⟨rfl, rfl⟩ ?_ ?_
    · exact ⟨rfl, trivial⟩
    · exact (Sub.refl _)
  ·refine AW.rK [0] ?_
   have hr := Option.some.inj h
   subst hr
   exact ⟨[(eBool b4)], ⟨rfl, rfl, trivial⟩, rfl⟩
end Go.Avl.T5
/- bosket/bosketlaw15.FuseGaps; printed by avmain.py. -/
namespace Go.Avl.T5
open Go Go.RowKit Go.Proofs Go.Avl
set_option linter.unusedVariables false
set_option maxRecDepth 100000
set_option maxHeartbeats 4000000
attribute [local irreducible] AW AO AQ Spec SpecH Calm

def bosketlaw15_FuseGaps (k : Nat) (p0 : S30) (p1 : Int) (p2 : (List ByteArray)) : Option Bool :=
  (bosketlaw15_awake k).bind fun t5 =>
  if (!t5) = true then some (false)
  else Option.bind (α := Bool) ((bosketlaw08_Small k p0).bind fun t9 =>
  if (!t9) = true then some (true)
  else (bosketref08_Right k p0).bind fun t11 =>
  if (!t11) = true then some (true)
  else (bosketlaw15_few k p2).bind fun t13 =>
  some (!t13)) fun b7 =>
  if b7 = true then some (true)
  else (fuse_Gaps k p0 p1 p2).bind fun t15 =>
  (bosketref15_Gaps k p0 p1 p2).bind fun t16 =>
  if (!t16.2) = true then Option.bind (α := Bool) (if (t15.1.length : Int) = (0 : Int) then some (decide (t15.2 = (7 : Int)))
  else some (false)) fun b18 =>
  some (b18)
  else Option.bind (α := Bool) (if t15.2 = (0 : Int) then (bosketref06_Same k t15.1 t16.1).bind fun t24 =>
  some (t24)
  else some (false)) fun b21 =>
  some (b21)
theorem bosketlaw15_FuseGaps_spec {k : Nat} {p0 : S30} {p1 : Int} {p2 : (List ByteArray)} {r : Bool} (h : bosketlaw15_FuseGaps k p0 p1 p2 = some r) : Spec Try.prog 6 [(e30 p0), (eI64 p1), (.fz 1 (p2.map eStr))] (eBool r) := by
  rw [bosketlaw15_FuseGaps.eq_1] at h
  refine Spec.intro (res := [.tmp 6]) Try.func6 rfl rfl rfl (Nat.le_of_ble_eq_true rfl) ?_
  refine AW.sr ?_
  refine AO.box rfl 3 rfl (by decide) rfl rfl rfl fun n4 => ?_
  refine AO.c (Calm.assign rfl rfl) ?_
  refine AO.nK [1, 2, 3] ?_
  refine AW.seq ?_
  refine AW.sr ?_
  obtain ⟨t5, et5, h⟩ := of_bind h
  refine AO.callS [] (eBool t5) 11 rfl (by decide) ok23 rfl rfl rfl trivial (bosketlaw15_awake_spec et5) ?_
  refine AO.c (Calm.not rfl rfl) ?_
  refine AO.nK [1, 2, 3, 12] ?_
  rcases of_ite h with ⟨hc6, h⟩ | ⟨hc6, h⟩
  ·refine AW.condT' _ rfl hc6 ?_
   refine AW.sr ?_
   refine AO.c (Calm.assign rfl rfl) ?_
   refine AO.nH [6] (H' := []) (Sub.nil _) ?_
   refine AW.rK [6] ?_
   have hr := Option.some.inj h
   subst hr
   exact ⟨[(eBool false)], ⟨rfl, rfl, trivial⟩, rfl⟩
  ·refine AW.condF' _ rfl hc6 ?_
   refine AW.sK [1, 2, 3] ?_
   refine AW.seq ?_
   refine AW.seq ?_
   obtain ⟨b7, hq8, h⟩ := of_bind h
   refine AW.regM [(1, (eI64 p1)), (2, (.fz 1 (p2.map eStr))), (3, (.ptr n4 0)), (25, (eBool b7))] [(n4, (.mem (e30 p0)))] ?_ ?_
   ·refine AO.c (Calm.load 0 rfl rfl rfl (At.cast At.here rfl) ag30 sz30) ?_
    obtain ⟨t9, et9, hq8⟩ := of_bind hq8
    refine AO.callS [(e30 p0)] (eBool t9) 14 rfl (by decide) ok24 rfl rfl rfl ⟨rfl, rfl, trivial⟩ (bosketlaw08_Small_spec et9) ?_
    refine AO.c (Calm.not rfl rfl) ?_
    refine AO.c (Calm.move rfl rfl) ?_
    rcases of_ite hq8 with ⟨hc10, hq8⟩ | ⟨hc10, hq8⟩
    ·refine AO.sF rfl rfl (bD hc10) ?_
     refine AO.sF rfl rfl (bD hc10) ?_
     refine AO.sF rfl rfl (bD hc10) ?_
     refine AO.c (Calm.pickT rfl (bD hc10) rfl) ?_
     refine AO.c (Calm.move rfl rfl) ?_
     refine AO.sF rfl rfl rfl ?_
     refine AO.sF rfl rfl rfl ?_
     refine AO.sF rfl rfl rfl ?_
     refine AO.c (Calm.pickT rfl rfl rfl) ?_
     cases hq8
     refine AO.nilE ⟨rfl, rfl⟩ ?_ ?_
     · exact ⟨rfl, rfl, rfl, rfl, trivial⟩
     · exact (Sub.refl _)
    ·refine AO.cG rfl rfl (bD (eq_false_of_ne_true hc10)) (Calm.load 0 rfl rfl rfl (At.cast At.here rfl) ag30 sz30) ?_
     obtain ⟨t11, et11, hq8⟩ := of_bind hq8
     refine AO.callG 3 false 16 [(e30 p0)] (eBool t11) 18 rfl (by decide) ok25 rfl rfl (bD (eq_false_of_ne_true hc10)) rfl rfl ⟨rfl, rfl, trivial⟩ (bosketref08_Right_spec et11) ?_
     refine AO.cG rfl rfl (bD (eq_false_of_ne_true hc10)) (Calm.not rfl rfl) ?_
     refine AO.c (Calm.pickF rfl (bD (eq_false_of_ne_true hc10)) rfl) ?_
     refine AO.c (Calm.move rfl rfl) ?_
     rcases of_ite hq8 with ⟨hc12, hq8⟩ | ⟨hc12, hq8⟩
     ·refine AO.sF rfl rfl (bD hc12) ?_
      refine AO.sF rfl rfl (bD hc12) ?_
      refine AO.sF rfl rfl (bD hc12) ?_
      refine AO.c (Calm.pickT rfl (bD hc12) rfl) ?_
      cases hq8
      refine AO.nilE ⟨rfl, rfl⟩ ?_ ?_
      · exact ⟨rfl, rfl, rfl, rfl, trivial⟩
      · exact (Sub.refl _)
     ·refine AO.cG rfl rfl (bD (eq_false_of_ne_true hc12)) (Calm.move rfl rfl) ?_
      obtain ⟨t13, et13, hq8⟩ := of_bind hq8
      refine AO.callG 8 false 21 [(.fz 1 (p2.map eStr))] (eBool t13) 23 rfl (by decide) ok26 rfl rfl (bD (eq_false_of_ne_true hc12)) rfl rfl ⟨rfl, rfl, trivial⟩ (bosketlaw15_few_spec et13) ?_
      refine AO.cG rfl rfl (bD (eq_false_of_ne_true hc12)) (Calm.not rfl rfl) ?_
      refine AO.c (Calm.pickF rfl (bD (eq_false_of_ne_true hc12)) rfl) ?_
      cases hq8
      refine AO.nilE ⟨rfl, rfl⟩ ?_ ?_
      · exact ⟨rfl, rfl, rfl, rfl, trivial⟩
      · exact (Sub.refl _)
   ·rcases of_ite h with ⟨hc14, h⟩ | ⟨hc14, h⟩
    ·refine AW.condT' _ rfl hc14 ?_
     refine AW.sr ?_
     refine AO.c (Calm.assign rfl rfl) ?_
     refine AO.nH [6] (H' := []) (Sub.nil _) ?_
     refine AW.rK [6] ?_
     have hr := Option.some.inj h
     subst hr
     exact ⟨[(eBool true)], ⟨rfl, rfl, trivial⟩, rfl⟩
    ·refine AW.condF' _ rfl hc14 ?_
     refine AW.sK [1, 2, 3] ?_
     refine AW.sr ?_
     refine AO.c (Calm.load 0 rfl rfl rfl (At.cast At.here rfl) ag30 sz30) ?_
     refine AO.c (Calm.move rfl rfl) ?_
     refine AO.c (Calm.move rfl rfl) ?_
     obtain ⟨t15, et15, h⟩ := of_bind h
     refine AO.callS [(e30 p0), (eI64 p1), (.fz 1 (p2.map eStr))] (.tup [(.fz 1 (t15.1.map eBool)), (eI64 t15.2)]) 30 rfl (by decide) ok27 rfl rfl rfl ⟨rfl, rfl, rfl, rfl, rfl, rfl, trivial⟩ (fuse_Gaps_spec et15) ?_
     refine AO.c (Calm.move rfl rfl) ?_
     refine AO.c (Calm.extract rfl rfl rfl) ?_
     refine AO.c (Calm.extract rfl rfl rfl) ?_
     refine AO.c (Calm.assign rfl rfl) ?_
     refine AO.c (Calm.assign rfl rfl) ?_
     refine AO.nK [1, 2, 3, 7, 8] ?_
     refine AW.sr ?_
     refine AO.c (Calm.load 0 rfl rfl rfl (At.cast At.here rfl) ag30 sz30) ?_
     refine AO.c (Calm.move rfl rfl) ?_
     refine AO.c (Calm.move rfl rfl) ?_
     obtain ⟨t16, et16, h⟩ := of_bind h
     refine AO.callS [(e30 p0), (eI64 p1), (.fz 1 (p2.map eStr))] (.tup [(.fz 1 (t16.1.map eBool)), (eBool t16.2)]) 37 rfl (by decide) ok28 rfl rfl rfl ⟨rfl, rfl, rfl, rfl, rfl, rfl, trivial⟩ (bosketref15_Gaps_spec et16) ?_
     refine AO.c (Calm.move rfl rfl) ?_
     refine AO.c (Calm.extract rfl rfl rfl) ?_
     refine AO.c (Calm.extract rfl rfl rfl) ?_
     refine AO.c (Calm.assign rfl rfl) ?_
     refine AO.c (Calm.assign rfl rfl) ?_
     refine AO.nH [7, 8, 9, 10] (H' := []) (Sub.nil _) ?_
     refine AW.seq ?_
     refine AW.sr ?_
     refine AO.c (Calm.move rfl rfl) ?_
     refine AO.c (Calm.not rfl rfl) ?_
     refine AO.nK [7, 8, 9, 41] ?_
     rcases of_ite h with ⟨hc17, h⟩ | ⟨hc17, h⟩
     ·refine AW.condT' _ rfl hc17 ?_
      refine AW.seq ?_
      obtain ⟨b18, hq19, h⟩ := of_bind h
      refine AW.regM [(6, (eBool b18))] [] ?_ ?_
      ·refine AO.c (Calm.move rfl rfl) ?_
       refine AO.c (Calm.lenL rfl rfl Try.underlying49) ?_
       refine AO.c (x := eBool (decide ((t15.1.length : Int) = (0 : Int)))) (Calm.int rfl rfl rfl rfl) ?_
       refine AO.c (Calm.move rfl rfl) ?_
       rcases of_ite hq19 with ⟨hc20, hq19⟩ | ⟨hc20, hq19⟩
       ·refine AO.cG rfl rfl (bD (decide_eq_true hc20)) (Calm.move rfl rfl) ?_
        refine AO.cG (x := eBool (decide (t15.2 = (7 : Int)))) rfl rfl (bD (decide_eq_true hc20)) (Calm.int rfl rfl rfl rfl) ?_
        refine AO.c (Calm.pickT rfl (bD (decide_eq_true hc20)) rfl) ?_
        refine AO.c (Calm.assign rfl rfl) ?_
        cases hq19
        refine AO.nilE ⟨rfl, rfl⟩ ?_ ?_
        · exact ⟨rfl, trivial⟩
        · exact (Sub.refl _)
       ·refine AO.sT rfl rfl (bD (decide_eq_false hc20)) ?_
        refine AO.sT rfl rfl (bD (decide_eq_false hc20)) ?_
        refine AO.c (Calm.pickF rfl (bD (decide_eq_false hc20)) rfl) ?_
        refine AO.c (Calm.assign rfl rfl) ?_
        cases hq19
        refine AO.nilE ⟨rfl, rfl⟩ ?_ ?_
        · exact ⟨rfl, trivial⟩
        · exact (Sub.refl _)
      ·refine AW.rK [6] ?_
       have hr := Option.some.inj h
       subst hr
       exact ⟨[(eBool b18)], ⟨rfl, rfl, trivial⟩, rfl⟩
     ·refine AW.condF' _ rfl hc17 ?_
      refine AW.sK [7, 8, 9] ?_
      refine AW.seq ?_
      obtain ⟨b21, hq22, h⟩ := of_bind h
      refine AW.regM [(6, (eBool b21))] [] ?_ ?_
      ·refine AO.c (Calm.move rfl rfl) ?_
       refine AO.c (x := eBool (decide (t15.2 = (0 : Int)))) (Calm.int rfl rfl rfl rfl) ?_
       refine AO.c (Calm.move rfl rfl) ?_
       rcases of_ite hq22 with ⟨hc23, hq22⟩ | ⟨hc23, hq22⟩
       ·refine AO.cG rfl rfl (bD (decide_eq_true hc23)) (Calm.move rfl rfl) ?_
        refine AO.cG rfl rfl (bD (decide_eq_true hc23)) (Calm.move rfl rfl) ?_
        obtain ⟨t24, et24, hq22⟩ := of_bind hq22
        refine AO.callG 2 true 51 [(.fz 1 (t15.1.map eBool)), (.fz 1 (t16.1.map eBool))] (eBool t24) 54 rfl (by decide) ok29 rfl rfl (bD (decide_eq_true hc23)) rfl rfl ⟨rfl, rfl, rfl, rfl, trivial⟩ (bosketref06_Same_spec et24) ?_
        refine AO.c (Calm.pickT rfl (bD (decide_eq_true hc23)) rfl) ?_
        refine AO.c (Calm.assign rfl rfl) ?_
        cases hq22
        refine AO.nilE ⟨rfl, rfl⟩ ?_ ?_
        · exact ⟨rfl, trivial⟩
        · exact (Sub.refl _)
       ·refine AO.sT rfl rfl (bD (decide_eq_false hc23)) ?_
        refine AO.sT rfl rfl (bD (decide_eq_false hc23)) ?_
        refine AO.sT rfl rfl (bD (decide_eq_false hc23)) ?_
        refine AO.c (Calm.pickF rfl (bD (decide_eq_false hc23)) rfl) ?_
        refine AO.c (Calm.assign rfl rfl) ?_
        cases hq22
        refine AO.nilE ⟨rfl, rfl⟩ ?_ ?_
        · exact ⟨rfl, trivial⟩
        · exact (Sub.refl _)
      ·refine AW.rK [6] ?_
       have hr := Option.some.inj h
       subst hr
       exact ⟨[(eBool b21)], ⟨rfl, rfl, trivial⟩, rfl⟩
end Go.Avl.T5
