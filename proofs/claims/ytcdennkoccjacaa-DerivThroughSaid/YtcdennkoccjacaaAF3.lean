/- Parts: T3f58, T3f43, T3f73, T3f60, T3f33, T3f31. -/
import Derived.Test.YtcdennkoccjacaaAF1
import Derived.Test.YtcdennkoccjacaaAF2
/- bosket/deriv.derive; printed by avmain.py. -/
namespace Go.Avl.T3
open Go Go.RowKit Go.Proofs Go.Avl
set_option linter.unusedVariables false
set_option maxRecDepth 100000
set_option maxHeartbeats 4000000
set_option linter.unusedSimpArgs false
attribute [local irreducible] AW AO AQ Spec SpecH Calm

def deriv_derive_c0 (k : Nat) : Option S62 :=
  some ((S62.mk true []))
def deriv_derive_c1 (k : Nat) (self : ((List S82) → Int → Option S62)) (p1 : Int) (t6 : (List (List S82))) (b32 : Bool) : Option S62 :=
  if b32 = true then if 0 ≤ (0 : Int) ∧ (0 : Int) < (t6.length : Int) then (self (lget t6 (0 : Int)) p1).bind fun t35 =>
  if 0 ≤ (0 : Int) ∧ (0 : Int) < (t6.length : Int) then (rex_Join k (4 : Int) [(lget t6 (0 : Int))]).bind fun t38 =>
  (deriv_cat k t35 (S62.mk false t38)).bind fun t39 =>
  some (t39)
  else none
  else none
  else deriv_derive_c0 k
def deriv_derive_r (k : Nat) : Nat → (List S82) → Int → Option S62
  | 0, _, _ => none
  | j + 1, p0, p1 =>
    if 0 ≤ (w64 ((p0.length : Int) - (1 : Int))) ∧ (w64 ((p0.length : Int) - (1 : Int))) < (p0.length : Int) then (rex_Parts k p0).bind fun t6 =>
    if ((lget p0 (w64 ((p0.length : Int) - (1 : Int)))).f0) = (1 : Int) then (byteset_Has k ((lget p0 (w64 ((p0.length : Int) - (1 : Int)))).f1) p1).bind fun t8 =>
    if t8 = true then some ((S62.mk false [(S82.mk (0 : Int) (Vector.replicate 4 (0 : Int)))]))
    else deriv_derive_c0 k
    else if ((lget p0 (w64 ((p0.length : Int) - (1 : Int)))).f0) = (2 : Int) then if 0 ≤ (0 : Int) ∧ (0 : Int) < (t6.length : Int) then ((deriv_derive_r k j) (lget t6 (0 : Int)) p1).bind fun t13 =>
    if 0 ≤ (1 : Int) ∧ (1 : Int) < (t6.length : Int) then (deriv_cat k t13 (S62.mk false (lget t6 (1 : Int)))).bind fun t15 =>
    if 0 ≤ (0 : Int) ∧ (0 : Int) < (t6.length : Int) then (deriv_Empty k (lget t6 (0 : Int))).bind fun t18 =>
    if t18 = true then if 0 ≤ (1 : Int) ∧ (1 : Int) < (t6.length : Int) then ((deriv_derive_r k j) (lget t6 (1 : Int)) p1).bind fun t21 =>
    (deriv_alt k t15 t21).bind fun t22 =>
    some (t22)
    else none
    else some (t15)
    else none
    else none
    else none
    else if ((lget p0 (w64 ((p0.length : Int) - (1 : Int)))).f0) = (3 : Int) then if 0 ≤ (0 : Int) ∧ (0 : Int) < (t6.length : Int) then ((deriv_derive_r k j) (lget t6 (0 : Int)) p1).bind fun t25 =>
    if 0 ≤ (1 : Int) ∧ (1 : Int) < (t6.length : Int) then ((deriv_derive_r k j) (lget t6 (1 : Int)) p1).bind fun t27 =>
    (deriv_alt k t25 t27).bind fun t28 =>
    some (t28)
    else none
    else none
    else if ((lget p0 (w64 ((p0.length : Int) - (1 : Int)))).f0) = (6 : Int) then if 0 ≤ (0 : Int) ∧ (0 : Int) < (t6.length : Int) then ((deriv_derive_r k j) (lget t6 (0 : Int)) p1).bind fun t31 =>
    some (t31)
    else none
    else if ((lget p0 (w64 ((p0.length : Int) - (1 : Int)))).f0) = (4 : Int) then deriv_derive_c1 k (deriv_derive_r k j) p1 t6 (decide (((lget p0 (w64 ((p0.length : Int) - (1 : Int)))).f0) = (4 : Int)))
    else deriv_derive_c1 k (deriv_derive_r k j) p1 t6 (decide (((lget p0 (w64 ((p0.length : Int) - (1 : Int)))).f0) = (5 : Int)))
    else none
def deriv_derive (k : Nat) (p0 : (List S82)) (p1 : Int) : Option S62 := deriv_derive_r k k p0 p1
theorem deriv_derive_spec' (k : Nat) : ∀ (j : Nat) (p0 : (List S82)) (p1 : Int) (r : S62), deriv_derive_r k j p0 p1 = some r → Spec Try.prog 58 [(.fz 5 (p0.map e82)), (eU8 p1)] (e62 r) := by
  intro j
  induction j with
  | zero => intro p0 p1 r h; rw [deriv_derive_r.eq_1] at h; cases h
  | succ j hself =>
  intro p0 p1 r h
  rw [deriv_derive_r.eq_2] at h
  generalize hs : deriv_derive_r k j = self at h hself
  refine Spec.intro (res := [.cell 4 62]) Try.func58 rfl rfl rfl (Nat.le_of_ble_eq_true rfl) ?_
  refine AW.sr ?_
  refine AO.alloc rfl 4 rfl (by decide) rfl zr62 lay62 fun n3 => ?_
  refine AO.nK [0, 1, 4] ?_
  refine AW.sr ?_
  refine AO.c (Calm.move rfl rfl) ?_
  refine AO.c (Calm.move rfl rfl) ?_
  refine AO.c (Calm.lenL rfl rfl Try.underlying58) ?_
  refine AO.c (x := eI64 (w64 ((p0.length : Int) - (1 : Int)))) (Calm.int rfl rfl rfl rfl) ?_
  obtain ⟨hg4, h⟩ := of_guard h
  refine AO.c (Calm.idxL (f := e82) rfl rfl rfl hg4 Try.underlying58 sz82) ?_
  refine AO.c (Calm.loadRp rfl rfl ag82 sz82) ?_
  refine AO.alloc rfl 5 rfl (by decide) rfl zr82 lay82 fun n5 => ?_
  refine AO.store (X' := (e82 (lget p0 (w64 ((p0.length : Int) - (1 : Int)))))) 0 rfl rfl rfl rfl rfl rfl (Put.cast Put.here rfl) rfl rfl sz82 rfl ?_
  refine AO.nH [0, 1, 4, 5] (H' := [(n3, (.mem (.st [(1, (eBool false)), (1, (.fl (.slice none 0 0)))]))), (n5, (.mem (e82 (lget p0 (w64 ((p0.length : Int) - (1 : Int)))))))]) (Sub.cons 1 rfl (Sub.cons 0 rfl (Sub.nil _))) ?_
  refine AW.sr ?_
  refine AO.c (Calm.move rfl rfl) ?_
  obtain ⟨t6, et6, h⟩ := of_bind h
  refine AO.callS [(.fz 5 (p0.map e82))] (.fz 1 (t6.map e58)) 15 rfl (by decide) ok69 rfl rfl rfl ⟨rfl, rfl, trivial⟩ (rex_Parts_spec et6) ?_
  refine AO.c (Calm.assign rfl rfl) ?_
  refine AO.nK [1, 4, 5, 6] ?_
  refine AW.seq_mid (fun ρ H => ρ = [(4, (.ptr n3 0))] ∧ H = [(n3, (.mem (.st [(1, (eBool false)), (1, (.fl (.slice none 0 0)))])))] ∧ deriv_derive_c0 k = some r) ?_ ?_
  ·refine AW.sr ?_
   refine AO.c (x := .ptr n5 0) (Calm.fldPtr rfl rfl Try.underlying82 rfl sz3 _ rfl) ?_
   refine AO.c (Calm.load 1 rfl rfl rfl (At.cast (At.fld0 At.here) rfl) ag3 sz3) ?_
   refine AO.nK [1, 4, 5, 6, 17] ?_
   refine AW.block ?_
   refine AW.sr ?_
   refine AO.c (x := eBool (decide (((lget p0 (w64 ((p0.length : Int) - (1 : Int)))).f0) = (1 : Int)))) (Calm.int rfl rfl rfl rfl) ?_
   refine AO.c (Calm.assign rfl rfl) ?_
   refine AO.nK [1, 4, 5, 6, 17, 18] ?_
   rcases of_ite h with ⟨hc7, h⟩ | ⟨hc7, h⟩
   ·refine AW.condP _ rfl hc7 ?_
    refine AW.sr ?_
    refine AO.c (x := .ptr n5 1) (Calm.fldPtr rfl rfl Try.underlying82 rfl sz33 _ rfl) ?_
    refine AO.c (Calm.load 1 rfl rfl rfl (At.cast (At.fldS (At.fld0 At.here)) rfl) ag33 (by rw [sz33]; simp [AV.size])) ?_
    refine AO.c (Calm.move rfl rfl) ?_
    obtain ⟨t8, et8, h⟩ := of_bind h
    refine AO.callS [(.ar 1 (((lget p0 (w64 ((p0.length : Int) - (1 : Int)))).f1).toList.map eU64)), (eU8 p1)] (eBool t8) 23 rfl (by decide) ok46 rfl rfl rfl ⟨rfl, rfl, rfl, rfl, trivial⟩ (byteset_Has_spec et8) ?_
    refine AO.nH [4, 23] (H' := [(n3, (.mem (.st [(1, (eBool false)), (1, (.fl (.slice none 0 0)))])))]) (Sub.cons 0 rfl (Sub.nil _)) ?_
    rcases of_ite h with ⟨hc9, h⟩ | ⟨hc9, h⟩
    ·refine AW.condT' _ rfl hc9 ?_
     refine AW.sr ?_
     refine AO.c (x := .st [(1, (eI64 (0 : Int))), (4, (.ar 1 ((Vector.replicate 4 (0 : Int)).toList.map eU64)))]) (Calm.build (qs := [(0, (eI64 (0 : Int)))]) rfl ⟨rfl, rfl, rfl, trivial⟩ Try.underlying82 rfl zr82 lay82 (.cons rfl rfl rfl rfl (Put.cast (Put.fld0 Put.here) rfl) .nil) rfl) ?_
     refine AO.lit (Z := (.st [(1, (eI64 (0 : Int))), (4, (.ar 1 ((Vector.replicate 4 (0 : Int)).toList.map eU64)))])) (xs := (([(S82.mk (0 : Int) (Vector.replicate 4 (0 : Int)))] : List S82).map e82)) (qs := [(0, (e82 (S82.mk (0 : Int) (Vector.replicate 4 (0 : Int)))))]) rfl 25 rfl (by decide) rfl ⟨rfl, rfl, rfl, trivial⟩ Try.underlying58 sz82 zr82 lay82 rfl (by decide) (litOK (z := 5) [(e82 (S82.mk (0 : Int) (Vector.replicate 4 (0 : Int))))] rfl ⟨⟨rfl, rfl⟩, trivial⟩) rfl fun n10 => ?_
     refine AO.freezeS 0 [(25, (.fz 5 (([(S82.mk (0 : Int) (Vector.replicate 4 (0 : Int)))] : List S82).map e82)))] rfl ⟨fz_all rfl, trivial⟩ ?_
     refine AO.c (x := .st [(1, (eBool false)), (1, (.fz 5 (([(S82.mk (0 : Int) (Vector.replicate 4 (0 : Int)))] : List S82).map e82)))]) (Calm.build (qs := [(1, (.fz 5 (([(S82.mk (0 : Int) (Vector.replicate 4 (0 : Int)))] : List S82).map e82)))]) rfl ⟨rfl, rfl, rfl, trivial⟩ Try.underlying62 rfl zr62 lay62 (.cons rfl rfl rfl rfl (Put.cast (Put.fldS (Put.fld0 Put.here)) rfl) .nil) rfl) ?_
     refine AO.store (X' := (e62 (S62.mk false [(S82.mk (0 : Int) (Vector.replicate 4 (0 : Int)))]))) 0 rfl rfl rfl rfl rfl rfl (Put.cast Put.here rfl) rfl rfl sz62 rfl ?_
     refine AO.nK [4] ?_
     refine AW.rK [4] ?_
     have hr := Option.some.inj h
     subst hr
     exact ⟨[(e62 (S62.mk false [(S82.mk (0 : Int) (Vector.replicate 4 (0 : Int)))]))], ⟨⟨_, 0, rfl, rfl, ag62, sz62⟩, trivial⟩, rfl⟩
    ·refine AW.condF' _ rfl hc9 ?_
     refine AW.sK [4] ?_
     exact ⟨rfl, rfl, h⟩
   ·refine AW.condN _ rfl hc7 ?_
    refine AW.sr ?_
    refine AO.c (x := eBool (decide (((lget p0 (w64 ((p0.length : Int) - (1 : Int)))).f0) = (2 : Int)))) (Calm.int rfl rfl rfl rfl) ?_
    refine AO.c (Calm.assign rfl rfl) ?_
    refine AO.nH [1, 4, 6, 17, 27] (H' := [(n3, (.mem (.st [(1, (eBool false)), (1, (.fl (.slice none 0 0)))])))]) (Sub.cons 0 rfl (Sub.nil _)) ?_
    rcases of_ite h with ⟨hc11, h⟩ | ⟨hc11, h⟩
    ·refine AW.condP _ rfl hc11 ?_
     refine AW.seq ?_
     obtain ⟨hg12, h⟩ := of_guard h
     obtain ⟨t13, et13, h⟩ := of_bind h
     obtain ⟨hg14, h⟩ := of_guard h
     obtain ⟨t15, et15, h⟩ := of_bind h
     refine AW.regEff (by rfl) (by decide +kernel) (fun (σ : Nat → Nat) => ([(.fz 1 (t6.map e58)), (.rp (.fz 5 ((lget t6 (0 : Int)).map e82))), (.fz 5 ((lget t6 (0 : Int)).map e82)), (eU8 p1), (e62 t13), (.fz 1 (t6.map e58)), (.rp (.fz 5 ((lget t6 (1 : Int)).map e82))), (.fz 5 ((lget t6 (1 : Int)).map e82)), (e62 (S62.mk false (lget t6 (1 : Int)))), (e62 t15), (.ptr (σ 10) 0), (.fl undef)] : List AV)) (fun (L : Nat → Bool) (σ : Nat → Nat) => ((n3, (.mem (.st [(1, (eBool false)), (1, (.fl (.slice none 0 0)))]))) :: (bif L 10 then (bif L 11 then (((σ 10), (.mem (e62 t15))) :: []) else (((σ 10), (.mem (.st [(1, (eBool false)), (1, (.fl (.slice none 0 0)))]))) :: [])) else ([])) : Heap)) [(1, (eU8 p1)), (4, (.ptr n3 0)), (6, (.fz 1 (t6.map e58)))] ⟨rfl, rfl, rfl, trivial⟩ (fun _ => rfl) (fun σ => (Sub.refl _)) ⟨?_, ?_, ?_, ?_, ?_, ?_, ?_, ?_, ?_, ?_, ?_, ?_, trivial⟩ (fun σ => [(1, (eU8 p1)), (4, (.ptr n3 0)), (6, (.fz 1 (t6.map e58))), (7, (.ptr (σ 10) 0))]) (fun σ => ((n3, (.mem (.st [(1, (eBool false)), (1, (.fl (.slice none 0 0)))]))) :: ((σ 10), (.mem (e62 t15))) :: [])) (fun σ => ⟨rfl, rfl, rfl, rfl, trivial⟩) (fun σ => Sub.refl _) (fun σ => ?_)
     ·refine StepE.calm (fun _ _ => rfl) fun L σ hc hi hd => ?_
      refine AO.wK [6] ?_
      refine AO.c (Calm.move rfl rfl) ?_
      exact AO.nE (d := 29) rfl ⟨⟨29, _, rfl, rfl, rfl⟩, Sub.refl _⟩
     ·refine StepE.calm (fun _ _ => rfl) fun L σ hc hi hd => ?_
      refine AO.wK [29] ?_
      refine AO.c (Calm.idxL (f := e58) rfl rfl rfl hg12 Try.underlying97 sz58) ?_
      exact AO.nE (d := 30) rfl ⟨⟨30, _, rfl, rfl, rfl⟩, Sub.refl _⟩
     ·refine StepE.calm (fun _ _ => rfl) fun L σ hc hi hd => ?_
      refine AO.wK [30] ?_
      refine AO.c (Calm.loadRp rfl rfl ag58 sz58) ?_
      exact AO.nE (d := 31) rfl ⟨⟨31, _, rfl, rfl, rfl⟩, Sub.refl _⟩
     ·refine StepE.calm (fun _ _ => rfl) fun L σ hc hi hd => ?_
      refine AO.wK [1] ?_
      refine AO.c (Calm.move rfl rfl) ?_
      exact AO.nE (d := 32) rfl ⟨⟨32, _, rfl, rfl, rfl⟩, Sub.refl _⟩
     ·refine StepE.calm (fun _ _ => rfl) fun L σ hc hi hd => ?_
      refine AO.wK [31, 32] ?_
      refine AO.callS [(.fz 5 ((lget t6 (0 : Int)).map e82)), (eU8 p1)] (e62 t13) 33 rfl (by decide) ok58 rfl rfl rfl ⟨rfl, rfl, rfl, rfl, trivial⟩ (hself _ _ _ et13) ?_
      exact AO.nE (d := 33) rfl ⟨⟨33, _, rfl, rfl, rfl⟩, Sub.refl _⟩
     ·refine StepE.calm (fun _ _ => rfl) fun L σ hc hi hd => ?_
      refine AO.wK [6] ?_
      refine AO.c (Calm.move rfl rfl) ?_
      exact AO.nE (d := 34) rfl ⟨⟨34, _, rfl, rfl, rfl⟩, Sub.refl _⟩
     ·refine StepE.calm (fun _ _ => rfl) fun L σ hc hi hd => ?_
      refine AO.wK [34] ?_
      refine AO.c (Calm.idxL (f := e58) rfl rfl rfl hg14 Try.underlying97 sz58) ?_
      exact AO.nE (d := 35) rfl ⟨⟨35, _, rfl, rfl, rfl⟩, Sub.refl _⟩
     ·refine StepE.calm (fun _ _ => rfl) fun L σ hc hi hd => ?_
      refine AO.wK [35] ?_
      refine AO.c (Calm.loadRp rfl rfl ag58 sz58) ?_
      exact AO.nE (d := 36) rfl ⟨⟨36, _, rfl, rfl, rfl⟩, Sub.refl _⟩
     ·refine StepE.calm (fun _ _ => rfl) fun L σ hc hi hd => ?_
      refine AO.wK [36] ?_
      refine AO.c (x := .st [(1, (eBool false)), (1, (.fz 5 ((lget t6 (1 : Int)).map e82)))]) (Calm.build (qs := [(1, (.fz 5 ((lget t6 (1 : Int)).map e82)))]) rfl ⟨rfl, rfl, rfl, trivial⟩ Try.underlying62 rfl zr62 lay62 (.cons rfl rfl rfl rfl (Put.cast (Put.fldS (Put.fld0 Put.here)) rfl) .nil) rfl) ?_
      exact AO.nE (d := 37) rfl ⟨⟨37, _, rfl, rfl, rfl⟩, Sub.refl _⟩
     ·refine StepE.calm (fun _ _ => rfl) fun L σ hc hi hd => ?_
      refine AO.wK [33, 37] ?_
      refine AO.callS [(e62 t13), (e62 (S62.mk false (lget t6 (1 : Int))))] (e62 t15) 38 rfl (by decide) ok70 rfl rfl rfl ⟨rfl, rfl, rfl, rfl, trivial⟩ (deriv_cat_spec et15) ?_
      exact AO.nE (d := 38) rfl ⟨⟨38, _, rfl, rfl, rfl⟩, Sub.refl _⟩
     ·intro L σ hc hi hd
      have m11 : L 11 = false := hc.neg (i := 10) (j := 11) rfl (by rfl) hi
      refine AO.heq (H' := ((n3, (.mem (.st [(1, (eBool false)), (1, (.fl (.slice none 0 0)))]))) :: [])) (by first | rfl | simp only [hi, m11, cond_true, cond_false]) ?_
      refine AO.wK [] ?_
      refine AO.alloc rfl 7 rfl (by decide) rfl zr62 lay62 fun n16 => ?_
      have a10 : addL L 10 10 = true := rfl
      have a11 : addL L 10 11 = false := m11
      have u10 : upd σ 10 n16 10 = n16 := rfl
      exact AO.nE (d := 7) rfl ⟨(upd σ 10 n16), (fun j hj => match j, hj with | 0, _ => rfl | 1, _ => rfl | 2, _ => rfl | 3, _ => rfl | 4, _ => rfl | 5, _ => rfl | 6, _ => rfl | 7, _ => rfl | 8, _ => rfl | 9, _ => rfl | 10, hj => Bool.noConfusion (hj.symm.trans hi) | 11, _ => rfl | _ + 12, _ => rfl), (fun d' hd' => ⟨_, rfl, by cases hd'; rfl⟩), Sub.of_eq (B := ((n3, (.mem (.st [(1, (eBool false)), (1, (.fl (.slice none 0 0)))]))) :: (n16, (.mem (.st [(1, (eBool false)), (1, (.fl (.slice none 0 0)))]))) :: [])) (by simp only [a10, a11, u10, cond_true, cond_false]) (Sub.cons 1 rfl (Sub.cons 0 rfl (Sub.refl _)))⟩
     ·intro L σ hc hi hd
      have y10 : L 10 = true := on_get hd (i := 10) (by rfl)
      refine AO.heq (H' := ((n3, (.mem (.st [(1, (eBool false)), (1, (.fl (.slice none 0 0)))]))) :: ((σ 10), (.mem (.st [(1, (eBool false)), (1, (.fl (.slice none 0 0)))]))) :: [])) (by first | rfl | simp only [hi, y10, cond_true, cond_false]) ?_
      refine AO.wK [7, 38] ?_
      refine AO.store (X' := (e62 t15)) 1 rfl rfl rfl rfl rfl rfl (Put.cast Put.here rfl) rfl rfl sz62 rfl ?_
      have a10 : addL L 11 10 = true := y10
      have a11 : addL L 11 11 = true := rfl
      exact AO.n0 ⟨σ, (fun _ _ => rfl), (fun d' hd' => by cases hd'), Sub.of_eq (B := ((n3, (.mem (.st [(1, (eBool false)), (1, (.fl (.slice none 0 0)))]))) :: ((σ 10), (.mem (e62 t15))) :: [])) (by simp only [a10, a11, cond_true, cond_false]) (Sub.refl _)⟩
     ·generalize σ 10 = n16
      refine AO.nK [1, 4, 6, 7] ?_
      refine AW.seq ?_
      refine AW.sr ?_
      refine AO.c (Calm.move rfl rfl) ?_
      obtain ⟨hg17, h⟩ := of_guard h
      refine AO.c (Calm.idxL (f := e58) rfl rfl rfl hg17 Try.underlying97 sz58) ?_
      refine AO.c (Calm.loadRp rfl rfl ag58 sz58) ?_
      obtain ⟨t18, et18, h⟩ := of_bind h
      refine AO.callS [(.fz 5 ((lget t6 (0 : Int)).map e82))] (eBool t18) 42 rfl (by decide) ok41 rfl rfl rfl ⟨rfl, rfl, trivial⟩ (deriv_Empty_spec et18) ?_
      refine AO.nK [1, 4, 6, 7, 42] ?_
      rcases of_ite h with ⟨hc19, h⟩ | ⟨hc19, h⟩
      ·refine AW.condT' _ rfl hc19 ?_
       refine AW.seq ?_
       obtain ⟨hg20, h⟩ := of_guard h
       obtain ⟨t21, et21, h⟩ := of_bind h
       obtain ⟨t22, et22, h⟩ := of_bind h
       refine AW.regAnyL rfl rfl (by rfl) (by decide +kernel) (by decide +kernel) [(e62 t15), (.fz 1 (t6.map e58)), (.rp (.fz 5 ((lget t6 (1 : Int)).map e82))), (.fz 5 ((lget t6 (1 : Int)).map e82)), (eU8 p1), (e62 t21), (e62 t22)] [(1, (eU8 p1)), (4, (.ptr n3 0)), (6, (.fz 1 (t6.map e58))), (7, (.ptr n16 0))] ⟨rfl, rfl, rfl, rfl, trivial⟩ rfl ?_ [(4, (.ptr n3 0)), (49, (e62 t22))] ⟨rfl, rfl, trivial⟩ ?_
       ·refine ⟨?_, ?_, ?_, ?_, ?_, ?_, ?_, trivial⟩
        ·refine AO.wK [7] ?_
         refine AO.c (Calm.load 1 rfl rfl rfl (At.cast At.here rfl) ag62 sz62) ?_
         exact AO.nE (d := 43) rfl ⟨⟨_, rfl, rfl⟩, Sub.refl _⟩
        ·refine AO.wK [6] ?_
         refine AO.c (Calm.move rfl rfl) ?_
         exact AO.nE (d := 44) rfl ⟨⟨_, rfl, rfl⟩, Sub.refl _⟩
        ·refine AO.wK [44] ?_
         refine AO.c (Calm.idxL (f := e58) rfl rfl rfl hg20 Try.underlying97 sz58) ?_
         exact AO.nE (d := 45) rfl ⟨⟨_, rfl, rfl⟩, Sub.refl _⟩
        ·refine AO.wK [45] ?_
         refine AO.c (Calm.loadRp rfl rfl ag58 sz58) ?_
         exact AO.nE (d := 46) rfl ⟨⟨_, rfl, rfl⟩, Sub.refl _⟩
        ·refine AO.wK [1] ?_
         refine AO.c (Calm.move rfl rfl) ?_
         exact AO.nE (d := 47) rfl ⟨⟨_, rfl, rfl⟩, Sub.refl _⟩
        ·refine AO.wK [46, 47] ?_
         refine AO.callS [(.fz 5 ((lget t6 (1 : Int)).map e82)), (eU8 p1)] (e62 t21) 48 rfl (by decide) ok58 rfl rfl rfl ⟨rfl, rfl, rfl, rfl, trivial⟩ (hself _ _ _ et21) ?_
         exact AO.nE (d := 48) rfl ⟨⟨_, rfl, rfl⟩, Sub.refl _⟩
        ·refine AO.wK [43, 48] ?_
         refine AO.callS [(e62 t15), (e62 t21)] (e62 t22) 49 rfl (by decide) ok71 rfl rfl rfl ⟨rfl, rfl, rfl, rfl, trivial⟩ (deriv_alt_spec et22) ?_
         exact AO.nE (d := 49) rfl ⟨⟨_, rfl, rfl⟩, Sub.refl _⟩
       ·refine AO.store (X' := (e62 t22)) 0 rfl rfl rfl rfl rfl rfl (Put.cast Put.here rfl) rfl rfl sz62 rfl ?_
        refine AO.nH [4] (H' := [(n3, (.mem (e62 t22)))]) (Sub.cons 0 rfl (Sub.nil _)) ?_
        refine AW.rK [4] ?_
        have hr := Option.some.inj h
        subst hr
        exact ⟨[(e62 t22)], ⟨⟨_, 0, rfl, rfl, ag62, sz62⟩, trivial⟩, rfl⟩
      ·refine AW.condF' _ rfl hc19 ?_
       refine AW.sK [4, 7] ?_
       refine AW.sr ?_
       refine AO.c (Calm.load 1 rfl rfl rfl (At.cast At.here rfl) ag62 sz62) ?_
       refine AO.store (X' := (e62 t15)) 0 rfl rfl rfl rfl rfl rfl (Put.cast Put.here rfl) rfl rfl sz62 rfl ?_
       refine AO.nH [4] (H' := [(n3, (.mem (e62 t15)))]) (Sub.cons 0 rfl (Sub.nil _)) ?_
       refine AW.rK [4] ?_
       have hr := Option.some.inj h
       subst hr
       exact ⟨[(e62 t15)], ⟨⟨_, 0, rfl, rfl, ag62, sz62⟩, trivial⟩, rfl⟩
    ·refine AW.condN _ rfl hc11 ?_
     refine AW.sr ?_
     refine AO.c (x := eBool (decide (((lget p0 (w64 ((p0.length : Int) - (1 : Int)))).f0) = (3 : Int)))) (Calm.int rfl rfl rfl rfl) ?_
     refine AO.c (Calm.assign rfl rfl) ?_
     refine AO.nK [1, 4, 6, 17, 51] ?_
     rcases of_ite h with ⟨hc23, h⟩ | ⟨hc23, h⟩
     ·refine AW.condP _ rfl hc23 ?_
      refine AW.seq ?_
      obtain ⟨hg24, h⟩ := of_guard h
      obtain ⟨t25, et25, h⟩ := of_bind h
      obtain ⟨hg26, h⟩ := of_guard h
      obtain ⟨t27, et27, h⟩ := of_bind h
      obtain ⟨t28, et28, h⟩ := of_bind h
      refine AW.regAnyL rfl rfl (by rfl) (by decide +kernel) (by decide +kernel) [(.fz 1 (t6.map e58)), (.rp (.fz 5 ((lget t6 (0 : Int)).map e82))), (.fz 5 ((lget t6 (0 : Int)).map e82)), (eU8 p1), (e62 t25), (.fz 1 (t6.map e58)), (.rp (.fz 5 ((lget t6 (1 : Int)).map e82))), (.fz 5 ((lget t6 (1 : Int)).map e82)), (eU8 p1), (e62 t27), (e62 t28)] [(1, (eU8 p1)), (4, (.ptr n3 0)), (6, (.fz 1 (t6.map e58)))] ⟨rfl, rfl, rfl, trivial⟩ rfl ?_ [(4, (.ptr n3 0)), (63, (e62 t28))] ⟨rfl, rfl, trivial⟩ ?_
      ·refine ⟨?_, ?_, ?_, ?_, ?_, ?_, ?_, ?_, ?_, ?_, ?_, trivial⟩
       ·refine AO.wK [6] ?_
        refine AO.c (Calm.move rfl rfl) ?_
        exact AO.nE (d := 53) rfl ⟨⟨_, rfl, rfl⟩, Sub.refl _⟩
       ·refine AO.wK [53] ?_
        refine AO.c (Calm.idxL (f := e58) rfl rfl rfl hg24 Try.underlying97 sz58) ?_
        exact AO.nE (d := 54) rfl ⟨⟨_, rfl, rfl⟩, Sub.refl _⟩
       ·refine AO.wK [54] ?_
        refine AO.c (Calm.loadRp rfl rfl ag58 sz58) ?_
        exact AO.nE (d := 55) rfl ⟨⟨_, rfl, rfl⟩, Sub.refl _⟩
       ·refine AO.wK [1] ?_
        refine AO.c (Calm.move rfl rfl) ?_
        exact AO.nE (d := 56) rfl ⟨⟨_, rfl, rfl⟩, Sub.refl _⟩
       ·refine AO.wK [55, 56] ?_
        refine AO.callS [(.fz 5 ((lget t6 (0 : Int)).map e82)), (eU8 p1)] (e62 t25) 57 rfl (by decide) ok58 rfl rfl rfl ⟨rfl, rfl, rfl, rfl, trivial⟩ (hself _ _ _ et25) ?_
        exact AO.nE (d := 57) rfl ⟨⟨_, rfl, rfl⟩, Sub.refl _⟩
       ·refine AO.wK [6] ?_
        refine AO.c (Calm.move rfl rfl) ?_
        exact AO.nE (d := 58) rfl ⟨⟨_, rfl, rfl⟩, Sub.refl _⟩
       ·refine AO.wK [58] ?_
        refine AO.c (Calm.idxL (f := e58) rfl rfl rfl hg26 Try.underlying97 sz58) ?_
        exact AO.nE (d := 59) rfl ⟨⟨_, rfl, rfl⟩, Sub.refl _⟩
       ·refine AO.wK [59] ?_
        refine AO.c (Calm.loadRp rfl rfl ag58 sz58) ?_
        exact AO.nE (d := 60) rfl ⟨⟨_, rfl, rfl⟩, Sub.refl _⟩
       ·refine AO.wK [1] ?_
        refine AO.c (Calm.move rfl rfl) ?_
        exact AO.nE (d := 61) rfl ⟨⟨_, rfl, rfl⟩, Sub.refl _⟩
       ·refine AO.wK [60, 61] ?_
        refine AO.callS [(.fz 5 ((lget t6 (1 : Int)).map e82)), (eU8 p1)] (e62 t27) 62 rfl (by decide) ok58 rfl rfl rfl ⟨rfl, rfl, rfl, rfl, trivial⟩ (hself _ _ _ et27) ?_
        exact AO.nE (d := 62) rfl ⟨⟨_, rfl, rfl⟩, Sub.refl _⟩
       ·refine AO.wK [57, 62] ?_
        refine AO.callS [(e62 t25), (e62 t27)] (e62 t28) 63 rfl (by decide) ok71 rfl rfl rfl ⟨rfl, rfl, rfl, rfl, trivial⟩ (deriv_alt_spec et28) ?_
        exact AO.nE (d := 63) rfl ⟨⟨_, rfl, rfl⟩, Sub.refl _⟩
      ·refine AO.store (X' := (e62 t28)) 0 rfl rfl rfl rfl rfl rfl (Put.cast Put.here rfl) rfl rfl sz62 rfl ?_
       refine AO.nK [4] ?_
       refine AW.rK [4] ?_
       have hr := Option.some.inj h
       subst hr
       exact ⟨[(e62 t28)], ⟨⟨_, 0, rfl, rfl, ag62, sz62⟩, trivial⟩, rfl⟩
     ·refine AW.condN _ rfl hc23 ?_
      refine AW.sr ?_
      refine AO.c (x := eBool (decide (((lget p0 (w64 ((p0.length : Int) - (1 : Int)))).f0) = (6 : Int)))) (Calm.int rfl rfl rfl rfl) ?_
      refine AO.c (Calm.assign rfl rfl) ?_
      refine AO.nK [1, 4, 6, 17, 64] ?_
      rcases of_ite h with ⟨hc29, h⟩ | ⟨hc29, h⟩
      ·refine AW.condP _ rfl hc29 ?_
       refine AW.sr ?_
       refine AO.c (Calm.move rfl rfl) ?_
       obtain ⟨hg30, h⟩ := of_guard h
       refine AO.c (Calm.idxL (f := e58) rfl rfl rfl hg30 Try.underlying97 sz58) ?_
       refine AO.c (Calm.loadRp rfl rfl ag58 sz58) ?_
       refine AO.c (Calm.move rfl rfl) ?_
       obtain ⟨t31, et31, h⟩ := of_bind h
       refine AO.callS [(.fz 5 ((lget t6 (0 : Int)).map e82)), (eU8 p1)] (e62 t31) 70 rfl (by decide) ok58 rfl rfl rfl ⟨rfl, rfl, rfl, rfl, trivial⟩ (hself _ _ _ et31) ?_
       refine AO.store (X' := (e62 t31)) 0 rfl rfl rfl rfl rfl rfl (Put.cast Put.here rfl) rfl rfl sz62 rfl ?_
       refine AO.nK [4] ?_
       refine AW.rK [4] ?_
       have hr := Option.some.inj h
       subst hr
       exact ⟨[(e62 t31)], ⟨⟨_, 0, rfl, rfl, ag62, sz62⟩, trivial⟩, rfl⟩
      ·refine AW.condN _ rfl hc29 ?_
       refine AW.seq_mid (fun ρ H => ∃ (b32 : Bool), ρ = [(1, (eU8 p1)), (4, (.ptr n3 0)), (6, (.fz 1 (t6.map e58))), (71, (eBool b32))] ∧ H = [(n3, (.mem (.st [(1, (eBool false)), (1, (.fl (.slice none 0 0)))])))] ∧ deriv_derive_c1 k self p1 t6 b32 = some r) ?_ ?_
       ·refine AW.sr ?_
        refine AO.c (x := eBool (decide (((lget p0 (w64 ((p0.length : Int) - (1 : Int)))).f0) = (4 : Int)))) (Calm.int rfl rfl rfl rfl) ?_
        refine AO.c (Calm.assign rfl rfl) ?_
        refine AO.nK [1, 4, 6, 17, 71] ?_
        rcases of_ite h with ⟨hc40, h⟩ | ⟨hc40, h⟩
        ·refine AW.condP _ rfl hc40 ?_
         refine AW.sK [1, 4, 6, 71] ?_
         exact ⟨decide (((lget p0 (w64 ((p0.length : Int) - (1 : Int)))).f0) = (4 : Int)), rfl, rfl, h⟩
        ·refine AW.condN _ rfl hc40 ?_
         refine AW.reg ?_
         refine AO.c (x := eBool (decide (((lget p0 (w64 ((p0.length : Int) - (1 : Int)))).f0) = (5 : Int)))) (Calm.int rfl rfl rfl rfl) ?_
         refine AO.c (Calm.assign rfl rfl) ?_
         refine AO.nK [1, 4, 6, 71] ?_
         exact ⟨decide (((lget p0 (w64 ((p0.length : Int) - (1 : Int)))).f0) = (5 : Int)), rfl, rfl, h⟩
       ·rintro _ _ ⟨b32, rfl, rfl, h⟩
        rw [deriv_derive_c1.eq_1] at h
        rcases of_ite h with ⟨hc33, h⟩ | ⟨hc33, h⟩
        ·refine AW.condT' _ rfl hc33 ?_
         refine AW.seq ?_
         obtain ⟨hg34, h⟩ := of_guard h
         obtain ⟨t35, et35, h⟩ := of_bind h
         obtain ⟨hg36, h⟩ := of_guard h
         obtain ⟨t38, et38, h⟩ := of_bind h
         obtain ⟨t39, et39, h⟩ := of_bind h
         refine AW.regAnyL rfl rfl (by rfl) (by decide +kernel) (by decide +kernel) [(.fz 1 (t6.map e58)), (.rp (.fz 5 ((lget t6 (0 : Int)).map e82))), (.fz 5 ((lget t6 (0 : Int)).map e82)), (eU8 p1), (e62 t35), (.fz 1 (t6.map e58)), (.rp (.fz 5 ((lget t6 (0 : Int)).map e82))), (.fz 5 ((lget t6 (0 : Int)).map e82)), (.fz 1 (([(lget t6 (0 : Int))] : List (List S82)).map e58)), (.fz 5 (t38.map e82)), (e62 (S62.mk false t38)), (e62 t39)] [(1, (eU8 p1)), (4, (.ptr n3 0)), (6, (.fz 1 (t6.map e58)))] ⟨rfl, rfl, rfl, trivial⟩ rfl ?_ [(4, (.ptr n3 0)), (85, (e62 t39))] ⟨rfl, rfl, trivial⟩ ?_
         ·refine ⟨?_, ?_, ?_, ?_, ?_, ?_, ?_, ?_, ?_, ?_, ?_, ?_, trivial⟩
          ·refine AO.wK [6] ?_
           refine AO.c (Calm.move rfl rfl) ?_
           exact AO.nE (d := 74) rfl ⟨⟨_, rfl, rfl⟩, Sub.refl _⟩
          ·refine AO.wK [74] ?_
           refine AO.c (Calm.idxL (f := e58) rfl rfl rfl hg34 Try.underlying97 sz58) ?_
           exact AO.nE (d := 75) rfl ⟨⟨_, rfl, rfl⟩, Sub.refl _⟩
          ·refine AO.wK [75] ?_
           refine AO.c (Calm.loadRp rfl rfl ag58 sz58) ?_
           exact AO.nE (d := 76) rfl ⟨⟨_, rfl, rfl⟩, Sub.refl _⟩
          ·refine AO.wK [1] ?_
           refine AO.c (Calm.move rfl rfl) ?_
           exact AO.nE (d := 77) rfl ⟨⟨_, rfl, rfl⟩, Sub.refl _⟩
          ·refine AO.wK [76, 77] ?_
           refine AO.callS [(.fz 5 ((lget t6 (0 : Int)).map e82)), (eU8 p1)] (e62 t35) 78 rfl (by decide) ok58 rfl rfl rfl ⟨rfl, rfl, rfl, rfl, trivial⟩ (hself _ _ _ et35) ?_
           exact AO.nE (d := 78) rfl ⟨⟨_, rfl, rfl⟩, Sub.refl _⟩
          ·refine AO.wK [6] ?_
           refine AO.c (Calm.move rfl rfl) ?_
           exact AO.nE (d := 79) rfl ⟨⟨_, rfl, rfl⟩, Sub.refl _⟩
          ·refine AO.wK [79] ?_
           refine AO.c (Calm.idxL (f := e58) rfl rfl rfl hg36 Try.underlying97 sz58) ?_
           exact AO.nE (d := 80) rfl ⟨⟨_, rfl, rfl⟩, Sub.refl _⟩
          ·refine AO.wK [80] ?_
           refine AO.c (Calm.loadRp rfl rfl ag58 sz58) ?_
           exact AO.nE (d := 81) rfl ⟨⟨_, rfl, rfl⟩, Sub.refl _⟩
          ·refine AO.wK [81] ?_
           refine AO.lit (Z := (.fl (.slice none 0 0))) (xs := (([(lget t6 (0 : Int))] : List (List S82)).map e58)) (qs := [(0, (.fz 5 ((lget t6 (0 : Int)).map e82)))]) rfl 82 rfl (by decide) rfl ⟨rfl, rfl, rfl, trivial⟩ Try.underlying97 sz58 zr58 lay58 rfl (by decide) (litOK (z := 1) [(.fz 5 ((lget t6 (0 : Int)).map e82))] rfl ⟨⟨rfl, rfl⟩, trivial⟩) rfl fun n37 => ?_
           refine AO.freezeS 0 [(82, (.fz 1 (([(lget t6 (0 : Int))] : List (List S82)).map e58)))] rfl ⟨fz_all rfl, trivial⟩ ?_
           exact AO.nE (d := 82) rfl ⟨⟨_, rfl, rfl⟩, Sub.refl _⟩
          ·refine AO.wK [82] ?_
           refine AO.callS [(eI64 (4 : Int)), (.fz 1 (([(lget t6 (0 : Int))] : List (List S82)).map e58))] (.fz 5 (t38.map e82)) 83 rfl (by decide) ok72 rfl rfl rfl ⟨rfl, rfl, rfl, rfl, trivial⟩ (rex_Join_spec et38) ?_
           exact AO.nE (d := 83) rfl ⟨⟨_, rfl, rfl⟩, Sub.refl _⟩
          ·refine AO.wK [83] ?_
           refine AO.c (x := .st [(1, (eBool false)), (1, (.fz 5 (t38.map e82)))]) (Calm.build (qs := [(1, (.fz 5 (t38.map e82)))]) rfl ⟨rfl, rfl, rfl, trivial⟩ Try.underlying62 rfl zr62 lay62 (.cons rfl rfl rfl rfl (Put.cast (Put.fldS (Put.fld0 Put.here)) rfl) .nil) rfl) ?_
           exact AO.nE (d := 84) rfl ⟨⟨_, rfl, rfl⟩, Sub.refl _⟩
          ·refine AO.wK [78, 84] ?_
           refine AO.callS [(e62 t35), (e62 (S62.mk false t38))] (e62 t39) 85 rfl (by decide) ok70 rfl rfl rfl ⟨rfl, rfl, rfl, rfl, trivial⟩ (deriv_cat_spec et39) ?_
           exact AO.nE (d := 85) rfl ⟨⟨_, rfl, rfl⟩, Sub.refl _⟩
         ·refine AO.store (X' := (e62 t39)) 0 rfl rfl rfl rfl rfl rfl (Put.cast Put.here rfl) rfl rfl sz62 rfl ?_
          refine AO.nK [4] ?_
          refine AW.rK [4] ?_
          have hr := Option.some.inj h
          subst hr
          exact ⟨[(e62 t39)], ⟨⟨_, 0, rfl, rfl, ag62, sz62⟩, trivial⟩, rfl⟩
        ·refine AW.condF' _ rfl hc33 ?_
         refine AW.sK [4] ?_
         exact ⟨rfl, rfl, h⟩
  ·rintro _ _ ⟨rfl, rfl, h⟩
   rw [deriv_derive_c0.eq_1] at h
   refine AW.sr ?_
   refine AO.c (x := .st [(1, (eBool true)), (1, (.fl (.slice none 0 0)))]) (Calm.build (qs := [(0, (eBool true))]) rfl ⟨rfl, rfl, rfl, trivial⟩ Try.underlying62 rfl zr62 lay62 (.cons rfl rfl rfl rfl (Put.cast (Put.fld0 Put.here) rfl) .nil) rfl) ?_
   refine AO.coeC 86 (y' := (e62 (S62.mk true []))) rfl (Coe.st Coe.refl (Coe.st Coe.nil Coe.refl)) ?_
   refine AO.store (X' := (e62 (S62.mk true []))) 0 rfl rfl rfl rfl rfl rfl (Put.cast Put.here rfl) rfl rfl sz62 rfl ?_
   refine AO.nK [4] ?_
   refine AW.rK [4] ?_
   have hr := Option.some.inj h
   subst hr
   exact ⟨[(e62 (S62.mk true []))], ⟨⟨_, 0, rfl, rfl, ag62, sz62⟩, trivial⟩, rfl⟩
theorem deriv_derive_spec {k : Nat} {p0 : (List S82)} {p1 : Int} {r : S62} (h : deriv_derive k p0 p1 = some r) : Spec Try.prog 58 [(.fz 5 (p0.map e82)), (eU8 p1)] (e62 r) := deriv_derive_spec' k k p0 p1 r h
end Go.Avl.T3
/- bosket/deriv.By; printed by avmain.py. -/
namespace Go.Avl.T3
open Go Go.RowKit Go.Proofs Go.Avl
set_option linter.unusedVariables false
set_option maxRecDepth 100000
set_option maxHeartbeats 4000000
attribute [local irreducible] AW AO AQ Spec SpecH Calm

def deriv_By (k : Nat) (p0 : (List S82)) (p1 : Int) : Option S62 :=
  (rex_Check k p0).bind fun t4 =>
  if t4 ≠ (0 : Int) then some ((S62.mk true []))
  else (deriv_derive k p0 p1).bind fun t6 =>
  some (t6)
theorem deriv_By_spec {k : Nat} {p0 : (List S82)} {p1 : Int} {r : S62} (h : deriv_By k p0 p1 = some r) : Spec Try.prog 43 [(.fz 5 (p0.map e82)), (eU8 p1)] (e62 r) := by
  rw [deriv_By.eq_1] at h
  refine Spec.intro (res := [.cell 4 62]) Try.func43 rfl rfl rfl (Nat.le_of_ble_eq_true rfl) ?_
  refine AW.sr ?_
  refine AO.alloc rfl 4 rfl (by decide) rfl zr62 lay62 fun n3 => ?_
  refine AO.nK [0, 1, 4] ?_
  refine AW.seq ?_
  refine AW.sr ?_
  refine AO.c (Calm.move rfl rfl) ?_
  obtain ⟨t4, et4, h⟩ := of_bind h
  refine AO.callS [(.fz 5 (p0.map e82))] (eI64 t4) 6 rfl (by decide) ok57 rfl rfl rfl ⟨rfl, rfl, trivial⟩ (rex_Check_spec et4) ?_
  refine AO.c (x := eBool (decide (t4 ≠ (0 : Int)))) (Calm.int rfl rfl rfl rfl) ?_
  refine AO.nK [0, 1, 4, 7] ?_
  rcases of_ite h with ⟨hc5, h⟩ | ⟨hc5, h⟩
  ·refine AW.condP _ rfl hc5 ?_
   refine AW.sr ?_
   refine AO.c (x := .st [(1, (eBool true)), (1, (.fl (.slice none 0 0)))]) (Calm.build (qs := [(0, (eBool true))]) rfl ⟨rfl, rfl, rfl, trivial⟩ Try.underlying62 rfl zr62 lay62 (.cons rfl rfl rfl rfl (Put.cast (Put.fld0 Put.here) rfl) .nil) rfl) ?_
   refine AO.coeC 8 (y' := (e62 (S62.mk true []))) rfl (Coe.st Coe.refl (Coe.st Coe.nil Coe.refl)) ?_
   refine AO.store (X' := (e62 (S62.mk true []))) 0 rfl rfl rfl rfl rfl rfl (Put.cast Put.here rfl) rfl rfl sz62 rfl ?_
   refine AO.nK [4] ?_
   refine AW.rK [4] ?_
   have hr := Option.some.inj h
   subst hr
   exact ⟨[(e62 (S62.mk true []))], ⟨⟨_, 0, rfl, rfl, ag62, sz62⟩, trivial⟩, rfl⟩
  ·refine AW.condN _ rfl hc5 ?_
   refine AW.sK [0, 1, 4] ?_
   refine AW.sr ?_
   refine AO.c (Calm.move rfl rfl) ?_
   refine AO.c (Calm.move rfl rfl) ?_
   obtain ⟨t6, et6, h⟩ := of_bind h
   refine AO.callS [(.fz 5 (p0.map e82)), (eU8 p1)] (e62 t6) 11 rfl (by decide) ok58 rfl rfl rfl ⟨rfl, rfl, rfl, rfl, trivial⟩ (deriv_derive_spec et6) ?_
   refine AO.store (X' := (e62 t6)) 0 rfl rfl rfl rfl rfl rfl (Put.cast Put.here rfl) rfl rfl sz62 rfl ?_
   refine AO.nK [4] ?_
   refine AW.rK [4] ?_
   have hr := Option.some.inj h
   subst hr
   exact ⟨[(e62 t6)], ⟨⟨_, 0, rfl, rfl, ag62, sz62⟩, trivial⟩, rfl⟩
end Go.Avl.T3
/- bosket/bosketref04.or; printed by avmain.py. -/
namespace Go.Avl.T3
open Go Go.RowKit Go.Proofs Go.Avl
set_option linter.unusedVariables false
set_option maxRecDepth 100000
set_option maxHeartbeats 4000000
attribute [local irreducible] AW AO AQ Spec SpecH Calm

def bosketref04_or_c0 (k : Nat) (x4 : (List Bool)) : Option (List Bool) :=
  some (x4)
def bosketref04_or_c1 (k : Nat) (rec8 : ((List Bool) → Int → Option (List Bool))) (x7 : Int) (x12 : (List Bool)) : Option (List Bool) :=
  rec8 x12 (w64 (x7 + (1 : Int)))
def bosketref04_or_l2 (k : Nat) (p0 : (List Bool)) (p1 : (List Bool)) : Nat → (List Bool) → Int → Option (List Bool)
  | 0, _, _ => none
  | j + 1, x6, x7 =>
    if x7 < (p0.length : Int) then if 0 ≤ x7 ∧ x7 < (p0.length : Int) then if (lget p0 x7) = true then if (x6 ++ ([true] : List Bool)).length * 1 ≤ 140737488355328 then bosketref04_or_c1 k (bosketref04_or_l2 k p0 p1 j) x7 (x6 ++ ([true] : List Bool))
    else none
    else if 0 ≤ x7 ∧ x7 < (p1.length : Int) then if (x6 ++ ([(lget p1 x7)] : List Bool)).length * 1 ≤ 140737488355328 then bosketref04_or_c1 k (bosketref04_or_l2 k p0 p1 j) x7 (x6 ++ ([(lget p1 x7)] : List Bool))
    else none
    else none
    else none
    else bosketref04_or_c0 k x6
def bosketref04_or (k : Nat) (p0 : (List Bool)) (p1 : (List Bool)) : Option (List Bool) :=
  bosketref04_or_l2 k p0 p1 k ([] : List Bool) (0 : Int)
theorem bosketref04_or_spec {k : Nat} {p0 : (List Bool)} {p1 : (List Bool)} {r : (List Bool)} (h : bosketref04_or k p0 p1 = some r) : Spec Try.prog 73 [(.fz 1 (p0.map eBool)), (.fz 1 (p1.map eBool))] (e25 r) := by
  rw [bosketref04_or.eq_1] at h
  refine Spec.intro (res := [.tmp 4]) Try.func73 rfl rfl rfl (Nat.le_of_ble_eq_true rfl) ?_
  refine AW.sr ?_
  refine AO.c (Calm.assign rfl rfl) ?_
  refine AO.nK [0, 1] ?_
  refine AW.sr ?_
  refine AO.c (Calm.assign rfl rfl) ?_
  refine AO.nK [0, 1, 5] ?_
  refine AW.seq_mid (fun ρ H => ∃ (n3 : Nat) (x4 : (List Bool)), ρ = [(5, (.own n3 0 x4.length))] ∧ H = [(n3, (.mem (.ar 1 (x4.map eBool))))] ∧ bosketref04_or_c0 k x4 = some r) ?_ ?_
  ·refine AW.sr ?_
   refine AO.c (Calm.assign rfl rfl) ?_
   refine AO.nK [0, 1, 5, 6] ?_
   refine AW.block ?_
   refine AW.nilOwn 5 1 rfl fun n22 => ?_
   refine AW.wK [0, 1, 5, 6] ?_
   refine AW.loop (fun kq ρ H => ∃ (n5 : Nat) (x6 : (List Bool)) (x7 : Int), ρ = [(0, (.fz 1 (p0.map eBool))), (1, (.fz 1 (p1.map eBool))), (5, (.own n5 0 x6.length)), (6, (eI64 x7))] ∧ H = [(n5, (.mem (.ar 1 (x6.map eBool))))] ∧ bosketref04_or_l2 k p0 p1 kq x6 x7 = some r) k ⟨n22, ([] : List Bool), (0 : Int), rfl, rfl, h⟩ ?_
   rintro kq9 _ _ ⟨n5, x6, x7, rfl, rfl, h⟩
   cases kq9 with
   | zero => rw [bosketref04_or_l2.eq_1] at h; cases h
   | succ kq9 =>
   rw [bosketref04_or_l2.eq_2] at h
   generalize hrec8 : bosketref04_or_l2 k p0 p1 kq9 = rec8 at h
   refine AW.seq ?_
   refine AW.sr ?_
   refine AO.c (Calm.move rfl rfl) ?_
   refine AO.c (Calm.move rfl rfl) ?_
   refine AO.c (Calm.lenL rfl rfl Try.underlying25) ?_
   refine AO.c (x := eBool (decide (x7 < (p0.length : Int)))) (Calm.int rfl rfl rfl rfl) ?_
   refine AO.nK [0, 1, 5, 6, 10] ?_
   rcases of_ite h with ⟨hc10, h⟩ | ⟨hc10, h⟩
   ·refine AW.condP _ rfl hc10 ?_
    refine AW.sK [0, 1, 5, 6] ?_
    refine AW.seq_mid (fun ρ H => ∃ (n11 : Nat) (x12 : (List Bool)), ρ = [(0, (.fz 1 (p0.map eBool))), (1, (.fz 1 (p1.map eBool))), (5, (.own n11 0 x12.length)), (6, (eI64 x7))] ∧ H = [(n11, (.mem (.ar 1 (x12.map eBool))))] ∧ bosketref04_or_c1 k rec8 x7 x12 = some r) ?_ ?_
    ·refine AW.block ?_
     refine AW.reg ?_
     refine AO.c (Calm.move rfl rfl) ?_
     refine AO.c (Calm.move rfl rfl) ?_
     refine AO.c (Calm.move rfl rfl) ?_
     obtain ⟨hg13, h⟩ := of_guard h
     refine AO.c (Calm.idxL (f := eBool) rfl rfl rfl hg13 Try.underlying25 sz4) ?_
     refine AO.c (Calm.loadRp rfl rfl ag4 sz4) ?_
     refine AO.c (Calm.move rfl rfl) ?_
     rcases of_ite h with ⟨hc14, h⟩ | ⟨hc14, h⟩
     ·refine AO.sF rfl rfl (bD hc14) ?_
      refine AO.sF rfl rfl (bD hc14) ?_
      refine AO.sF rfl rfl (bD hc14) ?_
      refine AO.sF rfl rfl (bD hc14) ?_
      refine AO.c (Calm.pickT rfl (bD hc14) rfl) ?_
      refine AO.lit (Z := (eBool false)) (xs := (([true] : List Bool).map eBool)) (qs := [(0, (eBool true))]) rfl 24 rfl (by decide) rfl ⟨rfl, rfl, rfl, trivial⟩ Try.underlying25 sz4 zr4 lay4 rfl (by decide) (litOK (z := 1) [(eBool true)] rfl ⟨⟨rfl, rfl⟩, trivial⟩) rfl fun n15 => ?_
      obtain ⟨hg17, h⟩ := of_guard h
      refine AO.appendL (l := x6) (m := ([true] : List Bool)) 1 25 rfl (by decide) rfl rfl rfl rfl rfl (Src.ownL (f := eBool) (l := ([true] : List Bool)) 0 rfl) Try.underlying25 Try.underlying25 sz4 by4 zr4 rfl hg17 (by decide) fun n16 => ?_
      refine AO.c (Calm.assign rfl rfl) ?_
      refine AO.nH [0, 1, 5, 6] (H' := [(n16, (.mem (.ar 1 ((x6 ++ ([true] : List Bool)).map eBool))))]) (Sub.cons 1 rfl (Sub.nil _)) ?_
      exact ⟨n16, (x6 ++ ([true] : List Bool)), rfl, rfl, h⟩
     ·refine AO.cG rfl rfl (bD (eq_false_of_ne_true hc14)) (Calm.move rfl rfl) ?_
      refine AO.cG rfl rfl (bD (eq_false_of_ne_true hc14)) (Calm.move rfl rfl) ?_
      obtain ⟨hg18, h⟩ := of_guard h
      refine AO.cG rfl rfl (bD (eq_false_of_ne_true hc14)) (Calm.idxL (f := eBool) rfl rfl rfl hg18 Try.underlying25 sz4) ?_
      refine AO.cG rfl rfl (bD (eq_false_of_ne_true hc14)) (Calm.loadRp rfl rfl ag4 sz4) ?_
      refine AO.c (Calm.pickF rfl (bD (eq_false_of_ne_true hc14)) rfl) ?_
      refine AO.lit (Z := (eBool false)) (xs := (([(lget p1 x7)] : List Bool).map eBool)) (qs := [(0, (eBool (lget p1 x7)))]) rfl 24 rfl (by decide) rfl ⟨rfl, rfl, rfl, trivial⟩ Try.underlying25 sz4 zr4 lay4 rfl (by decide) (litOK (z := 1) [(eBool (lget p1 x7))] rfl ⟨⟨rfl, rfl⟩, trivial⟩) rfl fun n19 => ?_
      obtain ⟨hg21, h⟩ := of_guard h
      refine AO.appendL (l := x6) (m := ([(lget p1 x7)] : List Bool)) 1 25 rfl (by decide) rfl rfl rfl rfl rfl (Src.ownL (f := eBool) (l := ([(lget p1 x7)] : List Bool)) 0 rfl) Try.underlying25 Try.underlying25 sz4 by4 zr4 rfl hg21 (by decide) fun n20 => ?_
      refine AO.c (Calm.assign rfl rfl) ?_
      refine AO.nH [0, 1, 5, 6] (H' := [(n20, (.mem (.ar 1 ((x6 ++ ([(lget p1 x7)] : List Bool)).map eBool))))]) (Sub.cons 1 rfl (Sub.nil _)) ?_
      exact ⟨n20, (x6 ++ ([(lget p1 x7)] : List Bool)), rfl, rfl, h⟩
    ·rintro _ _ ⟨n11, x12, rfl, rfl, h⟩
     rw [bosketref04_or_c1.eq_1] at h
     refine AW.reg ?_
     refine AO.c (Calm.move rfl rfl) ?_
     refine AO.c (x := eI64 (w64 (x7 + (1 : Int)))) (Calm.int rfl rfl rfl rfl) ?_
     refine AO.c (Calm.assign rfl rfl) ?_
     refine AO.nK [0, 1, 5, 6] ?_
     exact ⟨kq9, Nat.lt_succ_self _, n11, x12, (w64 (x7 + (1 : Int))), rfl, rfl, by rw [hrec8]; exact h⟩
   ·refine AW.condN _ rfl hc10 ?_
    refine AW.eK [5] ?_
    exact ⟨n5, x6, rfl, rfl, h⟩
  ·rintro _ _ ⟨n3, x4, rfl, rfl, h⟩
   rw [bosketref04_or_c0.eq_1] at h
   refine AW.sr ?_
   refine AO.c (Calm.move rfl rfl) ?_
   refine AO.c (Calm.assign rfl rfl) ?_
   refine AO.nK [4] ?_
   refine AW.freezeS 0 [(4, (.fz 1 (x4.map eBool)))] rfl ⟨fz_all rfl, trivial⟩ ?_
   refine AW.rK [4] ?_
   have hr := Option.some.inj h
   subst hr
   exact ⟨[(.fz 1 (x4.map eBool))], ⟨rfl, rfl, trivial⟩, rfl⟩
end Go.Avl.T3
/- bosket/bosketref04.ends, bosket/bosketref04.again; printed by avmain.py. -/
namespace Go.Avl.T3
open Go Go.RowKit Go.Proofs Go.Avl
set_option linter.unusedVariables false
set_option maxRecDepth 100000
set_option maxHeartbeats 4000000
set_option linter.unusedSimpArgs false
attribute [local irreducible] AW AO AQ Spec SpecH Calm

def bosketref04_ends_c0 (k : Nat) (self60 : ((List S82) → ByteArray → (List Bool) → Option (List Bool))) (self74 : ((List S82) → ByteArray → (List Bool) → Option (List Bool))) (p0 : (List S82)) (p1 : ByteArray) (p2 : (List Bool)) (t6 : (List (List S82))) : Option (List Bool) :=
  if 0 ≤ (w64 ((p0.length : Int) - (1 : Int))) ∧ (w64 ((p0.length : Int) - (1 : Int))) < (p0.length : Int) then if ((lget p0 (w64 ((p0.length : Int) - (1 : Int)))).f0) = (4 : Int) then if 0 ≤ (0 : Int) ∧ (0 : Int) < (t6.length : Int) then (self74 (lget t6 (0 : Int)) p1 p2).bind fun t10 =>
  some (t10)
  else none
  else if 0 ≤ (0 : Int) ∧ (0 : Int) < (t6.length : Int) then if 0 ≤ (0 : Int) ∧ (0 : Int) < (t6.length : Int) then (self60 (lget t6 (0 : Int)) p1 p2).bind fun t13 =>
  (self74 (lget t6 (0 : Int)) p1 t13).bind fun t14 =>
  some (t14)
  else none
  else none
  else none
def bosketref04_ends_c1 (k : Nat) (x18 : (List Bool)) : Option (List Bool) :=
  some (x18)
def bosketref04_ends_c2 (k : Nat) (rec21 : ((List Bool) → Int → Option (List Bool))) (x20 : Int) (x24 : (List Bool)) : Option (List Bool) :=
  rec21 x24 (w64 (x20 + (1 : Int)))
def bosketref04_ends_l3 (k : Nat) (p0 : (List S82)) (p1 : ByteArray) (p2 : (List Bool)) : Nat → (List Bool) → Int → Option (List Bool)
  | 0, _, _ => none
  | j + 1, x19, x20 =>
    if x20 < (p1.size : Int) then if 0 ≤ x20 ∧ x20 < (p2.length : Int) then if (lget p2 x20) = true then if 0 ≤ (w64 ((p0.length : Int) - (1 : Int))) ∧ (w64 ((p0.length : Int) - (1 : Int))) < (p0.length : Int) then if 0 ≤ x20 ∧ x20 < (p1.size : Int) then (bosketref02_Has k ((lget p0 (w64 ((p0.length : Int) - (1 : Int)))).f1) (w64 (byteAt p1 x20))).bind fun t29 =>
    if 0 ≤ (w64 (x20 + (1 : Int))) ∧ (w64 (x20 + (1 : Int))) < (x19.length : Int) then bosketref04_ends_c2 k (bosketref04_ends_l3 k p0 p1 p2 j) x20 (lset x19 (w64 (x20 + (1 : Int))) t29)
    else none
    else none
    else none
    else if 0 ≤ (w64 (x20 + (1 : Int))) ∧ (w64 (x20 + (1 : Int))) < (x19.length : Int) then bosketref04_ends_c2 k (bosketref04_ends_l3 k p0 p1 p2 j) x20 (lset x19 (w64 (x20 + (1 : Int))) false)
    else none
    else none
    else bosketref04_ends_c1 k x19
def bosketref04_again_c0 (k : Nat) (x4 : (List Bool)) : Option (List Bool) :=
  some (x4)
def bosketref04_again_c1 (k : Nat) (rec7 : ((List Bool) → Int → Option (List Bool))) (x6 : Int) (x10 : (List Bool)) : Option (List Bool) :=
  rec7 x10 (w64 (x6 + (1 : Int)))
def bosketref04_again_c2 (k : Nat) (rec7 : ((List Bool) → Int → Option (List Bool))) (x6 : Int) (t12 : (List Bool)) (b13 : Bool) : Option (List Bool) :=
  if b13 = true then some (t12)
  else bosketref04_again_c1 k rec7 x6 t12
def bosketref04_again_l3 (k : Nat) (rec7 : ((List Bool) → Int → Option (List Bool))) (x5 : (List Bool)) (x6 : Int) (t12 : (List Bool)) : Nat → Bool → Int → Option (List Bool)
  | 0, _, _ => none
  | j + 1, b15, x16 =>
    if x16 < (t12.length : Int) then Option.bind (α := Bool) (if b15 = true then if 0 ≤ x16 ∧ x16 < (t12.length : Int) then if 0 ≤ x16 ∧ x16 < (x5.length : Int) then some (((lget t12 x16) == (lget x5 x16)))
    else none
    else none
    else some (false)) fun b20 =>
    (bosketref04_again_l3 k rec7 x5 x6 t12 j) b20 (w64 (x16 + (1 : Int)))
    else bosketref04_again_c2 k rec7 x6 t12 b15
def bosketref04_again_l4 (k : Nat) (self60 : ((List S82) → ByteArray → (List Bool) → Option (List Bool))) (p0 : (List S82)) (p1 : ByteArray) : Nat → (List Bool) → Int → Option (List Bool)
  | 0, _, _ => none
  | j + 1, x5, x6 =>
    if x6 ≤ (p1.size : Int) then (self60 p0 p1 x5).bind fun t11 =>
    (bosketref04_or k x5 t11).bind fun t12 =>
    bosketref04_again_l3 k (bosketref04_again_l4 k self60 p0 p1 j) x5 x6 t12 k true (0 : Int)
    else bosketref04_again_c0 k x5
mutual
def bosketref04_ends_r (k : Nat) : Nat → (List S82) → ByteArray → (List Bool) → Option (List Bool)
  | 0, _, _, _ => none
  | j + 1, p0, p1, p2 =>
    if 0 ≤ (p2.length : Int) ∧ (p2.length : Int) * (1 : Int) ≤ 140737488355328 ∧ (p2.length : Int) ≤ 9223372036854775807 then (bosketref04_Parts k p0).bind fun t6 =>
    if 0 ≤ (w64 ((p0.length : Int) - (1 : Int))) ∧ (w64 ((p0.length : Int) - (1 : Int))) < (p0.length : Int) then if ((lget p0 (w64 ((p0.length : Int) - (1 : Int)))).f0) = (0 : Int) then some (p2)
    else if ((lget p0 (w64 ((p0.length : Int) - (1 : Int)))).f0) = (1 : Int) then bosketref04_ends_l3 k p0 p1 p2 k (List.replicate (p2.length : Int).toNat false) (0 : Int)
    else if ((lget p0 (w64 ((p0.length : Int) - (1 : Int)))).f0) = (2 : Int) then if 0 ≤ (1 : Int) ∧ (1 : Int) < (t6.length : Int) then if 0 ≤ (0 : Int) ∧ (0 : Int) < (t6.length : Int) then ((bosketref04_ends_r k j) (lget t6 (0 : Int)) p1 p2).bind fun t35 =>
    ((bosketref04_ends_r k j) (lget t6 (1 : Int)) p1 t35).bind fun t36 =>
    some (t36)
    else none
    else none
    else if ((lget p0 (w64 ((p0.length : Int) - (1 : Int)))).f0) = (3 : Int) then if 0 ≤ (0 : Int) ∧ (0 : Int) < (t6.length : Int) then ((bosketref04_ends_r k j) (lget t6 (0 : Int)) p1 p2).bind fun t39 =>
    if 0 ≤ (1 : Int) ∧ (1 : Int) < (t6.length : Int) then ((bosketref04_ends_r k j) (lget t6 (1 : Int)) p1 p2).bind fun t41 =>
    (bosketref04_or k t39 t41).bind fun t42 =>
    some (t42)
    else none
    else none
    else if ((lget p0 (w64 ((p0.length : Int) - (1 : Int)))).f0) = (6 : Int) then if 0 ≤ (0 : Int) ∧ (0 : Int) < (t6.length : Int) then ((bosketref04_ends_r k j) (lget t6 (0 : Int)) p1 p2).bind fun t45 =>
    (bosketref04_or k p2 t45).bind fun t46 =>
    some (t46)
    else none
    else bosketref04_ends_c0 k (bosketref04_ends_r k j) (bosketref04_again_r k j) p0 p1 p2 t6
    else none
    else none
def bosketref04_again_r (k : Nat) : Nat → (List S82) → ByteArray → (List Bool) → Option (List Bool)
  | 0, _, _, _ => none
  | j + 1, p0, p1, p2 =>
    bosketref04_again_l4 k (bosketref04_ends_r k j) p0 p1 k p2 (0 : Int)
end
def bosketref04_ends (k : Nat) (p0 : (List S82)) (p1 : ByteArray) (p2 : (List Bool)) : Option (List Bool) := bosketref04_ends_r k k p0 p1 p2
theorem bosketref04_ends_all (k : Nat) : ∀ j : Nat, (∀ (p0 : (List S82)) (p1 : ByteArray) (p2 : (List Bool)) (r : (List Bool)), bosketref04_ends_r k j p0 p1 p2 = some r → Spec Try.prog 60 [(.fz 5 (p0.map e82)), (eStr p1), (.fz 1 (p2.map eBool))] (e25 r)) ∧ (∀ (p0 : (List S82)) (p1 : ByteArray) (p2 : (List Bool)) (r : (List Bool)), bosketref04_again_r k j p0 p1 p2 = some r → Spec Try.prog 74 [(.fz 5 (p0.map e82)), (eStr p1), (.fz 1 (p2.map eBool))] (e25 r)) := by
  intro j
  induction j with
  | zero => exact ⟨(by intro p0 p1 p2 r h; rw [bosketref04_ends_r.eq_1] at h; cases h), (by intro p0 p1 p2 r h; rw [bosketref04_again_r.eq_1] at h; cases h)⟩
  | succ j hself =>
  obtain ⟨hself60, hself74⟩ := hself
  refine ⟨?_, ?_⟩
  ·intro p0 p1 p2 r h
   rw [bosketref04_ends_r.eq_2] at h
   generalize hsself60 : bosketref04_ends_r k j = self60 at h hself60
   generalize hsself74 : bosketref04_again_r k j = self74 at h hself74
   refine Spec.intro (res := [.tmp 6]) Try.func60 rfl rfl rfl (Nat.le_of_ble_eq_true rfl) ?_
   refine AW.sr ?_
   refine AO.c (Calm.assign rfl rfl) ?_
   refine AO.nK [0, 1, 2] ?_
   refine AW.sr ?_
   refine AO.c (Calm.move rfl rfl) ?_
   refine AO.c (Calm.lenL rfl rfl Try.underlying25) ?_
   obtain ⟨hg5, h⟩ := of_guard h
   refine AO.makeL (f := eBool) false rfl 12 rfl (by decide) rfl rfl rfl Try.underlying25 sz4 by4 zr4 lay4 rfl hg5 fun n4 => ?_
   refine AO.c (Calm.assign rfl rfl) ?_
   refine AO.nK [0, 1, 2, 7] ?_
   refine AW.sr ?_
   refine AO.c (Calm.move rfl rfl) ?_
   obtain ⟨t6, et6, h⟩ := of_bind h
   refine AO.callS [(.fz 5 (p0.map e82))] (.fz 1 (t6.map e58)) 14 rfl (by decide) ok62 rfl rfl rfl ⟨rfl, rfl, trivial⟩ (bosketref04_Parts_spec et6) ?_
   refine AO.c (Calm.assign rfl rfl) ?_
   refine AO.nK [0, 1, 2, 7, 8] ?_
   refine AW.seq_mid (fun ρ H => ρ = [(0, (.fz 5 (p0.map e82))), (1, (eStr p1)), (2, (.fz 1 (p2.map eBool))), (8, (.fz 1 (t6.map e58)))] ∧ H = [] ∧ bosketref04_ends_c0 k self60 self74 p0 p1 p2 t6 = some r) ?_ ?_
   ·refine AW.sr ?_
    refine AO.c (Calm.move rfl rfl) ?_
    refine AO.c (Calm.move rfl rfl) ?_
    refine AO.c (Calm.lenL rfl rfl Try.underlying58) ?_
    refine AO.c (x := eI64 (w64 ((p0.length : Int) - (1 : Int)))) (Calm.int rfl rfl rfl rfl) ?_
    obtain ⟨hg15, h⟩ := of_guard h
    refine AO.c (Calm.idxL (f := e82) rfl rfl rfl hg15 Try.underlying58 sz82) ?_
    refine AO.c (Calm.fldRp rfl rfl Try.underlying82 rfl sz3 (At.cast (At.fld0 At.here) rfl)) ?_
    refine AO.c (Calm.loadRp rfl rfl ag3 sz3) ?_
    refine AO.nK [0, 1, 2, 7, 8, 21] ?_
    refine AW.block ?_
    refine AW.sr ?_
    refine AO.c (x := eBool (decide (((lget p0 (w64 ((p0.length : Int) - (1 : Int)))).f0) = (0 : Int)))) (Calm.int rfl rfl rfl rfl) ?_
    refine AO.c (Calm.assign rfl rfl) ?_
    refine AO.nK [0, 1, 2, 7, 8, 21, 22] ?_
    rcases of_ite h with ⟨hc16, h⟩ | ⟨hc16, h⟩
    ·refine AW.condP _ rfl hc16 ?_
     refine AW.sr ?_
     refine AO.c (Calm.move rfl rfl) ?_
     refine AO.c (Calm.assign rfl rfl) ?_
     refine AO.nH [6] (H' := []) (Sub.nil _) ?_
     refine AW.rK [6] ?_
     have hr := Option.some.inj h
     subst hr
     exact ⟨[(.fz 1 (p2.map eBool))], ⟨rfl, rfl, trivial⟩, rfl⟩
    ·refine AW.condN _ rfl hc16 ?_
     refine AW.sr ?_
     refine AO.c (x := eBool (decide (((lget p0 (w64 ((p0.length : Int) - (1 : Int)))).f0) = (1 : Int)))) (Calm.int rfl rfl rfl rfl) ?_
     refine AO.c (Calm.assign rfl rfl) ?_
     refine AO.nK [0, 1, 2, 7, 8, 21, 25] ?_
     rcases of_ite h with ⟨hc17, h⟩ | ⟨hc17, h⟩
     ·refine AW.condP _ rfl hc17 ?_
      refine AW.seq_mid (fun ρ H => ∃ (x18 : (List Bool)), ρ = [(7, (.own n4 0 x18.length))] ∧ H = [(n4, (.mem (.ar 1 (x18.map eBool))))] ∧ bosketref04_ends_c1 k x18 = some r) ?_ ?_
      ·refine AW.sr ?_
       refine AO.c (Calm.assign rfl rfl) ?_
       refine AO.nK [0, 1, 2, 7, 9] ?_
       refine AW.block ?_
       refine AW.wK [0, 1, 2, 7, 9] ?_
       refine AW.loop (fun kq ρ H => ∃ (x19 : (List Bool)) (x20 : Int), ρ = [(0, (.fz 5 (p0.map e82))), (1, (eStr p1)), (2, (.fz 1 (p2.map eBool))), (7, (.own n4 0 x19.length)), (9, (eI64 x20))] ∧ H = [(n4, (.mem (.ar 1 (x19.map eBool))))] ∧ bosketref04_ends_l3 k p0 p1 p2 kq x19 x20 = some r) k ⟨(List.replicate (p2.length : Int).toNat false), (0 : Int), rfl, rfl, h⟩ ?_
       rintro kq22 _ _ ⟨x19, x20, rfl, rfl, h⟩
       cases kq22 with
       | zero => rw [bosketref04_ends_l3.eq_1] at h; cases h
       | succ kq22 =>
       rw [bosketref04_ends_l3.eq_2] at h
       generalize hrec21 : bosketref04_ends_l3 k p0 p1 p2 kq22 = rec21 at h
       refine AW.seq ?_
       refine AW.sr ?_
       refine AO.c (Calm.move rfl rfl) ?_
       refine AO.c (Calm.move rfl rfl) ?_
       refine AO.c (Calm.lenStr rfl rfl Try.underlying9) ?_
       refine AO.c (x := eBool (decide (x20 < (p1.size : Int)))) (Calm.int rfl rfl rfl rfl) ?_
       refine AO.nK [0, 1, 2, 7, 9, 30] ?_
       rcases of_ite h with ⟨hc23, h⟩ | ⟨hc23, h⟩
       ·refine AW.condP _ rfl hc23 ?_
        refine AW.sK [0, 1, 2, 7, 9] ?_
        refine AW.seq_mid (fun ρ H => ∃ (x24 : (List Bool)), ρ = [(0, (.fz 5 (p0.map e82))), (1, (eStr p1)), (2, (.fz 1 (p2.map eBool))), (7, (.own n4 0 x24.length)), (9, (eI64 x20))] ∧ H = [(n4, (.mem (.ar 1 (x24.map eBool))))] ∧ bosketref04_ends_c2 k rec21 x20 x24 = some r) ?_ ?_
        ·refine AW.block ?_
         obtain ⟨hg25, h⟩ := of_guard h
         rcases of_ite h with ⟨hc26, h⟩ | ⟨hc26, h⟩
         ·obtain ⟨hg27, h⟩ := of_guard h
          obtain ⟨hg28, h⟩ := of_guard h
          obtain ⟨t29, et29, h⟩ := of_bind h
          obtain ⟨hg30, h⟩ := of_guard h
          refine AW.regEff (by rfl) (by decide +kernel) (fun (σ : Nat → Nat) => ([(.own n4 0 x19.length), (eI64 x20), (eI64 (w64 (x20 + (1 : Int)))), (.fz 1 (p2.map eBool)), (eI64 x20), (.rp (eBool (lget p2 x20))), (eBool (lget p2 x20)), (eBool (lget p2 x20)), (.fz 5 (p0.map e82)), (.fz 5 (p0.map e82)), (eI64 (p0.length : Int)), (eI64 (w64 ((p0.length : Int) - (1 : Int)))), (.rp (e82 (lget p0 (w64 ((p0.length : Int) - (1 : Int)))))), (.rp (.ar 1 (((lget p0 (w64 ((p0.length : Int) - (1 : Int)))).f1).toList.map eU64))), (.ar 1 (((lget p0 (w64 ((p0.length : Int) - (1 : Int)))).f1).toList.map eU64)), (eStr p1), (eI64 x20), (eU8 (byteAt p1 x20)), (eI64 (w64 (byteAt p1 x20))), (eBool t29), (eBool t29), (.ptr n4 ((w64 (x20 + (1 : Int))).toNat * 1 + 0)), (.fl undef)] : List AV)) (fun (L : Nat → Bool) (σ : Nat → Nat) => ((bif L 22 then ((n4, (.mem (.ar 1 ((lset x19 (w64 (x20 + (1 : Int))) t29).map eBool)))) :: []) else ((n4, (.mem (.ar 1 (x19.map eBool)))) :: [])) : Heap)) [(0, (.fz 5 (p0.map e82))), (1, (eStr p1)), (2, (.fz 1 (p2.map eBool))), (7, (.own n4 0 x19.length)), (9, (eI64 x20))] ⟨rfl, rfl, rfl, rfl, rfl, trivial⟩ (fun _ => rfl) (fun σ => (Sub.refl _)) ⟨?_, ?_, ?_, ?_, ?_, ?_, ?_, ?_, ?_, ?_, ?_, ?_, ?_, ?_, ?_, ?_, ?_, ?_, ?_, ?_, ?_, ?_, ?_, trivial⟩ (fun σ => [(0, (.fz 5 (p0.map e82))), (1, (eStr p1)), (2, (.fz 1 (p2.map eBool))), (7, (.own n4 0 x19.length)), (9, (eI64 x20))]) (fun σ => ((n4, (.mem (.ar 1 ((lset x19 (w64 (x20 + (1 : Int))) t29).map eBool)))) :: [])) (fun σ => ⟨rfl, rfl, rfl, rfl, rfl, trivial⟩) (fun σ => Sub.refl _) (fun σ => ?_)
          ·refine StepE.calm (fun _ _ => rfl) fun L σ hc hi hd => ?_
           have m22 : L 22 = false := hc.neg (i := 0) (j := 22) rfl (by rfl) hi
           refine AO.heq (H' := ((n4, (.mem (.ar 1 (x19.map eBool)))) :: [])) (by first | rfl | simp only [m22, cond_true, cond_false]) ?_
           refine AO.wK [7] ?_
           refine AO.c (Calm.move rfl rfl) ?_
           exact AO.nE (d := 33) rfl ⟨⟨33, _, rfl, rfl, rfl⟩, Sub.of_eq (by first | rfl | simp only [m22, cond_true, cond_false]) (Sub.refl _)⟩
          ·refine StepE.calm (fun _ _ => rfl) fun L σ hc hi hd => ?_
           refine AO.wK [9] ?_
           refine AO.c (Calm.move rfl rfl) ?_
           exact AO.nE (d := 34) rfl ⟨⟨34, _, rfl, rfl, rfl⟩, Sub.refl _⟩
          ·refine StepE.calm (fun _ _ => rfl) fun L σ hc hi hd => ?_
           refine AO.wK [34] ?_
           refine AO.c (x := eI64 (w64 (x20 + (1 : Int)))) (Calm.int rfl rfl rfl rfl) ?_
           exact AO.nE (d := 35) rfl ⟨⟨35, _, rfl, rfl, rfl⟩, Sub.refl _⟩
          ·refine StepE.calm (fun _ _ => rfl) fun L σ hc hi hd => ?_
           refine AO.wK [2] ?_
           refine AO.c (Calm.move rfl rfl) ?_
           exact AO.nE (d := 36) rfl ⟨⟨36, _, rfl, rfl, rfl⟩, Sub.refl _⟩
          ·refine StepE.calm (fun _ _ => rfl) fun L σ hc hi hd => ?_
           refine AO.wK [9] ?_
           refine AO.c (Calm.move rfl rfl) ?_
           exact AO.nE (d := 37) rfl ⟨⟨37, _, rfl, rfl, rfl⟩, Sub.refl _⟩
          ·refine StepE.calm (fun _ _ => rfl) fun L σ hc hi hd => ?_
           refine AO.wK [36, 37] ?_
           refine AO.c (Calm.idxL (f := eBool) rfl rfl rfl hg25 Try.underlying25 sz4) ?_
           exact AO.nE (d := 38) rfl ⟨⟨38, _, rfl, rfl, rfl⟩, Sub.refl _⟩
          ·refine StepE.calm (fun _ _ => rfl) fun L σ hc hi hd => ?_
           refine AO.wK [38] ?_
           refine AO.c (Calm.loadRp rfl rfl ag4 sz4) ?_
           exact AO.nE (d := 39) rfl ⟨⟨39, _, rfl, rfl, rfl⟩, Sub.refl _⟩
          ·refine StepE.calm (fun _ _ => rfl) fun L σ hc hi hd => ?_
           refine AO.wK [39] ?_
           refine AO.c (Calm.move rfl rfl) ?_
           exact AO.nE (d := 40) rfl ⟨⟨40, _, rfl, rfl, rfl⟩, Sub.refl _⟩
          ·refine StepE.calm (fun _ _ => rfl) fun L σ hc hi hd => ?_
           refine AO.wK [0, 40] ?_
           refine AO.cG rfl rfl (bD hc26) (Calm.move rfl rfl) ?_
           exact AO.nE (d := 41) rfl ⟨⟨41, _, rfl, rfl, rfl⟩, Sub.refl _⟩
          ·refine StepE.calm (fun _ _ => rfl) fun L σ hc hi hd => ?_
           refine AO.wK [0, 40] ?_
           refine AO.cG rfl rfl (bD hc26) (Calm.move rfl rfl) ?_
           exact AO.nE (d := 42) rfl ⟨⟨42, _, rfl, rfl, rfl⟩, Sub.refl _⟩
          ·refine StepE.calm (fun _ _ => rfl) fun L σ hc hi hd => ?_
           refine AO.wK [40, 42] ?_
           refine AO.cG rfl rfl (bD hc26) (Calm.lenL rfl rfl Try.underlying58) ?_
           exact AO.nE (d := 43) rfl ⟨⟨43, _, rfl, rfl, rfl⟩, Sub.refl _⟩
          ·refine StepE.calm (fun _ _ => rfl) fun L σ hc hi hd => ?_
           refine AO.wK [40, 43] ?_
           refine AO.cG (x := eI64 (w64 ((p0.length : Int) - (1 : Int)))) rfl rfl (bD hc26) (Calm.int rfl rfl rfl rfl) ?_
           exact AO.nE (d := 44) rfl ⟨⟨44, _, rfl, rfl, rfl⟩, Sub.refl _⟩
          ·refine StepE.calm (fun _ _ => rfl) fun L σ hc hi hd => ?_
           refine AO.wK [40, 41, 44] ?_
           refine AO.cG rfl rfl (bD hc26) (Calm.idxL (f := e82) rfl rfl rfl hg27 Try.underlying58 sz82) ?_
           exact AO.nE (d := 45) rfl ⟨⟨45, _, rfl, rfl, rfl⟩, Sub.refl _⟩
          ·refine StepE.calm (fun _ _ => rfl) fun L σ hc hi hd => ?_
           refine AO.wK [40, 45] ?_
           refine AO.cG rfl rfl (bD hc26) (Calm.fldRp rfl rfl Try.underlying82 rfl sz33 (At.cast (At.fldS (At.fld0 At.here)) rfl)) ?_
           exact AO.nE (d := 46) rfl ⟨⟨46, _, rfl, rfl, rfl⟩, Sub.refl _⟩
          ·refine StepE.calm (fun _ _ => rfl) fun L σ hc hi hd => ?_
           refine AO.wK [40, 46] ?_
           refine AO.cG rfl rfl (bD hc26) (Calm.loadRp rfl rfl ag33 (by rw [sz33]; simp [AV.size])) ?_
           exact AO.nE (d := 47) rfl ⟨⟨47, _, rfl, rfl, rfl⟩, Sub.refl _⟩
          ·refine StepE.calm (fun _ _ => rfl) fun L σ hc hi hd => ?_
           refine AO.wK [1, 40] ?_
           refine AO.cG rfl rfl (bD hc26) (Calm.move rfl rfl) ?_
           exact AO.nE (d := 48) rfl ⟨⟨48, _, rfl, rfl, rfl⟩, Sub.refl _⟩
          ·refine StepE.calm (fun _ _ => rfl) fun L σ hc hi hd => ?_
           refine AO.wK [9, 40] ?_
           refine AO.cG rfl rfl (bD hc26) (Calm.move rfl rfl) ?_
           exact AO.nE (d := 49) rfl ⟨⟨49, _, rfl, rfl, rfl⟩, Sub.refl _⟩
          ·refine StepE.calm (fun _ _ => rfl) fun L σ hc hi hd => ?_
           refine AO.wK [40, 48, 49] ?_
           refine AO.cG (x := eU8 (byteAt p1 x20)) rfl rfl (bD hc26) (Calm.idxS rfl rfl rfl hg28 Try.underlying9) ?_
           exact AO.nE (d := 50) rfl ⟨⟨50, _, rfl, rfl, rfl⟩, Sub.refl _⟩
          ·refine StepE.calm (fun _ _ => rfl) fun L σ hc hi hd => ?_
           refine AO.wK [40, 50] ?_
           refine AO.cG (x := eI64 (w64 (byteAt p1 x20))) rfl rfl (bD hc26) (Calm.conv rfl rfl Try.underlying5 Try.underlying3) ?_
           exact AO.nE (d := 51) rfl ⟨⟨51, _, rfl, rfl, rfl⟩, Sub.refl _⟩
          ·refine StepE.calm (fun _ _ => rfl) fun L σ hc hi hd => ?_
           refine AO.wK [40, 47, 51] ?_
           refine AO.callG 7 true 40 [(.ar 1 (((lget p0 (w64 ((p0.length : Int) - (1 : Int)))).f1).toList.map eU64)), (eI64 (w64 (byteAt p1 x20)))] (eBool t29) 52 rfl (by decide) ok44 rfl rfl (bD hc26) rfl rfl ⟨rfl, rfl, rfl, rfl, trivial⟩ (bosketref02_Has_spec et29) ?_
           exact AO.nE (d := 52) rfl ⟨⟨52, _, rfl, rfl, rfl⟩, Sub.refl _⟩
          ·refine StepE.calm (fun _ _ => rfl) fun L σ hc hi hd => ?_
           refine AO.wK [40, 52] ?_
           refine AO.c (Calm.pickT rfl (bD hc26) rfl) ?_
           exact AO.nE (d := 53) rfl ⟨⟨53, _, rfl, rfl, rfl⟩, Sub.refl _⟩
          ·refine StepE.calm (fun _ _ => rfl) fun L σ hc hi hd => ?_
           have m22 : L 22 = false := hc.neg (i := 21) (j := 22) rfl (by rfl) hi
           refine AO.heq (H' := ((n4, (.mem (.ar 1 (x19.map eBool)))) :: [])) (by first | rfl | simp only [m22, cond_true, cond_false]) ?_
           refine AO.wK [33, 35] ?_
           refine AO.c (Calm.idxO 0 rfl rfl rfl rfl hg30 Try.underlying25 sz4) ?_
           exact AO.nE (d := 54) rfl ⟨⟨54, _, rfl, rfl, rfl⟩, Sub.of_eq (by first | rfl | simp only [m22, cond_true, cond_false]) (Sub.refl _)⟩
          ·intro L σ hc hi hd
           refine AO.heq (H' := ((n4, (.mem (.ar 1 (x19.map eBool)))) :: [])) (by first | rfl | simp only [hi, cond_true, cond_false]) ?_
           refine AO.wK [53, 54] ?_
           refine AO.store (X' := (.ar 1 ((lset x19 (w64 (x20 + (1 : Int))) t29).map eBool))) 0 rfl rfl rfl rfl rfl rfl (Put.cast (Put.lidx (w64 (x20 + (1 : Int))) t29 hg30.1 hg30.2 Put.here) (by omega)) rfl rfl sz4 rfl ?_
           have a22 : addL L 22 22 = true := rfl
           exact AO.n0 ⟨σ, (fun _ _ => rfl), (fun d' hd' => by cases hd'), Sub.of_eq (B := ((n4, (.mem (.ar 1 ((lset x19 (w64 (x20 + (1 : Int))) t29).map eBool)))) :: [])) (by simp only [a22, cond_true, cond_false]) (Sub.refl _)⟩
          ·refine AO.coe 7 (y' := (.own n4 0 (lset x19 (w64 (x20 + (1 : Int))) t29).length)) rfl (fun _ _ h => own_len (by simp [lset, lcopy_len]) h) ?_
           refine AO.nK [0, 1, 2, 7, 9] ?_
           exact ⟨(lset x19 (w64 (x20 + (1 : Int))) t29), rfl, rfl, h⟩
         ·obtain ⟨hg31, h⟩ := of_guard h
          refine AW.regEff (by rfl) (by decide +kernel) (fun (σ : Nat → Nat) => ([(.own n4 0 x19.length), (eI64 x20), (eI64 (w64 (x20 + (1 : Int)))), (.fz 1 (p2.map eBool)), (eI64 x20), (.rp (eBool (lget p2 x20))), (eBool (lget p2 x20)), (eBool (lget p2 x20)), (.fl undef), (.fl undef), (.fl undef), (.fl undef), (.fl undef), (.fl undef), (.fl undef), (.fl undef), (.fl undef), (.fl undef), (.fl undef), (.fl undef), (eBool false), (.ptr n4 ((w64 (x20 + (1 : Int))).toNat * 1 + 0)), (.fl undef)] : List AV)) (fun (L : Nat → Bool) (σ : Nat → Nat) => ((bif L 22 then ((n4, (.mem (.ar 1 ((lset x19 (w64 (x20 + (1 : Int))) false).map eBool)))) :: []) else ((n4, (.mem (.ar 1 (x19.map eBool)))) :: [])) : Heap)) [(0, (.fz 5 (p0.map e82))), (1, (eStr p1)), (2, (.fz 1 (p2.map eBool))), (7, (.own n4 0 x19.length)), (9, (eI64 x20))] ⟨rfl, rfl, rfl, rfl, rfl, trivial⟩ (fun _ => rfl) (fun σ => (Sub.refl _)) ⟨?_, ?_, ?_, ?_, ?_, ?_, ?_, ?_, ?_, ?_, ?_, ?_, ?_, ?_, ?_, ?_, ?_, ?_, ?_, ?_, ?_, ?_, ?_, trivial⟩ (fun σ => [(0, (.fz 5 (p0.map e82))), (1, (eStr p1)), (2, (.fz 1 (p2.map eBool))), (7, (.own n4 0 x19.length)), (9, (eI64 x20))]) (fun σ => ((n4, (.mem (.ar 1 ((lset x19 (w64 (x20 + (1 : Int))) false).map eBool)))) :: [])) (fun σ => ⟨rfl, rfl, rfl, rfl, rfl, trivial⟩) (fun σ => Sub.refl _) (fun σ => ?_)
          ·refine StepE.calm (fun _ _ => rfl) fun L σ hc hi hd => ?_
           have m22 : L 22 = false := hc.neg (i := 0) (j := 22) rfl (by rfl) hi
           refine AO.heq (H' := ((n4, (.mem (.ar 1 (x19.map eBool)))) :: [])) (by first | rfl | simp only [m22, cond_true, cond_false]) ?_
           refine AO.wK [7] ?_
           refine AO.c (Calm.move rfl rfl) ?_
           exact AO.nE (d := 33) rfl ⟨⟨33, _, rfl, rfl, rfl⟩, Sub.of_eq (by first | rfl | simp only [m22, cond_true, cond_false]) (Sub.refl _)⟩
          ·refine StepE.calm (fun _ _ => rfl) fun L σ hc hi hd => ?_
           refine AO.wK [9] ?_
           refine AO.c (Calm.move rfl rfl) ?_
           exact AO.nE (d := 34) rfl ⟨⟨34, _, rfl, rfl, rfl⟩, Sub.refl _⟩
          ·refine StepE.calm (fun _ _ => rfl) fun L σ hc hi hd => ?_
           refine AO.wK [34] ?_
           refine AO.c (x := eI64 (w64 (x20 + (1 : Int)))) (Calm.int rfl rfl rfl rfl) ?_
           exact AO.nE (d := 35) rfl ⟨⟨35, _, rfl, rfl, rfl⟩, Sub.refl _⟩
          ·refine StepE.calm (fun _ _ => rfl) fun L σ hc hi hd => ?_
           refine AO.wK [2] ?_
           refine AO.c (Calm.move rfl rfl) ?_
           exact AO.nE (d := 36) rfl ⟨⟨36, _, rfl, rfl, rfl⟩, Sub.refl _⟩
          ·refine StepE.calm (fun _ _ => rfl) fun L σ hc hi hd => ?_
           refine AO.wK [9] ?_
           refine AO.c (Calm.move rfl rfl) ?_
           exact AO.nE (d := 37) rfl ⟨⟨37, _, rfl, rfl, rfl⟩, Sub.refl _⟩
          ·refine StepE.calm (fun _ _ => rfl) fun L σ hc hi hd => ?_
           refine AO.wK [36, 37] ?_
           refine AO.c (Calm.idxL (f := eBool) rfl rfl rfl hg25 Try.underlying25 sz4) ?_
           exact AO.nE (d := 38) rfl ⟨⟨38, _, rfl, rfl, rfl⟩, Sub.refl _⟩
          ·refine StepE.calm (fun _ _ => rfl) fun L σ hc hi hd => ?_
           refine AO.wK [38] ?_
           refine AO.c (Calm.loadRp rfl rfl ag4 sz4) ?_
           exact AO.nE (d := 39) rfl ⟨⟨39, _, rfl, rfl, rfl⟩, Sub.refl _⟩
          ·refine StepE.calm (fun _ _ => rfl) fun L σ hc hi hd => ?_
           refine AO.wK [39] ?_
           refine AO.c (Calm.move rfl rfl) ?_
           exact AO.nE (d := 40) rfl ⟨⟨40, _, rfl, rfl, rfl⟩, Sub.refl _⟩
          ·refine StepE.calm (fun _ _ => rfl) fun L σ hc hi hd => ?_
           refine AO.wK [40] ?_
           refine AO.sT rfl rfl (bD (eq_false_of_ne_true hc26)) ?_
           exact AO.nE (d := 41) rfl ⟨⟨41, _, rfl, rfl, rfl⟩, Sub.refl _⟩
          ·refine StepE.calm (fun _ _ => rfl) fun L σ hc hi hd => ?_
           refine AO.wK [40] ?_
           refine AO.sT rfl rfl (bD (eq_false_of_ne_true hc26)) ?_
           exact AO.nE (d := 42) rfl ⟨⟨42, _, rfl, rfl, rfl⟩, Sub.refl _⟩
          ·refine StepE.calm (fun _ _ => rfl) fun L σ hc hi hd => ?_
           refine AO.wK [40] ?_
           refine AO.sT rfl rfl (bD (eq_false_of_ne_true hc26)) ?_
           exact AO.nE (d := 43) rfl ⟨⟨43, _, rfl, rfl, rfl⟩, Sub.refl _⟩
          ·refine StepE.calm (fun _ _ => rfl) fun L σ hc hi hd => ?_
           refine AO.wK [40] ?_
           refine AO.sT rfl rfl (bD (eq_false_of_ne_true hc26)) ?_
           exact AO.nE (d := 44) rfl ⟨⟨44, _, rfl, rfl, rfl⟩, Sub.refl _⟩
          ·refine StepE.calm (fun _ _ => rfl) fun L σ hc hi hd => ?_
           refine AO.wK [40] ?_
           refine AO.sT rfl rfl (bD (eq_false_of_ne_true hc26)) ?_
           exact AO.nE (d := 45) rfl ⟨⟨45, _, rfl, rfl, rfl⟩, Sub.refl _⟩
          ·refine StepE.calm (fun _ _ => rfl) fun L σ hc hi hd => ?_
           refine AO.wK [40] ?_
           refine AO.sT rfl rfl (bD (eq_false_of_ne_true hc26)) ?_
           exact AO.nE (d := 46) rfl ⟨⟨46, _, rfl, rfl, rfl⟩, Sub.refl _⟩
          ·refine StepE.calm (fun _ _ => rfl) fun L σ hc hi hd => ?_
           refine AO.wK [40] ?_
           refine AO.sT rfl rfl (bD (eq_false_of_ne_true hc26)) ?_
           exact AO.nE (d := 47) rfl ⟨⟨47, _, rfl, rfl, rfl⟩, Sub.refl _⟩
          ·refine StepE.calm (fun _ _ => rfl) fun L σ hc hi hd => ?_
           refine AO.wK [40] ?_
           refine AO.sT rfl rfl (bD (eq_false_of_ne_true hc26)) ?_
           exact AO.nE (d := 48) rfl ⟨⟨48, _, rfl, rfl, rfl⟩, Sub.refl _⟩
          ·refine StepE.calm (fun _ _ => rfl) fun L σ hc hi hd => ?_
           refine AO.wK [40] ?_
           refine AO.sT rfl rfl (bD (eq_false_of_ne_true hc26)) ?_
           exact AO.nE (d := 49) rfl ⟨⟨49, _, rfl, rfl, rfl⟩, Sub.refl _⟩
          ·refine StepE.calm (fun _ _ => rfl) fun L σ hc hi hd => ?_
           refine AO.wK [40] ?_
           refine AO.sT rfl rfl (bD (eq_false_of_ne_true hc26)) ?_
           exact AO.nE (d := 50) rfl ⟨⟨50, _, rfl, rfl, rfl⟩, Sub.refl _⟩
          ·refine StepE.calm (fun _ _ => rfl) fun L σ hc hi hd => ?_
           refine AO.wK [40] ?_
           refine AO.sT rfl rfl (bD (eq_false_of_ne_true hc26)) ?_
           exact AO.nE (d := 51) rfl ⟨⟨51, _, rfl, rfl, rfl⟩, Sub.refl _⟩
          ·refine StepE.calm (fun _ _ => rfl) fun L σ hc hi hd => ?_
           refine AO.wK [40] ?_
           refine AO.sT rfl rfl (bD (eq_false_of_ne_true hc26)) ?_
           exact AO.nE (d := 52) rfl ⟨⟨52, _, rfl, rfl, rfl⟩, Sub.refl _⟩
          ·refine StepE.calm (fun _ _ => rfl) fun L σ hc hi hd => ?_
           refine AO.wK [40, 52] ?_
           refine AO.c (Calm.pickF rfl (bD (eq_false_of_ne_true hc26)) rfl) ?_
           exact AO.nE (d := 53) rfl ⟨⟨53, _, rfl, rfl, rfl⟩, Sub.refl _⟩
          ·refine StepE.calm (fun _ _ => rfl) fun L σ hc hi hd => ?_
           have m22 : L 22 = false := hc.neg (i := 21) (j := 22) rfl (by rfl) hi
           refine AO.heq (H' := ((n4, (.mem (.ar 1 (x19.map eBool)))) :: [])) (by first | rfl | simp only [m22, cond_true, cond_false]) ?_
           refine AO.wK [33, 35] ?_
           refine AO.c (Calm.idxO 0 rfl rfl rfl rfl hg31 Try.underlying25 sz4) ?_
           exact AO.nE (d := 54) rfl ⟨⟨54, _, rfl, rfl, rfl⟩, Sub.of_eq (by first | rfl | simp only [m22, cond_true, cond_false]) (Sub.refl _)⟩
          ·intro L σ hc hi hd
           refine AO.heq (H' := ((n4, (.mem (.ar 1 (x19.map eBool)))) :: [])) (by first | rfl | simp only [hi, cond_true, cond_false]) ?_
           refine AO.wK [53, 54] ?_
           refine AO.store (X' := (.ar 1 ((lset x19 (w64 (x20 + (1 : Int))) false).map eBool))) 0 rfl rfl rfl rfl rfl rfl (Put.cast (Put.lidx (w64 (x20 + (1 : Int))) false hg31.1 hg31.2 Put.here) (by omega)) rfl rfl sz4 rfl ?_
           have a22 : addL L 22 22 = true := rfl
           exact AO.n0 ⟨σ, (fun _ _ => rfl), (fun d' hd' => by cases hd'), Sub.of_eq (B := ((n4, (.mem (.ar 1 ((lset x19 (w64 (x20 + (1 : Int))) false).map eBool)))) :: [])) (by simp only [a22, cond_true, cond_false]) (Sub.refl _)⟩
          ·refine AO.coe 7 (y' := (.own n4 0 (lset x19 (w64 (x20 + (1 : Int))) false).length)) rfl (fun _ _ h => own_len (by simp [lset, lcopy_len]) h) ?_
           refine AO.nK [0, 1, 2, 7, 9] ?_
           exact ⟨(lset x19 (w64 (x20 + (1 : Int))) false), rfl, rfl, h⟩
        ·rintro _ _ ⟨x24, rfl, rfl, h⟩
         rw [bosketref04_ends_c2.eq_1] at h
         refine AW.reg ?_
         refine AO.c (Calm.move rfl rfl) ?_
         refine AO.c (x := eI64 (w64 (x20 + (1 : Int)))) (Calm.int rfl rfl rfl rfl) ?_
         refine AO.c (Calm.assign rfl rfl) ?_
         refine AO.nK [0, 1, 2, 7, 9] ?_
         exact ⟨kq22, Nat.lt_succ_self _, x24, (w64 (x20 + (1 : Int))), rfl, rfl, by rw [hrec21]; exact h⟩
       ·refine AW.condN _ rfl hc23 ?_
        refine AW.eK [7] ?_
        exact ⟨x19, rfl, rfl, h⟩
      ·rintro _ _ ⟨x18, rfl, rfl, h⟩
       rw [bosketref04_ends_c1.eq_1] at h
       refine AW.sr ?_
       refine AO.c (Calm.move rfl rfl) ?_
       refine AO.c (Calm.assign rfl rfl) ?_
       refine AO.nK [6] ?_
       refine AW.freezeS 0 [(6, (.fz 1 (x18.map eBool)))] rfl ⟨fz_all rfl, trivial⟩ ?_
       refine AW.rK [6] ?_
       have hr := Option.some.inj h
       subst hr
       exact ⟨[(.fz 1 (x18.map eBool))], ⟨rfl, rfl, trivial⟩, rfl⟩
     ·refine AW.condN _ rfl hc17 ?_
      refine AW.sr ?_
      refine AO.c (x := eBool (decide (((lget p0 (w64 ((p0.length : Int) - (1 : Int)))).f0) = (2 : Int)))) (Calm.int rfl rfl rfl rfl) ?_
      refine AO.c (Calm.assign rfl rfl) ?_
      refine AO.nH [0, 1, 2, 8, 21, 56] (H' := []) (Sub.nil _) ?_
      rcases of_ite h with ⟨hc32, h⟩ | ⟨hc32, h⟩
      ·refine AW.condP _ rfl hc32 ?_
       refine AW.seq ?_
       obtain ⟨hg33, h⟩ := of_guard h
       obtain ⟨hg34, h⟩ := of_guard h
       obtain ⟨t35, et35, h⟩ := of_bind h
       obtain ⟨t36, et36, h⟩ := of_bind h
       refine AW.regAny (by rfl) (by decide +kernel) [(.fz 1 (t6.map e58)), (.rp (.fz 5 ((lget t6 (1 : Int)).map e82))), (.fz 5 ((lget t6 (1 : Int)).map e82)), (eStr p1), (.fz 1 (t6.map e58)), (.rp (.fz 5 ((lget t6 (0 : Int)).map e82))), (.fz 5 ((lget t6 (0 : Int)).map e82)), (eStr p1), (.fz 1 (p2.map eBool)), (.fz 1 (t35.map eBool)), (.fz 1 (t36.map eBool)), (.fz 1 (t36.map eBool))] [(1, (eStr p1)), (2, (.fz 1 (p2.map eBool))), (8, (.fz 1 (t6.map e58)))] ⟨rfl, rfl, rfl, trivial⟩ rfl ?_ [(6, (.fz 1 (t36.map eBool)))] [] ⟨rfl, trivial⟩ (Sub.refl _) ?_
       ·refine ⟨?_, ?_, ?_, ?_, ?_, ?_, ?_, ?_, ?_, ?_, ?_, ?_, trivial⟩
        ·refine AO.wK [8] ?_
         refine AO.c (Calm.move rfl rfl) ?_
         exact AO.nE (d := 58) rfl ⟨⟨_, rfl, rfl⟩, Sub.refl _⟩
        ·refine AO.wK [58] ?_
         refine AO.c (Calm.idxL (f := e58) rfl rfl rfl hg33 Try.underlying97 sz58) ?_
         exact AO.nE (d := 59) rfl ⟨⟨_, rfl, rfl⟩, Sub.refl _⟩
        ·refine AO.wK [59] ?_
         refine AO.c (Calm.loadRp rfl rfl ag58 sz58) ?_
         exact AO.nE (d := 60) rfl ⟨⟨_, rfl, rfl⟩, Sub.refl _⟩
        ·refine AO.wK [1] ?_
         refine AO.c (Calm.move rfl rfl) ?_
         exact AO.nE (d := 61) rfl ⟨⟨_, rfl, rfl⟩, Sub.refl _⟩
        ·refine AO.wK [8] ?_
         refine AO.c (Calm.move rfl rfl) ?_
         exact AO.nE (d := 62) rfl ⟨⟨_, rfl, rfl⟩, Sub.refl _⟩
        ·refine AO.wK [62] ?_
         refine AO.c (Calm.idxL (f := e58) rfl rfl rfl hg34 Try.underlying97 sz58) ?_
         exact AO.nE (d := 63) rfl ⟨⟨_, rfl, rfl⟩, Sub.refl _⟩
        ·refine AO.wK [63] ?_
         refine AO.c (Calm.loadRp rfl rfl ag58 sz58) ?_
         exact AO.nE (d := 64) rfl ⟨⟨_, rfl, rfl⟩, Sub.refl _⟩
        ·refine AO.wK [1] ?_
         refine AO.c (Calm.move rfl rfl) ?_
         exact AO.nE (d := 65) rfl ⟨⟨_, rfl, rfl⟩, Sub.refl _⟩
        ·refine AO.wK [2] ?_
         refine AO.c (Calm.move rfl rfl) ?_
         exact AO.nE (d := 66) rfl ⟨⟨_, rfl, rfl⟩, Sub.refl _⟩
        ·refine AO.wK [64, 65, 66] ?_
         refine AO.callS [(.fz 5 ((lget t6 (0 : Int)).map e82)), (eStr p1), (.fz 1 (p2.map eBool))] (.fz 1 (t35.map eBool)) 67 rfl (by decide) ok60 rfl rfl rfl ⟨rfl, rfl, rfl, rfl, rfl, rfl, trivial⟩ (hself60 _ _ _ _ et35) ?_
         exact AO.nE (d := 67) rfl ⟨⟨_, rfl, rfl⟩, Sub.refl _⟩
        ·refine AO.wK [60, 61, 67] ?_
         refine AO.callS [(.fz 5 ((lget t6 (1 : Int)).map e82)), (eStr p1), (.fz 1 (t35.map eBool))] (.fz 1 (t36.map eBool)) 68 rfl (by decide) ok60 rfl rfl rfl ⟨rfl, rfl, rfl, rfl, rfl, rfl, trivial⟩ (hself60 _ _ _ _ et36) ?_
         exact AO.nE (d := 68) rfl ⟨⟨_, rfl, rfl⟩, Sub.refl _⟩
        ·refine AO.wK [68] ?_
         refine AO.c (Calm.assign rfl rfl) ?_
         exact AO.nE (d := 6) rfl ⟨⟨_, rfl, rfl⟩, Sub.refl _⟩
       ·refine AW.rK [6] ?_
        have hr := Option.some.inj h
        subst hr
        exact ⟨[(.fz 1 (t36.map eBool))], ⟨rfl, rfl, trivial⟩, rfl⟩
      ·refine AW.condN _ rfl hc32 ?_
       refine AW.sr ?_
       refine AO.c (x := eBool (decide (((lget p0 (w64 ((p0.length : Int) - (1 : Int)))).f0) = (3 : Int)))) (Calm.int rfl rfl rfl rfl) ?_
       refine AO.c (Calm.assign rfl rfl) ?_
       refine AO.nK [0, 1, 2, 8, 21, 69] ?_
       rcases of_ite h with ⟨hc37, h⟩ | ⟨hc37, h⟩
       ·refine AW.condP _ rfl hc37 ?_
        refine AW.seq ?_
        obtain ⟨hg38, h⟩ := of_guard h
        obtain ⟨t39, et39, h⟩ := of_bind h
        obtain ⟨hg40, h⟩ := of_guard h
        obtain ⟨t41, et41, h⟩ := of_bind h
        obtain ⟨t42, et42, h⟩ := of_bind h
        refine AW.regAny (by rfl) (by decide +kernel) [(.fz 1 (t6.map e58)), (.rp (.fz 5 ((lget t6 (0 : Int)).map e82))), (.fz 5 ((lget t6 (0 : Int)).map e82)), (eStr p1), (.fz 1 (p2.map eBool)), (.fz 1 (t39.map eBool)), (.fz 1 (t6.map e58)), (.rp (.fz 5 ((lget t6 (1 : Int)).map e82))), (.fz 5 ((lget t6 (1 : Int)).map e82)), (eStr p1), (.fz 1 (p2.map eBool)), (.fz 1 (t41.map eBool)), (.fz 1 (t42.map eBool)), (.fz 1 (t42.map eBool))] [(1, (eStr p1)), (2, (.fz 1 (p2.map eBool))), (8, (.fz 1 (t6.map e58)))] ⟨rfl, rfl, rfl, trivial⟩ rfl ?_ [(6, (.fz 1 (t42.map eBool)))] [] ⟨rfl, trivial⟩ (Sub.refl _) ?_
        ·refine ⟨?_, ?_, ?_, ?_, ?_, ?_, ?_, ?_, ?_, ?_, ?_, ?_, ?_, ?_, trivial⟩
         ·refine AO.wK [8] ?_
          refine AO.c (Calm.move rfl rfl) ?_
          exact AO.nE (d := 71) rfl ⟨⟨_, rfl, rfl⟩, Sub.refl _⟩
         ·refine AO.wK [71] ?_
          refine AO.c (Calm.idxL (f := e58) rfl rfl rfl hg38 Try.underlying97 sz58) ?_
          exact AO.nE (d := 72) rfl ⟨⟨_, rfl, rfl⟩, Sub.refl _⟩
         ·refine AO.wK [72] ?_
          refine AO.c (Calm.loadRp rfl rfl ag58 sz58) ?_
          exact AO.nE (d := 73) rfl ⟨⟨_, rfl, rfl⟩, Sub.refl _⟩
         ·refine AO.wK [1] ?_
          refine AO.c (Calm.move rfl rfl) ?_
          exact AO.nE (d := 74) rfl ⟨⟨_, rfl, rfl⟩, Sub.refl _⟩
         ·refine AO.wK [2] ?_
          refine AO.c (Calm.move rfl rfl) ?_
          exact AO.nE (d := 75) rfl ⟨⟨_, rfl, rfl⟩, Sub.refl _⟩
         ·refine AO.wK [73, 74, 75] ?_
          refine AO.callS [(.fz 5 ((lget t6 (0 : Int)).map e82)), (eStr p1), (.fz 1 (p2.map eBool))] (.fz 1 (t39.map eBool)) 76 rfl (by decide) ok60 rfl rfl rfl ⟨rfl, rfl, rfl, rfl, rfl, rfl, trivial⟩ (hself60 _ _ _ _ et39) ?_
          exact AO.nE (d := 76) rfl ⟨⟨_, rfl, rfl⟩, Sub.refl _⟩
         ·refine AO.wK [8] ?_
          refine AO.c (Calm.move rfl rfl) ?_
          exact AO.nE (d := 77) rfl ⟨⟨_, rfl, rfl⟩, Sub.refl _⟩
         ·refine AO.wK [77] ?_
          refine AO.c (Calm.idxL (f := e58) rfl rfl rfl hg40 Try.underlying97 sz58) ?_
          exact AO.nE (d := 78) rfl ⟨⟨_, rfl, rfl⟩, Sub.refl _⟩
         ·refine AO.wK [78] ?_
          refine AO.c (Calm.loadRp rfl rfl ag58 sz58) ?_
          exact AO.nE (d := 79) rfl ⟨⟨_, rfl, rfl⟩, Sub.refl _⟩
         ·refine AO.wK [1] ?_
          refine AO.c (Calm.move rfl rfl) ?_
          exact AO.nE (d := 80) rfl ⟨⟨_, rfl, rfl⟩, Sub.refl _⟩
         ·refine AO.wK [2] ?_
          refine AO.c (Calm.move rfl rfl) ?_
          exact AO.nE (d := 81) rfl ⟨⟨_, rfl, rfl⟩, Sub.refl _⟩
         ·refine AO.wK [79, 80, 81] ?_
          refine AO.callS [(.fz 5 ((lget t6 (1 : Int)).map e82)), (eStr p1), (.fz 1 (p2.map eBool))] (.fz 1 (t41.map eBool)) 82 rfl (by decide) ok60 rfl rfl rfl ⟨rfl, rfl, rfl, rfl, rfl, rfl, trivial⟩ (hself60 _ _ _ _ et41) ?_
          exact AO.nE (d := 82) rfl ⟨⟨_, rfl, rfl⟩, Sub.refl _⟩
         ·refine AO.wK [76, 82] ?_
          refine AO.callS [(.fz 1 (t39.map eBool)), (.fz 1 (t41.map eBool))] (.fz 1 (t42.map eBool)) 83 rfl (by decide) ok73 rfl rfl rfl ⟨rfl, rfl, rfl, rfl, trivial⟩ (bosketref04_or_spec et42) ?_
          exact AO.nE (d := 83) rfl ⟨⟨_, rfl, rfl⟩, Sub.refl _⟩
         ·refine AO.wK [83] ?_
          refine AO.c (Calm.assign rfl rfl) ?_
          exact AO.nE (d := 6) rfl ⟨⟨_, rfl, rfl⟩, Sub.refl _⟩
        ·refine AW.rK [6] ?_
         have hr := Option.some.inj h
         subst hr
         exact ⟨[(.fz 1 (t42.map eBool))], ⟨rfl, rfl, trivial⟩, rfl⟩
       ·refine AW.condN _ rfl hc37 ?_
        refine AW.sr ?_
        refine AO.c (x := eBool (decide (((lget p0 (w64 ((p0.length : Int) - (1 : Int)))).f0) = (6 : Int)))) (Calm.int rfl rfl rfl rfl) ?_
        refine AO.c (Calm.assign rfl rfl) ?_
        refine AO.nK [0, 1, 2, 8, 84] ?_
        rcases of_ite h with ⟨hc43, h⟩ | ⟨hc43, h⟩
        ·refine AW.condP _ rfl hc43 ?_
         refine AW.sr ?_
         refine AO.c (Calm.move rfl rfl) ?_
         refine AO.c (Calm.move rfl rfl) ?_
         obtain ⟨hg44, h⟩ := of_guard h
         refine AO.c (Calm.idxL (f := e58) rfl rfl rfl hg44 Try.underlying97 sz58) ?_
         refine AO.c (Calm.loadRp rfl rfl ag58 sz58) ?_
         refine AO.c (Calm.move rfl rfl) ?_
         refine AO.c (Calm.move rfl rfl) ?_
         obtain ⟨t45, et45, h⟩ := of_bind h
         refine AO.callS [(.fz 5 ((lget t6 (0 : Int)).map e82)), (eStr p1), (.fz 1 (p2.map eBool))] (.fz 1 (t45.map eBool)) 92 rfl (by decide) ok60 rfl rfl rfl ⟨rfl, rfl, rfl, rfl, rfl, rfl, trivial⟩ (hself60 _ _ _ _ et45) ?_
         obtain ⟨t46, et46, h⟩ := of_bind h
         refine AO.callS [(.fz 1 (p2.map eBool)), (.fz 1 (t45.map eBool))] (.fz 1 (t46.map eBool)) 93 rfl (by decide) ok73 rfl rfl rfl ⟨rfl, rfl, rfl, rfl, trivial⟩ (bosketref04_or_spec et46) ?_
         refine AO.c (Calm.assign rfl rfl) ?_
         refine AO.nK [6] ?_
         refine AW.rK [6] ?_
         have hr := Option.some.inj h
         subst hr
         exact ⟨[(.fz 1 (t46.map eBool))], ⟨rfl, rfl, trivial⟩, rfl⟩
        ·refine AW.condN _ rfl hc43 ?_
         refine AW.sK [0, 1, 2, 8] ?_
         exact ⟨rfl, rfl, h⟩
   ·rintro _ _ ⟨rfl, rfl, h⟩
    rw [bosketref04_ends_c0.eq_1] at h
    refine AW.seq ?_
    refine AW.sr ?_
    refine AO.c (Calm.move rfl rfl) ?_
    refine AO.c (Calm.move rfl rfl) ?_
    refine AO.c (Calm.lenL rfl rfl Try.underlying58) ?_
    refine AO.c (x := eI64 (w64 ((p0.length : Int) - (1 : Int)))) (Calm.int rfl rfl rfl rfl) ?_
    obtain ⟨hg7, h⟩ := of_guard h
    refine AO.c (Calm.idxL (f := e82) rfl rfl rfl hg7 Try.underlying58 sz82) ?_
    refine AO.c (Calm.fldRp rfl rfl Try.underlying82 rfl sz3 (At.cast (At.fld0 At.here) rfl)) ?_
    refine AO.c (Calm.loadRp rfl rfl ag3 sz3) ?_
    refine AO.c (x := eBool (decide (((lget p0 (w64 ((p0.length : Int) - (1 : Int)))).f0) = (4 : Int)))) (Calm.int rfl rfl rfl rfl) ?_
    refine AO.nK [1, 2, 8, 101] ?_
    rcases of_ite h with ⟨hc8, h⟩ | ⟨hc8, h⟩
    ·refine AW.condP _ rfl hc8 ?_
     refine AW.sr ?_
     refine AO.c (Calm.move rfl rfl) ?_
     obtain ⟨hg9, h⟩ := of_guard h
     refine AO.c (Calm.idxL (f := e58) rfl rfl rfl hg9 Try.underlying97 sz58) ?_
     refine AO.c (Calm.loadRp rfl rfl ag58 sz58) ?_
     refine AO.c (Calm.move rfl rfl) ?_
     refine AO.c (Calm.move rfl rfl) ?_
     obtain ⟨t10, et10, h⟩ := of_bind h
     refine AO.callS [(.fz 5 ((lget t6 (0 : Int)).map e82)), (eStr p1), (.fz 1 (p2.map eBool))] (.fz 1 (t10.map eBool)) 107 rfl (by decide) ok74 rfl rfl rfl ⟨rfl, rfl, rfl, rfl, rfl, rfl, trivial⟩ (hself74 _ _ _ _ et10) ?_
     refine AO.c (Calm.assign rfl rfl) ?_
     refine AO.nK [6] ?_
     refine AW.rK [6] ?_
     have hr := Option.some.inj h
     subst hr
     exact ⟨[(.fz 1 (t10.map eBool))], ⟨rfl, rfl, trivial⟩, rfl⟩
    ·refine AW.condN _ rfl hc8 ?_
     refine AW.sK [1, 2, 8] ?_
     refine AW.seq ?_
     obtain ⟨hg11, h⟩ := of_guard h
     obtain ⟨hg12, h⟩ := of_guard h
     obtain ⟨t13, et13, h⟩ := of_bind h
     obtain ⟨t14, et14, h⟩ := of_bind h
     refine AW.regAny (by rfl) (by decide +kernel) [(.fz 1 (t6.map e58)), (.rp (.fz 5 ((lget t6 (0 : Int)).map e82))), (.fz 5 ((lget t6 (0 : Int)).map e82)), (eStr p1), (.fz 1 (t6.map e58)), (.rp (.fz 5 ((lget t6 (0 : Int)).map e82))), (.fz 5 ((lget t6 (0 : Int)).map e82)), (eStr p1), (.fz 1 (p2.map eBool)), (.fz 1 (t13.map eBool)), (.fz 1 (t14.map eBool)), (.fz 1 (t14.map eBool))] [(1, (eStr p1)), (2, (.fz 1 (p2.map eBool))), (8, (.fz 1 (t6.map e58)))] ⟨rfl, rfl, rfl, trivial⟩ rfl ?_ [(6, (.fz 1 (t14.map eBool)))] [] ⟨rfl, trivial⟩ (Sub.refl _) ?_
     ·refine ⟨?_, ?_, ?_, ?_, ?_, ?_, ?_, ?_, ?_, ?_, ?_, ?_, trivial⟩
      ·refine AO.wK [8] ?_
       refine AO.c (Calm.move rfl rfl) ?_
       exact AO.nE (d := 108) rfl ⟨⟨_, rfl, rfl⟩, Sub.refl _⟩
      ·refine AO.wK [108] ?_
       refine AO.c (Calm.idxL (f := e58) rfl rfl rfl hg11 Try.underlying97 sz58) ?_
       exact AO.nE (d := 109) rfl ⟨⟨_, rfl, rfl⟩, Sub.refl _⟩
      ·refine AO.wK [109] ?_
       refine AO.c (Calm.loadRp rfl rfl ag58 sz58) ?_
       exact AO.nE (d := 110) rfl ⟨⟨_, rfl, rfl⟩, Sub.refl _⟩
      ·refine AO.wK [1] ?_
       refine AO.c (Calm.move rfl rfl) ?_
       exact AO.nE (d := 111) rfl ⟨⟨_, rfl, rfl⟩, Sub.refl _⟩
      ·refine AO.wK [8] ?_
       refine AO.c (Calm.move rfl rfl) ?_
       exact AO.nE (d := 112) rfl ⟨⟨_, rfl, rfl⟩, Sub.refl _⟩
      ·refine AO.wK [112] ?_
       refine AO.c (Calm.idxL (f := e58) rfl rfl rfl hg12 Try.underlying97 sz58) ?_
       exact AO.nE (d := 113) rfl ⟨⟨_, rfl, rfl⟩, Sub.refl _⟩
      ·refine AO.wK [113] ?_
       refine AO.c (Calm.loadRp rfl rfl ag58 sz58) ?_
       exact AO.nE (d := 114) rfl ⟨⟨_, rfl, rfl⟩, Sub.refl _⟩
      ·refine AO.wK [1] ?_
       refine AO.c (Calm.move rfl rfl) ?_
       exact AO.nE (d := 115) rfl ⟨⟨_, rfl, rfl⟩, Sub.refl _⟩
      ·refine AO.wK [2] ?_
       refine AO.c (Calm.move rfl rfl) ?_
       exact AO.nE (d := 116) rfl ⟨⟨_, rfl, rfl⟩, Sub.refl _⟩
      ·refine AO.wK [114, 115, 116] ?_
       refine AO.callS [(.fz 5 ((lget t6 (0 : Int)).map e82)), (eStr p1), (.fz 1 (p2.map eBool))] (.fz 1 (t13.map eBool)) 117 rfl (by decide) ok60 rfl rfl rfl ⟨rfl, rfl, rfl, rfl, rfl, rfl, trivial⟩ (hself60 _ _ _ _ et13) ?_
       exact AO.nE (d := 117) rfl ⟨⟨_, rfl, rfl⟩, Sub.refl _⟩
      ·refine AO.wK [110, 111, 117] ?_
       refine AO.callS [(.fz 5 ((lget t6 (0 : Int)).map e82)), (eStr p1), (.fz 1 (t13.map eBool))] (.fz 1 (t14.map eBool)) 118 rfl (by decide) ok74 rfl rfl rfl ⟨rfl, rfl, rfl, rfl, rfl, rfl, trivial⟩ (hself74 _ _ _ _ et14) ?_
       exact AO.nE (d := 118) rfl ⟨⟨_, rfl, rfl⟩, Sub.refl _⟩
      ·refine AO.wK [118] ?_
       refine AO.c (Calm.assign rfl rfl) ?_
       exact AO.nE (d := 6) rfl ⟨⟨_, rfl, rfl⟩, Sub.refl _⟩
     ·refine AW.rK [6] ?_
      have hr := Option.some.inj h
      subst hr
      exact ⟨[(.fz 1 (t14.map eBool))], ⟨rfl, rfl, trivial⟩, rfl⟩
  ·intro p0 p1 p2 r h
   rw [bosketref04_again_r.eq_2] at h
   generalize hsself60 : bosketref04_ends_r k j = self60 at h hself60
   generalize hsself74 : bosketref04_again_r k j = self74 at h hself74
   refine Spec.intro (res := [.tmp 6]) Try.func74 rfl rfl rfl (Nat.le_of_ble_eq_true rfl) ?_
   refine AW.sr ?_
   refine AO.c (Calm.assign rfl rfl) ?_
   refine AO.nK [0, 1, 2] ?_
   refine AW.seq_mid (fun ρ H => ∃ (x4 : (List Bool)), ρ = [(2, (.fz 1 (x4.map eBool)))] ∧ H = [] ∧ bosketref04_again_c0 k x4 = some r) ?_ ?_
   ·refine AW.sr ?_
    refine AO.c (Calm.assign rfl rfl) ?_
    refine AO.nK [0, 1, 2, 7] ?_
    refine AW.block ?_
    refine AW.wK [0, 1, 2, 7] ?_
    refine AW.loop (fun kq ρ H => ∃ (x5 : (List Bool)) (x6 : Int), ρ = [(0, (.fz 5 (p0.map e82))), (1, (eStr p1)), (2, (.fz 1 (x5.map eBool))), (7, (eI64 x6))] ∧ H = [] ∧ bosketref04_again_l4 k self60 p0 p1 kq x5 x6 = some r) k ⟨p2, (0 : Int), rfl, rfl, h⟩ ?_
    rintro kq8 _ _ ⟨x5, x6, rfl, rfl, h⟩
    cases kq8 with
    | zero => rw [bosketref04_again_l4.eq_1] at h; cases h
    | succ kq8 =>
    rw [bosketref04_again_l4.eq_2] at h
    generalize hrec7 : bosketref04_again_l4 k self60 p0 p1 kq8 = rec7 at h
    refine AW.seq ?_
    refine AW.sr ?_
    refine AO.c (Calm.move rfl rfl) ?_
    refine AO.c (Calm.move rfl rfl) ?_
    refine AO.c (Calm.lenStr rfl rfl Try.underlying9) ?_
    refine AO.c (x := eBool (decide (x6 ≤ (p1.size : Int)))) (Calm.int rfl rfl rfl rfl) ?_
    refine AO.nK [0, 1, 2, 7, 14] ?_
    rcases of_ite h with ⟨hc9, h⟩ | ⟨hc9, h⟩
    ·refine AW.condP _ rfl hc9 ?_
     refine AW.sK [0, 1, 2, 7] ?_
     refine AW.seq_mid (fun ρ H => ∃ (x10 : (List Bool)), ρ = [(0, (.fz 5 (p0.map e82))), (1, (eStr p1)), (2, (.fz 1 (x10.map eBool))), (7, (eI64 x6))] ∧ H = [] ∧ bosketref04_again_c1 k rec7 x6 x10 = some r) ?_ ?_
     ·refine AW.block ?_
      refine AW.sr ?_
      refine AO.c (Calm.move rfl rfl) ?_
      refine AO.c (Calm.move rfl rfl) ?_
      refine AO.c (Calm.move rfl rfl) ?_
      refine AO.c (Calm.move rfl rfl) ?_
      obtain ⟨t11, et11, h⟩ := of_bind h
      refine AO.callS [(.fz 5 (p0.map e82)), (eStr p1), (.fz 1 (x5.map eBool))] (.fz 1 (t11.map eBool)) 21 rfl (by decide) ok60 rfl rfl rfl ⟨rfl, rfl, rfl, rfl, rfl, rfl, trivial⟩ (hself60 _ _ _ _ et11) ?_
      obtain ⟨t12, et12, h⟩ := of_bind h
      refine AO.callS [(.fz 1 (x5.map eBool)), (.fz 1 (t11.map eBool))] (.fz 1 (t12.map eBool)) 22 rfl (by decide) ok73 rfl rfl rfl ⟨rfl, rfl, rfl, rfl, trivial⟩ (bosketref04_or_spec et12) ?_
      refine AO.c (Calm.assign rfl rfl) ?_
      refine AO.nK [0, 1, 2, 7, 8] ?_
      refine AW.sr ?_
      refine AO.c (Calm.assign rfl rfl) ?_
      refine AO.nK [0, 1, 2, 7, 8, 9] ?_
      refine AW.seq_mid (fun ρ H => ∃ (b13 : Bool), ρ = [(0, (.fz 5 (p0.map e82))), (1, (eStr p1)), (7, (eI64 x6)), (8, (.fz 1 (t12.map eBool))), (9, (eBool b13))] ∧ H = [] ∧ bosketref04_again_c2 k rec7 x6 t12 b13 = some r) ?_ ?_
      ·refine AW.sr ?_
       refine AO.c (Calm.assign rfl rfl) ?_
       refine AO.nK [0, 1, 2, 7, 8, 9, 10] ?_
       refine AW.block ?_
       refine AW.wK [0, 1, 2, 7, 8, 9, 10] ?_
       refine AW.loop (fun kq ρ H => ∃ (b15 : Bool) (x16 : Int), ρ = [(0, (.fz 5 (p0.map e82))), (1, (eStr p1)), (2, (.fz 1 (x5.map eBool))), (7, (eI64 x6)), (8, (.fz 1 (t12.map eBool))), (9, (eBool b15)), (10, (eI64 x16))] ∧ H = [] ∧ bosketref04_again_l3 k rec7 x5 x6 t12 kq b15 x16 = some r) k ⟨true, (0 : Int), rfl, rfl, h⟩ ?_
       rintro kq18 _ _ ⟨b15, x16, rfl, rfl, h⟩
       cases kq18 with
       | zero => rw [bosketref04_again_l3.eq_1] at h; cases h
       | succ kq18 =>
       rw [bosketref04_again_l3.eq_2] at h
       generalize hrec17 : bosketref04_again_l3 k rec7 x5 x6 t12 kq18 = rec17 at h
       refine AW.seq ?_
       refine AW.sr ?_
       refine AO.c (Calm.move rfl rfl) ?_
       refine AO.c (Calm.move rfl rfl) ?_
       refine AO.c (Calm.lenL rfl rfl Try.underlying25) ?_
       refine AO.c (x := eBool (decide (x16 < (t12.length : Int)))) (Calm.int rfl rfl rfl rfl) ?_
       refine AO.nK [0, 1, 2, 7, 8, 9, 10, 26] ?_
       rcases of_ite h with ⟨hc19, h⟩ | ⟨hc19, h⟩
       ·refine AW.condP _ rfl hc19 ?_
        refine AW.sK [0, 1, 2, 7, 8, 9, 10] ?_
        refine AW.seq ?_
        refine AW.block ?_
        obtain ⟨b20, hq21, h⟩ := of_bind h
        refine AW.regQM (by rfl) (by decide +kernel) [(0, (.fz 5 (p0.map e82))), (1, (eStr p1)), (2, (.fz 1 (x5.map eBool))), (7, (eI64 x6)), (8, (.fz 1 (t12.map eBool))), (9, (eBool b20)), (10, (eI64 x16))] ?_ ?_
        ·refine AQ.c (Calm.move rfl rfl) ?_
         refine AQ.c (Calm.move rfl rfl) ?_
         rcases of_ite hq21 with ⟨hc22, hq21⟩ | ⟨hc22, hq21⟩
         ·refine AQ.cG rfl rfl (bD hc22) (Calm.move rfl rfl) ?_
          refine AQ.cG rfl rfl (bD hc22) (Calm.move rfl rfl) ?_
          obtain ⟨hg23, hq21⟩ := of_guard hq21
          refine AQ.cG rfl rfl (bD hc22) (Calm.idxL (f := eBool) rfl rfl rfl hg23 Try.underlying25 sz4) ?_
          refine AQ.cG rfl rfl (bD hc22) (Calm.loadRp rfl rfl ag4 sz4) ?_
          refine AQ.cG rfl rfl (bD hc22) (Calm.move rfl rfl) ?_
          refine AQ.cG rfl rfl (bD hc22) (Calm.move rfl rfl) ?_
          obtain ⟨hg24, hq21⟩ := of_guard hq21
          refine AQ.cG rfl rfl (bD hc22) (Calm.idxL (f := eBool) rfl rfl rfl hg24 Try.underlying25 sz4) ?_
          refine AQ.cG rfl rfl (bD hc22) (Calm.loadRp rfl rfl ag4 sz4) ?_
          refine AQ.cG (x := eBool ((lget t12 x16) == (lget x5 x16))) rfl rfl (bD hc22) (Calm.boolEq rfl rfl rfl Try.underlying4) ?_
          refine AQ.c (Calm.pickT rfl (bD hc22) rfl) ?_
          refine AQ.c (Calm.assign rfl rfl) ?_
          cases hq21
          refine AQ.nilE rfl ?_
          exact ⟨rfl, rfl, rfl, rfl, rfl, rfl, rfl, trivial⟩
         ·refine AQ.sT rfl rfl (bD (eq_false_of_ne_true hc22)) ?_
          refine AQ.sT rfl rfl (bD (eq_false_of_ne_true hc22)) ?_
          refine AQ.sT rfl rfl (bD (eq_false_of_ne_true hc22)) ?_
          refine AQ.sT rfl rfl (bD (eq_false_of_ne_true hc22)) ?_
          refine AQ.sT rfl rfl (bD (eq_false_of_ne_true hc22)) ?_
          refine AQ.sT rfl rfl (bD (eq_false_of_ne_true hc22)) ?_
          refine AQ.sT rfl rfl (bD (eq_false_of_ne_true hc22)) ?_
          refine AQ.sT rfl rfl (bD (eq_false_of_ne_true hc22)) ?_
          refine AQ.sT rfl rfl (bD (eq_false_of_ne_true hc22)) ?_
          refine AQ.c (Calm.pickF rfl (bD (eq_false_of_ne_true hc22)) rfl) ?_
          refine AQ.c (Calm.assign rfl rfl) ?_
          cases hq21
          refine AQ.nilE rfl ?_
          exact ⟨rfl, rfl, rfl, rfl, rfl, rfl, rfl, trivial⟩
        ·refine AW.reg ?_
         refine AO.c (Calm.move rfl rfl) ?_
         refine AO.c (x := eI64 (w64 (x16 + (1 : Int)))) (Calm.int rfl rfl rfl rfl) ?_
         refine AO.c (Calm.assign rfl rfl) ?_
         refine AO.nK [0, 1, 2, 7, 8, 9, 10] ?_
         exact ⟨kq18, Nat.lt_succ_self _, b20, (w64 (x16 + (1 : Int))), rfl, rfl, by rw [hrec17]; exact h⟩
       ·refine AW.condN _ rfl hc19 ?_
        refine AW.eK [0, 1, 7, 8, 9] ?_
        exact ⟨b15, rfl, rfl, h⟩
      ·rintro _ _ ⟨b13, rfl, rfl, h⟩
       rw [bosketref04_again_c2.eq_1] at h
       refine AW.seq ?_
       refine AW.sr ?_
       refine AO.c (Calm.move rfl rfl) ?_
       refine AO.nK [0, 1, 7, 8, 41] ?_
       rcases of_ite h with ⟨hc14, h⟩ | ⟨hc14, h⟩
       ·refine AW.condT' _ rfl hc14 ?_
        refine AW.sr ?_
        refine AO.c (Calm.move rfl rfl) ?_
        refine AO.c (Calm.assign rfl rfl) ?_
        refine AO.nK [6] ?_
        refine AW.rK [6] ?_
        have hr := Option.some.inj h
        subst hr
        exact ⟨[(.fz 1 (t12.map eBool))], ⟨rfl, rfl, trivial⟩, rfl⟩
       ·refine AW.condF' _ rfl hc14 ?_
        refine AW.sK [0, 1, 7, 8] ?_
        refine AW.reg ?_
        refine AO.c (Calm.move rfl rfl) ?_
        refine AO.c (Calm.assign rfl rfl) ?_
        refine AO.nK [0, 1, 2, 7] ?_
        exact ⟨t12, rfl, rfl, h⟩
     ·rintro _ _ ⟨x10, rfl, rfl, h⟩
      rw [bosketref04_again_c1.eq_1] at h
      refine AW.reg ?_
      refine AO.c (Calm.move rfl rfl) ?_
      refine AO.c (x := eI64 (w64 (x6 + (1 : Int)))) (Calm.int rfl rfl rfl rfl) ?_
      refine AO.c (Calm.assign rfl rfl) ?_
      refine AO.nK [0, 1, 2, 7] ?_
      exact ⟨kq8, Nat.lt_succ_self _, x10, (w64 (x6 + (1 : Int))), rfl, rfl, by rw [hrec7]; exact h⟩
    ·refine AW.condN _ rfl hc9 ?_
     refine AW.eK [2] ?_
     exact ⟨x5, rfl, rfl, h⟩
   ·rintro _ _ ⟨x4, rfl, rfl, h⟩
    rw [bosketref04_again_c0.eq_1] at h
    refine AW.sr ?_
    refine AO.c (Calm.move rfl rfl) ?_
    refine AO.c (Calm.assign rfl rfl) ?_
    refine AO.nK [6] ?_
    refine AW.rK [6] ?_
    have hr := Option.some.inj h
    subst hr
    exact ⟨[(.fz 1 (x4.map eBool))], ⟨rfl, rfl, trivial⟩, rfl⟩
theorem bosketref04_ends_spec {k : Nat} {p0 : (List S82)} {p1 : ByteArray} {p2 : (List Bool)} {r : (List Bool)} (h : bosketref04_ends k p0 p1 p2 = some r) : Spec Try.prog 60 [(.fz 5 (p0.map e82)), (eStr p1), (.fz 1 (p2.map eBool))] (e25 r) := (bosketref04_ends_all k k).1 p0 p1 p2 r h
end Go.Avl.T3
/- bosket/bosketref04.Has; printed by avmain.py. -/
namespace Go.Avl.T3
open Go Go.RowKit Go.Proofs Go.Avl
set_option linter.unusedVariables false
set_option maxRecDepth 100000
set_option maxHeartbeats 4000000
attribute [local irreducible] AW AO AQ Spec SpecH Calm

def bosketref04_Has (k : Nat) (p0 : (List S82)) (p1 : ByteArray) : Option Bool :=
  if 0 ≤ (w64 ((p1.size : Int) + (1 : Int))) ∧ (w64 ((p1.size : Int) + (1 : Int))) * (1 : Int) ≤ 140737488355328 ∧ (w64 ((p1.size : Int) + (1 : Int))) ≤ 9223372036854775807 then if 0 ≤ (0 : Int) ∧ (0 : Int) < ((List.replicate (w64 ((p1.size : Int) + (1 : Int))).toNat false).length : Int) then (bosketref04_ends k p0 p1 (lset (List.replicate (w64 ((p1.size : Int) + (1 : Int))).toNat false) (0 : Int) true)).bind fun t6 =>
  if 0 ≤ (p1.size : Int) ∧ (p1.size : Int) < (t6.length : Int) then some ((lget t6 (p1.size : Int)))
  else none
  else none
  else none
theorem bosketref04_Has_spec {k : Nat} {p0 : (List S82)} {p1 : ByteArray} {r : Bool} (h : bosketref04_Has k p0 p1 = some r) : Spec Try.prog 33 [(.fz 5 (p0.map e82)), (eStr p1)] (eBool r) := by
  rw [bosketref04_Has.eq_1] at h
  refine Spec.intro (res := [.tmp 4]) Try.func33 rfl rfl rfl (Nat.le_of_ble_eq_true rfl) ?_
  refine AW.sr ?_
  refine AO.c (Calm.assign rfl rfl) ?_
  refine AO.nK [0, 1] ?_
  refine AW.sr ?_
  refine AO.c (Calm.move rfl rfl) ?_
  refine AO.c (Calm.lenStr rfl rfl Try.underlying9) ?_
  refine AO.c (x := eI64 (w64 ((p1.size : Int) + (1 : Int)))) (Calm.int rfl rfl rfl rfl) ?_
  obtain ⟨hg4, h⟩ := of_guard h
  refine AO.makeL (f := eBool) false rfl 9 rfl (by decide) rfl rfl rfl Try.underlying25 sz4 by4 zr4 lay4 rfl hg4 fun n3 => ?_
  refine AO.c (Calm.assign rfl rfl) ?_
  refine AO.nK [0, 1, 5] ?_
  refine AW.sr ?_
  refine AO.c (Calm.move rfl rfl) ?_
  obtain ⟨hg5, h⟩ := of_guard h
  refine AO.c (Calm.idxO 0 rfl rfl rfl rfl hg5 Try.underlying25 sz4) ?_
  refine AO.store (X' := (.ar 1 ((lset (List.replicate (w64 ((p1.size : Int) + (1 : Int))).toNat false) (0 : Int) true).map eBool))) 0 rfl rfl rfl rfl rfl rfl (Put.cast (Put.lidx (0 : Int) true hg5.1 hg5.2 Put.here) (by omega)) rfl rfl sz4 rfl ?_
  refine AO.coe 5 (y' := (.own n3 0 (lset (List.replicate (w64 ((p1.size : Int) + (1 : Int))).toNat false) (0 : Int) true).length)) rfl (fun _ _ h => lset_own h) ?_
  refine AO.coe 10 (y' := (.own n3 0 (lset (List.replicate (w64 ((p1.size : Int) + (1 : Int))).toNat false) (0 : Int) true).length)) rfl (fun _ _ h => lset_own h) ?_
  refine AO.nK [0, 1, 5] ?_
  refine AW.sr ?_
  refine AO.c (Calm.move rfl rfl) ?_
  refine AO.c (Calm.move rfl rfl) ?_
  refine AO.c (Calm.move rfl rfl) ?_
  obtain ⟨t6, et6, h⟩ := of_bind h
  refine AO.freezeS 0 [(5, (.fz 1 ((lset (List.replicate (w64 ((p1.size : Int) + (1 : Int))).toNat false) (0 : Int) true).map eBool))), (14, (.fz 1 ((lset (List.replicate (w64 ((p1.size : Int) + (1 : Int))).toNat false) (0 : Int) true).map eBool)))] rfl ⟨fz_all rfl, fz_all rfl, trivial⟩ ?_
  refine AO.callS [(.fz 5 (p0.map e82)), (eStr p1), (.fz 1 ((lset (List.replicate (w64 ((p1.size : Int) + (1 : Int))).toNat false) (0 : Int) true).map eBool))] (.fz 1 (t6.map eBool)) 15 rfl (by decide) ok60 rfl rfl rfl ⟨rfl, rfl, rfl, rfl, rfl, rfl, trivial⟩ (bosketref04_ends_spec et6) ?_
  refine AO.c (Calm.move rfl rfl) ?_
  refine AO.c (Calm.lenStr rfl rfl Try.underlying9) ?_
  obtain ⟨hg7, h⟩ := of_guard h
  refine AO.c (Calm.idxL (f := eBool) rfl rfl rfl hg7 Try.underlying25 sz4) ?_
  refine AO.c (Calm.loadRp rfl rfl ag4 sz4) ?_
  refine AO.c (Calm.assign rfl rfl) ?_
  refine AO.nK [4] ?_
  refine AW.rK [4] ?_
  have hr := Option.some.inj h
  subst hr
  exact ⟨[(eBool (lget t6 (p1.size : Int)))], ⟨rfl, rfl, trivial⟩, rfl⟩
end Go.Avl.T3
/- bosket/deriv.Through; printed by avmain.py. -/
namespace Go.Avl.T3
open Go Go.RowKit Go.Proofs Go.Avl
set_option linter.unusedVariables false
set_option maxRecDepth 100000
set_option maxHeartbeats 4000000
set_option linter.unusedSimpArgs false
attribute [local irreducible] AW AO AQ Spec SpecH Calm

def deriv_Through_c0 (k : Nat) (p1 : ByteArray) (b11 : Bool) (x12 : (List S82)) : Option (S62 × Int) :=
  some ((S62.mk b11 x12), (p1.size : Int))
def deriv_Through_l1 (k : Nat) (p1 : ByteArray) (p2 : Int) : Nat → Bool → (List S82) → Int → Option (S62 × Int)
  | 0, _, _, _ => none
  | j + 1, b13, x14, x15 =>
    if x15 < (p1.size : Int) then if 0 ≤ x15 ∧ x15 < (p1.size : Int) then (deriv_derive k x14 (byteAt p1 x15)).bind fun t20 =>
    Option.bind (α := Bool) (if t20.f0 = true then some (true)
    else some (decide (p2 < (t20.f1.length : Int)))) fun b22 =>
    if b22 = true then some (t20, x15)
    else (deriv_Through_l1 k p1 p2 j) t20.f0 t20.f1 (w64 (x15 + (1 : Int)))
    else none
    else deriv_Through_c0 k p1 b13 x14
def deriv_Through (k : Nat) (p0 : (List S82)) (p1 : ByteArray) (p2 : Int) : Option (S62 × Int) :=
  (slices_Clone_api_Regex_api_Piece__own k p0).bind fun t5 =>
  (rex_Check k p0).bind fun t9 =>
  if t9 ≠ (0 : Int) then some ((S62.mk true []), (0 : Int))
  else deriv_Through_l1 k p1 p2 k false t5 (0 : Int)
theorem deriv_Through_spec {k : Nat} {p0 : (List S82)} {p1 : ByteArray} {p2 : Int} {r : (S62 × Int)} (h : deriv_Through k p0 p1 p2 = some r) : Spec Try.prog 31 [(.fz 5 (p0.map e82)), (eStr p1), (eI64 p2)] (.tup [(e62 r.1), (eI64 r.2)]) := by
  rw [deriv_Through.eq_1] at h
  refine Spec.intro (res := [.cell 6 62, .tmp 7]) Try.func31 rfl rfl rfl (Nat.le_of_ble_eq_true rfl) ?_
  refine AW.sr ?_
  refine AO.alloc rfl 6 rfl (by decide) rfl zr62 lay62 fun n4 => ?_
  refine AO.c (Calm.assign rfl rfl) ?_
  refine AO.nK [0, 1, 2, 6] ?_
  refine AW.sr ?_
  refine AO.c (Calm.move rfl rfl) ?_
  obtain ⟨t5, et5, h⟩ := of_bind h
  refine AO.callH [(.fz 5 (p0.map e82))] [(n4, (.mem (.st [(1, (eBool false)), (1, (.fl (.slice none 0 0)))])))] _ rfl rfl rfl 12 rfl (by decide) ok56 ⟨rfl, rfl, trivial⟩ (Sub.refl _) (slices_Clone_api_Regex_api_Piece__own_spec et5) ?_
  rintro _ _ ⟨n7, rfl, hs6⟩
  refine AO.wH [0, 1, 2, 6, 11, 12] hs6 ?_
  refine AO.freezeS 0 [(12, (.fz 5 (t5.map e82)))] rfl ⟨fz_all rfl, trivial⟩ ?_
  refine AO.c (x := .st [(1, (eBool false)), (1, (.fz 5 (t5.map e82)))]) (Calm.build (qs := [(1, (.fz 5 (t5.map e82)))]) rfl ⟨rfl, rfl, rfl, trivial⟩ Try.underlying62 rfl zr62 lay62 (.cons rfl rfl rfl rfl (Put.cast (Put.fldS (Put.fld0 Put.here)) rfl) .nil) rfl) ?_
  refine AO.alloc rfl 8 rfl (by decide) rfl zr62 lay62 fun n8 => ?_
  refine AO.store (X' := (e62 (S62.mk false t5))) 0 rfl rfl rfl rfl rfl rfl (Put.cast Put.here rfl) rfl rfl sz62 rfl ?_
  refine AO.nH [0, 1, 2, 6, 8] (H' := [(n4, (.mem (.st [(1, (eBool false)), (1, (.fl (.slice none 0 0)))]))), (n8, (.mem (e62 (S62.mk false t5))))]) (Sub.cons 1 rfl (Sub.cons 0 rfl (Sub.nil _))) ?_
  refine AW.seq ?_
  refine AW.sr ?_
  refine AO.c (Calm.move rfl rfl) ?_
  obtain ⟨t9, et9, h⟩ := of_bind h
  refine AO.callS [(.fz 5 (p0.map e82))] (eI64 t9) 15 rfl (by decide) ok57 rfl rfl rfl ⟨rfl, rfl, trivial⟩ (rex_Check_spec et9) ?_
  refine AO.c (x := eBool (decide (t9 ≠ (0 : Int)))) (Calm.int rfl rfl rfl rfl) ?_
  refine AO.nK [1, 2, 6, 8, 16] ?_
  rcases of_ite h with ⟨hc10, h⟩ | ⟨hc10, h⟩
  ·refine AW.condP _ rfl hc10 ?_
   refine AW.sr ?_
   refine AO.c (x := .st [(1, (eBool true)), (1, (.fl (.slice none 0 0)))]) (Calm.build (qs := [(0, (eBool true))]) rfl ⟨rfl, rfl, rfl, trivial⟩ Try.underlying62 rfl zr62 lay62 (.cons rfl rfl rfl rfl (Put.cast (Put.fld0 Put.here) rfl) .nil) rfl) ?_
   refine AO.coeC 17 (y' := (e62 (S62.mk true []))) rfl (Coe.st Coe.refl (Coe.st Coe.nil Coe.refl)) ?_
   refine AO.store (X' := (e62 (S62.mk true []))) 0 rfl rfl rfl rfl rfl rfl (Put.cast Put.here rfl) rfl rfl sz62 rfl ?_
   refine AO.c (Calm.assign rfl rfl) ?_
   refine AO.nH [6, 7] (H' := [(n4, (.mem (e62 (S62.mk true []))))]) (Sub.cons 0 rfl (Sub.nil _)) ?_
   refine AW.rK [6, 7] ?_
   have hr := Option.some.inj h
   subst hr
   exact ⟨[(e62 (S62.mk true [])), (eI64 (0 : Int))], ⟨⟨_, 0, rfl, rfl, ag62, sz62⟩, rfl, rfl, trivial⟩, rfl⟩
  ·refine AW.condN _ rfl hc10 ?_
   refine AW.sK [1, 2, 6, 8] ?_
   refine AW.seq_mid (fun ρ H => ∃ (b11 : Bool) (x12 : (List S82)), ρ = [(1, (eStr p1)), (6, (.ptr n4 0)), (8, (.ptr n8 0))] ∧ H = [(n4, (.mem (.st [(1, (eBool false)), (1, (.fl (.slice none 0 0)))]))), (n8, (.mem (.st [(1, (eBool b11)), (1, (.fz 5 (x12.map e82)))])))] ∧ deriv_Through_c0 k p1 b11 x12 = some r) ?_ ?_
   ·refine AW.sr ?_
    refine AO.c (Calm.move rfl rfl) ?_
    refine AO.c (Calm.lenStr rfl rfl Try.underlying9) ?_
    refine AO.c (Calm.move rfl rfl) ?_
    refine AO.nK [1, 2, 6, 8, 19, 20] ?_
    refine AW.block ?_
    refine AW.wK [1, 2, 6, 8, 19, 20] ?_
    refine AW.loop (fun kq ρ H => ∃ (b13 : Bool) (x14 : (List S82)) (x15 : Int), ρ = [(1, (eStr p1)), (2, (eI64 p2)), (6, (.ptr n4 0)), (8, (.ptr n8 0)), (19, (eI64 (p1.size : Int))), (20, (eI64 x15))] ∧ H = [(n4, (.mem (.st [(1, (eBool false)), (1, (.fl (.slice none 0 0)))]))), (n8, (.mem (.st [(1, (eBool b13)), (1, (.fz 5 (x14.map e82)))])))] ∧ deriv_Through_l1 k p1 p2 kq b13 x14 x15 = some r) k ⟨false, t5, (0 : Int), rfl, rfl, h⟩ ?_
    rintro kq17 _ _ ⟨b13, x14, x15, rfl, rfl, h⟩
    cases kq17 with
    | zero => rw [deriv_Through_l1.eq_1] at h; cases h
    | succ kq17 =>
    rw [deriv_Through_l1.eq_2] at h
    generalize hrec16 : deriv_Through_l1 k p1 p2 kq17 = rec16 at h
    refine AW.sr ?_
    refine AO.c (x := eBool (decide (x15 < (p1.size : Int)))) (Calm.int rfl rfl rfl rfl) ?_
    refine AO.nK [1, 2, 6, 8, 19, 20, 21] ?_
    refine AW.seq ?_
    rcases of_ite h with ⟨hc18, h⟩ | ⟨hc18, h⟩
    ·refine AW.condP _ rfl hc18 ?_
     refine AW.sK [1, 2, 6, 8, 19, 20] ?_
     refine AW.seq ?_
     refine AW.block ?_
     refine AW.sr ?_
     refine AO.c (Calm.move rfl rfl) ?_
     refine AO.c (Calm.assign rfl rfl) ?_
     refine AO.nK [1, 2, 6, 8, 9, 19, 20] ?_
     refine AW.seq ?_
     obtain ⟨hg19, h⟩ := of_guard h
     obtain ⟨t20, et20, h⟩ := of_bind h
     refine AW.regEff (by rfl) (by decide +kernel) (fun (σ : Nat → Nat) => ([(.ptr n8 1), (.fz 5 (x14.map e82)), (eStr p1), (eI64 x15), (eU8 (byteAt p1 x15)), (e62 t20), (.ptr (σ 6) 0), (.fl undef)] : List AV)) (fun (L : Nat → Bool) (σ : Nat → Nat) => ((n4, (.mem (.st [(1, (eBool false)), (1, (.fl (.slice none 0 0)))]))) :: (n8, (.mem (.st [(1, (eBool b13)), (1, (.fz 5 (x14.map e82)))]))) :: (bif L 6 then (bif L 7 then (((σ 6), (.mem (e62 t20))) :: []) else (((σ 6), (.mem (.st [(1, (eBool false)), (1, (.fl (.slice none 0 0)))]))) :: [])) else ([])) : Heap)) [(1, (eStr p1)), (2, (eI64 p2)), (6, (.ptr n4 0)), (8, (.ptr n8 0)), (9, (eI64 x15)), (19, (eI64 (p1.size : Int))), (20, (eI64 x15))] ⟨rfl, rfl, rfl, rfl, rfl, rfl, rfl, trivial⟩ (fun _ => rfl) (fun σ => (Sub.refl _)) ⟨?_, ?_, ?_, ?_, ?_, ?_, ?_, ?_, trivial⟩ (fun σ => [(1, (eStr p1)), (2, (eI64 p2)), (6, (.ptr n4 0)), (8, (.ptr n8 0)), (9, (eI64 x15)), (10, (.ptr (σ 6) 0)), (19, (eI64 (p1.size : Int))), (20, (eI64 x15))]) (fun σ => ((n4, (.mem (.st [(1, (eBool false)), (1, (.fl (.slice none 0 0)))]))) :: (n8, (.mem (.st [(1, (eBool b13)), (1, (.fz 5 (x14.map e82)))]))) :: ((σ 6), (.mem (e62 t20))) :: [])) (fun σ => ⟨rfl, rfl, rfl, rfl, rfl, rfl, rfl, rfl, trivial⟩) (fun σ => Sub.refl _) (fun σ => ?_)
     ·refine StepE.calm (fun _ _ => rfl) fun L σ hc hi hd => ?_
      refine AO.wK [8] ?_
      refine AO.c (x := .ptr n8 1) (Calm.fldPtr rfl rfl Try.underlying62 rfl sz58 _ rfl) ?_
      exact AO.nE (d := 23) rfl ⟨⟨23, _, rfl, rfl, rfl⟩, Sub.refl _⟩
     ·refine StepE.calm (fun _ _ => rfl) fun L σ hc hi hd => ?_
      refine AO.wK [23] ?_
      refine AO.c (Calm.load 1 rfl rfl rfl (At.cast (At.fldS (At.fld0 At.here)) rfl) ag58 sz58) ?_
      exact AO.nE (d := 24) rfl ⟨⟨24, _, rfl, rfl, rfl⟩, Sub.refl _⟩
     ·refine StepE.calm (fun _ _ => rfl) fun L σ hc hi hd => ?_
      refine AO.wK [1] ?_
      refine AO.c (Calm.move rfl rfl) ?_
      exact AO.nE (d := 25) rfl ⟨⟨25, _, rfl, rfl, rfl⟩, Sub.refl _⟩
     ·refine StepE.calm (fun _ _ => rfl) fun L σ hc hi hd => ?_
      refine AO.wK [9] ?_
      refine AO.c (Calm.move rfl rfl) ?_
      exact AO.nE (d := 26) rfl ⟨⟨26, _, rfl, rfl, rfl⟩, Sub.refl _⟩
     ·refine StepE.calm (fun _ _ => rfl) fun L σ hc hi hd => ?_
      refine AO.wK [25, 26] ?_
      refine AO.c (x := eU8 (byteAt p1 x15)) (Calm.idxS rfl rfl rfl hg19 Try.underlying9) ?_
      exact AO.nE (d := 27) rfl ⟨⟨27, _, rfl, rfl, rfl⟩, Sub.refl _⟩
     ·refine StepE.calm (fun _ _ => rfl) fun L σ hc hi hd => ?_
      refine AO.wK [24, 27] ?_
      refine AO.callS [(.fz 5 (x14.map e82)), (eU8 (byteAt p1 x15))] (e62 t20) 28 rfl (by decide) ok58 rfl rfl rfl ⟨rfl, rfl, rfl, rfl, trivial⟩ (deriv_derive_spec et20) ?_
      exact AO.nE (d := 28) rfl ⟨⟨28, _, rfl, rfl, rfl⟩, Sub.refl _⟩
     ·intro L σ hc hi hd
      have m7 : L 7 = false := hc.neg (i := 6) (j := 7) rfl (by rfl) hi
      refine AO.heq (H' := ((n4, (.mem (.st [(1, (eBool false)), (1, (.fl (.slice none 0 0)))]))) :: (n8, (.mem (.st [(1, (eBool b13)), (1, (.fz 5 (x14.map e82)))]))) :: [])) (by first | rfl | simp only [hi, m7, cond_true, cond_false]) ?_
      refine AO.wK [] ?_
      refine AO.alloc rfl 10 rfl (by decide) rfl zr62 lay62 fun n21 => ?_
      have a6 : addL L 6 6 = true := rfl
      have a7 : addL L 6 7 = false := m7
      have u6 : upd σ 6 n21 6 = n21 := rfl
      exact AO.nE (d := 10) rfl ⟨(upd σ 6 n21), (fun j hj => match j, hj with | 0, _ => rfl | 1, _ => rfl | 2, _ => rfl | 3, _ => rfl | 4, _ => rfl | 5, _ => rfl | 6, hj => Bool.noConfusion (hj.symm.trans hi) | 7, _ => rfl | _ + 8, _ => rfl), (fun d' hd' => ⟨_, rfl, by cases hd'; rfl⟩), Sub.of_eq (B := ((n4, (.mem (.st [(1, (eBool false)), (1, (.fl (.slice none 0 0)))]))) :: (n8, (.mem (.st [(1, (eBool b13)), (1, (.fz 5 (x14.map e82)))]))) :: (n21, (.mem (.st [(1, (eBool false)), (1, (.fl (.slice none 0 0)))]))) :: [])) (by simp only [a6, a7, u6, cond_true, cond_false]) (Sub.cons 1 rfl (Sub.cons 1 rfl (Sub.cons 0 rfl (Sub.refl _))))⟩
     ·intro L σ hc hi hd
      have y6 : L 6 = true := on_get hd (i := 6) (by rfl)
      refine AO.heq (H' := ((n4, (.mem (.st [(1, (eBool false)), (1, (.fl (.slice none 0 0)))]))) :: (n8, (.mem (.st [(1, (eBool b13)), (1, (.fz 5 (x14.map e82)))]))) :: ((σ 6), (.mem (.st [(1, (eBool false)), (1, (.fl (.slice none 0 0)))]))) :: [])) (by first | rfl | simp only [hi, y6, cond_true, cond_false]) ?_
      refine AO.wK [10, 28] ?_
      refine AO.store (X' := (e62 t20)) 2 rfl rfl rfl rfl rfl rfl (Put.cast Put.here rfl) rfl rfl sz62 rfl ?_
      have a6 : addL L 7 6 = true := y6
      have a7 : addL L 7 7 = true := rfl
      exact AO.n0 ⟨σ, (fun _ _ => rfl), (fun d' hd' => by cases hd'), Sub.of_eq (B := ((n4, (.mem (.st [(1, (eBool false)), (1, (.fl (.slice none 0 0)))]))) :: (n8, (.mem (.st [(1, (eBool b13)), (1, (.fz 5 (x14.map e82)))]))) :: ((σ 6), (.mem (e62 t20))) :: [])) (by simp only [a6, a7, cond_true, cond_false]) (Sub.refl _)⟩
     ·generalize σ 6 = n21
      refine AO.nK [1, 2, 6, 8, 9, 10, 19, 20] ?_
      refine AW.seq ?_
      refine AW.seq ?_
      obtain ⟨b22, hq23, h⟩ := of_bind h
      refine AW.regM [(1, (eStr p1)), (2, (eI64 p2)), (6, (.ptr n4 0)), (8, (.ptr n8 0)), (9, (eI64 x15)), (10, (.ptr n21 0)), (19, (eI64 (p1.size : Int))), (20, (eI64 x15)), (37, (eBool b22))] [(n4, (.mem (.st [(1, (eBool false)), (1, (.fl (.slice none 0 0)))]))), (n8, (.mem (.st [(1, (eBool b13)), (1, (.fz 5 (x14.map e82)))]))), (n21, (.mem (e62 t20)))] ?_ ?_
      ·refine AO.c (x := .ptr n21 0) (Calm.fldPtr rfl rfl Try.underlying62 rfl sz4 _ rfl) ?_
       refine AO.c (Calm.load 2 rfl rfl rfl (At.cast (At.fld0 At.here) rfl) ag4 sz4) ?_
       refine AO.c (Calm.move rfl rfl) ?_
       rcases of_ite hq23 with ⟨hc24, hq23⟩ | ⟨hc24, hq23⟩
       ·refine AO.sF rfl rfl (bD hc24) ?_
        refine AO.sF rfl rfl (bD hc24) ?_
        refine AO.sF rfl rfl (bD hc24) ?_
        refine AO.sF rfl rfl (bD hc24) ?_
        refine AO.sF rfl rfl (bD hc24) ?_
        refine AO.c (Calm.pickT rfl (bD hc24) rfl) ?_
        cases hq23
        refine AO.nilE ⟨rfl, rfl⟩ ?_ ?_
        · exact ⟨rfl, rfl, rfl, rfl, rfl, rfl, rfl, rfl, rfl, trivial⟩
        · exact (Sub.refl _)
       ·refine AO.cG (x := .ptr n21 1) rfl rfl (bD (eq_false_of_ne_true hc24)) (Calm.fldPtr rfl rfl Try.underlying62 rfl sz58 _ rfl) ?_
        refine AO.cG rfl rfl (bD (eq_false_of_ne_true hc24)) (Calm.load 2 rfl rfl rfl (At.cast (At.fldS (At.fld0 At.here)) rfl) ag58 sz58) ?_
        refine AO.cG rfl rfl (bD (eq_false_of_ne_true hc24)) (Calm.lenL rfl rfl Try.underlying58) ?_
        refine AO.cG rfl rfl (bD (eq_false_of_ne_true hc24)) (Calm.move rfl rfl) ?_
        refine AO.cG (x := eBool (decide (p2 < (t20.f1.length : Int)))) rfl rfl (bD (eq_false_of_ne_true hc24)) (Calm.int rfl rfl rfl rfl) ?_
        refine AO.c (Calm.pickF rfl (bD (eq_false_of_ne_true hc24)) rfl) ?_
        cases hq23
        refine AO.nilE ⟨rfl, rfl⟩ ?_ ?_
        · exact ⟨rfl, rfl, rfl, rfl, rfl, rfl, rfl, rfl, rfl, trivial⟩
        · exact (Sub.refl _)
      ·rcases of_ite h with ⟨hc25, h⟩ | ⟨hc25, h⟩
       ·refine AW.condT' _ rfl hc25 ?_
        refine AW.sr ?_
        refine AO.c (Calm.load 2 rfl rfl rfl (At.cast At.here rfl) ag62 sz62) ?_
        refine AO.c (Calm.move rfl rfl) ?_
        refine AO.store (X' := (e62 t20)) 0 rfl rfl rfl rfl rfl rfl (Put.cast Put.here rfl) rfl rfl sz62 rfl ?_
        refine AO.c (Calm.assign rfl rfl) ?_
        refine AO.nH [6, 7] (H' := [(n4, (.mem (e62 t20)))]) (Sub.cons 0 rfl (Sub.nil _)) ?_
        refine AW.rK [6, 7] ?_
        have hr := Option.some.inj h
        subst hr
        exact ⟨[(e62 t20), (eI64 x15)], ⟨⟨_, 0, rfl, rfl, ag62, sz62⟩, rfl, rfl, trivial⟩, rfl⟩
       ·refine AW.condF' _ rfl hc25 ?_
        refine AW.sK [1, 2, 6, 8, 10, 19, 20] ?_
        refine AW.reg ?_
        refine AO.c (Calm.load 2 rfl rfl rfl (At.cast At.here rfl) ag62 sz62) ?_
        refine AO.store (X' := (e62 t20)) 1 rfl rfl rfl rfl rfl rfl (Put.cast Put.here rfl) rfl rfl sz62 rfl ?_
        refine AO.nH [1, 2, 6, 8, 19, 20] (H' := [(n4, (.mem (.st [(1, (eBool false)), (1, (.fl (.slice none 0 0)))]))), (n8, (.mem (e62 t20)))]) (Sub.cons 0 rfl (Sub.cons 0 rfl (Sub.nil _))) ?_
        refine AW.reg ?_
        refine AO.c (x := eI64 (w64 (x15 + (1 : Int)))) (Calm.int rfl rfl rfl rfl) ?_
        refine AO.c (Calm.move rfl rfl) ?_
        refine AO.nK [1, 2, 6, 8, 19, 20] ?_
        exact ⟨kq17, Nat.lt_succ_self _, t20.f0, t20.f1, (w64 (x15 + (1 : Int))), rfl, rfl, by rw [hrec16]; exact h⟩
    ·refine AW.condN _ rfl hc18 ?_
     refine AW.eK [1, 6, 8] ?_
     exact ⟨b13, x14, rfl, rfl, h⟩
   ·rintro _ _ ⟨b11, x12, rfl, rfl, h⟩
    rw [deriv_Through_c0.eq_1] at h
    refine AW.sr ?_
    refine AO.c (Calm.load 1 rfl rfl rfl (At.cast At.here rfl) ag62 sz62) ?_
    refine AO.c (Calm.move rfl rfl) ?_
    refine AO.c (Calm.lenStr rfl rfl Try.underlying9) ?_
    refine AO.store (X' := (e62 (S62.mk b11 x12))) 0 rfl rfl rfl rfl rfl rfl (Put.cast Put.here rfl) rfl rfl sz62 rfl ?_
    refine AO.c (Calm.assign rfl rfl) ?_
    refine AO.nH [6, 7] (H' := [(n4, (.mem (e62 (S62.mk b11 x12))))]) (Sub.cons 0 rfl (Sub.nil _)) ?_
    refine AW.rK [6, 7] ?_
    have hr := Option.some.inj h
    subst hr
    exact ⟨[(e62 (S62.mk b11 x12)), (eI64 (p1.size : Int))], ⟨⟨_, 0, rfl, rfl, ag62, sz62⟩, rfl, rfl, trivial⟩, rfl⟩
end Go.Avl.T3
