/- Parts: T7f94, T7f74, T7f95. -/
import Derived.Test.YtpkgpmmcbpfenaaAF1
import Derived.Test.YtpkgpmmcbpfenaaAF3
/- (*bosket/nfa.maker).add; printed by avmain.py. -/
namespace Go.Avl.T7
open Go Go.RowKit Go.Proofs Go.Avl
set_option linter.unusedVariables false
set_option maxRecDepth 100000
set_option maxHeartbeats 4000000
set_option linter.unusedSimpArgs false
attribute [local irreducible] AW AO AQ Spec SpecH Calm

def F94_c0 (k : Nat) (p1 : S131) (p2 : (List S150)) (t5 : (S150 × S146)) (x9 : Int) (x11 : (List S152)) (x12 : Int) (x13 : Int) : Option ((List S150) × S146) :=
  (F118 k p1.f0).bind fun t14 =>
  if 0 ≤ (w64 ((p2.length : Int) - t14)) ∧ (w64 ((p2.length : Int) - t14)) ≤ (p2.length : Int) then if (p2.take ((w64 ((p2.length : Int) - t14)).toNat) ++ ([t5.1] : List S150)).length * 16 ≤ 140737488355328 then some ((p2.take ((w64 ((p2.length : Int) - t14)).toNat) ++ ([t5.1] : List S150)), (S146.mk (S121.mk x9 x11 x12 x13)))
  else none
  else none
def F94_l1 (k : Nat) (p1 : S131) (p2 : (List S150)) (t5 : (S150 × S146)) : Nat → Int → (List S152) → Int → Int → Int → Option ((List S150) × S146)
  | 0, _, _, _, _, _ => none
  | j + 1, x43, x45, x46, x47, x48 =>
    if x48 < (((p2.length - (w64 ((p2.length : Int) - (2 : Int))).toNat) : Nat) : Int) then if 0 ≤ x48 ∧ x48 < (((p2.length - (w64 ((p2.length : Int) - (2 : Int))).toNat) : Nat) : Int) then (F121 k (S146.mk (S121.mk x43 x45 x46 x47)) t5.1.f0 ((lget p2 ((w64 ((p2.length : Int) - (2 : Int))) + x48)).f0)).bind fun t55 =>
    (F121 k (S146.mk (S121.mk t55.f0.f0 t55.f0.f1 t55.f0.f2 t55.f0.f3)) ((lget p2 ((w64 ((p2.length : Int) - (2 : Int))) + x48)).f1) t5.1.f1).bind fun t58 =>
    (F94_l1 k p1 p2 t5 j) t58.f0.f0 t58.f0.f1 t58.f0.f2 t58.f0.f3 (w64 (x48 + (1 : Int)))
    else none
    else F94_c0 k p1 p2 t5 x43 x45 x46 x47
def F94_c2 (k : Nat) (p1 : S131) (p2 : (List S150)) (t5 : (S150 × S146)) (x69 : Int) (x71 : (List S152)) (x72 : Int) (x73 : Int) : Option ((List S150) × S146) :=
  if p1.f0 ≠ (5 : Int) then (F121 k (S146.mk (S121.mk x69 x71 x72 x73)) t5.1.f0 t5.1.f1).bind fun t75 =>
  F94_c0 k p1 p2 t5 t75.f0.f0 t75.f0.f1 t75.f0.f2 t75.f0.f3
  else F94_c0 k p1 p2 t5 x69 x71 x72 x73
def F94 (k : Nat) (p0 : S146) (p1 : S131) (p2 : (List S150)) : Option ((List S150) × S146) :=
  (F120 k (S146.mk (S121.mk p0.f0.f0 p0.f0.f1 p0.f0.f2 p0.f0.f3))).bind fun t5 =>
  if p1.f0 = (0 : Int) then (F121 k (S146.mk (S121.mk t5.2.f0.f0 t5.2.f0.f1 t5.2.f0.f2 t5.2.f0.f3)) t5.1.f0 t5.1.f1).bind fun t20 =>
  F94_c0 k p1 p2 t5 t20.f0.f0 t20.f0.f1 t20.f0.f2 t20.f0.f3
  else if p1.f0 = (1 : Int) then if (t5.2.f0.f1 ++ ([(S152.mk t5.1.f0 t5.1.f1 p1.f1 false)] : List S152)).length * 56 ≤ 140737488355328 then F94_c0 k p1 p2 t5 t5.2.f0.f0 (t5.2.f0.f1 ++ ([(S152.mk t5.1.f0 t5.1.f1 p1.f1 false)] : List S152)) t5.2.f0.f2 t5.2.f0.f3
  else none
  else if p1.f0 = (2 : Int) then if 0 ≤ (w64 ((p2.length : Int) - (2 : Int))) ∧ (w64 ((p2.length : Int) - (2 : Int))) < (p2.length : Int) then if 0 ≤ (w64 ((p2.length : Int) - (1 : Int))) ∧ (w64 ((p2.length : Int) - (1 : Int))) < (p2.length : Int) then (F121 k (S146.mk (S121.mk t5.2.f0.f0 t5.2.f0.f1 t5.2.f0.f2 t5.2.f0.f3)) t5.1.f0 ((lget p2 (w64 ((p2.length : Int) - (2 : Int)))).f0)).bind fun t32 =>
  (F121 k (S146.mk (S121.mk t32.f0.f0 t32.f0.f1 t32.f0.f2 t32.f0.f3)) ((lget p2 (w64 ((p2.length : Int) - (2 : Int)))).f1) ((lget p2 (w64 ((p2.length : Int) - (1 : Int)))).f0)).bind fun t35 =>
  (F121 k (S146.mk (S121.mk t35.f0.f0 t35.f0.f1 t35.f0.f2 t35.f0.f3)) ((lget p2 (w64 ((p2.length : Int) - (1 : Int)))).f1) t5.1.f1).bind fun t38 =>
  F94_c0 k p1 p2 t5 t38.f0.f0 t38.f0.f1 t38.f0.f2 t38.f0.f3
  else none
  else none
  else if p1.f0 = (3 : Int) then if 0 ≤ (w64 ((p2.length : Int) - (2 : Int))) ∧ (w64 ((p2.length : Int) - (2 : Int))) ≤ (p2.length : Int) then F94_l1 k p1 p2 t5 k t5.2.f0.f0 t5.2.f0.f1 t5.2.f0.f2 t5.2.f0.f3 (0 : Int)
  else none
  else if 0 ≤ (w64 ((p2.length : Int) - (1 : Int))) ∧ (w64 ((p2.length : Int) - (1 : Int))) < (p2.length : Int) then (F121 k (S146.mk (S121.mk t5.2.f0.f0 t5.2.f0.f1 t5.2.f0.f2 t5.2.f0.f3)) t5.1.f0 ((lget p2 (w64 ((p2.length : Int) - (1 : Int)))).f0)).bind fun t63 =>
  (F121 k (S146.mk (S121.mk t63.f0.f0 t63.f0.f1 t63.f0.f2 t63.f0.f3)) ((lget p2 (w64 ((p2.length : Int) - (1 : Int)))).f1) t5.1.f1).bind fun t66 =>
  if p1.f0 ≠ (6 : Int) then (F121 k (S146.mk (S121.mk t66.f0.f0 t66.f0.f1 t66.f0.f2 t66.f0.f3)) ((lget p2 (w64 ((p2.length : Int) - (1 : Int)))).f1) ((lget p2 (w64 ((p2.length : Int) - (1 : Int)))).f0)).bind fun t79 =>
  F94_c2 k p1 p2 t5 t79.f0.f0 t79.f0.f1 t79.f0.f2 t79.f0.f3
  else F94_c2 k p1 p2 t5 t66.f0.f0 t66.f0.f1 t66.f0.f2 t66.f0.f3
  else none
theorem F94_spec {k : Nat} {p0 : S146} {p1 : S131} {p2 : (List S150)} {r : ((List S150) × S146)} (h : F94 k p0 p1 p2 = some r) {q0 : Nat} {q0_0 : Nat} {q2 : Nat} {T0 : Heap} : SpecH Try.prog 94 [(.ptr q0 0), (e131 p1), (.own q2 0 p2.length)] ((q0, (.mem (.st [(4, (.st [(1, (eI64 p0.f0.f0)), (1, (.own q0_0 0 p0.f0.f1.length)), (1, (eI64 p0.f0.f2)), (1, (eI64 p0.f0.f3))]))]))) :: (q0_0, (.mem (.ar 7 (p0.f0.f1.map e152)))) :: (q2, .mem (.ar 2 (p2.map e150))) :: T0) (fun x H' => ∃ m m0_0, x = .own m 0 r.1.length ∧ Sub ((m, .mem (.ar 2 (r.1.map e150))) :: (q0, (.mem (.st [(4, (.st [(1, (eI64 r.2.f0.f0)), (1, (.own m0_0 0 r.2.f0.f1.length)), (1, (eI64 r.2.f0.f2)), (1, (eI64 r.2.f0.f3))]))]))) :: (m0_0, (.mem (.ar 7 (r.2.f0.f1.map e152)))) :: T0) H') := by
  rw [F94.eq_1] at h
  refine SpecH.intro (res := [.tmp 6]) Try.func94 rfl rfl rfl (Nat.le_of_ble_eq_true rfl) ?_
  refine AW.sr ?_
  refine AO.box rfl 4 rfl (by decide) rfl rfl rfl fun n4 => ?_
  refine AO.ag rfl rfl ?_
  refine AO.nH [0, 2, 4] (H' := ((q0, (.mem (.st [(4, (.st [(1, (eI64 p0.f0.f0)), (1, (.own q0_0 0 p0.f0.f1.length)), (1, (eI64 p0.f0.f2)), (1, (eI64 p0.f0.f3))]))]))) :: (q0_0, (.mem (.ar 7 (p0.f0.f1.map e152)))) :: (q2, (.mem (.ar 2 (p2.map e150)))) :: (n4, (.mem (e131 p1))) :: T0)) (Sub.cons 1 rfl (Sub.cons 1 rfl (Sub.cons 1 rfl (Sub.cons 0 rfl (Sub.refl _))))) ?_
  refine AW.sr ?_
  refine AO.mv rfl rfl ?_
  refine AO.c (Calm.lenOwn rfl rfl Try.underlying147) ?_
  refine AO.ag rfl rfl ?_
  refine AO.nK [0, 2, 4, 7] ?_
  refine AW.sr ?_
  refine AO.mv rfl rfl ?_
  obtain ⟨t5, et5, h⟩ := of_bind h
  refine AO.callH [(.ptr q0 0)] ((q0, (.mem (.st [(4, (.st [(1, (eI64 p0.f0.f0)), (1, (.own q0_0 0 p0.f0.f1.length)), (1, (eI64 p0.f0.f2)), (1, (eI64 p0.f0.f3))]))]))) :: (q0_0, (.mem (.ar 7 (p0.f0.f1.map e152)))) :: (q2, (.mem (.ar 2 (p2.map e150)))) :: (n4, (.mem (e131 p1))) :: T0) _ rfl rfl rfl 17 rfl (by decide) ok120 ⟨rfl, rfl, trivial⟩ (Sub.cons 0 rfl (Sub.cons 0 rfl (Sub.refl _))) (F120_spec et5) ?_
  rintro _ _ ⟨n7, rfl, hs6⟩
  refine AO.wH [0, 2, 4, 7, 16, 17] hs6 ?_
  refine AO.alloc rfl 8 rfl (by decide) rfl zr150 lay150 fun n8 => ?_
  refine AO.store (X' := (e150 t5.1)) 0 rfl rfl rfl rfl rfl rfl (Put.cast Put.here rfl) rfl rfl sz150 rfl ?_
  refine AO.nH [0, 2, 4, 7, 8] (H' := ((q0, (.mem (.st [(4, (.st [(1, (eI64 t5.2.f0.f0)), (1, (.own n7 0 t5.2.f0.f1.length)), (1, (eI64 t5.2.f0.f2)), (1, (eI64 t5.2.f0.f3))]))]))) :: (n7, (.mem (.ar 7 (t5.2.f0.f1.map e152)))) :: (q2, (.mem (.ar 2 (p2.map e150)))) :: (n4, (.mem (e131 p1))) :: (n8, (.mem (e150 t5.1))) :: T0)) (Sub.cons 1 rfl (Sub.cons 1 rfl (Sub.cons 1 rfl (Sub.cons 1 rfl (Sub.cons 0 rfl (Sub.refl _)))))) ?_
  refine AW.seq_mid (fun ρ H => ∃ (n10 : Nat) (x9 : Int) (x11 : (List S152)) (x12 : Int) (x13 : Int), ρ = [(2, (.own q2 0 p2.length)), (4, (.ptr n4 0)), (7, (eI64 (p2.length : Int))), (8, (.ptr n8 0))] ∧ H = ((q0, (.mem (.st [(4, (.st [(1, (eI64 x9)), (1, (.own n10 0 x11.length)), (1, (eI64 x12)), (1, (eI64 x13))]))]))) :: (n10, (.mem (.ar 7 (x11.map e152)))) :: (q2, (.mem (.ar 2 (p2.map e150)))) :: (n4, (.mem (e131 p1))) :: (n8, (.mem (e150 t5.1))) :: T0) ∧ F94_c0 k p1 p2 t5 x9 x11 x12 x13 = some r) ?_ ?_
  ·refine AW.sr ?_
   refine AO.c (x := .ptr n4 0) (Calm.fldPtr rfl rfl Try.underlying131 rfl sz3 _ rfl) ?_
   refine AO.c (Calm.load 3 rfl rfl rfl (At.cast (At.fld0 At.here) rfl) ag3 sz3) ?_
   refine AO.nK [0, 2, 4, 7, 8, 19] ?_
   refine AW.block ?_
   refine AW.sr ?_
   refine AO.c (x := eBool (decide (p1.f0 = (0 : Int)))) (Calm.int rfl rfl rfl rfl) ?_
   refine AO.ag rfl rfl ?_
   refine AO.nK [0, 2, 4, 7, 8, 19, 55] ?_
   rcases of_ite h with ⟨hc19, h⟩ | ⟨hc19, h⟩
   ·refine AW.condP _ rfl hc19 ?_
    refine AW.reg ?_
    refine AO.mv rfl rfl ?_
    refine AO.c (x := .ptr n8 0) (Calm.fldPtr rfl rfl Try.underlying150 rfl sz3 _ rfl) ?_
    refine AO.c (Calm.load 4 rfl rfl rfl (At.cast (At.fld0 At.here) rfl) ag3 sz3) ?_
    refine AO.c (x := .ptr n8 1) (Calm.fldPtr rfl rfl Try.underlying150 rfl sz3 _ rfl) ?_
    refine AO.c (Calm.load 4 rfl rfl rfl (At.cast (At.fldS (At.fld0 At.here)) rfl) ag3 sz3) ?_
    obtain ⟨t20, et20, h⟩ := of_bind h
    refine AO.callH [(.ptr q0 0), (eI64 t5.1.f0), (eI64 t5.1.f1)] ((q0, (.mem (.st [(4, (.st [(1, (eI64 t5.2.f0.f0)), (1, (.own n7 0 t5.2.f0.f1.length)), (1, (eI64 t5.2.f0.f2)), (1, (eI64 t5.2.f0.f3))]))]))) :: (n7, (.mem (.ar 7 (t5.2.f0.f1.map e152)))) :: (q2, (.mem (.ar 2 (p2.map e150)))) :: (n4, (.mem (e131 p1))) :: (n8, (.mem (e150 t5.1))) :: T0) _ rfl rfl rfl 62 rfl (by decide) ok121 ⟨rfl, rfl, rfl, rfl, rfl, rfl, trivial⟩ (Sub.cons 0 rfl (Sub.cons 0 rfl (Sub.refl _))) (F121_spec et20) ?_
    rintro _ _ ⟨n22, rfl, hs21⟩
    refine AO.wH [0, 2, 4, 7, 8, 19, 55, 57, 58, 59, 60, 61, 62] hs21 ?_
    refine AO.nK [2, 4, 7, 8] ?_
    exact ⟨n22, t20.f0.f0, t20.f0.f1, t20.f0.f2, t20.f0.f3, rfl, rfl, h⟩
   ·refine AW.condN _ rfl hc19 ?_
    refine AW.sr ?_
    refine AO.c (x := eBool (decide (p1.f0 = (1 : Int)))) (Calm.int rfl rfl rfl rfl) ?_
    refine AO.ag rfl rfl ?_
    refine AO.nK [0, 2, 4, 7, 8, 19, 63] ?_
    rcases of_ite h with ⟨hc23, h⟩ | ⟨hc23, h⟩
    ·refine AW.condP _ rfl hc23 ?_
     obtain ⟨hg26, h⟩ := of_guard h
     refine AW.regEff (by rfl) (by decide +kernel) (fun (σ : Nat → Nat) => ([(.ptr q0 0), (.ptr q0 0), (.ptr q0 0), (.ptr q0 0), (.ptr q0 1), (.own n7 0 t5.2.f0.f1.length), (.ptr n8 0), (eI64 t5.1.f0), (.ptr n8 1), (eI64 t5.1.f1), (.ptr n4 1), (.ar 1 (p1.f1.toList.map eU64)), (e152 (S152.mk t5.1.f0 t5.1.f1 p1.f1 false)), (.fz 7 (([(S152.mk t5.1.f0 t5.1.f1 p1.f1 false)] : List S152).map e152)), (.own (σ 14) 0 (t5.2.f0.f1 ++ ([(S152.mk t5.1.f0 t5.1.f1 p1.f1 false)] : List S152)).length), (.ptr q0 0), (.ptr q0 0), (.ptr q0 1), (.fl undef)] : List AV)) (fun (L : Nat → Bool) (σ : Nat → Nat) => ((q2, (.mem (.ar 2 (p2.map e150)))) :: (n4, (.mem (e131 p1))) :: (n8, (.mem (e150 t5.1))) :: (bif L 14 then (bif L 18 then ((q0, (.mem (.st [(4, (.st [(1, (eI64 t5.2.f0.f0)), (1, (.own (σ 14) 0 (t5.2.f0.f1 ++ ([(S152.mk t5.1.f0 t5.1.f1 p1.f1 false)] : List S152)).length)), (1, (eI64 t5.2.f0.f2)), (1, (eI64 t5.2.f0.f3))]))]))) :: ((σ 14), (.mem (.ar 7 ((t5.2.f0.f1 ++ ([(S152.mk t5.1.f0 t5.1.f1 p1.f1 false)] : List S152)).map e152)))) :: T0) else ((q0, (.mem (.st [(4, (.st [(1, (eI64 t5.2.f0.f0)), (1, (.own n7 0 t5.2.f0.f1.length)), (1, (eI64 t5.2.f0.f2)), (1, (eI64 t5.2.f0.f3))]))]))) :: ((σ 14), (.mem (.ar 7 ((t5.2.f0.f1 ++ ([(S152.mk t5.1.f0 t5.1.f1 p1.f1 false)] : List S152)).map e152)))) :: T0)) else ((q0, (.mem (.st [(4, (.st [(1, (eI64 t5.2.f0.f0)), (1, (.own n7 0 t5.2.f0.f1.length)), (1, (eI64 t5.2.f0.f2)), (1, (eI64 t5.2.f0.f3))]))]))) :: (n7, (.mem (.ar 7 (t5.2.f0.f1.map e152)))) :: T0)) : Heap)) [(0, (.ptr q0 0)), (2, (.own q2 0 p2.length)), (4, (.ptr n4 0)), (7, (eI64 (p2.length : Int))), (8, (.ptr n8 0))] ⟨rfl, rfl, rfl, rfl, rfl, trivial⟩ (fun _ => rfl) (fun σ => (Sub.cons 2 rfl (Sub.cons 2 rfl (Sub.cons 2 rfl (Sub.cons 0 rfl (Sub.cons 0 rfl (Sub.refl _))))))) ⟨?_, ?_, ?_, ?_, ?_, ?_, ?_, ?_, ?_, ?_, ?_, ?_, ?_, ?_, ?_, ?_, ?_, ?_, ?_, trivial⟩ (fun σ => [(2, (.own q2 0 p2.length)), (4, (.ptr n4 0)), (7, (eI64 (p2.length : Int))), (8, (.ptr n8 0))]) (fun σ => ((q2, (.mem (.ar 2 (p2.map e150)))) :: (n4, (.mem (e131 p1))) :: (n8, (.mem (e150 t5.1))) :: (q0, (.mem (.st [(4, (.st [(1, (eI64 t5.2.f0.f0)), (1, (.own (σ 14) 0 (t5.2.f0.f1 ++ ([(S152.mk t5.1.f0 t5.1.f1 p1.f1 false)] : List S152)).length)), (1, (eI64 t5.2.f0.f2)), (1, (eI64 t5.2.f0.f3))]))]))) :: ((σ 14), (.mem (.ar 7 ((t5.2.f0.f1 ++ ([(S152.mk t5.1.f0 t5.1.f1 p1.f1 false)] : List S152)).map e152)))) :: T0)) (fun σ => ⟨rfl, rfl, rfl, rfl, trivial⟩) (fun σ => Sub.refl _) (fun σ => ?_)
     ·refine StepE.calm (fun _ _ => rfl) fun L σ hc hi hd => ?_
      have m18 : L 18 = false := hc.neg (i := 0) (j := 18) rfl (by rfl) hi
      cases b14 : L 14 with
      | true =>
        refine AO.heq (H' := ((q2, (.mem (.ar 2 (p2.map e150)))) :: (n4, (.mem (e131 p1))) :: (n8, (.mem (e150 t5.1))) :: (q0, (.mem (.st [(4, (.st [(1, (eI64 t5.2.f0.f0)), (1, (.own n7 0 t5.2.f0.f1.length)), (1, (eI64 t5.2.f0.f2)), (1, (eI64 t5.2.f0.f3))]))]))) :: ((σ 14), (.mem (.ar 7 ((t5.2.f0.f1 ++ ([(S152.mk t5.1.f0 t5.1.f1 p1.f1 false)] : List S152)).map e152)))) :: T0)) (by first | rfl | simp only [b14, m18, cond_true, cond_false]) ?_
        refine AO.wK [0] ?_
        refine AO.mv rfl rfl ?_
        exact AO.nE (d := 65) rfl ⟨⟨65, _, rfl, rfl, rfl⟩, Sub.of_eq (by first | rfl | simp only [b14, m18, cond_true, cond_false]) (Sub.refl _)⟩
      | false =>
        refine AO.heq (H' := ((q2, (.mem (.ar 2 (p2.map e150)))) :: (n4, (.mem (e131 p1))) :: (n8, (.mem (e150 t5.1))) :: (q0, (.mem (.st [(4, (.st [(1, (eI64 t5.2.f0.f0)), (1, (.own n7 0 t5.2.f0.f1.length)), (1, (eI64 t5.2.f0.f2)), (1, (eI64 t5.2.f0.f3))]))]))) :: (n7, (.mem (.ar 7 (t5.2.f0.f1.map e152)))) :: T0)) (by first | rfl | simp only [b14, m18, cond_true, cond_false]) ?_
        refine AO.wK [0] ?_
        refine AO.mv rfl rfl ?_
        exact AO.nE (d := 65) rfl ⟨⟨65, _, rfl, rfl, rfl⟩, Sub.of_eq (by first | rfl | simp only [b14, m18, cond_true, cond_false]) (Sub.refl _)⟩
     ·refine StepE.calm (fun _ _ => rfl) fun L σ hc hi hd => ?_
      have m2 : L 2 = false := hc.neg (i := 1) (j := 2) rfl (by rfl) hi
      have m3 : L 3 = false := hc.neg (i := 2) (j := 3) rfl (by rfl) m2
      have m4 : L 4 = false := hc.neg (i := 3) (j := 4) rfl (by rfl) m3
      have m5 : L 5 = false := hc.neg (i := 4) (j := 5) rfl (by rfl) m4
      have m14 : L 14 = false := hc.neg (i := 5) (j := 14) rfl (by rfl) m5
      have m18 : L 18 = false := hc.neg (i := 1) (j := 18) rfl (by rfl) hi
      refine AO.heq (H' := ((q2, (.mem (.ar 2 (p2.map e150)))) :: (n4, (.mem (e131 p1))) :: (n8, (.mem (e150 t5.1))) :: (q0, (.mem (.st [(4, (.st [(1, (eI64 t5.2.f0.f0)), (1, (.own n7 0 t5.2.f0.f1.length)), (1, (eI64 t5.2.f0.f2)), (1, (eI64 t5.2.f0.f3))]))]))) :: (n7, (.mem (.ar 7 (t5.2.f0.f1.map e152)))) :: T0)) (by first | rfl | simp only [m14, m18, cond_true, cond_false]) ?_
      refine AO.wK [0] ?_
      refine AO.mv rfl rfl ?_
      exact AO.nE (d := 66) rfl ⟨⟨66, _, rfl, rfl, rfl⟩, Sub.of_eq (by first | rfl | simp only [m14, m18, cond_true, cond_false]) (Sub.refl _)⟩
     ·refine StepE.calm (fun _ _ => rfl) fun L σ hc hi hd => ?_
      have m3 : L 3 = false := hc.neg (i := 2) (j := 3) rfl (by rfl) hi
      have m4 : L 4 = false := hc.neg (i := 3) (j := 4) rfl (by rfl) m3
      have m5 : L 5 = false := hc.neg (i := 4) (j := 5) rfl (by rfl) m4
      have m14 : L 14 = false := hc.neg (i := 5) (j := 14) rfl (by rfl) m5
      have m18 : L 18 = false := hc.neg (i := 2) (j := 18) rfl (by rfl) hi
      refine AO.heq (H' := ((q2, (.mem (.ar 2 (p2.map e150)))) :: (n4, (.mem (e131 p1))) :: (n8, (.mem (e150 t5.1))) :: (q0, (.mem (.st [(4, (.st [(1, (eI64 t5.2.f0.f0)), (1, (.own n7 0 t5.2.f0.f1.length)), (1, (eI64 t5.2.f0.f2)), (1, (eI64 t5.2.f0.f3))]))]))) :: (n7, (.mem (.ar 7 (t5.2.f0.f1.map e152)))) :: T0)) (by first | rfl | simp only [m14, m18, cond_true, cond_false]) ?_
      refine AO.wK [66] ?_
      refine AO.c (Calm.nilCheck rfl rfl) ?_
      exact AO.nE (d := 67) rfl ⟨⟨67, _, rfl, rfl, rfl⟩, Sub.of_eq (by first | rfl | simp only [m14, m18, cond_true, cond_false]) (Sub.refl _)⟩
     ·refine StepE.calm (fun _ _ => rfl) fun L σ hc hi hd => ?_
      have m4 : L 4 = false := hc.neg (i := 3) (j := 4) rfl (by rfl) hi
      have m5 : L 5 = false := hc.neg (i := 4) (j := 5) rfl (by rfl) m4
      have m14 : L 14 = false := hc.neg (i := 5) (j := 14) rfl (by rfl) m5
      have m18 : L 18 = false := hc.neg (i := 3) (j := 18) rfl (by rfl) hi
      refine AO.heq (H' := ((q2, (.mem (.ar 2 (p2.map e150)))) :: (n4, (.mem (e131 p1))) :: (n8, (.mem (e150 t5.1))) :: (q0, (.mem (.st [(4, (.st [(1, (eI64 t5.2.f0.f0)), (1, (.own n7 0 t5.2.f0.f1.length)), (1, (eI64 t5.2.f0.f2)), (1, (eI64 t5.2.f0.f3))]))]))) :: (n7, (.mem (.ar 7 (t5.2.f0.f1.map e152)))) :: T0)) (by first | rfl | simp only [m14, m18, cond_true, cond_false]) ?_
      refine AO.wK [67] ?_
      refine AO.c (x := .ptr q0 0) (Calm.fldPtr rfl rfl Try.underlying146 rfl sz121 _ rfl) ?_
      exact AO.nE (d := 68) rfl ⟨⟨68, _, rfl, rfl, rfl⟩, Sub.of_eq (by first | rfl | simp only [m14, m18, cond_true, cond_false]) (Sub.refl _)⟩
     ·refine StepE.calm (fun _ _ => rfl) fun L σ hc hi hd => ?_
      have m5 : L 5 = false := hc.neg (i := 4) (j := 5) rfl (by rfl) hi
      have m14 : L 14 = false := hc.neg (i := 5) (j := 14) rfl (by rfl) m5
      have m18 : L 18 = false := hc.neg (i := 4) (j := 18) rfl (by rfl) hi
      refine AO.heq (H' := ((q2, (.mem (.ar 2 (p2.map e150)))) :: (n4, (.mem (e131 p1))) :: (n8, (.mem (e150 t5.1))) :: (q0, (.mem (.st [(4, (.st [(1, (eI64 t5.2.f0.f0)), (1, (.own n7 0 t5.2.f0.f1.length)), (1, (eI64 t5.2.f0.f2)), (1, (eI64 t5.2.f0.f3))]))]))) :: (n7, (.mem (.ar 7 (t5.2.f0.f1.map e152)))) :: T0)) (by first | rfl | simp only [m14, m18, cond_true, cond_false]) ?_
      refine AO.wK [68] ?_
      refine AO.c (x := .ptr q0 1) (Calm.fldPtr rfl rfl Try.underlying121 rfl sz119 _ rfl) ?_
      exact AO.nE (d := 69) rfl ⟨⟨69, _, rfl, rfl, rfl⟩, Sub.of_eq (by first | rfl | simp only [m14, m18, cond_true, cond_false]) (Sub.refl _)⟩
     ·refine StepE.calm (fun _ _ => rfl) fun L σ hc hi hd => ?_
      have m14 : L 14 = false := hc.neg (i := 5) (j := 14) rfl (by rfl) hi
      have m18 : L 18 = false := hc.neg (i := 5) (j := 18) rfl (by rfl) hi
      refine AO.heq (H' := ((q2, (.mem (.ar 2 (p2.map e150)))) :: (n4, (.mem (e131 p1))) :: (n8, (.mem (e150 t5.1))) :: (q0, (.mem (.st [(4, (.st [(1, (eI64 t5.2.f0.f0)), (1, (.own n7 0 t5.2.f0.f1.length)), (1, (eI64 t5.2.f0.f2)), (1, (eI64 t5.2.f0.f3))]))]))) :: (n7, (.mem (.ar 7 (t5.2.f0.f1.map e152)))) :: T0)) (by first | rfl | simp only [m14, m18, cond_true, cond_false]) ?_
      refine AO.wK [69] ?_
      refine AO.c (Calm.load 3 rfl rfl rfl (At.cast (At.fld0 (At.fldS (At.fld0 At.here))) rfl) ag119 sz119) ?_
      exact AO.nE (d := 70) rfl ⟨⟨70, _, rfl, rfl, rfl⟩, Sub.of_eq (by first | rfl | simp only [m14, m18, cond_true, cond_false]) (Sub.refl _)⟩
     ·refine StepE.calm (fun _ _ => rfl) fun L σ hc hi hd => ?_
      refine AO.wK [8] ?_
      refine AO.c (x := .ptr n8 0) (Calm.fldPtr rfl rfl Try.underlying150 rfl sz3 _ rfl) ?_
      exact AO.nE (d := 71) rfl ⟨⟨71, _, rfl, rfl, rfl⟩, Sub.refl _⟩
     ·refine StepE.calm (fun _ _ => rfl) fun L σ hc hi hd => ?_
      refine AO.wK [71] ?_
      refine AO.c (Calm.load 2 rfl rfl rfl (At.cast (At.fld0 At.here) rfl) ag3 sz3) ?_
      exact AO.nE (d := 72) rfl ⟨⟨72, _, rfl, rfl, rfl⟩, Sub.refl _⟩
     ·refine StepE.calm (fun _ _ => rfl) fun L σ hc hi hd => ?_
      refine AO.wK [8] ?_
      refine AO.c (x := .ptr n8 1) (Calm.fldPtr rfl rfl Try.underlying150 rfl sz3 _ rfl) ?_
      exact AO.nE (d := 73) rfl ⟨⟨73, _, rfl, rfl, rfl⟩, Sub.refl _⟩
     ·refine StepE.calm (fun _ _ => rfl) fun L σ hc hi hd => ?_
      refine AO.wK [73] ?_
      refine AO.c (Calm.load 2 rfl rfl rfl (At.cast (At.fldS (At.fld0 At.here)) rfl) ag3 sz3) ?_
      exact AO.nE (d := 74) rfl ⟨⟨74, _, rfl, rfl, rfl⟩, Sub.refl _⟩
     ·refine StepE.calm (fun _ _ => rfl) fun L σ hc hi hd => ?_
      refine AO.wK [4] ?_
      refine AO.c (x := .ptr n4 1) (Calm.fldPtr rfl rfl Try.underlying131 rfl sz62 _ rfl) ?_
      exact AO.nE (d := 75) rfl ⟨⟨75, _, rfl, rfl, rfl⟩, Sub.refl _⟩
     ·refine StepE.calm (fun _ _ => rfl) fun L σ hc hi hd => ?_
      refine AO.wK [75] ?_
      refine AO.c (Calm.load 1 rfl rfl rfl (At.cast (At.fldS (At.fld0 At.here)) rfl) ag62 (by rw [sz62]; simp [AV.size])) ?_
      exact AO.nE (d := 76) rfl ⟨⟨76, _, rfl, rfl, rfl⟩, Sub.refl _⟩
     ·refine StepE.calm (fun _ _ => rfl) fun L σ hc hi hd => ?_
      refine AO.wK [72, 74, 76] ?_
      refine AO.c (x := .st [(1, (eI64 t5.1.f0)), (1, (eI64 t5.1.f1)), (4, (.ar 1 (p1.f1.toList.map eU64))), (1, (eBool false))]) (Calm.build (qs := [(0, (eI64 t5.1.f0)), (1, (eI64 t5.1.f1)), (2, (.ar 1 (p1.f1.toList.map eU64)))]) rfl ⟨rfl, rfl, rfl, rfl, rfl, rfl, rfl, rfl, rfl, trivial⟩ Try.underlying152 rfl zr152 lay152 (.cons rfl rfl rfl rfl (Put.cast (Put.fld0 Put.here) rfl) (.cons rfl rfl rfl rfl (Put.cast (Put.fldS (Put.fld0 Put.here)) rfl) (.cons rfl rfl (vec_size _ _) (vec_size _ _) (Put.cast (Put.fldS (Put.fldS (Put.fld0 Put.here))) rfl) .nil))) rfl) ?_
      exact AO.nE (d := 77) rfl ⟨⟨77, _, rfl, rfl, rfl⟩, Sub.refl _⟩
     ·refine StepE.calm (fun _ _ => rfl) fun L σ hc hi hd => ?_
      refine AO.wK [77] ?_
      refine AO.lit (Z := (.st [(1, (eI64 (0 : Int))), (1, (eI64 (0 : Int))), (4, (.ar 1 ((Vector.replicate 4 (0 : Int)).toList.map eU64))), (1, (eBool false))])) (xs := (([(S152.mk t5.1.f0 t5.1.f1 p1.f1 false)] : List S152).map e152)) (qs := [(0, (e152 (S152.mk t5.1.f0 t5.1.f1 p1.f1 false)))]) rfl 78 rfl (by decide) rfl ⟨rfl, rfl, rfl, trivial⟩ Try.underlying119 sz152 zr152 lay152 rfl (by decide) (litOK (z := 7) [(e152 (S152.mk t5.1.f0 t5.1.f1 p1.f1 false))] rfl ⟨⟨rfl, rfl⟩, trivial⟩) rfl fun n24 => ?_
      refine AO.freezeS 0 [(78, (.fz 7 (([(S152.mk t5.1.f0 t5.1.f1 p1.f1 false)] : List S152).map e152)))] rfl ⟨fz_all rfl, trivial⟩ ?_
      exact AO.nE (d := 78) rfl ⟨⟨78, _, rfl, rfl, rfl⟩, Sub.refl _⟩
     ·intro L σ hc hi hd
      have m18 : L 18 = false := hc.neg (i := 14) (j := 18) rfl (by rfl) hi
      refine AO.heq (H' := ((q2, (.mem (.ar 2 (p2.map e150)))) :: (n4, (.mem (e131 p1))) :: (n8, (.mem (e150 t5.1))) :: (q0, (.mem (.st [(4, (.st [(1, (eI64 t5.2.f0.f0)), (1, (.own n7 0 t5.2.f0.f1.length)), (1, (eI64 t5.2.f0.f2)), (1, (eI64 t5.2.f0.f3))]))]))) :: (n7, (.mem (.ar 7 (t5.2.f0.f1.map e152)))) :: T0)) (by first | rfl | simp only [hi, m18, cond_true, cond_false]) ?_
      refine AO.wK [70, 78] ?_
      refine AO.appendL (l := t5.2.f0.f1) (m := ([(S152.mk t5.1.f0 t5.1.f1 p1.f1 false)] : List S152)) 4 79 rfl (by decide) rfl rfl rfl rfl rfl Src.fz Try.underlying119 Try.underlying119 sz152 by152 zr152 rfl hg26 (by decide) fun n25 => ?_
      have a14 : addL L 14 14 = true := rfl
      have a18 : addL L 14 18 = false := m18
      have u14 : upd σ 14 n25 14 = n25 := rfl
      exact AO.nE (d := 79) rfl ⟨(upd σ 14 n25), (fun j hj => match j, hj with | 0, _ => rfl | 1, _ => rfl | 2, _ => rfl | 3, _ => rfl | 4, _ => rfl | 5, _ => rfl | 6, _ => rfl | 7, _ => rfl | 8, _ => rfl | 9, _ => rfl | 10, _ => rfl | 11, _ => rfl | 12, _ => rfl | 13, _ => rfl | 14, hj => Bool.noConfusion (hj.symm.trans hi) | 15, _ => rfl | 16, _ => rfl | 17, _ => rfl | 18, _ => rfl | _ + 19, _ => rfl), (fun d' hd' => ⟨_, rfl, by cases hd'; rfl⟩), Sub.of_eq (B := ((q2, (.mem (.ar 2 (p2.map e150)))) :: (n4, (.mem (e131 p1))) :: (n8, (.mem (e150 t5.1))) :: (q0, (.mem (.st [(4, (.st [(1, (eI64 t5.2.f0.f0)), (1, (.own n7 0 t5.2.f0.f1.length)), (1, (eI64 t5.2.f0.f2)), (1, (eI64 t5.2.f0.f3))]))]))) :: (n25, (.mem (.ar 7 ((t5.2.f0.f1 ++ ([(S152.mk t5.1.f0 t5.1.f1 p1.f1 false)] : List S152)).map e152)))) :: T0)) (by simp only [a14, a18, u14, cond_true, cond_false]) (Sub.refl _)⟩
     ·refine StepE.calm (fun _ _ => rfl) fun L σ hc hi hd => ?_
      have y14 : L 14 = true := on_get hd (i := 14) (by rfl)
      have m16 : L 16 = false := hc.neg (i := 15) (j := 16) rfl (by rfl) hi
      have m17 : L 17 = false := hc.neg (i := 16) (j := 17) rfl (by rfl) m16
      have m18 : L 18 = false := hc.neg (i := 17) (j := 18) rfl (by rfl) m17
      refine AO.heq (H' := ((q2, (.mem (.ar 2 (p2.map e150)))) :: (n4, (.mem (e131 p1))) :: (n8, (.mem (e150 t5.1))) :: (q0, (.mem (.st [(4, (.st [(1, (eI64 t5.2.f0.f0)), (1, (.own n7 0 t5.2.f0.f1.length)), (1, (eI64 t5.2.f0.f2)), (1, (eI64 t5.2.f0.f3))]))]))) :: ((σ 14), (.mem (.ar 7 ((t5.2.f0.f1 ++ ([(S152.mk t5.1.f0 t5.1.f1 p1.f1 false)] : List S152)).map e152)))) :: T0)) (by first | rfl | simp only [y14, m18, cond_true, cond_false]) ?_
      refine AO.wK [65] ?_
      refine AO.c (Calm.nilCheck rfl rfl) ?_
      exact AO.nE (d := 80) rfl ⟨⟨80, _, rfl, rfl, rfl⟩, Sub.of_eq (by first | rfl | simp only [y14, m18, cond_true, cond_false]) (Sub.refl _)⟩
     ·refine StepE.calm (fun _ _ => rfl) fun L σ hc hi hd => ?_
      have y14 : L 14 = true := on_get hd (i := 14) (by rfl)
      have m17 : L 17 = false := hc.neg (i := 16) (j := 17) rfl (by rfl) hi
      have m18 : L 18 = false := hc.neg (i := 17) (j := 18) rfl (by rfl) m17
      refine AO.heq (H' := ((q2, (.mem (.ar 2 (p2.map e150)))) :: (n4, (.mem (e131 p1))) :: (n8, (.mem (e150 t5.1))) :: (q0, (.mem (.st [(4, (.st [(1, (eI64 t5.2.f0.f0)), (1, (.own n7 0 t5.2.f0.f1.length)), (1, (eI64 t5.2.f0.f2)), (1, (eI64 t5.2.f0.f3))]))]))) :: ((σ 14), (.mem (.ar 7 ((t5.2.f0.f1 ++ ([(S152.mk t5.1.f0 t5.1.f1 p1.f1 false)] : List S152)).map e152)))) :: T0)) (by first | rfl | simp only [y14, m18, cond_true, cond_false]) ?_
      refine AO.wK [80] ?_
      refine AO.c (x := .ptr q0 0) (Calm.fldPtr rfl rfl Try.underlying146 rfl sz121 _ rfl) ?_
      exact AO.nE (d := 81) rfl ⟨⟨81, _, rfl, rfl, rfl⟩, Sub.of_eq (by first | rfl | simp only [y14, m18, cond_true, cond_false]) (Sub.refl _)⟩
     ·refine StepE.calm (fun _ _ => rfl) fun L σ hc hi hd => ?_
      have y14 : L 14 = true := on_get hd (i := 14) (by rfl)
      have m18 : L 18 = false := hc.neg (i := 17) (j := 18) rfl (by rfl) hi
      refine AO.heq (H' := ((q2, (.mem (.ar 2 (p2.map e150)))) :: (n4, (.mem (e131 p1))) :: (n8, (.mem (e150 t5.1))) :: (q0, (.mem (.st [(4, (.st [(1, (eI64 t5.2.f0.f0)), (1, (.own n7 0 t5.2.f0.f1.length)), (1, (eI64 t5.2.f0.f2)), (1, (eI64 t5.2.f0.f3))]))]))) :: ((σ 14), (.mem (.ar 7 ((t5.2.f0.f1 ++ ([(S152.mk t5.1.f0 t5.1.f1 p1.f1 false)] : List S152)).map e152)))) :: T0)) (by first | rfl | simp only [y14, m18, cond_true, cond_false]) ?_
      refine AO.wK [81] ?_
      refine AO.c (x := .ptr q0 1) (Calm.fldPtr rfl rfl Try.underlying121 rfl sz119 _ rfl) ?_
      exact AO.nE (d := 82) rfl ⟨⟨82, _, rfl, rfl, rfl⟩, Sub.of_eq (by first | rfl | simp only [y14, m18, cond_true, cond_false]) (Sub.refl _)⟩
     ·intro L σ hc hi hd
      have y14 : L 14 = true := on_get hd (i := 14) (by rfl)
      refine AO.heq (H' := ((q2, (.mem (.ar 2 (p2.map e150)))) :: (n4, (.mem (e131 p1))) :: (n8, (.mem (e150 t5.1))) :: (q0, (.mem (.st [(4, (.st [(1, (eI64 t5.2.f0.f0)), (1, (.own n7 0 t5.2.f0.f1.length)), (1, (eI64 t5.2.f0.f2)), (1, (eI64 t5.2.f0.f3))]))]))) :: ((σ 14), (.mem (.ar 7 ((t5.2.f0.f1 ++ ([(S152.mk t5.1.f0 t5.1.f1 p1.f1 false)] : List S152)).map e152)))) :: T0)) (by first | rfl | simp only [hi, y14, cond_true, cond_false]) ?_
      refine AO.wK [79, 82] ?_
      refine AO.store (X' := (.st [(4, (.st [(1, (eI64 t5.2.f0.f0)), (1, (.own (σ 14) 0 (t5.2.f0.f1 ++ ([(S152.mk t5.1.f0 t5.1.f1 p1.f1 false)] : List S152)).length)), (1, (eI64 t5.2.f0.f2)), (1, (eI64 t5.2.f0.f3))]))])) 3 rfl rfl rfl rfl rfl rfl (Put.cast (Put.fld0 (Put.fldS (Put.fld0 Put.here))) rfl) rfl rfl sz119 rfl ?_
      have a14 : addL L 18 14 = true := y14
      have a18 : addL L 18 18 = true := rfl
      exact AO.n0 ⟨σ, (fun _ _ => rfl), (fun d' hd' => by cases hd'), Sub.of_eq (B := ((q2, (.mem (.ar 2 (p2.map e150)))) :: (n4, (.mem (e131 p1))) :: (n8, (.mem (e150 t5.1))) :: (q0, (.mem (.st [(4, (.st [(1, (eI64 t5.2.f0.f0)), (1, (.own (σ 14) 0 (t5.2.f0.f1 ++ ([(S152.mk t5.1.f0 t5.1.f1 p1.f1 false)] : List S152)).length)), (1, (eI64 t5.2.f0.f2)), (1, (eI64 t5.2.f0.f3))]))]))) :: ((σ 14), (.mem (.ar 7 ((t5.2.f0.f1 ++ ([(S152.mk t5.1.f0 t5.1.f1 p1.f1 false)] : List S152)).map e152)))) :: T0)) (by simp only [a14, a18, cond_true, cond_false]) (Sub.refl _)⟩
     ·generalize σ 14 = n25
      refine AO.nH [2, 4, 7, 8] (H' := ((q0, (.mem (.st [(4, (.st [(1, (eI64 t5.2.f0.f0)), (1, (.own n25 0 (t5.2.f0.f1 ++ ([(S152.mk t5.1.f0 t5.1.f1 p1.f1 false)] : List S152)).length)), (1, (eI64 t5.2.f0.f2)), (1, (eI64 t5.2.f0.f3))]))]))) :: (n25, (.mem (.ar 7 ((t5.2.f0.f1 ++ ([(S152.mk t5.1.f0 t5.1.f1 p1.f1 false)] : List S152)).map e152)))) :: (q2, (.mem (.ar 2 (p2.map e150)))) :: (n4, (.mem (e131 p1))) :: (n8, (.mem (e150 t5.1))) :: T0)) (Sub.cons 3 rfl (Sub.cons 3 rfl (Sub.cons 0 rfl (Sub.cons 0 rfl (Sub.cons 0 rfl (Sub.refl _)))))) ?_
      exact ⟨n25, t5.2.f0.f0, (t5.2.f0.f1 ++ ([(S152.mk t5.1.f0 t5.1.f1 p1.f1 false)] : List S152)), t5.2.f0.f2, t5.2.f0.f3, rfl, rfl, h⟩
    ·refine AW.condN _ rfl hc23 ?_
     refine AW.sr ?_
     refine AO.c (x := eBool (decide (p1.f0 = (2 : Int)))) (Calm.int rfl rfl rfl rfl) ?_
     refine AO.ag rfl rfl ?_
     refine AO.nK [0, 2, 4, 7, 8, 19, 83] ?_
     rcases of_ite h with ⟨hc27, h⟩ | ⟨hc27, h⟩
     ·refine AW.condP _ rfl hc27 ?_
      refine AW.seq ?_
      obtain ⟨hg28, h⟩ := of_guard h
      obtain ⟨hg29, h⟩ := of_guard h
      refine AW.regEff (by rfl) (by decide +kernel) (fun (σ : Nat → Nat) => ([(.own q2 0 p2.length), (eI64 (p2.length : Int)), (eI64 (w64 ((p2.length : Int) - (2 : Int)))), (.ptr q2 ((w64 ((p2.length : Int) - (2 : Int))).toNat * 2 + 0)), (e150 (lget p2 (w64 ((p2.length : Int) - (2 : Int))))), (.own q2 0 p2.length), (eI64 (p2.length : Int)), (eI64 (w64 ((p2.length : Int) - (1 : Int)))), (.ptr q2 ((w64 ((p2.length : Int) - (1 : Int))).toNat * 2 + 0)), (e150 (lget p2 (w64 ((p2.length : Int) - (1 : Int))))), (.ptr (σ 10) 0), (.ptr (σ 11) 0), (.fl undef), (.fl undef)] : List AV)) (fun (L : Nat → Bool) (σ : Nat → Nat) => ((q0, (.mem (.st [(4, (.st [(1, (eI64 t5.2.f0.f0)), (1, (.own n7 0 t5.2.f0.f1.length)), (1, (eI64 t5.2.f0.f2)), (1, (eI64 t5.2.f0.f3))]))]))) :: (n7, (.mem (.ar 7 (t5.2.f0.f1.map e152)))) :: (q2, (.mem (.ar 2 (p2.map e150)))) :: (n4, (.mem (e131 p1))) :: (n8, (.mem (e150 t5.1))) :: (bif L 10 then (bif L 11 then (bif L 12 then (bif L 13 then (((σ 11), (.mem (e150 (lget p2 (w64 ((p2.length : Int) - (1 : Int))))))) :: ((σ 10), (.mem (e150 (lget p2 (w64 ((p2.length : Int) - (2 : Int))))))) :: T0) else (((σ 11), (.mem (.st [(1, (eI64 (0 : Int))), (1, (eI64 (0 : Int)))]))) :: ((σ 10), (.mem (e150 (lget p2 (w64 ((p2.length : Int) - (2 : Int))))))) :: T0)) else (((σ 11), (.mem (.st [(1, (eI64 (0 : Int))), (1, (eI64 (0 : Int)))]))) :: ((σ 10), (.mem (.st [(1, (eI64 (0 : Int))), (1, (eI64 (0 : Int)))]))) :: T0)) else (((σ 10), (.mem (.st [(1, (eI64 (0 : Int))), (1, (eI64 (0 : Int)))]))) :: T0)) else (bif L 11 then (((σ 11), (.mem (.st [(1, (eI64 (0 : Int))), (1, (eI64 (0 : Int)))]))) :: T0) else (T0))) : Heap)) [(0, (.ptr q0 0)), (2, (.own q2 0 p2.length)), (4, (.ptr n4 0)), (7, (eI64 (p2.length : Int))), (8, (.ptr n8 0))] ⟨rfl, rfl, rfl, rfl, rfl, trivial⟩ (fun _ => rfl) (fun σ => (Sub.refl _)) ⟨?_, ?_, ?_, ?_, ?_, ?_, ?_, ?_, ?_, ?_, ?_, ?_, ?_, ?_, trivial⟩ (fun σ => [(0, (.ptr q0 0)), (2, (.own q2 0 p2.length)), (4, (.ptr n4 0)), (7, (eI64 (p2.length : Int))), (8, (.ptr n8 0)), (9, (.ptr (σ 10) 0)), (10, (.ptr (σ 11) 0))]) (fun σ => ((q0, (.mem (.st [(4, (.st [(1, (eI64 t5.2.f0.f0)), (1, (.own n7 0 t5.2.f0.f1.length)), (1, (eI64 t5.2.f0.f2)), (1, (eI64 t5.2.f0.f3))]))]))) :: (n7, (.mem (.ar 7 (t5.2.f0.f1.map e152)))) :: (q2, (.mem (.ar 2 (p2.map e150)))) :: (n4, (.mem (e131 p1))) :: (n8, (.mem (e150 t5.1))) :: ((σ 11), (.mem (e150 (lget p2 (w64 ((p2.length : Int) - (1 : Int))))))) :: ((σ 10), (.mem (e150 (lget p2 (w64 ((p2.length : Int) - (2 : Int))))))) :: T0)) (fun σ => ⟨rfl, rfl, rfl, rfl, rfl, rfl, rfl, trivial⟩) (fun σ => Sub.refl _) (fun σ => ?_)
      ·refine StepE.calm (fun _ _ => rfl) fun L σ hc hi hd => ?_
       refine AO.wK [2] ?_
       refine AO.mv rfl rfl ?_
       exact AO.nE (d := 85) rfl ⟨⟨85, _, rfl, rfl, rfl⟩, Sub.refl _⟩
      ·refine StepE.calm (fun _ _ => rfl) fun L σ hc hi hd => ?_
       refine AO.wK [7] ?_
       refine AO.mv rfl rfl ?_
       exact AO.nE (d := 86) rfl ⟨⟨86, _, rfl, rfl, rfl⟩, Sub.refl _⟩
      ·refine StepE.calm (fun _ _ => rfl) fun L σ hc hi hd => ?_
       refine AO.wK [86] ?_
       refine AO.c (x := eI64 (w64 ((p2.length : Int) - (2 : Int)))) (Calm.int rfl rfl rfl rfl) ?_
       exact AO.nE (d := 87) rfl ⟨⟨87, _, rfl, rfl, rfl⟩, Sub.refl _⟩
      ·refine StepE.calm (fun _ _ => rfl) fun L σ hc hi hd => ?_
       refine AO.wK [85, 87] ?_
       refine AO.c (Calm.idxO 2 rfl rfl rfl rfl hg28 Try.underlying147 sz150) ?_
       exact AO.nE (d := 88) rfl ⟨⟨88, _, rfl, rfl, rfl⟩, Sub.refl _⟩
      ·refine StepE.calm (fun _ _ => rfl) fun L σ hc hi hd => ?_
       refine AO.wK [88] ?_
       refine AO.c (Calm.load 2 rfl rfl rfl (At.cast (At.lidx (w64 ((p2.length : Int) - (2 : Int))) hg28.1 hg28.2 At.here) (by omega)) ag150 sz150) ?_
       exact AO.nE (d := 89) rfl ⟨⟨89, _, rfl, rfl, rfl⟩, Sub.refl _⟩
      ·refine StepE.calm (fun _ _ => rfl) fun L σ hc hi hd => ?_
       refine AO.wK [2] ?_
       refine AO.mv rfl rfl ?_
       exact AO.nE (d := 90) rfl ⟨⟨90, _, rfl, rfl, rfl⟩, Sub.refl _⟩
      ·refine StepE.calm (fun _ _ => rfl) fun L σ hc hi hd => ?_
       refine AO.wK [7] ?_
       refine AO.mv rfl rfl ?_
       exact AO.nE (d := 91) rfl ⟨⟨91, _, rfl, rfl, rfl⟩, Sub.refl _⟩
      ·refine StepE.calm (fun _ _ => rfl) fun L σ hc hi hd => ?_
       refine AO.wK [91] ?_
       refine AO.c (x := eI64 (w64 ((p2.length : Int) - (1 : Int)))) (Calm.int rfl rfl rfl rfl) ?_
       exact AO.nE (d := 92) rfl ⟨⟨92, _, rfl, rfl, rfl⟩, Sub.refl _⟩
      ·refine StepE.calm (fun _ _ => rfl) fun L σ hc hi hd => ?_
       refine AO.wK [90, 92] ?_
       refine AO.c (Calm.idxO 2 rfl rfl rfl rfl hg29 Try.underlying147 sz150) ?_
       exact AO.nE (d := 93) rfl ⟨⟨93, _, rfl, rfl, rfl⟩, Sub.refl _⟩
      ·refine StepE.calm (fun _ _ => rfl) fun L σ hc hi hd => ?_
       refine AO.wK [93] ?_
       refine AO.c (Calm.load 2 rfl rfl rfl (At.cast (At.lidx (w64 ((p2.length : Int) - (1 : Int))) hg29.1 hg29.2 At.here) (by omega)) ag150 sz150) ?_
       exact AO.nE (d := 94) rfl ⟨⟨94, _, rfl, rfl, rfl⟩, Sub.refl _⟩
      ·intro L σ hc hi hd
       have m12 : L 12 = false := hc.neg (i := 10) (j := 12) rfl (by rfl) hi
       have m13 : L 13 = false := hc.neg (i := 10) (j := 13) rfl (by rfl) hi
       cases b11 : L 11 with
       | true =>
         refine AO.heq (H' := ((q0, (.mem (.st [(4, (.st [(1, (eI64 t5.2.f0.f0)), (1, (.own n7 0 t5.2.f0.f1.length)), (1, (eI64 t5.2.f0.f2)), (1, (eI64 t5.2.f0.f3))]))]))) :: (n7, (.mem (.ar 7 (t5.2.f0.f1.map e152)))) :: (q2, (.mem (.ar 2 (p2.map e150)))) :: (n4, (.mem (e131 p1))) :: (n8, (.mem (e150 t5.1))) :: ((σ 11), (.mem (.st [(1, (eI64 (0 : Int))), (1, (eI64 (0 : Int)))]))) :: T0)) (by first | rfl | simp only [hi, b11, m12, m13, cond_true, cond_false]) ?_
         refine AO.wK [] ?_
         refine AO.alloc rfl 9 rfl (by decide) rfl zr150 lay150 fun n30 => ?_
         have a10 : addL L 10 10 = true := rfl
         have a11 : addL L 10 11 = true := b11
         have a12 : addL L 10 12 = false := m12
         have a13 : addL L 10 13 = false := m13
         have u10 : upd σ 10 n30 10 = n30 := rfl
         have u11 : upd σ 10 n30 11 = σ 11 := rfl
         exact AO.nE (d := 9) rfl ⟨(upd σ 10 n30), (fun j hj => match j, hj with | 0, _ => rfl | 1, _ => rfl | 2, _ => rfl | 3, _ => rfl | 4, _ => rfl | 5, _ => rfl | 6, _ => rfl | 7, _ => rfl | 8, _ => rfl | 9, _ => rfl | 10, hj => Bool.noConfusion (hj.symm.trans hi) | 11, _ => rfl | 12, _ => rfl | 13, _ => rfl | _ + 14, _ => rfl), (fun d' hd' => ⟨_, rfl, by cases hd'; rfl⟩), Sub.of_eq (B := ((q0, (.mem (.st [(4, (.st [(1, (eI64 t5.2.f0.f0)), (1, (.own n7 0 t5.2.f0.f1.length)), (1, (eI64 t5.2.f0.f2)), (1, (eI64 t5.2.f0.f3))]))]))) :: (n7, (.mem (.ar 7 (t5.2.f0.f1.map e152)))) :: (q2, (.mem (.ar 2 (p2.map e150)))) :: (n4, (.mem (e131 p1))) :: (n8, (.mem (e150 t5.1))) :: ((σ 11), (.mem (.st [(1, (eI64 (0 : Int))), (1, (eI64 (0 : Int)))]))) :: (n30, (.mem (.st [(1, (eI64 (0 : Int))), (1, (eI64 (0 : Int)))]))) :: T0)) (by simp only [a10, a11, a12, a13, u10, u11, cond_true, cond_false]) (Sub.cons 1 rfl (Sub.cons 1 rfl (Sub.cons 1 rfl (Sub.cons 1 rfl (Sub.cons 1 rfl (Sub.cons 1 rfl (Sub.cons 0 rfl (Sub.refl _))))))))⟩
       | false =>
         refine AO.heq (H' := ((q0, (.mem (.st [(4, (.st [(1, (eI64 t5.2.f0.f0)), (1, (.own n7 0 t5.2.f0.f1.length)), (1, (eI64 t5.2.f0.f2)), (1, (eI64 t5.2.f0.f3))]))]))) :: (n7, (.mem (.ar 7 (t5.2.f0.f1.map e152)))) :: (q2, (.mem (.ar 2 (p2.map e150)))) :: (n4, (.mem (e131 p1))) :: (n8, (.mem (e150 t5.1))) :: T0)) (by first | rfl | simp only [hi, b11, m12, m13, cond_true, cond_false]) ?_
         refine AO.wK [] ?_
         refine AO.alloc rfl 9 rfl (by decide) rfl zr150 lay150 fun n30 => ?_
         have a10 : addL L 10 10 = true := rfl
         have a11 : addL L 10 11 = false := b11
         have a12 : addL L 10 12 = false := m12
         have a13 : addL L 10 13 = false := m13
         have u10 : upd σ 10 n30 10 = n30 := rfl
         have u11 : upd σ 10 n30 11 = σ 11 := rfl
         exact AO.nE (d := 9) rfl ⟨(upd σ 10 n30), (fun j hj => match j, hj with | 0, _ => rfl | 1, _ => rfl | 2, _ => rfl | 3, _ => rfl | 4, _ => rfl | 5, _ => rfl | 6, _ => rfl | 7, _ => rfl | 8, _ => rfl | 9, _ => rfl | 10, hj => Bool.noConfusion (hj.symm.trans hi) | 11, _ => rfl | 12, _ => rfl | 13, _ => rfl | _ + 14, _ => rfl), (fun d' hd' => ⟨_, rfl, by cases hd'; rfl⟩), Sub.of_eq (B := ((q0, (.mem (.st [(4, (.st [(1, (eI64 t5.2.f0.f0)), (1, (.own n7 0 t5.2.f0.f1.length)), (1, (eI64 t5.2.f0.f2)), (1, (eI64 t5.2.f0.f3))]))]))) :: (n7, (.mem (.ar 7 (t5.2.f0.f1.map e152)))) :: (q2, (.mem (.ar 2 (p2.map e150)))) :: (n4, (.mem (e131 p1))) :: (n8, (.mem (e150 t5.1))) :: (n30, (.mem (.st [(1, (eI64 (0 : Int))), (1, (eI64 (0 : Int)))]))) :: T0)) (by simp only [a10, a11, a12, a13, u10, u11, cond_true, cond_false]) (Sub.cons 1 rfl (Sub.cons 1 rfl (Sub.cons 1 rfl (Sub.cons 1 rfl (Sub.cons 1 rfl (Sub.cons 0 rfl (Sub.refl _)))))))⟩
      ·intro L σ hc hi hd
       have m12 : L 12 = false := hc.neg (i := 11) (j := 12) rfl (by rfl) hi
       have m13 : L 13 = false := hc.neg (i := 11) (j := 13) rfl (by rfl) hi
       cases b10 : L 10 with
       | true =>
         refine AO.heq (H' := ((q0, (.mem (.st [(4, (.st [(1, (eI64 t5.2.f0.f0)), (1, (.own n7 0 t5.2.f0.f1.length)), (1, (eI64 t5.2.f0.f2)), (1, (eI64 t5.2.f0.f3))]))]))) :: (n7, (.mem (.ar 7 (t5.2.f0.f1.map e152)))) :: (q2, (.mem (.ar 2 (p2.map e150)))) :: (n4, (.mem (e131 p1))) :: (n8, (.mem (e150 t5.1))) :: ((σ 10), (.mem (.st [(1, (eI64 (0 : Int))), (1, (eI64 (0 : Int)))]))) :: T0)) (by first | rfl | simp only [hi, b10, m12, m13, cond_true, cond_false]) ?_
         refine AO.wK [] ?_
         refine AO.alloc rfl 10 rfl (by decide) rfl zr150 lay150 fun n31 => ?_
         have a10 : addL L 11 10 = true := b10
         have a11 : addL L 11 11 = true := rfl
         have a12 : addL L 11 12 = false := m12
         have a13 : addL L 11 13 = false := m13
         have u10 : upd σ 11 n31 10 = σ 10 := rfl
         have u11 : upd σ 11 n31 11 = n31 := rfl
         exact AO.nE (d := 10) rfl ⟨(upd σ 11 n31), (fun j hj => match j, hj with | 0, _ => rfl | 1, _ => rfl | 2, _ => rfl | 3, _ => rfl | 4, _ => rfl | 5, _ => rfl | 6, _ => rfl | 7, _ => rfl | 8, _ => rfl | 9, _ => rfl | 10, _ => rfl | 11, hj => Bool.noConfusion (hj.symm.trans hi) | 12, _ => rfl | 13, _ => rfl | _ + 14, _ => rfl), (fun d' hd' => ⟨_, rfl, by cases hd'; rfl⟩), Sub.of_eq (B := ((q0, (.mem (.st [(4, (.st [(1, (eI64 t5.2.f0.f0)), (1, (.own n7 0 t5.2.f0.f1.length)), (1, (eI64 t5.2.f0.f2)), (1, (eI64 t5.2.f0.f3))]))]))) :: (n7, (.mem (.ar 7 (t5.2.f0.f1.map e152)))) :: (q2, (.mem (.ar 2 (p2.map e150)))) :: (n4, (.mem (e131 p1))) :: (n8, (.mem (e150 t5.1))) :: (n31, (.mem (.st [(1, (eI64 (0 : Int))), (1, (eI64 (0 : Int)))]))) :: ((σ 10), (.mem (.st [(1, (eI64 (0 : Int))), (1, (eI64 (0 : Int)))]))) :: T0)) (by simp only [a10, a11, a12, a13, u10, u11, cond_true, cond_false]) (Sub.cons 1 rfl (Sub.cons 1 rfl (Sub.cons 1 rfl (Sub.cons 1 rfl (Sub.cons 1 rfl (Sub.cons 0 rfl (Sub.cons 0 rfl (Sub.refl _))))))))⟩
       | false =>
         refine AO.heq (H' := ((q0, (.mem (.st [(4, (.st [(1, (eI64 t5.2.f0.f0)), (1, (.own n7 0 t5.2.f0.f1.length)), (1, (eI64 t5.2.f0.f2)), (1, (eI64 t5.2.f0.f3))]))]))) :: (n7, (.mem (.ar 7 (t5.2.f0.f1.map e152)))) :: (q2, (.mem (.ar 2 (p2.map e150)))) :: (n4, (.mem (e131 p1))) :: (n8, (.mem (e150 t5.1))) :: T0)) (by first | rfl | simp only [hi, b10, m12, m13, cond_true, cond_false]) ?_
         refine AO.wK [] ?_
         refine AO.alloc rfl 10 rfl (by decide) rfl zr150 lay150 fun n31 => ?_
         have a10 : addL L 11 10 = false := b10
         have a11 : addL L 11 11 = true := rfl
         have a12 : addL L 11 12 = false := m12
         have a13 : addL L 11 13 = false := m13
         have u10 : upd σ 11 n31 10 = σ 10 := rfl
         have u11 : upd σ 11 n31 11 = n31 := rfl
         exact AO.nE (d := 10) rfl ⟨(upd σ 11 n31), (fun j hj => match j, hj with | 0, _ => rfl | 1, _ => rfl | 2, _ => rfl | 3, _ => rfl | 4, _ => rfl | 5, _ => rfl | 6, _ => rfl | 7, _ => rfl | 8, _ => rfl | 9, _ => rfl | 10, _ => rfl | 11, hj => Bool.noConfusion (hj.symm.trans hi) | 12, _ => rfl | 13, _ => rfl | _ + 14, _ => rfl), (fun d' hd' => ⟨_, rfl, by cases hd'; rfl⟩), Sub.of_eq (B := ((q0, (.mem (.st [(4, (.st [(1, (eI64 t5.2.f0.f0)), (1, (.own n7 0 t5.2.f0.f1.length)), (1, (eI64 t5.2.f0.f2)), (1, (eI64 t5.2.f0.f3))]))]))) :: (n7, (.mem (.ar 7 (t5.2.f0.f1.map e152)))) :: (q2, (.mem (.ar 2 (p2.map e150)))) :: (n4, (.mem (e131 p1))) :: (n8, (.mem (e150 t5.1))) :: (n31, (.mem (.st [(1, (eI64 (0 : Int))), (1, (eI64 (0 : Int)))]))) :: T0)) (by simp only [a10, a11, a12, a13, u10, u11, cond_true, cond_false]) (Sub.cons 1 rfl (Sub.cons 1 rfl (Sub.cons 1 rfl (Sub.cons 1 rfl (Sub.cons 1 rfl (Sub.cons 0 rfl (Sub.refl _)))))))⟩
      ·intro L σ hc hi hd
       have y10 : L 10 = true := on_get hd (i := 10) (by rfl)
       have y11 : L 11 = true := on_get hd (i := 11) (by rfl)
       have m13 : L 13 = false := hc.neg (i := 12) (j := 13) rfl (by rfl) hi
       refine AO.heq (H' := ((q0, (.mem (.st [(4, (.st [(1, (eI64 t5.2.f0.f0)), (1, (.own n7 0 t5.2.f0.f1.length)), (1, (eI64 t5.2.f0.f2)), (1, (eI64 t5.2.f0.f3))]))]))) :: (n7, (.mem (.ar 7 (t5.2.f0.f1.map e152)))) :: (q2, (.mem (.ar 2 (p2.map e150)))) :: (n4, (.mem (e131 p1))) :: (n8, (.mem (e150 t5.1))) :: ((σ 11), (.mem (.st [(1, (eI64 (0 : Int))), (1, (eI64 (0 : Int)))]))) :: ((σ 10), (.mem (.st [(1, (eI64 (0 : Int))), (1, (eI64 (0 : Int)))]))) :: T0)) (by first | rfl | simp only [hi, y10, y11, m13, cond_true, cond_false]) ?_
       refine AO.wK [9, 89] ?_
       refine AO.store (X' := (e150 (lget p2 (w64 ((p2.length : Int) - (2 : Int)))))) 6 rfl rfl rfl rfl rfl rfl (Put.cast Put.here rfl) rfl rfl sz150 rfl ?_
       have a10 : addL L 12 10 = true := y10
       have a11 : addL L 12 11 = true := y11
       have a12 : addL L 12 12 = true := rfl
       have a13 : addL L 12 13 = false := m13
       exact AO.n0 ⟨σ, (fun _ _ => rfl), (fun d' hd' => by cases hd'), Sub.of_eq (B := ((q0, (.mem (.st [(4, (.st [(1, (eI64 t5.2.f0.f0)), (1, (.own n7 0 t5.2.f0.f1.length)), (1, (eI64 t5.2.f0.f2)), (1, (eI64 t5.2.f0.f3))]))]))) :: (n7, (.mem (.ar 7 (t5.2.f0.f1.map e152)))) :: (q2, (.mem (.ar 2 (p2.map e150)))) :: (n4, (.mem (e131 p1))) :: (n8, (.mem (e150 t5.1))) :: ((σ 11), (.mem (.st [(1, (eI64 (0 : Int))), (1, (eI64 (0 : Int)))]))) :: ((σ 10), (.mem (e150 (lget p2 (w64 ((p2.length : Int) - (2 : Int))))))) :: T0)) (by simp only [a10, a11, a12, a13, cond_true, cond_false]) (Sub.refl _)⟩
      ·intro L σ hc hi hd
       have y10 : L 10 = true := on_get hd (i := 10) (by rfl)
       have y11 : L 11 = true := on_get hd (i := 11) (by rfl)
       have y12 : L 12 = true := on_get hd (i := 12) (by rfl)
       refine AO.heq (H' := ((q0, (.mem (.st [(4, (.st [(1, (eI64 t5.2.f0.f0)), (1, (.own n7 0 t5.2.f0.f1.length)), (1, (eI64 t5.2.f0.f2)), (1, (eI64 t5.2.f0.f3))]))]))) :: (n7, (.mem (.ar 7 (t5.2.f0.f1.map e152)))) :: (q2, (.mem (.ar 2 (p2.map e150)))) :: (n4, (.mem (e131 p1))) :: (n8, (.mem (e150 t5.1))) :: ((σ 11), (.mem (.st [(1, (eI64 (0 : Int))), (1, (eI64 (0 : Int)))]))) :: ((σ 10), (.mem (e150 (lget p2 (w64 ((p2.length : Int) - (2 : Int))))))) :: T0)) (by first | rfl | simp only [hi, y10, y11, y12, cond_true, cond_false]) ?_
       refine AO.wK [10, 94] ?_
       refine AO.store (X' := (e150 (lget p2 (w64 ((p2.length : Int) - (1 : Int)))))) 5 rfl rfl rfl rfl rfl rfl (Put.cast Put.here rfl) rfl rfl sz150 rfl ?_
       have a10 : addL L 13 10 = true := y10
       have a11 : addL L 13 11 = true := y11
       have a12 : addL L 13 12 = true := y12
       have a13 : addL L 13 13 = true := rfl
       exact AO.n0 ⟨σ, (fun _ _ => rfl), (fun d' hd' => by cases hd'), Sub.of_eq (B := ((q0, (.mem (.st [(4, (.st [(1, (eI64 t5.2.f0.f0)), (1, (.own n7 0 t5.2.f0.f1.length)), (1, (eI64 t5.2.f0.f2)), (1, (eI64 t5.2.f0.f3))]))]))) :: (n7, (.mem (.ar 7 (t5.2.f0.f1.map e152)))) :: (q2, (.mem (.ar 2 (p2.map e150)))) :: (n4, (.mem (e131 p1))) :: (n8, (.mem (e150 t5.1))) :: ((σ 11), (.mem (e150 (lget p2 (w64 ((p2.length : Int) - (1 : Int))))))) :: ((σ 10), (.mem (e150 (lget p2 (w64 ((p2.length : Int) - (2 : Int))))))) :: T0)) (by simp only [a10, a11, a12, a13, cond_true, cond_false]) (Sub.refl _)⟩
      ·generalize σ 10 = n30
       generalize σ 11 = n31
       refine AO.nH [0, 2, 4, 7, 8, 9, 10] (H' := ((q0, (.mem (.st [(4, (.st [(1, (eI64 t5.2.f0.f0)), (1, (.own n7 0 t5.2.f0.f1.length)), (1, (eI64 t5.2.f0.f2)), (1, (eI64 t5.2.f0.f3))]))]))) :: (n7, (.mem (.ar 7 (t5.2.f0.f1.map e152)))) :: (q2, (.mem (.ar 2 (p2.map e150)))) :: (n4, (.mem (e131 p1))) :: (n8, (.mem (e150 t5.1))) :: (n30, (.mem (e150 (lget p2 (w64 ((p2.length : Int) - (2 : Int))))))) :: (n31, (.mem (e150 (lget p2 (w64 ((p2.length : Int) - (1 : Int))))))) :: T0)) (Sub.cons 0 rfl (Sub.cons 0 rfl (Sub.cons 0 rfl (Sub.cons 0 rfl (Sub.cons 0 rfl (Sub.cons 1 rfl (Sub.cons 0 rfl (Sub.refl _)))))))) ?_
       refine AW.sr ?_
       refine AO.mv rfl rfl ?_
       refine AO.c (x := .ptr n8 0) (Calm.fldPtr rfl rfl Try.underlying150 rfl sz3 _ rfl) ?_
       refine AO.c (Calm.load 4 rfl rfl rfl (At.cast (At.fld0 At.here) rfl) ag3 sz3) ?_
       refine AO.c (x := .ptr n30 0) (Calm.fldPtr rfl rfl Try.underlying150 rfl sz3 _ rfl) ?_
       refine AO.c (Calm.load 5 rfl rfl rfl (At.cast (At.fld0 At.here) rfl) ag3 sz3) ?_
       obtain ⟨t32, et32, h⟩ := of_bind h
       refine AO.callH [(.ptr q0 0), (eI64 t5.1.f0), (eI64 ((lget p2 (w64 ((p2.length : Int) - (2 : Int)))).f0))] ((q0, (.mem (.st [(4, (.st [(1, (eI64 t5.2.f0.f0)), (1, (.own n7 0 t5.2.f0.f1.length)), (1, (eI64 t5.2.f0.f2)), (1, (eI64 t5.2.f0.f3))]))]))) :: (n7, (.mem (.ar 7 (t5.2.f0.f1.map e152)))) :: (q2, (.mem (.ar 2 (p2.map e150)))) :: (n4, (.mem (e131 p1))) :: (n8, (.mem (e150 t5.1))) :: (n30, (.mem (e150 (lget p2 (w64 ((p2.length : Int) - (2 : Int))))))) :: (n31, (.mem (e150 (lget p2 (w64 ((p2.length : Int) - (1 : Int))))))) :: T0) _ rfl rfl rfl 100 rfl (by decide) ok121 ⟨rfl, rfl, rfl, rfl, rfl, rfl, trivial⟩ (Sub.cons 0 rfl (Sub.cons 0 rfl (Sub.refl _))) (F121_spec et32) ?_
       rintro _ _ ⟨n34, rfl, hs33⟩
       refine AO.wH [0, 2, 4, 7, 8, 9, 10, 95, 96, 97, 98, 99, 100] hs33 ?_
       refine AO.nK [0, 2, 4, 7, 8, 9, 10] ?_
       refine AW.sr ?_
       refine AO.mv rfl rfl ?_
       refine AO.c (x := .ptr n30 1) (Calm.fldPtr rfl rfl Try.underlying150 rfl sz3 _ rfl) ?_
       refine AO.c (Calm.load 5 rfl rfl rfl (At.cast (At.fldS (At.fld0 At.here)) rfl) ag3 sz3) ?_
       refine AO.c (x := .ptr n31 0) (Calm.fldPtr rfl rfl Try.underlying150 rfl sz3 _ rfl) ?_
       refine AO.c (Calm.load 6 rfl rfl rfl (At.cast (At.fld0 At.here) rfl) ag3 sz3) ?_
       obtain ⟨t35, et35, h⟩ := of_bind h
       refine AO.callH [(.ptr q0 0), (eI64 ((lget p2 (w64 ((p2.length : Int) - (2 : Int)))).f1)), (eI64 ((lget p2 (w64 ((p2.length : Int) - (1 : Int)))).f0))] ((q0, (.mem (.st [(4, (.st [(1, (eI64 t32.f0.f0)), (1, (.own n34 0 t32.f0.f1.length)), (1, (eI64 t32.f0.f2)), (1, (eI64 t32.f0.f3))]))]))) :: (n34, (.mem (.ar 7 (t32.f0.f1.map e152)))) :: (q2, (.mem (.ar 2 (p2.map e150)))) :: (n4, (.mem (e131 p1))) :: (n8, (.mem (e150 t5.1))) :: (n30, (.mem (e150 (lget p2 (w64 ((p2.length : Int) - (2 : Int))))))) :: (n31, (.mem (e150 (lget p2 (w64 ((p2.length : Int) - (1 : Int))))))) :: T0) _ rfl rfl rfl 106 rfl (by decide) ok121 ⟨rfl, rfl, rfl, rfl, rfl, rfl, trivial⟩ (Sub.cons 0 rfl (Sub.cons 0 rfl (Sub.refl _))) (F121_spec et35) ?_
       rintro _ _ ⟨n37, rfl, hs36⟩
       refine AO.wH [0, 2, 4, 7, 8, 9, 10, 101, 102, 103, 104, 105, 106] hs36 ?_
       refine AO.nH [0, 2, 4, 7, 8, 10] (H' := ((q0, (.mem (.st [(4, (.st [(1, (eI64 t35.f0.f0)), (1, (.own n37 0 t35.f0.f1.length)), (1, (eI64 t35.f0.f2)), (1, (eI64 t35.f0.f3))]))]))) :: (n37, (.mem (.ar 7 (t35.f0.f1.map e152)))) :: (q2, (.mem (.ar 2 (p2.map e150)))) :: (n4, (.mem (e131 p1))) :: (n8, (.mem (e150 t5.1))) :: (n31, (.mem (e150 (lget p2 (w64 ((p2.length : Int) - (1 : Int))))))) :: T0)) (Sub.cons 0 rfl (Sub.cons 0 rfl (Sub.cons 0 rfl (Sub.cons 0 rfl (Sub.cons 0 rfl (Sub.cons 1 rfl (Sub.drop (Sub.refl _)))))))) ?_
       refine AW.reg ?_
       refine AO.mv rfl rfl ?_
       refine AO.c (x := .ptr n31 1) (Calm.fldPtr rfl rfl Try.underlying150 rfl sz3 _ rfl) ?_
       refine AO.c (Calm.load 5 rfl rfl rfl (At.cast (At.fldS (At.fld0 At.here)) rfl) ag3 sz3) ?_
       refine AO.c (x := .ptr n8 1) (Calm.fldPtr rfl rfl Try.underlying150 rfl sz3 _ rfl) ?_
       refine AO.c (Calm.load 4 rfl rfl rfl (At.cast (At.fldS (At.fld0 At.here)) rfl) ag3 sz3) ?_
       obtain ⟨t38, et38, h⟩ := of_bind h
       refine AO.callH [(.ptr q0 0), (eI64 ((lget p2 (w64 ((p2.length : Int) - (1 : Int)))).f1)), (eI64 t5.1.f1)] ((q0, (.mem (.st [(4, (.st [(1, (eI64 t35.f0.f0)), (1, (.own n37 0 t35.f0.f1.length)), (1, (eI64 t35.f0.f2)), (1, (eI64 t35.f0.f3))]))]))) :: (n37, (.mem (.ar 7 (t35.f0.f1.map e152)))) :: (q2, (.mem (.ar 2 (p2.map e150)))) :: (n4, (.mem (e131 p1))) :: (n8, (.mem (e150 t5.1))) :: (n31, (.mem (e150 (lget p2 (w64 ((p2.length : Int) - (1 : Int))))))) :: T0) _ rfl rfl rfl 112 rfl (by decide) ok121 ⟨rfl, rfl, rfl, rfl, rfl, rfl, trivial⟩ (Sub.cons 0 rfl (Sub.cons 0 rfl (Sub.refl _))) (F121_spec et38) ?_
       rintro _ _ ⟨n40, rfl, hs39⟩
       refine AO.wH [0, 2, 4, 7, 8, 10, 107, 108, 109, 110, 111, 112] hs39 ?_
       refine AO.nH [2, 4, 7, 8] (H' := ((q0, (.mem (.st [(4, (.st [(1, (eI64 t38.f0.f0)), (1, (.own n40 0 t38.f0.f1.length)), (1, (eI64 t38.f0.f2)), (1, (eI64 t38.f0.f3))]))]))) :: (n40, (.mem (.ar 7 (t38.f0.f1.map e152)))) :: (q2, (.mem (.ar 2 (p2.map e150)))) :: (n4, (.mem (e131 p1))) :: (n8, (.mem (e150 t5.1))) :: T0)) (Sub.cons 0 rfl (Sub.cons 0 rfl (Sub.cons 0 rfl (Sub.cons 0 rfl (Sub.cons 0 rfl (Sub.drop (Sub.refl _))))))) ?_
       exact ⟨n40, t38.f0.f0, t38.f0.f1, t38.f0.f2, t38.f0.f3, rfl, rfl, h⟩
     ·refine AW.condN _ rfl hc27 ?_
      refine AW.sr ?_
      refine AO.c (x := eBool (decide (p1.f0 = (3 : Int)))) (Calm.int rfl rfl rfl rfl) ?_
      refine AO.ag rfl rfl ?_
      refine AO.nK [0, 2, 4, 7, 8, 113] ?_
      rcases of_ite h with ⟨hc41, h⟩ | ⟨hc41, h⟩
      ·refine AW.condP _ rfl hc41 ?_
       refine AW.sr ?_
       refine AO.mv rfl rfl ?_
       refine AO.mv rfl rfl ?_
       refine AO.c (x := eI64 (w64 ((p2.length : Int) - (2 : Int)))) (Calm.int rfl rfl rfl rfl) ?_
       obtain ⟨hg42, h⟩ := of_guard h
       refine AO.c (x := .own q2 ((w64 ((p2.length : Int) - (2 : Int))).toNat) (p2.length - (w64 ((p2.length : Int) - (2 : Int))).toNat)) (Calm.sufO 2 rfl rfl rfl rfl hg42 Try.underlying147 sz150) ?_
       refine AO.c (Calm.lenOwn rfl rfl Try.underlying147) ?_
       refine AO.mv rfl rfl ?_
       refine AO.nK [0, 2, 4, 7, 8, 118, 119, 120] ?_
       refine AW.block ?_
       refine AW.wK [0, 2, 4, 7, 8, 118, 119, 120] ?_
       refine AW.loop (fun kq ρ H => ∃ (n44 : Nat) (x43 : Int) (x45 : (List S152)) (x46 : Int) (x47 : Int) (x48 : Int), ρ = [(0, (.ptr q0 0)), (2, (.own q2 0 p2.length)), (4, (.ptr n4 0)), (7, (eI64 (p2.length : Int))), (8, (.ptr n8 0)), (118, (.own q2 ((w64 ((p2.length : Int) - (2 : Int))).toNat) (p2.length - (w64 ((p2.length : Int) - (2 : Int))).toNat))), (119, (eI64 (((p2.length - (w64 ((p2.length : Int) - (2 : Int))).toNat) : Nat) : Int))), (120, (eI64 x48))] ∧ H = ((q0, (.mem (.st [(4, (.st [(1, (eI64 x43)), (1, (.own n44 0 x45.length)), (1, (eI64 x46)), (1, (eI64 x47))]))]))) :: (n44, (.mem (.ar 7 (x45.map e152)))) :: (q2, (.mem (.ar 2 (p2.map e150)))) :: (n4, (.mem (e131 p1))) :: (n8, (.mem (e150 t5.1))) :: T0) ∧ F94_l1 k p1 p2 t5 kq x43 x45 x46 x47 x48 = some r) k ⟨n7, t5.2.f0.f0, t5.2.f0.f1, t5.2.f0.f2, t5.2.f0.f3, (0 : Int), rfl, rfl, h⟩ ?_
       rintro kq50 _ _ ⟨n44, x43, x45, x46, x47, x48, rfl, rfl, h⟩
       cases kq50 with
       | zero => rw [F94_l1.eq_1] at h; cases h
       | succ kq50 =>
       rw [F94_l1.eq_2] at h
       generalize hrec49 : F94_l1 k p1 p2 t5 kq50 = rec49 at h
       refine AW.sr ?_
       refine AO.c (x := eBool (decide (x48 < (((p2.length - (w64 ((p2.length : Int) - (2 : Int))).toNat) : Nat) : Int)))) (Calm.int rfl rfl rfl rfl) ?_
       refine AO.nK [0, 2, 4, 7, 8, 118, 119, 120, 121] ?_
       refine AW.seq ?_
       rcases of_ite h with ⟨hc51, h⟩ | ⟨hc51, h⟩
       ·refine AW.condP _ rfl hc51 ?_
        refine AW.sK [0, 2, 4, 7, 8, 118, 119, 120] ?_
        refine AW.seq ?_
        refine AW.block ?_
        refine AW.sr ?_
        obtain ⟨hg52, h⟩ := of_guard h
        have hx53 : 0 ≤ ((w64 ((p2.length : Int) - (2 : Int))) + x48) ∧ ((w64 ((p2.length : Int) - (2 : Int))) + x48) < (p2.length : Int) := by omega
        refine AO.c (x := .ptr q2 (((w64 ((p2.length : Int) - (2 : Int))) + x48).toNat * 2 + 0)) (Calm.idxSufO 2 rfl rfl rfl rfl hg42.1 hg52 Try.underlying147 sz150) ?_
        refine AO.c (Calm.load 2 rfl rfl rfl (At.cast (At.lidx ((w64 ((p2.length : Int) - (2 : Int))) + x48) hx53.1 hx53.2 At.here) (by omega)) ag150 sz150) ?_
        refine AO.alloc rfl 12 rfl (by decide) rfl zr150 lay150 fun n54 => ?_
        refine AO.store (X' := (e150 (lget p2 ((w64 ((p2.length : Int) - (2 : Int))) + x48)))) 0 rfl rfl rfl rfl rfl rfl (Put.cast Put.here rfl) rfl rfl sz150 rfl ?_
        refine AO.nH [0, 2, 4, 7, 8, 12, 118, 119, 120] (H' := ((q0, (.mem (.st [(4, (.st [(1, (eI64 x43)), (1, (.own n44 0 x45.length)), (1, (eI64 x46)), (1, (eI64 x47))]))]))) :: (n44, (.mem (.ar 7 (x45.map e152)))) :: (q2, (.mem (.ar 2 (p2.map e150)))) :: (n4, (.mem (e131 p1))) :: (n8, (.mem (e150 t5.1))) :: (n54, (.mem (e150 (lget p2 ((w64 ((p2.length : Int) - (2 : Int))) + x48))))) :: T0)) (Sub.cons 1 rfl (Sub.cons 1 rfl (Sub.cons 1 rfl (Sub.cons 1 rfl (Sub.cons 1 rfl (Sub.cons 0 rfl (Sub.refl _))))))) ?_
        refine AW.sr ?_
        refine AO.mv rfl rfl ?_
        refine AO.c (x := .ptr n8 0) (Calm.fldPtr rfl rfl Try.underlying150 rfl sz3 _ rfl) ?_
        refine AO.c (Calm.load 4 rfl rfl rfl (At.cast (At.fld0 At.here) rfl) ag3 sz3) ?_
        refine AO.c (x := .ptr n54 0) (Calm.fldPtr rfl rfl Try.underlying150 rfl sz3 _ rfl) ?_
        refine AO.c (Calm.load 5 rfl rfl rfl (At.cast (At.fld0 At.here) rfl) ag3 sz3) ?_
        obtain ⟨t55, et55, h⟩ := of_bind h
        refine AO.callH [(.ptr q0 0), (eI64 t5.1.f0), (eI64 ((lget p2 ((w64 ((p2.length : Int) - (2 : Int))) + x48)).f0))] ((q0, (.mem (.st [(4, (.st [(1, (eI64 x43)), (1, (.own n44 0 x45.length)), (1, (eI64 x46)), (1, (eI64 x47))]))]))) :: (n44, (.mem (.ar 7 (x45.map e152)))) :: (q2, (.mem (.ar 2 (p2.map e150)))) :: (n4, (.mem (e131 p1))) :: (n8, (.mem (e150 t5.1))) :: (n54, (.mem (e150 (lget p2 ((w64 ((p2.length : Int) - (2 : Int))) + x48))))) :: T0) _ rfl rfl rfl 129 rfl (by decide) ok121 ⟨rfl, rfl, rfl, rfl, rfl, rfl, trivial⟩ (Sub.cons 0 rfl (Sub.cons 0 rfl (Sub.refl _))) (F121_spec et55) ?_
        rintro _ _ ⟨n57, rfl, hs56⟩
        refine AO.wH [0, 2, 4, 7, 8, 12, 118, 119, 120, 124, 125, 126, 127, 128, 129] hs56 ?_
        refine AO.nK [0, 2, 4, 7, 8, 12, 118, 119, 120] ?_
        refine AW.reg ?_
        refine AO.mv rfl rfl ?_
        refine AO.c (x := .ptr n54 1) (Calm.fldPtr rfl rfl Try.underlying150 rfl sz3 _ rfl) ?_
        refine AO.c (Calm.load 5 rfl rfl rfl (At.cast (At.fldS (At.fld0 At.here)) rfl) ag3 sz3) ?_
        refine AO.c (x := .ptr n8 1) (Calm.fldPtr rfl rfl Try.underlying150 rfl sz3 _ rfl) ?_
        refine AO.c (Calm.load 4 rfl rfl rfl (At.cast (At.fldS (At.fld0 At.here)) rfl) ag3 sz3) ?_
        obtain ⟨t58, et58, h⟩ := of_bind h
        refine AO.callH [(.ptr q0 0), (eI64 ((lget p2 ((w64 ((p2.length : Int) - (2 : Int))) + x48)).f1)), (eI64 t5.1.f1)] ((q0, (.mem (.st [(4, (.st [(1, (eI64 t55.f0.f0)), (1, (.own n57 0 t55.f0.f1.length)), (1, (eI64 t55.f0.f2)), (1, (eI64 t55.f0.f3))]))]))) :: (n57, (.mem (.ar 7 (t55.f0.f1.map e152)))) :: (q2, (.mem (.ar 2 (p2.map e150)))) :: (n4, (.mem (e131 p1))) :: (n8, (.mem (e150 t5.1))) :: (n54, (.mem (e150 (lget p2 ((w64 ((p2.length : Int) - (2 : Int))) + x48))))) :: T0) _ rfl rfl rfl 135 rfl (by decide) ok121 ⟨rfl, rfl, rfl, rfl, rfl, rfl, trivial⟩ (Sub.cons 0 rfl (Sub.cons 0 rfl (Sub.refl _))) (F121_spec et58) ?_
        rintro _ _ ⟨n60, rfl, hs59⟩
        refine AO.wH [0, 2, 4, 7, 8, 12, 118, 119, 120, 130, 131, 132, 133, 134, 135] hs59 ?_
        refine AO.nH [0, 2, 4, 7, 8, 118, 119, 120] (H' := ((q0, (.mem (.st [(4, (.st [(1, (eI64 t58.f0.f0)), (1, (.own n60 0 t58.f0.f1.length)), (1, (eI64 t58.f0.f2)), (1, (eI64 t58.f0.f3))]))]))) :: (n60, (.mem (.ar 7 (t58.f0.f1.map e152)))) :: (q2, (.mem (.ar 2 (p2.map e150)))) :: (n4, (.mem (e131 p1))) :: (n8, (.mem (e150 t5.1))) :: T0)) (Sub.cons 0 rfl (Sub.cons 0 rfl (Sub.cons 0 rfl (Sub.cons 0 rfl (Sub.cons 0 rfl (Sub.drop (Sub.refl _))))))) ?_
        refine AW.reg ?_
        refine AO.c (x := eI64 (w64 (x48 + (1 : Int)))) (Calm.int rfl rfl rfl rfl) ?_
        refine AO.mv rfl rfl ?_
        refine AO.nK [0, 2, 4, 7, 8, 118, 119, 120] ?_
        exact ⟨kq50, Nat.lt_succ_self _, n60, t58.f0.f0, t58.f0.f1, t58.f0.f2, t58.f0.f3, (w64 (x48 + (1 : Int))), rfl, rfl, by rw [hrec49]; exact h⟩
       ·refine AW.condN _ rfl hc51 ?_
        refine AW.eK [2, 4, 7, 8] ?_
        exact ⟨n44, x43, x45, x46, x47, rfl, rfl, h⟩
      ·refine AW.condN _ rfl hc41 ?_
       refine AW.sr ?_
       refine AO.mv rfl rfl ?_
       refine AO.mv rfl rfl ?_
       refine AO.c (x := eI64 (w64 ((p2.length : Int) - (1 : Int)))) (Calm.int rfl rfl rfl rfl) ?_
       obtain ⟨hg61, h⟩ := of_guard h
       refine AO.c (Calm.idxO 2 rfl rfl rfl rfl hg61 Try.underlying147 sz150) ?_
       refine AO.c (Calm.load 2 rfl rfl rfl (At.cast (At.lidx (w64 ((p2.length : Int) - (1 : Int))) hg61.1 hg61.2 At.here) (by omega)) ag150 sz150) ?_
       refine AO.alloc rfl 13 rfl (by decide) rfl zr150 lay150 fun n62 => ?_
       refine AO.store (X' := (e150 (lget p2 (w64 ((p2.length : Int) - (1 : Int)))))) 0 rfl rfl rfl rfl rfl rfl (Put.cast Put.here rfl) rfl rfl sz150 rfl ?_
       refine AO.nH [0, 2, 4, 7, 8, 13] (H' := ((q0, (.mem (.st [(4, (.st [(1, (eI64 t5.2.f0.f0)), (1, (.own n7 0 t5.2.f0.f1.length)), (1, (eI64 t5.2.f0.f2)), (1, (eI64 t5.2.f0.f3))]))]))) :: (n7, (.mem (.ar 7 (t5.2.f0.f1.map e152)))) :: (q2, (.mem (.ar 2 (p2.map e150)))) :: (n4, (.mem (e131 p1))) :: (n8, (.mem (e150 t5.1))) :: (n62, (.mem (e150 (lget p2 (w64 ((p2.length : Int) - (1 : Int))))))) :: T0)) (Sub.cons 1 rfl (Sub.cons 1 rfl (Sub.cons 1 rfl (Sub.cons 1 rfl (Sub.cons 1 rfl (Sub.cons 0 rfl (Sub.refl _))))))) ?_
       refine AW.sr ?_
       refine AO.mv rfl rfl ?_
       refine AO.c (x := .ptr n8 0) (Calm.fldPtr rfl rfl Try.underlying150 rfl sz3 _ rfl) ?_
       refine AO.c (Calm.load 4 rfl rfl rfl (At.cast (At.fld0 At.here) rfl) ag3 sz3) ?_
       refine AO.c (x := .ptr n62 0) (Calm.fldPtr rfl rfl Try.underlying150 rfl sz3 _ rfl) ?_
       refine AO.c (Calm.load 5 rfl rfl rfl (At.cast (At.fld0 At.here) rfl) ag3 sz3) ?_
       obtain ⟨t63, et63, h⟩ := of_bind h
       refine AO.callH [(.ptr q0 0), (eI64 t5.1.f0), (eI64 ((lget p2 (w64 ((p2.length : Int) - (1 : Int)))).f0))] ((q0, (.mem (.st [(4, (.st [(1, (eI64 t5.2.f0.f0)), (1, (.own n7 0 t5.2.f0.f1.length)), (1, (eI64 t5.2.f0.f2)), (1, (eI64 t5.2.f0.f3))]))]))) :: (n7, (.mem (.ar 7 (t5.2.f0.f1.map e152)))) :: (q2, (.mem (.ar 2 (p2.map e150)))) :: (n4, (.mem (e131 p1))) :: (n8, (.mem (e150 t5.1))) :: (n62, (.mem (e150 (lget p2 (w64 ((p2.length : Int) - (1 : Int))))))) :: T0) _ rfl rfl rfl 30 rfl (by decide) ok121 ⟨rfl, rfl, rfl, rfl, rfl, rfl, trivial⟩ (Sub.cons 0 rfl (Sub.cons 0 rfl (Sub.refl _))) (F121_spec et63) ?_
       rintro _ _ ⟨n65, rfl, hs64⟩
       refine AO.wH [0, 2, 4, 7, 8, 13, 25, 26, 27, 28, 29, 30] hs64 ?_
       refine AO.nK [0, 2, 4, 7, 8, 13] ?_
       refine AW.sr ?_
       refine AO.mv rfl rfl ?_
       refine AO.c (x := .ptr n62 1) (Calm.fldPtr rfl rfl Try.underlying150 rfl sz3 _ rfl) ?_
       refine AO.c (Calm.load 5 rfl rfl rfl (At.cast (At.fldS (At.fld0 At.here)) rfl) ag3 sz3) ?_
       refine AO.c (x := .ptr n8 1) (Calm.fldPtr rfl rfl Try.underlying150 rfl sz3 _ rfl) ?_
       refine AO.c (Calm.load 4 rfl rfl rfl (At.cast (At.fldS (At.fld0 At.here)) rfl) ag3 sz3) ?_
       obtain ⟨t66, et66, h⟩ := of_bind h
       refine AO.callH [(.ptr q0 0), (eI64 ((lget p2 (w64 ((p2.length : Int) - (1 : Int)))).f1)), (eI64 t5.1.f1)] ((q0, (.mem (.st [(4, (.st [(1, (eI64 t63.f0.f0)), (1, (.own n65 0 t63.f0.f1.length)), (1, (eI64 t63.f0.f2)), (1, (eI64 t63.f0.f3))]))]))) :: (n65, (.mem (.ar 7 (t63.f0.f1.map e152)))) :: (q2, (.mem (.ar 2 (p2.map e150)))) :: (n4, (.mem (e131 p1))) :: (n8, (.mem (e150 t5.1))) :: (n62, (.mem (e150 (lget p2 (w64 ((p2.length : Int) - (1 : Int))))))) :: T0) _ rfl rfl rfl 36 rfl (by decide) ok121 ⟨rfl, rfl, rfl, rfl, rfl, rfl, trivial⟩ (Sub.cons 0 rfl (Sub.cons 0 rfl (Sub.refl _))) (F121_spec et66) ?_
       rintro _ _ ⟨n68, rfl, hs67⟩
       refine AO.wH [0, 2, 4, 7, 8, 13, 31, 32, 33, 34, 35, 36] hs67 ?_
       refine AO.nK [0, 2, 4, 7, 8, 13] ?_
       refine AW.seq_mid (fun ρ H => ∃ (n70 : Nat) (x69 : Int) (x71 : (List S152)) (x72 : Int) (x73 : Int), ρ = [(0, (.ptr q0 0)), (2, (.own q2 0 p2.length)), (4, (.ptr n4 0)), (7, (eI64 (p2.length : Int))), (8, (.ptr n8 0))] ∧ H = ((q0, (.mem (.st [(4, (.st [(1, (eI64 x69)), (1, (.own n70 0 x71.length)), (1, (eI64 x72)), (1, (eI64 x73))]))]))) :: (n70, (.mem (.ar 7 (x71.map e152)))) :: (q2, (.mem (.ar 2 (p2.map e150)))) :: (n4, (.mem (e131 p1))) :: (n8, (.mem (e150 t5.1))) :: T0) ∧ F94_c2 k p1 p2 t5 x69 x71 x72 x73 = some r) ?_ ?_
       ·refine AW.sr ?_
        refine AO.c (x := .ptr n4 0) (Calm.fldPtr rfl rfl Try.underlying131 rfl sz3 _ rfl) ?_
        refine AO.c (Calm.load 3 rfl rfl rfl (At.cast (At.fld0 At.here) rfl) ag3 sz3) ?_
        refine AO.c (x := eBool (decide (p1.f0 ≠ (6 : Int)))) (Calm.int rfl rfl rfl rfl) ?_
        refine AO.nK [0, 2, 4, 7, 8, 13, 39] ?_
        rcases of_ite h with ⟨hc78, h⟩ | ⟨hc78, h⟩
        ·refine AW.condP _ rfl hc78 ?_
         refine AW.reg ?_
         refine AO.mv rfl rfl ?_
         refine AO.c (x := .ptr n62 1) (Calm.fldPtr rfl rfl Try.underlying150 rfl sz3 _ rfl) ?_
         refine AO.c (Calm.load 5 rfl rfl rfl (At.cast (At.fldS (At.fld0 At.here)) rfl) ag3 sz3) ?_
         refine AO.c (x := .ptr n62 0) (Calm.fldPtr rfl rfl Try.underlying150 rfl sz3 _ rfl) ?_
         refine AO.c (Calm.load 5 rfl rfl rfl (At.cast (At.fld0 At.here) rfl) ag3 sz3) ?_
         obtain ⟨t79, et79, h⟩ := of_bind h
         refine AO.callH [(.ptr q0 0), (eI64 ((lget p2 (w64 ((p2.length : Int) - (1 : Int)))).f1)), (eI64 ((lget p2 (w64 ((p2.length : Int) - (1 : Int)))).f0))] ((q0, (.mem (.st [(4, (.st [(1, (eI64 t66.f0.f0)), (1, (.own n68 0 t66.f0.f1.length)), (1, (eI64 t66.f0.f2)), (1, (eI64 t66.f0.f3))]))]))) :: (n68, (.mem (.ar 7 (t66.f0.f1.map e152)))) :: (q2, (.mem (.ar 2 (p2.map e150)))) :: (n4, (.mem (e131 p1))) :: (n8, (.mem (e150 t5.1))) :: (n62, (.mem (e150 (lget p2 (w64 ((p2.length : Int) - (1 : Int))))))) :: T0) _ rfl rfl rfl 45 rfl (by decide) ok121 ⟨rfl, rfl, rfl, rfl, rfl, rfl, trivial⟩ (Sub.cons 0 rfl (Sub.cons 0 rfl (Sub.refl _))) (F121_spec et79) ?_
         rintro _ _ ⟨n81, rfl, hs80⟩
         refine AO.wH [0, 2, 4, 7, 8, 13, 39, 40, 41, 42, 43, 44, 45] hs80 ?_
         refine AO.nH [0, 2, 4, 7, 8] (H' := ((q0, (.mem (.st [(4, (.st [(1, (eI64 t79.f0.f0)), (1, (.own n81 0 t79.f0.f1.length)), (1, (eI64 t79.f0.f2)), (1, (eI64 t79.f0.f3))]))]))) :: (n81, (.mem (.ar 7 (t79.f0.f1.map e152)))) :: (q2, (.mem (.ar 2 (p2.map e150)))) :: (n4, (.mem (e131 p1))) :: (n8, (.mem (e150 t5.1))) :: T0)) (Sub.cons 0 rfl (Sub.cons 0 rfl (Sub.cons 0 rfl (Sub.cons 0 rfl (Sub.cons 0 rfl (Sub.drop (Sub.refl _))))))) ?_
         exact ⟨n81, t79.f0.f0, t79.f0.f1, t79.f0.f2, t79.f0.f3, rfl, rfl, h⟩
        ·refine AW.condN _ rfl hc78 ?_
         refine AW.sH [0, 2, 4, 7, 8] (H' := ((q0, (.mem (.st [(4, (.st [(1, (eI64 t66.f0.f0)), (1, (.own n68 0 t66.f0.f1.length)), (1, (eI64 t66.f0.f2)), (1, (eI64 t66.f0.f3))]))]))) :: (n68, (.mem (.ar 7 (t66.f0.f1.map e152)))) :: (q2, (.mem (.ar 2 (p2.map e150)))) :: (n4, (.mem (e131 p1))) :: (n8, (.mem (e150 t5.1))) :: T0)) (Sub.cons 0 rfl (Sub.cons 0 rfl (Sub.cons 0 rfl (Sub.cons 0 rfl (Sub.cons 0 rfl (Sub.drop (Sub.refl _))))))) ?_
         exact ⟨n68, t66.f0.f0, t66.f0.f1, t66.f0.f2, t66.f0.f3, rfl, rfl, h⟩
       ·rintro _ _ ⟨n70, x69, x71, x72, x73, rfl, rfl, h⟩
        rw [F94_c2.eq_1] at h
        refine AW.sr ?_
        refine AO.c (x := .ptr n4 0) (Calm.fldPtr rfl rfl Try.underlying131 rfl sz3 _ rfl) ?_
        refine AO.c (Calm.load 3 rfl rfl rfl (At.cast (At.fld0 At.here) rfl) ag3 sz3) ?_
        refine AO.c (x := eBool (decide (p1.f0 ≠ (5 : Int)))) (Calm.int rfl rfl rfl rfl) ?_
        refine AO.nK [0, 2, 4, 7, 8, 48] ?_
        rcases of_ite h with ⟨hc74, h⟩ | ⟨hc74, h⟩
        ·refine AW.condP _ rfl hc74 ?_
         refine AW.reg ?_
         refine AO.mv rfl rfl ?_
         refine AO.c (x := .ptr n8 0) (Calm.fldPtr rfl rfl Try.underlying150 rfl sz3 _ rfl) ?_
         refine AO.c (Calm.load 4 rfl rfl rfl (At.cast (At.fld0 At.here) rfl) ag3 sz3) ?_
         refine AO.c (x := .ptr n8 1) (Calm.fldPtr rfl rfl Try.underlying150 rfl sz3 _ rfl) ?_
         refine AO.c (Calm.load 4 rfl rfl rfl (At.cast (At.fldS (At.fld0 At.here)) rfl) ag3 sz3) ?_
         obtain ⟨t75, et75, h⟩ := of_bind h
         refine AO.callH [(.ptr q0 0), (eI64 t5.1.f0), (eI64 t5.1.f1)] ((q0, (.mem (.st [(4, (.st [(1, (eI64 x69)), (1, (.own n70 0 x71.length)), (1, (eI64 x72)), (1, (eI64 x73))]))]))) :: (n70, (.mem (.ar 7 (x71.map e152)))) :: (q2, (.mem (.ar 2 (p2.map e150)))) :: (n4, (.mem (e131 p1))) :: (n8, (.mem (e150 t5.1))) :: T0) _ rfl rfl rfl 54 rfl (by decide) ok121 ⟨rfl, rfl, rfl, rfl, rfl, rfl, trivial⟩ (Sub.cons 0 rfl (Sub.cons 0 rfl (Sub.refl _))) (F121_spec et75) ?_
         rintro _ _ ⟨n77, rfl, hs76⟩
         refine AO.wH [0, 2, 4, 7, 8, 48, 49, 50, 51, 52, 53, 54] hs76 ?_
         refine AO.nK [2, 4, 7, 8] ?_
         exact ⟨n77, t75.f0.f0, t75.f0.f1, t75.f0.f2, t75.f0.f3, rfl, rfl, h⟩
        ·refine AW.condN _ rfl hc74 ?_
         refine AW.sK [2, 4, 7, 8] ?_
         exact ⟨n70, x69, x71, x72, x73, rfl, rfl, h⟩
  ·rintro _ _ ⟨n10, x9, x11, x12, x13, rfl, rfl, h⟩
   rw [F94_c0.eq_1] at h
   refine AW.seq ?_
   obtain ⟨t14, et14, h⟩ := of_bind h
   obtain ⟨hg15, h⟩ := of_guard h
   obtain ⟨hg18, h⟩ := of_guard h
   refine AW.regEff (by rfl) (by decide +kernel) (fun (σ : Nat → Nat) => ([(.own q2 0 p2.length), (eI64 (p2.length : Int)), (.ptr n4 0), (eI64 p1.f0), (eI64 t14), (eI64 (w64 ((p2.length : Int) - t14))), (.own q2 0 ((w64 ((p2.length : Int) - t14)).toNat)), (e150 t5.1), (.fz 2 (([t5.1] : List S150).map e150)), (.own (σ 9) 0 (p2.take ((w64 ((p2.length : Int) - t14)).toNat) ++ ([t5.1] : List S150)).length), (.own (σ 9) 0 (p2.take ((w64 ((p2.length : Int) - t14)).toNat) ++ ([t5.1] : List S150)).length)] : List AV)) (fun (L : Nat → Bool) (σ : Nat → Nat) => ((q0, (.mem (.st [(4, (.st [(1, (eI64 x9)), (1, (.own n10 0 x11.length)), (1, (eI64 x12)), (1, (eI64 x13))]))]))) :: (n10, (.mem (.ar 7 (x11.map e152)))) :: (n4, (.mem (e131 p1))) :: (n8, (.mem (e150 t5.1))) :: (bif L 9 then (((σ 9), (.mem (.ar 2 ((p2.take ((w64 ((p2.length : Int) - t14)).toNat) ++ ([t5.1] : List S150)).map e150)))) :: T0) else ((q2, (.mem (.ar 2 (p2.map e150)))) :: T0)) : Heap)) [(2, (.own q2 0 p2.length)), (4, (.ptr n4 0)), (7, (eI64 (p2.length : Int))), (8, (.ptr n8 0))] ⟨rfl, rfl, rfl, rfl, trivial⟩ (fun _ => rfl) (fun σ => (Sub.cons 0 rfl (Sub.cons 0 rfl (Sub.cons 1 rfl (Sub.cons 1 rfl (Sub.cons 0 rfl (Sub.refl _))))))) ⟨?_, ?_, ?_, ?_, ?_, ?_, ?_, ?_, ?_, ?_, ?_, trivial⟩ (fun σ => [(6, (.own (σ 9) 0 (p2.take ((w64 ((p2.length : Int) - t14)).toNat) ++ ([t5.1] : List S150)).length))]) (fun σ => ((q0, (.mem (.st [(4, (.st [(1, (eI64 x9)), (1, (.own n10 0 x11.length)), (1, (eI64 x12)), (1, (eI64 x13))]))]))) :: (n10, (.mem (.ar 7 (x11.map e152)))) :: (n4, (.mem (e131 p1))) :: (n8, (.mem (e150 t5.1))) :: ((σ 9), (.mem (.ar 2 ((p2.take ((w64 ((p2.length : Int) - t14)).toNat) ++ ([t5.1] : List S150)).map e150)))) :: T0)) (fun σ => ⟨rfl, trivial⟩) (fun σ => Sub.refl _) (fun σ => ?_)
   ·refine StepE.calm (fun _ _ => rfl) fun L σ hc hi hd => ?_
    have m6 : L 6 = false := hc.neg (i := 0) (j := 6) rfl (by rfl) hi
    have m9 : L 9 = false := hc.neg (i := 6) (j := 9) rfl (by rfl) m6
    refine AO.heq (H' := ((q0, (.mem (.st [(4, (.st [(1, (eI64 x9)), (1, (.own n10 0 x11.length)), (1, (eI64 x12)), (1, (eI64 x13))]))]))) :: (n10, (.mem (.ar 7 (x11.map e152)))) :: (n4, (.mem (e131 p1))) :: (n8, (.mem (e150 t5.1))) :: (q2, (.mem (.ar 2 (p2.map e150)))) :: T0)) (by first | rfl | simp only [m9, cond_true, cond_false]) ?_
    refine AO.wK [2] ?_
    refine AO.mv rfl rfl ?_
    exact AO.nE (d := 137) rfl ⟨⟨137, _, rfl, rfl, rfl⟩, Sub.of_eq (by first | rfl | simp only [m9, cond_true, cond_false]) (Sub.refl _)⟩
   ·refine StepE.calm (fun _ _ => rfl) fun L σ hc hi hd => ?_
    refine AO.wK [7] ?_
    refine AO.mv rfl rfl ?_
    exact AO.nE (d := 138) rfl ⟨⟨138, _, rfl, rfl, rfl⟩, Sub.refl _⟩
   ·refine StepE.calm (fun _ _ => rfl) fun L σ hc hi hd => ?_
    refine AO.wK [4] ?_
    refine AO.c (x := .ptr n4 0) (Calm.fldPtr rfl rfl Try.underlying131 rfl sz3 _ rfl) ?_
    exact AO.nE (d := 139) rfl ⟨⟨139, _, rfl, rfl, rfl⟩, Sub.refl _⟩
   ·refine StepE.calm (fun _ _ => rfl) fun L σ hc hi hd => ?_
    refine AO.wK [139] ?_
    refine AO.c (Calm.load 2 rfl rfl rfl (At.cast (At.fld0 At.here) rfl) ag3 sz3) ?_
    exact AO.nE (d := 140) rfl ⟨⟨140, _, rfl, rfl, rfl⟩, Sub.refl _⟩
   ·refine StepE.calm (fun _ _ => rfl) fun L σ hc hi hd => ?_
    refine AO.wK [140] ?_
    refine AO.callS [(eI64 p1.f0)] (eI64 t14) 141 rfl (by decide) ok118 rfl rfl rfl ⟨rfl, rfl, trivial⟩ (F118_spec et14) ?_
    exact AO.nE (d := 141) rfl ⟨⟨141, _, rfl, rfl, rfl⟩, Sub.refl _⟩
   ·refine StepE.calm (fun _ _ => rfl) fun L σ hc hi hd => ?_
    refine AO.wK [138, 141] ?_
    refine AO.c (x := eI64 (w64 ((p2.length : Int) - t14))) (Calm.int rfl rfl rfl rfl) ?_
    exact AO.nE (d := 142) rfl ⟨⟨142, _, rfl, rfl, rfl⟩, Sub.refl _⟩
   ·refine StepE.calm (fun _ _ => rfl) fun L σ hc hi hd => ?_
    have m9 : L 9 = false := hc.neg (i := 6) (j := 9) rfl (by rfl) hi
    refine AO.heq (H' := ((q0, (.mem (.st [(4, (.st [(1, (eI64 x9)), (1, (.own n10 0 x11.length)), (1, (eI64 x12)), (1, (eI64 x13))]))]))) :: (n10, (.mem (.ar 7 (x11.map e152)))) :: (n4, (.mem (e131 p1))) :: (n8, (.mem (e150 t5.1))) :: (q2, (.mem (.ar 2 (p2.map e150)))) :: T0)) (by first | rfl | simp only [m9, cond_true, cond_false]) ?_
    refine AO.wK [137, 142] ?_
    refine AO.c (x := .own q2 0 ((w64 ((p2.length : Int) - t14)).toNat)) (Calm.preO 4 rfl rfl rfl rfl hg15 Try.underlying147 sz150) ?_
    exact AO.nE (d := 143) rfl ⟨⟨143, _, rfl, rfl, rfl⟩, Sub.of_eq (by first | rfl | simp only [m9, cond_true, cond_false]) (Sub.refl _)⟩
   ·refine StepE.calm (fun _ _ => rfl) fun L σ hc hi hd => ?_
    refine AO.wK [8] ?_
    refine AO.c (Calm.load 3 rfl rfl rfl (At.cast At.here rfl) ag150 sz150) ?_
    exact AO.nE (d := 144) rfl ⟨⟨144, _, rfl, rfl, rfl⟩, Sub.refl _⟩
   ·refine StepE.calm (fun _ _ => rfl) fun L σ hc hi hd => ?_
    refine AO.wK [144] ?_
    refine AO.lit (Z := (.st [(1, (eI64 (0 : Int))), (1, (eI64 (0 : Int)))])) (xs := (([t5.1] : List S150).map e150)) (qs := [(0, (e150 t5.1))]) rfl 145 rfl (by decide) rfl ⟨rfl, rfl, rfl, trivial⟩ Try.underlying147 sz150 zr150 lay150 rfl (by decide) (litOK (z := 2) [(e150 t5.1)] rfl ⟨⟨rfl, rfl⟩, trivial⟩) rfl fun n16 => ?_
    refine AO.freezeS 0 [(145, (.fz 2 (([t5.1] : List S150).map e150)))] rfl ⟨fz_all rfl, trivial⟩ ?_
    exact AO.nE (d := 145) rfl ⟨⟨145, _, rfl, rfl, rfl⟩, Sub.refl _⟩
   ·intro L σ hc hi hd
    refine AO.heq (H' := ((q0, (.mem (.st [(4, (.st [(1, (eI64 x9)), (1, (.own n10 0 x11.length)), (1, (eI64 x12)), (1, (eI64 x13))]))]))) :: (n10, (.mem (.ar 7 (x11.map e152)))) :: (n4, (.mem (e131 p1))) :: (n8, (.mem (e150 t5.1))) :: (q2, (.mem (.ar 2 (p2.map e150)))) :: T0)) (by first | rfl | simp only [hi, cond_true, cond_false]) ?_
    refine AO.wK [143, 145] ?_
    refine AO.appendCut (l := p2) (m := ([t5.1] : List S150)) 4 146 rfl (by decide) rfl rfl rfl (by omega) rfl rfl Src.fz Try.underlying147 Try.underlying147 sz150 by150 zr150 rfl hg18 (by decide) fun n17 => ?_
    have a9 : addL L 9 9 = true := rfl
    have u9 : upd σ 9 n17 9 = n17 := rfl
    have m10 : L 10 = false := hc.neg (i := 9) (j := 10) rfl (by rfl) hi
    exact AO.nE (d := 146) rfl ⟨(upd σ 9 n17), (fun j hj => match j, hj with | 0, _ => rfl | 1, _ => rfl | 2, _ => rfl | 3, _ => rfl | 4, _ => rfl | 5, _ => rfl | 6, _ => rfl | 7, _ => rfl | 8, _ => rfl | 9, hj => Bool.noConfusion (hj.symm.trans hi) | 10, hj => Bool.noConfusion (hj.symm.trans m10) | _ + 11, _ => rfl), (fun d' hd' => ⟨_, rfl, by cases hd'; rfl⟩), Sub.of_eq (B := ((q0, (.mem (.st [(4, (.st [(1, (eI64 x9)), (1, (.own n10 0 x11.length)), (1, (eI64 x12)), (1, (eI64 x13))]))]))) :: (n10, (.mem (.ar 7 (x11.map e152)))) :: (n4, (.mem (e131 p1))) :: (n8, (.mem (e150 t5.1))) :: (n17, (.mem (.ar 2 ((p2.take ((w64 ((p2.length : Int) - t14)).toNat) ++ ([t5.1] : List S150)).map e150)))) :: T0)) (by simp only [a9, u9, cond_true, cond_false]) (Sub.refl _)⟩
   ·refine StepE.calm (fun _ _ => rfl) fun L σ hc hi hd => ?_
    have y9 : L 9 = true := on_get hd (i := 9) (by rfl)
    refine AO.heq (H' := ((q0, (.mem (.st [(4, (.st [(1, (eI64 x9)), (1, (.own n10 0 x11.length)), (1, (eI64 x12)), (1, (eI64 x13))]))]))) :: (n10, (.mem (.ar 7 (x11.map e152)))) :: (n4, (.mem (e131 p1))) :: (n8, (.mem (e150 t5.1))) :: ((σ 9), (.mem (.ar 2 ((p2.take ((w64 ((p2.length : Int) - t14)).toNat) ++ ([t5.1] : List S150)).map e150)))) :: T0)) (by first | rfl | simp only [y9, cond_true, cond_false]) ?_
    refine AO.wK [146] ?_
    refine AO.ag rfl rfl ?_
    exact AO.nE (d := 6) rfl ⟨⟨6, _, rfl, rfl, rfl⟩, Sub.of_eq (by first | rfl | simp only [y9, cond_true, cond_false]) (Sub.refl _)⟩
   ·generalize σ 9 = n17
    refine AO.nH [6] (H' := ((q0, (.mem (.st [(4, (.st [(1, (eI64 x9)), (1, (.own n10 0 x11.length)), (1, (eI64 x12)), (1, (eI64 x13))]))]))) :: (n10, (.mem (.ar 7 (x11.map e152)))) :: (n17, (.mem (.ar 2 ((p2.take ((w64 ((p2.length : Int) - t14)).toNat) ++ ([t5.1] : List S150)).map e150)))) :: T0)) (Sub.cons 0 rfl (Sub.cons 0 rfl (Sub.cons 2 rfl (Sub.drop (Sub.drop (Sub.refl _)))))) ?_
    refine AW.rK [6] ?_
    have hr := Option.some.inj h
    subst hr
    exact ⟨[(.own n17 0 (p2.take ((w64 ((p2.length : Int) - t14)).toNat) ++ ([t5.1] : List S150)).length)], ⟨rfl, rfl, trivial⟩, n17, n10, rfl, (Sub.cons 2 rfl (Sub.cons 0 rfl (Sub.cons 0 rfl (Sub.refl _))))⟩
end Go.Avl.T7
/- bosket/nfa.Of; printed by avmain.py. -/
namespace Go.Avl.T7
open Go Go.RowKit Go.Proofs Go.Avl
set_option linter.unusedVariables false
set_option maxRecDepth 100000
set_option maxHeartbeats 4000000
set_option linter.unusedSimpArgs false
attribute [local irreducible] AW AO AQ Spec SpecH Calm

def F74_c0 (k : Nat) (x6 : Int) (x8 : (List S152)) (x9 : Int) (x10 : Int) (x12 : (List S150)) : Option (S121 × Int) :=
  if 0 ≤ (0 : Int) ∧ (0 : Int) < (x12.length : Int) then if 0 ≤ (0 : Int) ∧ (0 : Int) < (x12.length : Int) then some ((S121.mk x6 x8 ((lget x12 (0 : Int)).f0) ((lget x12 (0 : Int)).f1)), (0 : Int))
  else none
  else none
def F74_l1 (k : Nat) (p0 : (List S131)) : Nat → Int → (List S152) → Int → Int → (List S150) → Int → Option (S121 × Int)
  | 0, _, _, _, _, _, _ => none
  | j + 1, x15, x17, x18, x19, x21, x22 =>
    if x22 < (p0.length : Int) then if 0 ≤ x22 ∧ x22 < (p0.length : Int) then (F94 k (S146.mk (S121.mk x15 x17 x18 x19)) (lget p0 x22) x21).bind fun t28 =>
    (F74_l1 k p0 j) t28.2.f0.f0 t28.2.f0.f1 t28.2.f0.f2 t28.2.f0.f3 t28.1 (w64 (x22 + (1 : Int)))
    else none
    else F74_c0 k x15 x17 x18 x19 x21
def F74 (k : Nat) (p0 : (List S131)) : Option (S121 × Int) :=
  (F93 k p0).bind fun t3 =>
  if t3 ≠ (0 : Int) then some ((S121.mk (0 : Int) ([] : List S152) (0 : Int) (0 : Int)), t3)
  else F74_l1 k p0 k (0 : Int) ([] : List S152) (0 : Int) (0 : Int) ([] : List S150) (0 : Int)
theorem F74_spec {k : Nat} {p0 : (List S131)} {r : (S121 × Int)} (h : F74 k p0 = some r) : Spec Try.prog 74 [(.fz 5 (p0.map e131))] (.tup [(e121 r.1), (eI64 r.2)]) := by
  rw [F74.eq_1] at h
  refine Spec.intro (res := [.cell 2 121, .tmp 3]) Try.func74 rfl rfl rfl (Nat.le_of_ble_eq_true rfl) ?_
  refine AW.sr ?_
  refine AO.alloc rfl 2 rfl (by decide) rfl zr121 lay121 fun n2 => ?_
  refine AO.ag rfl rfl ?_
  refine AO.nK [0, 2] ?_
  refine AW.seq ?_
  refine AW.sr ?_
  refine AO.mv rfl rfl ?_
  obtain ⟨t3, et3, h⟩ := of_bind h
  refine AO.callS [(.fz 5 (p0.map e131))] (eI64 t3) 10 rfl (by decide) ok93 rfl rfl rfl ⟨rfl, rfl, trivial⟩ (F93_spec et3) ?_
  refine AO.ag rfl rfl ?_
  refine AO.nK [0, 2, 4] ?_
  refine AW.sr ?_
  refine AO.mv rfl rfl ?_
  refine AO.c (x := eBool (decide (t3 ≠ (0 : Int)))) (Calm.int rfl rfl rfl rfl) ?_
  refine AO.nK [0, 2, 4, 12] ?_
  rcases of_ite h with ⟨hc4, h⟩ | ⟨hc4, h⟩
  ·refine AW.condP _ rfl hc4 ?_
   refine AW.sr ?_
   refine AO.c (x := .st [(1, (eI64 (0 : Int))), (1, (.fl (.slice none 0 0))), (1, (eI64 (0 : Int))), (1, (eI64 (0 : Int)))]) (Calm.build (qs := []) rfl trivial Try.underlying121 rfl zr121 lay121 .nil rfl) ?_
   refine AO.mv rfl rfl ?_
   refine AO.store (X' := (.st [(1, (eI64 (0 : Int))), (1, (.fl (.slice none 0 0))), (1, (eI64 (0 : Int))), (1, (eI64 (0 : Int)))])) 0 rfl rfl rfl rfl rfl rfl (Put.cast Put.here rfl) rfl rfl sz121 rfl ?_
   refine AO.ag rfl rfl ?_
   refine AO.nK [2, 3] ?_
   refine AW.coeFld (X' := (.st [(1, (eI64 (0 : Int))), (1, (.fz 7 (([] : List S152).map e152))), (1, (eI64 (0 : Int))), (1, (eI64 (0 : Int)))])) 0 rfl (Put.cast (Put.fldS (Put.fld0 Put.here)) rfl) rfl (nil_fz 7) rfl rfl ?_
   refine AW.rK [2, 3] ?_
   have hr := Option.some.inj h
   subst hr
   exact ⟨[(e121 (S121.mk (0 : Int) ([] : List S152) (0 : Int) (0 : Int))), (eI64 t3)], ⟨⟨_, 0, rfl, rfl, ag121, sz121⟩, rfl, rfl, trivial⟩, rfl⟩
  ·refine AW.condN _ rfl hc4 ?_
   refine AW.sK [0, 2] ?_
   refine AW.sr ?_
   refine AO.c (x := .st [(4, (.st [(1, (eI64 (0 : Int))), (1, (.fl (.slice none 0 0))), (1, (eI64 (0 : Int))), (1, (eI64 (0 : Int)))]))]) (Calm.build (qs := []) rfl trivial Try.underlying146 rfl zr146 lay146 .nil rfl) ?_
   refine AO.box rfl 16 rfl (by decide) rfl rfl rfl fun n5 => ?_
   refine AO.ag rfl rfl ?_
   refine AO.nH [0, 2, 5] (H' := [(n2, (.mem (.st [(1, (eI64 (0 : Int))), (1, (.fl (.slice none 0 0))), (1, (eI64 (0 : Int))), (1, (eI64 (0 : Int)))]))), (n5, (.mem (.st [(4, (.st [(1, (eI64 (0 : Int))), (1, (.fl (.slice none 0 0))), (1, (eI64 (0 : Int))), (1, (eI64 (0 : Int)))]))])))]) (Sub.cons 1 rfl (Sub.cons 0 rfl (Sub.nil _))) ?_
   refine AW.sr ?_
   refine AO.ag rfl rfl ?_
   refine AO.nK [0, 2, 5, 6] ?_
   refine AW.seq_mid (fun ρ H => ∃ (n7 : Nat) (n11 : Nat) (x6 : Int) (x8 : (List S152)) (x9 : Int) (x10 : Int) (x12 : (List S150)), ρ = [(2, (.ptr n2 0)), (5, (.ptr n5 0)), (6, (.own n11 0 x12.length))] ∧ H = [(n2, (.mem (.st [(1, (eI64 (0 : Int))), (1, (.fl (.slice none 0 0))), (1, (eI64 (0 : Int))), (1, (eI64 (0 : Int)))]))), (n5, (.mem (.st [(4, (.st [(1, (eI64 x6)), (1, (.own n7 0 x8.length)), (1, (eI64 x9)), (1, (eI64 x10))]))]))), (n7, (.mem (.ar 7 (x8.map e152)))), (n11, (.mem (.ar 2 (x12.map e150))))] ∧ F74_c0 k x6 x8 x9 x10 x12 = some r) ?_ ?_
   ·refine AW.sr ?_
    refine AO.mv rfl rfl ?_
    refine AO.c (Calm.lenL rfl rfl Try.underlying68) ?_
    refine AO.mv rfl rfl ?_
    refine AO.nK [2, 5, 6, 17, 18, 19] ?_
    refine AW.block ?_
    refine AW.nilOwn 6 2 rfl fun n32 => ?_
    refine AW.nilOwnFld 2 7 (fun n33 => (.st [(4, (.st [(1, (eI64 (0 : Int))), (1, (.own n33 0 0)), (1, (eI64 (0 : Int))), (1, (eI64 (0 : Int)))]))])) rfl (fun _ => (Put.cast (Put.fld0 (Put.fldS (Put.fld0 Put.here))) rfl)) (fun _ => rfl) (fun _ => rfl) fun n33 => ?_
    refine AW.wH [2, 5, 6, 17, 18, 19] (H' := [(n2, (.mem (.st [(1, (eI64 (0 : Int))), (1, (.fl (.slice none 0 0))), (1, (eI64 (0 : Int))), (1, (eI64 (0 : Int)))]))), (n5, (.mem (.st [(4, (.st [(1, (eI64 (0 : Int))), (1, (.own n33 0 ([] : List S152).length)), (1, (eI64 (0 : Int))), (1, (eI64 (0 : Int)))]))]))), (n33, (.mem (.ar 7 (([] : List S152).map e152)))), (n32, (.mem (.ar 2 (([] : List S150).map e150))))]) (Sub.cons 2 rfl (Sub.cons 2 rfl (Sub.cons 0 rfl (Sub.cons 0 rfl (Sub.nil _))))) ?_
    refine AW.loop (fun kq ρ H => ∃ (n16 : Nat) (n20 : Nat) (x15 : Int) (x17 : (List S152)) (x18 : Int) (x19 : Int) (x21 : (List S150)) (x22 : Int), ρ = [(2, (.ptr n2 0)), (5, (.ptr n5 0)), (6, (.own n20 0 x21.length)), (17, (.fz 5 (p0.map e131))), (18, (eI64 (p0.length : Int))), (19, (eI64 x22))] ∧ H = [(n2, (.mem (.st [(1, (eI64 (0 : Int))), (1, (.fl (.slice none 0 0))), (1, (eI64 (0 : Int))), (1, (eI64 (0 : Int)))]))), (n5, (.mem (.st [(4, (.st [(1, (eI64 x15)), (1, (.own n16 0 x17.length)), (1, (eI64 x18)), (1, (eI64 x19))]))]))), (n16, (.mem (.ar 7 (x17.map e152)))), (n20, (.mem (.ar 2 (x21.map e150))))] ∧ F74_l1 k p0 kq x15 x17 x18 x19 x21 x22 = some r) k ⟨n33, n32, (0 : Int), ([] : List S152), (0 : Int), (0 : Int), ([] : List S150), (0 : Int), rfl, rfl, h⟩ ?_
    rintro kq24 _ _ ⟨n16, n20, x15, x17, x18, x19, x21, x22, rfl, rfl, h⟩
    cases kq24 with
    | zero => rw [F74_l1.eq_1] at h; cases h
    | succ kq24 =>
    rw [F74_l1.eq_2] at h
    generalize hrec23 : F74_l1 k p0 kq24 = rec23 at h
    refine AW.sr ?_
    refine AO.c (x := eBool (decide (x22 < (p0.length : Int)))) (Calm.int rfl rfl rfl rfl) ?_
    refine AO.nK [2, 5, 6, 17, 18, 19, 20] ?_
    refine AW.seq ?_
    rcases of_ite h with ⟨hc25, h⟩ | ⟨hc25, h⟩
    ·refine AW.condP _ rfl hc25 ?_
     refine AW.sK [2, 5, 6, 17, 18, 19] ?_
     refine AW.seq ?_
     refine AW.block ?_
     refine AW.sr ?_
     obtain ⟨hg26, h⟩ := of_guard h
     refine AO.c (Calm.idxL (f := e131) rfl rfl rfl hg26 Try.underlying68 sz131) ?_
     refine AO.c (Calm.loadRp rfl rfl ag131 sz131) ?_
     refine AO.alloc rfl 8 rfl (by decide) rfl zr131 lay131 fun n27 => ?_
     refine AO.store (X' := (e131 (lget p0 x22))) 0 rfl rfl rfl rfl rfl rfl (Put.cast Put.here rfl) rfl rfl sz131 rfl ?_
     refine AO.nH [2, 5, 6, 8, 17, 18, 19] (H' := [(n2, (.mem (.st [(1, (eI64 (0 : Int))), (1, (.fl (.slice none 0 0))), (1, (eI64 (0 : Int))), (1, (eI64 (0 : Int)))]))), (n5, (.mem (.st [(4, (.st [(1, (eI64 x15)), (1, (.own n16 0 x17.length)), (1, (eI64 x18)), (1, (eI64 x19))]))]))), (n16, (.mem (.ar 7 (x17.map e152)))), (n20, (.mem (.ar 2 (x21.map e150)))), (n27, (.mem (e131 (lget p0 x22))))]) (Sub.cons 1 rfl (Sub.cons 1 rfl (Sub.cons 1 rfl (Sub.cons 1 rfl (Sub.cons 0 rfl (Sub.nil _)))))) ?_
     refine AW.reg ?_
     refine AO.mv rfl rfl ?_
     refine AO.c (Calm.load 4 rfl rfl rfl (At.cast At.here rfl) ag131 sz131) ?_
     refine AO.mv rfl rfl ?_
     obtain ⟨t28, et28, h⟩ := of_bind h
     refine AO.callH [(.ptr n5 0), (e131 (lget p0 x22)), (.own n20 0 x21.length)] [(n5, (.mem (.st [(4, (.st [(1, (eI64 x15)), (1, (.own n16 0 x17.length)), (1, (eI64 x18)), (1, (eI64 x19))]))]))), (n16, (.mem (.ar 7 (x17.map e152)))), (n20, (.mem (.ar 2 (x21.map e150)))), (n2, (.mem (.st [(1, (eI64 (0 : Int))), (1, (.fl (.slice none 0 0))), (1, (eI64 (0 : Int))), (1, (eI64 (0 : Int)))]))), (n27, (.mem (e131 (lget p0 x22))))] _ rfl rfl rfl 26 rfl (by decide) ok94 ⟨rfl, rfl, rfl, rfl, rfl, rfl, trivial⟩ (Sub.cons 1 rfl (Sub.cons 1 rfl (Sub.cons 1 rfl (Sub.refl _)))) (F94_spec et28) ?_
     rintro _ _ ⟨n30, n31, rfl, hs29⟩
     refine AO.wH [2, 5, 8, 17, 18, 19, 23, 24, 26] hs29 ?_
     refine AO.ag rfl rfl ?_
     refine AO.nH [2, 5, 6, 17, 18, 19] (H' := [(n2, (.mem (.st [(1, (eI64 (0 : Int))), (1, (.fl (.slice none 0 0))), (1, (eI64 (0 : Int))), (1, (eI64 (0 : Int)))]))), (n5, (.mem (.st [(4, (.st [(1, (eI64 t28.2.f0.f0)), (1, (.own n31 0 t28.2.f0.f1.length)), (1, (eI64 t28.2.f0.f2)), (1, (eI64 t28.2.f0.f3))]))]))), (n31, (.mem (.ar 7 (t28.2.f0.f1.map e152)))), (n30, (.mem (.ar 2 (t28.1.map e150))))]) (Sub.cons 3 rfl (Sub.cons 1 rfl (Sub.cons 1 rfl (Sub.cons 0 rfl (Sub.nil _))))) ?_
     refine AW.reg ?_
     refine AO.c (x := eI64 (w64 (x22 + (1 : Int)))) (Calm.int rfl rfl rfl rfl) ?_
     refine AO.mv rfl rfl ?_
     refine AO.nK [2, 5, 6, 17, 18, 19] ?_
     exact ⟨kq24, Nat.lt_succ_self _, n31, n30, t28.2.f0.f0, t28.2.f0.f1, t28.2.f0.f2, t28.2.f0.f3, t28.1, (w64 (x22 + (1 : Int))), rfl, rfl, by rw [hrec23]; exact h⟩
    ·refine AW.condN _ rfl hc25 ?_
     refine AW.eK [2, 5, 6] ?_
     exact ⟨n16, n20, x15, x17, x18, x19, x21, rfl, rfl, h⟩
   ·rintro _ _ ⟨n7, n11, x6, x8, x9, x10, x12, rfl, rfl, h⟩
    rw [F74_c0.eq_1] at h
    refine AW.seq ?_
    obtain ⟨hg13, h⟩ := of_guard h
    obtain ⟨hg14, h⟩ := of_guard h
    refine AW.regEff (by rfl) (by decide +kernel) (fun (σ : Nat → Nat) => ([(.ptr n5 0), (.ptr n5 0), (.own n11 0 x12.length), (.ptr n11 ((0 : Int).toNat * 2 + 0)), (.ptr n11 ((0 : Int).toNat * 2 + 0 + 0)), (eI64 ((lget x12 (0 : Int)).f0)), (.own n11 0 x12.length), (.ptr n11 ((0 : Int).toNat * 2 + 0)), (.ptr n11 ((0 : Int).toNat * 2 + 0 + 1)), (eI64 ((lget x12 (0 : Int)).f1)), (.ptr n5 0), (.ptr n5 0), (.ptr n5 2), (.fl undef), (.ptr n5 0), (.ptr n5 0), (.ptr n5 3), (.fl undef)] : List AV)) (fun (L : Nat → Bool) (σ : Nat → Nat) => ((n2, (.mem (.st [(1, (eI64 (0 : Int))), (1, (.fl (.slice none 0 0))), (1, (eI64 (0 : Int))), (1, (eI64 (0 : Int)))]))) :: (n7, (.mem (.ar 7 (x8.map e152)))) :: (n11, (.mem (.ar 2 (x12.map e150)))) :: (bif L 13 then (bif L 17 then ((n5, (.mem (.st [(4, (.st [(1, (eI64 x6)), (1, (.own n7 0 x8.length)), (1, (eI64 ((lget x12 (0 : Int)).f0))), (1, (eI64 ((lget x12 (0 : Int)).f1)))]))]))) :: []) else ((n5, (.mem (.st [(4, (.st [(1, (eI64 x6)), (1, (.own n7 0 x8.length)), (1, (eI64 ((lget x12 (0 : Int)).f0))), (1, (eI64 x10))]))]))) :: [])) else ((n5, (.mem (.st [(4, (.st [(1, (eI64 x6)), (1, (.own n7 0 x8.length)), (1, (eI64 x9)), (1, (eI64 x10))]))]))) :: [])) : Heap)) [(2, (.ptr n2 0)), (5, (.ptr n5 0)), (6, (.own n11 0 x12.length))] ⟨rfl, rfl, rfl, trivial⟩ (fun _ => rfl) (fun σ => (Sub.cons 0 rfl (Sub.cons 1 rfl (Sub.cons 1 rfl (Sub.cons 0 rfl (Sub.refl _)))))) ⟨?_, ?_, ?_, ?_, ?_, ?_, ?_, ?_, ?_, ?_, ?_, ?_, ?_, ?_, ?_, ?_, ?_, ?_, trivial⟩ (fun σ => [(2, (.ptr n2 0)), (5, (.ptr n5 0))]) (fun σ => ((n2, (.mem (.st [(1, (eI64 (0 : Int))), (1, (.fl (.slice none 0 0))), (1, (eI64 (0 : Int))), (1, (eI64 (0 : Int)))]))) :: (n7, (.mem (.ar 7 (x8.map e152)))) :: (n11, (.mem (.ar 2 (x12.map e150)))) :: (n5, (.mem (.st [(4, (.st [(1, (eI64 x6)), (1, (.own n7 0 x8.length)), (1, (eI64 ((lget x12 (0 : Int)).f0))), (1, (eI64 ((lget x12 (0 : Int)).f1)))]))]))) :: [])) (fun σ => ⟨rfl, rfl, trivial⟩) (fun σ => Sub.refl _) (fun σ => ?_)
    ·refine StepE.calm (fun _ _ => rfl) fun L σ hc hi hd => ?_
     have m13 : L 13 = false := hc.neg (i := 0) (j := 13) rfl (by rfl) hi
     have m17 : L 17 = false := hc.neg (i := 0) (j := 17) rfl (by rfl) hi
     refine AO.heq (H' := ((n2, (.mem (.st [(1, (eI64 (0 : Int))), (1, (.fl (.slice none 0 0))), (1, (eI64 (0 : Int))), (1, (eI64 (0 : Int)))]))) :: (n7, (.mem (.ar 7 (x8.map e152)))) :: (n11, (.mem (.ar 2 (x12.map e150)))) :: (n5, (.mem (.st [(4, (.st [(1, (eI64 x6)), (1, (.own n7 0 x8.length)), (1, (eI64 x9)), (1, (eI64 x10))]))]))) :: [])) (by first | rfl | simp only [m13, m17, cond_true, cond_false]) ?_
     refine AO.wK [5] ?_
     refine AO.mv rfl rfl ?_
     exact AO.nE (d := 28) rfl ⟨⟨28, _, rfl, rfl, rfl⟩, Sub.of_eq (by first | rfl | simp only [m13, m17, cond_true, cond_false]) (Sub.refl _)⟩
    ·refine StepE.calm (fun _ _ => rfl) fun L σ hc hi hd => ?_
     have m17 : L 17 = false := hc.neg (i := 1) (j := 17) rfl (by rfl) hi
     cases b13 : L 13 with
     | true =>
       refine AO.heq (H' := ((n2, (.mem (.st [(1, (eI64 (0 : Int))), (1, (.fl (.slice none 0 0))), (1, (eI64 (0 : Int))), (1, (eI64 (0 : Int)))]))) :: (n7, (.mem (.ar 7 (x8.map e152)))) :: (n11, (.mem (.ar 2 (x12.map e150)))) :: (n5, (.mem (.st [(4, (.st [(1, (eI64 x6)), (1, (.own n7 0 x8.length)), (1, (eI64 ((lget x12 (0 : Int)).f0))), (1, (eI64 x10))]))]))) :: [])) (by first | rfl | simp only [b13, m17, cond_true, cond_false]) ?_
       refine AO.wK [5] ?_
       refine AO.mv rfl rfl ?_
       exact AO.nE (d := 29) rfl ⟨⟨29, _, rfl, rfl, rfl⟩, Sub.of_eq (by first | rfl | simp only [b13, m17, cond_true, cond_false]) (Sub.refl _)⟩
     | false =>
       refine AO.heq (H' := ((n2, (.mem (.st [(1, (eI64 (0 : Int))), (1, (.fl (.slice none 0 0))), (1, (eI64 (0 : Int))), (1, (eI64 (0 : Int)))]))) :: (n7, (.mem (.ar 7 (x8.map e152)))) :: (n11, (.mem (.ar 2 (x12.map e150)))) :: (n5, (.mem (.st [(4, (.st [(1, (eI64 x6)), (1, (.own n7 0 x8.length)), (1, (eI64 x9)), (1, (eI64 x10))]))]))) :: [])) (by first | rfl | simp only [b13, m17, cond_true, cond_false]) ?_
       refine AO.wK [5] ?_
       refine AO.mv rfl rfl ?_
       exact AO.nE (d := 29) rfl ⟨⟨29, _, rfl, rfl, rfl⟩, Sub.of_eq (by first | rfl | simp only [b13, m17, cond_true, cond_false]) (Sub.refl _)⟩
    ·refine StepE.calm (fun _ _ => rfl) fun L σ hc hi hd => ?_
     refine AO.wK [6] ?_
     refine AO.mv rfl rfl ?_
     exact AO.nE (d := 30) rfl ⟨⟨30, _, rfl, rfl, rfl⟩, Sub.refl _⟩
    ·refine StepE.calm (fun _ _ => rfl) fun L σ hc hi hd => ?_
     refine AO.wK [30] ?_
     refine AO.c (Calm.idxO 2 rfl rfl rfl rfl hg13 Try.underlying147 sz150) ?_
     exact AO.nE (d := 31) rfl ⟨⟨31, _, rfl, rfl, rfl⟩, Sub.refl _⟩
    ·refine StepE.calm (fun _ _ => rfl) fun L σ hc hi hd => ?_
     refine AO.wK [31] ?_
     refine AO.c (x := .ptr n11 ((0 : Int).toNat * 2 + 0 + 0)) (Calm.fldPtr rfl rfl Try.underlying150 rfl sz3 _ rfl) ?_
     exact AO.nE (d := 32) rfl ⟨⟨32, _, rfl, rfl, rfl⟩, Sub.refl _⟩
    ·refine StepE.calm (fun _ _ => rfl) fun L σ hc hi hd => ?_
     refine AO.wK [32] ?_
     refine AO.c (Calm.load 2 rfl rfl rfl (At.cast (At.lidx (0 : Int) hg13.1 hg13.2 (At.fld0 At.here)) (by omega)) ag3 sz3) ?_
     exact AO.nE (d := 33) rfl ⟨⟨33, _, rfl, rfl, rfl⟩, Sub.refl _⟩
    ·refine StepE.calm (fun _ _ => rfl) fun L σ hc hi hd => ?_
     refine AO.wK [6] ?_
     refine AO.mv rfl rfl ?_
     exact AO.nE (d := 34) rfl ⟨⟨34, _, rfl, rfl, rfl⟩, Sub.refl _⟩
    ·refine StepE.calm (fun _ _ => rfl) fun L σ hc hi hd => ?_
     refine AO.wK [34] ?_
     refine AO.c (Calm.idxO 2 rfl rfl rfl rfl hg14 Try.underlying147 sz150) ?_
     exact AO.nE (d := 35) rfl ⟨⟨35, _, rfl, rfl, rfl⟩, Sub.refl _⟩
    ·refine StepE.calm (fun _ _ => rfl) fun L σ hc hi hd => ?_
     refine AO.wK [35] ?_
     refine AO.c (x := .ptr n11 ((0 : Int).toNat * 2 + 0 + 1)) (Calm.fldPtr rfl rfl Try.underlying150 rfl sz3 _ rfl) ?_
     exact AO.nE (d := 36) rfl ⟨⟨36, _, rfl, rfl, rfl⟩, Sub.refl _⟩
    ·refine StepE.calm (fun _ _ => rfl) fun L σ hc hi hd => ?_
     refine AO.wK [36] ?_
     refine AO.c (Calm.load 2 rfl rfl rfl (At.cast (At.lidx (0 : Int) hg14.1 hg14.2 (At.fldS (At.fld0 At.here))) (by omega)) ag3 sz3) ?_
     exact AO.nE (d := 37) rfl ⟨⟨37, _, rfl, rfl, rfl⟩, Sub.refl _⟩
    ·refine StepE.calm (fun _ _ => rfl) fun L σ hc hi hd => ?_
     have m11 : L 11 = false := hc.neg (i := 10) (j := 11) rfl (by rfl) hi
     have m12 : L 12 = false := hc.neg (i := 11) (j := 12) rfl (by rfl) m11
     have m13 : L 13 = false := hc.neg (i := 12) (j := 13) rfl (by rfl) m12
     have m17 : L 17 = false := hc.neg (i := 10) (j := 17) rfl (by rfl) hi
     refine AO.heq (H' := ((n2, (.mem (.st [(1, (eI64 (0 : Int))), (1, (.fl (.slice none 0 0))), (1, (eI64 (0 : Int))), (1, (eI64 (0 : Int)))]))) :: (n7, (.mem (.ar 7 (x8.map e152)))) :: (n11, (.mem (.ar 2 (x12.map e150)))) :: (n5, (.mem (.st [(4, (.st [(1, (eI64 x6)), (1, (.own n7 0 x8.length)), (1, (eI64 x9)), (1, (eI64 x10))]))]))) :: [])) (by first | rfl | simp only [m13, m17, cond_true, cond_false]) ?_
     refine AO.wK [28] ?_
     refine AO.c (Calm.nilCheck rfl rfl) ?_
     exact AO.nE (d := 38) rfl ⟨⟨38, _, rfl, rfl, rfl⟩, Sub.of_eq (by first | rfl | simp only [m13, m17, cond_true, cond_false]) (Sub.refl _)⟩
    ·refine StepE.calm (fun _ _ => rfl) fun L σ hc hi hd => ?_
     have m12 : L 12 = false := hc.neg (i := 11) (j := 12) rfl (by rfl) hi
     have m13 : L 13 = false := hc.neg (i := 12) (j := 13) rfl (by rfl) m12
     have m17 : L 17 = false := hc.neg (i := 11) (j := 17) rfl (by rfl) hi
     refine AO.heq (H' := ((n2, (.mem (.st [(1, (eI64 (0 : Int))), (1, (.fl (.slice none 0 0))), (1, (eI64 (0 : Int))), (1, (eI64 (0 : Int)))]))) :: (n7, (.mem (.ar 7 (x8.map e152)))) :: (n11, (.mem (.ar 2 (x12.map e150)))) :: (n5, (.mem (.st [(4, (.st [(1, (eI64 x6)), (1, (.own n7 0 x8.length)), (1, (eI64 x9)), (1, (eI64 x10))]))]))) :: [])) (by first | rfl | simp only [m13, m17, cond_true, cond_false]) ?_
     refine AO.wK [38] ?_
     refine AO.c (x := .ptr n5 0) (Calm.fldPtr rfl rfl Try.underlying146 rfl sz121 _ rfl) ?_
     exact AO.nE (d := 39) rfl ⟨⟨39, _, rfl, rfl, rfl⟩, Sub.of_eq (by first | rfl | simp only [m13, m17, cond_true, cond_false]) (Sub.refl _)⟩
    ·refine StepE.calm (fun _ _ => rfl) fun L σ hc hi hd => ?_
     have m13 : L 13 = false := hc.neg (i := 12) (j := 13) rfl (by rfl) hi
     have m17 : L 17 = false := hc.neg (i := 12) (j := 17) rfl (by rfl) hi
     refine AO.heq (H' := ((n2, (.mem (.st [(1, (eI64 (0 : Int))), (1, (.fl (.slice none 0 0))), (1, (eI64 (0 : Int))), (1, (eI64 (0 : Int)))]))) :: (n7, (.mem (.ar 7 (x8.map e152)))) :: (n11, (.mem (.ar 2 (x12.map e150)))) :: (n5, (.mem (.st [(4, (.st [(1, (eI64 x6)), (1, (.own n7 0 x8.length)), (1, (eI64 x9)), (1, (eI64 x10))]))]))) :: [])) (by first | rfl | simp only [m13, m17, cond_true, cond_false]) ?_
     refine AO.wK [39] ?_
     refine AO.c (x := .ptr n5 2) (Calm.fldPtr rfl rfl Try.underlying121 rfl sz3 _ rfl) ?_
     exact AO.nE (d := 40) rfl ⟨⟨40, _, rfl, rfl, rfl⟩, Sub.of_eq (by first | rfl | simp only [m13, m17, cond_true, cond_false]) (Sub.refl _)⟩
    ·intro L σ hc hi hd
     have m17 : L 17 = false := hc.neg (i := 13) (j := 17) rfl (by rfl) hi
     refine AO.heq (H' := ((n2, (.mem (.st [(1, (eI64 (0 : Int))), (1, (.fl (.slice none 0 0))), (1, (eI64 (0 : Int))), (1, (eI64 (0 : Int)))]))) :: (n7, (.mem (.ar 7 (x8.map e152)))) :: (n11, (.mem (.ar 2 (x12.map e150)))) :: (n5, (.mem (.st [(4, (.st [(1, (eI64 x6)), (1, (.own n7 0 x8.length)), (1, (eI64 x9)), (1, (eI64 x10))]))]))) :: [])) (by first | rfl | simp only [hi, m17, cond_true, cond_false]) ?_
     refine AO.wK [33, 40] ?_
     refine AO.store (X' := (.st [(4, (.st [(1, (eI64 x6)), (1, (.own n7 0 x8.length)), (1, (eI64 ((lget x12 (0 : Int)).f0))), (1, (eI64 x10))]))])) 3 rfl rfl rfl rfl rfl rfl (Put.cast (Put.fld0 (Put.fldS (Put.fldS (Put.fld0 Put.here)))) rfl) rfl rfl sz3 rfl ?_
     have a13 : addL L 13 13 = true := rfl
     have a17 : addL L 13 17 = false := m17
     exact AO.n0 ⟨σ, (fun _ _ => rfl), (fun d' hd' => by cases hd'), Sub.of_eq (B := ((n2, (.mem (.st [(1, (eI64 (0 : Int))), (1, (.fl (.slice none 0 0))), (1, (eI64 (0 : Int))), (1, (eI64 (0 : Int)))]))) :: (n7, (.mem (.ar 7 (x8.map e152)))) :: (n11, (.mem (.ar 2 (x12.map e150)))) :: (n5, (.mem (.st [(4, (.st [(1, (eI64 x6)), (1, (.own n7 0 x8.length)), (1, (eI64 ((lget x12 (0 : Int)).f0))), (1, (eI64 x10))]))]))) :: [])) (by simp only [a13, a17, cond_true, cond_false]) (Sub.refl _)⟩
    ·refine StepE.calm (fun _ _ => rfl) fun L σ hc hi hd => ?_
     have y13 : L 13 = true := on_get hd (i := 13) (by rfl)
     have m15 : L 15 = false := hc.neg (i := 14) (j := 15) rfl (by rfl) hi
     have m16 : L 16 = false := hc.neg (i := 15) (j := 16) rfl (by rfl) m15
     have m17 : L 17 = false := hc.neg (i := 16) (j := 17) rfl (by rfl) m16
     refine AO.heq (H' := ((n2, (.mem (.st [(1, (eI64 (0 : Int))), (1, (.fl (.slice none 0 0))), (1, (eI64 (0 : Int))), (1, (eI64 (0 : Int)))]))) :: (n7, (.mem (.ar 7 (x8.map e152)))) :: (n11, (.mem (.ar 2 (x12.map e150)))) :: (n5, (.mem (.st [(4, (.st [(1, (eI64 x6)), (1, (.own n7 0 x8.length)), (1, (eI64 ((lget x12 (0 : Int)).f0))), (1, (eI64 x10))]))]))) :: [])) (by first | rfl | simp only [y13, m17, cond_true, cond_false]) ?_
     refine AO.wK [29] ?_
     refine AO.c (Calm.nilCheck rfl rfl) ?_
     exact AO.nE (d := 41) rfl ⟨⟨41, _, rfl, rfl, rfl⟩, Sub.of_eq (by first | rfl | simp only [y13, m17, cond_true, cond_false]) (Sub.refl _)⟩
    ·refine StepE.calm (fun _ _ => rfl) fun L σ hc hi hd => ?_
     have y13 : L 13 = true := on_get hd (i := 13) (by rfl)
     have m16 : L 16 = false := hc.neg (i := 15) (j := 16) rfl (by rfl) hi
     have m17 : L 17 = false := hc.neg (i := 16) (j := 17) rfl (by rfl) m16
     refine AO.heq (H' := ((n2, (.mem (.st [(1, (eI64 (0 : Int))), (1, (.fl (.slice none 0 0))), (1, (eI64 (0 : Int))), (1, (eI64 (0 : Int)))]))) :: (n7, (.mem (.ar 7 (x8.map e152)))) :: (n11, (.mem (.ar 2 (x12.map e150)))) :: (n5, (.mem (.st [(4, (.st [(1, (eI64 x6)), (1, (.own n7 0 x8.length)), (1, (eI64 ((lget x12 (0 : Int)).f0))), (1, (eI64 x10))]))]))) :: [])) (by first | rfl | simp only [y13, m17, cond_true, cond_false]) ?_
     refine AO.wK [41] ?_
     refine AO.c (x := .ptr n5 0) (Calm.fldPtr rfl rfl Try.underlying146 rfl sz121 _ rfl) ?_
     exact AO.nE (d := 42) rfl ⟨⟨42, _, rfl, rfl, rfl⟩, Sub.of_eq (by first | rfl | simp only [y13, m17, cond_true, cond_false]) (Sub.refl _)⟩
    ·refine StepE.calm (fun _ _ => rfl) fun L σ hc hi hd => ?_
     have y13 : L 13 = true := on_get hd (i := 13) (by rfl)
     have m17 : L 17 = false := hc.neg (i := 16) (j := 17) rfl (by rfl) hi
     refine AO.heq (H' := ((n2, (.mem (.st [(1, (eI64 (0 : Int))), (1, (.fl (.slice none 0 0))), (1, (eI64 (0 : Int))), (1, (eI64 (0 : Int)))]))) :: (n7, (.mem (.ar 7 (x8.map e152)))) :: (n11, (.mem (.ar 2 (x12.map e150)))) :: (n5, (.mem (.st [(4, (.st [(1, (eI64 x6)), (1, (.own n7 0 x8.length)), (1, (eI64 ((lget x12 (0 : Int)).f0))), (1, (eI64 x10))]))]))) :: [])) (by first | rfl | simp only [y13, m17, cond_true, cond_false]) ?_
     refine AO.wK [42] ?_
     refine AO.c (x := .ptr n5 3) (Calm.fldPtr rfl rfl Try.underlying121 rfl sz3 _ rfl) ?_
     exact AO.nE (d := 43) rfl ⟨⟨43, _, rfl, rfl, rfl⟩, Sub.of_eq (by first | rfl | simp only [y13, m17, cond_true, cond_false]) (Sub.refl _)⟩
    ·intro L σ hc hi hd
     have y13 : L 13 = true := on_get hd (i := 13) (by rfl)
     refine AO.heq (H' := ((n2, (.mem (.st [(1, (eI64 (0 : Int))), (1, (.fl (.slice none 0 0))), (1, (eI64 (0 : Int))), (1, (eI64 (0 : Int)))]))) :: (n7, (.mem (.ar 7 (x8.map e152)))) :: (n11, (.mem (.ar 2 (x12.map e150)))) :: (n5, (.mem (.st [(4, (.st [(1, (eI64 x6)), (1, (.own n7 0 x8.length)), (1, (eI64 ((lget x12 (0 : Int)).f0))), (1, (eI64 x10))]))]))) :: [])) (by first | rfl | simp only [hi, y13, cond_true, cond_false]) ?_
     refine AO.wK [37, 43] ?_
     refine AO.store (X' := (.st [(4, (.st [(1, (eI64 x6)), (1, (.own n7 0 x8.length)), (1, (eI64 ((lget x12 (0 : Int)).f0))), (1, (eI64 ((lget x12 (0 : Int)).f1)))]))])) 3 rfl rfl rfl rfl rfl rfl (Put.cast (Put.fld0 (Put.fldS (Put.fldS (Put.fldS (Put.fld0 Put.here))))) rfl) rfl rfl sz3 rfl ?_
     have a13 : addL L 17 13 = true := y13
     have a17 : addL L 17 17 = true := rfl
     exact AO.n0 ⟨σ, (fun _ _ => rfl), (fun d' hd' => by cases hd'), Sub.of_eq (B := ((n2, (.mem (.st [(1, (eI64 (0 : Int))), (1, (.fl (.slice none 0 0))), (1, (eI64 (0 : Int))), (1, (eI64 (0 : Int)))]))) :: (n7, (.mem (.ar 7 (x8.map e152)))) :: (n11, (.mem (.ar 2 (x12.map e150)))) :: (n5, (.mem (.st [(4, (.st [(1, (eI64 x6)), (1, (.own n7 0 x8.length)), (1, (eI64 ((lget x12 (0 : Int)).f0))), (1, (eI64 ((lget x12 (0 : Int)).f1)))]))]))) :: [])) (by simp only [a13, a17, cond_true, cond_false]) (Sub.refl _)⟩
    ·refine AO.nH [2, 5] (H' := [(n2, (.mem (.st [(1, (eI64 (0 : Int))), (1, (.fl (.slice none 0 0))), (1, (eI64 (0 : Int))), (1, (eI64 (0 : Int)))]))), (n5, (.mem (.st [(4, (.st [(1, (eI64 x6)), (1, (.own n7 0 x8.length)), (1, (eI64 ((lget x12 (0 : Int)).f0))), (1, (eI64 ((lget x12 (0 : Int)).f1)))]))]))), (n7, (.mem (.ar 7 (x8.map e152))))]) (Sub.cons 0 rfl (Sub.cons 2 rfl (Sub.cons 0 rfl (Sub.nil _)))) ?_
     refine AW.sr ?_
     refine AO.mv rfl rfl ?_
     refine AO.c (Calm.nilCheck rfl rfl) ?_
     refine AO.c (x := .ptr n5 0) (Calm.fldPtr rfl rfl Try.underlying146 rfl sz121 _ rfl) ?_
     refine AO.freezeFld (X' := (.st [(4, (.st [(1, (eI64 x6)), (1, (.fz 7 (x8.map e152))), (1, (eI64 ((lget x12 (0 : Int)).f0))), (1, (eI64 ((lget x12 (0 : Int)).f1)))]))])) (els' := (x8.map e152)) 2 1 rfl rfl (Put.cast (Put.fld0 (Put.fldS (Put.fld0 Put.here))) rfl) (by simp) (by rw [own_all]) rfl rfl (by decide) ?_
     refine AO.c (x := e121 (S121.mk x6 x8 ((lget x12 (0 : Int)).f0) ((lget x12 (0 : Int)).f1))) (Calm.load 1 rfl rfl rfl (At.cast (At.fld0 At.here) rfl) ag121 sz121) ?_
     refine AO.store (X' := (e121 (S121.mk x6 x8 ((lget x12 (0 : Int)).f0) ((lget x12 (0 : Int)).f1)))) 0 rfl rfl rfl rfl rfl rfl (Put.cast Put.here rfl) rfl rfl sz121 rfl ?_
     refine AO.ag rfl rfl ?_
     refine AO.nH [2, 3] (H' := [(n2, (.mem (e121 (S121.mk x6 x8 ((lget x12 (0 : Int)).f0) ((lget x12 (0 : Int)).f1)))))]) (Sub.cons 0 rfl (Sub.nil _)) ?_
     refine AW.rK [2, 3] ?_
     have hr := Option.some.inj h
     subst hr
     exact ⟨[(e121 (S121.mk x6 x8 ((lget x12 (0 : Int)).f0) ((lget x12 (0 : Int)).f1))), (eI64 (0 : Int))], ⟨⟨_, 0, rfl, rfl, ag121, sz121⟩, rfl, rfl, trivial⟩, rfl⟩
end Go.Avl.T7
/- bosket/nfa.Right; printed by avmain.py. -/
namespace Go.Avl.T7
open Go Go.RowKit Go.Proofs Go.Avl
set_option linter.unusedVariables false
set_option maxRecDepth 100000
set_option maxHeartbeats 4000000
attribute [local irreducible] AW AO AQ Spec SpecH Calm

def F95_c0 (k : Nat) : Option Bool :=
  some (true)
def F95_l1 (k : Nat) (p0 : S121) : Nat → Int → Option Bool
  | 0, _ => none
  | j + 1, x9 =>
    if x9 < (p0.f1.length : Int) then if 0 ≤ x9 ∧ x9 < (p0.f1.length : Int) then Option.bind (α := Bool) (if ((lget p0.f1 x9).f0) < (0 : Int) then some (true)
    else if p0.f0 ≤ ((lget p0.f1 x9).f0) then some (true)
    else if ((lget p0.f1 x9).f1) < (0 : Int) then some (true)
    else some (decide (p0.f0 ≤ ((lget p0.f1 x9).f1)))) fun b15 =>
    if b15 = true then some (false)
    else (F95_l1 k p0 j) (w64 (x9 + (1 : Int)))
    else none
    else F95_c0 k
def F95 (k : Nat) (p0 : S121) : Option Bool :=
  Option.bind (α := Bool) (if p0.f2 < (0 : Int) then some (true)
  else if p0.f0 ≤ p0.f2 then some (true)
  else if p0.f3 < (0 : Int) then some (true)
  else some (decide (p0.f0 ≤ p0.f3))) fun b3 =>
  if b3 = true then some (false)
  else F95_l1 k p0 k (0 : Int)
theorem F95_spec {k : Nat} {p0 : S121} {r : Bool} (h : F95 k p0 = some r) : Spec Try.prog 95 [(e121 p0)] (eBool r) := by
  rw [F95.eq_1] at h
  refine Spec.intro (res := [.tmp 2]) Try.func95 rfl rfl rfl (Nat.le_of_ble_eq_true rfl) ?_
  refine AW.sr ?_
  refine AO.box rfl 1 rfl (by decide) rfl rfl rfl fun n2 => ?_
  refine AO.ag rfl rfl ?_
  refine AO.nK [1] ?_
  refine AW.seq ?_
  refine AW.seq ?_
  obtain ⟨b3, hq4, h⟩ := of_bind h
  refine AW.regM [(1, (.ptr n2 0)), (26, (eBool b3))] [(n2, (.mem (e121 p0)))] ?_ ?_
  ·refine AO.c (x := .ptr n2 2) (Calm.fldPtr rfl rfl Try.underlying121 rfl sz3 _ rfl) ?_
   refine AO.c (Calm.load 0 rfl rfl rfl (At.cast (At.fldS (At.fldS (At.fld0 At.here))) rfl) ag3 sz3) ?_
   refine AO.c (x := eBool (decide (p0.f2 < (0 : Int)))) (Calm.int rfl rfl rfl rfl) ?_
   refine AO.mv rfl rfl ?_
   rcases of_ite hq4 with ⟨hc5, hq4⟩ | ⟨hc5, hq4⟩
   ·refine AO.sF rfl rfl (bD (decide_eq_true hc5)) ?_
    refine AO.sF rfl rfl (bD (decide_eq_true hc5)) ?_
    refine AO.sF rfl rfl (bD (decide_eq_true hc5)) ?_
    refine AO.sF rfl rfl (bD (decide_eq_true hc5)) ?_
    refine AO.sF rfl rfl (bD (decide_eq_true hc5)) ?_
    refine AO.c (Calm.pickT rfl (bD (decide_eq_true hc5)) rfl) ?_
    refine AO.mv rfl rfl ?_
    refine AO.sF rfl rfl rfl ?_
    refine AO.sF rfl rfl rfl ?_
    refine AO.sF rfl rfl rfl ?_
    refine AO.c (Calm.pickT rfl rfl rfl) ?_
    refine AO.mv rfl rfl ?_
    refine AO.sF rfl rfl rfl ?_
    refine AO.sF rfl rfl rfl ?_
    refine AO.sF rfl rfl rfl ?_
    refine AO.sF rfl rfl rfl ?_
    refine AO.sF rfl rfl rfl ?_
    refine AO.c (Calm.pickT rfl rfl rfl) ?_
    cases hq4
    refine AO.nilE ⟨rfl, rfl⟩ ?_ ?_
    · exact ⟨rfl, rfl, trivial⟩
    · exact (Sub.refl _)
   ·refine AO.cG (x := .ptr n2 2) rfl rfl (bD (decide_eq_false hc5)) (Calm.fldPtr rfl rfl Try.underlying121 rfl sz3 _ rfl) ?_
    refine AO.cG rfl rfl (bD (decide_eq_false hc5)) (Calm.load 0 rfl rfl rfl (At.cast (At.fldS (At.fldS (At.fld0 At.here))) rfl) ag3 sz3) ?_
    refine AO.cG (x := .ptr n2 0) rfl rfl (bD (decide_eq_false hc5)) (Calm.fldPtr rfl rfl Try.underlying121 rfl sz3 _ rfl) ?_
    refine AO.cG rfl rfl (bD (decide_eq_false hc5)) (Calm.load 0 rfl rfl rfl (At.cast (At.fld0 At.here) rfl) ag3 sz3) ?_
    refine AO.cG (x := eBool (decide (p0.f0 ≤ p0.f2))) rfl rfl (bD (decide_eq_false hc5)) (Calm.int rfl rfl rfl rfl) ?_
    refine AO.c (Calm.pickF rfl (bD (decide_eq_false hc5)) rfl) ?_
    refine AO.mv rfl rfl ?_
    rcases of_ite hq4 with ⟨hc6, hq4⟩ | ⟨hc6, hq4⟩
    ·refine AO.sF rfl rfl (bD (decide_eq_true hc6)) ?_
     refine AO.sF rfl rfl (bD (decide_eq_true hc6)) ?_
     refine AO.sF rfl rfl (bD (decide_eq_true hc6)) ?_
     refine AO.c (Calm.pickT rfl (bD (decide_eq_true hc6)) rfl) ?_
     refine AO.mv rfl rfl ?_
     refine AO.sF rfl rfl rfl ?_
     refine AO.sF rfl rfl rfl ?_
     refine AO.sF rfl rfl rfl ?_
     refine AO.sF rfl rfl rfl ?_
     refine AO.sF rfl rfl rfl ?_
     refine AO.c (Calm.pickT rfl rfl rfl) ?_
     cases hq4
     refine AO.nilE ⟨rfl, rfl⟩ ?_ ?_
     · exact ⟨rfl, rfl, trivial⟩
     · exact (Sub.refl _)
    ·refine AO.cG (x := .ptr n2 3) rfl rfl (bD (decide_eq_false hc6)) (Calm.fldPtr rfl rfl Try.underlying121 rfl sz3 _ rfl) ?_
     refine AO.cG rfl rfl (bD (decide_eq_false hc6)) (Calm.load 0 rfl rfl rfl (At.cast (At.fldS (At.fldS (At.fldS (At.fld0 At.here)))) rfl) ag3 sz3) ?_
     refine AO.cG (x := eBool (decide (p0.f3 < (0 : Int)))) rfl rfl (bD (decide_eq_false hc6)) (Calm.int rfl rfl rfl rfl) ?_
     refine AO.c (Calm.pickF rfl (bD (decide_eq_false hc6)) rfl) ?_
     refine AO.mv rfl rfl ?_
     rcases of_ite hq4 with ⟨hc7, hq4⟩ | ⟨hc7, hq4⟩
     ·refine AO.sF rfl rfl (bD (decide_eq_true hc7)) ?_
      refine AO.sF rfl rfl (bD (decide_eq_true hc7)) ?_
      refine AO.sF rfl rfl (bD (decide_eq_true hc7)) ?_
      refine AO.sF rfl rfl (bD (decide_eq_true hc7)) ?_
      refine AO.sF rfl rfl (bD (decide_eq_true hc7)) ?_
      refine AO.c (Calm.pickT rfl (bD (decide_eq_true hc7)) rfl) ?_
      cases hq4
      refine AO.nilE ⟨rfl, rfl⟩ ?_ ?_
      · exact ⟨rfl, rfl, trivial⟩
      · exact (Sub.refl _)
     ·refine AO.cG (x := .ptr n2 3) rfl rfl (bD (decide_eq_false hc7)) (Calm.fldPtr rfl rfl Try.underlying121 rfl sz3 _ rfl) ?_
      refine AO.cG rfl rfl (bD (decide_eq_false hc7)) (Calm.load 0 rfl rfl rfl (At.cast (At.fldS (At.fldS (At.fldS (At.fld0 At.here)))) rfl) ag3 sz3) ?_
      refine AO.cG (x := .ptr n2 0) rfl rfl (bD (decide_eq_false hc7)) (Calm.fldPtr rfl rfl Try.underlying121 rfl sz3 _ rfl) ?_
      refine AO.cG rfl rfl (bD (decide_eq_false hc7)) (Calm.load 0 rfl rfl rfl (At.cast (At.fld0 At.here) rfl) ag3 sz3) ?_
      refine AO.cG (x := eBool (decide (p0.f0 ≤ p0.f3))) rfl rfl (bD (decide_eq_false hc7)) (Calm.int rfl rfl rfl rfl) ?_
      refine AO.c (Calm.pickF rfl (bD (decide_eq_false hc7)) rfl) ?_
      cases hq4
      refine AO.nilE ⟨rfl, rfl⟩ ?_ ?_
      · exact ⟨rfl, rfl, trivial⟩
      · exact (Sub.refl _)
  ·rcases of_ite h with ⟨hc8, h⟩ | ⟨hc8, h⟩
   ·refine AW.condT' _ rfl hc8 ?_
    refine AW.sr ?_
    refine AO.ag rfl rfl ?_
    refine AO.nH [2] (H' := []) (Sub.nil _) ?_
    refine AW.rK [2] ?_
    have hr := Option.some.inj h
    subst hr
    exact ⟨[(eBool false)], ⟨rfl, rfl, trivial⟩, rfl⟩
   ·refine AW.condF' _ rfl hc8 ?_
    refine AW.sK [1] ?_
    refine AW.seq_mid (fun ρ H => ρ = [] ∧ H = [] ∧ F95_c0 k = some r) ?_ ?_
    ·refine AW.sr ?_
     refine AO.c (x := .ptr n2 1) (Calm.fldPtr rfl rfl Try.underlying121 rfl sz119 _ rfl) ?_
     refine AO.c (Calm.load 0 rfl rfl rfl (At.cast (At.fldS (At.fld0 At.here)) rfl) ag119 sz119) ?_
     refine AO.c (Calm.lenL rfl rfl Try.underlying119) ?_
     refine AO.mv rfl rfl ?_
     refine AO.nK [1, 28, 29, 30] ?_
     refine AW.block ?_
     refine AW.wK [1, 28, 29, 30] ?_
     refine AW.loop (fun kq ρ H => ∃ (x9 : Int), ρ = [(1, (.ptr n2 0)), (28, (.fz 7 (p0.f1.map e152))), (29, (eI64 (p0.f1.length : Int))), (30, (eI64 x9))] ∧ H = [(n2, (.mem (e121 p0)))] ∧ F95_l1 k p0 kq x9 = some r) k ⟨(0 : Int), rfl, rfl, h⟩ ?_
     rintro kq11 _ _ ⟨x9, rfl, rfl, h⟩
     cases kq11 with
     | zero => rw [F95_l1.eq_1] at h; cases h
     | succ kq11 =>
     rw [F95_l1.eq_2] at h
     generalize hrec10 : F95_l1 k p0 kq11 = rec10 at h
     refine AW.sr ?_
     refine AO.c (x := eBool (decide (x9 < (p0.f1.length : Int)))) (Calm.int rfl rfl rfl rfl) ?_
     refine AO.nK [1, 28, 29, 30, 31] ?_
     refine AW.seq ?_
     rcases of_ite h with ⟨hc12, h⟩ | ⟨hc12, h⟩
     ·refine AW.condP _ rfl hc12 ?_
      refine AW.sK [1, 28, 29, 30] ?_
      refine AW.seq ?_
      refine AW.block ?_
      refine AW.sr ?_
      obtain ⟨hg13, h⟩ := of_guard h
      refine AO.c (Calm.idxL (f := e152) rfl rfl rfl hg13 Try.underlying119 sz152) ?_
      refine AO.c (Calm.loadRp rfl rfl ag152 sz152) ?_
      refine AO.alloc rfl 4 rfl (by decide) rfl zr152 lay152 fun n14 => ?_
      refine AO.store (X' := (e152 (lget p0.f1 x9))) 0 rfl rfl rfl rfl rfl rfl (Put.cast Put.here rfl) rfl rfl sz152 rfl ?_
      refine AO.nH [1, 4, 28, 29, 30] (H' := [(n2, (.mem (e121 p0))), (n14, (.mem (e152 (lget p0.f1 x9))))]) (Sub.cons 1 rfl (Sub.cons 0 rfl (Sub.nil _))) ?_
      refine AW.seq ?_
      obtain ⟨b15, hq16, h⟩ := of_bind h
      refine AW.regM [(1, (.ptr n2 0)), (28, (.fz 7 (p0.f1.map e152))), (29, (eI64 (p0.f1.length : Int))), (30, (eI64 x9)), (55, (eBool b15))] [(n2, (.mem (e121 p0)))] ?_ ?_
      ·refine AO.c (x := .ptr n14 0) (Calm.fldPtr rfl rfl Try.underlying152 rfl sz3 _ rfl) ?_
       refine AO.c (Calm.load 1 rfl rfl rfl (At.cast (At.fld0 At.here) rfl) ag3 sz3) ?_
       refine AO.c (x := eBool (decide (((lget p0.f1 x9).f0) < (0 : Int)))) (Calm.int rfl rfl rfl rfl) ?_
       refine AO.mv rfl rfl ?_
       rcases of_ite hq16 with ⟨hc17, hq16⟩ | ⟨hc17, hq16⟩
       ·refine AO.sF rfl rfl (bD (decide_eq_true hc17)) ?_
        refine AO.sF rfl rfl (bD (decide_eq_true hc17)) ?_
        refine AO.sF rfl rfl (bD (decide_eq_true hc17)) ?_
        refine AO.sF rfl rfl (bD (decide_eq_true hc17)) ?_
        refine AO.sF rfl rfl (bD (decide_eq_true hc17)) ?_
        refine AO.c (Calm.pickT rfl (bD (decide_eq_true hc17)) rfl) ?_
        refine AO.mv rfl rfl ?_
        refine AO.sF rfl rfl rfl ?_
        refine AO.sF rfl rfl rfl ?_
        refine AO.sF rfl rfl rfl ?_
        refine AO.c (Calm.pickT rfl rfl rfl) ?_
        refine AO.mv rfl rfl ?_
        refine AO.sF rfl rfl rfl ?_
        refine AO.sF rfl rfl rfl ?_
        refine AO.sF rfl rfl rfl ?_
        refine AO.sF rfl rfl rfl ?_
        refine AO.sF rfl rfl rfl ?_
        refine AO.c (Calm.pickT rfl rfl rfl) ?_
        cases hq16
        refine AO.nilE ⟨rfl, rfl⟩ ?_ ?_
        · exact ⟨rfl, rfl, rfl, rfl, rfl, trivial⟩
        · exact (Sub.cons 0 rfl (Sub.nil _))
       ·refine AO.cG (x := .ptr n14 0) rfl rfl (bD (decide_eq_false hc17)) (Calm.fldPtr rfl rfl Try.underlying152 rfl sz3 _ rfl) ?_
        refine AO.cG rfl rfl (bD (decide_eq_false hc17)) (Calm.load 1 rfl rfl rfl (At.cast (At.fld0 At.here) rfl) ag3 sz3) ?_
        refine AO.cG (x := .ptr n2 0) rfl rfl (bD (decide_eq_false hc17)) (Calm.fldPtr rfl rfl Try.underlying121 rfl sz3 _ rfl) ?_
        refine AO.cG rfl rfl (bD (decide_eq_false hc17)) (Calm.load 0 rfl rfl rfl (At.cast (At.fld0 At.here) rfl) ag3 sz3) ?_
        refine AO.cG (x := eBool (decide (p0.f0 ≤ ((lget p0.f1 x9).f0)))) rfl rfl (bD (decide_eq_false hc17)) (Calm.int rfl rfl rfl rfl) ?_
        refine AO.c (Calm.pickF rfl (bD (decide_eq_false hc17)) rfl) ?_
        refine AO.mv rfl rfl ?_
        rcases of_ite hq16 with ⟨hc18, hq16⟩ | ⟨hc18, hq16⟩
        ·refine AO.sF rfl rfl (bD (decide_eq_true hc18)) ?_
         refine AO.sF rfl rfl (bD (decide_eq_true hc18)) ?_
         refine AO.sF rfl rfl (bD (decide_eq_true hc18)) ?_
         refine AO.c (Calm.pickT rfl (bD (decide_eq_true hc18)) rfl) ?_
         refine AO.mv rfl rfl ?_
         refine AO.sF rfl rfl rfl ?_
         refine AO.sF rfl rfl rfl ?_
         refine AO.sF rfl rfl rfl ?_
         refine AO.sF rfl rfl rfl ?_
         refine AO.sF rfl rfl rfl ?_
         refine AO.c (Calm.pickT rfl rfl rfl) ?_
         cases hq16
         refine AO.nilE ⟨rfl, rfl⟩ ?_ ?_
         · exact ⟨rfl, rfl, rfl, rfl, rfl, trivial⟩
         · exact (Sub.cons 0 rfl (Sub.nil _))
        ·refine AO.cG (x := .ptr n14 1) rfl rfl (bD (decide_eq_false hc18)) (Calm.fldPtr rfl rfl Try.underlying152 rfl sz3 _ rfl) ?_
         refine AO.cG rfl rfl (bD (decide_eq_false hc18)) (Calm.load 1 rfl rfl rfl (At.cast (At.fldS (At.fld0 At.here)) rfl) ag3 sz3) ?_
         refine AO.cG (x := eBool (decide (((lget p0.f1 x9).f1) < (0 : Int)))) rfl rfl (bD (decide_eq_false hc18)) (Calm.int rfl rfl rfl rfl) ?_
         refine AO.c (Calm.pickF rfl (bD (decide_eq_false hc18)) rfl) ?_
         refine AO.mv rfl rfl ?_
         rcases of_ite hq16 with ⟨hc19, hq16⟩ | ⟨hc19, hq16⟩
         ·refine AO.sF rfl rfl (bD (decide_eq_true hc19)) ?_
          refine AO.sF rfl rfl (bD (decide_eq_true hc19)) ?_
          refine AO.sF rfl rfl (bD (decide_eq_true hc19)) ?_
          refine AO.sF rfl rfl (bD (decide_eq_true hc19)) ?_
          refine AO.sF rfl rfl (bD (decide_eq_true hc19)) ?_
          refine AO.c (Calm.pickT rfl (bD (decide_eq_true hc19)) rfl) ?_
          cases hq16
          refine AO.nilE ⟨rfl, rfl⟩ ?_ ?_
          · exact ⟨rfl, rfl, rfl, rfl, rfl, trivial⟩
          · exact (Sub.cons 0 rfl (Sub.nil _))
         ·refine AO.cG (x := .ptr n14 1) rfl rfl (bD (decide_eq_false hc19)) (Calm.fldPtr rfl rfl Try.underlying152 rfl sz3 _ rfl) ?_
          refine AO.cG rfl rfl (bD (decide_eq_false hc19)) (Calm.load 1 rfl rfl rfl (At.cast (At.fldS (At.fld0 At.here)) rfl) ag3 sz3) ?_
          refine AO.cG (x := .ptr n2 0) rfl rfl (bD (decide_eq_false hc19)) (Calm.fldPtr rfl rfl Try.underlying121 rfl sz3 _ rfl) ?_
          refine AO.cG rfl rfl (bD (decide_eq_false hc19)) (Calm.load 0 rfl rfl rfl (At.cast (At.fld0 At.here) rfl) ag3 sz3) ?_
          refine AO.cG (x := eBool (decide (p0.f0 ≤ ((lget p0.f1 x9).f1)))) rfl rfl (bD (decide_eq_false hc19)) (Calm.int rfl rfl rfl rfl) ?_
          refine AO.c (Calm.pickF rfl (bD (decide_eq_false hc19)) rfl) ?_
          cases hq16
          refine AO.nilE ⟨rfl, rfl⟩ ?_ ?_
          · exact ⟨rfl, rfl, rfl, rfl, rfl, trivial⟩
          · exact (Sub.cons 0 rfl (Sub.nil _))
      ·rcases of_ite h with ⟨hc20, h⟩ | ⟨hc20, h⟩
       ·refine AW.condT' _ rfl hc20 ?_
        refine AW.sr ?_
        refine AO.ag rfl rfl ?_
        refine AO.nH [2] (H' := []) (Sub.nil _) ?_
        refine AW.rK [2] ?_
        have hr := Option.some.inj h
        subst hr
        exact ⟨[(eBool false)], ⟨rfl, rfl, trivial⟩, rfl⟩
       ·refine AW.condF' _ rfl hc20 ?_
        refine AW.sK [1, 28, 29, 30] ?_
        refine AW.reg ?_
        refine AO.c (x := eI64 (w64 (x9 + (1 : Int)))) (Calm.int rfl rfl rfl rfl) ?_
        refine AO.mv rfl rfl ?_
        refine AO.nK [1, 28, 29, 30] ?_
        exact ⟨kq11, Nat.lt_succ_self _, (w64 (x9 + (1 : Int))), rfl, rfl, by rw [hrec10]; exact h⟩
     ·refine AW.condN _ rfl hc12 ?_
      refine AW.eH [] (H' := []) (Sub.nil _) ?_
      exact ⟨rfl, rfl, h⟩
    ·rintro _ _ ⟨rfl, rfl, h⟩
     rw [F95_c0.eq_1] at h
     refine AW.sr ?_
     refine AO.ag rfl rfl ?_
     refine AO.nK [2] ?_
     refine AW.rK [2] ?_
     have hr := Option.some.inj h
     subst hr
     exact ⟨[(eBool true)], ⟨rfl, rfl, trivial⟩, rfl⟩
end Go.Avl.T7
