/- Parts: T7f98, T7f100. -/
import Derived.Test.YtpkgpmmcbpfenaaAF1
import Derived.Test.YtpkgpmmcbpfenaaAF4
/- (*bosket/subset.builder).state; printed by avmain.py. -/
namespace Go.Avl.T7
open Go Go.RowKit Go.Proofs Go.Avl
set_option linter.unusedVariables false
set_option maxRecDepth 100000
set_option maxHeartbeats 4000000
set_option linter.unusedSimpArgs false
attribute [local irreducible] AW AO AQ Spec SpecH Calm

def F98_c0 (k : Nat) (p0 : S156) (p1 : (List Bool)) (b3 : Bool) : Option (Int × S156) :=
  if (!b3) = true then some ((-1 : Int), (S156.mk p0.f0 p0.f1 p0.f2 p0.f3 p0.f4 (S55.mk p0.f5.f0 p0.f5.f1 p0.f5.f2)))
  else (F123 k p1).bind fun t5 =>
  if ((mget p0.f3 t5).isSome) = true then some (((mget p0.f3 t5).getD (0 : Int)), (S156.mk p0.f0 p0.f1 p0.f2 p0.f3 p0.f4 (S55.mk p0.f5.f0 p0.f5.f1 p0.f5.f2)))
  else if (p0.f4 ++ ([p1] : List (List Bool))).length * 24 ≤ 140737488355328 then (F124 k (S156.mk p0.f0 p0.f1 p0.f2 (mput p0.f3 t5 (p0.f4.length : Int)) (p0.f4 ++ ([p1] : List (List Bool))) (S55.mk p0.f5.f0 p0.f5.f1 p0.f5.f2)) p1).bind fun t10 =>
  if (p0.f5.f2 ++ ([t10] : List Int)).length * 8 ≤ 140737488355328 then (some (w64 (((p0.f4 ++ ([p1] : List (List Bool))).length : Int) - (1 : Int)))).bind fun x15 =>
  some (x15, (S156.mk p0.f0 p0.f1 p0.f2 (mput p0.f3 t5 (p0.f4.length : Int)) (p0.f4 ++ ([p1] : List (List Bool))) (S55.mk p0.f5.f0 p0.f5.f1 (p0.f5.f2 ++ ([t10] : List Int)))))
  else none
  else none
def F98_l1 (k : Nat) (p0 : S156) (p1 : (List Bool)) : Nat → Bool → Int → Option (Int × S156)
  | 0, _, _ => none
  | j + 1, b16, x17 =>
    if x17 < (p1.length : Int) then if 0 ≤ x17 ∧ x17 < (p1.length : Int) then Option.bind (α := Bool) (if b16 = true then some (true)
    else some ((lget p1 x17))) fun b22 =>
    (F98_l1 k p0 p1 j) b22 (w64 (x17 + (1 : Int)))
    else none
    else F98_c0 k p0 p1 b16
def F98 (k : Nat) (p0 : S156) (p1 : (List Bool)) : Option (Int × S156) :=
  F98_l1 k p0 p1 k false (0 : Int)
theorem F98_spec {k : Nat} {p0 : S156} {p1 : (List Bool)} {r : (Int × S156)} (h : F98 k p0 p1 = some r) {q0 : Nat} {q0_0 : Nat} {q0_1 : Nat} {q0_2 : Nat} {q0_3 : Nat} {T0 : Heap} : SpecH Try.prog 98 [(.ptr q0 0), (.fz 1 (p1.map eBool))] ((q0, (.mem (.st [(4, (e121 p0.f0)), (1, (.fz 1 (p0.f1.map eI64))), (1, (.fz 1 (p0.f2.map eU8))), (1, (.mp q0_0)), (1, (.own q0_1 0 p0.f4.length)), (258, (.st [(256, (.ar 1 (p0.f5.f0.toList.map eU8))), (1, (.own q0_2 0 p0.f5.f1.length)), (1, (.own q0_3 0 p0.f5.f2.length))]))]))) :: (q0_0, (.map (encM Value.string eI64 p0.f3))) :: (q0_1, (.mem (.ar 1 (p0.f4.map e98)))) :: (q0_2, (.mem (.ar 1 (p0.f5.f1.map e35)))) :: (q0_3, (.mem (.ar 1 (p0.f5.f2.map eI64)))) :: T0) (fun x H' => ∃ m0_0 m0_1 m0_2 m0_3, x = (eI64 r.1) ∧ Sub ((q0, (.mem (.st [(4, (e121 r.2.f0)), (1, (.fz 1 (r.2.f1.map eI64))), (1, (.fz 1 (r.2.f2.map eU8))), (1, (.mp m0_0)), (1, (.own m0_1 0 r.2.f4.length)), (258, (.st [(256, (.ar 1 (r.2.f5.f0.toList.map eU8))), (1, (.own m0_2 0 r.2.f5.f1.length)), (1, (.own m0_3 0 r.2.f5.f2.length))]))]))) :: (m0_0, (.map (encM Value.string eI64 r.2.f3))) :: (m0_1, (.mem (.ar 1 (r.2.f4.map e98)))) :: (m0_2, (.mem (.ar 1 (r.2.f5.f1.map e35)))) :: (m0_3, (.mem (.ar 1 (r.2.f5.f2.map eI64)))) :: T0) H') := by
  rw [F98.eq_1] at h
  refine SpecH.intro (res := [.tmp 4]) Try.func98 rfl rfl rfl (Nat.le_of_ble_eq_true rfl) ?_
  refine AW.sr ?_
  refine AO.ag rfl rfl ?_
  refine AO.nK [0, 1] ?_
  refine AW.sr ?_
  refine AO.ag rfl rfl ?_
  refine AO.nK [0, 1, 5] ?_
  refine AW.seq_mid (fun ρ H => ∃ (b3 : Bool), ρ = [(0, (.ptr q0 0)), (1, (.fz 1 (p1.map eBool))), (5, (eBool b3))] ∧ H = ((q0, (.mem (.st [(4, (e121 p0.f0)), (1, (.fz 1 (p0.f1.map eI64))), (1, (.fz 1 (p0.f2.map eU8))), (1, (.mp q0_0)), (1, (.own q0_1 0 p0.f4.length)), (258, (.st [(256, (.ar 1 (p0.f5.f0.toList.map eU8))), (1, (.own q0_2 0 p0.f5.f1.length)), (1, (.own q0_3 0 p0.f5.f2.length))]))]))) :: (q0_0, (.map (encM Value.string eI64 p0.f3))) :: (q0_1, (.mem (.ar 1 (p0.f4.map e98)))) :: (q0_2, (.mem (.ar 1 (p0.f5.f1.map e35)))) :: (q0_3, (.mem (.ar 1 (p0.f5.f2.map eI64)))) :: T0) ∧ F98_c0 k p0 p1 b3 = some r) ?_ ?_
  ·refine AW.sr ?_
   refine AO.mv rfl rfl ?_
   refine AO.c (Calm.lenL rfl rfl Try.underlying98) ?_
   refine AO.mv rfl rfl ?_
   refine AO.nK [0, 1, 5, 11, 12, 13] ?_
   refine AW.block ?_
   refine AW.wK [0, 1, 5, 11, 12, 13] ?_
   refine AW.loop (fun kq ρ H => ∃ (b16 : Bool) (x17 : Int), ρ = [(0, (.ptr q0 0)), (1, (.fz 1 (p1.map eBool))), (5, (eBool b16)), (11, (.fz 1 (p1.map eBool))), (12, (eI64 (p1.length : Int))), (13, (eI64 x17))] ∧ H = ((q0, (.mem (.st [(4, (e121 p0.f0)), (1, (.fz 1 (p0.f1.map eI64))), (1, (.fz 1 (p0.f2.map eU8))), (1, (.mp q0_0)), (1, (.own q0_1 0 p0.f4.length)), (258, (.st [(256, (.ar 1 (p0.f5.f0.toList.map eU8))), (1, (.own q0_2 0 p0.f5.f1.length)), (1, (.own q0_3 0 p0.f5.f2.length))]))]))) :: (q0_0, (.map (encM Value.string eI64 p0.f3))) :: (q0_1, (.mem (.ar 1 (p0.f4.map e98)))) :: (q0_2, (.mem (.ar 1 (p0.f5.f1.map e35)))) :: (q0_3, (.mem (.ar 1 (p0.f5.f2.map eI64)))) :: T0) ∧ F98_l1 k p0 p1 kq b16 x17 = some r) k ⟨false, (0 : Int), rfl, rfl, h⟩ ?_
   rintro kq19 _ _ ⟨b16, x17, rfl, rfl, h⟩
   cases kq19 with
   | zero => rw [F98_l1.eq_1] at h; cases h
   | succ kq19 =>
   rw [F98_l1.eq_2] at h
   generalize hrec18 : F98_l1 k p0 p1 kq19 = rec18 at h
   refine AW.sr ?_
   refine AO.c (x := eBool (decide (x17 < (p1.length : Int)))) (Calm.int rfl rfl rfl rfl) ?_
   refine AO.nK [0, 1, 5, 11, 12, 13, 14] ?_
   refine AW.seq ?_
   rcases of_ite h with ⟨hc20, h⟩ | ⟨hc20, h⟩
   ·refine AW.condP _ rfl hc20 ?_
    refine AW.sK [0, 1, 5, 11, 12, 13] ?_
    refine AW.seq ?_
    refine AW.block ?_
    refine AW.sr ?_
    obtain ⟨hg21, h⟩ := of_guard h
    refine AO.c (Calm.idxL (f := eBool) rfl rfl rfl hg21 Try.underlying98 sz4) ?_
    refine AO.c (Calm.loadRp rfl rfl ag4 sz4) ?_
    refine AO.ag rfl rfl ?_
    refine AO.nK [0, 1, 5, 7, 11, 12, 13] ?_
    obtain ⟨b22, hq23, h⟩ := of_bind h
    refine AW.regM [(0, (.ptr q0 0)), (1, (.fz 1 (p1.map eBool))), (5, (eBool b22)), (11, (.fz 1 (p1.map eBool))), (12, (eI64 (p1.length : Int))), (13, (eI64 x17))] ((q0, (.mem (.st [(4, (e121 p0.f0)), (1, (.fz 1 (p0.f1.map eI64))), (1, (.fz 1 (p0.f2.map eU8))), (1, (.mp q0_0)), (1, (.own q0_1 0 p0.f4.length)), (258, (.st [(256, (.ar 1 (p0.f5.f0.toList.map eU8))), (1, (.own q0_2 0 p0.f5.f1.length)), (1, (.own q0_3 0 p0.f5.f2.length))]))]))) :: (q0_0, (.map (encM Value.string eI64 p0.f3))) :: (q0_1, (.mem (.ar 1 (p0.f4.map e98)))) :: (q0_2, (.mem (.ar 1 (p0.f5.f1.map e35)))) :: (q0_3, (.mem (.ar 1 (p0.f5.f2.map eI64)))) :: T0) ?_ ?_
    ·refine AO.mv rfl rfl ?_
     refine AO.mv rfl rfl ?_
     rcases of_ite hq23 with ⟨hc24, hq23⟩ | ⟨hc24, hq23⟩
     ·refine AO.sF rfl rfl (bD hc24) ?_
      refine AO.c (Calm.pickT rfl (bD hc24) rfl) ?_
      refine AO.ag rfl rfl ?_
      cases hq23
      refine AO.nilE ⟨rfl, rfl⟩ ?_ ?_
      · exact ⟨rfl, rfl, rfl, rfl, rfl, rfl, trivial⟩
      · exact (Sub.refl _)
     ·refine AO.cG rfl rfl (bD (eq_false_of_ne_true hc24)) (Calm.move rfl rfl) ?_
      refine AO.c (Calm.pickF rfl (bD (eq_false_of_ne_true hc24)) rfl) ?_
      refine AO.ag rfl rfl ?_
      cases hq23
      refine AO.nilE ⟨rfl, rfl⟩ ?_ ?_
      · exact ⟨rfl, rfl, rfl, rfl, rfl, rfl, trivial⟩
      · exact (Sub.refl _)
    ·refine AW.reg ?_
     refine AO.c (x := eI64 (w64 (x17 + (1 : Int)))) (Calm.int rfl rfl rfl rfl) ?_
     refine AO.mv rfl rfl ?_
     refine AO.nK [0, 1, 5, 11, 12, 13] ?_
     exact ⟨kq19, Nat.lt_succ_self _, b22, (w64 (x17 + (1 : Int))), rfl, rfl, by rw [hrec18]; exact h⟩
   ·refine AW.condN _ rfl hc20 ?_
    refine AW.eK [0, 1, 5] ?_
    exact ⟨b16, rfl, rfl, h⟩
  ·rintro _ _ ⟨b3, rfl, rfl, h⟩
   rw [F98_c0.eq_1] at h
   refine AW.seq ?_
   refine AW.sr ?_
   refine AO.mv rfl rfl ?_
   refine AO.c (Calm.not rfl rfl) ?_
   refine AO.nK [0, 1, 23] ?_
   rcases of_ite h with ⟨hc4, h⟩ | ⟨hc4, h⟩
   ·refine AW.condT' _ rfl hc4 ?_
    refine AW.sr ?_
    refine AO.ag rfl rfl ?_
    refine AO.nK [4] ?_
    refine AW.rK [4] ?_
    have hr := Option.some.inj h
    subst hr
    exact ⟨[(eI64 (-1 : Int))], ⟨rfl, rfl, trivial⟩, q0_0, q0_1, q0_2, q0_3, rfl, (Sub.cons 0 rfl (Sub.cons 0 rfl (Sub.cons 0 rfl (Sub.cons 0 rfl (Sub.cons 0 rfl (Sub.refl _))))))⟩
   ·refine AW.condF' _ rfl hc4 ?_
    refine AW.sK [0, 1] ?_
    refine AW.sr ?_
    refine AO.mv rfl rfl ?_
    obtain ⟨t5, et5, h⟩ := of_bind h
    refine AO.callS [(.fz 1 (p1.map eBool))] (eStr t5) 25 rfl (by decide) ok123 rfl rfl rfl ⟨rfl, rfl, trivial⟩ (F123_spec et5) ?_
    refine AO.ag rfl rfl ?_
    refine AO.nK [0, 1, 8] ?_
    refine AW.seq ?_
    refine AW.sr ?_
    refine AO.mv rfl rfl ?_
    refine AO.c (Calm.nilCheck rfl rfl) ?_
    refine AO.c (x := .ptr q0 6) (Calm.fldPtr rfl rfl Try.underlying156 rfl sz109 _ rfl) ?_
    refine AO.c (Calm.load 0 rfl rfl rfl (At.cast (At.fldS (At.fldS (At.fldS (At.fld0 At.here)))) rfl) ag109 sz109) ?_
    refine AO.mv rfl rfl ?_
    refine AO.c (x := .tup [(eI64 ((mget p0.f3 t5).getD (0 : Int))), (eBool ((mget p0.f3 t5).isSome))]) (Calm.look2 (f := eI64) string_inj string_key (0 : Int) 1 rfl rfl rfl rfl Try.underlying109 Try.underlying9 mz3) ?_
    refine AO.mv rfl rfl ?_
    refine AO.c (Calm.extract rfl rfl rfl) ?_
    refine AO.c (Calm.extract rfl rfl rfl) ?_
    refine AO.ag rfl rfl ?_
    refine AO.ag rfl rfl ?_
    refine AO.nK [0, 1, 8, 9, 10] ?_
    refine AW.sr ?_
    refine AO.mv rfl rfl ?_
    refine AO.nK [0, 1, 8, 9, 35] ?_
    rcases of_ite h with ⟨hc6, h⟩ | ⟨hc6, h⟩
    ·refine AW.condT' _ rfl hc6 ?_
     refine AW.sr ?_
     refine AO.mv rfl rfl ?_
     refine AO.ag rfl rfl ?_
     refine AO.nK [4] ?_
     refine AW.rK [4] ?_
     have hr := Option.some.inj h
     subst hr
     exact ⟨[(eI64 ((mget p0.f3 t5).getD (0 : Int)))], ⟨rfl, rfl, trivial⟩, q0_0, q0_1, q0_2, q0_3, rfl, (Sub.cons 0 rfl (Sub.cons 0 rfl (Sub.cons 0 rfl (Sub.cons 0 rfl (Sub.cons 0 rfl (Sub.refl _))))))⟩
    ·refine AW.condF' _ rfl hc6 ?_
     refine AW.sK [0, 1, 8] ?_
     refine AW.seq ?_
     refine AW.regEff (by rfl) (by decide +kernel) (fun (σ : Nat → Nat) => ([(.ptr q0 0), (.ptr q0 0), (.ptr q0 6), (.mp q0_0), (eStr t5), (.ptr q0 0), (.ptr q0 0), (.ptr q0 7), (.own q0_1 0 p0.f4.length), (eI64 (p0.f4.length : Int)), (.fl undef)] : List AV)) (fun (L : Nat → Bool) (σ : Nat → Nat) => ((q0, (.mem (.st [(4, (e121 p0.f0)), (1, (.fz 1 (p0.f1.map eI64))), (1, (.fz 1 (p0.f2.map eU8))), (1, (.mp q0_0)), (1, (.own q0_1 0 p0.f4.length)), (258, (.st [(256, (.ar 1 (p0.f5.f0.toList.map eU8))), (1, (.own q0_2 0 p0.f5.f1.length)), (1, (.own q0_3 0 p0.f5.f2.length))]))]))) :: (q0_1, (.mem (.ar 1 (p0.f4.map e98)))) :: (q0_2, (.mem (.ar 1 (p0.f5.f1.map e35)))) :: (q0_3, (.mem (.ar 1 (p0.f5.f2.map eI64)))) :: (bif L 10 then ((q0_0, (.map (encM Value.string eI64 (mput p0.f3 t5 (p0.f4.length : Int))))) :: T0) else ((q0_0, (.map (encM Value.string eI64 p0.f3))) :: T0)) : Heap)) [(0, (.ptr q0 0)), (1, (.fz 1 (p1.map eBool))), (8, (eStr t5))] ⟨rfl, rfl, rfl, trivial⟩ (fun _ => rfl) (fun σ => (Sub.cons 0 rfl (Sub.cons 1 rfl (Sub.cons 1 rfl (Sub.cons 1 rfl (Sub.cons 0 rfl (Sub.refl _))))))) ⟨?_, ?_, ?_, ?_, ?_, ?_, ?_, ?_, ?_, ?_, ?_, trivial⟩ (fun σ => [(0, (.ptr q0 0)), (1, (.fz 1 (p1.map eBool)))]) (fun σ => ((q0, (.mem (.st [(4, (e121 p0.f0)), (1, (.fz 1 (p0.f1.map eI64))), (1, (.fz 1 (p0.f2.map eU8))), (1, (.mp q0_0)), (1, (.own q0_1 0 p0.f4.length)), (258, (.st [(256, (.ar 1 (p0.f5.f0.toList.map eU8))), (1, (.own q0_2 0 p0.f5.f1.length)), (1, (.own q0_3 0 p0.f5.f2.length))]))]))) :: (q0_1, (.mem (.ar 1 (p0.f4.map e98)))) :: (q0_2, (.mem (.ar 1 (p0.f5.f1.map e35)))) :: (q0_3, (.mem (.ar 1 (p0.f5.f2.map eI64)))) :: (q0_0, (.map (encM Value.string eI64 (mput p0.f3 t5 (p0.f4.length : Int))))) :: T0)) (fun σ => ⟨rfl, rfl, trivial⟩) (fun σ => Sub.refl _) (fun σ => ?_)
     ·refine StepE.calm (fun _ _ => rfl) fun L σ hc hi hd => ?_
      refine AO.wK [0] ?_
      refine AO.mv rfl rfl ?_
      exact AO.nE (d := 37) rfl ⟨⟨37, _, rfl, rfl, rfl⟩, Sub.refl _⟩
     ·refine StepE.calm (fun _ _ => rfl) fun L σ hc hi hd => ?_
      refine AO.wK [37] ?_
      refine AO.c (Calm.nilCheck rfl rfl) ?_
      exact AO.nE (d := 38) rfl ⟨⟨38, _, rfl, rfl, rfl⟩, Sub.refl _⟩
     ·refine StepE.calm (fun _ _ => rfl) fun L σ hc hi hd => ?_
      refine AO.wK [38] ?_
      refine AO.c (x := .ptr q0 6) (Calm.fldPtr rfl rfl Try.underlying156 rfl sz109 _ rfl) ?_
      exact AO.nE (d := 39) rfl ⟨⟨39, _, rfl, rfl, rfl⟩, Sub.refl _⟩
     ·refine StepE.calm (fun _ _ => rfl) fun L σ hc hi hd => ?_
      refine AO.wK [39] ?_
      refine AO.c (Calm.load 0 rfl rfl rfl (At.cast (At.fldS (At.fldS (At.fldS (At.fld0 At.here)))) rfl) ag109 sz109) ?_
      exact AO.nE (d := 40) rfl ⟨⟨40, _, rfl, rfl, rfl⟩, Sub.refl _⟩
     ·refine StepE.calm (fun _ _ => rfl) fun L σ hc hi hd => ?_
      refine AO.wK [8] ?_
      refine AO.mv rfl rfl ?_
      exact AO.nE (d := 41) rfl ⟨⟨41, _, rfl, rfl, rfl⟩, Sub.refl _⟩
     ·refine StepE.calm (fun _ _ => rfl) fun L σ hc hi hd => ?_
      refine AO.wK [0] ?_
      refine AO.mv rfl rfl ?_
      exact AO.nE (d := 42) rfl ⟨⟨42, _, rfl, rfl, rfl⟩, Sub.refl _⟩
     ·refine StepE.calm (fun _ _ => rfl) fun L σ hc hi hd => ?_
      refine AO.wK [42] ?_
      refine AO.c (Calm.nilCheck rfl rfl) ?_
      exact AO.nE (d := 43) rfl ⟨⟨43, _, rfl, rfl, rfl⟩, Sub.refl _⟩
     ·refine StepE.calm (fun _ _ => rfl) fun L σ hc hi hd => ?_
      refine AO.wK [43] ?_
      refine AO.c (x := .ptr q0 7) (Calm.fldPtr rfl rfl Try.underlying156 rfl sz107 _ rfl) ?_
      exact AO.nE (d := 44) rfl ⟨⟨44, _, rfl, rfl, rfl⟩, Sub.refl _⟩
     ·refine StepE.calm (fun _ _ => rfl) fun L σ hc hi hd => ?_
      refine AO.wK [44] ?_
      refine AO.c (Calm.load 0 rfl rfl rfl (At.cast (At.fldS (At.fldS (At.fldS (At.fldS (At.fld0 At.here))))) rfl) ag107 sz107) ?_
      exact AO.nE (d := 45) rfl ⟨⟨45, _, rfl, rfl, rfl⟩, Sub.refl _⟩
     ·refine StepE.calm (fun _ _ => rfl) fun L σ hc hi hd => ?_
      refine AO.wK [45] ?_
      refine AO.c (Calm.lenOwn rfl rfl Try.underlying107) ?_
      exact AO.nE (d := 46) rfl ⟨⟨46, _, rfl, rfl, rfl⟩, Sub.refl _⟩
     ·intro L σ hc hi hd
      refine AO.heq (H' := ((q0, (.mem (.st [(4, (e121 p0.f0)), (1, (.fz 1 (p0.f1.map eI64))), (1, (.fz 1 (p0.f2.map eU8))), (1, (.mp q0_0)), (1, (.own q0_1 0 p0.f4.length)), (258, (.st [(256, (.ar 1 (p0.f5.f0.toList.map eU8))), (1, (.own q0_2 0 p0.f5.f1.length)), (1, (.own q0_3 0 p0.f5.f2.length))]))]))) :: (q0_1, (.mem (.ar 1 (p0.f4.map e98)))) :: (q0_2, (.mem (.ar 1 (p0.f5.f1.map e35)))) :: (q0_3, (.mem (.ar 1 (p0.f5.f2.map eI64)))) :: (q0_0, (.map (encM Value.string eI64 p0.f3))) :: T0)) (by first | rfl | simp only [hi, cond_true, cond_false]) ?_
      refine AO.wK [40, 41, 46] ?_
      refine AO.mapPut (f := eI64) string_inj string_key 4 rfl rfl rfl rfl rfl rfl rfl rfl Try.underlying109 Try.underlying9 ?_
      have a10 : addL L 10 10 = true := rfl
      exact AO.n0 ⟨σ, (fun _ _ => rfl), (fun d' hd' => by cases hd'), Sub.of_eq (B := ((q0, (.mem (.st [(4, (e121 p0.f0)), (1, (.fz 1 (p0.f1.map eI64))), (1, (.fz 1 (p0.f2.map eU8))), (1, (.mp q0_0)), (1, (.own q0_1 0 p0.f4.length)), (258, (.st [(256, (.ar 1 (p0.f5.f0.toList.map eU8))), (1, (.own q0_2 0 p0.f5.f1.length)), (1, (.own q0_3 0 p0.f5.f2.length))]))]))) :: (q0_1, (.mem (.ar 1 (p0.f4.map e98)))) :: (q0_2, (.mem (.ar 1 (p0.f5.f1.map e35)))) :: (q0_3, (.mem (.ar 1 (p0.f5.f2.map eI64)))) :: (q0_0, (.map (encM Value.string eI64 (mput p0.f3 t5 (p0.f4.length : Int))))) :: T0)) (by simp only [a10, cond_true, cond_false]) (Sub.refl _)⟩
     ·refine AO.nH [0, 1] (H' := ((q0, (.mem (.st [(4, (e121 p0.f0)), (1, (.fz 1 (p0.f1.map eI64))), (1, (.fz 1 (p0.f2.map eU8))), (1, (.mp q0_0)), (1, (.own q0_1 0 p0.f4.length)), (258, (.st [(256, (.ar 1 (p0.f5.f0.toList.map eU8))), (1, (.own q0_2 0 p0.f5.f1.length)), (1, (.own q0_3 0 p0.f5.f2.length))]))]))) :: (q0_0, (.map (encM Value.string eI64 (mput p0.f3 t5 (p0.f4.length : Int))))) :: (q0_1, (.mem (.ar 1 (p0.f4.map e98)))) :: (q0_2, (.mem (.ar 1 (p0.f5.f1.map e35)))) :: (q0_3, (.mem (.ar 1 (p0.f5.f2.map eI64)))) :: T0)) (Sub.cons 0 rfl (Sub.cons 3 rfl (Sub.cons 0 rfl (Sub.cons 0 rfl (Sub.cons 0 rfl (Sub.refl _)))))) ?_
      refine AW.sr ?_
      refine AO.mv rfl rfl ?_
      refine AO.mv rfl rfl ?_
      refine AO.c (Calm.nilCheck rfl rfl) ?_
      refine AO.c (x := .ptr q0 7) (Calm.fldPtr rfl rfl Try.underlying156 rfl sz107 _ rfl) ?_
      refine AO.c (Calm.load 0 rfl rfl rfl (At.cast (At.fldS (At.fldS (At.fldS (At.fldS (At.fld0 At.here))))) rfl) ag107 sz107) ?_
      refine AO.mv rfl rfl ?_
      refine AO.lit (Z := (.fl (.slice none 0 0))) (xs := (([p1] : List (List Bool)).map e98)) (qs := [(0, (.fz 1 (p1.map eBool)))]) rfl 53 rfl (by decide) rfl ⟨rfl, rfl, rfl, trivial⟩ Try.underlying107 sz98 zr98 lay98 rfl (by decide) (litOK (z := 1) [(.fz 1 (p1.map eBool))] rfl ⟨⟨rfl, rfl⟩, trivial⟩) rfl fun n7 => ?_
      obtain ⟨hg9, h⟩ := of_guard h
      refine AO.appendL (l := p0.f4) (m := ([p1] : List (List Bool))) 3 54 rfl (by decide) rfl rfl rfl rfl rfl (Src.ownL (f := e98) (l := ([p1] : List (List Bool))) 0 rfl) Try.underlying107 Try.underlying107 sz98 by98 zr98 rfl hg9 (by decide) fun n8 => ?_
      refine AO.c (Calm.nilCheck rfl rfl) ?_
      refine AO.c (x := .ptr q0 7) (Calm.fldPtr rfl rfl Try.underlying156 rfl sz107 _ rfl) ?_
      refine AO.store (X' := (.st [(4, (e121 p0.f0)), (1, (.fz 1 (p0.f1.map eI64))), (1, (.fz 1 (p0.f2.map eU8))), (1, (.mp q0_0)), (1, (.own n8 0 (p0.f4 ++ ([p1] : List (List Bool))).length)), (258, (.st [(256, (.ar 1 (p0.f5.f0.toList.map eU8))), (1, (.own q0_2 0 p0.f5.f1.length)), (1, (.own q0_3 0 p0.f5.f2.length))]))])) 1 rfl rfl rfl rfl rfl rfl (Put.cast (Put.fldS (Put.fldS (Put.fldS (Put.fldS (Put.fld0 Put.here))))) rfl) rfl rfl sz107 rfl ?_
      refine AO.nH [0, 1] (H' := ((q0, (.mem (.st [(4, (e121 p0.f0)), (1, (.fz 1 (p0.f1.map eI64))), (1, (.fz 1 (p0.f2.map eU8))), (1, (.mp q0_0)), (1, (.own n8 0 (p0.f4 ++ ([p1] : List (List Bool))).length)), (258, (.st [(256, (.ar 1 (p0.f5.f0.toList.map eU8))), (1, (.own q0_2 0 p0.f5.f1.length)), (1, (.own q0_3 0 p0.f5.f2.length))]))]))) :: (q0_0, (.map (encM Value.string eI64 (mput p0.f3 t5 (p0.f4.length : Int))))) :: (n8, (.mem (.ar 1 ((p0.f4 ++ ([p1] : List (List Bool))).map e98)))) :: (q0_2, (.mem (.ar 1 (p0.f5.f1.map e35)))) :: (q0_3, (.mem (.ar 1 (p0.f5.f2.map eI64)))) :: T0)) (Sub.cons 1 rfl (Sub.cons 1 rfl (Sub.cons 1 rfl (Sub.cons 1 rfl (Sub.cons 1 rfl (Sub.drop (Sub.refl _))))))) ?_
      refine AW.seq ?_
      obtain ⟨t10, et10, h⟩ := of_bind h
      obtain ⟨hg14, h⟩ := of_guard h
      refine AW.regEff (by rfl) (by decide +kernel) (fun (σ : Nat → Nat) => ([(.ptr q0 0), (.ptr q0 0), (.ptr q0 0), (.ptr q0 8), (.ptr q0 265), (.own q0_3 0 p0.f5.f2.length), (.ptr q0 0), (.fz 1 (p1.map eBool)), (eI64 t10), (.fz 1 (([t10] : List Int).map eI64)), (.own (σ 10) 0 (p0.f5.f2 ++ ([t10] : List Int)).length), (.ptr q0 0), (.ptr q0 8), (.ptr q0 265), (.fl undef)] : List AV)) (fun (L : Nat → Bool) (σ : Nat → Nat) => ((q0_0, (.map (encM Value.string eI64 (mput p0.f3 t5 (p0.f4.length : Int))))) :: (n8, (.mem (.ar 1 ((p0.f4 ++ ([p1] : List (List Bool))).map e98)))) :: (q0_2, (.mem (.ar 1 (p0.f5.f1.map e35)))) :: (bif L 10 then (bif L 14 then ((q0, (.mem (.st [(4, (e121 p0.f0)), (1, (.fz 1 (p0.f1.map eI64))), (1, (.fz 1 (p0.f2.map eU8))), (1, (.mp q0_0)), (1, (.own n8 0 (p0.f4 ++ ([p1] : List (List Bool))).length)), (258, (.st [(256, (.ar 1 (p0.f5.f0.toList.map eU8))), (1, (.own q0_2 0 p0.f5.f1.length)), (1, (.own (σ 10) 0 (p0.f5.f2 ++ ([t10] : List Int)).length))]))]))) :: ((σ 10), (.mem (.ar 1 ((p0.f5.f2 ++ ([t10] : List Int)).map eI64)))) :: T0) else ((q0, (.mem (.st [(4, (e121 p0.f0)), (1, (.fz 1 (p0.f1.map eI64))), (1, (.fz 1 (p0.f2.map eU8))), (1, (.mp q0_0)), (1, (.own n8 0 (p0.f4 ++ ([p1] : List (List Bool))).length)), (258, (.st [(256, (.ar 1 (p0.f5.f0.toList.map eU8))), (1, (.own q0_2 0 p0.f5.f1.length)), (1, (.own q0_3 0 p0.f5.f2.length))]))]))) :: ((σ 10), (.mem (.ar 1 ((p0.f5.f2 ++ ([t10] : List Int)).map eI64)))) :: T0)) else ((q0, (.mem (.st [(4, (e121 p0.f0)), (1, (.fz 1 (p0.f1.map eI64))), (1, (.fz 1 (p0.f2.map eU8))), (1, (.mp q0_0)), (1, (.own n8 0 (p0.f4 ++ ([p1] : List (List Bool))).length)), (258, (.st [(256, (.ar 1 (p0.f5.f0.toList.map eU8))), (1, (.own q0_2 0 p0.f5.f1.length)), (1, (.own q0_3 0 p0.f5.f2.length))]))]))) :: (q0_3, (.mem (.ar 1 (p0.f5.f2.map eI64)))) :: T0)) : Heap)) [(0, (.ptr q0 0)), (1, (.fz 1 (p1.map eBool)))] ⟨rfl, rfl, trivial⟩ (fun _ => rfl) (fun σ => (Sub.cons 1 rfl (Sub.cons 1 rfl (Sub.cons 1 rfl (Sub.cons 0 rfl (Sub.cons 0 rfl (Sub.refl _))))))) ⟨?_, ?_, ?_, ?_, ?_, ?_, ?_, ?_, ?_, ?_, ?_, ?_, ?_, ?_, ?_, trivial⟩ (fun σ => [(0, (.ptr q0 0))]) (fun σ => ((q0_0, (.map (encM Value.string eI64 (mput p0.f3 t5 (p0.f4.length : Int))))) :: (n8, (.mem (.ar 1 ((p0.f4 ++ ([p1] : List (List Bool))).map e98)))) :: (q0_2, (.mem (.ar 1 (p0.f5.f1.map e35)))) :: (q0, (.mem (.st [(4, (e121 p0.f0)), (1, (.fz 1 (p0.f1.map eI64))), (1, (.fz 1 (p0.f2.map eU8))), (1, (.mp q0_0)), (1, (.own n8 0 (p0.f4 ++ ([p1] : List (List Bool))).length)), (258, (.st [(256, (.ar 1 (p0.f5.f0.toList.map eU8))), (1, (.own q0_2 0 p0.f5.f1.length)), (1, (.own (σ 10) 0 (p0.f5.f2 ++ ([t10] : List Int)).length))]))]))) :: ((σ 10), (.mem (.ar 1 ((p0.f5.f2 ++ ([t10] : List Int)).map eI64)))) :: T0)) (fun σ => ⟨rfl, trivial⟩) (fun σ => Sub.refl _) (fun σ => ?_)
      ·refine StepE.calm (fun _ _ => rfl) fun L σ hc hi hd => ?_
       have m14 : L 14 = false := hc.neg (i := 0) (j := 14) rfl (by rfl) hi
       cases b10 : L 10 with
       | true =>
         refine AO.heq (H' := ((q0_0, (.map (encM Value.string eI64 (mput p0.f3 t5 (p0.f4.length : Int))))) :: (n8, (.mem (.ar 1 ((p0.f4 ++ ([p1] : List (List Bool))).map e98)))) :: (q0_2, (.mem (.ar 1 (p0.f5.f1.map e35)))) :: (q0, (.mem (.st [(4, (e121 p0.f0)), (1, (.fz 1 (p0.f1.map eI64))), (1, (.fz 1 (p0.f2.map eU8))), (1, (.mp q0_0)), (1, (.own n8 0 (p0.f4 ++ ([p1] : List (List Bool))).length)), (258, (.st [(256, (.ar 1 (p0.f5.f0.toList.map eU8))), (1, (.own q0_2 0 p0.f5.f1.length)), (1, (.own q0_3 0 p0.f5.f2.length))]))]))) :: ((σ 10), (.mem (.ar 1 ((p0.f5.f2 ++ ([t10] : List Int)).map eI64)))) :: T0)) (by first | rfl | simp only [b10, m14, cond_true, cond_false]) ?_
         refine AO.wK [0] ?_
         refine AO.mv rfl rfl ?_
         exact AO.nE (d := 57) rfl ⟨⟨57, _, rfl, rfl, rfl⟩, Sub.of_eq (by first | rfl | simp only [b10, m14, cond_true, cond_false]) (Sub.refl _)⟩
       | false =>
         refine AO.heq (H' := ((q0_0, (.map (encM Value.string eI64 (mput p0.f3 t5 (p0.f4.length : Int))))) :: (n8, (.mem (.ar 1 ((p0.f4 ++ ([p1] : List (List Bool))).map e98)))) :: (q0_2, (.mem (.ar 1 (p0.f5.f1.map e35)))) :: (q0, (.mem (.st [(4, (e121 p0.f0)), (1, (.fz 1 (p0.f1.map eI64))), (1, (.fz 1 (p0.f2.map eU8))), (1, (.mp q0_0)), (1, (.own n8 0 (p0.f4 ++ ([p1] : List (List Bool))).length)), (258, (.st [(256, (.ar 1 (p0.f5.f0.toList.map eU8))), (1, (.own q0_2 0 p0.f5.f1.length)), (1, (.own q0_3 0 p0.f5.f2.length))]))]))) :: (q0_3, (.mem (.ar 1 (p0.f5.f2.map eI64)))) :: T0)) (by first | rfl | simp only [b10, m14, cond_true, cond_false]) ?_
         refine AO.wK [0] ?_
         refine AO.mv rfl rfl ?_
         exact AO.nE (d := 57) rfl ⟨⟨57, _, rfl, rfl, rfl⟩, Sub.of_eq (by first | rfl | simp only [b10, m14, cond_true, cond_false]) (Sub.refl _)⟩
      ·refine StepE.calm (fun _ _ => rfl) fun L σ hc hi hd => ?_
       have m2 : L 2 = false := hc.neg (i := 1) (j := 2) rfl (by rfl) hi
       have m3 : L 3 = false := hc.neg (i := 2) (j := 3) rfl (by rfl) m2
       have m4 : L 4 = false := hc.neg (i := 3) (j := 4) rfl (by rfl) m3
       have m5 : L 5 = false := hc.neg (i := 4) (j := 5) rfl (by rfl) m4
       have m10 : L 10 = false := hc.neg (i := 5) (j := 10) rfl (by rfl) m5
       have m14 : L 14 = false := hc.neg (i := 1) (j := 14) rfl (by rfl) hi
       refine AO.heq (H' := ((q0_0, (.map (encM Value.string eI64 (mput p0.f3 t5 (p0.f4.length : Int))))) :: (n8, (.mem (.ar 1 ((p0.f4 ++ ([p1] : List (List Bool))).map e98)))) :: (q0_2, (.mem (.ar 1 (p0.f5.f1.map e35)))) :: (q0, (.mem (.st [(4, (e121 p0.f0)), (1, (.fz 1 (p0.f1.map eI64))), (1, (.fz 1 (p0.f2.map eU8))), (1, (.mp q0_0)), (1, (.own n8 0 (p0.f4 ++ ([p1] : List (List Bool))).length)), (258, (.st [(256, (.ar 1 (p0.f5.f0.toList.map eU8))), (1, (.own q0_2 0 p0.f5.f1.length)), (1, (.own q0_3 0 p0.f5.f2.length))]))]))) :: (q0_3, (.mem (.ar 1 (p0.f5.f2.map eI64)))) :: T0)) (by first | rfl | simp only [m10, m14, cond_true, cond_false]) ?_
       refine AO.wK [0] ?_
       refine AO.mv rfl rfl ?_
       exact AO.nE (d := 58) rfl ⟨⟨58, _, rfl, rfl, rfl⟩, Sub.of_eq (by first | rfl | simp only [m10, m14, cond_true, cond_false]) (Sub.refl _)⟩
      ·refine StepE.calm (fun _ _ => rfl) fun L σ hc hi hd => ?_
       have m3 : L 3 = false := hc.neg (i := 2) (j := 3) rfl (by rfl) hi
       have m4 : L 4 = false := hc.neg (i := 3) (j := 4) rfl (by rfl) m3
       have m5 : L 5 = false := hc.neg (i := 4) (j := 5) rfl (by rfl) m4
       have m10 : L 10 = false := hc.neg (i := 5) (j := 10) rfl (by rfl) m5
       have m14 : L 14 = false := hc.neg (i := 2) (j := 14) rfl (by rfl) hi
       refine AO.heq (H' := ((q0_0, (.map (encM Value.string eI64 (mput p0.f3 t5 (p0.f4.length : Int))))) :: (n8, (.mem (.ar 1 ((p0.f4 ++ ([p1] : List (List Bool))).map e98)))) :: (q0_2, (.mem (.ar 1 (p0.f5.f1.map e35)))) :: (q0, (.mem (.st [(4, (e121 p0.f0)), (1, (.fz 1 (p0.f1.map eI64))), (1, (.fz 1 (p0.f2.map eU8))), (1, (.mp q0_0)), (1, (.own n8 0 (p0.f4 ++ ([p1] : List (List Bool))).length)), (258, (.st [(256, (.ar 1 (p0.f5.f0.toList.map eU8))), (1, (.own q0_2 0 p0.f5.f1.length)), (1, (.own q0_3 0 p0.f5.f2.length))]))]))) :: (q0_3, (.mem (.ar 1 (p0.f5.f2.map eI64)))) :: T0)) (by first | rfl | simp only [m10, m14, cond_true, cond_false]) ?_
       refine AO.wK [58] ?_
       refine AO.c (Calm.nilCheck rfl rfl) ?_
       exact AO.nE (d := 59) rfl ⟨⟨59, _, rfl, rfl, rfl⟩, Sub.of_eq (by first | rfl | simp only [m10, m14, cond_true, cond_false]) (Sub.refl _)⟩
      ·refine StepE.calm (fun _ _ => rfl) fun L σ hc hi hd => ?_
       have m4 : L 4 = false := hc.neg (i := 3) (j := 4) rfl (by rfl) hi
       have m5 : L 5 = false := hc.neg (i := 4) (j := 5) rfl (by rfl) m4
       have m10 : L 10 = false := hc.neg (i := 5) (j := 10) rfl (by rfl) m5
       have m14 : L 14 = false := hc.neg (i := 3) (j := 14) rfl (by rfl) hi
       refine AO.heq (H' := ((q0_0, (.map (encM Value.string eI64 (mput p0.f3 t5 (p0.f4.length : Int))))) :: (n8, (.mem (.ar 1 ((p0.f4 ++ ([p1] : List (List Bool))).map e98)))) :: (q0_2, (.mem (.ar 1 (p0.f5.f1.map e35)))) :: (q0, (.mem (.st [(4, (e121 p0.f0)), (1, (.fz 1 (p0.f1.map eI64))), (1, (.fz 1 (p0.f2.map eU8))), (1, (.mp q0_0)), (1, (.own n8 0 (p0.f4 ++ ([p1] : List (List Bool))).length)), (258, (.st [(256, (.ar 1 (p0.f5.f0.toList.map eU8))), (1, (.own q0_2 0 p0.f5.f1.length)), (1, (.own q0_3 0 p0.f5.f2.length))]))]))) :: (q0_3, (.mem (.ar 1 (p0.f5.f2.map eI64)))) :: T0)) (by first | rfl | simp only [m10, m14, cond_true, cond_false]) ?_
       refine AO.wK [59] ?_
       refine AO.c (x := .ptr q0 8) (Calm.fldPtr rfl rfl Try.underlying156 rfl sz55 _ rfl) ?_
       exact AO.nE (d := 60) rfl ⟨⟨60, _, rfl, rfl, rfl⟩, Sub.of_eq (by first | rfl | simp only [m10, m14, cond_true, cond_false]) (Sub.refl _)⟩
      ·refine StepE.calm (fun _ _ => rfl) fun L σ hc hi hd => ?_
       have m5 : L 5 = false := hc.neg (i := 4) (j := 5) rfl (by rfl) hi
       have m10 : L 10 = false := hc.neg (i := 5) (j := 10) rfl (by rfl) m5
       have m14 : L 14 = false := hc.neg (i := 4) (j := 14) rfl (by rfl) hi
       refine AO.heq (H' := ((q0_0, (.map (encM Value.string eI64 (mput p0.f3 t5 (p0.f4.length : Int))))) :: (n8, (.mem (.ar 1 ((p0.f4 ++ ([p1] : List (List Bool))).map e98)))) :: (q0_2, (.mem (.ar 1 (p0.f5.f1.map e35)))) :: (q0, (.mem (.st [(4, (e121 p0.f0)), (1, (.fz 1 (p0.f1.map eI64))), (1, (.fz 1 (p0.f2.map eU8))), (1, (.mp q0_0)), (1, (.own n8 0 (p0.f4 ++ ([p1] : List (List Bool))).length)), (258, (.st [(256, (.ar 1 (p0.f5.f0.toList.map eU8))), (1, (.own q0_2 0 p0.f5.f1.length)), (1, (.own q0_3 0 p0.f5.f2.length))]))]))) :: (q0_3, (.mem (.ar 1 (p0.f5.f2.map eI64)))) :: T0)) (by first | rfl | simp only [m10, m14, cond_true, cond_false]) ?_
       refine AO.wK [60] ?_
       refine AO.c (x := .ptr q0 265) (Calm.fldPtr rfl rfl Try.underlying55 rfl sz35 _ rfl) ?_
       exact AO.nE (d := 61) rfl ⟨⟨61, _, rfl, rfl, rfl⟩, Sub.of_eq (by first | rfl | simp only [m10, m14, cond_true, cond_false]) (Sub.refl _)⟩
      ·refine StepE.calm (fun _ _ => rfl) fun L σ hc hi hd => ?_
       have m10 : L 10 = false := hc.neg (i := 5) (j := 10) rfl (by rfl) hi
       have m14 : L 14 = false := hc.neg (i := 5) (j := 14) rfl (by rfl) hi
       refine AO.heq (H' := ((q0_0, (.map (encM Value.string eI64 (mput p0.f3 t5 (p0.f4.length : Int))))) :: (n8, (.mem (.ar 1 ((p0.f4 ++ ([p1] : List (List Bool))).map e98)))) :: (q0_2, (.mem (.ar 1 (p0.f5.f1.map e35)))) :: (q0, (.mem (.st [(4, (e121 p0.f0)), (1, (.fz 1 (p0.f1.map eI64))), (1, (.fz 1 (p0.f2.map eU8))), (1, (.mp q0_0)), (1, (.own n8 0 (p0.f4 ++ ([p1] : List (List Bool))).length)), (258, (.st [(256, (.ar 1 (p0.f5.f0.toList.map eU8))), (1, (.own q0_2 0 p0.f5.f1.length)), (1, (.own q0_3 0 p0.f5.f2.length))]))]))) :: (q0_3, (.mem (.ar 1 (p0.f5.f2.map eI64)))) :: T0)) (by first | rfl | simp only [m10, m14, cond_true, cond_false]) ?_
       refine AO.wK [61] ?_
       refine AO.c (Calm.load 3 rfl rfl rfl (At.cast (At.fldS (At.fldS (At.fldS (At.fldS (At.fldS (At.fld0 (At.fldS (At.fldS (At.fld0 At.here))))))))) rfl) ag35 sz35) ?_
       exact AO.nE (d := 62) rfl ⟨⟨62, _, rfl, rfl, rfl⟩, Sub.of_eq (by first | rfl | simp only [m10, m14, cond_true, cond_false]) (Sub.refl _)⟩
      ·refine StepE.calm (fun _ _ => rfl) fun L σ hc hi hd => ?_
       have m8 : L 8 = false := hc.neg (i := 6) (j := 8) rfl (by rfl) hi
       have m10 : L 10 = false := hc.neg (i := 8) (j := 10) rfl (by rfl) m8
       have m14 : L 14 = false := hc.neg (i := 6) (j := 14) rfl (by rfl) hi
       refine AO.heq (H' := ((q0_0, (.map (encM Value.string eI64 (mput p0.f3 t5 (p0.f4.length : Int))))) :: (n8, (.mem (.ar 1 ((p0.f4 ++ ([p1] : List (List Bool))).map e98)))) :: (q0_2, (.mem (.ar 1 (p0.f5.f1.map e35)))) :: (q0, (.mem (.st [(4, (e121 p0.f0)), (1, (.fz 1 (p0.f1.map eI64))), (1, (.fz 1 (p0.f2.map eU8))), (1, (.mp q0_0)), (1, (.own n8 0 (p0.f4 ++ ([p1] : List (List Bool))).length)), (258, (.st [(256, (.ar 1 (p0.f5.f0.toList.map eU8))), (1, (.own q0_2 0 p0.f5.f1.length)), (1, (.own q0_3 0 p0.f5.f2.length))]))]))) :: (q0_3, (.mem (.ar 1 (p0.f5.f2.map eI64)))) :: T0)) (by first | rfl | simp only [m10, m14, cond_true, cond_false]) ?_
       refine AO.wK [0] ?_
       refine AO.mv rfl rfl ?_
       exact AO.nE (d := 63) rfl ⟨⟨63, _, rfl, rfl, rfl⟩, Sub.of_eq (by first | rfl | simp only [m10, m14, cond_true, cond_false]) (Sub.refl _)⟩
      ·refine StepE.calm (fun _ _ => rfl) fun L σ hc hi hd => ?_
       refine AO.wK [1] ?_
       refine AO.mv rfl rfl ?_
       exact AO.nE (d := 64) rfl ⟨⟨64, _, rfl, rfl, rfl⟩, Sub.refl _⟩
      ·refine StepE.calm (fun _ _ => rfl) fun L σ hc hi hd => ?_
       have m10 : L 10 = false := hc.neg (i := 8) (j := 10) rfl (by rfl) hi
       have m14 : L 14 = false := hc.neg (i := 8) (j := 14) rfl (by rfl) hi
       refine AO.heq (H' := ((q0_0, (.map (encM Value.string eI64 (mput p0.f3 t5 (p0.f4.length : Int))))) :: (n8, (.mem (.ar 1 ((p0.f4 ++ ([p1] : List (List Bool))).map e98)))) :: (q0_2, (.mem (.ar 1 (p0.f5.f1.map e35)))) :: (q0, (.mem (.st [(4, (e121 p0.f0)), (1, (.fz 1 (p0.f1.map eI64))), (1, (.fz 1 (p0.f2.map eU8))), (1, (.mp q0_0)), (1, (.own n8 0 (p0.f4 ++ ([p1] : List (List Bool))).length)), (258, (.st [(256, (.ar 1 (p0.f5.f0.toList.map eU8))), (1, (.own q0_2 0 p0.f5.f1.length)), (1, (.own q0_3 0 p0.f5.f2.length))]))]))) :: (q0_3, (.mem (.ar 1 (p0.f5.f2.map eI64)))) :: T0)) (by first | rfl | simp only [m10, m14, cond_true, cond_false]) ?_
       refine AO.wK [63, 64] ?_
       refine AO.callH [(.ptr q0 0), (.fz 1 (p1.map eBool))] ((q0, (.mem (.st [(4, (e121 p0.f0)), (1, (.fz 1 (p0.f1.map eI64))), (1, (.fz 1 (p0.f2.map eU8))), (1, (.mp q0_0)), (1, (.own n8 0 (p0.f4 ++ ([p1] : List (List Bool))).length)), (258, (.st [(256, (.ar 1 (p0.f5.f0.toList.map eU8))), (1, (.own q0_2 0 p0.f5.f1.length)), (1, (.own q0_3 0 p0.f5.f2.length))]))]))) :: (q0_0, (.map (encM Value.string eI64 (mput p0.f3 t5 (p0.f4.length : Int))))) :: (n8, (.mem (.ar 1 ((p0.f4 ++ ([p1] : List (List Bool))).map e98)))) :: (q0_2, (.mem (.ar 1 (p0.f5.f1.map e35)))) :: (q0_3, (.mem (.ar 1 (p0.f5.f2.map eI64)))) :: T0) _ rfl rfl rfl 65 rfl (by decide) ok124 ⟨rfl, rfl, rfl, rfl, trivial⟩ (Sub.cons 3 rfl (Sub.cons 0 rfl (Sub.cons 0 rfl (Sub.cons 0 rfl (Sub.cons 0 rfl (Sub.refl _)))))) (F124_spec et10) ?_
       rintro _ _ ⟨rfl, hs11⟩
       refine AO.wH [63, 64, 65] hs11 ?_
       refine AO.wH [63, 64, 65] (H' := ((q0_0, (.map (encM Value.string eI64 (mput p0.f3 t5 (p0.f4.length : Int))))) :: (n8, (.mem (.ar 1 ((p0.f4 ++ ([p1] : List (List Bool))).map e98)))) :: (q0_2, (.mem (.ar 1 (p0.f5.f1.map e35)))) :: (q0, (.mem (.st [(4, (e121 p0.f0)), (1, (.fz 1 (p0.f1.map eI64))), (1, (.fz 1 (p0.f2.map eU8))), (1, (.mp q0_0)), (1, (.own n8 0 (p0.f4 ++ ([p1] : List (List Bool))).length)), (258, (.st [(256, (.ar 1 (p0.f5.f0.toList.map eU8))), (1, (.own q0_2 0 p0.f5.f1.length)), (1, (.own q0_3 0 p0.f5.f2.length))]))]))) :: (q0_3, (.mem (.ar 1 (p0.f5.f2.map eI64)))) :: T0)) (Sub.cons 1 rfl (Sub.cons 1 rfl (Sub.cons 1 rfl (Sub.cons 0 rfl (Sub.cons 0 rfl (Sub.refl _)))))) ?_
       exact AO.nE (d := 65) rfl ⟨⟨65, _, rfl, rfl, rfl⟩, Sub.of_eq (by first | rfl | simp only [m10, m14, cond_true, cond_false]) (Sub.refl _)⟩
      ·refine StepE.calm (fun _ _ => rfl) fun L σ hc hi hd => ?_
       refine AO.wK [65] ?_
       refine AO.lit (Z := (eI64 (0 : Int))) (xs := (([t10] : List Int).map eI64)) (qs := [(0, (eI64 t10))]) rfl 66 rfl (by decide) rfl ⟨rfl, rfl, rfl, trivial⟩ Try.underlying35 sz3 zr3 lay3 rfl (by decide) (litOK (z := 1) [(eI64 t10)] rfl ⟨⟨rfl, rfl⟩, trivial⟩) rfl fun n12 => ?_
       refine AO.freezeS 0 [(66, (.fz 1 (([t10] : List Int).map eI64)))] rfl ⟨fz_all rfl, trivial⟩ ?_
       exact AO.nE (d := 66) rfl ⟨⟨66, _, rfl, rfl, rfl⟩, Sub.refl _⟩
      ·intro L σ hc hi hd
       have m14 : L 14 = false := hc.neg (i := 10) (j := 14) rfl (by rfl) hi
       refine AO.heq (H' := ((q0_0, (.map (encM Value.string eI64 (mput p0.f3 t5 (p0.f4.length : Int))))) :: (n8, (.mem (.ar 1 ((p0.f4 ++ ([p1] : List (List Bool))).map e98)))) :: (q0_2, (.mem (.ar 1 (p0.f5.f1.map e35)))) :: (q0, (.mem (.st [(4, (e121 p0.f0)), (1, (.fz 1 (p0.f1.map eI64))), (1, (.fz 1 (p0.f2.map eU8))), (1, (.mp q0_0)), (1, (.own n8 0 (p0.f4 ++ ([p1] : List (List Bool))).length)), (258, (.st [(256, (.ar 1 (p0.f5.f0.toList.map eU8))), (1, (.own q0_2 0 p0.f5.f1.length)), (1, (.own q0_3 0 p0.f5.f2.length))]))]))) :: (q0_3, (.mem (.ar 1 (p0.f5.f2.map eI64)))) :: T0)) (by first | rfl | simp only [hi, m14, cond_true, cond_false]) ?_
       refine AO.wK [62, 66] ?_
       refine AO.appendL (l := p0.f5.f2) (m := ([t10] : List Int)) 4 67 rfl (by decide) rfl rfl rfl rfl rfl Src.fz Try.underlying35 Try.underlying35 sz3 by3 zr3 rfl hg14 (by decide) fun n13 => ?_
       have a10 : addL L 10 10 = true := rfl
       have a14 : addL L 10 14 = false := m14
       have u10 : upd σ 10 n13 10 = n13 := rfl
       exact AO.nE (d := 67) rfl ⟨(upd σ 10 n13), (fun j hj => match j, hj with | 0, _ => rfl | 1, _ => rfl | 2, _ => rfl | 3, _ => rfl | 4, _ => rfl | 5, _ => rfl | 6, _ => rfl | 7, _ => rfl | 8, _ => rfl | 9, _ => rfl | 10, hj => Bool.noConfusion (hj.symm.trans hi) | 11, _ => rfl | 12, _ => rfl | 13, _ => rfl | 14, _ => rfl | _ + 15, _ => rfl), (fun d' hd' => ⟨_, rfl, by cases hd'; rfl⟩), Sub.of_eq (B := ((q0_0, (.map (encM Value.string eI64 (mput p0.f3 t5 (p0.f4.length : Int))))) :: (n8, (.mem (.ar 1 ((p0.f4 ++ ([p1] : List (List Bool))).map e98)))) :: (q0_2, (.mem (.ar 1 (p0.f5.f1.map e35)))) :: (q0, (.mem (.st [(4, (e121 p0.f0)), (1, (.fz 1 (p0.f1.map eI64))), (1, (.fz 1 (p0.f2.map eU8))), (1, (.mp q0_0)), (1, (.own n8 0 (p0.f4 ++ ([p1] : List (List Bool))).length)), (258, (.st [(256, (.ar 1 (p0.f5.f0.toList.map eU8))), (1, (.own q0_2 0 p0.f5.f1.length)), (1, (.own q0_3 0 p0.f5.f2.length))]))]))) :: (n13, (.mem (.ar 1 ((p0.f5.f2 ++ ([t10] : List Int)).map eI64)))) :: T0)) (by simp only [a10, a14, u10, cond_true, cond_false]) (Sub.refl _)⟩
      ·refine StepE.calm (fun _ _ => rfl) fun L σ hc hi hd => ?_
       have y10 : L 10 = true := on_get hd (i := 10) (by rfl)
       have m12 : L 12 = false := hc.neg (i := 11) (j := 12) rfl (by rfl) hi
       have m13 : L 13 = false := hc.neg (i := 12) (j := 13) rfl (by rfl) m12
       have m14 : L 14 = false := hc.neg (i := 13) (j := 14) rfl (by rfl) m13
       refine AO.heq (H' := ((q0_0, (.map (encM Value.string eI64 (mput p0.f3 t5 (p0.f4.length : Int))))) :: (n8, (.mem (.ar 1 ((p0.f4 ++ ([p1] : List (List Bool))).map e98)))) :: (q0_2, (.mem (.ar 1 (p0.f5.f1.map e35)))) :: (q0, (.mem (.st [(4, (e121 p0.f0)), (1, (.fz 1 (p0.f1.map eI64))), (1, (.fz 1 (p0.f2.map eU8))), (1, (.mp q0_0)), (1, (.own n8 0 (p0.f4 ++ ([p1] : List (List Bool))).length)), (258, (.st [(256, (.ar 1 (p0.f5.f0.toList.map eU8))), (1, (.own q0_2 0 p0.f5.f1.length)), (1, (.own q0_3 0 p0.f5.f2.length))]))]))) :: ((σ 10), (.mem (.ar 1 ((p0.f5.f2 ++ ([t10] : List Int)).map eI64)))) :: T0)) (by first | rfl | simp only [y10, m14, cond_true, cond_false]) ?_
       refine AO.wK [57] ?_
       refine AO.c (Calm.nilCheck rfl rfl) ?_
       exact AO.nE (d := 68) rfl ⟨⟨68, _, rfl, rfl, rfl⟩, Sub.of_eq (by first | rfl | simp only [y10, m14, cond_true, cond_false]) (Sub.refl _)⟩
      ·refine StepE.calm (fun _ _ => rfl) fun L σ hc hi hd => ?_
       have y10 : L 10 = true := on_get hd (i := 10) (by rfl)
       have m13 : L 13 = false := hc.neg (i := 12) (j := 13) rfl (by rfl) hi
       have m14 : L 14 = false := hc.neg (i := 13) (j := 14) rfl (by rfl) m13
       refine AO.heq (H' := ((q0_0, (.map (encM Value.string eI64 (mput p0.f3 t5 (p0.f4.length : Int))))) :: (n8, (.mem (.ar 1 ((p0.f4 ++ ([p1] : List (List Bool))).map e98)))) :: (q0_2, (.mem (.ar 1 (p0.f5.f1.map e35)))) :: (q0, (.mem (.st [(4, (e121 p0.f0)), (1, (.fz 1 (p0.f1.map eI64))), (1, (.fz 1 (p0.f2.map eU8))), (1, (.mp q0_0)), (1, (.own n8 0 (p0.f4 ++ ([p1] : List (List Bool))).length)), (258, (.st [(256, (.ar 1 (p0.f5.f0.toList.map eU8))), (1, (.own q0_2 0 p0.f5.f1.length)), (1, (.own q0_3 0 p0.f5.f2.length))]))]))) :: ((σ 10), (.mem (.ar 1 ((p0.f5.f2 ++ ([t10] : List Int)).map eI64)))) :: T0)) (by first | rfl | simp only [y10, m14, cond_true, cond_false]) ?_
       refine AO.wK [68] ?_
       refine AO.c (x := .ptr q0 8) (Calm.fldPtr rfl rfl Try.underlying156 rfl sz55 _ rfl) ?_
       exact AO.nE (d := 69) rfl ⟨⟨69, _, rfl, rfl, rfl⟩, Sub.of_eq (by first | rfl | simp only [y10, m14, cond_true, cond_false]) (Sub.refl _)⟩
      ·refine StepE.calm (fun _ _ => rfl) fun L σ hc hi hd => ?_
       have y10 : L 10 = true := on_get hd (i := 10) (by rfl)
       have m14 : L 14 = false := hc.neg (i := 13) (j := 14) rfl (by rfl) hi
       refine AO.heq (H' := ((q0_0, (.map (encM Value.string eI64 (mput p0.f3 t5 (p0.f4.length : Int))))) :: (n8, (.mem (.ar 1 ((p0.f4 ++ ([p1] : List (List Bool))).map e98)))) :: (q0_2, (.mem (.ar 1 (p0.f5.f1.map e35)))) :: (q0, (.mem (.st [(4, (e121 p0.f0)), (1, (.fz 1 (p0.f1.map eI64))), (1, (.fz 1 (p0.f2.map eU8))), (1, (.mp q0_0)), (1, (.own n8 0 (p0.f4 ++ ([p1] : List (List Bool))).length)), (258, (.st [(256, (.ar 1 (p0.f5.f0.toList.map eU8))), (1, (.own q0_2 0 p0.f5.f1.length)), (1, (.own q0_3 0 p0.f5.f2.length))]))]))) :: ((σ 10), (.mem (.ar 1 ((p0.f5.f2 ++ ([t10] : List Int)).map eI64)))) :: T0)) (by first | rfl | simp only [y10, m14, cond_true, cond_false]) ?_
       refine AO.wK [69] ?_
       refine AO.c (x := .ptr q0 265) (Calm.fldPtr rfl rfl Try.underlying55 rfl sz35 _ rfl) ?_
       exact AO.nE (d := 70) rfl ⟨⟨70, _, rfl, rfl, rfl⟩, Sub.of_eq (by first | rfl | simp only [y10, m14, cond_true, cond_false]) (Sub.refl _)⟩
      ·intro L σ hc hi hd
       have y10 : L 10 = true := on_get hd (i := 10) (by rfl)
       refine AO.heq (H' := ((q0_0, (.map (encM Value.string eI64 (mput p0.f3 t5 (p0.f4.length : Int))))) :: (n8, (.mem (.ar 1 ((p0.f4 ++ ([p1] : List (List Bool))).map e98)))) :: (q0_2, (.mem (.ar 1 (p0.f5.f1.map e35)))) :: (q0, (.mem (.st [(4, (e121 p0.f0)), (1, (.fz 1 (p0.f1.map eI64))), (1, (.fz 1 (p0.f2.map eU8))), (1, (.mp q0_0)), (1, (.own n8 0 (p0.f4 ++ ([p1] : List (List Bool))).length)), (258, (.st [(256, (.ar 1 (p0.f5.f0.toList.map eU8))), (1, (.own q0_2 0 p0.f5.f1.length)), (1, (.own q0_3 0 p0.f5.f2.length))]))]))) :: ((σ 10), (.mem (.ar 1 ((p0.f5.f2 ++ ([t10] : List Int)).map eI64)))) :: T0)) (by first | rfl | simp only [hi, y10, cond_true, cond_false]) ?_
       refine AO.wK [67, 70] ?_
       refine AO.store (X' := (.st [(4, (e121 p0.f0)), (1, (.fz 1 (p0.f1.map eI64))), (1, (.fz 1 (p0.f2.map eU8))), (1, (.mp q0_0)), (1, (.own n8 0 (p0.f4 ++ ([p1] : List (List Bool))).length)), (258, (.st [(256, (.ar 1 (p0.f5.f0.toList.map eU8))), (1, (.own q0_2 0 p0.f5.f1.length)), (1, (.own (σ 10) 0 (p0.f5.f2 ++ ([t10] : List Int)).length))]))])) 3 rfl rfl rfl rfl rfl rfl (Put.cast (Put.fldS (Put.fldS (Put.fldS (Put.fldS (Put.fldS (Put.fld0 (Put.fldS (Put.fldS (Put.fld0 Put.here))))))))) rfl) rfl rfl sz35 rfl ?_
       have a10 : addL L 14 10 = true := y10
       have a14 : addL L 14 14 = true := rfl
       exact AO.n0 ⟨σ, (fun _ _ => rfl), (fun d' hd' => by cases hd'), Sub.of_eq (B := ((q0_0, (.map (encM Value.string eI64 (mput p0.f3 t5 (p0.f4.length : Int))))) :: (n8, (.mem (.ar 1 ((p0.f4 ++ ([p1] : List (List Bool))).map e98)))) :: (q0_2, (.mem (.ar 1 (p0.f5.f1.map e35)))) :: (q0, (.mem (.st [(4, (e121 p0.f0)), (1, (.fz 1 (p0.f1.map eI64))), (1, (.fz 1 (p0.f2.map eU8))), (1, (.mp q0_0)), (1, (.own n8 0 (p0.f4 ++ ([p1] : List (List Bool))).length)), (258, (.st [(256, (.ar 1 (p0.f5.f0.toList.map eU8))), (1, (.own q0_2 0 p0.f5.f1.length)), (1, (.own (σ 10) 0 (p0.f5.f2 ++ ([t10] : List Int)).length))]))]))) :: ((σ 10), (.mem (.ar 1 ((p0.f5.f2 ++ ([t10] : List Int)).map eI64)))) :: T0)) (by simp only [a10, a14, cond_true, cond_false]) (Sub.refl _)⟩
      ·generalize σ 10 = n13
       refine AO.nH [0] (H' := ((q0, (.mem (.st [(4, (e121 p0.f0)), (1, (.fz 1 (p0.f1.map eI64))), (1, (.fz 1 (p0.f2.map eU8))), (1, (.mp q0_0)), (1, (.own n8 0 (p0.f4 ++ ([p1] : List (List Bool))).length)), (258, (.st [(256, (.ar 1 (p0.f5.f0.toList.map eU8))), (1, (.own q0_2 0 p0.f5.f1.length)), (1, (.own n13 0 (p0.f5.f2 ++ ([t10] : List Int)).length))]))]))) :: (q0_0, (.map (encM Value.string eI64 (mput p0.f3 t5 (p0.f4.length : Int))))) :: (n8, (.mem (.ar 1 ((p0.f4 ++ ([p1] : List (List Bool))).map e98)))) :: (q0_2, (.mem (.ar 1 (p0.f5.f1.map e35)))) :: (n13, (.mem (.ar 1 ((p0.f5.f2 ++ ([t10] : List Int)).map eI64)))) :: T0)) (Sub.cons 3 rfl (Sub.cons 0 rfl (Sub.cons 0 rfl (Sub.cons 0 rfl (Sub.cons 0 rfl (Sub.refl _)))))) ?_
       refine AW.sr ?_
       refine AO.mv rfl rfl ?_
       refine AO.c (Calm.nilCheck rfl rfl) ?_
       refine AO.c (x := .ptr q0 7) (Calm.fldPtr rfl rfl Try.underlying156 rfl sz107 _ rfl) ?_
       refine AO.c (Calm.load 0 rfl rfl rfl (At.cast (At.fldS (At.fldS (At.fldS (At.fldS (At.fld0 At.here))))) rfl) ag107 sz107) ?_
       refine AO.c (Calm.lenOwn rfl rfl Try.underlying107) ?_
       refine AO.c (x := eI64 (w64 (((p0.f4 ++ ([p1] : List (List Bool))).length : Int) - (1 : Int)))) (Calm.int rfl rfl rfl rfl) ?_
       obtain ⟨x15, ex15, h⟩ := of_bind h
       refine AO.c (Calm.assign rfl (congrArg (fun x => some (eI64 x)) (Option.some.inj ex15))) ?_
       refine AO.nK [4] ?_
       refine AW.rK [4] ?_
       have hr := Option.some.inj h
       subst hr
       exact ⟨[(eI64 x15)], ⟨rfl, rfl, trivial⟩, q0_0, n8, q0_2, n13, rfl, (Sub.cons 0 rfl (Sub.cons 0 rfl (Sub.cons 0 rfl (Sub.cons 0 rfl (Sub.cons 0 rfl (Sub.refl _))))))⟩
end Go.Avl.T7
/- bosket/nfa.Move; printed by avmain.py. -/
namespace Go.Avl.T7
open Go Go.RowKit Go.Proofs Go.Avl
set_option linter.unusedVariables false
set_option maxRecDepth 100000
set_option maxHeartbeats 4000000
attribute [local irreducible] AW AO AQ Spec SpecH Calm

def F100_c0 (k : Nat) (x7 : (List Bool)) : Option (List Bool) :=
  some (x7)
def F100_c1 (k : Nat) (rec10 : ((List Bool) → Int → Option (List Bool))) (x9 : Int) (x13 : (List Bool)) : Option (List Bool) :=
  rec10 x13 (w64 (x9 + (1 : Int)))
def F100_l2 (k : Nat) (p0 : S121) (p1 : (List Bool)) (p2 : Int) : Nat → (List Bool) → Int → Option (List Bool)
  | 0, _, _ => none
  | j + 1, x8, x9 =>
    if x9 < (p0.f1.length : Int) then if 0 ≤ x9 ∧ x9 < (p0.f1.length : Int) then Option.bind (α := Bool) (if (!((lget p0.f1 x9).f3)) = true then if ((lget p0.f1 x9).f0) < (p1.length : Int) then if 0 ≤ ((lget p0.f1 x9).f0) ∧ ((lget p0.f1 x9).f0) < (p1.length : Int) then if (lget p1 ((lget p0.f1 x9).f0)) = true then (F125 k ((lget p0.f1 x9).f2) p2).bind fun t22 =>
    some (t22)
    else some (false)
    else none
    else some (false)
    else some (false)) fun b16 =>
    if b16 = true then if 0 ≤ ((lget p0.f1 x9).f1) ∧ ((lget p0.f1 x9).f1) < (x8.length : Int) then F100_c1 k (F100_l2 k p0 p1 p2 j) x9 (lset x8 ((lget p0.f1 x9).f1) true)
    else none
    else F100_c1 k (F100_l2 k p0 p1 p2 j) x9 x8
    else none
    else F100_c0 k x8
def F100 (k : Nat) (p0 : S121) (p1 : (List Bool)) (p2 : Int) : Option (List Bool) :=
  if 0 ≤ p0.f0 ∧ p0.f0 * (1 : Int) ≤ 140737488355328 ∧ p0.f0 ≤ 9223372036854775807 then F100_l2 k p0 p1 p2 k (List.replicate p0.f0.toNat false) (0 : Int)
  else none
theorem F100_spec {k : Nat} {p0 : S121} {p1 : (List Bool)} {p2 : Int} {r : (List Bool)} (h : F100 k p0 p1 p2 = some r) : Spec Try.prog 100 [(e121 p0), (.fz 1 (p1.map eBool)), (eU8 p2)] (e98 r) := by
  rw [F100.eq_1] at h
  refine Spec.intro (res := [.tmp 6]) Try.func100 rfl rfl rfl (Nat.le_of_ble_eq_true rfl) ?_
  refine AW.sr ?_
  refine AO.box rfl 3 rfl (by decide) rfl rfl rfl fun n4 => ?_
  refine AO.ag rfl rfl ?_
  refine AO.nK [1, 2, 3] ?_
  refine AW.sr ?_
  refine AO.c (x := .ptr n4 0) (Calm.fldPtr rfl rfl Try.underlying121 rfl sz3 _ rfl) ?_
  refine AO.c (Calm.load 0 rfl rfl rfl (At.cast (At.fld0 At.here) rfl) ag3 sz3) ?_
  obtain ⟨hg6, h⟩ := of_guard h
  refine AO.makeL (f := eBool) false rfl 12 rfl (by decide) rfl rfl rfl Try.underlying98 sz4 by4 zr4 lay4 rfl hg6 fun n5 => ?_
  refine AO.ag rfl rfl ?_
  refine AO.nH [1, 2, 3, 7] (H' := [(n4, (.mem (e121 p0))), (n5, (.mem (.ar 1 ((List.replicate p0.f0.toNat false).map eBool))))]) (Sub.cons 1 rfl (Sub.cons 0 rfl (Sub.nil _))) ?_
  refine AW.seq_mid (fun ρ H => ∃ (x7 : (List Bool)), ρ = [(7, (.own n5 0 x7.length))] ∧ H = [(n5, (.mem (.ar 1 (x7.map eBool))))] ∧ F100_c0 k x7 = some r) ?_ ?_
  ·refine AW.sr ?_
   refine AO.c (x := .ptr n4 1) (Calm.fldPtr rfl rfl Try.underlying121 rfl sz119 _ rfl) ?_
   refine AO.c (Calm.load 0 rfl rfl rfl (At.cast (At.fldS (At.fld0 At.here)) rfl) ag119 sz119) ?_
   refine AO.c (Calm.lenL rfl rfl Try.underlying119) ?_
   refine AO.mv rfl rfl ?_
   refine AO.nH [1, 2, 7, 14, 15, 16] (H' := [(n5, (.mem (.ar 1 ((List.replicate p0.f0.toNat false).map eBool))))]) (Sub.cons 1 rfl (Sub.nil _)) ?_
   refine AW.block ?_
   refine AW.wK [1, 2, 7, 14, 15, 16] ?_
   refine AW.loop (fun kq ρ H => ∃ (x8 : (List Bool)) (x9 : Int), ρ = [(1, (.fz 1 (p1.map eBool))), (2, (eU8 p2)), (7, (.own n5 0 x8.length)), (14, (.fz 7 (p0.f1.map e152))), (15, (eI64 (p0.f1.length : Int))), (16, (eI64 x9))] ∧ H = [(n5, (.mem (.ar 1 (x8.map eBool))))] ∧ F100_l2 k p0 p1 p2 kq x8 x9 = some r) k ⟨(List.replicate p0.f0.toNat false), (0 : Int), rfl, rfl, h⟩ ?_
   rintro kq11 _ _ ⟨x8, x9, rfl, rfl, h⟩
   cases kq11 with
   | zero => rw [F100_l2.eq_1] at h; cases h
   | succ kq11 =>
   rw [F100_l2.eq_2] at h
   generalize hrec10 : F100_l2 k p0 p1 p2 kq11 = rec10 at h
   refine AW.sr ?_
   refine AO.c (x := eBool (decide (x9 < (p0.f1.length : Int)))) (Calm.int rfl rfl rfl rfl) ?_
   refine AO.nK [1, 2, 7, 14, 15, 16, 17] ?_
   refine AW.seq ?_
   rcases of_ite h with ⟨hc12, h⟩ | ⟨hc12, h⟩
   ·refine AW.condP _ rfl hc12 ?_
    refine AW.sK [1, 2, 7, 14, 15, 16] ?_
    refine AW.seq_mid (fun ρ H => ∃ (x13 : (List Bool)), ρ = [(1, (.fz 1 (p1.map eBool))), (2, (eU8 p2)), (7, (.own n5 0 x13.length)), (14, (.fz 7 (p0.f1.map e152))), (15, (eI64 (p0.f1.length : Int))), (16, (eI64 x9))] ∧ H = [(n5, (.mem (.ar 1 (x13.map eBool))))] ∧ F100_c1 k rec10 x9 x13 = some r) ?_ ?_
    ·refine AW.block ?_
     refine AW.sr ?_
     obtain ⟨hg14, h⟩ := of_guard h
     refine AO.c (Calm.idxL (f := e152) rfl rfl rfl hg14 Try.underlying119 sz152) ?_
     refine AO.c (Calm.loadRp rfl rfl ag152 sz152) ?_
     refine AO.alloc rfl 9 rfl (by decide) rfl zr152 lay152 fun n15 => ?_
     refine AO.store (X' := (e152 (lget p0.f1 x9))) 0 rfl rfl rfl rfl rfl rfl (Put.cast Put.here rfl) rfl rfl sz152 rfl ?_
     refine AO.nH [1, 2, 7, 9, 14, 15, 16] (H' := [(n5, (.mem (.ar 1 (x8.map eBool)))), (n15, (.mem (e152 (lget p0.f1 x9))))]) (Sub.cons 1 rfl (Sub.cons 0 rfl (Sub.nil _))) ?_
     refine AW.seq ?_
     obtain ⟨b16, hq17, h⟩ := of_bind h
     refine AW.regM [(1, (.fz 1 (p1.map eBool))), (2, (eU8 p2)), (7, (.own n5 0 x8.length)), (9, (.ptr n15 0)), (14, (.fz 7 (p0.f1.map e152))), (15, (eI64 (p0.f1.length : Int))), (16, (eI64 x9)), (42, (eBool b16))] [(n5, (.mem (.ar 1 (x8.map eBool)))), (n15, (.mem (e152 (lget p0.f1 x9))))] ?_ ?_
     ·refine AO.c (x := .ptr n15 6) (Calm.fldPtr rfl rfl Try.underlying152 rfl sz4 _ rfl) ?_
      refine AO.c (Calm.load 1 rfl rfl rfl (At.cast (At.fldS (At.fldS (At.fldS (At.fld0 At.here)))) rfl) ag4 sz4) ?_
      refine AO.c (Calm.not rfl rfl) ?_
      refine AO.mv rfl rfl ?_
      rcases of_ite hq17 with ⟨hc18, hq17⟩ | ⟨hc18, hq17⟩
      ·refine AO.cG (x := .ptr n15 0) rfl rfl (bD hc18) (Calm.fldPtr rfl rfl Try.underlying152 rfl sz3 _ rfl) ?_
       refine AO.cG rfl rfl (bD hc18) (Calm.load 1 rfl rfl rfl (At.cast (At.fld0 At.here) rfl) ag3 sz3) ?_
       refine AO.cG rfl rfl (bD hc18) (Calm.move rfl rfl) ?_
       refine AO.cG rfl rfl (bD hc18) (Calm.lenL rfl rfl Try.underlying98) ?_
       refine AO.cG (x := eBool (decide (((lget p0.f1 x9).f0) < (p1.length : Int)))) rfl rfl (bD hc18) (Calm.int rfl rfl rfl rfl) ?_
       refine AO.c (Calm.pickT rfl (bD hc18) rfl) ?_
       refine AO.mv rfl rfl ?_
       rcases of_ite hq17 with ⟨hc19, hq17⟩ | ⟨hc19, hq17⟩
       ·refine AO.cG rfl rfl (bD (decide_eq_true hc19)) (Calm.move rfl rfl) ?_
        refine AO.cG (x := .ptr n15 0) rfl rfl (bD (decide_eq_true hc19)) (Calm.fldPtr rfl rfl Try.underlying152 rfl sz3 _ rfl) ?_
        refine AO.cG rfl rfl (bD (decide_eq_true hc19)) (Calm.load 1 rfl rfl rfl (At.cast (At.fld0 At.here) rfl) ag3 sz3) ?_
        obtain ⟨hg20, hq17⟩ := of_guard hq17
        refine AO.cG rfl rfl (bD (decide_eq_true hc19)) (Calm.idxL (f := eBool) rfl rfl rfl hg20 Try.underlying98 sz4) ?_
        refine AO.cG rfl rfl (bD (decide_eq_true hc19)) (Calm.loadRp rfl rfl ag4 sz4) ?_
        refine AO.c (Calm.pickT rfl (bD (decide_eq_true hc19)) rfl) ?_
        refine AO.mv rfl rfl ?_
        rcases of_ite hq17 with ⟨hc21, hq17⟩ | ⟨hc21, hq17⟩
        ·refine AO.cG (x := .ptr n15 2) rfl rfl (bD hc21) (Calm.fldPtr rfl rfl Try.underlying152 rfl sz62 _ rfl) ?_
         refine AO.cG rfl rfl (bD hc21) (Calm.load 1 rfl rfl rfl (At.cast (At.fldS (At.fldS (At.fld0 At.here))) rfl) ag62 (by rw [sz62]; simp [AV.size])) ?_
         refine AO.cG rfl rfl (bD hc21) (Calm.move rfl rfl) ?_
         obtain ⟨t22, et22, hq17⟩ := of_bind hq17
         refine AO.callG 17 true 37 [(.ar 1 (((lget p0.f1 x9).f2).toList.map eU64)), (eU8 p2)] (eBool t22) 41 rfl (by decide) ok125 rfl rfl (bD hc21) rfl rfl ⟨rfl, rfl, rfl, rfl, trivial⟩ (F125_spec et22) ?_
         refine AO.c (Calm.pickT rfl (bD hc21) rfl) ?_
         cases hq17
         refine AO.nilE ⟨rfl, rfl⟩ ?_ ?_
         · exact ⟨rfl, rfl, rfl, rfl, rfl, rfl, rfl, rfl, trivial⟩
         · exact (Sub.refl _)
        ·refine AO.sT rfl rfl (bD (eq_false_of_ne_true hc21)) ?_
         refine AO.sT rfl rfl (bD (eq_false_of_ne_true hc21)) ?_
         refine AO.sT rfl rfl (bD (eq_false_of_ne_true hc21)) ?_
         refine AO.sT rfl rfl (bD (eq_false_of_ne_true hc21)) ?_
         refine AO.c (Calm.pickF rfl (bD (eq_false_of_ne_true hc21)) rfl) ?_
         cases hq17
         refine AO.nilE ⟨rfl, rfl⟩ ?_ ?_
         · exact ⟨rfl, rfl, rfl, rfl, rfl, rfl, rfl, rfl, trivial⟩
         · exact (Sub.refl _)
       ·refine AO.sT rfl rfl (bD (decide_eq_false hc19)) ?_
        refine AO.sT rfl rfl (bD (decide_eq_false hc19)) ?_
        refine AO.sT rfl rfl (bD (decide_eq_false hc19)) ?_
        refine AO.sT rfl rfl (bD (decide_eq_false hc19)) ?_
        refine AO.sT rfl rfl (bD (decide_eq_false hc19)) ?_
        refine AO.c (Calm.pickF rfl (bD (decide_eq_false hc19)) rfl) ?_
        refine AO.mv rfl rfl ?_
        refine AO.sT rfl rfl rfl ?_
        refine AO.sT rfl rfl rfl ?_
        refine AO.sT rfl rfl rfl ?_
        refine AO.sT rfl rfl rfl ?_
        refine AO.c (Calm.pickF rfl rfl rfl) ?_
        cases hq17
        refine AO.nilE ⟨rfl, rfl⟩ ?_ ?_
        · exact ⟨rfl, rfl, rfl, rfl, rfl, rfl, rfl, rfl, trivial⟩
        · exact (Sub.refl _)
      ·refine AO.sT rfl rfl (bD (eq_false_of_ne_true hc18)) ?_
       refine AO.sT rfl rfl (bD (eq_false_of_ne_true hc18)) ?_
       refine AO.sT rfl rfl (bD (eq_false_of_ne_true hc18)) ?_
       refine AO.sT rfl rfl (bD (eq_false_of_ne_true hc18)) ?_
       refine AO.sT rfl rfl (bD (eq_false_of_ne_true hc18)) ?_
       refine AO.c (Calm.pickF rfl (bD (eq_false_of_ne_true hc18)) rfl) ?_
       refine AO.mv rfl rfl ?_
       refine AO.sT rfl rfl rfl ?_
       refine AO.sT rfl rfl rfl ?_
       refine AO.sT rfl rfl rfl ?_
       refine AO.sT rfl rfl rfl ?_
       refine AO.sT rfl rfl rfl ?_
       refine AO.c (Calm.pickF rfl rfl rfl) ?_
       refine AO.mv rfl rfl ?_
       refine AO.sT rfl rfl rfl ?_
       refine AO.sT rfl rfl rfl ?_
       refine AO.sT rfl rfl rfl ?_
       refine AO.sT rfl rfl rfl ?_
       refine AO.c (Calm.pickF rfl rfl rfl) ?_
       cases hq17
       refine AO.nilE ⟨rfl, rfl⟩ ?_ ?_
       · exact ⟨rfl, rfl, rfl, rfl, rfl, rfl, rfl, rfl, trivial⟩
       · exact (Sub.refl _)
     ·rcases of_ite h with ⟨hc23, h⟩ | ⟨hc23, h⟩
      ·refine AW.condT' _ rfl hc23 ?_
       refine AW.reg ?_
       refine AO.mv rfl rfl ?_
       refine AO.c (x := .ptr n15 1) (Calm.fldPtr rfl rfl Try.underlying152 rfl sz3 _ rfl) ?_
       refine AO.c (Calm.load 1 rfl rfl rfl (At.cast (At.fldS (At.fld0 At.here)) rfl) ag3 sz3) ?_
       obtain ⟨hg24, h⟩ := of_guard h
       refine AO.c (Calm.idxO 0 rfl rfl rfl rfl hg24 Try.underlying98 sz4) ?_
       refine AO.store (X' := (.ar 1 ((lset x8 ((lget p0.f1 x9).f1) true).map eBool))) 0 rfl rfl rfl rfl rfl rfl (Put.cast (Put.lidx ((lget p0.f1 x9).f1) true hg24.1 hg24.2 Put.here) (by omega)) rfl rfl sz4 rfl ?_
       refine AO.coe 7 (y' := (.own n5 0 (lset x8 ((lget p0.f1 x9).f1) true).length)) rfl (fun _ _ h => lset_own h) ?_
       refine AO.coe 43 (y' := (.own n5 0 (lset x8 ((lget p0.f1 x9).f1) true).length)) rfl (fun _ _ h => lset_own h) ?_
       refine AO.nH [1, 2, 7, 14, 15, 16] (H' := [(n5, (.mem (.ar 1 ((lset x8 ((lget p0.f1 x9).f1) true).map eBool))))]) (Sub.cons 0 rfl (Sub.nil _)) ?_
       exact ⟨(lset x8 ((lget p0.f1 x9).f1) true), rfl, rfl, h⟩
      ·refine AW.condF' _ rfl hc23 ?_
       refine AW.sH [1, 2, 7, 14, 15, 16] (H' := [(n5, (.mem (.ar 1 (x8.map eBool))))]) (Sub.cons 0 rfl (Sub.nil _)) ?_
       exact ⟨x8, rfl, rfl, h⟩
    ·rintro _ _ ⟨x13, rfl, rfl, h⟩
     rw [F100_c1.eq_1] at h
     refine AW.reg ?_
     refine AO.c (x := eI64 (w64 (x9 + (1 : Int)))) (Calm.int rfl rfl rfl rfl) ?_
     refine AO.mv rfl rfl ?_
     refine AO.nK [1, 2, 7, 14, 15, 16] ?_
     exact ⟨kq11, Nat.lt_succ_self _, x13, (w64 (x9 + (1 : Int))), rfl, rfl, by rw [hrec10]; exact h⟩
   ·refine AW.condN _ rfl hc12 ?_
    refine AW.eK [7] ?_
    exact ⟨x8, rfl, rfl, h⟩
  ·rintro _ _ ⟨x7, rfl, rfl, h⟩
   rw [F100_c0.eq_1] at h
   refine AW.sr ?_
   refine AO.mv rfl rfl ?_
   refine AO.ag rfl rfl ?_
   refine AO.nK [6] ?_
   refine AW.freezeS 0 [(6, (.fz 1 (x7.map eBool)))] rfl ⟨fz_all rfl, trivial⟩ ?_
   refine AW.rK [6] ?_
   have hr := Option.some.inj h
   subst hr
   exact ⟨[(.fz 1 (x7.map eBool))], ⟨rfl, rfl, trivial⟩, rfl⟩
end Go.Avl.T7
