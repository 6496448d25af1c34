/- Parts: T3f60, T3f33, T3f30, T3f8. -/
import Derived.Test.YtcdennkoccjacaaAF1
import Derived.Test.YtcdennkoccjacaaAF4
import Derived.Test.YtcdennkoccjacaaAF2
import Derived.Test.YtcdennkoccjacaaAF3
/- bosket/bosketref04.ends, bosket/bosketref04.again; printed by avmain.py. -/
namespace Go.Avl.T3
open Go Go.RowKit Go.Proofs Go.Avl
set_option linter.unusedVariables false
set_option maxRecDepth 100000
set_option maxHeartbeats 4000000
set_option linter.unusedSimpArgs false
attribute [local irreducible] AW AO AQ Spec SpecH Calm

def bosketref04_ends_c0 (k : Nat) (self60 : ((List S82) → ByteArray → (List Bool) → Option (List Bool))) (self74 : ((List S82) → ByteArray → (List Bool) → Option (List Bool))) (p0 : (List S82)) (p1 : ByteArray) (p2 : (List Bool)) (t6 : (List (List S82))) : Option (List Bool) :=
  if 0 ≤ (w64 ((p0.length : Int) - (1 : Int))) ∧ (w64 ((p0.length : Int) - (1 : Int))) < (p0.length : Int) then if ((lget p0 (w64 ((p0.length : Int) - (1 : Int)))).f0) = (4 : Int) then if 0 ≤ (0 : Int) ∧ (0 : Int) < (t6.length : Int) then (self74 (lget t6 (0 : Int)) p1 p2).bind fun t10 =>
  some (t10)
  else none
  else if 0 ≤ (0 : Int) ∧ (0 : Int) < (t6.length : Int) then if 0 ≤ (0 : Int) ∧ (0 : Int) < (t6.length : Int) then (self60 (lget t6 (0 : Int)) p1 p2).bind fun t13 =>
  (self74 (lget t6 (0 : Int)) p1 t13).bind fun t14 =>
  some (t14)
  else none
  else none
  else none
def bosketref04_ends_c1 (k : Nat) (x18 : (List Bool)) : Option (List Bool) :=
  some (x18)
def bosketref04_ends_c2 (k : Nat) (rec21 : ((List Bool) → Int → Option (List Bool))) (x20 : Int) (x24 : (List Bool)) : Option (List Bool) :=
  rec21 x24 (w64 (x20 + (1 : Int)))
def bosketref04_ends_l3 (k : Nat) (p0 : (List S82)) (p1 : ByteArray) (p2 : (List Bool)) : Nat → (List Bool) → Int → Option (List Bool)
  | 0, _, _ => none
  | j + 1, x19, x20 =>
    if x20 < (p1.size : Int) then if 0 ≤ x20 ∧ x20 < (p2.length : Int) then if (lget p2 x20) = true then if 0 ≤ (w64 ((p0.length : Int) - (1 : Int))) ∧ (w64 ((p0.length : Int) - (1 : Int))) < (p0.length : Int) then if 0 ≤ x20 ∧ x20 < (p1.size : Int) then (bosketref02_Has k ((lget p0 (w64 ((p0.length : Int) - (1 : Int)))).f1) (w64 (byteAt p1 x20))).bind fun t29 =>
    if 0 ≤ (w64 (x20 + (1 : Int))) ∧ (w64 (x20 + (1 : Int))) < (x19.length : Int) then bosketref04_ends_c2 k (bosketref04_ends_l3 k p0 p1 p2 j) x20 (lset x19 (w64 (x20 + (1 : Int))) t29)
    else none
    else none
    else none
    else if 0 ≤ (w64 (x20 + (1 : Int))) ∧ (w64 (x20 + (1 : Int))) < (x19.length : Int) then bosketref04_ends_c2 k (bosketref04_ends_l3 k p0 p1 p2 j) x20 (lset x19 (w64 (x20 + (1 : Int))) false)
    else none
    else none
    else bosketref04_ends_c1 k x19
def bosketref04_again_c0 (k : Nat) (x4 : (List Bool)) : Option (List Bool) :=
  some (x4)
def bosketref04_again_c1 (k : Nat) (rec7 : ((List Bool) → Int → Option (List Bool))) (x6 : Int) (x10 : (List Bool)) : Option (List Bool) :=
  rec7 x10 (w64 (x6 + (1 : Int)))
def bosketref04_again_c2 (k : Nat) (rec7 : ((List Bool) → Int → Option (List Bool))) (x6 : Int) (t12 : (List Bool)) (b13 : Bool) : Option (List Bool) :=
  if b13 = true then some (t12)
  else bosketref04_again_c1 k rec7 x6 t12
def bosketref04_again_l3 (k : Nat) (rec7 : ((List Bool) → Int → Option (List Bool))) (x5 : (List Bool)) (x6 : Int) (t12 : (List Bool)) : Nat → Bool → Int → Option (List Bool)
  | 0, _, _ => none
  | j + 1, b15, x16 =>
    if x16 < (t12.length : Int) then Option.bind (α := Bool) (if b15 = true then if 0 ≤ x16 ∧ x16 < (t12.length : Int) then if 0 ≤ x16 ∧ x16 < (x5.length : Int) then some (((lget t12 x16) == (lget x5 x16)))
    else none
    else none
    else some (false)) fun b20 =>
    (bosketref04_again_l3 k rec7 x5 x6 t12 j) b20 (w64 (x16 + (1 : Int)))
    else bosketref04_again_c2 k rec7 x6 t12 b15
def bosketref04_again_l4 (k : Nat) (self60 : ((List S82) → ByteArray → (List Bool) → Option (List Bool))) (p0 : (List S82)) (p1 : ByteArray) : Nat → (List Bool) → Int → Option (List Bool)
  | 0, _, _ => none
  | j + 1, x5, x6 =>
    if x6 ≤ (p1.size : Int) then (self60 p0 p1 x5).bind fun t11 =>
    (bosketref04_or k x5 t11).bind fun t12 =>
    bosketref04_again_l3 k (bosketref04_again_l4 k self60 p0 p1 j) x5 x6 t12 k true (0 : Int)
    else bosketref04_again_c0 k x5
mutual
def bosketref04_ends_r (k : Nat) : Nat → (List S82) → ByteArray → (List Bool) → Option (List Bool)
  | 0, _, _, _ => none
  | j + 1, p0, p1, p2 =>
    if 0 ≤ (p2.length : Int) ∧ (p2.length : Int) * (1 : Int) ≤ 140737488355328 ∧ (p2.length : Int) ≤ 9223372036854775807 then (bosketref04_Parts k p0).bind fun t6 =>
    if 0 ≤ (w64 ((p0.length : Int) - (1 : Int))) ∧ (w64 ((p0.length : Int) - (1 : Int))) < (p0.length : Int) then if ((lget p0 (w64 ((p0.length : Int) - (1 : Int)))).f0) = (0 : Int) then some (p2)
    else if ((lget p0 (w64 ((p0.length : Int) - (1 : Int)))).f0) = (1 : Int) then bosketref04_ends_l3 k p0 p1 p2 k (List.replicate (p2.length : Int).toNat false) (0 : Int)
    else if ((lget p0 (w64 ((p0.length : Int) - (1 : Int)))).f0) = (2 : Int) then if 0 ≤ (1 : Int) ∧ (1 : Int) < (t6.length : Int) then if 0 ≤ (0 : Int) ∧ (0 : Int) < (t6.length : Int) then ((bosketref04_ends_r k j) (lget t6 (0 : Int)) p1 p2).bind fun t35 =>
    ((bosketref04_ends_r k j) (lget t6 (1 : Int)) p1 t35).bind fun t36 =>
    some (t36)
    else none
    else none
    else if ((lget p0 (w64 ((p0.length : Int) - (1 : Int)))).f0) = (3 : Int) then if 0 ≤ (0 : Int) ∧ (0 : Int) < (t6.length : Int) then ((bosketref04_ends_r k j) (lget t6 (0 : Int)) p1 p2).bind fun t39 =>
    if 0 ≤ (1 : Int) ∧ (1 : Int) < (t6.length : Int) then ((bosketref04_ends_r k j) (lget t6 (1 : Int)) p1 p2).bind fun t41 =>
    (bosketref04_or k t39 t41).bind fun t42 =>
    some (t42)
    else none
    else none
    else if ((lget p0 (w64 ((p0.length : Int) - (1 : Int)))).f0) = (6 : Int) then if 0 ≤ (0 : Int) ∧ (0 : Int) < (t6.length : Int) then ((bosketref04_ends_r k j) (lget t6 (0 : Int)) p1 p2).bind fun t45 =>
    (bosketref04_or k p2 t45).bind fun t46 =>
    some (t46)
    else none
    else bosketref04_ends_c0 k (bosketref04_ends_r k j) (bosketref04_again_r k j) p0 p1 p2 t6
    else none
    else none
def bosketref04_again_r (k : Nat) : Nat → (List S82) → ByteArray → (List Bool) → Option (List Bool)
  | 0, _, _, _ => none
  | j + 1, p0, p1, p2 =>
    bosketref04_again_l4 k (bosketref04_ends_r k j) p0 p1 k p2 (0 : Int)
end
def bosketref04_ends (k : Nat) (p0 : (List S82)) (p1 : ByteArray) (p2 : (List Bool)) : Option (List Bool) := bosketref04_ends_r k k p0 p1 p2
theorem bosketref04_ends_all (k : Nat) : ∀ j : Nat, (∀ (p0 : (List S82)) (p1 : ByteArray) (p2 : (List Bool)) (r : (List Bool)), bosketref04_ends_r k j p0 p1 p2 = some r → Spec Try.prog 60 [(.fz 5 (p0.map e82)), (eStr p1), (.fz 1 (p2.map eBool))] (e25 r)) ∧ (∀ (p0 : (List S82)) (p1 : ByteArray) (p2 : (List Bool)) (r : (List Bool)), bosketref04_again_r k j p0 p1 p2 = some r → Spec Try.prog 74 [(.fz 5 (p0.map e82)), (eStr p1), (.fz 1 (p2.map eBool))] (e25 r)) := by
  intro j
  induction j with
  | zero => exact ⟨(by intro p0 p1 p2 r h; rw [bosketref04_ends_r.eq_1] at h; cases h), (by intro p0 p1 p2 r h; rw [bosketref04_again_r.eq_1] at h; cases h)⟩
  | succ j hself =>
  obtain ⟨hself60, hself74⟩ := hself
  refine ⟨?_, ?_⟩
  ·intro p0 p1 p2 r h
   rw [bosketref04_ends_r.eq_2] at h
   generalize hsself60 : bosketref04_ends_r k j = self60 at h hself60
   generalize hsself74 : bosketref04_again_r k j = self74 at h hself74
   refine Spec.intro (res := [.tmp 6]) Try.func60 rfl rfl rfl (Nat.le_of_ble_eq_true rfl) ?_
   refine AW.sr ?_
   refine AO.c (Calm.assign rfl rfl) ?_
   refine AO.nK [0, 1, 2] ?_
   refine AW.sr ?_
   refine AO.c (Calm.move rfl rfl) ?_
   refine AO.c (Calm.lenL rfl rfl Try.underlying25) ?_
   obtain ⟨hg5, h⟩ := of_guard h
   refine AO.makeL (f := eBool) false rfl 12 rfl (by decide) rfl rfl rfl Try.underlying25 sz4 by4 zr4 lay4 rfl hg5 fun n4 => ?_
   refine AO.c (Calm.assign rfl rfl) ?_
   refine AO.nK [0, 1, 2, 7] ?_
   refine AW.sr ?_
   refine AO.c (Calm.move rfl rfl) ?_
   obtain ⟨t6, et6, h⟩ := of_bind h
   refine AO.callS [(.fz 5 (p0.map e82))] (.fz 1 (t6.map e58)) 14 rfl (by decide) ok62 rfl rfl rfl ⟨rfl, rfl, trivial⟩ (bosketref04_Parts_spec et6) ?_
   refine AO.c (Calm.assign rfl rfl) ?_
   refine AO.nK [0, 1, 2, 7, 8] ?_
   refine AW.seq_mid (fun ρ H => ρ = [(0, (.fz 5 (p0.map e82))), (1, (eStr p1)), (2, (.fz 1 (p2.map eBool))), (8, (.fz 1 (t6.map e58)))] ∧ H = [] ∧ bosketref04_ends_c0 k self60 self74 p0 p1 p2 t6 = some r) ?_ ?_
   ·refine AW.sr ?_
    refine AO.c (Calm.move rfl rfl) ?_
    refine AO.c (Calm.move rfl rfl) ?_
    refine AO.c (Calm.lenL rfl rfl Try.underlying58) ?_
    refine AO.c (x := eI64 (w64 ((p0.length : Int) - (1 : Int)))) (Calm.int rfl rfl rfl rfl) ?_
    obtain ⟨hg15, h⟩ := of_guard h
    refine AO.c (Calm.idxL (f := e82) rfl rfl rfl hg15 Try.underlying58 sz82) ?_
    refine AO.c (Calm.fldRp rfl rfl Try.underlying82 rfl sz3 (At.cast (At.fld0 At.here) rfl)) ?_
    refine AO.c (Calm.loadRp rfl rfl ag3 sz3) ?_
    refine AO.nK [0, 1, 2, 7, 8, 21] ?_
    refine AW.block ?_
    refine AW.sr ?_
    refine AO.c (x := eBool (decide (((lget p0 (w64 ((p0.length : Int) - (1 : Int)))).f0) = (0 : Int)))) (Calm.int rfl rfl rfl rfl) ?_
    refine AO.c (Calm.assign rfl rfl) ?_
    refine AO.nK [0, 1, 2, 7, 8, 21, 22] ?_
    rcases of_ite h with ⟨hc16, h⟩ | ⟨hc16, h⟩
    ·refine AW.condP _ rfl hc16 ?_
     refine AW.sr ?_
     refine AO.c (Calm.move rfl rfl) ?_
     refine AO.c (Calm.assign rfl rfl) ?_
     refine AO.nH [6] (H' := []) (Sub.nil _) ?_
     refine AW.rK [6] ?_
     have hr := Option.some.inj h
     subst hr
     exact ⟨[(.fz 1 (p2.map eBool))], ⟨rfl, rfl, trivial⟩, rfl⟩
    ·refine AW.condN _ rfl hc16 ?_
     refine AW.sr ?_
     refine AO.c (x := eBool (decide (((lget p0 (w64 ((p0.length : Int) - (1 : Int)))).f0) = (1 : Int)))) (Calm.int rfl rfl rfl rfl) ?_
     refine AO.c (Calm.assign rfl rfl) ?_
     refine AO.nK [0, 1, 2, 7, 8, 21, 25] ?_
     rcases of_ite h with ⟨hc17, h⟩ | ⟨hc17, h⟩
     ·refine AW.condP _ rfl hc17 ?_
      refine AW.seq_mid (fun ρ H => ∃ (x18 : (List Bool)), ρ = [(7, (.own n4 0 x18.length))] ∧ H = [(n4, (.mem (.ar 1 (x18.map eBool))))] ∧ bosketref04_ends_c1 k x18 = some r) ?_ ?_
      ·refine AW.sr ?_
       refine AO.c (Calm.assign rfl rfl) ?_
       refine AO.nK [0, 1, 2, 7, 9] ?_
       refine AW.block ?_
       refine AW.wK [0, 1, 2, 7, 9] ?_
       refine AW.loop (fun kq ρ H => ∃ (x19 : (List Bool)) (x20 : Int), ρ = [(0, (.fz 5 (p0.map e82))), (1, (eStr p1)), (2, (.fz 1 (p2.map eBool))), (7, (.own n4 0 x19.length)), (9, (eI64 x20))] ∧ H = [(n4, (.mem (.ar 1 (x19.map eBool))))] ∧ bosketref04_ends_l3 k p0 p1 p2 kq x19 x20 = some r) k ⟨(List.replicate (p2.length : Int).toNat false), (0 : Int), rfl, rfl, h⟩ ?_
       rintro kq22 _ _ ⟨x19, x20, rfl, rfl, h⟩
       cases kq22 with
       | zero => rw [bosketref04_ends_l3.eq_1] at h; cases h
       | succ kq22 =>
       rw [bosketref04_ends_l3.eq_2] at h
       generalize hrec21 : bosketref04_ends_l3 k p0 p1 p2 kq22 = rec21 at h
       refine AW.seq ?_
       refine AW.sr ?_
       refine AO.c (Calm.move rfl rfl) ?_
       refine AO.c (Calm.move rfl rfl) ?_
       refine AO.c (Calm.lenStr rfl rfl Try.underlying9) ?_
       refine AO.c (x := eBool (decide (x20 < (p1.size : Int)))) (Calm.int rfl rfl rfl rfl) ?_
       refine AO.nK [0, 1, 2, 7, 9, 30] ?_
       rcases of_ite h with ⟨hc23, h⟩ | ⟨hc23, h⟩
       ·refine AW.condP _ rfl hc23 ?_
        refine AW.sK [0, 1, 2, 7, 9] ?_
        refine AW.seq_mid (fun ρ H => ∃ (x24 : (List Bool)), ρ = [(0, (.fz 5 (p0.map e82))), (1, (eStr p1)), (2, (.fz 1 (p2.map eBool))), (7, (.own n4 0 x24.length)), (9, (eI64 x20))] ∧ H = [(n4, (.mem (.ar 1 (x24.map eBool))))] ∧ bosketref04_ends_c2 k rec21 x20 x24 = some r) ?_ ?_
        ·refine AW.block ?_
         obtain ⟨hg25, h⟩ := of_guard h
         rcases of_ite h with ⟨hc26, h⟩ | ⟨hc26, h⟩
         ·obtain ⟨hg27, h⟩ := of_guard h
          obtain ⟨hg28, h⟩ := of_guard h
          obtain ⟨t29, et29, h⟩ := of_bind h
          obtain ⟨hg30, h⟩ := of_guard h
          refine AW.regEff (by rfl) (by decide +kernel) (fun (σ : Nat → Nat) => ([(.own n4 0 x19.length), (eI64 x20), (eI64 (w64 (x20 + (1 : Int)))), (.fz 1 (p2.map eBool)), (eI64 x20), (.rp (eBool (lget p2 x20))), (eBool (lget p2 x20)), (eBool (lget p2 x20)), (.fz 5 (p0.map e82)), (.fz 5 (p0.map e82)), (eI64 (p0.length : Int)), (eI64 (w64 ((p0.length : Int) - (1 : Int)))), (.rp (e82 (lget p0 (w64 ((p0.length : Int) - (1 : Int)))))), (.rp (.ar 1 (((lget p0 (w64 ((p0.length : Int) - (1 : Int)))).f1).toList.map eU64))), (.ar 1 (((lget p0 (w64 ((p0.length : Int) - (1 : Int)))).f1).toList.map eU64)), (eStr p1), (eI64 x20), (eU8 (byteAt p1 x20)), (eI64 (w64 (byteAt p1 x20))), (eBool t29), (eBool t29), (.ptr n4 ((w64 (x20 + (1 : Int))).toNat * 1 + 0)), (.fl undef)] : List AV)) (fun (L : Nat → Bool) (σ : Nat → Nat) => ((bif L 22 then ((n4, (.mem (.ar 1 ((lset x19 (w64 (x20 + (1 : Int))) t29).map eBool)))) :: []) else ((n4, (.mem (.ar 1 (x19.map eBool)))) :: [])) : Heap)) [(0, (.fz 5 (p0.map e82))), (1, (eStr p1)), (2, (.fz 1 (p2.map eBool))), (7, (.own n4 0 x19.length)), (9, (eI64 x20))] ⟨rfl, rfl, rfl, rfl, rfl, trivial⟩ (fun _ => rfl) (fun σ => (Sub.refl _)) ⟨?_, ?_, ?_, ?_, ?_, ?_, ?_, ?_, ?_, ?_, ?_, ?_, ?_, ?_, ?_, ?_, ?_, ?_, ?_, ?_, ?_, ?_, ?_, trivial⟩ (fun σ => [(0, (.fz 5 (p0.map e82))), (1, (eStr p1)), (2, (.fz 1 (p2.map eBool))), (7, (.own n4 0 x19.length)), (9, (eI64 x20))]) (fun σ => ((n4, (.mem (.ar 1 ((lset x19 (w64 (x20 + (1 : Int))) t29).map eBool)))) :: [])) (fun σ => ⟨rfl, rfl, rfl, rfl, rfl, trivial⟩) (fun σ => Sub.refl _) (fun σ => ?_)
          ·refine StepE.calm (fun _ _ => rfl) fun L σ hc hi hd => ?_
           have m22 : L 22 = false := hc.neg (i := 0) (j := 22) rfl (by rfl) hi
           refine AO.heq (H' := ((n4, (.mem (.ar 1 (x19.map eBool)))) :: [])) (by first | rfl | simp only [m22, cond_true, cond_false]) ?_
           refine AO.wK [7] ?_
           refine AO.c (Calm.move rfl rfl) ?_
           exact AO.nE (d := 33) rfl ⟨⟨33, _, rfl, rfl, rfl⟩, Sub.of_eq (by first | rfl | simp only [m22, cond_true, cond_false]) (Sub.refl _)⟩
          ·refine StepE.calm (fun _ _ => rfl) fun L σ hc hi hd => ?_
           refine AO.wK [9] ?_
           refine AO.c (Calm.move rfl rfl) ?_
           exact AO.nE (d := 34) rfl ⟨⟨34, _, rfl, rfl, rfl⟩, Sub.refl _⟩
          ·refine StepE.calm (fun _ _ => rfl) fun L σ hc hi hd => ?_
           refine AO.wK [34] ?_
           refine AO.c (x := eI64 (w64 (x20 + (1 : Int)))) (Calm.int rfl rfl rfl rfl) ?_
           exact AO.nE (d := 35) rfl ⟨⟨35, _, rfl, rfl, rfl⟩, Sub.refl _⟩
          ·refine StepE.calm (fun _ _ => rfl) fun L σ hc hi hd => ?_
           refine AO.wK [2] ?_
           refine AO.c (Calm.move rfl rfl) ?_
           exact AO.nE (d := 36) rfl ⟨⟨36, _, rfl, rfl, rfl⟩, Sub.refl _⟩
          ·refine StepE.calm (fun _ _ => rfl) fun L σ hc hi hd => ?_
           refine AO.wK [9] ?_
           refine AO.c (Calm.move rfl rfl) ?_
           exact AO.nE (d := 37) rfl ⟨⟨37, _, rfl, rfl, rfl⟩, Sub.refl _⟩
          ·refine StepE.calm (fun _ _ => rfl) fun L σ hc hi hd => ?_
           refine AO.wK [36, 37] ?_
           refine AO.c (Calm.idxL (f := eBool) rfl rfl rfl hg25 Try.underlying25 sz4) ?_
           exact AO.nE (d := 38) rfl ⟨⟨38, _, rfl, rfl, rfl⟩, Sub.refl _⟩
          ·refine StepE.calm (fun _ _ => rfl) fun L σ hc hi hd => ?_
           refine AO.wK [38] ?_
           refine AO.c (Calm.loadRp rfl rfl ag4 sz4) ?_
           exact AO.nE (d := 39) rfl ⟨⟨39, _, rfl, rfl, rfl⟩, Sub.refl _⟩
          ·refine StepE.calm (fun _ _ => rfl) fun L σ hc hi hd => ?_
           refine AO.wK [39] ?_
           refine AO.c (Calm.move rfl rfl) ?_
           exact AO.nE (d := 40) rfl ⟨⟨40, _, rfl, rfl, rfl⟩, Sub.refl _⟩
          ·refine StepE.calm (fun _ _ => rfl) fun L σ hc hi hd => ?_
           refine AO.wK [0, 40] ?_
           refine AO.cG rfl rfl (bD hc26) (Calm.move rfl rfl) ?_
           exact AO.nE (d := 41) rfl ⟨⟨41, _, rfl, rfl, rfl⟩, Sub.refl _⟩
          ·refine StepE.calm (fun _ _ => rfl) fun L σ hc hi hd => ?_
           refine AO.wK [0, 40] ?_
           refine AO.cG rfl rfl (bD hc26) (Calm.move rfl rfl) ?_
           exact AO.nE (d := 42) rfl ⟨⟨42, _, rfl, rfl, rfl⟩, Sub.refl _⟩
          ·refine StepE.calm (fun _ _ => rfl) fun L σ hc hi hd => ?_
           refine AO.wK [40, 42] ?_
           refine AO.cG rfl rfl (bD hc26) (Calm.lenL rfl rfl Try.underlying58) ?_
           exact AO.nE (d := 43) rfl ⟨⟨43, _, rfl, rfl, rfl⟩, Sub.refl _⟩
          ·refine StepE.calm (fun _ _ => rfl) fun L σ hc hi hd => ?_
           refine AO.wK [40, 43] ?_
           refine AO.cG (x := eI64 (w64 ((p0.length : Int) - (1 : Int)))) rfl rfl (bD hc26) (Calm.int rfl rfl rfl rfl) ?_
           exact AO.nE (d := 44) rfl ⟨⟨44, _, rfl, rfl, rfl⟩, Sub.refl _⟩
          ·refine StepE.calm (fun _ _ => rfl) fun L σ hc hi hd => ?_
           refine AO.wK [40, 41, 44] ?_
           refine AO.cG rfl rfl (bD hc26) (Calm.idxL (f := e82) rfl rfl rfl hg27 Try.underlying58 sz82) ?_
           exact AO.nE (d := 45) rfl ⟨⟨45, _, rfl, rfl, rfl⟩, Sub.refl _⟩
          ·refine StepE.calm (fun _ _ => rfl) fun L σ hc hi hd => ?_
           refine AO.wK [40, 45] ?_
           refine AO.cG rfl rfl (bD hc26) (Calm.fldRp rfl rfl Try.underlying82 rfl sz33 (At.cast (At.fldS (At.fld0 At.here)) rfl)) ?_
           exact AO.nE (d := 46) rfl ⟨⟨46, _, rfl, rfl, rfl⟩, Sub.refl _⟩
          ·refine StepE.calm (fun _ _ => rfl) fun L σ hc hi hd => ?_
           refine AO.wK [40, 46] ?_
           refine AO.cG rfl rfl (bD hc26) (Calm.loadRp rfl rfl ag33 (by rw [sz33]; simp [AV.size])) ?_
           exact AO.nE (d := 47) rfl ⟨⟨47, _, rfl, rfl, rfl⟩, Sub.refl _⟩
          ·refine StepE.calm (fun _ _ => rfl) fun L σ hc hi hd => ?_
           refine AO.wK [1, 40] ?_
           refine AO.cG rfl rfl (bD hc26) (Calm.move rfl rfl) ?_
           exact AO.nE (d := 48) rfl ⟨⟨48, _, rfl, rfl, rfl⟩, Sub.refl _⟩
          ·refine StepE.calm (fun _ _ => rfl) fun L σ hc hi hd => ?_
           refine AO.wK [9, 40] ?_
           refine AO.cG rfl rfl (bD hc26) (Calm.move rfl rfl) ?_
           exact AO.nE (d := 49) rfl ⟨⟨49, _, rfl, rfl, rfl⟩, Sub.refl _⟩
          ·refine StepE.calm (fun _ _ => rfl) fun L σ hc hi hd => ?_
           refine AO.wK [40, 48, 49] ?_
           refine AO.cG (x := eU8 (byteAt p1 x20)) rfl rfl (bD hc26) (Calm.idxS rfl rfl rfl hg28 Try.underlying9) ?_
           exact AO.nE (d := 50) rfl ⟨⟨50, _, rfl, rfl, rfl⟩, Sub.refl _⟩
          ·refine StepE.calm (fun _ _ => rfl) fun L σ hc hi hd => ?_
           refine AO.wK [40, 50] ?_
           refine AO.cG (x := eI64 (w64 (byteAt p1 x20))) rfl rfl (bD hc26) (Calm.conv rfl rfl Try.underlying5 Try.underlying3) ?_
           exact AO.nE (d := 51) rfl ⟨⟨51, _, rfl, rfl, rfl⟩, Sub.refl _⟩
          ·refine StepE.calm (fun _ _ => rfl) fun L σ hc hi hd => ?_
           refine AO.wK [40, 47, 51] ?_
           refine AO.callG 7 true 40 [(.ar 1 (((lget p0 (w64 ((p0.length : Int) - (1 : Int)))).f1).toList.map eU64)), (eI64 (w64 (byteAt p1 x20)))] (eBool t29) 52 rfl (by decide) ok44 rfl rfl (bD hc26) rfl rfl ⟨rfl, rfl, rfl, rfl, trivial⟩ (bosketref02_Has_spec et29) ?_
           exact AO.nE (d := 52) rfl ⟨⟨52, _, rfl, rfl, rfl⟩, Sub.refl _⟩
          ·refine StepE.calm (fun _ _ => rfl) fun L σ hc hi hd => ?_
           refine AO.wK [40, 52] ?_
           refine AO.c (Calm.pickT rfl (bD hc26) rfl) ?_
           exact AO.nE (d := 53) rfl ⟨⟨53, _, rfl, rfl, rfl⟩, Sub.refl _⟩
          ·refine StepE.calm (fun _ _ => rfl) fun L σ hc hi hd => ?_
           have m22 : L 22 = false := hc.neg (i := 21) (j := 22) rfl (by rfl) hi
           refine AO.heq (H' := ((n4, (.mem (.ar 1 (x19.map eBool)))) :: [])) (by first | rfl | simp only [m22, cond_true, cond_false]) ?_
           refine AO.wK [33, 35] ?_
           refine AO.c (Calm.idxO 0 rfl rfl rfl rfl hg30 Try.underlying25 sz4) ?_
           exact AO.nE (d := 54) rfl ⟨⟨54, _, rfl, rfl, rfl⟩, Sub.of_eq (by first | rfl | simp only [m22, cond_true, cond_false]) (Sub.refl _)⟩
          ·intro L σ hc hi hd
           refine AO.heq (H' := ((n4, (.mem (.ar 1 (x19.map eBool)))) :: [])) (by first | rfl | simp only [hi, cond_true, cond_false]) ?_
           refine AO.wK [53, 54] ?_
           refine AO.store (X' := (.ar 1 ((lset x19 (w64 (x20 + (1 : Int))) t29).map eBool))) 0 rfl rfl rfl rfl rfl rfl (Put.cast (Put.lidx (w64 (x20 + (1 : Int))) t29 hg30.1 hg30.2 Put.here) (by omega)) rfl rfl sz4 rfl ?_
           have a22 : addL L 22 22 = true := rfl
           exact AO.n0 ⟨σ, (fun _ _ => rfl), (fun d' hd' => by cases hd'), Sub.of_eq (B := ((n4, (.mem (.ar 1 ((lset x19 (w64 (x20 + (1 : Int))) t29).map eBool)))) :: [])) (by simp only [a22, cond_true, cond_false]) (Sub.refl _)⟩
          ·refine AO.coe 7 (y' := (.own n4 0 (lset x19 (w64 (x20 + (1 : Int))) t29).length)) rfl (fun _ _ h => own_len (by simp [lset, lcopy_len]) h) ?_
           refine AO.nK [0, 1, 2, 7, 9] ?_
           exact ⟨(lset x19 (w64 (x20 + (1 : Int))) t29), rfl, rfl, h⟩
         ·obtain ⟨hg31, h⟩ := of_guard h
          refine AW.regEff (by rfl) (by decide +kernel) (fun (σ : Nat → Nat) => ([(.own n4 0 x19.length), (eI64 x20), (eI64 (w64 (x20 + (1 : Int)))), (.fz 1 (p2.map eBool)), (eI64 x20), (.rp (eBool (lget p2 x20))), (eBool (lget p2 x20)), (eBool (lget p2 x20)), (.fl undef), (.fl undef), (.fl undef), (.fl undef), (.fl undef), (.fl undef), (.fl undef), (.fl undef), (.fl undef), (.fl undef), (.fl undef), (.fl undef), (eBool false), (.ptr n4 ((w64 (x20 + (1 : Int))).toNat * 1 + 0)), (.fl undef)] : List AV)) (fun (L : Nat → Bool) (σ : Nat → Nat) => ((bif L 22 then ((n4, (.mem (.ar 1 ((lset x19 (w64 (x20 + (1 : Int))) false).map eBool)))) :: []) else ((n4, (.mem (.ar 1 (x19.map eBool)))) :: [])) : Heap)) [(0, (.fz 5 (p0.map e82))), (1, (eStr p1)), (2, (.fz 1 (p2.map eBool))), (7, (.own n4 0 x19.length)), (9, (eI64 x20))] ⟨rfl, rfl, rfl, rfl, rfl, trivial⟩ (fun _ => rfl) (fun σ => (Sub.refl _)) ⟨?_, ?_, ?_, ?_, ?_, ?_, ?_, ?_, ?_, ?_, ?_, ?_, ?_, ?_, ?_, ?_, ?_, ?_, ?_, ?_, ?_, ?_, ?_, trivial⟩ (fun σ => [(0, (.fz 5 (p0.map e82))), (1, (eStr p1)), (2, (.fz 1 (p2.map eBool))), (7, (.own n4 0 x19.length)), (9, (eI64 x20))]) (fun σ => ((n4, (.mem (.ar 1 ((lset x19 (w64 (x20 + (1 : Int))) false).map eBool)))) :: [])) (fun σ => ⟨rfl, rfl, rfl, rfl, rfl, trivial⟩) (fun σ => Sub.refl _) (fun σ => ?_)
          ·refine StepE.calm (fun _ _ => rfl) fun L σ hc hi hd => ?_
           have m22 : L 22 = false := hc.neg (i := 0) (j := 22) rfl (by rfl) hi
           refine AO.heq (H' := ((n4, (.mem (.ar 1 (x19.map eBool)))) :: [])) (by first | rfl | simp only [m22, cond_true, cond_false]) ?_
           refine AO.wK [7] ?_
           refine AO.c (Calm.move rfl rfl) ?_
           exact AO.nE (d := 33) rfl ⟨⟨33, _, rfl, rfl, rfl⟩, Sub.of_eq (by first | rfl | simp only [m22, cond_true, cond_false]) (Sub.refl _)⟩
          ·refine StepE.calm (fun _ _ => rfl) fun L σ hc hi hd => ?_
           refine AO.wK [9] ?_
           refine AO.c (Calm.move rfl rfl) ?_
           exact AO.nE (d := 34) rfl ⟨⟨34, _, rfl, rfl, rfl⟩, Sub.refl _⟩
          ·refine StepE.calm (fun _ _ => rfl) fun L σ hc hi hd => ?_
           refine AO.wK [34] ?_
           refine AO.c (x := eI64 (w64 (x20 + (1 : Int)))) (Calm.int rfl rfl rfl rfl) ?_
           exact AO.nE (d := 35) rfl ⟨⟨35, _, rfl, rfl, rfl⟩, Sub.refl _⟩
          ·refine StepE.calm (fun _ _ => rfl) fun L σ hc hi hd => ?_
           refine AO.wK [2] ?_
           refine AO.c (Calm.move rfl rfl) ?_
           exact AO.nE (d := 36) rfl ⟨⟨36, _, rfl, rfl, rfl⟩, Sub.refl _⟩
          ·refine StepE.calm (fun _ _ => rfl) fun L σ hc hi hd => ?_
           refine AO.wK [9] ?_
           refine AO.c (Calm.move rfl rfl) ?_
           exact AO.nE (d := 37) rfl ⟨⟨37, _, rfl, rfl, rfl⟩, Sub.refl _⟩
          ·refine StepE.calm (fun _ _ => rfl) fun L σ hc hi hd => ?_
           refine AO.wK [36, 37] ?_
           refine AO.c (Calm.idxL (f := eBool) rfl rfl rfl hg25 Try.underlying25 sz4) ?_
           exact AO.nE (d := 38) rfl ⟨⟨38, _, rfl, rfl, rfl⟩, Sub.refl _⟩
          ·refine StepE.calm (fun _ _ => rfl) fun L σ hc hi hd => ?_
           refine AO.wK [38] ?_
           refine AO.c (Calm.loadRp rfl rfl ag4 sz4) ?_
           exact AO.nE (d := 39) rfl ⟨⟨39, _, rfl, rfl, rfl⟩, Sub.refl _⟩
          ·refine StepE.calm (fun _ _ => rfl) fun L σ hc hi hd => ?_
           refine AO.wK [39] ?_
           refine AO.c (Calm.move rfl rfl) ?_
           exact AO.nE (d := 40) rfl ⟨⟨40, _, rfl, rfl, rfl⟩, Sub.refl _⟩
          ·refine StepE.calm (fun _ _ => rfl) fun L σ hc hi hd => ?_
           refine AO.wK [40] ?_
           refine AO.sT rfl rfl (bD (eq_false_of_ne_true hc26)) ?_
           exact AO.nE (d := 41) rfl ⟨⟨41, _, rfl, rfl, rfl⟩, Sub.refl _⟩
          ·refine StepE.calm (fun _ _ => rfl) fun L σ hc hi hd => ?_
           refine AO.wK [40] ?_
           refine AO.sT rfl rfl (bD (eq_false_of_ne_true hc26)) ?_
           exact AO.nE (d := 42) rfl ⟨⟨42, _, rfl, rfl, rfl⟩, Sub.refl _⟩
          ·refine StepE.calm (fun _ _ => rfl) fun L σ hc hi hd => ?_
           refine AO.wK [40] ?_
           refine AO.sT rfl rfl (bD (eq_false_of_ne_true hc26)) ?_
           exact AO.nE (d := 43) rfl ⟨⟨43, _, rfl, rfl, rfl⟩, Sub.refl _⟩
          ·refine StepE.calm (fun _ _ => rfl) fun L σ hc hi hd => ?_
           refine AO.wK [40] ?_
           refine AO.sT rfl rfl (bD (eq_false_of_ne_true hc26)) ?_
           exact AO.nE (d := 44) rfl ⟨⟨44, _, rfl, rfl, rfl⟩, Sub.refl _⟩
          ·refine StepE.calm (fun _ _ => rfl) fun L σ hc hi hd => ?_
           refine AO.wK [40] ?_
           refine AO.sT rfl rfl (bD (eq_false_of_ne_true hc26)) ?_
           exact AO.nE (d := 45) rfl ⟨⟨45, _, rfl, rfl, rfl⟩, Sub.refl _⟩
          ·refine StepE.calm (fun _ _ => rfl) fun L σ hc hi hd => ?_
           refine AO.wK [40] ?_
           refine AO.sT rfl rfl (bD (eq_false_of_ne_true hc26)) ?_
           exact AO.nE (d := 46) rfl ⟨⟨46, _, rfl, rfl, rfl⟩, Sub.refl _⟩
          ·refine StepE.calm (fun _ _ => rfl) fun L σ hc hi hd => ?_
           refine AO.wK [40] ?_
           refine AO.sT rfl rfl (bD (eq_false_of_ne_true hc26)) ?_
           exact AO.nE (d := 47) rfl ⟨⟨47, _, rfl, rfl, rfl⟩, Sub.refl _⟩
          ·refine StepE.calm (fun _ _ => rfl) fun L σ hc hi hd => ?_
           refine AO.wK [40] ?_
           refine AO.sT rfl rfl (bD (eq_false_of_ne_true hc26)) ?_
           exact AO.nE (d := 48) rfl ⟨⟨48, _, rfl, rfl, rfl⟩, Sub.refl _⟩
          ·refine StepE.calm (fun _ _ => rfl) fun L σ hc hi hd => ?_
           refine AO.wK [40] ?_
           refine AO.sT rfl rfl (bD (eq_false_of_ne_true hc26)) ?_
           exact AO.nE (d := 49) rfl ⟨⟨49, _, rfl, rfl, rfl⟩, Sub.refl _⟩
          ·refine StepE.calm (fun _ _ => rfl) fun L σ hc hi hd => ?_
           refine AO.wK [40] ?_
           refine AO.sT rfl rfl (bD (eq_false_of_ne_true hc26)) ?_
           exact AO.nE (d := 50) rfl ⟨⟨50, _, rfl, rfl, rfl⟩, Sub.refl _⟩
          ·refine StepE.calm (fun _ _ => rfl) fun L σ hc hi hd => ?_
           refine AO.wK [40] ?_
           refine AO.sT rfl rfl (bD (eq_false_of_ne_true hc26)) ?_
           exact AO.nE (d := 51) rfl ⟨⟨51, _, rfl, rfl, rfl⟩, Sub.refl _⟩
          ·refine StepE.calm (fun _ _ => rfl) fun L σ hc hi hd => ?_
           refine AO.wK [40] ?_
           refine AO.sT rfl rfl (bD (eq_false_of_ne_true hc26)) ?_
           exact AO.nE (d := 52) rfl ⟨⟨52, _, rfl, rfl, rfl⟩, Sub.refl _⟩
          ·refine StepE.calm (fun _ _ => rfl) fun L σ hc hi hd => ?_
           refine AO.wK [40, 52] ?_
           refine AO.c (Calm.pickF rfl (bD (eq_false_of_ne_true hc26)) rfl) ?_
           exact AO.nE (d := 53) rfl ⟨⟨53, _, rfl, rfl, rfl⟩, Sub.refl _⟩
          ·refine StepE.calm (fun _ _ => rfl) fun L σ hc hi hd => ?_
           have m22 : L 22 = false := hc.neg (i := 21) (j := 22) rfl (by rfl) hi
           refine AO.heq (H' := ((n4, (.mem (.ar 1 (x19.map eBool)))) :: [])) (by first | rfl | simp only [m22, cond_true, cond_false]) ?_
           refine AO.wK [33, 35] ?_
           refine AO.c (Calm.idxO 0 rfl rfl rfl rfl hg31 Try.underlying25 sz4) ?_
           exact AO.nE (d := 54) rfl ⟨⟨54, _, rfl, rfl, rfl⟩, Sub.of_eq (by first | rfl | simp only [m22, cond_true, cond_false]) (Sub.refl _)⟩
          ·intro L σ hc hi hd
           refine AO.heq (H' := ((n4, (.mem (.ar 1 (x19.map eBool)))) :: [])) (by first | rfl | simp only [hi, cond_true, cond_false]) ?_
           refine AO.wK [53, 54] ?_
           refine AO.store (X' := (.ar 1 ((lset x19 (w64 (x20 + (1 : Int))) false).map eBool))) 0 rfl rfl rfl rfl rfl rfl (Put.cast (Put.lidx (w64 (x20 + (1 : Int))) false hg31.1 hg31.2 Put.here) (by omega)) rfl rfl sz4 rfl ?_
           have a22 : addL L 22 22 = true := rfl
           exact AO.n0 ⟨σ, (fun _ _ => rfl), (fun d' hd' => by cases hd'), Sub.of_eq (B := ((n4, (.mem (.ar 1 ((lset x19 (w64 (x20 + (1 : Int))) false).map eBool)))) :: [])) (by simp only [a22, cond_true, cond_false]) (Sub.refl _)⟩
          ·refine AO.coe 7 (y' := (.own n4 0 (lset x19 (w64 (x20 + (1 : Int))) false).length)) rfl (fun _ _ h => own_len (by simp [lset, lcopy_len]) h) ?_
           refine AO.nK [0, 1, 2, 7, 9] ?_
           exact ⟨(lset x19 (w64 (x20 + (1 : Int))) false), rfl, rfl, h⟩
        ·rintro _ _ ⟨x24, rfl, rfl, h⟩
         rw [bosketref04_ends_c2.eq_1] at h
         refine AW.reg ?_
         refine AO.c (Calm.move rfl rfl) ?_
         refine AO.c (x := eI64 (w64 (x20 + (1 : Int)))) (Calm.int rfl rfl rfl rfl) ?_
         refine AO.c (Calm.assign rfl rfl) ?_
         refine AO.nK [0, 1, 2, 7, 9] ?_
         exact ⟨kq22, Nat.lt_succ_self _, x24, (w64 (x20 + (1 : Int))), rfl, rfl, by rw [hrec21]; exact h⟩
       ·refine AW.condN _ rfl hc23 ?_
        refine AW.eK [7] ?_
        exact ⟨x19, rfl, rfl, h⟩
      ·rintro _ _ ⟨x18, rfl, rfl, h⟩
       rw [bosketref04_ends_c1.eq_1] at h
       refine AW.sr ?_
       refine AO.c (Calm.move rfl rfl) ?_
       refine AO.c (Calm.assign rfl rfl) ?_
       refine AO.nK [6] ?_
       refine AW.freezeS 0 [(6, (.fz 1 (x18.map eBool)))] rfl ⟨fz_all rfl, trivial⟩ ?_
       refine AW.rK [6] ?_
       have hr := Option.some.inj h
       subst hr
       exact ⟨[(.fz 1 (x18.map eBool))], ⟨rfl, rfl, trivial⟩, rfl⟩
     ·refine AW.condN _ rfl hc17 ?_
      refine AW.sr ?_
      refine AO.c (x := eBool (decide (((lget p0 (w64 ((p0.length : Int) - (1 : Int)))).f0) = (2 : Int)))) (Calm.int rfl rfl rfl rfl) ?_
      refine AO.c (Calm.assign rfl rfl) ?_
      refine AO.nH [0, 1, 2, 8, 21, 56] (H' := []) (Sub.nil _) ?_
      rcases of_ite h with ⟨hc32, h⟩ | ⟨hc32, h⟩
      ·refine AW.condP _ rfl hc32 ?_
       refine AW.seq ?_
       obtain ⟨hg33, h⟩ := of_guard h
       obtain ⟨hg34, h⟩ := of_guard h
       obtain ⟨t35, et35, h⟩ := of_bind h
       obtain ⟨t36, et36, h⟩ := of_bind h
       refine AW.regAny (by rfl) (by decide +kernel) [(.fz 1 (t6.map e58)), (.rp (.fz 5 ((lget t6 (1 : Int)).map e82))), (.fz 5 ((lget t6 (1 : Int)).map e82)), (eStr p1), (.fz 1 (t6.map e58)), (.rp (.fz 5 ((lget t6 (0 : Int)).map e82))), (.fz 5 ((lget t6 (0 : Int)).map e82)), (eStr p1), (.fz 1 (p2.map eBool)), (.fz 1 (t35.map eBool)), (.fz 1 (t36.map eBool)), (.fz 1 (t36.map eBool))] [(1, (eStr p1)), (2, (.fz 1 (p2.map eBool))), (8, (.fz 1 (t6.map e58)))] ⟨rfl, rfl, rfl, trivial⟩ rfl ?_ [(6, (.fz 1 (t36.map eBool)))] [] ⟨rfl, trivial⟩ (Sub.refl _) ?_
       ·refine ⟨?_, ?_, ?_, ?_, ?_, ?_, ?_, ?_, ?_, ?_, ?_, ?_, trivial⟩
        ·refine AO.wK [8] ?_
         refine AO.c (Calm.move rfl rfl) ?_
         exact AO.nE (d := 58) rfl ⟨⟨_, rfl, rfl⟩, Sub.refl _⟩
        ·refine AO.wK [58] ?_
         refine AO.c (Calm.idxL (f := e58) rfl rfl rfl hg33 Try.underlying97 sz58) ?_
         exact AO.nE (d := 59) rfl ⟨⟨_, rfl, rfl⟩, Sub.refl _⟩
        ·refine AO.wK [59] ?_
         refine AO.c (Calm.loadRp rfl rfl ag58 sz58) ?_
         exact AO.nE (d := 60) rfl ⟨⟨_, rfl, rfl⟩, Sub.refl _⟩
        ·refine AO.wK [1] ?_
         refine AO.c (Calm.move rfl rfl) ?_
         exact AO.nE (d := 61) rfl ⟨⟨_, rfl, rfl⟩, Sub.refl _⟩
        ·refine AO.wK [8] ?_
         refine AO.c (Calm.move rfl rfl) ?_
         exact AO.nE (d := 62) rfl ⟨⟨_, rfl, rfl⟩, Sub.refl _⟩
        ·refine AO.wK [62] ?_
         refine AO.c (Calm.idxL (f := e58) rfl rfl rfl hg34 Try.underlying97 sz58) ?_
         exact AO.nE (d := 63) rfl ⟨⟨_, rfl, rfl⟩, Sub.refl _⟩
        ·refine AO.wK [63] ?_
         refine AO.c (Calm.loadRp rfl rfl ag58 sz58) ?_
         exact AO.nE (d := 64) rfl ⟨⟨_, rfl, rfl⟩, Sub.refl _⟩
        ·refine AO.wK [1] ?_
         refine AO.c (Calm.move rfl rfl) ?_
         exact AO.nE (d := 65) rfl ⟨⟨_, rfl, rfl⟩, Sub.refl _⟩
        ·refine AO.wK [2] ?_
         refine AO.c (Calm.move rfl rfl) ?_
         exact AO.nE (d := 66) rfl ⟨⟨_, rfl, rfl⟩, Sub.refl _⟩
        ·refine AO.wK [64, 65, 66] ?_
         refine AO.callS [(.fz 5 ((lget t6 (0 : Int)).map e82)), (eStr p1), (.fz 1 (p2.map eBool))] (.fz 1 (t35.map eBool)) 67 rfl (by decide) ok60 rfl rfl rfl ⟨rfl, rfl, rfl, rfl, rfl, rfl, trivial⟩ (hself60 _ _ _ _ et35) ?_
         exact AO.nE (d := 67) rfl ⟨⟨_, rfl, rfl⟩, Sub.refl _⟩
        ·refine AO.wK [60, 61, 67] ?_
         refine AO.callS [(.fz 5 ((lget t6 (1 : Int)).map e82)), (eStr p1), (.fz 1 (t35.map eBool))] (.fz 1 (t36.map eBool)) 68 rfl (by decide) ok60 rfl rfl rfl ⟨rfl, rfl, rfl, rfl, rfl, rfl, trivial⟩ (hself60 _ _ _ _ et36) ?_
         exact AO.nE (d := 68) rfl ⟨⟨_, rfl, rfl⟩, Sub.refl _⟩
        ·refine AO.wK [68] ?_
         refine AO.c (Calm.assign rfl rfl) ?_
         exact AO.nE (d := 6) rfl ⟨⟨_, rfl, rfl⟩, Sub.refl _⟩
       ·refine AW.rK [6] ?_
        have hr := Option.some.inj h
        subst hr
        exact ⟨[(.fz 1 (t36.map eBool))], ⟨rfl, rfl, trivial⟩, rfl⟩
      ·refine AW.condN _ rfl hc32 ?_
       refine AW.sr ?_
       refine AO.c (x := eBool (decide (((lget p0 (w64 ((p0.length : Int) - (1 : Int)))).f0) = (3 : Int)))) (Calm.int rfl rfl rfl rfl) ?_
       refine AO.c (Calm.assign rfl rfl) ?_
       refine AO.nK [0, 1, 2, 8, 21, 69] ?_
       rcases of_ite h with ⟨hc37, h⟩ | ⟨hc37, h⟩
       ·refine AW.condP _ rfl hc37 ?_
        refine AW.seq ?_
        obtain ⟨hg38, h⟩ := of_guard h
        obtain ⟨t39, et39, h⟩ := of_bind h
        obtain ⟨hg40, h⟩ := of_guard h
        obtain ⟨t41, et41, h⟩ := of_bind h
        obtain ⟨t42, et42, h⟩ := of_bind h
        refine AW.regAny (by rfl) (by decide +kernel) [(.fz 1 (t6.map e58)), (.rp (.fz 5 ((lget t6 (0 : Int)).map e82))), (.fz 5 ((lget t6 (0 : Int)).map e82)), (eStr p1), (.fz 1 (p2.map eBool)), (.fz 1 (t39.map eBool)), (.fz 1 (t6.map e58)), (.rp (.fz 5 ((lget t6 (1 : Int)).map e82))), (.fz 5 ((lget t6 (1 : Int)).map e82)), (eStr p1), (.fz 1 (p2.map eBool)), (.fz 1 (t41.map eBool)), (.fz 1 (t42.map eBool)), (.fz 1 (t42.map eBool))] [(1, (eStr p1)), (2, (.fz 1 (p2.map eBool))), (8, (.fz 1 (t6.map e58)))] ⟨rfl, rfl, rfl, trivial⟩ rfl ?_ [(6, (.fz 1 (t42.map eBool)))] [] ⟨rfl, trivial⟩ (Sub.refl _) ?_
        ·refine ⟨?_, ?_, ?_, ?_, ?_, ?_, ?_, ?_, ?_, ?_, ?_, ?_, ?_, ?_, trivial⟩
         ·refine AO.wK [8] ?_
          refine AO.c (Calm.move rfl rfl) ?_
          exact AO.nE (d := 71) rfl ⟨⟨_, rfl, rfl⟩, Sub.refl _⟩
         ·refine AO.wK [71] ?_
          refine AO.c (Calm.idxL (f := e58) rfl rfl rfl hg38 Try.underlying97 sz58) ?_
          exact AO.nE (d := 72) rfl ⟨⟨_, rfl, rfl⟩, Sub.refl _⟩
         ·refine AO.wK [72] ?_
          refine AO.c (Calm.loadRp rfl rfl ag58 sz58) ?_
          exact AO.nE (d := 73) rfl ⟨⟨_, rfl, rfl⟩, Sub.refl _⟩
         ·refine AO.wK [1] ?_
          refine AO.c (Calm.move rfl rfl) ?_
          exact AO.nE (d := 74) rfl ⟨⟨_, rfl, rfl⟩, Sub.refl _⟩
         ·refine AO.wK [2] ?_
          refine AO.c (Calm.move rfl rfl) ?_
          exact AO.nE (d := 75) rfl ⟨⟨_, rfl, rfl⟩, Sub.refl _⟩
         ·refine AO.wK [73, 74, 75] ?_
          refine AO.callS [(.fz 5 ((lget t6 (0 : Int)).map e82)), (eStr p1), (.fz 1 (p2.map eBool))] (.fz 1 (t39.map eBool)) 76 rfl (by decide) ok60 rfl rfl rfl ⟨rfl, rfl, rfl, rfl, rfl, rfl, trivial⟩ (hself60 _ _ _ _ et39) ?_
          exact AO.nE (d := 76) rfl ⟨⟨_, rfl, rfl⟩, Sub.refl _⟩
         ·refine AO.wK [8] ?_
          refine AO.c (Calm.move rfl rfl) ?_
          exact AO.nE (d := 77) rfl ⟨⟨_, rfl, rfl⟩, Sub.refl _⟩
         ·refine AO.wK [77] ?_
          refine AO.c (Calm.idxL (f := e58) rfl rfl rfl hg40 Try.underlying97 sz58) ?_
          exact AO.nE (d := 78) rfl ⟨⟨_, rfl, rfl⟩, Sub.refl _⟩
         ·refine AO.wK [78] ?_
          refine AO.c (Calm.loadRp rfl rfl ag58 sz58) ?_
          exact AO.nE (d := 79) rfl ⟨⟨_, rfl, rfl⟩, Sub.refl _⟩
         ·refine AO.wK [1] ?_
          refine AO.c (Calm.move rfl rfl) ?_
          exact AO.nE (d := 80) rfl ⟨⟨_, rfl, rfl⟩, Sub.refl _⟩
         ·refine AO.wK [2] ?_
          refine AO.c (Calm.move rfl rfl) ?_
          exact AO.nE (d := 81) rfl ⟨⟨_, rfl, rfl⟩, Sub.refl _⟩
         ·refine AO.wK [79, 80, 81] ?_
          refine AO.callS [(.fz 5 ((lget t6 (1 : Int)).map e82)), (eStr p1), (.fz 1 (p2.map eBool))] (.fz 1 (t41.map eBool)) 82 rfl (by decide) ok60 rfl rfl rfl ⟨rfl, rfl, rfl, rfl, rfl, rfl, trivial⟩ (hself60 _ _ _ _ et41) ?_
          exact AO.nE (d := 82) rfl ⟨⟨_, rfl, rfl⟩, Sub.refl _⟩
         ·refine AO.wK [76, 82] ?_
          refine AO.callS [(.fz 1 (t39.map eBool)), (.fz 1 (t41.map eBool))] (.fz 1 (t42.map eBool)) 83 rfl (by decide) ok73 rfl rfl rfl ⟨rfl, rfl, rfl, rfl, trivial⟩ (bosketref04_or_spec et42) ?_
          exact AO.nE (d := 83) rfl ⟨⟨_, rfl, rfl⟩, Sub.refl _⟩
         ·refine AO.wK [83] ?_
          refine AO.c (Calm.assign rfl rfl) ?_
          exact AO.nE (d := 6) rfl ⟨⟨_, rfl, rfl⟩, Sub.refl _⟩
        ·refine AW.rK [6] ?_
         have hr := Option.some.inj h
         subst hr
         exact ⟨[(.fz 1 (t42.map eBool))], ⟨rfl, rfl, trivial⟩, rfl⟩
       ·refine AW.condN _ rfl hc37 ?_
        refine AW.sr ?_
        refine AO.c (x := eBool (decide (((lget p0 (w64 ((p0.length : Int) - (1 : Int)))).f0) = (6 : Int)))) (Calm.int rfl rfl rfl rfl) ?_
        refine AO.c (Calm.assign rfl rfl) ?_
        refine AO.nK [0, 1, 2, 8, 84] ?_
        rcases of_ite h with ⟨hc43, h⟩ | ⟨hc43, h⟩
        ·refine AW.condP _ rfl hc43 ?_
         refine AW.sr ?_
         refine AO.c (Calm.move rfl rfl) ?_
         refine AO.c (Calm.move rfl rfl) ?_
         obtain ⟨hg44, h⟩ := of_guard h
         refine AO.c (Calm.idxL (f := e58) rfl rfl rfl hg44 Try.underlying97 sz58) ?_
         refine AO.c (Calm.loadRp rfl rfl ag58 sz58) ?_
         refine AO.c (Calm.move rfl rfl) ?_
         refine AO.c (Calm.move rfl rfl) ?_
         obtain ⟨t45, et45, h⟩ := of_bind h
         refine AO.callS [(.fz 5 ((lget t6 (0 : Int)).map e82)), (eStr p1), (.fz 1 (p2.map eBool))] (.fz 1 (t45.map eBool)) 92 rfl (by decide) ok60 rfl rfl rfl ⟨rfl, rfl, rfl, rfl, rfl, rfl, trivial⟩ (hself60 _ _ _ _ et45) ?_
         obtain ⟨t46, et46, h⟩ := of_bind h
         refine AO.callS [(.fz 1 (p2.map eBool)), (.fz 1 (t45.map eBool))] (.fz 1 (t46.map eBool)) 93 rfl (by decide) ok73 rfl rfl rfl ⟨rfl, rfl, rfl, rfl, trivial⟩ (bosketref04_or_spec et46) ?_
         refine AO.c (Calm.assign rfl rfl) ?_
         refine AO.nK [6] ?_
         refine AW.rK [6] ?_
         have hr := Option.some.inj h
         subst hr
         exact ⟨[(.fz 1 (t46.map eBool))], ⟨rfl, rfl, trivial⟩, rfl⟩
        ·refine AW.condN _ rfl hc43 ?_
         refine AW.sK [0, 1, 2, 8] ?_
         exact ⟨rfl, rfl, h⟩
   ·rintro _ _ ⟨rfl, rfl, h⟩
    rw [bosketref04_ends_c0.eq_1] at h
    refine AW.seq ?_
    refine AW.sr ?_
    refine AO.c (Calm.move rfl rfl) ?_
    refine AO.c (Calm.move rfl rfl) ?_
    refine AO.c (Calm.lenL rfl rfl Try.underlying58) ?_
    refine AO.c (x := eI64 (w64 ((p0.length : Int) - (1 : Int)))) (Calm.int rfl rfl rfl rfl) ?_
    obtain ⟨hg7, h⟩ := of_guard h
    refine AO.c (Calm.idxL (f := e82) rfl rfl rfl hg7 Try.underlying58 sz82) ?_
    refine AO.c (Calm.fldRp rfl rfl Try.underlying82 rfl sz3 (At.cast (At.fld0 At.here) rfl)) ?_
    refine AO.c (Calm.loadRp rfl rfl ag3 sz3) ?_
    refine AO.c (x := eBool (decide (((lget p0 (w64 ((p0.length : Int) - (1 : Int)))).f0) = (4 : Int)))) (Calm.int rfl rfl rfl rfl) ?_
    refine AO.nK [1, 2, 8, 101] ?_
    rcases of_ite h with ⟨hc8, h⟩ | ⟨hc8, h⟩
    ·refine AW.condP _ rfl hc8 ?_
     refine AW.sr ?_
     refine AO.c (Calm.move rfl rfl) ?_
     obtain ⟨hg9, h⟩ := of_guard h
     refine AO.c (Calm.idxL (f := e58) rfl rfl rfl hg9 Try.underlying97 sz58) ?_
     refine AO.c (Calm.loadRp rfl rfl ag58 sz58) ?_
     refine AO.c (Calm.move rfl rfl) ?_
     refine AO.c (Calm.move rfl rfl) ?_
     obtain ⟨t10, et10, h⟩ := of_bind h
     refine AO.callS [(.fz 5 ((lget t6 (0 : Int)).map e82)), (eStr p1), (.fz 1 (p2.map eBool))] (.fz 1 (t10.map eBool)) 107 rfl (by decide) ok74 rfl rfl rfl ⟨rfl, rfl, rfl, rfl, rfl, rfl, trivial⟩ (hself74 _ _ _ _ et10) ?_
     refine AO.c (Calm.assign rfl rfl) ?_
     refine AO.nK [6] ?_
     refine AW.rK [6] ?_
     have hr := Option.some.inj h
     subst hr
     exact ⟨[(.fz 1 (t10.map eBool))], ⟨rfl, rfl, trivial⟩, rfl⟩
    ·refine AW.condN _ rfl hc8 ?_
     refine AW.sK [1, 2, 8] ?_
     refine AW.seq ?_
     obtain ⟨hg11, h⟩ := of_guard h
     obtain ⟨hg12, h⟩ := of_guard h
     obtain ⟨t13, et13, h⟩ := of_bind h
     obtain ⟨t14, et14, h⟩ := of_bind h
     refine AW.regAny (by rfl) (by decide +kernel) [(.fz 1 (t6.map e58)), (.rp (.fz 5 ((lget t6 (0 : Int)).map e82))), (.fz 5 ((lget t6 (0 : Int)).map e82)), (eStr p1), (.fz 1 (t6.map e58)), (.rp (.fz 5 ((lget t6 (0 : Int)).map e82))), (.fz 5 ((lget t6 (0 : Int)).map e82)), (eStr p1), (.fz 1 (p2.map eBool)), (.fz 1 (t13.map eBool)), (.fz 1 (t14.map eBool)), (.fz 1 (t14.map eBool))] [(1, (eStr p1)), (2, (.fz 1 (p2.map eBool))), (8, (.fz 1 (t6.map e58)))] ⟨rfl, rfl, rfl, trivial⟩ rfl ?_ [(6, (.fz 1 (t14.map eBool)))] [] ⟨rfl, trivial⟩ (Sub.refl _) ?_
     ·refine ⟨?_, ?_, ?_, ?_, ?_, ?_, ?_, ?_, ?_, ?_, ?_, ?_, trivial⟩
      ·refine AO.wK [8] ?_
       refine AO.c (Calm.move rfl rfl) ?_
       exact AO.nE (d := 108) rfl ⟨⟨_, rfl, rfl⟩, Sub.refl _⟩
      ·refine AO.wK [108] ?_
       refine AO.c (Calm.idxL (f := e58) rfl rfl rfl hg11 Try.underlying97 sz58) ?_
       exact AO.nE (d := 109) rfl ⟨⟨_, rfl, rfl⟩, Sub.refl _⟩
      ·refine AO.wK [109] ?_
       refine AO.c (Calm.loadRp rfl rfl ag58 sz58) ?_
       exact AO.nE (d := 110) rfl ⟨⟨_, rfl, rfl⟩, Sub.refl _⟩
      ·refine AO.wK [1] ?_
       refine AO.c (Calm.move rfl rfl) ?_
       exact AO.nE (d := 111) rfl ⟨⟨_, rfl, rfl⟩, Sub.refl _⟩
      ·refine AO.wK [8] ?_
       refine AO.c (Calm.move rfl rfl) ?_
       exact AO.nE (d := 112) rfl ⟨⟨_, rfl, rfl⟩, Sub.refl _⟩
      ·refine AO.wK [112] ?_
       refine AO.c (Calm.idxL (f := e58) rfl rfl rfl hg12 Try.underlying97 sz58) ?_
       exact AO.nE (d := 113) rfl ⟨⟨_, rfl, rfl⟩, Sub.refl _⟩
      ·refine AO.wK [113] ?_
       refine AO.c (Calm.loadRp rfl rfl ag58 sz58) ?_
       exact AO.nE (d := 114) rfl ⟨⟨_, rfl, rfl⟩, Sub.refl _⟩
      ·refine AO.wK [1] ?_
       refine AO.c (Calm.move rfl rfl) ?_
       exact AO.nE (d := 115) rfl ⟨⟨_, rfl, rfl⟩, Sub.refl _⟩
      ·refine AO.wK [2] ?_
       refine AO.c (Calm.move rfl rfl) ?_
       exact AO.nE (d := 116) rfl ⟨⟨_, rfl, rfl⟩, Sub.refl _⟩
      ·refine AO.wK [114, 115, 116] ?_
       refine AO.callS [(.fz 5 ((lget t6 (0 : Int)).map e82)), (eStr p1), (.fz 1 (p2.map eBool))] (.fz 1 (t13.map eBool)) 117 rfl (by decide) ok60 rfl rfl rfl ⟨rfl, rfl, rfl, rfl, rfl, rfl, trivial⟩ (hself60 _ _ _ _ et13) ?_
       exact AO.nE (d := 117) rfl ⟨⟨_, rfl, rfl⟩, Sub.refl _⟩
      ·refine AO.wK [110, 111, 117] ?_
       refine AO.callS [(.fz 5 ((lget t6 (0 : Int)).map e82)), (eStr p1), (.fz 1 (t13.map eBool))] (.fz 1 (t14.map eBool)) 118 rfl (by decide) ok74 rfl rfl rfl ⟨rfl, rfl, rfl, rfl, rfl, rfl, trivial⟩ (hself74 _ _ _ _ et14) ?_
       exact AO.nE (d := 118) rfl ⟨⟨_, rfl, rfl⟩, Sub.refl _⟩
      ·refine AO.wK [118] ?_
       refine AO.c (Calm.assign rfl rfl) ?_
       exact AO.nE (d := 6) rfl ⟨⟨_, rfl, rfl⟩, Sub.refl _⟩
     ·refine AW.rK [6] ?_
      have hr := Option.some.inj h
      subst hr
      exact ⟨[(.fz 1 (t14.map eBool))], ⟨rfl, rfl, trivial⟩, rfl⟩
  ·intro p0 p1 p2 r h
   rw [bosketref04_again_r.eq_2] at h
   generalize hsself60 : bosketref04_ends_r k j = self60 at h hself60
   generalize hsself74 : bosketref04_again_r k j = self74 at h hself74
   refine Spec.intro (res := [.tmp 6]) Try.func74 rfl rfl rfl (Nat.le_of_ble_eq_true rfl) ?_
   refine AW.sr ?_
   refine AO.c (Calm.assign rfl rfl) ?_
   refine AO.nK [0, 1, 2] ?_
   refine AW.seq_mid (fun ρ H => ∃ (x4 : (List Bool)), ρ = [(2, (.fz 1 (x4.map eBool)))] ∧ H = [] ∧ bosketref04_again_c0 k x4 = some r) ?_ ?_
   ·refine AW.sr ?_
    refine AO.c (Calm.assign rfl rfl) ?_
    refine AO.nK [0, 1, 2, 7] ?_
    refine AW.block ?_
    refine AW.wK [0, 1, 2, 7] ?_
    refine AW.loop (fun kq ρ H => ∃ (x5 : (List Bool)) (x6 : Int), ρ = [(0, (.fz 5 (p0.map e82))), (1, (eStr p1)), (2, (.fz 1 (x5.map eBool))), (7, (eI64 x6))] ∧ H = [] ∧ bosketref04_again_l4 k self60 p0 p1 kq x5 x6 = some r) k ⟨p2, (0 : Int), rfl, rfl, h⟩ ?_
    rintro kq8 _ _ ⟨x5, x6, rfl, rfl, h⟩
    cases kq8 with
    | zero => rw [bosketref04_again_l4.eq_1] at h; cases h
    | succ kq8 =>
    rw [bosketref04_again_l4.eq_2] at h
    generalize hrec7 : bosketref04_again_l4 k self60 p0 p1 kq8 = rec7 at h
    refine AW.seq ?_
    refine AW.sr ?_
    refine AO.c (Calm.move rfl rfl) ?_
    refine AO.c (Calm.move rfl rfl) ?_
    refine AO.c (Calm.lenStr rfl rfl Try.underlying9) ?_
    refine AO.c (x := eBool (decide (x6 ≤ (p1.size : Int)))) (Calm.int rfl rfl rfl rfl) ?_
    refine AO.nK [0, 1, 2, 7, 14] ?_
    rcases of_ite h with ⟨hc9, h⟩ | ⟨hc9, h⟩
    ·refine AW.condP _ rfl hc9 ?_
     refine AW.sK [0, 1, 2, 7] ?_
     refine AW.seq_mid (fun ρ H => ∃ (x10 : (List Bool)), ρ = [(0, (.fz 5 (p0.map e82))), (1, (eStr p1)), (2, (.fz 1 (x10.map eBool))), (7, (eI64 x6))] ∧ H = [] ∧ bosketref04_again_c1 k rec7 x6 x10 = some r) ?_ ?_
     ·refine AW.block ?_
      refine AW.sr ?_
      refine AO.c (Calm.move rfl rfl) ?_
      refine AO.c (Calm.move rfl rfl) ?_
      refine AO.c (Calm.move rfl rfl) ?_
      refine AO.c (Calm.move rfl rfl) ?_
      obtain ⟨t11, et11, h⟩ := of_bind h
      refine AO.callS [(.fz 5 (p0.map e82)), (eStr p1), (.fz 1 (x5.map eBool))] (.fz 1 (t11.map eBool)) 21 rfl (by decide) ok60 rfl rfl rfl ⟨rfl, rfl, rfl, rfl, rfl, rfl, trivial⟩ (hself60 _ _ _ _ et11) ?_
      obtain ⟨t12, et12, h⟩ := of_bind h
      refine AO.callS [(.fz 1 (x5.map eBool)), (.fz 1 (t11.map eBool))] (.fz 1 (t12.map eBool)) 22 rfl (by decide) ok73 rfl rfl rfl ⟨rfl, rfl, rfl, rfl, trivial⟩ (bosketref04_or_spec et12) ?_
      refine AO.c (Calm.assign rfl rfl) ?_
      refine AO.nK [0, 1, 2, 7, 8] ?_
      refine AW.sr ?_
      refine AO.c (Calm.assign rfl rfl) ?_
      refine AO.nK [0, 1, 2, 7, 8, 9] ?_
      refine AW.seq_mid (fun ρ H => ∃ (b13 : Bool), ρ = [(0, (.fz 5 (p0.map e82))), (1, (eStr p1)), (7, (eI64 x6)), (8, (.fz 1 (t12.map eBool))), (9, (eBool b13))] ∧ H = [] ∧ bosketref04_again_c2 k rec7 x6 t12 b13 = some r) ?_ ?_
      ·refine AW.sr ?_
       refine AO.c (Calm.assign rfl rfl) ?_
       refine AO.nK [0, 1, 2, 7, 8, 9, 10] ?_
       refine AW.block ?_
       refine AW.wK [0, 1, 2, 7, 8, 9, 10] ?_
       refine AW.loop (fun kq ρ H => ∃ (b15 : Bool) (x16 : Int), ρ = [(0, (.fz 5 (p0.map e82))), (1, (eStr p1)), (2, (.fz 1 (x5.map eBool))), (7, (eI64 x6)), (8, (.fz 1 (t12.map eBool))), (9, (eBool b15)), (10, (eI64 x16))] ∧ H = [] ∧ bosketref04_again_l3 k rec7 x5 x6 t12 kq b15 x16 = some r) k ⟨true, (0 : Int), rfl, rfl, h⟩ ?_
       rintro kq18 _ _ ⟨b15, x16, rfl, rfl, h⟩
       cases kq18 with
       | zero => rw [bosketref04_again_l3.eq_1] at h; cases h
       | succ kq18 =>
       rw [bosketref04_again_l3.eq_2] at h
       generalize hrec17 : bosketref04_again_l3 k rec7 x5 x6 t12 kq18 = rec17 at h
       refine AW.seq ?_
       refine AW.sr ?_
       refine AO.c (Calm.move rfl rfl) ?_
       refine AO.c (Calm.move rfl rfl) ?_
       refine AO.c (Calm.lenL rfl rfl Try.underlying25) ?_
       refine AO.c (x := eBool (decide (x16 < (t12.length : Int)))) (Calm.int rfl rfl rfl rfl) ?_
       refine AO.nK [0, 1, 2, 7, 8, 9, 10, 26] ?_
       rcases of_ite h with ⟨hc19, h⟩ | ⟨hc19, h⟩
       ·refine AW.condP _ rfl hc19 ?_
        refine AW.sK [0, 1, 2, 7, 8, 9, 10] ?_
        refine AW.seq ?_
        refine AW.block ?_
        obtain ⟨b20, hq21, h⟩ := of_bind h
        refine AW.regQM (by rfl) (by decide +kernel) [(0, (.fz 5 (p0.map e82))), (1, (eStr p1)), (2, (.fz 1 (x5.map eBool))), (7, (eI64 x6)), (8, (.fz 1 (t12.map eBool))), (9, (eBool b20)), (10, (eI64 x16))] ?_ ?_
        ·refine AQ.c (Calm.move rfl rfl) ?_
         refine AQ.c (Calm.move rfl rfl) ?_
         rcases of_ite hq21 with ⟨hc22, hq21⟩ | ⟨hc22, hq21⟩
         ·refine AQ.cG rfl rfl (bD hc22) (Calm.move rfl rfl) ?_
          refine AQ.cG rfl rfl (bD hc22) (Calm.move rfl rfl) ?_
          obtain ⟨hg23, hq21⟩ := of_guard hq21
          refine AQ.cG rfl rfl (bD hc22) (Calm.idxL (f := eBool) rfl rfl rfl hg23 Try.underlying25 sz4) ?_
          refine AQ.cG rfl rfl (bD hc22) (Calm.loadRp rfl rfl ag4 sz4) ?_
          refine AQ.cG rfl rfl (bD hc22) (Calm.move rfl rfl) ?_
          refine AQ.cG rfl rfl (bD hc22) (Calm.move rfl rfl) ?_
          obtain ⟨hg24, hq21⟩ := of_guard hq21
          refine AQ.cG rfl rfl (bD hc22) (Calm.idxL (f := eBool) rfl rfl rfl hg24 Try.underlying25 sz4) ?_
          refine AQ.cG rfl rfl (bD hc22) (Calm.loadRp rfl rfl ag4 sz4) ?_
          refine AQ.cG (x := eBool ((lget t12 x16) == (lget x5 x16))) rfl rfl (bD hc22) (Calm.boolEq rfl rfl rfl Try.underlying4) ?_
          refine AQ.c (Calm.pickT rfl (bD hc22) rfl) ?_
          refine AQ.c (Calm.assign rfl rfl) ?_
          cases hq21
          refine AQ.nilE rfl ?_
          exact ⟨rfl, rfl, rfl, rfl, rfl, rfl, rfl, trivial⟩
         ·refine AQ.sT rfl rfl (bD (eq_false_of_ne_true hc22)) ?_
          refine AQ.sT rfl rfl (bD (eq_false_of_ne_true hc22)) ?_
          refine AQ.sT rfl rfl (bD (eq_false_of_ne_true hc22)) ?_
          refine AQ.sT rfl rfl (bD (eq_false_of_ne_true hc22)) ?_
          refine AQ.sT rfl rfl (bD (eq_false_of_ne_true hc22)) ?_
          refine AQ.sT rfl rfl (bD (eq_false_of_ne_true hc22)) ?_
          refine AQ.sT rfl rfl (bD (eq_false_of_ne_true hc22)) ?_
          refine AQ.sT rfl rfl (bD (eq_false_of_ne_true hc22)) ?_
          refine AQ.sT rfl rfl (bD (eq_false_of_ne_true hc22)) ?_
          refine AQ.c (Calm.pickF rfl (bD (eq_false_of_ne_true hc22)) rfl) ?_
          refine AQ.c (Calm.assign rfl rfl) ?_
          cases hq21
          refine AQ.nilE rfl ?_
          exact ⟨rfl, rfl, rfl, rfl, rfl, rfl, rfl, trivial⟩
        ·refine AW.reg ?_
         refine AO.c (Calm.move rfl rfl) ?_
         refine AO.c (x := eI64 (w64 (x16 + (1 : Int)))) (Calm.int rfl rfl rfl rfl) ?_
         refine AO.c (Calm.assign rfl rfl) ?_
         refine AO.nK [0, 1, 2, 7, 8, 9, 10] ?_
         exact ⟨kq18, Nat.lt_succ_self _, b20, (w64 (x16 + (1 : Int))), rfl, rfl, by rw [hrec17]; exact h⟩
       ·refine AW.condN _ rfl hc19 ?_
        refine AW.eK [0, 1, 7, 8, 9] ?_
        exact ⟨b15, rfl, rfl, h⟩
      ·rintro _ _ ⟨b13, rfl, rfl, h⟩
       rw [bosketref04_again_c2.eq_1] at h
       refine AW.seq ?_
       refine AW.sr ?_
       refine AO.c (Calm.move rfl rfl) ?_
       refine AO.nK [0, 1, 7, 8, 41] ?_
       rcases of_ite h with ⟨hc14, h⟩ | ⟨hc14, h⟩
       ·refine AW.condT' _ rfl hc14 ?_
        refine AW.sr ?_
        refine AO.c (Calm.move rfl rfl) ?_
        refine AO.c (Calm.assign rfl rfl) ?_
        refine AO.nK [6] ?_
        refine AW.rK [6] ?_
        have hr := Option.some.inj h
        subst hr
        exact ⟨[(.fz 1 (t12.map eBool))], ⟨rfl, rfl, trivial⟩, rfl⟩
       ·refine AW.condF' _ rfl hc14 ?_
        refine AW.sK [0, 1, 7, 8] ?_
        refine AW.reg ?_
        refine AO.c (Calm.move rfl rfl) ?_
        refine AO.c (Calm.assign rfl rfl) ?_
        refine AO.nK [0, 1, 2, 7] ?_
        exact ⟨t12, rfl, rfl, h⟩
     ·rintro _ _ ⟨x10, rfl, rfl, h⟩
      rw [bosketref04_again_c1.eq_1] at h
      refine AW.reg ?_
      refine AO.c (Calm.move rfl rfl) ?_
      refine AO.c (x := eI64 (w64 (x6 + (1 : Int)))) (Calm.int rfl rfl rfl rfl) ?_
      refine AO.c (Calm.assign rfl rfl) ?_
      refine AO.nK [0, 1, 2, 7] ?_
      exact ⟨kq8, Nat.lt_succ_self _, x10, (w64 (x6 + (1 : Int))), rfl, rfl, by rw [hrec7]; exact h⟩
    ·refine AW.condN _ rfl hc9 ?_
     refine AW.eK [2] ?_
     exact ⟨x5, rfl, rfl, h⟩
   ·rintro _ _ ⟨x4, rfl, rfl, h⟩
    rw [bosketref04_again_c0.eq_1] at h
    refine AW.sr ?_
    refine AO.c (Calm.move rfl rfl) ?_
    refine AO.c (Calm.assign rfl rfl) ?_
    refine AO.nK [6] ?_
    refine AW.rK [6] ?_
    have hr := Option.some.inj h
    subst hr
    exact ⟨[(.fz 1 (x4.map eBool))], ⟨rfl, rfl, trivial⟩, rfl⟩
theorem bosketref04_ends_spec {k : Nat} {p0 : (List S82)} {p1 : ByteArray} {p2 : (List Bool)} {r : (List Bool)} (h : bosketref04_ends k p0 p1 p2 = some r) : Spec Try.prog 60 [(.fz 5 (p0.map e82)), (eStr p1), (.fz 1 (p2.map eBool))] (e25 r) := (bosketref04_ends_all k k).1 p0 p1 p2 r h
end Go.Avl.T3
/- bosket/bosketref04.Has; printed by avmain.py. -/
namespace Go.Avl.T3
open Go Go.RowKit Go.Proofs Go.Avl
set_option linter.unusedVariables false
set_option maxRecDepth 100000
set_option maxHeartbeats 4000000
attribute [local irreducible] AW AO AQ Spec SpecH Calm

def bosketref04_Has (k : Nat) (p0 : (List S82)) (p1 : ByteArray) : Option Bool :=
  if 0 ≤ (w64 ((p1.size : Int) + (1 : Int))) ∧ (w64 ((p1.size : Int) + (1 : Int))) * (1 : Int) ≤ 140737488355328 ∧ (w64 ((p1.size : Int) + (1 : Int))) ≤ 9223372036854775807 then if 0 ≤ (0 : Int) ∧ (0 : Int) < ((List.replicate (w64 ((p1.size : Int) + (1 : Int))).toNat false).length : Int) then (bosketref04_ends k p0 p1 (lset (List.replicate (w64 ((p1.size : Int) + (1 : Int))).toNat false) (0 : Int) true)).bind fun t6 =>
  if 0 ≤ (p1.size : Int) ∧ (p1.size : Int) < (t6.length : Int) then some ((lget t6 (p1.size : Int)))
  else none
  else none
  else none
theorem bosketref04_Has_spec {k : Nat} {p0 : (List S82)} {p1 : ByteArray} {r : Bool} (h : bosketref04_Has k p0 p1 = some r) : Spec Try.prog 33 [(.fz 5 (p0.map e82)), (eStr p1)] (eBool r) := by
  rw [bosketref04_Has.eq_1] at h
  refine Spec.intro (res := [.tmp 4]) Try.func33 rfl rfl rfl (Nat.le_of_ble_eq_true rfl) ?_
  refine AW.sr ?_
  refine AO.c (Calm.assign rfl rfl) ?_
  refine AO.nK [0, 1] ?_
  refine AW.sr ?_
  refine AO.c (Calm.move rfl rfl) ?_
  refine AO.c (Calm.lenStr rfl rfl Try.underlying9) ?_
  refine AO.c (x := eI64 (w64 ((p1.size : Int) + (1 : Int)))) (Calm.int rfl rfl rfl rfl) ?_
  obtain ⟨hg4, h⟩ := of_guard h
  refine AO.makeL (f := eBool) false rfl 9 rfl (by decide) rfl rfl rfl Try.underlying25 sz4 by4 zr4 lay4 rfl hg4 fun n3 => ?_
  refine AO.c (Calm.assign rfl rfl) ?_
  refine AO.nK [0, 1, 5] ?_
  refine AW.sr ?_
  refine AO.c (Calm.move rfl rfl) ?_
  obtain ⟨hg5, h⟩ := of_guard h
  refine AO.c (Calm.idxO 0 rfl rfl rfl rfl hg5 Try.underlying25 sz4) ?_
  refine AO.store (X' := (.ar 1 ((lset (List.replicate (w64 ((p1.size : Int) + (1 : Int))).toNat false) (0 : Int) true).map eBool))) 0 rfl rfl rfl rfl rfl rfl (Put.cast (Put.lidx (0 : Int) true hg5.1 hg5.2 Put.here) (by omega)) rfl rfl sz4 rfl ?_
  refine AO.coe 5 (y' := (.own n3 0 (lset (List.replicate (w64 ((p1.size : Int) + (1 : Int))).toNat false) (0 : Int) true).length)) rfl (fun _ _ h => lset_own h) ?_
  refine AO.coe 10 (y' := (.own n3 0 (lset (List.replicate (w64 ((p1.size : Int) + (1 : Int))).toNat false) (0 : Int) true).length)) rfl (fun _ _ h => lset_own h) ?_
  refine AO.nK [0, 1, 5] ?_
  refine AW.sr ?_
  refine AO.c (Calm.move rfl rfl) ?_
  refine AO.c (Calm.move rfl rfl) ?_
  refine AO.c (Calm.move rfl rfl) ?_
  obtain ⟨t6, et6, h⟩ := of_bind h
  refine AO.freezeS 0 [(5, (.fz 1 ((lset (List.replicate (w64 ((p1.size : Int) + (1 : Int))).toNat false) (0 : Int) true).map eBool))), (14, (.fz 1 ((lset (List.replicate (w64 ((p1.size : Int) + (1 : Int))).toNat false) (0 : Int) true).map eBool)))] rfl ⟨fz_all rfl, fz_all rfl, trivial⟩ ?_
  refine AO.callS [(.fz 5 (p0.map e82)), (eStr p1), (.fz 1 ((lset (List.replicate (w64 ((p1.size : Int) + (1 : Int))).toNat false) (0 : Int) true).map eBool))] (.fz 1 (t6.map eBool)) 15 rfl (by decide) ok60 rfl rfl rfl ⟨rfl, rfl, rfl, rfl, rfl, rfl, trivial⟩ (bosketref04_ends_spec et6) ?_
  refine AO.c (Calm.move rfl rfl) ?_
  refine AO.c (Calm.lenStr rfl rfl Try.underlying9) ?_
  obtain ⟨hg7, h⟩ := of_guard h
  refine AO.c (Calm.idxL (f := eBool) rfl rfl rfl hg7 Try.underlying25 sz4) ?_
  refine AO.c (Calm.loadRp rfl rfl ag4 sz4) ?_
  refine AO.c (Calm.assign rfl rfl) ?_
  refine AO.nK [4] ?_
  refine AW.rK [4] ?_
  have hr := Option.some.inj h
  subst hr
  exact ⟨[(eBool (lget t6 (p1.size : Int)))], ⟨rfl, rfl, trivial⟩, rfl⟩
end Go.Avl.T3
/- bosket/bosketlaw05.awake; printed by avmain.py. -/
namespace Go.Avl.T3
open Go Go.RowKit Go.Proofs Go.Avl
set_option linter.unusedVariables false
set_option maxRecDepth 100000
set_option maxHeartbeats 4000000
attribute [local irreducible] AW AO AQ Spec SpecH Calm

def bosketlaw05_awake (k : Nat) : Option Bool :=
  (deriv_By k [(S82.mk (1 : Int) (vset (vset (Vector.replicate 4 (0 : Int)) (0 : Int) (0 : Int)) (1 : Int) (8589934592 : Int))), (S82.mk (4 : Int) (Vector.replicate 4 (0 : Int)))] (97 : Int)).bind fun t2 =>
  (deriv_By k [(S82.mk (1 : Int) (vset (vset (Vector.replicate 4 (0 : Int)) (0 : Int) (0 : Int)) (1 : Int) (8589934592 : Int))), (S82.mk (4 : Int) (Vector.replicate 4 (0 : Int)))] (98 : Int)).bind fun t3 =>
  Option.bind (α := Bool) (if (!t2.f0) = true then (bosketref05_Fits k t2.f1).bind fun t9 =>
  if t9 = true then (bosketref04_Has k t2.f1 (ByteArray.mk #[97, 97])).bind fun t11 =>
  if t11 = true then (bosketref04_Has k t2.f1 (ByteArray.mk #[98])).bind fun t13 =>
  if (!t13) = true then if t3.f0 = true then (deriv_Empty k [(S82.mk (1 : Int) (vset (vset (Vector.replicate 4 (0 : Int)) (0 : Int) (0 : Int)) (1 : Int) (8589934592 : Int))), (S82.mk (4 : Int) (Vector.replicate 4 (0 : Int)))]).bind fun t16 =>
  some (t16)
  else some (false)
  else some (false)
  else some (false)
  else some (false)
  else some (false)) fun b6 =>
  some (b6)
theorem bosketlaw05_awake_spec {k : Nat}  {r : Bool} (h : bosketlaw05_awake k = some r) : Spec Try.prog 30 [] (eBool r) := by
  rw [bosketlaw05_awake.eq_1] at h
  refine Spec.intro (res := [.tmp 0]) Try.func30 rfl rfl rfl (Nat.le_of_ble_eq_true rfl) ?_
  refine AW.sr ?_
  refine AO.c (Calm.assign rfl rfl) ?_
  refine AO.nK [] ?_
  refine AW.sr ?_
  refine AO.c (x := .ar 1 ((vset (vset (Vector.replicate 4 (0 : Int)) (0 : Int) (0 : Int)) (1 : Int) (8589934592 : Int)).toList.map eU64)) (Calm.buildAr (qs := [(0, (eU64 (0 : Int))), (1, (eU64 (8589934592 : Int)))]) rfl ⟨rfl, rfl, rfl, rfl, rfl, rfl, trivial⟩ Try.underlying33 sz31 zr33 lay33 (.cons rfl rfl rfl rfl (Put.cast (Put.vidx (0 : Int) (0 : Int) (by decide) (by decide) Put.here) rfl) (.cons rfl rfl rfl rfl (Put.cast (Put.vidx (1 : Int) (8589934592 : Int) (by decide) (by decide) Put.here) rfl) .nil)) rfl) ?_
  refine AO.c (x := .st [(1, (eI64 (1 : Int))), (4, (.ar 1 ((vset (vset (Vector.replicate 4 (0 : Int)) (0 : Int) (0 : Int)) (1 : Int) (8589934592 : Int)).toList.map eU64)))]) (Calm.build (qs := [(0, (eI64 (1 : Int))), (1, (.ar 1 ((vset (vset (Vector.replicate 4 (0 : Int)) (0 : Int) (0 : Int)) (1 : Int) (8589934592 : Int)).toList.map eU64)))]) rfl ⟨rfl, rfl, rfl, rfl, rfl, rfl, trivial⟩ Try.underlying82 rfl zr82 lay82 (.cons rfl rfl rfl rfl (Put.cast (Put.fld0 Put.here) rfl) (.cons rfl rfl (vec_size _ _) (vec_size _ _) (Put.cast (Put.fldS (Put.fld0 Put.here)) rfl) .nil)) rfl) ?_
  refine AO.c (x := .st [(1, (eI64 (4 : Int))), (4, (.ar 1 ((Vector.replicate 4 (0 : Int)).toList.map eU64)))]) (Calm.build (qs := [(0, (eI64 (4 : Int)))]) rfl ⟨rfl, rfl, rfl, trivial⟩ Try.underlying82 rfl zr82 lay82 (.cons rfl rfl rfl rfl (Put.cast (Put.fld0 Put.here) rfl) .nil) rfl) ?_
  refine AO.lit (Z := (.st [(1, (eI64 (0 : Int))), (4, (.ar 1 ((Vector.replicate 4 (0 : Int)).toList.map eU64)))])) (xs := (([(S82.mk (1 : Int) (vset (vset (Vector.replicate 4 (0 : Int)) (0 : Int) (0 : Int)) (1 : Int) (8589934592 : Int))), (S82.mk (4 : Int) (Vector.replicate 4 (0 : Int)))] : List S82).map e82)) (qs := [(0, (e82 (S82.mk (1 : Int) (vset (vset (Vector.replicate 4 (0 : Int)) (0 : Int) (0 : Int)) (1 : Int) (8589934592 : Int))))), (1, (e82 (S82.mk (4 : Int) (Vector.replicate 4 (0 : Int)))))]) rfl 7 rfl (by decide) rfl ⟨rfl, rfl, rfl, rfl, rfl, rfl, trivial⟩ Try.underlying58 sz82 zr82 lay82 rfl (by decide) (litOK (z := 5) [(e82 (S82.mk (1 : Int) (vset (vset (Vector.replicate 4 (0 : Int)) (0 : Int) (0 : Int)) (1 : Int) (8589934592 : Int)))), (e82 (S82.mk (4 : Int) (Vector.replicate 4 (0 : Int))))] rfl ⟨⟨rfl, rfl⟩, ⟨rfl, rfl⟩, trivial⟩) rfl fun n1 => ?_
  refine AO.c (Calm.assign rfl rfl) ?_
  refine AO.nK [1] ?_
  refine AW.sr ?_
  refine AO.c (Calm.move rfl rfl) ?_
  obtain ⟨t2, et2, h⟩ := of_bind h
  refine AO.freezeS 0 [(1, (.fz 5 (([(S82.mk (1 : Int) (vset (vset (Vector.replicate 4 (0 : Int)) (0 : Int) (0 : Int)) (1 : Int) (8589934592 : Int))), (S82.mk (4 : Int) (Vector.replicate 4 (0 : Int)))] : List S82).map e82))), (8, (.fz 5 (([(S82.mk (1 : Int) (vset (vset (Vector.replicate 4 (0 : Int)) (0 : Int) (0 : Int)) (1 : Int) (8589934592 : Int))), (S82.mk (4 : Int) (Vector.replicate 4 (0 : Int)))] : List S82).map e82)))] rfl ⟨fz_all rfl, fz_all rfl, trivial⟩ ?_
  refine AO.callS [(.fz 5 (([(S82.mk (1 : Int) (vset (vset (Vector.replicate 4 (0 : Int)) (0 : Int) (0 : Int)) (1 : Int) (8589934592 : Int))), (S82.mk (4 : Int) (Vector.replicate 4 (0 : Int)))] : List S82).map e82)), (eU8 (97 : Int))] (e62 t2) 9 rfl (by decide) ok43 rfl rfl rfl ⟨rfl, rfl, rfl, rfl, trivial⟩ (deriv_By_spec et2) ?_
  refine AO.c (Calm.move rfl rfl) ?_
  obtain ⟨t3, et3, h⟩ := of_bind h
  refine AO.callS [(.fz 5 (([(S82.mk (1 : Int) (vset (vset (Vector.replicate 4 (0 : Int)) (0 : Int) (0 : Int)) (1 : Int) (8589934592 : Int))), (S82.mk (4 : Int) (Vector.replicate 4 (0 : Int)))] : List S82).map e82)), (eU8 (98 : Int))] (e62 t3) 11 rfl (by decide) ok43 rfl rfl rfl ⟨rfl, rfl, rfl, rfl, trivial⟩ (deriv_By_spec et3) ?_
  refine AO.alloc rfl 2 rfl (by decide) rfl zr62 lay62 fun n4 => ?_
  refine AO.alloc rfl 3 rfl (by decide) rfl zr62 lay62 fun n5 => ?_
  refine AO.store (X' := (e62 t2)) 1 rfl rfl rfl rfl rfl rfl (Put.cast Put.here rfl) rfl rfl sz62 rfl ?_
  refine AO.store (X' := (e62 t3)) 0 rfl rfl rfl rfl rfl rfl (Put.cast Put.here rfl) rfl rfl sz62 rfl ?_
  refine AO.nH [1, 2, 3] (H' := [(n4, (.mem (e62 t2))), (n5, (.mem (e62 t3)))]) (Sub.cons 1 rfl (Sub.cons 0 rfl (Sub.nil _))) ?_
  refine AW.seq ?_
  obtain ⟨b6, hq7, h⟩ := of_bind h
  refine AW.regM [(0, (eBool b6))] [] ?_ ?_
  ·refine AO.c (x := .ptr n4 0) (Calm.fldPtr rfl rfl Try.underlying62 rfl sz4 _ rfl) ?_
   refine AO.c (Calm.load 0 rfl rfl rfl (At.cast (At.fld0 At.here) rfl) ag4 sz4) ?_
   refine AO.c (Calm.not rfl rfl) ?_
   refine AO.c (Calm.move rfl rfl) ?_
   rcases of_ite hq7 with ⟨hc8, hq7⟩ | ⟨hc8, hq7⟩
   ·refine AO.cG (x := .ptr n4 1) rfl rfl (bD hc8) (Calm.fldPtr rfl rfl Try.underlying62 rfl sz58 _ rfl) ?_
    refine AO.cG rfl rfl (bD hc8) (Calm.load 0 rfl rfl rfl (At.cast (At.fldS (At.fld0 At.here)) rfl) ag58 sz58) ?_
    obtain ⟨t9, et9, hq7⟩ := of_bind hq7
    refine AO.callG 3 true 15 [(.fz 5 (t2.f1.map e82))] (eBool t9) 18 rfl (by decide) ok34 rfl rfl (bD hc8) rfl rfl ⟨rfl, rfl, trivial⟩ (bosketref05_Fits_spec et9) ?_
    refine AO.c (Calm.pickT rfl (bD hc8) rfl) ?_
    refine AO.c (Calm.move rfl rfl) ?_
    rcases of_ite hq7 with ⟨hc10, hq7⟩ | ⟨hc10, hq7⟩
    ·refine AO.cG (x := .ptr n4 1) rfl rfl (bD hc10) (Calm.fldPtr rfl rfl Try.underlying62 rfl sz58 _ rfl) ?_
     refine AO.cG rfl rfl (bD hc10) (Calm.load 0 rfl rfl rfl (At.cast (At.fldS (At.fld0 At.here)) rfl) ag58 sz58) ?_
     obtain ⟨t11, et11, hq7⟩ := of_bind hq7
     refine AO.callG 8 true 20 [(.fz 5 (t2.f1.map e82)), (eStr (ByteArray.mk #[97, 97]))] (eBool t11) 23 rfl (by decide) ok33 rfl rfl (bD hc10) rfl rfl ⟨rfl, rfl, rfl, rfl, trivial⟩ (bosketref04_Has_spec et11) ?_
     refine AO.c (Calm.pickT rfl (bD hc10) rfl) ?_
     refine AO.c (Calm.move rfl rfl) ?_
     rcases of_ite hq7 with ⟨hc12, hq7⟩ | ⟨hc12, hq7⟩
     ·refine AO.cG (x := .ptr n4 1) rfl rfl (bD hc12) (Calm.fldPtr rfl rfl Try.underlying62 rfl sz58 _ rfl) ?_
      refine AO.cG rfl rfl (bD hc12) (Calm.load 0 rfl rfl rfl (At.cast (At.fldS (At.fld0 At.here)) rfl) ag58 sz58) ?_
      obtain ⟨t13, et13, hq7⟩ := of_bind hq7
      refine AO.callG 13 true 25 [(.fz 5 (t2.f1.map e82)), (eStr (ByteArray.mk #[98]))] (eBool t13) 28 rfl (by decide) ok33 rfl rfl (bD hc12) rfl rfl ⟨rfl, rfl, rfl, rfl, trivial⟩ (bosketref04_Has_spec et13) ?_
      refine AO.cG rfl rfl (bD hc12) (Calm.not rfl rfl) ?_
      refine AO.c (Calm.pickT rfl (bD hc12) rfl) ?_
      refine AO.c (Calm.move rfl rfl) ?_
      rcases of_ite hq7 with ⟨hc14, hq7⟩ | ⟨hc14, hq7⟩
      ·refine AO.cG (x := .ptr n5 0) rfl rfl (bD hc14) (Calm.fldPtr rfl rfl Try.underlying62 rfl sz4 _ rfl) ?_
       refine AO.cG rfl rfl (bD hc14) (Calm.load 1 rfl rfl rfl (At.cast (At.fld0 At.here) rfl) ag4 sz4) ?_
       refine AO.c (Calm.pickT rfl (bD hc14) rfl) ?_
       refine AO.c (Calm.move rfl rfl) ?_
       rcases of_ite hq7 with ⟨hc15, hq7⟩ | ⟨hc15, hq7⟩
       ·refine AO.cG rfl rfl (bD hc15) (Calm.move rfl rfl) ?_
        obtain ⟨t16, et16, hq7⟩ := of_bind hq7
        refine AO.callG 23 true 35 [(.fz 5 (([(S82.mk (1 : Int) (vset (vset (Vector.replicate 4 (0 : Int)) (0 : Int) (0 : Int)) (1 : Int) (8589934592 : Int))), (S82.mk (4 : Int) (Vector.replicate 4 (0 : Int)))] : List S82).map e82))] (eBool t16) 37 rfl (by decide) ok41 rfl rfl (bD hc15) rfl rfl ⟨rfl, rfl, trivial⟩ (deriv_Empty_spec et16) ?_
        refine AO.c (Calm.pickT rfl (bD hc15) rfl) ?_
        refine AO.c (Calm.assign rfl rfl) ?_
        cases hq7
        refine AO.nilE ⟨rfl, rfl⟩ ?_ ?_
        · exact ⟨rfl, trivial⟩
        · exact (Sub.nil _)
       ·refine AO.sT rfl rfl (bD (eq_false_of_ne_true hc15)) ?_
        refine AO.sT rfl rfl (bD (eq_false_of_ne_true hc15)) ?_
        refine AO.c (Calm.pickF rfl (bD (eq_false_of_ne_true hc15)) rfl) ?_
        refine AO.c (Calm.assign rfl rfl) ?_
        cases hq7
        refine AO.nilE ⟨rfl, rfl⟩ ?_ ?_
        · exact ⟨rfl, trivial⟩
        · exact (Sub.nil _)
      ·refine AO.sT rfl rfl (bD (eq_false_of_ne_true hc14)) ?_
       refine AO.sT rfl rfl (bD (eq_false_of_ne_true hc14)) ?_
       refine AO.c (Calm.pickF rfl (bD (eq_false_of_ne_true hc14)) rfl) ?_
       refine AO.c (Calm.move rfl rfl) ?_
       refine AO.sT rfl rfl rfl ?_
       refine AO.sT rfl rfl rfl ?_
       refine AO.c (Calm.pickF rfl rfl rfl) ?_
       refine AO.c (Calm.assign rfl rfl) ?_
       cases hq7
       refine AO.nilE ⟨rfl, rfl⟩ ?_ ?_
       · exact ⟨rfl, trivial⟩
       · exact (Sub.nil _)
     ·refine AO.sT rfl rfl (bD (eq_false_of_ne_true hc12)) ?_
      refine AO.sT rfl rfl (bD (eq_false_of_ne_true hc12)) ?_
      refine AO.sT rfl rfl (bD (eq_false_of_ne_true hc12)) ?_
      refine AO.sT rfl rfl (bD (eq_false_of_ne_true hc12)) ?_
      refine AO.c (Calm.pickF rfl (bD (eq_false_of_ne_true hc12)) rfl) ?_
      refine AO.c (Calm.move rfl rfl) ?_
      refine AO.sT rfl rfl rfl ?_
      refine AO.sT rfl rfl rfl ?_
      refine AO.c (Calm.pickF rfl rfl rfl) ?_
      refine AO.c (Calm.move rfl rfl) ?_
      refine AO.sT rfl rfl rfl ?_
      refine AO.sT rfl rfl rfl ?_
      refine AO.c (Calm.pickF rfl rfl rfl) ?_
      refine AO.c (Calm.assign rfl rfl) ?_
      cases hq7
      refine AO.nilE ⟨rfl, rfl⟩ ?_ ?_
      · exact ⟨rfl, trivial⟩
      · exact (Sub.nil _)
    ·refine AO.sT rfl rfl (bD (eq_false_of_ne_true hc10)) ?_
     refine AO.sT rfl rfl (bD (eq_false_of_ne_true hc10)) ?_
     refine AO.sT rfl rfl (bD (eq_false_of_ne_true hc10)) ?_
     refine AO.c (Calm.pickF rfl (bD (eq_false_of_ne_true hc10)) rfl) ?_
     refine AO.c (Calm.move rfl rfl) ?_
     refine AO.sT rfl rfl rfl ?_
     refine AO.sT rfl rfl rfl ?_
     refine AO.sT rfl rfl rfl ?_
     refine AO.sT rfl rfl rfl ?_
     refine AO.c (Calm.pickF rfl rfl rfl) ?_
     refine AO.c (Calm.move rfl rfl) ?_
     refine AO.sT rfl rfl rfl ?_
     refine AO.sT rfl rfl rfl ?_
     refine AO.c (Calm.pickF rfl rfl rfl) ?_
     refine AO.c (Calm.move rfl rfl) ?_
     refine AO.sT rfl rfl rfl ?_
     refine AO.sT rfl rfl rfl ?_
     refine AO.c (Calm.pickF rfl rfl rfl) ?_
     refine AO.c (Calm.assign rfl rfl) ?_
     cases hq7
     refine AO.nilE ⟨rfl, rfl⟩ ?_ ?_
     · exact ⟨rfl, trivial⟩
     · exact (Sub.nil _)
   ·refine AO.sT rfl rfl (bD (eq_false_of_ne_true hc8)) ?_
    refine AO.sT rfl rfl (bD (eq_false_of_ne_true hc8)) ?_
    refine AO.sT rfl rfl (bD (eq_false_of_ne_true hc8)) ?_
    refine AO.c (Calm.pickF rfl (bD (eq_false_of_ne_true hc8)) rfl) ?_
    refine AO.c (Calm.move rfl rfl) ?_
    refine AO.sT rfl rfl rfl ?_
    refine AO.sT rfl rfl rfl ?_
    refine AO.sT rfl rfl rfl ?_
    refine AO.c (Calm.pickF rfl rfl rfl) ?_
    refine AO.c (Calm.move rfl rfl) ?_
    refine AO.sT rfl rfl rfl ?_
    refine AO.sT rfl rfl rfl ?_
    refine AO.sT rfl rfl rfl ?_
    refine AO.sT rfl rfl rfl ?_
    refine AO.c (Calm.pickF rfl rfl rfl) ?_
    refine AO.c (Calm.move rfl rfl) ?_
    refine AO.sT rfl rfl rfl ?_
    refine AO.sT rfl rfl rfl ?_
    refine AO.c (Calm.pickF rfl rfl rfl) ?_
    refine AO.c (Calm.move rfl rfl) ?_
    refine AO.sT rfl rfl rfl ?_
    refine AO.sT rfl rfl rfl ?_
    refine AO.c (Calm.pickF rfl rfl rfl) ?_
    refine AO.c (Calm.assign rfl rfl) ?_
    cases hq7
    refine AO.nilE ⟨rfl, rfl⟩ ?_ ?_
    · exact ⟨rfl, trivial⟩
    · exact (Sub.nil _)
  ·refine AW.rK [0] ?_
   have hr := Option.some.inj h
   subst hr
   exact ⟨[(eBool b6)], ⟨rfl, rfl, trivial⟩, rfl⟩
end Go.Avl.T3
/- bosket/bosketlaw05.DerivFirst; printed by avmain.py. -/
namespace Go.Avl.T3
open Go Go.RowKit Go.Proofs Go.Avl
set_option linter.unusedVariables false
set_option maxRecDepth 100000
set_option maxHeartbeats 4000000
attribute [local irreducible] AW AO AQ Spec SpecH Calm

def bosketlaw05_DerivFirst (k : Nat) (p0 : (List S82)) (p1 : Int) : Option Bool :=
  (bosketlaw05_awake k).bind fun t3 =>
  if (!t3) = true then some (false)
  else Option.bind (α := Bool) (if (60 : Int) < (p0.length : Int) then some (true)
  else (bosketref04_Check k p0).bind fun t8 =>
  some (decide (t8 ≠ (0 : Int)))) fun b5 =>
  if b5 = true then some (true)
  else (bosketref05_First k p0).bind fun t10 =>
  Option.bind (α := Bool) ((deriv_Empty k p0).bind fun t14 =>
  if (t14 == t10.2) = true then (deriv_First k p0).bind fun t16 =>
  if t16 = t10.1 then (deriv_By k p0 p1).bind fun t18 =>
  (bosketref02_Has k t10.1 (w64 p1)).bind fun t19 =>
  some ((t18.f0 != t19))
  else some (false)
  else some (false)) fun b12 =>
  some (b12)
theorem bosketlaw05_DerivFirst_spec {k : Nat} {p0 : (List S82)} {p1 : Int} {r : Bool} (h : bosketlaw05_DerivFirst k p0 p1 = some r) : Spec Try.prog 8 [(.fz 5 (p0.map e82)), (eU8 p1)] (eBool r) := by
  rw [bosketlaw05_DerivFirst.eq_1] at h
  refine Spec.intro (res := [.tmp 4]) Try.func8 rfl rfl rfl (Nat.le_of_ble_eq_true rfl) ?_
  refine AW.sr ?_
  refine AO.c (Calm.assign rfl rfl) ?_
  refine AO.nK [0, 1] ?_
  refine AW.seq ?_
  refine AW.sr ?_
  obtain ⟨t3, et3, h⟩ := of_bind h
  refine AO.callS [] (eBool t3) 7 rfl (by decide) ok30 rfl rfl rfl trivial (bosketlaw05_awake_spec et3) ?_
  refine AO.c (Calm.not rfl rfl) ?_
  refine AO.nK [0, 1, 8] ?_
  rcases of_ite h with ⟨hc4, h⟩ | ⟨hc4, h⟩
  ·refine AW.condT' _ rfl hc4 ?_
   refine AW.sr ?_
   refine AO.c (Calm.assign rfl rfl) ?_
   refine AO.nK [4] ?_
   refine AW.rK [4] ?_
   have hr := Option.some.inj h
   subst hr
   exact ⟨[(eBool false)], ⟨rfl, rfl, trivial⟩, rfl⟩
  ·refine AW.condF' _ rfl hc4 ?_
   refine AW.sK [0, 1] ?_
   refine AW.seq ?_
   refine AW.seq ?_
   obtain ⟨b5, hq6, h⟩ := of_bind h
   refine AW.regM [(0, (.fz 5 (p0.map e82))), (1, (eU8 p1)), (16, (eBool b5))] [] ?_ ?_
   ·refine AO.c (Calm.move rfl rfl) ?_
    refine AO.c (Calm.lenL rfl rfl Try.underlying58) ?_
    refine AO.c (x := eBool (decide ((60 : Int) < (p0.length : Int)))) (Calm.int rfl rfl rfl rfl) ?_
    refine AO.c (Calm.move rfl rfl) ?_
    rcases of_ite hq6 with ⟨hc7, hq6⟩ | ⟨hc7, hq6⟩
    ·refine AO.sF rfl rfl (bD (decide_eq_true hc7)) ?_
     refine AO.sF rfl rfl (bD (decide_eq_true hc7)) ?_
     refine AO.sF rfl rfl (bD (decide_eq_true hc7)) ?_
     refine AO.c (Calm.pickT rfl (bD (decide_eq_true hc7)) rfl) ?_
     cases hq6
     refine AO.nilE ⟨rfl, rfl⟩ ?_ ?_
     · exact ⟨rfl, rfl, rfl, trivial⟩
     · exact (Sub.refl _)
    ·refine AO.cG rfl rfl (bD (decide_eq_false hc7)) (Calm.move rfl rfl) ?_
     obtain ⟨t8, et8, hq6⟩ := of_bind hq6
     refine AO.callG 3 false 12 [(.fz 5 (p0.map e82))] (eI64 t8) 14 rfl (by decide) ok32 rfl rfl (bD (decide_eq_false hc7)) rfl rfl ⟨rfl, rfl, trivial⟩ (bosketref04_Check_spec et8) ?_
     refine AO.cG (x := eBool (decide (t8 ≠ (0 : Int)))) rfl rfl (bD (decide_eq_false hc7)) (Calm.int rfl rfl rfl rfl) ?_
     refine AO.c (Calm.pickF rfl (bD (decide_eq_false hc7)) rfl) ?_
     cases hq6
     refine AO.nilE ⟨rfl, rfl⟩ ?_ ?_
     · exact ⟨rfl, rfl, rfl, trivial⟩
     · exact (Sub.refl _)
   ·rcases of_ite h with ⟨hc9, h⟩ | ⟨hc9, h⟩
    ·refine AW.condT' _ rfl hc9 ?_
     refine AW.sr ?_
     refine AO.c (Calm.assign rfl rfl) ?_
     refine AO.nK [4] ?_
     refine AW.rK [4] ?_
     have hr := Option.some.inj h
     subst hr
     exact ⟨[(eBool true)], ⟨rfl, rfl, trivial⟩, rfl⟩
    ·refine AW.condF' _ rfl hc9 ?_
     refine AW.sK [0, 1] ?_
     refine AW.sr ?_
     refine AO.c (Calm.move rfl rfl) ?_
     obtain ⟨t10, et10, h⟩ := of_bind h
     refine AO.callS [(.fz 5 (p0.map e82))] (.tup [(.ar 1 (t10.1.toList.map eU64)), (eBool t10.2)]) 19 rfl (by decide) ok40 rfl rfl rfl ⟨rfl, rfl, trivial⟩ (bosketref05_First_spec et10) ?_
     refine AO.c (Calm.move rfl rfl) ?_
     refine AO.c (Calm.extract rfl rfl rfl) ?_
     refine AO.c (Calm.extract rfl rfl rfl) ?_
     refine AO.alloc rfl 5 rfl (by decide) rfl zr33 lay33 fun n11 => ?_
     refine AO.store (X' := (.ar 1 (t10.1.toList.map eU64))) 0 rfl rfl rfl rfl rfl rfl (Put.cast Put.here rfl) rfl (by simp [AV.size]) (by rw [sz33]; simp [AV.size]) rfl ?_
     refine AO.c (Calm.assign rfl rfl) ?_
     refine AO.nK [0, 1, 5, 6] ?_
     refine AW.seq ?_
     obtain ⟨b12, hq13, h⟩ := of_bind h
     refine AW.toM [(4, (eBool b12))] [] ?_ ?_
     ·obtain ⟨t14, et14, hq13⟩ := of_bind hq13
      rcases of_ite hq13 with ⟨hc15, hq13⟩ | ⟨hc15, hq13⟩
      ·obtain ⟨t16, et16, hq13⟩ := of_bind hq13
       rcases of_ite hq13 with ⟨hc17, hq13⟩ | ⟨hc17, hq13⟩
       ·obtain ⟨t18, et18, hq13⟩ := of_bind hq13
        obtain ⟨t19, et19, hq13⟩ := of_bind hq13
        refine AW.regAny (by rfl) (by decide +kernel) [(.fz 5 (p0.map e82)), (eBool t14), (eBool t10.2), (eBool (t14 == t10.2)), (eBool (t14 == t10.2)), (.fz 5 (p0.map e82)), (.ar 1 (t16.toList.map eU64)), (.ar 1 (t10.1.toList.map eU64)), (eBool (decide (t16 = t10.1))), (eBool (decide (t16 = t10.1))), (eBool (decide (t16 = t10.1))), (.fz 5 (p0.map e82)), (eU8 p1), (e62 t18), (eBool t18.f0), (.ar 1 (t10.1.toList.map eU64)), (eU8 p1), (eI64 (w64 p1)), (eBool t19), (eBool (t18.f0 != t19)), (eBool (t18.f0 != t19)), (eBool (t18.f0 != t19))] [(0, (.fz 5 (p0.map e82))), (1, (eU8 p1)), (5, (.ptr n11 0)), (6, (eBool t10.2))] ⟨rfl, rfl, rfl, rfl, trivial⟩ rfl ?_ [(4, (eBool (t18.f0 != t19)))] [] ⟨rfl, trivial⟩ (Sub.nil _) ?_
        ·refine ⟨?_, ?_, ?_, ?_, ?_, ?_, ?_, ?_, ?_, ?_, ?_, ?_, ?_, ?_, ?_, ?_, ?_, ?_, ?_, ?_, ?_, ?_, trivial⟩
         ·refine AO.wK [0] ?_
          refine AO.c (Calm.move rfl rfl) ?_
          exact AO.nE (d := 22) rfl ⟨⟨_, rfl, rfl⟩, Sub.refl _⟩
         ·refine AO.wK [22] ?_
          refine AO.callS [(.fz 5 (p0.map e82))] (eBool t14) 23 rfl (by decide) ok41 rfl rfl rfl ⟨rfl, rfl, trivial⟩ (deriv_Empty_spec et14) ?_
          exact AO.nE (d := 23) rfl ⟨⟨_, rfl, rfl⟩, Sub.refl _⟩
         ·refine AO.wK [6] ?_
          refine AO.c (Calm.move rfl rfl) ?_
          exact AO.nE (d := 24) rfl ⟨⟨_, rfl, rfl⟩, Sub.refl _⟩
         ·refine AO.wK [23, 24] ?_
          refine AO.c (x := eBool (t14 == t10.2)) (Calm.boolEq rfl rfl rfl Try.underlying4) ?_
          exact AO.nE (d := 25) rfl ⟨⟨_, rfl, rfl⟩, Sub.refl _⟩
         ·refine AO.wK [25] ?_
          refine AO.c (Calm.move rfl rfl) ?_
          exact AO.nE (d := 26) rfl ⟨⟨_, rfl, rfl⟩, Sub.refl _⟩
         ·refine AO.wK [0, 26] ?_
          refine AO.cG rfl rfl (bD hc15) (Calm.move rfl rfl) ?_
          exact AO.nE (d := 27) rfl ⟨⟨_, rfl, rfl⟩, Sub.refl _⟩
         ·refine AO.wK [26, 27] ?_
          refine AO.callG 4 true 26 [(.fz 5 (p0.map e82))] (.ar 1 (t16.toList.map eU64)) 28 rfl (by decide) ok42 rfl rfl (bD hc15) rfl rfl ⟨rfl, rfl, trivial⟩ (deriv_First_spec et16) ?_
          exact AO.nE (d := 28) rfl ⟨⟨_, rfl, rfl⟩, Sub.refl _⟩
         ·refine AO.wK [5, 26] ?_
          refine AO.cG rfl rfl (bD hc15) (Calm.load 0 rfl rfl rfl (At.cast At.here rfl) ag33 (by rw [sz33]; simp [AV.size])) ?_
          exact AO.nE (d := 29) rfl ⟨⟨_, rfl, rfl⟩, Sub.refl _⟩
         ·refine AO.wK [26, 28, 29] ?_
          refine AO.cG (x := eBool (decide (t16 = t10.1))) rfl rfl (bD hc15) (Calm.eqA rfl rfl rfl eg33 (eqa33 t16 t10.1) (by decide)) ?_
          exact AO.nE (d := 30) rfl ⟨⟨_, rfl, rfl⟩, Sub.refl _⟩
         ·refine AO.wK [26, 30] ?_
          refine AO.c (Calm.pickT rfl (bD hc15) rfl) ?_
          exact AO.nE (d := 31) rfl ⟨⟨_, rfl, rfl⟩, Sub.refl _⟩
         ·refine AO.wK [31] ?_
          refine AO.c (Calm.move rfl rfl) ?_
          exact AO.nE (d := 32) rfl ⟨⟨_, rfl, rfl⟩, Sub.refl _⟩
         ·refine AO.wK [0, 32] ?_
          refine AO.cG rfl rfl (bD (decide_eq_true hc17)) (Calm.move rfl rfl) ?_
          exact AO.nE (d := 33) rfl ⟨⟨_, rfl, rfl⟩, Sub.refl _⟩
         ·refine AO.wK [1, 32] ?_
          refine AO.cG rfl rfl (bD (decide_eq_true hc17)) (Calm.move rfl rfl) ?_
          exact AO.nE (d := 34) rfl ⟨⟨_, rfl, rfl⟩, Sub.refl _⟩
         ·refine AO.wK [32, 33, 34] ?_
          refine AO.callG 10 true 32 [(.fz 5 (p0.map e82)), (eU8 p1)] (e62 t18) 35 rfl (by decide) ok43 rfl rfl (bD (decide_eq_true hc17)) rfl rfl ⟨rfl, rfl, rfl, rfl, trivial⟩ (deriv_By_spec et18) ?_
          exact AO.nE (d := 35) rfl ⟨⟨_, rfl, rfl⟩, Sub.refl _⟩
         ·refine AO.wK [32, 35] ?_
          refine AO.cG rfl rfl (bD (decide_eq_true hc17)) (Calm.field rfl rfl Try.underlying62 rfl (At.cast (At.fld0 At.here) rfl) ag4 sz4) ?_
          exact AO.nE (d := 36) rfl ⟨⟨_, rfl, rfl⟩, Sub.refl _⟩
         ·refine AO.wK [5, 32] ?_
          refine AO.cG rfl rfl (bD (decide_eq_true hc17)) (Calm.load 0 rfl rfl rfl (At.cast At.here rfl) ag33 (by rw [sz33]; simp [AV.size])) ?_
          exact AO.nE (d := 37) rfl ⟨⟨_, rfl, rfl⟩, Sub.refl _⟩
         ·refine AO.wK [1, 32] ?_
          refine AO.cG rfl rfl (bD (decide_eq_true hc17)) (Calm.move rfl rfl) ?_
          exact AO.nE (d := 38) rfl ⟨⟨_, rfl, rfl⟩, Sub.refl _⟩
         ·refine AO.wK [32, 38] ?_
          refine AO.cG (x := eI64 (w64 p1)) rfl rfl (bD (decide_eq_true hc17)) (Calm.conv rfl rfl Try.underlying5 Try.underlying3) ?_
          exact AO.nE (d := 39) rfl ⟨⟨_, rfl, rfl⟩, Sub.refl _⟩
         ·refine AO.wK [32, 37, 39] ?_
          refine AO.callG 10 true 32 [(.ar 1 (t10.1.toList.map eU64)), (eI64 (w64 p1))] (eBool t19) 40 rfl (by decide) ok44 rfl rfl (bD (decide_eq_true hc17)) rfl rfl ⟨rfl, rfl, rfl, rfl, trivial⟩ (bosketref02_Has_spec et19) ?_
          exact AO.nE (d := 40) rfl ⟨⟨_, rfl, rfl⟩, Sub.refl _⟩
         ·refine AO.wK [32, 36, 40] ?_
          refine AO.cG (x := eBool (t18.f0 != t19)) rfl rfl (bD (decide_eq_true hc17)) (Calm.boolNe rfl rfl rfl Try.underlying4) ?_
          exact AO.nE (d := 41) rfl ⟨⟨_, rfl, rfl⟩, Sub.refl _⟩
         ·refine AO.wK [32, 41] ?_
          refine AO.c (Calm.pickT rfl (bD (decide_eq_true hc17)) rfl) ?_
          exact AO.nE (d := 42) rfl ⟨⟨_, rfl, rfl⟩, Sub.refl _⟩
         ·refine AO.wK [42] ?_
          refine AO.c (Calm.assign rfl rfl) ?_
          exact AO.nE (d := 4) rfl ⟨⟨_, rfl, rfl⟩, Sub.refl _⟩
        ·cases hq13
         exact ⟨rfl, rfl, rfl⟩
       ·refine AW.regAny (by rfl) (by decide +kernel) [(.fz 5 (p0.map e82)), (eBool t14), (eBool t10.2), (eBool (t14 == t10.2)), (eBool (t14 == t10.2)), (.fz 5 (p0.map e82)), (.ar 1 (t16.toList.map eU64)), (.ar 1 (t10.1.toList.map eU64)), (eBool (decide (t16 = t10.1))), (eBool (decide (t16 = t10.1))), (eBool (decide (t16 = t10.1))), (.fl undef), (.fl undef), (.fl undef), (.fl undef), (.fl undef), (.fl undef), (.fl undef), (.fl undef), (.fl undef), (eBool false), (eBool false)] [(0, (.fz 5 (p0.map e82))), (1, (eU8 p1)), (5, (.ptr n11 0)), (6, (eBool t10.2))] ⟨rfl, rfl, rfl, rfl, trivial⟩ rfl ?_ [(4, (eBool false))] [] ⟨rfl, trivial⟩ (Sub.nil _) ?_
        ·refine ⟨?_, ?_, ?_, ?_, ?_, ?_, ?_, ?_, ?_, ?_, ?_, ?_, ?_, ?_, ?_, ?_, ?_, ?_, ?_, ?_, ?_, ?_, trivial⟩
         ·refine AO.wK [0] ?_
          refine AO.c (Calm.move rfl rfl) ?_
          exact AO.nE (d := 22) rfl ⟨⟨_, rfl, rfl⟩, Sub.refl _⟩
         ·refine AO.wK [22] ?_
          refine AO.callS [(.fz 5 (p0.map e82))] (eBool t14) 23 rfl (by decide) ok41 rfl rfl rfl ⟨rfl, rfl, trivial⟩ (deriv_Empty_spec et14) ?_
          exact AO.nE (d := 23) rfl ⟨⟨_, rfl, rfl⟩, Sub.refl _⟩
         ·refine AO.wK [6] ?_
          refine AO.c (Calm.move rfl rfl) ?_
          exact AO.nE (d := 24) rfl ⟨⟨_, rfl, rfl⟩, Sub.refl _⟩
         ·refine AO.wK [23, 24] ?_
          refine AO.c (x := eBool (t14 == t10.2)) (Calm.boolEq rfl rfl rfl Try.underlying4) ?_
          exact AO.nE (d := 25) rfl ⟨⟨_, rfl, rfl⟩, Sub.refl _⟩
         ·refine AO.wK [25] ?_
          refine AO.c (Calm.move rfl rfl) ?_
          exact AO.nE (d := 26) rfl ⟨⟨_, rfl, rfl⟩, Sub.refl _⟩
         ·refine AO.wK [0, 26] ?_
          refine AO.cG rfl rfl (bD hc15) (Calm.move rfl rfl) ?_
          exact AO.nE (d := 27) rfl ⟨⟨_, rfl, rfl⟩, Sub.refl _⟩
         ·refine AO.wK [26, 27] ?_
          refine AO.callG 4 true 26 [(.fz 5 (p0.map e82))] (.ar 1 (t16.toList.map eU64)) 28 rfl (by decide) ok42 rfl rfl (bD hc15) rfl rfl ⟨rfl, rfl, trivial⟩ (deriv_First_spec et16) ?_
          exact AO.nE (d := 28) rfl ⟨⟨_, rfl, rfl⟩, Sub.refl _⟩
         ·refine AO.wK [5, 26] ?_
          refine AO.cG rfl rfl (bD hc15) (Calm.load 0 rfl rfl rfl (At.cast At.here rfl) ag33 (by rw [sz33]; simp [AV.size])) ?_
          exact AO.nE (d := 29) rfl ⟨⟨_, rfl, rfl⟩, Sub.refl _⟩
         ·refine AO.wK [26, 28, 29] ?_
          refine AO.cG (x := eBool (decide (t16 = t10.1))) rfl rfl (bD hc15) (Calm.eqA rfl rfl rfl eg33 (eqa33 t16 t10.1) (by decide)) ?_
          exact AO.nE (d := 30) rfl ⟨⟨_, rfl, rfl⟩, Sub.refl _⟩
         ·refine AO.wK [26, 30] ?_
          refine AO.c (Calm.pickT rfl (bD hc15) rfl) ?_
          exact AO.nE (d := 31) rfl ⟨⟨_, rfl, rfl⟩, Sub.refl _⟩
         ·refine AO.wK [31] ?_
          refine AO.c (Calm.move rfl rfl) ?_
          exact AO.nE (d := 32) rfl ⟨⟨_, rfl, rfl⟩, Sub.refl _⟩
         ·refine AO.wK [32] ?_
          refine AO.sT rfl rfl (bD (decide_eq_false hc17)) ?_
          exact AO.nE (d := 33) rfl ⟨⟨_, rfl, rfl⟩, Sub.refl _⟩
         ·refine AO.wK [32] ?_
          refine AO.sT rfl rfl (bD (decide_eq_false hc17)) ?_
          exact AO.nE (d := 34) rfl ⟨⟨_, rfl, rfl⟩, Sub.refl _⟩
         ·refine AO.wK [32] ?_
          refine AO.sT rfl rfl (bD (decide_eq_false hc17)) ?_
          exact AO.nE (d := 35) rfl ⟨⟨_, rfl, rfl⟩, Sub.refl _⟩
         ·refine AO.wK [32] ?_
          refine AO.sT rfl rfl (bD (decide_eq_false hc17)) ?_
          exact AO.nE (d := 36) rfl ⟨⟨_, rfl, rfl⟩, Sub.refl _⟩
         ·refine AO.wK [32] ?_
          refine AO.sT rfl rfl (bD (decide_eq_false hc17)) ?_
          exact AO.nE (d := 37) rfl ⟨⟨_, rfl, rfl⟩, Sub.refl _⟩
         ·refine AO.wK [32] ?_
          refine AO.sT rfl rfl (bD (decide_eq_false hc17)) ?_
          exact AO.nE (d := 38) rfl ⟨⟨_, rfl, rfl⟩, Sub.refl _⟩
         ·refine AO.wK [32] ?_
          refine AO.sT rfl rfl (bD (decide_eq_false hc17)) ?_
          exact AO.nE (d := 39) rfl ⟨⟨_, rfl, rfl⟩, Sub.refl _⟩
         ·refine AO.wK [32] ?_
          refine AO.sT rfl rfl (bD (decide_eq_false hc17)) ?_
          exact AO.nE (d := 40) rfl ⟨⟨_, rfl, rfl⟩, Sub.refl _⟩
         ·refine AO.wK [32] ?_
          refine AO.sT rfl rfl (bD (decide_eq_false hc17)) ?_
          exact AO.nE (d := 41) rfl ⟨⟨_, rfl, rfl⟩, Sub.refl _⟩
         ·refine AO.wK [32, 41] ?_
          refine AO.c (Calm.pickF rfl (bD (decide_eq_false hc17)) rfl) ?_
          exact AO.nE (d := 42) rfl ⟨⟨_, rfl, rfl⟩, Sub.refl _⟩
         ·refine AO.wK [42] ?_
          refine AO.c (Calm.assign rfl rfl) ?_
          exact AO.nE (d := 4) rfl ⟨⟨_, rfl, rfl⟩, Sub.refl _⟩
        ·cases hq13
         exact ⟨rfl, rfl, rfl⟩
      ·refine AW.regAny (by rfl) (by decide +kernel) [(.fz 5 (p0.map e82)), (eBool t14), (eBool t10.2), (eBool (t14 == t10.2)), (eBool (t14 == t10.2)), (.fl undef), (.fl undef), (.fl undef), (.fl undef), (eBool false), (eBool false), (.fl undef), (.fl undef), (.fl undef), (.fl undef), (.fl undef), (.fl undef), (.fl undef), (.fl undef), (.fl undef), (eBool false), (eBool false)] [(0, (.fz 5 (p0.map e82))), (1, (eU8 p1)), (5, (.ptr n11 0)), (6, (eBool t10.2))] ⟨rfl, rfl, rfl, rfl, trivial⟩ rfl ?_ [(4, (eBool false))] [] ⟨rfl, trivial⟩ (Sub.nil _) ?_
       ·refine ⟨?_, ?_, ?_, ?_, ?_, ?_, ?_, ?_, ?_, ?_, ?_, ?_, ?_, ?_, ?_, ?_, ?_, ?_, ?_, ?_, ?_, ?_, trivial⟩
        ·refine AO.wK [0] ?_
         refine AO.c (Calm.move rfl rfl) ?_
         exact AO.nE (d := 22) rfl ⟨⟨_, rfl, rfl⟩, Sub.refl _⟩
        ·refine AO.wK [22] ?_
         refine AO.callS [(.fz 5 (p0.map e82))] (eBool t14) 23 rfl (by decide) ok41 rfl rfl rfl ⟨rfl, rfl, trivial⟩ (deriv_Empty_spec et14) ?_
         exact AO.nE (d := 23) rfl ⟨⟨_, rfl, rfl⟩, Sub.refl _⟩
        ·refine AO.wK [6] ?_
         refine AO.c (Calm.move rfl rfl) ?_
         exact AO.nE (d := 24) rfl ⟨⟨_, rfl, rfl⟩, Sub.refl _⟩
        ·refine AO.wK [23, 24] ?_
         refine AO.c (x := eBool (t14 == t10.2)) (Calm.boolEq rfl rfl rfl Try.underlying4) ?_
         exact AO.nE (d := 25) rfl ⟨⟨_, rfl, rfl⟩, Sub.refl _⟩
        ·refine AO.wK [25] ?_
         refine AO.c (Calm.move rfl rfl) ?_
         exact AO.nE (d := 26) rfl ⟨⟨_, rfl, rfl⟩, Sub.refl _⟩
        ·refine AO.wK [26] ?_
         refine AO.sT rfl rfl (bD (eq_false_of_ne_true hc15)) ?_
         exact AO.nE (d := 27) rfl ⟨⟨_, rfl, rfl⟩, Sub.refl _⟩
        ·refine AO.wK [26] ?_
         refine AO.sT rfl rfl (bD (eq_false_of_ne_true hc15)) ?_
         exact AO.nE (d := 28) rfl ⟨⟨_, rfl, rfl⟩, Sub.refl _⟩
        ·refine AO.wK [26] ?_
         refine AO.sT rfl rfl (bD (eq_false_of_ne_true hc15)) ?_
         exact AO.nE (d := 29) rfl ⟨⟨_, rfl, rfl⟩, Sub.refl _⟩
        ·refine AO.wK [26] ?_
         refine AO.sT rfl rfl (bD (eq_false_of_ne_true hc15)) ?_
         exact AO.nE (d := 30) rfl ⟨⟨_, rfl, rfl⟩, Sub.refl _⟩
        ·refine AO.wK [26, 30] ?_
         refine AO.c (Calm.pickF rfl (bD (eq_false_of_ne_true hc15)) rfl) ?_
         exact AO.nE (d := 31) rfl ⟨⟨_, rfl, rfl⟩, Sub.refl _⟩
        ·refine AO.wK [31] ?_
         refine AO.c (Calm.move rfl rfl) ?_
         exact AO.nE (d := 32) rfl ⟨⟨_, rfl, rfl⟩, Sub.refl _⟩
        ·refine AO.wK [32] ?_
         refine AO.sT rfl rfl rfl ?_
         exact AO.nE (d := 33) rfl ⟨⟨_, rfl, rfl⟩, Sub.refl _⟩
        ·refine AO.wK [32] ?_
         refine AO.sT rfl rfl rfl ?_
         exact AO.nE (d := 34) rfl ⟨⟨_, rfl, rfl⟩, Sub.refl _⟩
        ·refine AO.wK [32] ?_
         refine AO.sT rfl rfl rfl ?_
         exact AO.nE (d := 35) rfl ⟨⟨_, rfl, rfl⟩, Sub.refl _⟩
        ·refine AO.wK [32] ?_
         refine AO.sT rfl rfl rfl ?_
         exact AO.nE (d := 36) rfl ⟨⟨_, rfl, rfl⟩, Sub.refl _⟩
        ·refine AO.wK [32] ?_
         refine AO.sT rfl rfl rfl ?_
         exact AO.nE (d := 37) rfl ⟨⟨_, rfl, rfl⟩, Sub.refl _⟩
        ·refine AO.wK [32] ?_
         refine AO.sT rfl rfl rfl ?_
         exact AO.nE (d := 38) rfl ⟨⟨_, rfl, rfl⟩, Sub.refl _⟩
        ·refine AO.wK [32] ?_
         refine AO.sT rfl rfl rfl ?_
         exact AO.nE (d := 39) rfl ⟨⟨_, rfl, rfl⟩, Sub.refl _⟩
        ·refine AO.wK [32] ?_
         refine AO.sT rfl rfl rfl ?_
         exact AO.nE (d := 40) rfl ⟨⟨_, rfl, rfl⟩, Sub.refl _⟩
        ·refine AO.wK [32] ?_
         refine AO.sT rfl rfl rfl ?_
         exact AO.nE (d := 41) rfl ⟨⟨_, rfl, rfl⟩, Sub.refl _⟩
        ·refine AO.wK [32, 41] ?_
         refine AO.c (Calm.pickF rfl rfl rfl) ?_
         exact AO.nE (d := 42) rfl ⟨⟨_, rfl, rfl⟩, Sub.refl _⟩
        ·refine AO.wK [42] ?_
         refine AO.c (Calm.assign rfl rfl) ?_
         exact AO.nE (d := 4) rfl ⟨⟨_, rfl, rfl⟩, Sub.refl _⟩
       ·cases hq13
        exact ⟨rfl, rfl, rfl⟩
     ·refine AW.rK [4] ?_
      have hr := Option.some.inj h
      subst hr
      exact ⟨[(eBool b12)], ⟨rfl, rfl, trivial⟩, rfl⟩
end Go.Avl.T3
