/- Parts: T3f30, T3f6. -/
import Derived.Test.YtcdennkoccjacaaAF1
import Derived.Test.YtcdennkoccjacaaAF3
import Derived.Test.YtcdennkoccjacaaAF2
/- bosket/bosketlaw05.awake; printed by avmain.py. -/
namespace Go.Avl.T3
open Go Go.RowKit Go.Proofs Go.Avl
set_option linter.unusedVariables false
set_option maxRecDepth 100000
set_option maxHeartbeats 4000000
attribute [local irreducible] AW AO AQ Spec SpecH Calm

def bosketlaw05_awake (k : Nat) : Option Bool :=
  (deriv_By k [(S82.mk (1 : Int) (vset (vset (Vector.replicate 4 (0 : Int)) (0 : Int) (0 : Int)) (1 : Int) (8589934592 : Int))), (S82.mk (4 : Int) (Vector.replicate 4 (0 : Int)))] (97 : Int)).bind fun t2 =>
  (deriv_By k [(S82.mk (1 : Int) (vset (vset (Vector.replicate 4 (0 : Int)) (0 : Int) (0 : Int)) (1 : Int) (8589934592 : Int))), (S82.mk (4 : Int) (Vector.replicate 4 (0 : Int)))] (98 : Int)).bind fun t3 =>
  Option.bind (α := Bool) (if (!t2.f0) = true then (bosketref05_Fits k t2.f1).bind fun t9 =>
  if t9 = true then (bosketref04_Has k t2.f1 (ByteArray.mk #[97, 97])).bind fun t11 =>
  if t11 = true then (bosketref04_Has k t2.f1 (ByteArray.mk #[98])).bind fun t13 =>
  if (!t13) = true then if t3.f0 = true then (deriv_Empty k [(S82.mk (1 : Int) (vset (vset (Vector.replicate 4 (0 : Int)) (0 : Int) (0 : Int)) (1 : Int) (8589934592 : Int))), (S82.mk (4 : Int) (Vector.replicate 4 (0 : Int)))]).bind fun t16 =>
  some (t16)
  else some (false)
  else some (false)
  else some (false)
  else some (false)
  else some (false)) fun b6 =>
  some (b6)
theorem bosketlaw05_awake_spec {k : Nat}  {r : Bool} (h : bosketlaw05_awake k = some r) : Spec Try.prog 30 [] (eBool r) := by
  rw [bosketlaw05_awake.eq_1] at h
  refine Spec.intro (res := [.tmp 0]) Try.func30 rfl rfl rfl (Nat.le_of_ble_eq_true rfl) ?_
  refine AW.sr ?_
  refine AO.c (Calm.assign rfl rfl) ?_
  refine AO.nK [] ?_
  refine AW.sr ?_
  refine AO.c (x := .ar 1 ((vset (vset (Vector.replicate 4 (0 : Int)) (0 : Int) (0 : Int)) (1 : Int) (8589934592 : Int)).toList.map eU64)) (Calm.buildAr (qs := [(0, (eU64 (0 : Int))), (1, (eU64 (8589934592 : Int)))]) rfl ⟨rfl, rfl, rfl, rfl, rfl, rfl, trivial⟩ Try.underlying33 sz31 zr33 lay33 (.cons rfl rfl rfl rfl (Put.cast (Put.vidx (0 : Int) (0 : Int) (by decide) (by decide) Put.here) rfl) (.cons rfl rfl rfl rfl (Put.cast (Put.vidx (1 : Int) (8589934592 : Int) (by decide) (by decide) Put.here) rfl) .nil)) rfl) ?_
  refine AO.c (x := .st [(1, (eI64 (1 : Int))), (4, (.ar 1 ((vset (vset (Vector.replicate 4 (0 : Int)) (0 : Int) (0 : Int)) (1 : Int) (8589934592 : Int)).toList.map eU64)))]) (Calm.build (qs := [(0, (eI64 (1 : Int))), (1, (.ar 1 ((vset (vset (Vector.replicate 4 (0 : Int)) (0 : Int) (0 : Int)) (1 : Int) (8589934592 : Int)).toList.map eU64)))]) rfl ⟨rfl, rfl, rfl, rfl, rfl, rfl, trivial⟩ Try.underlying82 rfl zr82 lay82 (.cons rfl rfl rfl rfl (Put.cast (Put.fld0 Put.here) rfl) (.cons rfl rfl (vec_size _ _) (vec_size _ _) (Put.cast (Put.fldS (Put.fld0 Put.here)) rfl) .nil)) rfl) ?_
  refine AO.c (x := .st [(1, (eI64 (4 : Int))), (4, (.ar 1 ((Vector.replicate 4 (0 : Int)).toList.map eU64)))]) (Calm.build (qs := [(0, (eI64 (4 : Int)))]) rfl ⟨rfl, rfl, rfl, trivial⟩ Try.underlying82 rfl zr82 lay82 (.cons rfl rfl rfl rfl (Put.cast (Put.fld0 Put.here) rfl) .nil) rfl) ?_
  refine AO.lit (Z := (.st [(1, (eI64 (0 : Int))), (4, (.ar 1 ((Vector.replicate 4 (0 : Int)).toList.map eU64)))])) (xs := (([(S82.mk (1 : Int) (vset (vset (Vector.replicate 4 (0 : Int)) (0 : Int) (0 : Int)) (1 : Int) (8589934592 : Int))), (S82.mk (4 : Int) (Vector.replicate 4 (0 : Int)))] : List S82).map e82)) (qs := [(0, (e82 (S82.mk (1 : Int) (vset (vset (Vector.replicate 4 (0 : Int)) (0 : Int) (0 : Int)) (1 : Int) (8589934592 : Int))))), (1, (e82 (S82.mk (4 : Int) (Vector.replicate 4 (0 : Int)))))]) rfl 7 rfl (by decide) rfl ⟨rfl, rfl, rfl, rfl, rfl, rfl, trivial⟩ Try.underlying58 sz82 zr82 lay82 rfl (by decide) (litOK (z := 5) [(e82 (S82.mk (1 : Int) (vset (vset (Vector.replicate 4 (0 : Int)) (0 : Int) (0 : Int)) (1 : Int) (8589934592 : Int)))), (e82 (S82.mk (4 : Int) (Vector.replicate 4 (0 : Int))))] rfl ⟨⟨rfl, rfl⟩, ⟨rfl, rfl⟩, trivial⟩) rfl fun n1 => ?_
  refine AO.c (Calm.assign rfl rfl) ?_
  refine AO.nK [1] ?_
  refine AW.sr ?_
  refine AO.c (Calm.move rfl rfl) ?_
  obtain ⟨t2, et2, h⟩ := of_bind h
  refine AO.freezeS 0 [(1, (.fz 5 (([(S82.mk (1 : Int) (vset (vset (Vector.replicate 4 (0 : Int)) (0 : Int) (0 : Int)) (1 : Int) (8589934592 : Int))), (S82.mk (4 : Int) (Vector.replicate 4 (0 : Int)))] : List S82).map e82))), (8, (.fz 5 (([(S82.mk (1 : Int) (vset (vset (Vector.replicate 4 (0 : Int)) (0 : Int) (0 : Int)) (1 : Int) (8589934592 : Int))), (S82.mk (4 : Int) (Vector.replicate 4 (0 : Int)))] : List S82).map e82)))] rfl ⟨fz_all rfl, fz_all rfl, trivial⟩ ?_
  refine AO.callS [(.fz 5 (([(S82.mk (1 : Int) (vset (vset (Vector.replicate 4 (0 : Int)) (0 : Int) (0 : Int)) (1 : Int) (8589934592 : Int))), (S82.mk (4 : Int) (Vector.replicate 4 (0 : Int)))] : List S82).map e82)), (eU8 (97 : Int))] (e62 t2) 9 rfl (by decide) ok43 rfl rfl rfl ⟨rfl, rfl, rfl, rfl, trivial⟩ (deriv_By_spec et2) ?_
  refine AO.c (Calm.move rfl rfl) ?_
  obtain ⟨t3, et3, h⟩ := of_bind h
  refine AO.callS [(.fz 5 (([(S82.mk (1 : Int) (vset (vset (Vector.replicate 4 (0 : Int)) (0 : Int) (0 : Int)) (1 : Int) (8589934592 : Int))), (S82.mk (4 : Int) (Vector.replicate 4 (0 : Int)))] : List S82).map e82)), (eU8 (98 : Int))] (e62 t3) 11 rfl (by decide) ok43 rfl rfl rfl ⟨rfl, rfl, rfl, rfl, trivial⟩ (deriv_By_spec et3) ?_
  refine AO.alloc rfl 2 rfl (by decide) rfl zr62 lay62 fun n4 => ?_
  refine AO.alloc rfl 3 rfl (by decide) rfl zr62 lay62 fun n5 => ?_
  refine AO.store (X' := (e62 t2)) 1 rfl rfl rfl rfl rfl rfl (Put.cast Put.here rfl) rfl rfl sz62 rfl ?_
  refine AO.store (X' := (e62 t3)) 0 rfl rfl rfl rfl rfl rfl (Put.cast Put.here rfl) rfl rfl sz62 rfl ?_
  refine AO.nH [1, 2, 3] (H' := [(n4, (.mem (e62 t2))), (n5, (.mem (e62 t3)))]) (Sub.cons 1 rfl (Sub.cons 0 rfl (Sub.nil _))) ?_
  refine AW.seq ?_
  obtain ⟨b6, hq7, h⟩ := of_bind h
  refine AW.regM [(0, (eBool b6))] [] ?_ ?_
  ·refine AO.c (x := .ptr n4 0) (Calm.fldPtr rfl rfl Try.underlying62 rfl sz4 _ rfl) ?_
   refine AO.c (Calm.load 0 rfl rfl rfl (At.cast (At.fld0 At.here) rfl) ag4 sz4) ?_
   refine AO.c (Calm.not rfl rfl) ?_
   refine AO.c (Calm.move rfl rfl) ?_
   rcases of_ite hq7 with ⟨hc8, hq7⟩ | ⟨hc8, hq7⟩
   ·refine AO.cG (x := .ptr n4 1) rfl rfl (bD hc8) (Calm.fldPtr rfl rfl Try.underlying62 rfl sz58 _ rfl) ?_
    refine AO.cG rfl rfl (bD hc8) (Calm.load 0 rfl rfl rfl (At.cast (At.fldS (At.fld0 At.here)) rfl) ag58 sz58) ?_
    obtain ⟨t9, et9, hq7⟩ := of_bind hq7
    refine AO.callG 3 true 15 [(.fz 5 (t2.f1.map e82))] (eBool t9) 18 rfl (by decide) ok34 rfl rfl (bD hc8) rfl rfl ⟨rfl, rfl, trivial⟩ (bosketref05_Fits_spec et9) ?_
    refine AO.c (Calm.pickT rfl (bD hc8) rfl) ?_
    refine AO.c (Calm.move rfl rfl) ?_
    rcases of_ite hq7 with ⟨hc10, hq7⟩ | ⟨hc10, hq7⟩
    ·refine AO.cG (x := .ptr n4 1) rfl rfl (bD hc10) (Calm.fldPtr rfl rfl Try.underlying62 rfl sz58 _ rfl) ?_
     refine AO.cG rfl rfl (bD hc10) (Calm.load 0 rfl rfl rfl (At.cast (At.fldS (At.fld0 At.here)) rfl) ag58 sz58) ?_
     obtain ⟨t11, et11, hq7⟩ := of_bind hq7
     refine AO.callG 8 true 20 [(.fz 5 (t2.f1.map e82)), (eStr (ByteArray.mk #[97, 97]))] (eBool t11) 23 rfl (by decide) ok33 rfl rfl (bD hc10) rfl rfl ⟨rfl, rfl, rfl, rfl, trivial⟩ (bosketref04_Has_spec et11) ?_
     refine AO.c (Calm.pickT rfl (bD hc10) rfl) ?_
     refine AO.c (Calm.move rfl rfl) ?_
     rcases of_ite hq7 with ⟨hc12, hq7⟩ | ⟨hc12, hq7⟩
     ·refine AO.cG (x := .ptr n4 1) rfl rfl (bD hc12) (Calm.fldPtr rfl rfl Try.underlying62 rfl sz58 _ rfl) ?_
      refine AO.cG rfl rfl (bD hc12) (Calm.load 0 rfl rfl rfl (At.cast (At.fldS (At.fld0 At.here)) rfl) ag58 sz58) ?_
      obtain ⟨t13, et13, hq7⟩ := of_bind hq7
      refine AO.callG 13 true 25 [(.fz 5 (t2.f1.map e82)), (eStr (ByteArray.mk #[98]))] (eBool t13) 28 rfl (by decide) ok33 rfl rfl (bD hc12) rfl rfl ⟨rfl, rfl, rfl, rfl, trivial⟩ (bosketref04_Has_spec et13) ?_
      refine AO.cG rfl rfl (bD hc12) (Calm.not rfl rfl) ?_
      refine AO.c (Calm.pickT rfl (bD hc12) rfl) ?_
      refine AO.c (Calm.move rfl rfl) ?_
      rcases of_ite hq7 with ⟨hc14, hq7⟩ | ⟨hc14, hq7⟩
      ·refine AO.cG (x := .ptr n5 0) rfl rfl (bD hc14) (Calm.fldPtr rfl rfl Try.underlying62 rfl sz4 _ rfl) ?_
       refine AO.cG rfl rfl (bD hc14) (Calm.load 1 rfl rfl rfl (At.cast (At.fld0 At.here) rfl) ag4 sz4) ?_
       refine AO.c (Calm.pickT rfl (bD hc14) rfl) ?_
       refine AO.c (Calm.move rfl rfl) ?_
       rcases of_ite hq7 with ⟨hc15, hq7⟩ | ⟨hc15, hq7⟩
       ·refine AO.cG rfl rfl (bD hc15) (Calm.move rfl rfl) ?_
        obtain ⟨t16, et16, hq7⟩ := of_bind hq7
        refine AO.callG 23 true 35 [(.fz 5 (([(S82.mk (1 : Int) (vset (vset (Vector.replicate 4 (0 : Int)) (0 : Int) (0 : Int)) (1 : Int) (8589934592 : Int))), (S82.mk (4 : Int) (Vector.replicate 4 (0 : Int)))] : List S82).map e82))] (eBool t16) 37 rfl (by decide) ok41 rfl rfl (bD hc15) rfl rfl ⟨rfl, rfl, trivial⟩ (deriv_Empty_spec et16) ?_
        refine AO.c (Calm.pickT rfl (bD hc15) rfl) ?_
        refine AO.c (Calm.assign rfl rfl) ?_
        cases hq7
        refine AO.nilE ⟨rfl, rfl⟩ ?_ ?_
        · exact ⟨rfl, trivial⟩
        · exact (Sub.nil _)
       ·refine AO.sT rfl rfl (bD (eq_false_of_ne_true hc15)) ?_
        refine AO.sT rfl rfl (bD (eq_false_of_ne_true hc15)) ?_
        refine AO.c (Calm.pickF rfl (bD (eq_false_of_ne_true hc15)) rfl) ?_
        refine AO.c (Calm.assign rfl rfl) ?_
        cases hq7
        refine AO.nilE ⟨rfl, rfl⟩ ?_ ?_
        · exact ⟨rfl, trivial⟩
        · exact (Sub.nil _)
      ·refine AO.sT rfl rfl (bD (eq_false_of_ne_true hc14)) ?_
       refine AO.sT rfl rfl (bD (eq_false_of_ne_true hc14)) ?_
       refine AO.c (Calm.pickF rfl (bD (eq_false_of_ne_true hc14)) rfl) ?_
       refine AO.c (Calm.move rfl rfl) ?_
       refine AO.sT rfl rfl rfl ?_
       refine AO.sT rfl rfl rfl ?_
       refine AO.c (Calm.pickF rfl rfl rfl) ?_
       refine AO.c (Calm.assign rfl rfl) ?_
       cases hq7
       refine AO.nilE ⟨rfl, rfl⟩ ?_ ?_
       · exact ⟨rfl, trivial⟩
       · exact (Sub.nil _)
     ·refine AO.sT rfl rfl (bD (eq_false_of_ne_true hc12)) ?_
      refine AO.sT rfl rfl (bD (eq_false_of_ne_true hc12)) ?_
      refine AO.sT rfl rfl (bD (eq_false_of_ne_true hc12)) ?_
      refine AO.sT rfl rfl (bD (eq_false_of_ne_true hc12)) ?_
      refine AO.c (Calm.pickF rfl (bD (eq_false_of_ne_true hc12)) rfl) ?_
      refine AO.c (Calm.move rfl rfl) ?_
      refine AO.sT rfl rfl rfl ?_
      refine AO.sT rfl rfl rfl ?_
      refine AO.c (Calm.pickF rfl rfl rfl) ?_
      refine AO.c (Calm.move rfl rfl) ?_
      refine AO.sT rfl rfl rfl ?_
      refine AO.sT rfl rfl rfl ?_
      refine AO.c (Calm.pickF rfl rfl rfl) ?_
      refine AO.c (Calm.assign rfl rfl) ?_
      cases hq7
      refine AO.nilE ⟨rfl, rfl⟩ ?_ ?_
      · exact ⟨rfl, trivial⟩
      · exact (Sub.nil _)
    ·refine AO.sT rfl rfl (bD (eq_false_of_ne_true hc10)) ?_
     refine AO.sT rfl rfl (bD (eq_false_of_ne_true hc10)) ?_
     refine AO.sT rfl rfl (bD (eq_false_of_ne_true hc10)) ?_
     refine AO.c (Calm.pickF rfl (bD (eq_false_of_ne_true hc10)) rfl) ?_
     refine AO.c (Calm.move rfl rfl) ?_
     refine AO.sT rfl rfl rfl ?_
     refine AO.sT rfl rfl rfl ?_
     refine AO.sT rfl rfl rfl ?_
     refine AO.sT rfl rfl rfl ?_
     refine AO.c (Calm.pickF rfl rfl rfl) ?_
     refine AO.c (Calm.move rfl rfl) ?_
     refine AO.sT rfl rfl rfl ?_
     refine AO.sT rfl rfl rfl ?_
     refine AO.c (Calm.pickF rfl rfl rfl) ?_
     refine AO.c (Calm.move rfl rfl) ?_
     refine AO.sT rfl rfl rfl ?_
     refine AO.sT rfl rfl rfl ?_
     refine AO.c (Calm.pickF rfl rfl rfl) ?_
     refine AO.c (Calm.assign rfl rfl) ?_
     cases hq7
     refine AO.nilE ⟨rfl, rfl⟩ ?_ ?_
     · exact ⟨rfl, trivial⟩
     · exact (Sub.nil _)
   ·refine AO.sT rfl rfl (bD (eq_false_of_ne_true hc8)) ?_
    refine AO.sT rfl rfl (bD (eq_false_of_ne_true hc8)) ?_
    refine AO.sT rfl rfl (bD (eq_false_of_ne_true hc8)) ?_
    refine AO.c (Calm.pickF rfl (bD (eq_false_of_ne_true hc8)) rfl) ?_
    refine AO.c (Calm.move rfl rfl) ?_
    refine AO.sT rfl rfl rfl ?_
    refine AO.sT rfl rfl rfl ?_
    refine AO.sT rfl rfl rfl ?_
    refine AO.c (Calm.pickF rfl rfl rfl) ?_
    refine AO.c (Calm.move rfl rfl) ?_
    refine AO.sT rfl rfl rfl ?_
    refine AO.sT rfl rfl rfl ?_
    refine AO.sT rfl rfl rfl ?_
    refine AO.sT rfl rfl rfl ?_
    refine AO.c (Calm.pickF rfl rfl rfl) ?_
    refine AO.c (Calm.move rfl rfl) ?_
    refine AO.sT rfl rfl rfl ?_
    refine AO.sT rfl rfl rfl ?_
    refine AO.c (Calm.pickF rfl rfl rfl) ?_
    refine AO.c (Calm.move rfl rfl) ?_
    refine AO.sT rfl rfl rfl ?_
    refine AO.sT rfl rfl rfl ?_
    refine AO.c (Calm.pickF rfl rfl rfl) ?_
    refine AO.c (Calm.assign rfl rfl) ?_
    cases hq7
    refine AO.nilE ⟨rfl, rfl⟩ ?_ ?_
    · exact ⟨rfl, trivial⟩
    · exact (Sub.nil _)
  ·refine AW.rK [0] ?_
   have hr := Option.some.inj h
   subst hr
   exact ⟨[(eBool b6)], ⟨rfl, rfl, trivial⟩, rfl⟩
end Go.Avl.T3
/- bosket/bosketlaw05.DerivThrough; printed by avmain.py. -/
namespace Go.Avl.T3
open Go Go.RowKit Go.Proofs Go.Avl
set_option linter.unusedVariables false
set_option maxRecDepth 100000
set_option maxHeartbeats 4000000
attribute [local irreducible] AW AO AQ Spec SpecH Calm

def bosketlaw05_DerivThrough (k : Nat) (p0 : (List S82)) (p1 : (Vector ByteArray 2)) (p2 : Int) : Option Bool :=
  (bosketlaw05_awake k).bind fun t5 =>
  if (!t5) = true then some (false)
  else Option.bind (α := Bool) (if (30 : Int) < (p0.length : Int) then some (true)
  else if (6 : Int) < ((vget p1 (0 : Int)).size : Int) then some (true)
  else some (decide ((6 : Int) < ((vget p1 (1 : Int)).size : Int)))) fun b7 =>
  if b7 = true then some (true)
  else (deriv_Through k p0 (vget p1 (0 : Int)) (w64 (p2.tmod (400 : Int)))).bind fun t12 =>
  (bosketref04_Check k p0).bind fun t14 =>
  if t14 ≠ (0 : Int) then Option.bind (α := Bool) (if t12.1.f0 = true then some (decide (t12.2 = (0 : Int)))
  else some (false)) fun b16 =>
  some (b16)
  else Option.bind (α := Bool) (if t12.2 < (0 : Int) then some (true)
  else some (decide (((vget p1 (0 : Int)).size : Int) < t12.2))) fun b19 =>
  if b19 = true then some (false)
  else if t12.2 < ((vget p1 (0 : Int)).size : Int) then Option.bind (α := Bool) (if t12.1.f0 = true then if 0 ≤ (0 : Int) ∧ (0 : Int) ≤ (w64 (t12.2 + (1 : Int))) ∧ (w64 (t12.2 + (1 : Int))) ≤ ((vget p1 (0 : Int)).size : Int) then if ((vget p1 (0 : Int)).extract (0 : Int).toNat (w64 (t12.2 + (1 : Int))).toNat).size + (vget p1 (1 : Int)).size ≤ 9223372036854775807 then (bosketref04_Has k p0 (((vget p1 (0 : Int)).extract (0 : Int).toNat (w64 (t12.2 + (1 : Int))).toNat) ++ (vget p1 (1 : Int)))).bind fun t29 =>
  if (!t29) = true then some (true)
  else some (false)
  else none
  else none
  else some (decide ((w64 (p2.tmod (400 : Int))) < (t12.1.f1.length : Int)))) fun b24 =>
  some (b24)
  else Option.bind (α := Bool) (if (!t12.1.f0) = true then (bosketref05_Fits k t12.1.f1).bind fun t34 =>
  if t34 = true then (bosketref04_Has k t12.1.f1 (vget p1 (1 : Int))).bind fun t36 =>
  if (vget p1 (0 : Int)).size + (vget p1 (1 : Int)).size ≤ 9223372036854775807 then (bosketref04_Has k p0 ((vget p1 (0 : Int)) ++ (vget p1 (1 : Int)))).bind fun t38 =>
  some ((t36 == t38))
  else none
  else some (false)
  else some (false)) fun b31 =>
  some (b31)
theorem bosketlaw05_DerivThrough_spec {k : Nat} {p0 : (List S82)} {p1 : (Vector ByteArray 2)} {p2 : Int} {r : Bool} (h : bosketlaw05_DerivThrough k p0 p1 p2 = some r) : Spec Try.prog 6 [(.fz 5 (p0.map e82)), (.ar 1 (p1.toList.map eStr)), (eU16 p2)] (eBool r) := by
  rw [bosketlaw05_DerivThrough.eq_1] at h
  refine Spec.intro (res := [.tmp 6]) Try.func6 rfl rfl rfl (Nat.le_of_ble_eq_true rfl) ?_
  refine AW.sr ?_
  refine AO.box rfl 4 rfl (by decide) rfl rfl rfl fun n4 => ?_
  refine AO.c (Calm.assign rfl rfl) ?_
  refine AO.nK [0, 2, 4] ?_
  refine AW.seq ?_
  refine AW.sr ?_
  obtain ⟨t5, et5, h⟩ := of_bind h
  refine AO.callS [] (eBool t5) 11 rfl (by decide) ok30 rfl rfl rfl trivial (bosketlaw05_awake_spec et5) ?_
  refine AO.c (Calm.not rfl rfl) ?_
  refine AO.nK [0, 2, 4, 12] ?_
  rcases of_ite h with ⟨hc6, h⟩ | ⟨hc6, h⟩
  ·refine AW.condT' _ rfl hc6 ?_
   refine AW.sr ?_
   refine AO.c (Calm.assign rfl rfl) ?_
   refine AO.nH [6] (H' := []) (Sub.nil _) ?_
   refine AW.rK [6] ?_
   have hr := Option.some.inj h
   subst hr
   exact ⟨[(eBool false)], ⟨rfl, rfl, trivial⟩, rfl⟩
  ·refine AW.condF' _ rfl hc6 ?_
   refine AW.sK [0, 2, 4] ?_
   refine AW.seq ?_
   refine AW.regQ (by rfl) (by decide +kernel) ?_
   refine AQ.c (Calm.idxP rfl rfl rfl (by decide) Try.underlying59 sz9) ?_
   refine AQ.c (Calm.load 0 rfl rfl rfl (At.cast (At.vidx (0 : Int) (by decide) (by decide) At.here) (by omega)) ag9 sz9) ?_
   refine AQ.c (Calm.idxP rfl rfl rfl (by decide) Try.underlying59 sz9) ?_
   refine AQ.c (Calm.load 0 rfl rfl rfl (At.cast (At.vidx (1 : Int) (by decide) (by decide) At.here) (by omega)) ag9 sz9) ?_
   refine AQ.c (Calm.assign rfl rfl) ?_
   refine AQ.c (Calm.assign rfl rfl) ?_
   refine AQ.nK [0, 2, 7, 8] ?_
   refine AW.seq ?_
   refine AW.seq ?_
   obtain ⟨b7, hq8, h⟩ := of_bind h
   refine AW.regM [(0, (.fz 5 (p0.map e82))), (2, (eU16 p2)), (7, (eStr (vget p1 (0 : Int)))), (8, (eStr (vget p1 (1 : Int)))), (29, (eBool b7))] [] ?_ ?_
   ·refine AO.c (Calm.move rfl rfl) ?_
    refine AO.c (Calm.lenL rfl rfl Try.underlying58) ?_
    refine AO.c (x := eBool (decide ((30 : Int) < (p0.length : Int)))) (Calm.int rfl rfl rfl rfl) ?_
    refine AO.c (Calm.move rfl rfl) ?_
    rcases of_ite hq8 with ⟨hc9, hq8⟩ | ⟨hc9, hq8⟩
    ·refine AO.sF rfl rfl (bD (decide_eq_true hc9)) ?_
     refine AO.sF rfl rfl (bD (decide_eq_true hc9)) ?_
     refine AO.sF rfl rfl (bD (decide_eq_true hc9)) ?_
     refine AO.c (Calm.pickT rfl (bD (decide_eq_true hc9)) rfl) ?_
     refine AO.c (Calm.move rfl rfl) ?_
     refine AO.sF rfl rfl rfl ?_
     refine AO.sF rfl rfl rfl ?_
     refine AO.sF rfl rfl rfl ?_
     refine AO.c (Calm.pickT rfl rfl rfl) ?_
     cases hq8
     refine AO.nilE ⟨rfl, rfl⟩ ?_ ?_
     · exact ⟨rfl, rfl, rfl, rfl, rfl, trivial⟩
     · exact (Sub.nil _)
    ·refine AO.cG rfl rfl (bD (decide_eq_false hc9)) (Calm.move rfl rfl) ?_
     refine AO.cG rfl rfl (bD (decide_eq_false hc9)) (Calm.lenStr rfl rfl Try.underlying9) ?_
     refine AO.cG (x := eBool (decide ((6 : Int) < ((vget p1 (0 : Int)).size : Int)))) rfl rfl (bD (decide_eq_false hc9)) (Calm.int rfl rfl rfl rfl) ?_
     refine AO.c (Calm.pickF rfl (bD (decide_eq_false hc9)) rfl) ?_
     refine AO.c (Calm.move rfl rfl) ?_
     rcases of_ite hq8 with ⟨hc10, hq8⟩ | ⟨hc10, hq8⟩
     ·refine AO.sF rfl rfl (bD (decide_eq_true hc10)) ?_
      refine AO.sF rfl rfl (bD (decide_eq_true hc10)) ?_
      refine AO.sF rfl rfl (bD (decide_eq_true hc10)) ?_
      refine AO.c (Calm.pickT rfl (bD (decide_eq_true hc10)) rfl) ?_
      cases hq8
      refine AO.nilE ⟨rfl, rfl⟩ ?_ ?_
      · exact ⟨rfl, rfl, rfl, rfl, rfl, trivial⟩
      · exact (Sub.nil _)
     ·refine AO.cG rfl rfl (bD (decide_eq_false hc10)) (Calm.move rfl rfl) ?_
      refine AO.cG rfl rfl (bD (decide_eq_false hc10)) (Calm.lenStr rfl rfl Try.underlying9) ?_
      refine AO.cG (x := eBool (decide ((6 : Int) < ((vget p1 (1 : Int)).size : Int)))) rfl rfl (bD (decide_eq_false hc10)) (Calm.int rfl rfl rfl rfl) ?_
      refine AO.c (Calm.pickF rfl (bD (decide_eq_false hc10)) rfl) ?_
      cases hq8
      refine AO.nilE ⟨rfl, rfl⟩ ?_ ?_
      · exact ⟨rfl, rfl, rfl, rfl, rfl, trivial⟩
      · exact (Sub.nil _)
   ·rcases of_ite h with ⟨hc11, h⟩ | ⟨hc11, h⟩
    ·refine AW.condT' _ rfl hc11 ?_
     refine AW.sr ?_
     refine AO.c (Calm.assign rfl rfl) ?_
     refine AO.nK [6] ?_
     refine AW.rK [6] ?_
     have hr := Option.some.inj h
     subst hr
     exact ⟨[(eBool true)], ⟨rfl, rfl, trivial⟩, rfl⟩
    ·refine AW.condF' _ rfl hc11 ?_
     refine AW.sK [0, 2, 7, 8] ?_
     refine AW.sr ?_
     refine AO.c (Calm.move rfl rfl) ?_
     refine AO.c (Calm.move rfl rfl) ?_
     refine AO.c (Calm.move rfl rfl) ?_
     refine AO.c (x := eU16 (p2.tmod (400 : Int))) (Calm.rem rfl rfl rfl (by decide)) ?_
     refine AO.c (x := eI64 (w64 (p2.tmod (400 : Int)))) (Calm.conv rfl rfl Try.underlying60 Try.underlying3) ?_
     obtain ⟨t12, et12, h⟩ := of_bind h
     refine AO.callS [(.fz 5 (p0.map e82)), (eStr (vget p1 (0 : Int))), (eI64 (w64 (p2.tmod (400 : Int))))] (.tup [(e62 t12.1), (eI64 t12.2)]) 36 rfl (by decide) ok31 rfl rfl rfl ⟨rfl, rfl, rfl, rfl, rfl, rfl, trivial⟩ (deriv_Through_spec et12) ?_
     refine AO.c (Calm.move rfl rfl) ?_
     refine AO.c (Calm.extract rfl rfl rfl) ?_
     refine AO.c (Calm.extract rfl rfl rfl) ?_
     refine AO.alloc rfl 9 rfl (by decide) rfl zr62 lay62 fun n13 => ?_
     refine AO.store (X' := (e62 t12.1)) 0 rfl rfl rfl rfl rfl rfl (Put.cast Put.here rfl) rfl rfl sz62 rfl ?_
     refine AO.c (Calm.assign rfl rfl) ?_
     refine AO.nK [0, 2, 7, 8, 9, 10] ?_
     refine AW.seq ?_
     refine AW.sr ?_
     refine AO.c (Calm.move rfl rfl) ?_
     obtain ⟨t14, et14, h⟩ := of_bind h
     refine AO.callS [(.fz 5 (p0.map e82))] (eI64 t14) 40 rfl (by decide) ok32 rfl rfl rfl ⟨rfl, rfl, trivial⟩ (bosketref04_Check_spec et14) ?_
     refine AO.c (x := eBool (decide (t14 ≠ (0 : Int)))) (Calm.int rfl rfl rfl rfl) ?_
     refine AO.nK [0, 2, 7, 8, 9, 10, 41] ?_
     rcases of_ite h with ⟨hc15, h⟩ | ⟨hc15, h⟩
     ·refine AW.condP _ rfl hc15 ?_
      refine AW.seq ?_
      obtain ⟨b16, hq17, h⟩ := of_bind h
      refine AW.regM [(6, (eBool b16))] [] ?_ ?_
      ·refine AO.c (x := .ptr n13 0) (Calm.fldPtr rfl rfl Try.underlying62 rfl sz4 _ rfl) ?_
       refine AO.c (Calm.load 0 rfl rfl rfl (At.cast (At.fld0 At.here) rfl) ag4 sz4) ?_
       refine AO.c (Calm.move rfl rfl) ?_
       rcases of_ite hq17 with ⟨hc18, hq17⟩ | ⟨hc18, hq17⟩
       ·refine AO.cG rfl rfl (bD hc18) (Calm.move rfl rfl) ?_
        refine AO.cG (x := eBool (decide (t12.2 = (0 : Int)))) rfl rfl (bD hc18) (Calm.int rfl rfl rfl rfl) ?_
        refine AO.c (Calm.pickT rfl (bD hc18) rfl) ?_
        refine AO.c (Calm.assign rfl rfl) ?_
        cases hq17
        refine AO.nilE ⟨rfl, rfl⟩ ?_ ?_
        · exact ⟨rfl, trivial⟩
        · exact (Sub.nil _)
       ·refine AO.sT rfl rfl (bD (eq_false_of_ne_true hc18)) ?_
        refine AO.sT rfl rfl (bD (eq_false_of_ne_true hc18)) ?_
        refine AO.c (Calm.pickF rfl (bD (eq_false_of_ne_true hc18)) rfl) ?_
        refine AO.c (Calm.assign rfl rfl) ?_
        cases hq17
        refine AO.nilE ⟨rfl, rfl⟩ ?_ ?_
        · exact ⟨rfl, trivial⟩
        · exact (Sub.nil _)
      ·refine AW.rK [6] ?_
       have hr := Option.some.inj h
       subst hr
       exact ⟨[(eBool b16)], ⟨rfl, rfl, trivial⟩, rfl⟩
     ·refine AW.condN _ rfl hc15 ?_
      refine AW.sK [0, 2, 7, 8, 9, 10] ?_
      refine AW.seq ?_
      refine AW.seq ?_
      obtain ⟨b19, hq20, h⟩ := of_bind h
      refine AW.regM [(0, (.fz 5 (p0.map e82))), (2, (eU16 p2)), (7, (eStr (vget p1 (0 : Int)))), (8, (eStr (vget p1 (1 : Int)))), (9, (.ptr n13 0)), (10, (eI64 t12.2)), (55, (eBool b19))] [(n13, (.mem (e62 t12.1)))] ?_ ?_
      ·refine AO.c (Calm.move rfl rfl) ?_
       refine AO.c (x := eBool (decide (t12.2 < (0 : Int)))) (Calm.int rfl rfl rfl rfl) ?_
       refine AO.c (Calm.move rfl rfl) ?_
       rcases of_ite hq20 with ⟨hc21, hq20⟩ | ⟨hc21, hq20⟩
       ·refine AO.sF rfl rfl (bD (decide_eq_true hc21)) ?_
        refine AO.sF rfl rfl (bD (decide_eq_true hc21)) ?_
        refine AO.sF rfl rfl (bD (decide_eq_true hc21)) ?_
        refine AO.sF rfl rfl (bD (decide_eq_true hc21)) ?_
        refine AO.c (Calm.pickT rfl (bD (decide_eq_true hc21)) rfl) ?_
        cases hq20
        refine AO.nilE ⟨rfl, rfl⟩ ?_ ?_
        · exact ⟨rfl, rfl, rfl, rfl, rfl, rfl, rfl, trivial⟩
        · exact (Sub.refl _)
       ·refine AO.cG rfl rfl (bD (decide_eq_false hc21)) (Calm.move rfl rfl) ?_
        refine AO.cG rfl rfl (bD (decide_eq_false hc21)) (Calm.move rfl rfl) ?_
        refine AO.cG rfl rfl (bD (decide_eq_false hc21)) (Calm.lenStr rfl rfl Try.underlying9) ?_
        refine AO.cG (x := eBool (decide (((vget p1 (0 : Int)).size : Int) < t12.2))) rfl rfl (bD (decide_eq_false hc21)) (Calm.int rfl rfl rfl rfl) ?_
        refine AO.c (Calm.pickF rfl (bD (decide_eq_false hc21)) rfl) ?_
        cases hq20
        refine AO.nilE ⟨rfl, rfl⟩ ?_ ?_
        · exact ⟨rfl, rfl, rfl, rfl, rfl, rfl, rfl, trivial⟩
        · exact (Sub.refl _)
      ·rcases of_ite h with ⟨hc22, h⟩ | ⟨hc22, h⟩
       ·refine AW.condT' _ rfl hc22 ?_
        refine AW.sr ?_
        refine AO.c (Calm.assign rfl rfl) ?_
        refine AO.nH [6] (H' := []) (Sub.nil _) ?_
        refine AW.rK [6] ?_
        have hr := Option.some.inj h
        subst hr
        exact ⟨[(eBool false)], ⟨rfl, rfl, trivial⟩, rfl⟩
       ·refine AW.condF' _ rfl hc22 ?_
        refine AW.sK [0, 2, 7, 8, 9, 10] ?_
        refine AW.seq ?_
        refine AW.sr ?_
        refine AO.c (Calm.move rfl rfl) ?_
        refine AO.c (Calm.move rfl rfl) ?_
        refine AO.c (Calm.lenStr rfl rfl Try.underlying9) ?_
        refine AO.c (x := eBool (decide (t12.2 < ((vget p1 (0 : Int)).size : Int)))) (Calm.int rfl rfl rfl rfl) ?_
        refine AO.nK [0, 2, 7, 8, 9, 10, 59] ?_
        rcases of_ite h with ⟨hc23, h⟩ | ⟨hc23, h⟩
        ·refine AW.condP _ rfl hc23 ?_
         refine AW.seq ?_
         obtain ⟨b24, hq25, h⟩ := of_bind h
         refine AW.regM [(6, (eBool b24))] [] ?_ ?_
         ·refine AO.c (x := .ptr n13 0) (Calm.fldPtr rfl rfl Try.underlying62 rfl sz4 _ rfl) ?_
          refine AO.c (Calm.load 0 rfl rfl rfl (At.cast (At.fld0 At.here) rfl) ag4 sz4) ?_
          refine AO.c (Calm.move rfl rfl) ?_
          rcases of_ite hq25 with ⟨hc26, hq25⟩ | ⟨hc26, hq25⟩
          ·refine AO.cG rfl rfl (bD hc26) (Calm.move rfl rfl) ?_
           refine AO.cG rfl rfl (bD hc26) (Calm.move rfl rfl) ?_
           refine AO.cG rfl rfl (bD hc26) (Calm.move rfl rfl) ?_
           refine AO.cG (x := eI64 (w64 (t12.2 + (1 : Int)))) rfl rfl (bD hc26) (Calm.int rfl rfl rfl rfl) ?_
           obtain ⟨hg27, hq25⟩ := of_guard hq25
           refine AO.cG (x := eStr ((vget p1 (0 : Int)).extract (0 : Int).toNat (w64 (t12.2 + (1 : Int))).toNat)) rfl rfl (bD hc26) (Calm.sliceS rfl rfl rfl rfl hg27 Try.underlying9) ?_
           refine AO.cG rfl rfl (bD hc26) (Calm.move rfl rfl) ?_
           obtain ⟨hg28, hq25⟩ := of_guard hq25
           refine AO.cG (x := eStr (((vget p1 (0 : Int)).extract (0 : Int).toNat (w64 (t12.2 + (1 : Int))).toNat) ++ (vget p1 (1 : Int)))) rfl rfl (bD hc26) (Calm.cat rfl rfl rfl hg28) ?_
           obtain ⟨t29, et29, hq25⟩ := of_bind hq25
           refine AO.callG 2 true 62 [(.fz 5 (p0.map e82)), (eStr (((vget p1 (0 : Int)).extract (0 : Int).toNat (w64 (t12.2 + (1 : Int))).toNat) ++ (vget p1 (1 : Int))))] (eBool t29) 70 rfl (by decide) ok33 rfl rfl (bD hc26) rfl rfl ⟨rfl, rfl, rfl, rfl, trivial⟩ (bosketref04_Has_spec et29) ?_
           refine AO.cG rfl rfl (bD hc26) (Calm.not rfl rfl) ?_
           refine AO.c (Calm.pickT rfl (bD hc26) rfl) ?_
           refine AO.c (Calm.move rfl rfl) ?_
           rcases of_ite hq25 with ⟨hc30, hq25⟩ | ⟨hc30, hq25⟩
           ·refine AO.sF rfl rfl (bD hc30) ?_
            refine AO.sF rfl rfl (bD hc30) ?_
            refine AO.sF rfl rfl (bD hc30) ?_
            refine AO.sF rfl rfl (bD hc30) ?_
            refine AO.sU rfl rfl rfl ?_
            refine AO.sU rfl rfl rfl ?_
            refine AO.sU rfl rfl rfl ?_
            refine AO.sU rfl rfl rfl ?_
            refine AO.sU rfl rfl rfl ?_
            refine AO.sU rfl rfl rfl ?_
            refine AO.sU rfl rfl rfl ?_
            refine AO.sF rfl rfl (bD hc30) ?_
            refine AO.c (Calm.pickT rfl (bD hc30) rfl) ?_
            refine AO.c (Calm.assign rfl rfl) ?_
            cases hq25
            refine AO.nilE ⟨rfl, rfl⟩ ?_ ?_
            · exact ⟨rfl, trivial⟩
            · exact (Sub.nil _)
           ·refine AO.cG (x := .ptr n13 0) rfl rfl (bD (eq_false_of_ne_true hc30)) (Calm.fldPtr rfl rfl Try.underlying62 rfl sz4 _ rfl) ?_
            refine AO.cG rfl rfl (bD (eq_false_of_ne_true hc30)) (Calm.load 0 rfl rfl rfl (At.cast (At.fld0 At.here) rfl) ag4 sz4) ?_
            refine AO.cG rfl rfl (bD (eq_false_of_ne_true hc30)) (Calm.not rfl rfl) ?_
            refine AO.cG rfl rfl (bD (eq_false_of_ne_true hc30)) (Calm.move rfl rfl) ?_
            refine AO.sT rfl rfl (bD (congrArg (fun b => !b) hc26)) ?_
            refine AO.sT rfl rfl (bD (congrArg (fun b => !b) hc26)) ?_
            refine AO.sT rfl rfl (bD (congrArg (fun b => !b) hc26)) ?_
            refine AO.sT rfl rfl (bD (congrArg (fun b => !b) hc26)) ?_
            refine AO.sT rfl rfl (bD (congrArg (fun b => !b) hc26)) ?_
            refine AO.sT rfl rfl (bD (congrArg (fun b => !b) hc26)) ?_
            refine AO.sT rfl rfl (bD (congrArg (fun b => !b) hc26)) ?_
            refine AO.cG rfl rfl (bD (eq_false_of_ne_true hc30)) (Calm.pickF rfl (bD (congrArg (fun b => !b) hc26)) rfl) ?_
            refine AO.c (Calm.pickF rfl (bD (eq_false_of_ne_true hc30)) rfl) ?_
            refine AO.c (Calm.assign rfl rfl) ?_
            cases hq25
            refine AO.nilE ⟨rfl, rfl⟩ ?_ ?_
            · exact ⟨rfl, trivial⟩
            · exact (Sub.nil _)
          ·refine AO.sT rfl rfl (bD (eq_false_of_ne_true hc26)) ?_
           refine AO.sT rfl rfl (bD (eq_false_of_ne_true hc26)) ?_
           refine AO.sT rfl rfl (bD (eq_false_of_ne_true hc26)) ?_
           refine AO.sT rfl rfl (bD (eq_false_of_ne_true hc26)) ?_
           refine AO.sT rfl rfl (bD (eq_false_of_ne_true hc26)) ?_
           refine AO.sT rfl rfl (bD (eq_false_of_ne_true hc26)) ?_
           refine AO.sT rfl rfl (bD (eq_false_of_ne_true hc26)) ?_
           refine AO.sT rfl rfl (bD (eq_false_of_ne_true hc26)) ?_
           refine AO.sT rfl rfl (bD (eq_false_of_ne_true hc26)) ?_
           refine AO.c (Calm.pickF rfl (bD (eq_false_of_ne_true hc26)) rfl) ?_
           refine AO.c (Calm.move rfl rfl) ?_
           refine AO.cG (x := .ptr n13 0) rfl rfl rfl (Calm.fldPtr rfl rfl Try.underlying62 rfl sz4 _ rfl) ?_
           refine AO.cG rfl rfl rfl (Calm.load 0 rfl rfl rfl (At.cast (At.fld0 At.here) rfl) ag4 sz4) ?_
           refine AO.cG rfl rfl rfl (Calm.not rfl rfl) ?_
           refine AO.cG rfl rfl rfl (Calm.move rfl rfl) ?_
           refine AO.cG (x := .ptr n13 1) rfl rfl (bD (congrArg (fun b => !b) (eq_false_of_ne_true hc26))) (Calm.fldPtr rfl rfl Try.underlying62 rfl sz58 _ rfl) ?_
           refine AO.cG rfl rfl (bD (congrArg (fun b => !b) (eq_false_of_ne_true hc26))) (Calm.load 0 rfl rfl rfl (At.cast (At.fldS (At.fld0 At.here)) rfl) ag58 sz58) ?_
           refine AO.cG rfl rfl (bD (congrArg (fun b => !b) (eq_false_of_ne_true hc26))) (Calm.lenL rfl rfl Try.underlying58) ?_
           refine AO.cG rfl rfl (bD (congrArg (fun b => !b) (eq_false_of_ne_true hc26))) (Calm.move rfl rfl) ?_
           refine AO.cG (x := eU16 (p2.tmod (400 : Int))) rfl rfl (bD (congrArg (fun b => !b) (eq_false_of_ne_true hc26))) (Calm.rem rfl rfl rfl (by decide)) ?_
           refine AO.cG (x := eI64 (w64 (p2.tmod (400 : Int)))) rfl rfl (bD (congrArg (fun b => !b) (eq_false_of_ne_true hc26))) (Calm.conv rfl rfl Try.underlying60 Try.underlying3) ?_
           refine AO.cG (x := eBool (decide ((w64 (p2.tmod (400 : Int))) < (t12.1.f1.length : Int)))) rfl rfl (bD (congrArg (fun b => !b) (eq_false_of_ne_true hc26))) (Calm.int rfl rfl rfl rfl) ?_
           refine AO.cG rfl rfl rfl (Calm.pickT rfl (bD (congrArg (fun b => !b) (eq_false_of_ne_true hc26))) rfl) ?_
           refine AO.c (Calm.pickF rfl rfl rfl) ?_
           refine AO.c (Calm.assign rfl rfl) ?_
           cases hq25
           refine AO.nilE ⟨rfl, rfl⟩ ?_ ?_
           · exact ⟨rfl, trivial⟩
           · exact (Sub.nil _)
         ·refine AW.rK [6] ?_
          have hr := Option.some.inj h
          subst hr
          exact ⟨[(eBool b24)], ⟨rfl, rfl, trivial⟩, rfl⟩
        ·refine AW.condN _ rfl hc23 ?_
         refine AW.sK [0, 7, 8, 9] ?_
         refine AW.seq ?_
         obtain ⟨b31, hq32, h⟩ := of_bind h
         refine AW.regM [(6, (eBool b31))] [] ?_ ?_
         ·refine AO.c (x := .ptr n13 0) (Calm.fldPtr rfl rfl Try.underlying62 rfl sz4 _ rfl) ?_
          refine AO.c (Calm.load 0 rfl rfl rfl (At.cast (At.fld0 At.here) rfl) ag4 sz4) ?_
          refine AO.c (Calm.not rfl rfl) ?_
          refine AO.c (Calm.move rfl rfl) ?_
          rcases of_ite hq32 with ⟨hc33, hq32⟩ | ⟨hc33, hq32⟩
          ·refine AO.cG (x := .ptr n13 1) rfl rfl (bD hc33) (Calm.fldPtr rfl rfl Try.underlying62 rfl sz58 _ rfl) ?_
           refine AO.cG rfl rfl (bD hc33) (Calm.load 0 rfl rfl rfl (At.cast (At.fldS (At.fld0 At.here)) rfl) ag58 sz58) ?_
           obtain ⟨t34, et34, hq32⟩ := of_bind hq32
           refine AO.callG 3 true 90 [(.fz 5 (t12.1.f1.map e82))] (eBool t34) 93 rfl (by decide) ok34 rfl rfl (bD hc33) rfl rfl ⟨rfl, rfl, trivial⟩ (bosketref05_Fits_spec et34) ?_
           refine AO.c (Calm.pickT rfl (bD hc33) rfl) ?_
           refine AO.c (Calm.move rfl rfl) ?_
           rcases of_ite hq32 with ⟨hc35, hq32⟩ | ⟨hc35, hq32⟩
           ·refine AO.cG (x := .ptr n13 1) rfl rfl (bD hc35) (Calm.fldPtr rfl rfl Try.underlying62 rfl sz58 _ rfl) ?_
            refine AO.cG rfl rfl (bD hc35) (Calm.load 0 rfl rfl rfl (At.cast (At.fldS (At.fld0 At.here)) rfl) ag58 sz58) ?_
            refine AO.cG rfl rfl (bD hc35) (Calm.move rfl rfl) ?_
            obtain ⟨t36, et36, hq32⟩ := of_bind hq32
            refine AO.callG 8 true 95 [(.fz 5 (t12.1.f1.map e82)), (eStr (vget p1 (1 : Int)))] (eBool t36) 99 rfl (by decide) ok33 rfl rfl (bD hc35) rfl rfl ⟨rfl, rfl, rfl, rfl, trivial⟩ (bosketref04_Has_spec et36) ?_
            refine AO.cG rfl rfl (bD hc35) (Calm.move rfl rfl) ?_
            refine AO.cG rfl rfl (bD hc35) (Calm.move rfl rfl) ?_
            refine AO.cG rfl rfl (bD hc35) (Calm.move rfl rfl) ?_
            obtain ⟨hg37, hq32⟩ := of_guard hq32
            refine AO.cG (x := eStr ((vget p1 (0 : Int)) ++ (vget p1 (1 : Int)))) rfl rfl (bD hc35) (Calm.cat rfl rfl rfl hg37) ?_
            obtain ⟨t38, et38, hq32⟩ := of_bind hq32
            refine AO.callG 8 true 95 [(.fz 5 (p0.map e82)), (eStr ((vget p1 (0 : Int)) ++ (vget p1 (1 : Int))))] (eBool t38) 104 rfl (by decide) ok33 rfl rfl (bD hc35) rfl rfl ⟨rfl, rfl, rfl, rfl, trivial⟩ (bosketref04_Has_spec et38) ?_
            refine AO.cG (x := eBool (t36 == t38)) rfl rfl (bD hc35) (Calm.boolEq rfl rfl rfl Try.underlying4) ?_
            refine AO.c (Calm.pickT rfl (bD hc35) rfl) ?_
            refine AO.c (Calm.assign rfl rfl) ?_
            cases hq32
            refine AO.nilE ⟨rfl, rfl⟩ ?_ ?_
            · exact ⟨rfl, trivial⟩
            · exact (Sub.nil _)
           ·refine AO.sT rfl rfl (bD (eq_false_of_ne_true hc35)) ?_
            refine AO.sT rfl rfl (bD (eq_false_of_ne_true hc35)) ?_
            refine AO.sT rfl rfl (bD (eq_false_of_ne_true hc35)) ?_
            refine AO.sT rfl rfl (bD (eq_false_of_ne_true hc35)) ?_
            refine AO.sT rfl rfl (bD (eq_false_of_ne_true hc35)) ?_
            refine AO.sT rfl rfl (bD (eq_false_of_ne_true hc35)) ?_
            refine AO.sT rfl rfl (bD (eq_false_of_ne_true hc35)) ?_
            refine AO.sT rfl rfl (bD (eq_false_of_ne_true hc35)) ?_
            refine AO.sT rfl rfl (bD (eq_false_of_ne_true hc35)) ?_
            refine AO.sT rfl rfl (bD (eq_false_of_ne_true hc35)) ?_
            refine AO.c (Calm.pickF rfl (bD (eq_false_of_ne_true hc35)) rfl) ?_
            refine AO.c (Calm.assign rfl rfl) ?_
            cases hq32
            refine AO.nilE ⟨rfl, rfl⟩ ?_ ?_
            · exact ⟨rfl, trivial⟩
            · exact (Sub.nil _)
          ·refine AO.sT rfl rfl (bD (eq_false_of_ne_true hc33)) ?_
           refine AO.sT rfl rfl (bD (eq_false_of_ne_true hc33)) ?_
           refine AO.sT rfl rfl (bD (eq_false_of_ne_true hc33)) ?_
           refine AO.c (Calm.pickF rfl (bD (eq_false_of_ne_true hc33)) rfl) ?_
           refine AO.c (Calm.move rfl rfl) ?_
           refine AO.sT rfl rfl rfl ?_
           refine AO.sT rfl rfl rfl ?_
           refine AO.sT rfl rfl rfl ?_
           refine AO.sT rfl rfl rfl ?_
           refine AO.sT rfl rfl rfl ?_
           refine AO.sT rfl rfl rfl ?_
           refine AO.sT rfl rfl rfl ?_
           refine AO.sT rfl rfl rfl ?_
           refine AO.sT rfl rfl rfl ?_
           refine AO.sT rfl rfl rfl ?_
           refine AO.c (Calm.pickF rfl rfl rfl) ?_
           refine AO.c (Calm.assign rfl rfl) ?_
           cases hq32
           refine AO.nilE ⟨rfl, rfl⟩ ?_ ?_
           · exact ⟨rfl, trivial⟩
           · exact (Sub.nil _)
         ·refine AW.rK [6] ?_
          have hr := Option.some.inj h
          subst hr
          exact ⟨[(eBool b31)], ⟨rfl, rfl, trivial⟩, rfl⟩
end Go.Avl.T3
