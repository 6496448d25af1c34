/- Parts: T3f40, T3f41. -/
import Derived.Test.YtcdennkoccjacaaAF1
/- bosket/bosketref05.First; printed by avmain.py. -/
namespace Go.Avl.T3
open Go Go.RowKit Go.Proofs Go.Avl
set_option linter.unusedVariables false
set_option maxRecDepth 100000
set_option maxHeartbeats 4000000
set_option linter.unusedSimpArgs false
attribute [local irreducible] AW AO AQ Spec SpecH Calm

def bosketref05_First_c0 (k : Nat) (t10 : ((Vector Int 4) × Bool)) (t13 : ((Vector Int 4) × Bool)) (x15 : (Vector Int 4)) : Option ((Vector Int 4) × Bool) :=
  Option.bind (α := Bool) (if t10.2 = true then some (t13.2)
  else some (false)) fun b16 =>
  some (x15, b16)
def bosketref05_First_r (k : Nat) : Nat → (List S82) → Option ((Vector Int 4) × Bool)
  | 0, _ => none
  | j + 1, p0 =>
    if 0 ≤ (w64 ((p0.length : Int) - (1 : Int))) ∧ (w64 ((p0.length : Int) - (1 : Int))) < (p0.length : Int) then (bosketref04_Parts k p0).bind fun t5 =>
    if ((lget p0 (w64 ((p0.length : Int) - (1 : Int)))).f0) = (0 : Int) then some ((Vector.replicate 4 (0 : Int)), true)
    else if ((lget p0 (w64 ((p0.length : Int) - (1 : Int)))).f0) = (1 : Int) then some ((lget p0 (w64 ((p0.length : Int) - (1 : Int)))).f1, false)
    else if ((lget p0 (w64 ((p0.length : Int) - (1 : Int)))).f0) = (2 : Int) then if 0 ≤ (0 : Int) ∧ (0 : Int) < (t5.length : Int) then ((bosketref05_First_r k j) (lget t5 (0 : Int))).bind fun t10 =>
    if 0 ≤ (1 : Int) ∧ (1 : Int) < (t5.length : Int) then ((bosketref05_First_r k j) (lget t5 (1 : Int))).bind fun t13 =>
    if t10.2 = true then (bosketref02_Put k (0 : Int) t10.1 t13.1).bind fun t20 =>
    bosketref05_First_c0 k t10 t13 t20
    else bosketref05_First_c0 k t10 t13 t10.1
    else none
    else none
    else if ((lget p0 (w64 ((p0.length : Int) - (1 : Int)))).f0) = (3 : Int) then if 0 ≤ (0 : Int) ∧ (0 : Int) < (t5.length : Int) then ((bosketref05_First_r k j) (lget t5 (0 : Int))).bind fun t23 =>
    if 0 ≤ (1 : Int) ∧ (1 : Int) < (t5.length : Int) then ((bosketref05_First_r k j) (lget t5 (1 : Int))).bind fun t26 =>
    Option.bind (α := (Vector Int 4) × Bool) ((bosketref02_Put k (0 : Int) t23.1 t26.1).bind fun t31 =>
    if t23.2 = true then some (t31, true)
    else some (t31, t26.2)) fun (x28, b29) =>
    some (x28, b29)
    else none
    else none
    else if 0 ≤ (0 : Int) ∧ (0 : Int) < (t5.length : Int) then ((bosketref05_First_r k j) (lget t5 (0 : Int))).bind fun t34 =>
    if t34.2 = true then some (t34.1, true)
    else some (t34.1, decide (((lget p0 (w64 ((p0.length : Int) - (1 : Int)))).f0) ≠ (5 : Int)))
    else none
    else none
def bosketref05_First (k : Nat) (p0 : (List S82)) : Option ((Vector Int 4) × Bool) := bosketref05_First_r k k p0
theorem bosketref05_First_spec' (k : Nat) : ∀ (j : Nat) (p0 : (List S82)) (r : ((Vector Int 4) × Bool)), bosketref05_First_r k j p0 = some r → Spec Try.prog 40 [(.fz 5 (p0.map e82))] (.tup [(.ar 1 (r.1.toList.map eU64)), (eBool r.2)]) := by
  intro j
  induction j with
  | zero => intro p0 r h; rw [bosketref05_First_r.eq_1] at h; cases h
  | succ j hself =>
  intro p0 r h
  rw [bosketref05_First_r.eq_2] at h
  generalize hs : bosketref05_First_r k j = self at h hself
  refine Spec.intro (res := [.cell 2 33, .tmp 3]) Try.func40 rfl rfl rfl (Nat.le_of_ble_eq_true rfl) ?_
  refine AW.sr ?_
  refine AO.alloc rfl 2 rfl (by decide) rfl zr33 lay33 fun n2 => ?_
  refine AO.c (Calm.assign rfl rfl) ?_
  refine AO.nK [0, 2] ?_
  refine AW.sr ?_
  refine AO.c (Calm.move rfl rfl) ?_
  refine AO.c (Calm.move rfl rfl) ?_
  refine AO.c (Calm.lenL rfl rfl Try.underlying58) ?_
  refine AO.c (x := eI64 (w64 ((p0.length : Int) - (1 : Int)))) (Calm.int rfl rfl rfl rfl) ?_
  obtain ⟨hg3, h⟩ := of_guard h
  refine AO.c (Calm.idxL (f := e82) rfl rfl rfl hg3 Try.underlying58 sz82) ?_
  refine AO.c (Calm.loadRp rfl rfl ag82 sz82) ?_
  refine AO.alloc rfl 4 rfl (by decide) rfl zr82 lay82 fun n4 => ?_
  refine AO.store (X' := (e82 (lget p0 (w64 ((p0.length : Int) - (1 : Int)))))) 0 rfl rfl rfl rfl rfl rfl (Put.cast Put.here rfl) rfl rfl sz82 rfl ?_
  refine AO.nH [0, 2, 4] (H' := [(n2, (.mem (.ar 1 ((Vector.replicate 4 (0 : Int)).toList.map eU64)))), (n4, (.mem (e82 (lget p0 (w64 ((p0.length : Int) - (1 : Int)))))))]) (Sub.cons 1 rfl (Sub.cons 0 rfl (Sub.nil _))) ?_
  refine AW.sr ?_
  refine AO.c (Calm.move rfl rfl) ?_
  obtain ⟨t5, et5, h⟩ := of_bind h
  refine AO.callS [(.fz 5 (p0.map e82))] (.fz 1 (t5.map e58)) 23 rfl (by decide) ok62 rfl rfl rfl ⟨rfl, rfl, trivial⟩ (bosketref04_Parts_spec et5) ?_
  refine AO.c (Calm.assign rfl rfl) ?_
  refine AO.nK [2, 4, 5] ?_
  refine AW.seq ?_
  refine AW.sr ?_
  refine AO.c (x := .ptr n4 0) (Calm.fldPtr rfl rfl Try.underlying82 rfl sz3 _ rfl) ?_
  refine AO.c (Calm.load 1 rfl rfl rfl (At.cast (At.fld0 At.here) rfl) ag3 sz3) ?_
  refine AO.nK [2, 4, 5, 25] ?_
  refine AW.block ?_
  refine AW.sr ?_
  refine AO.c (x := eBool (decide (((lget p0 (w64 ((p0.length : Int) - (1 : Int)))).f0) = (0 : Int)))) (Calm.int rfl rfl rfl rfl) ?_
  refine AO.c (Calm.assign rfl rfl) ?_
  refine AO.nK [2, 4, 5, 25, 26] ?_
  rcases of_ite h with ⟨hc6, h⟩ | ⟨hc6, h⟩
  ·refine AW.condP _ rfl hc6 ?_
   refine AW.sr ?_
   refine AO.c (x := .ar 1 ((Vector.replicate 4 (0 : Int)).toList.map eU64)) (Calm.buildAr (qs := []) rfl trivial Try.underlying33 sz31 zr33 lay33 .nil rfl) ?_
   refine AO.store (X' := (.ar 1 ((Vector.replicate 4 (0 : Int)).toList.map eU64))) 0 rfl rfl rfl rfl rfl rfl (Put.cast Put.here rfl) rfl (by simp [AV.size]) (by rw [sz33]; simp [AV.size]) rfl ?_
   refine AO.c (Calm.assign rfl rfl) ?_
   refine AO.nH [2, 3] (H' := [(n2, (.mem (.ar 1 ((Vector.replicate 4 (0 : Int)).toList.map eU64))))]) (Sub.cons 0 rfl (Sub.nil _)) ?_
   refine AW.rK [2, 3] ?_
   have hr := Option.some.inj h
   subst hr
   exact ⟨[(.ar 1 ((Vector.replicate 4 (0 : Int)).toList.map eU64)), (eBool true)], ⟨⟨_, 0, rfl, rfl, ag33, (by rw [sz33]; simp [AV.size])⟩, rfl, rfl, trivial⟩, rfl⟩
  ·refine AW.condN _ rfl hc6 ?_
   refine AW.sr ?_
   refine AO.c (x := eBool (decide (((lget p0 (w64 ((p0.length : Int) - (1 : Int)))).f0) = (1 : Int)))) (Calm.int rfl rfl rfl rfl) ?_
   refine AO.c (Calm.assign rfl rfl) ?_
   refine AO.nK [2, 4, 5, 25, 29] ?_
   rcases of_ite h with ⟨hc7, h⟩ | ⟨hc7, h⟩
   ·refine AW.condP _ rfl hc7 ?_
    refine AW.sr ?_
    refine AO.c (x := .ptr n4 1) (Calm.fldPtr rfl rfl Try.underlying82 rfl sz33 _ rfl) ?_
    refine AO.c (Calm.load 1 rfl rfl rfl (At.cast (At.fldS (At.fld0 At.here)) rfl) ag33 (by rw [sz33]; simp [AV.size])) ?_
    refine AO.store (X' := (.ar 1 (((lget p0 (w64 ((p0.length : Int) - (1 : Int)))).f1).toList.map eU64))) 0 rfl rfl rfl rfl rfl rfl (Put.cast Put.here rfl) rfl (by simp [AV.size]) (by rw [sz33]; simp [AV.size]) rfl ?_
    refine AO.c (Calm.assign rfl rfl) ?_
    refine AO.nH [2, 3] (H' := [(n2, (.mem (.ar 1 (((lget p0 (w64 ((p0.length : Int) - (1 : Int)))).f1).toList.map eU64))))]) (Sub.cons 0 rfl (Sub.nil _)) ?_
    refine AW.rK [2, 3] ?_
    have hr := Option.some.inj h
    subst hr
    exact ⟨[(.ar 1 (((lget p0 (w64 ((p0.length : Int) - (1 : Int)))).f1).toList.map eU64)), (eBool false)], ⟨⟨_, 0, rfl, rfl, ag33, (by rw [sz33]; simp [AV.size])⟩, rfl, rfl, trivial⟩, rfl⟩
   ·refine AW.condN _ rfl hc7 ?_
    refine AW.sr ?_
    refine AO.c (x := eBool (decide (((lget p0 (w64 ((p0.length : Int) - (1 : Int)))).f0) = (2 : Int)))) (Calm.int rfl rfl rfl rfl) ?_
    refine AO.c (Calm.assign rfl rfl) ?_
    refine AO.nK [2, 4, 5, 25, 33] ?_
    rcases of_ite h with ⟨hc8, h⟩ | ⟨hc8, h⟩
    ·refine AW.condP _ rfl hc8 ?_
     refine AW.sr ?_
     refine AO.c (Calm.move rfl rfl) ?_
     obtain ⟨hg9, h⟩ := of_guard h
     refine AO.c (Calm.idxL (f := e58) rfl rfl rfl hg9 Try.underlying97 sz58) ?_
     refine AO.c (Calm.loadRp rfl rfl ag58 sz58) ?_
     obtain ⟨t10, et10, h⟩ := of_bind h
     refine AO.callS [(.fz 5 ((lget t5 (0 : Int)).map e82))] (.tup [(.ar 1 (t10.1.toList.map eU64)), (eBool t10.2)]) 39 rfl (by decide) ok40 rfl rfl rfl ⟨rfl, rfl, trivial⟩ (hself _ _ et10) ?_
     refine AO.c (Calm.move rfl rfl) ?_
     refine AO.c (Calm.extract rfl rfl rfl) ?_
     refine AO.c (Calm.extract rfl rfl rfl) ?_
     refine AO.alloc rfl 6 rfl (by decide) rfl zr33 lay33 fun n11 => ?_
     refine AO.store (X' := (.ar 1 (t10.1.toList.map eU64))) 0 rfl rfl rfl rfl rfl rfl (Put.cast Put.here rfl) rfl (by simp [AV.size]) (by rw [sz33]; simp [AV.size]) rfl ?_
     refine AO.c (Calm.assign rfl rfl) ?_
     refine AO.nH [2, 5, 6, 7] (H' := [(n2, (.mem (.ar 1 ((Vector.replicate 4 (0 : Int)).toList.map eU64)))), (n11, (.mem (.ar 1 (t10.1.toList.map eU64))))]) (Sub.cons 1 rfl (Sub.cons 0 rfl (Sub.nil _))) ?_
     refine AW.sr ?_
     refine AO.c (Calm.move rfl rfl) ?_
     obtain ⟨hg12, h⟩ := of_guard h
     refine AO.c (Calm.idxL (f := e58) rfl rfl rfl hg12 Try.underlying97 sz58) ?_
     refine AO.c (Calm.loadRp rfl rfl ag58 sz58) ?_
     obtain ⟨t13, et13, h⟩ := of_bind h
     refine AO.callS [(.fz 5 ((lget t5 (1 : Int)).map e82))] (.tup [(.ar 1 (t13.1.toList.map eU64)), (eBool t13.2)]) 46 rfl (by decide) ok40 rfl rfl rfl ⟨rfl, rfl, trivial⟩ (hself _ _ et13) ?_
     refine AO.c (Calm.move rfl rfl) ?_
     refine AO.c (Calm.extract rfl rfl rfl) ?_
     refine AO.c (Calm.extract rfl rfl rfl) ?_
     refine AO.alloc rfl 8 rfl (by decide) rfl zr33 lay33 fun n14 => ?_
     refine AO.store (X' := (.ar 1 (t13.1.toList.map eU64))) 0 rfl rfl rfl rfl rfl rfl (Put.cast Put.here rfl) rfl (by simp [AV.size]) (by rw [sz33]; simp [AV.size]) rfl ?_
     refine AO.c (Calm.assign rfl rfl) ?_
     refine AO.nH [2, 6, 7, 8, 9] (H' := [(n2, (.mem (.ar 1 ((Vector.replicate 4 (0 : Int)).toList.map eU64)))), (n11, (.mem (.ar 1 (t10.1.toList.map eU64)))), (n14, (.mem (.ar 1 (t13.1.toList.map eU64))))]) (Sub.cons 1 rfl (Sub.cons 1 rfl (Sub.cons 0 rfl (Sub.nil _)))) ?_
     refine AW.seq_mid (fun ρ H => ∃ (x15 : (Vector Int 4)), ρ = [(2, (.ptr n2 0)), (6, (.ptr n11 0)), (7, (eBool t10.2)), (9, (eBool t13.2))] ∧ H = [(n2, (.mem (.ar 1 ((Vector.replicate 4 (0 : Int)).toList.map eU64)))), (n11, (.mem (.ar 1 (x15.toList.map eU64))))] ∧ bosketref05_First_c0 k t10 t13 x15 = some r) ?_ ?_
     ·refine AW.sr ?_
      refine AO.c (Calm.move rfl rfl) ?_
      refine AO.nK [2, 6, 7, 8, 9, 49] ?_
      rcases of_ite h with ⟨hc19, h⟩ | ⟨hc19, h⟩
      ·refine AW.condT' _ rfl hc19 ?_
       refine AW.reg ?_
       refine AO.c (Calm.load 1 rfl rfl rfl (At.cast At.here rfl) ag33 (by rw [sz33]; simp [AV.size])) ?_
       refine AO.c (Calm.load 2 rfl rfl rfl (At.cast At.here rfl) ag33 (by rw [sz33]; simp [AV.size])) ?_
       obtain ⟨t20, et20, h⟩ := of_bind h
       refine AO.callS [(eI64 (0 : Int)), (.ar 1 (t10.1.toList.map eU64)), (.ar 1 (t13.1.toList.map eU64))] (.ar 1 (t20.toList.map eU64)) 52 rfl (by decide) ok63 rfl rfl rfl ⟨rfl, rfl, rfl, rfl, rfl, rfl, trivial⟩ (bosketref02_Put_spec et20) ?_
       refine AO.store (X' := (.ar 1 (t20.toList.map eU64))) 1 rfl rfl rfl rfl rfl rfl (Put.cast Put.here rfl) rfl (by simp [AV.size]) (by rw [sz33]; simp [AV.size]) rfl ?_
       refine AO.nH [2, 6, 7, 9] (H' := [(n2, (.mem (.ar 1 ((Vector.replicate 4 (0 : Int)).toList.map eU64)))), (n11, (.mem (.ar 1 (t20.toList.map eU64))))]) (Sub.cons 0 rfl (Sub.cons 0 rfl (Sub.nil _))) ?_
       exact ⟨t20, rfl, rfl, h⟩
      ·refine AW.condF' _ rfl hc19 ?_
       refine AW.sH [2, 6, 7, 9] (H' := [(n2, (.mem (.ar 1 ((Vector.replicate 4 (0 : Int)).toList.map eU64)))), (n11, (.mem (.ar 1 (t10.1.toList.map eU64))))]) (Sub.cons 0 rfl (Sub.cons 0 rfl (Sub.nil _))) ?_
       exact ⟨t10.1, rfl, rfl, h⟩
     ·rintro _ _ ⟨x15, rfl, rfl, h⟩
      rw [bosketref05_First_c0.eq_1] at h
      refine AW.seq ?_
      obtain ⟨b16, hq17, h⟩ := of_bind h
      refine AW.regM [(2, (.ptr n2 0)), (3, (eBool b16))] [(n2, (.mem (.ar 1 (x15.toList.map eU64))))] ?_ ?_
      ·refine AO.c (Calm.load 1 rfl rfl rfl (At.cast At.here rfl) ag33 (by rw [sz33]; simp [AV.size])) ?_
       refine AO.c (Calm.move rfl rfl) ?_
       refine AO.c (Calm.move rfl rfl) ?_
       rcases of_ite hq17 with ⟨hc18, hq17⟩ | ⟨hc18, hq17⟩
       ·refine AO.cG rfl rfl (bD hc18) (Calm.move rfl rfl) ?_
        refine AO.c (Calm.pickT rfl (bD hc18) rfl) ?_
        refine AO.store (X' := (.ar 1 (x15.toList.map eU64))) 0 rfl rfl rfl rfl rfl rfl (Put.cast Put.here rfl) rfl (by simp [AV.size]) (by rw [sz33]; simp [AV.size]) rfl ?_
        refine AO.c (Calm.assign rfl rfl) ?_
        cases hq17
        refine AO.nilE ⟨rfl, rfl⟩ ?_ ?_
        · exact ⟨rfl, rfl, trivial⟩
        · exact (Sub.cons 0 rfl (Sub.nil _))
       ·refine AO.sT rfl rfl (bD (eq_false_of_ne_true hc18)) ?_
        refine AO.c (Calm.pickF rfl (bD (eq_false_of_ne_true hc18)) rfl) ?_
        refine AO.store (X' := (.ar 1 (x15.toList.map eU64))) 0 rfl rfl rfl rfl rfl rfl (Put.cast Put.here rfl) rfl (by simp [AV.size]) (by rw [sz33]; simp [AV.size]) rfl ?_
        refine AO.c (Calm.assign rfl rfl) ?_
        cases hq17
        refine AO.nilE ⟨rfl, rfl⟩ ?_ ?_
        · exact ⟨rfl, rfl, trivial⟩
        · exact (Sub.cons 0 rfl (Sub.nil _))
      ·refine AW.rK [2, 3] ?_
       have hr := Option.some.inj h
       subst hr
       exact ⟨[(.ar 1 (x15.toList.map eU64)), (eBool b16)], ⟨⟨_, 0, rfl, rfl, ag33, (by rw [sz33]; simp [AV.size])⟩, rfl, rfl, trivial⟩, rfl⟩
    ·refine AW.condN _ rfl hc8 ?_
     refine AW.sr ?_
     refine AO.c (x := eBool (decide (((lget p0 (w64 ((p0.length : Int) - (1 : Int)))).f0) = (3 : Int)))) (Calm.int rfl rfl rfl rfl) ?_
     refine AO.c (Calm.assign rfl rfl) ?_
     refine AO.nK [2, 4, 5, 58] ?_
     rcases of_ite h with ⟨hc21, h⟩ | ⟨hc21, h⟩
     ·refine AW.condP _ rfl hc21 ?_
      refine AW.sr ?_
      refine AO.c (Calm.move rfl rfl) ?_
      obtain ⟨hg22, h⟩ := of_guard h
      refine AO.c (Calm.idxL (f := e58) rfl rfl rfl hg22 Try.underlying97 sz58) ?_
      refine AO.c (Calm.loadRp rfl rfl ag58 sz58) ?_
      obtain ⟨t23, et23, h⟩ := of_bind h
      refine AO.callS [(.fz 5 ((lget t5 (0 : Int)).map e82))] (.tup [(.ar 1 (t23.1.toList.map eU64)), (eBool t23.2)]) 64 rfl (by decide) ok40 rfl rfl rfl ⟨rfl, rfl, trivial⟩ (hself _ _ et23) ?_
      refine AO.c (Calm.move rfl rfl) ?_
      refine AO.c (Calm.extract rfl rfl rfl) ?_
      refine AO.c (Calm.extract rfl rfl rfl) ?_
      refine AO.alloc rfl 10 rfl (by decide) rfl zr33 lay33 fun n24 => ?_
      refine AO.store (X' := (.ar 1 (t23.1.toList.map eU64))) 0 rfl rfl rfl rfl rfl rfl (Put.cast Put.here rfl) rfl (by simp [AV.size]) (by rw [sz33]; simp [AV.size]) rfl ?_
      refine AO.c (Calm.assign rfl rfl) ?_
      refine AO.nH [2, 5, 10, 11] (H' := [(n2, (.mem (.ar 1 ((Vector.replicate 4 (0 : Int)).toList.map eU64)))), (n24, (.mem (.ar 1 (t23.1.toList.map eU64))))]) (Sub.cons 1 rfl (Sub.cons 0 rfl (Sub.nil _))) ?_
      refine AW.sr ?_
      refine AO.c (Calm.move rfl rfl) ?_
      obtain ⟨hg25, h⟩ := of_guard h
      refine AO.c (Calm.idxL (f := e58) rfl rfl rfl hg25 Try.underlying97 sz58) ?_
      refine AO.c (Calm.loadRp rfl rfl ag58 sz58) ?_
      obtain ⟨t26, et26, h⟩ := of_bind h
      refine AO.callS [(.fz 5 ((lget t5 (1 : Int)).map e82))] (.tup [(.ar 1 (t26.1.toList.map eU64)), (eBool t26.2)]) 71 rfl (by decide) ok40 rfl rfl rfl ⟨rfl, rfl, trivial⟩ (hself _ _ et26) ?_
      refine AO.c (Calm.move rfl rfl) ?_
      refine AO.c (Calm.extract rfl rfl rfl) ?_
      refine AO.c (Calm.extract rfl rfl rfl) ?_
      refine AO.alloc rfl 12 rfl (by decide) rfl zr33 lay33 fun n27 => ?_
      refine AO.store (X' := (.ar 1 (t26.1.toList.map eU64))) 0 rfl rfl rfl rfl rfl rfl (Put.cast Put.here rfl) rfl (by simp [AV.size]) (by rw [sz33]; simp [AV.size]) rfl ?_
      refine AO.c (Calm.assign rfl rfl) ?_
      refine AO.nH [2, 10, 11, 12, 13] (H' := [(n2, (.mem (.ar 1 ((Vector.replicate 4 (0 : Int)).toList.map eU64)))), (n24, (.mem (.ar 1 (t23.1.toList.map eU64)))), (n27, (.mem (.ar 1 (t26.1.toList.map eU64))))]) (Sub.cons 1 rfl (Sub.cons 1 rfl (Sub.cons 0 rfl (Sub.nil _)))) ?_
      refine AW.seq ?_
      obtain ⟨⟨x28, b29⟩, hq30, h⟩ := of_bind h
      refine AW.regM [(2, (.ptr n2 0)), (3, (eBool b29))] [(n2, (.mem (.ar 1 (x28.toList.map eU64))))] ?_ ?_
      ·refine AO.c (Calm.load 1 rfl rfl rfl (At.cast At.here rfl) ag33 (by rw [sz33]; simp [AV.size])) ?_
       refine AO.c (Calm.load 2 rfl rfl rfl (At.cast At.here rfl) ag33 (by rw [sz33]; simp [AV.size])) ?_
       obtain ⟨t31, et31, hq30⟩ := of_bind hq30
       refine AO.callS [(eI64 (0 : Int)), (.ar 1 (t23.1.toList.map eU64)), (.ar 1 (t26.1.toList.map eU64))] (.ar 1 (t31.toList.map eU64)) 76 rfl (by decide) ok63 rfl rfl rfl ⟨rfl, rfl, rfl, rfl, rfl, rfl, trivial⟩ (bosketref02_Put_spec et31) ?_
       refine AO.c (Calm.move rfl rfl) ?_
       refine AO.c (Calm.move rfl rfl) ?_
       rcases of_ite hq30 with ⟨hc32, hq30⟩ | ⟨hc32, hq30⟩
       ·refine AO.sF rfl rfl (bD hc32) ?_
        refine AO.c (Calm.pickT rfl (bD hc32) rfl) ?_
        refine AO.store (X' := (.ar 1 (t31.toList.map eU64))) 0 rfl rfl rfl rfl rfl rfl (Put.cast Put.here rfl) rfl (by simp [AV.size]) (by rw [sz33]; simp [AV.size]) rfl ?_
        refine AO.c (Calm.assign rfl rfl) ?_
        cases hq30
        refine AO.nilE ⟨rfl, rfl⟩ ?_ ?_
        · exact ⟨rfl, rfl, trivial⟩
        · exact (Sub.cons 0 rfl (Sub.nil _))
       ·refine AO.cG rfl rfl (bD (eq_false_of_ne_true hc32)) (Calm.move rfl rfl) ?_
        refine AO.c (Calm.pickF rfl (bD (eq_false_of_ne_true hc32)) rfl) ?_
        refine AO.store (X' := (.ar 1 (t31.toList.map eU64))) 0 rfl rfl rfl rfl rfl rfl (Put.cast Put.here rfl) rfl (by simp [AV.size]) (by rw [sz33]; simp [AV.size]) rfl ?_
        refine AO.c (Calm.assign rfl rfl) ?_
        cases hq30
        refine AO.nilE ⟨rfl, rfl⟩ ?_ ?_
        · exact ⟨rfl, rfl, trivial⟩
        · exact (Sub.cons 0 rfl (Sub.nil _))
      ·refine AW.rK [2, 3] ?_
       have hr := Option.some.inj h
       subst hr
       exact ⟨[(.ar 1 (x28.toList.map eU64)), (eBool b29)], ⟨⟨_, 0, rfl, rfl, ag33, (by rw [sz33]; simp [AV.size])⟩, rfl, rfl, trivial⟩, rfl⟩
     ·refine AW.condN _ rfl hc21 ?_
      refine AW.sK [2, 4, 5] ?_
      refine AW.sr ?_
      refine AO.c (Calm.move rfl rfl) ?_
      obtain ⟨hg33, h⟩ := of_guard h
      refine AO.c (Calm.idxL (f := e58) rfl rfl rfl hg33 Try.underlying97 sz58) ?_
      refine AO.c (Calm.loadRp rfl rfl ag58 sz58) ?_
      obtain ⟨t34, et34, h⟩ := of_bind h
      refine AO.callS [(.fz 5 ((lget t5 (0 : Int)).map e82))] (.tup [(.ar 1 (t34.1.toList.map eU64)), (eBool t34.2)]) 85 rfl (by decide) ok40 rfl rfl rfl ⟨rfl, rfl, trivial⟩ (hself _ _ et34) ?_
      refine AO.c (Calm.move rfl rfl) ?_
      refine AO.c (Calm.extract rfl rfl rfl) ?_
      refine AO.c (Calm.extract rfl rfl rfl) ?_
      refine AO.alloc rfl 14 rfl (by decide) rfl zr33 lay33 fun n35 => ?_
      refine AO.store (X' := (.ar 1 (t34.1.toList.map eU64))) 0 rfl rfl rfl rfl rfl rfl (Put.cast Put.here rfl) rfl (by simp [AV.size]) (by rw [sz33]; simp [AV.size]) rfl ?_
      refine AO.c (Calm.assign rfl rfl) ?_
      refine AO.nH [2, 4, 14, 15] (H' := [(n2, (.mem (.ar 1 ((Vector.replicate 4 (0 : Int)).toList.map eU64)))), (n4, (.mem (e82 (lget p0 (w64 ((p0.length : Int) - (1 : Int))))))), (n35, (.mem (.ar 1 (t34.1.toList.map eU64))))]) (Sub.cons 1 rfl (Sub.cons 1 rfl (Sub.cons 0 rfl (Sub.nil _)))) ?_
      refine AW.seq ?_
      rcases of_ite h with ⟨hc36, h⟩ | ⟨hc36, h⟩
      ·refine AW.regEff (by rfl) (by decide +kernel) (fun (σ : Nat → Nat) => ([(.ar 1 (t34.1.toList.map eU64)), (eBool t34.2), (eBool t34.2), (.fl undef), (.fl undef), (.fl undef), (eBool true), (.fl undef), (eBool true)] : List AV)) (fun (L : Nat → Bool) (σ : Nat → Nat) => ((n4, (.mem (e82 (lget p0 (w64 ((p0.length : Int) - (1 : Int))))))) :: (n35, (.mem (.ar 1 (t34.1.toList.map eU64)))) :: (bif L 7 then ((n2, (.mem (.ar 1 (t34.1.toList.map eU64)))) :: []) else ((n2, (.mem (.ar 1 ((Vector.replicate 4 (0 : Int)).toList.map eU64)))) :: [])) : Heap)) [(2, (.ptr n2 0)), (4, (.ptr n4 0)), (14, (.ptr n35 0)), (15, (eBool t34.2))] ⟨rfl, rfl, rfl, rfl, trivial⟩ (fun _ => rfl) (fun σ => (Sub.cons 1 rfl (Sub.cons 1 rfl (Sub.cons 0 rfl (Sub.refl _))))) ⟨?_, ?_, ?_, ?_, ?_, ?_, ?_, ?_, ?_, trivial⟩ (fun σ => [(2, (.ptr n2 0)), (3, (eBool true))]) (fun σ => ((n4, (.mem (e82 (lget p0 (w64 ((p0.length : Int) - (1 : Int))))))) :: (n35, (.mem (.ar 1 (t34.1.toList.map eU64)))) :: (n2, (.mem (.ar 1 (t34.1.toList.map eU64)))) :: [])) (fun σ => ⟨rfl, rfl, trivial⟩) (fun σ => Sub.refl _) (fun σ => ?_)
       ·refine StepE.calm (fun _ _ => rfl) fun L σ hc hi hd => ?_
        refine AO.wK [14] ?_
        refine AO.c (Calm.load 1 rfl rfl rfl (At.cast At.here rfl) ag33 (by rw [sz33]; simp [AV.size])) ?_
        exact AO.nE (d := 88) rfl ⟨⟨88, _, rfl, rfl, rfl⟩, Sub.refl _⟩
       ·refine StepE.calm (fun _ _ => rfl) fun L σ hc hi hd => ?_
        refine AO.wK [15] ?_
        refine AO.c (Calm.move rfl rfl) ?_
        exact AO.nE (d := 89) rfl ⟨⟨89, _, rfl, rfl, rfl⟩, Sub.refl _⟩
       ·refine StepE.calm (fun _ _ => rfl) fun L σ hc hi hd => ?_
        refine AO.wK [89] ?_
        refine AO.c (Calm.move rfl rfl) ?_
        exact AO.nE (d := 90) rfl ⟨⟨90, _, rfl, rfl, rfl⟩, Sub.refl _⟩
       ·refine StepE.calm (fun _ _ => rfl) fun L σ hc hi hd => ?_
        refine AO.wK [90] ?_
        refine AO.sF rfl rfl (bD hc36) ?_
        exact AO.nE (d := 91) rfl ⟨⟨91, _, rfl, rfl, rfl⟩, Sub.refl _⟩
       ·refine StepE.calm (fun _ _ => rfl) fun L σ hc hi hd => ?_
        refine AO.wK [90] ?_
        refine AO.sF rfl rfl (bD hc36) ?_
        exact AO.nE (d := 92) rfl ⟨⟨92, _, rfl, rfl, rfl⟩, Sub.refl _⟩
       ·refine StepE.calm (fun _ _ => rfl) fun L σ hc hi hd => ?_
        refine AO.wK [90] ?_
        refine AO.sF rfl rfl (bD hc36) ?_
        exact AO.nE (d := 93) rfl ⟨⟨93, _, rfl, rfl, rfl⟩, Sub.refl _⟩
       ·refine StepE.calm (fun _ _ => rfl) fun L σ hc hi hd => ?_
        refine AO.wK [90, 93] ?_
        refine AO.c (Calm.pickT rfl (bD hc36) rfl) ?_
        exact AO.nE (d := 94) rfl ⟨⟨94, _, rfl, rfl, rfl⟩, Sub.refl _⟩
       ·intro L σ hc hi hd
        refine AO.heq (H' := ((n4, (.mem (e82 (lget p0 (w64 ((p0.length : Int) - (1 : Int))))))) :: (n35, (.mem (.ar 1 (t34.1.toList.map eU64)))) :: (n2, (.mem (.ar 1 ((Vector.replicate 4 (0 : Int)).toList.map eU64)))) :: [])) (by first | rfl | simp only [hi, cond_true, cond_false]) ?_
        refine AO.wK [2, 88] ?_
        refine AO.store (X' := (.ar 1 (t34.1.toList.map eU64))) 2 rfl rfl rfl rfl rfl rfl (Put.cast Put.here rfl) rfl (by simp [AV.size]) (by rw [sz33]; simp [AV.size]) rfl ?_
        have a7 : addL L 7 7 = true := rfl
        exact AO.n0 ⟨σ, (fun _ _ => rfl), (fun d' hd' => by cases hd'), Sub.of_eq (B := ((n4, (.mem (e82 (lget p0 (w64 ((p0.length : Int) - (1 : Int))))))) :: (n35, (.mem (.ar 1 (t34.1.toList.map eU64)))) :: (n2, (.mem (.ar 1 (t34.1.toList.map eU64)))) :: [])) (by simp only [a7, cond_true, cond_false]) (Sub.refl _)⟩
       ·refine StepE.calm (fun _ _ => rfl) fun L σ hc hi hd => ?_
        refine AO.wK [94] ?_
        refine AO.c (Calm.assign rfl rfl) ?_
        exact AO.nE (d := 3) rfl ⟨⟨3, _, rfl, rfl, rfl⟩, Sub.refl _⟩
       ·refine AO.nH [2, 3] (H' := [(n2, (.mem (.ar 1 (t34.1.toList.map eU64))))]) (Sub.cons 2 rfl (Sub.nil _)) ?_
        refine AW.rK [2, 3] ?_
        have hr := Option.some.inj h
        subst hr
        exact ⟨[(.ar 1 (t34.1.toList.map eU64)), (eBool true)], ⟨⟨_, 0, rfl, rfl, ag33, (by rw [sz33]; simp [AV.size])⟩, rfl, rfl, trivial⟩, rfl⟩
      ·refine AW.regEff (by rfl) (by decide +kernel) (fun (σ : Nat → Nat) => ([(.ar 1 (t34.1.toList.map eU64)), (eBool t34.2), (eBool t34.2), (.ptr n4 0), (eI64 ((lget p0 (w64 ((p0.length : Int) - (1 : Int)))).f0)), (eBool (decide (((lget p0 (w64 ((p0.length : Int) - (1 : Int)))).f0) ≠ (5 : Int)))), (eBool (decide (((lget p0 (w64 ((p0.length : Int) - (1 : Int)))).f0) ≠ (5 : Int)))), (.fl undef), (eBool (decide (((lget p0 (w64 ((p0.length : Int) - (1 : Int)))).f0) ≠ (5 : Int))))] : List AV)) (fun (L : Nat → Bool) (σ : Nat → Nat) => ((n4, (.mem (e82 (lget p0 (w64 ((p0.length : Int) - (1 : Int))))))) :: (n35, (.mem (.ar 1 (t34.1.toList.map eU64)))) :: (bif L 7 then ((n2, (.mem (.ar 1 (t34.1.toList.map eU64)))) :: []) else ((n2, (.mem (.ar 1 ((Vector.replicate 4 (0 : Int)).toList.map eU64)))) :: [])) : Heap)) [(2, (.ptr n2 0)), (4, (.ptr n4 0)), (14, (.ptr n35 0)), (15, (eBool t34.2))] ⟨rfl, rfl, rfl, rfl, trivial⟩ (fun _ => rfl) (fun σ => (Sub.cons 1 rfl (Sub.cons 1 rfl (Sub.cons 0 rfl (Sub.refl _))))) ⟨?_, ?_, ?_, ?_, ?_, ?_, ?_, ?_, ?_, trivial⟩ (fun σ => [(2, (.ptr n2 0)), (3, (eBool (decide (((lget p0 (w64 ((p0.length : Int) - (1 : Int)))).f0) ≠ (5 : Int)))))]) (fun σ => ((n4, (.mem (e82 (lget p0 (w64 ((p0.length : Int) - (1 : Int))))))) :: (n35, (.mem (.ar 1 (t34.1.toList.map eU64)))) :: (n2, (.mem (.ar 1 (t34.1.toList.map eU64)))) :: [])) (fun σ => ⟨rfl, rfl, trivial⟩) (fun σ => Sub.refl _) (fun σ => ?_)
       ·refine StepE.calm (fun _ _ => rfl) fun L σ hc hi hd => ?_
        refine AO.wK [14] ?_
        refine AO.c (Calm.load 1 rfl rfl rfl (At.cast At.here rfl) ag33 (by rw [sz33]; simp [AV.size])) ?_
        exact AO.nE (d := 88) rfl ⟨⟨88, _, rfl, rfl, rfl⟩, Sub.refl _⟩
       ·refine StepE.calm (fun _ _ => rfl) fun L σ hc hi hd => ?_
        refine AO.wK [15] ?_
        refine AO.c (Calm.move rfl rfl) ?_
        exact AO.nE (d := 89) rfl ⟨⟨89, _, rfl, rfl, rfl⟩, Sub.refl _⟩
       ·refine StepE.calm (fun _ _ => rfl) fun L σ hc hi hd => ?_
        refine AO.wK [89] ?_
        refine AO.c (Calm.move rfl rfl) ?_
        exact AO.nE (d := 90) rfl ⟨⟨90, _, rfl, rfl, rfl⟩, Sub.refl _⟩
       ·refine StepE.calm (fun _ _ => rfl) fun L σ hc hi hd => ?_
        refine AO.wK [4, 90] ?_
        refine AO.cG (x := .ptr n4 0) rfl rfl (bD (eq_false_of_ne_true hc36)) (Calm.fldPtr rfl rfl Try.underlying82 rfl sz3 _ rfl) ?_
        exact AO.nE (d := 91) rfl ⟨⟨91, _, rfl, rfl, rfl⟩, Sub.refl _⟩
       ·refine StepE.calm (fun _ _ => rfl) fun L σ hc hi hd => ?_
        refine AO.wK [90, 91] ?_
        refine AO.cG rfl rfl (bD (eq_false_of_ne_true hc36)) (Calm.load 0 rfl rfl rfl (At.cast (At.fld0 At.here) rfl) ag3 sz3) ?_
        exact AO.nE (d := 92) rfl ⟨⟨92, _, rfl, rfl, rfl⟩, Sub.refl _⟩
       ·refine StepE.calm (fun _ _ => rfl) fun L σ hc hi hd => ?_
        refine AO.wK [90, 92] ?_
        refine AO.cG (x := eBool (decide (((lget p0 (w64 ((p0.length : Int) - (1 : Int)))).f0) ≠ (5 : Int)))) rfl rfl (bD (eq_false_of_ne_true hc36)) (Calm.int rfl rfl rfl rfl) ?_
        exact AO.nE (d := 93) rfl ⟨⟨93, _, rfl, rfl, rfl⟩, Sub.refl _⟩
       ·refine StepE.calm (fun _ _ => rfl) fun L σ hc hi hd => ?_
        refine AO.wK [90, 93] ?_
        refine AO.c (Calm.pickF rfl (bD (eq_false_of_ne_true hc36)) rfl) ?_
        exact AO.nE (d := 94) rfl ⟨⟨94, _, rfl, rfl, rfl⟩, Sub.refl _⟩
       ·intro L σ hc hi hd
        refine AO.heq (H' := ((n4, (.mem (e82 (lget p0 (w64 ((p0.length : Int) - (1 : Int))))))) :: (n35, (.mem (.ar 1 (t34.1.toList.map eU64)))) :: (n2, (.mem (.ar 1 ((Vector.replicate 4 (0 : Int)).toList.map eU64)))) :: [])) (by first | rfl | simp only [hi, cond_true, cond_false]) ?_
        refine AO.wK [2, 88] ?_
        refine AO.store (X' := (.ar 1 (t34.1.toList.map eU64))) 2 rfl rfl rfl rfl rfl rfl (Put.cast Put.here rfl) rfl (by simp [AV.size]) (by rw [sz33]; simp [AV.size]) rfl ?_
        have a7 : addL L 7 7 = true := rfl
        exact AO.n0 ⟨σ, (fun _ _ => rfl), (fun d' hd' => by cases hd'), Sub.of_eq (B := ((n4, (.mem (e82 (lget p0 (w64 ((p0.length : Int) - (1 : Int))))))) :: (n35, (.mem (.ar 1 (t34.1.toList.map eU64)))) :: (n2, (.mem (.ar 1 (t34.1.toList.map eU64)))) :: [])) (by simp only [a7, cond_true, cond_false]) (Sub.refl _)⟩
       ·refine StepE.calm (fun _ _ => rfl) fun L σ hc hi hd => ?_
        refine AO.wK [94] ?_
        refine AO.c (Calm.assign rfl rfl) ?_
        exact AO.nE (d := 3) rfl ⟨⟨3, _, rfl, rfl, rfl⟩, Sub.refl _⟩
       ·refine AO.nH [2, 3] (H' := [(n2, (.mem (.ar 1 (t34.1.toList.map eU64))))]) (Sub.cons 2 rfl (Sub.nil _)) ?_
        refine AW.rK [2, 3] ?_
        have hr := Option.some.inj h
        subst hr
        exact ⟨[(.ar 1 (t34.1.toList.map eU64)), (eBool (decide (((lget p0 (w64 ((p0.length : Int) - (1 : Int)))).f0) ≠ (5 : Int))))], ⟨⟨_, 0, rfl, rfl, ag33, (by rw [sz33]; simp [AV.size])⟩, rfl, rfl, trivial⟩, rfl⟩
theorem bosketref05_First_spec {k : Nat} {p0 : (List S82)} {r : ((Vector Int 4) × Bool)} (h : bosketref05_First k p0 = some r) : Spec Try.prog 40 [(.fz 5 (p0.map e82))] (.tup [(.ar 1 (r.1.toList.map eU64)), (eBool r.2)]) := bosketref05_First_spec' k k p0 r h
end Go.Avl.T3
/- bosket/deriv.Empty; printed by avmain.py. -/
namespace Go.Avl.T3
open Go Go.RowKit Go.Proofs Go.Avl
set_option linter.unusedVariables false
set_option maxRecDepth 100000
set_option maxHeartbeats 4000000
set_option linter.unusedSimpArgs false
attribute [local irreducible] AW AO AQ Spec SpecH Calm

def deriv_Empty_c0 (k : Nat) (x3 : (List Bool)) : Option Bool :=
  Option.bind (α := Bool) (if (x3.length : Int) = (1 : Int) then if 0 ≤ (0 : Int) ∧ (0 : Int) < (x3.length : Int) then some ((lget x3 (0 : Int)))
  else none
  else some (false)) fun b4 =>
  some (b4)
def deriv_Empty_c1 (k : Nat) (rec11 : ((List Bool) → Int → Option Bool)) (x10 : Int) (x15 : (List Bool)) : Option Bool :=
  rec11 x15 (w64 (x10 + (1 : Int)))
def deriv_Empty_c2 (k : Nat) (rec11 : ((List Bool) → Int → Option Bool)) (x9 : (List Bool)) (x10 : Int) (b48 : Bool) : Option Bool :=
  if b48 = true then if 0 ≤ (w64 ((x9.length : Int) - (1 : Int))) ∧ (w64 ((x9.length : Int) - (1 : Int))) < (x9.length : Int) then deriv_Empty_c1 k rec11 x10 (lset x9 (w64 ((x9.length : Int) - (1 : Int))) true)
  else none
  else deriv_Empty_c1 k rec11 x10 x9
def deriv_Empty_l3 (k : Nat) (p0 : (List S82)) : Nat → (List Bool) → Int → Option Bool
  | 0, _, _ => none
  | j + 1, x9, x10 =>
    if x10 < (p0.length : Int) then if 0 ≤ x10 ∧ x10 < (p0.length : Int) then if ((lget p0 x10).f0) = (0 : Int) then if (x9 ++ ([true] : List Bool)).length * 1 ≤ 140737488355328 then deriv_Empty_c1 k (deriv_Empty_l3 k p0 j) x10 (x9 ++ ([true] : List Bool))
    else none
    else if ((lget p0 x10).f0) = (1 : Int) then if (x9 ++ ([false] : List Bool)).length * 1 ≤ 140737488355328 then deriv_Empty_c1 k (deriv_Empty_l3 k p0 j) x10 (x9 ++ ([false] : List Bool))
    else none
    else if ((lget p0 x10).f0) = (2 : Int) then if 0 ≤ (w64 ((x9.length : Int) - (2 : Int))) ∧ (w64 ((x9.length : Int) - (2 : Int))) ≤ (x9.length : Int) then if 0 ≤ (w64 ((x9.length : Int) - (2 : Int))) ∧ (w64 ((x9.length : Int) - (2 : Int))) < (x9.length : Int) then if (lget x9 (w64 ((x9.length : Int) - (2 : Int)))) = true then if 0 ≤ (w64 ((x9.length : Int) - (1 : Int))) ∧ (w64 ((x9.length : Int) - (1 : Int))) < (x9.length : Int) then if (x9.take ((w64 ((x9.length : Int) - (2 : Int))).toNat) ++ ([(lget x9 (w64 ((x9.length : Int) - (1 : Int))))] : List Bool)).length * 1 ≤ 140737488355328 then deriv_Empty_c1 k (deriv_Empty_l3 k p0 j) x10 (x9.take ((w64 ((x9.length : Int) - (2 : Int))).toNat) ++ ([(lget x9 (w64 ((x9.length : Int) - (1 : Int))))] : List Bool))
    else none
    else none
    else if (x9.take ((w64 ((x9.length : Int) - (2 : Int))).toNat) ++ ([false] : List Bool)).length * 1 ≤ 140737488355328 then deriv_Empty_c1 k (deriv_Empty_l3 k p0 j) x10 (x9.take ((w64 ((x9.length : Int) - (2 : Int))).toNat) ++ ([false] : List Bool))
    else none
    else none
    else none
    else if ((lget p0 x10).f0) = (3 : Int) then if 0 ≤ (w64 ((x9.length : Int) - (2 : Int))) ∧ (w64 ((x9.length : Int) - (2 : Int))) ≤ (x9.length : Int) then if 0 ≤ (w64 ((x9.length : Int) - (2 : Int))) ∧ (w64 ((x9.length : Int) - (2 : Int))) < (x9.length : Int) then if (lget x9 (w64 ((x9.length : Int) - (2 : Int)))) = true then if (x9.take ((w64 ((x9.length : Int) - (2 : Int))).toNat) ++ ([true] : List Bool)).length * 1 ≤ 140737488355328 then deriv_Empty_c1 k (deriv_Empty_l3 k p0 j) x10 (x9.take ((w64 ((x9.length : Int) - (2 : Int))).toNat) ++ ([true] : List Bool))
    else none
    else if 0 ≤ (w64 ((x9.length : Int) - (1 : Int))) ∧ (w64 ((x9.length : Int) - (1 : Int))) < (x9.length : Int) then if (x9.take ((w64 ((x9.length : Int) - (2 : Int))).toNat) ++ ([(lget x9 (w64 ((x9.length : Int) - (1 : Int))))] : List Bool)).length * 1 ≤ 140737488355328 then deriv_Empty_c1 k (deriv_Empty_l3 k p0 j) x10 (x9.take ((w64 ((x9.length : Int) - (2 : Int))).toNat) ++ ([(lget x9 (w64 ((x9.length : Int) - (1 : Int))))] : List Bool))
    else none
    else none
    else none
    else none
    else if ((lget p0 x10).f0) = (4 : Int) then deriv_Empty_c2 k (deriv_Empty_l3 k p0 j) x9 x10 (decide (((lget p0 x10).f0) = (4 : Int)))
    else deriv_Empty_c2 k (deriv_Empty_l3 k p0 j) x9 x10 (decide (((lget p0 x10).f0) = (6 : Int)))
    else none
    else deriv_Empty_c0 k x9
def deriv_Empty (k : Nat) (p0 : (List S82)) : Option Bool :=
  deriv_Empty_l3 k p0 k ([] : List Bool) (0 : Int)
theorem deriv_Empty_spec {k : Nat} {p0 : (List S82)} {r : Bool} (h : deriv_Empty k p0 = some r) : Spec Try.prog 41 [(.fz 5 (p0.map e82))] (eBool r) := by
  rw [deriv_Empty.eq_1] at h
  refine Spec.intro (res := [.tmp 2]) Try.func41 rfl rfl rfl (Nat.le_of_ble_eq_true rfl) ?_
  refine AW.sr ?_
  refine AO.c (Calm.assign rfl rfl) ?_
  refine AO.nK [0] ?_
  refine AW.sr ?_
  refine AO.c (Calm.assign rfl rfl) ?_
  refine AO.nK [0, 3] ?_
  refine AW.seq_mid (fun ρ H => ∃ (n2 : Nat) (x3 : (List Bool)), ρ = [(3, (.own n2 0 x3.length))] ∧ H = [(n2, (.mem (.ar 1 (x3.map eBool))))] ∧ deriv_Empty_c0 k x3 = some r) ?_ ?_
  ·refine AW.sr ?_
   refine AO.c (Calm.move rfl rfl) ?_
   refine AO.c (Calm.lenL rfl rfl Try.underlying58) ?_
   refine AO.c (Calm.move rfl rfl) ?_
   refine AO.nK [3, 7, 8, 9] ?_
   refine AW.block ?_
   refine AW.nilOwn 3 1 rfl fun n52 => ?_
   refine AW.wK [3, 7, 8, 9] ?_
   refine AW.loop (fun kq ρ H => ∃ (n8 : Nat) (x9 : (List Bool)) (x10 : Int), ρ = [(3, (.own n8 0 x9.length)), (7, (.fz 5 (p0.map e82))), (8, (eI64 (p0.length : Int))), (9, (eI64 x10))] ∧ H = [(n8, (.mem (.ar 1 (x9.map eBool))))] ∧ deriv_Empty_l3 k p0 kq x9 x10 = some r) k ⟨n52, ([] : List Bool), (0 : Int), rfl, rfl, h⟩ ?_
   rintro kq12 _ _ ⟨n8, x9, x10, rfl, rfl, h⟩
   cases kq12 with
   | zero => rw [deriv_Empty_l3.eq_1] at h; cases h
   | succ kq12 =>
   rw [deriv_Empty_l3.eq_2] at h
   generalize hrec11 : deriv_Empty_l3 k p0 kq12 = rec11 at h
   refine AW.sr ?_
   refine AO.c (x := eBool (decide (x10 < (p0.length : Int)))) (Calm.int rfl rfl rfl rfl) ?_
   refine AO.nK [3, 7, 8, 9, 10] ?_
   refine AW.seq ?_
   rcases of_ite h with ⟨hc13, h⟩ | ⟨hc13, h⟩
   ·refine AW.condP _ rfl hc13 ?_
    refine AW.sK [3, 7, 8, 9] ?_
    refine AW.seq_mid (fun ρ H => ∃ (n14 : Nat) (x15 : (List Bool)), ρ = [(3, (.own n14 0 x15.length)), (7, (.fz 5 (p0.map e82))), (8, (eI64 (p0.length : Int))), (9, (eI64 x10))] ∧ H = [(n14, (.mem (.ar 1 (x15.map eBool))))] ∧ deriv_Empty_c1 k rec11 x10 x15 = some r) ?_ ?_
    ·refine AW.block ?_
     refine AW.sr ?_
     obtain ⟨hg16, h⟩ := of_guard h
     refine AO.c (Calm.idxL (f := e82) rfl rfl rfl hg16 Try.underlying58 sz82) ?_
     refine AO.c (Calm.loadRp rfl rfl ag82 sz82) ?_
     refine AO.alloc rfl 5 rfl (by decide) rfl zr82 lay82 fun n17 => ?_
     refine AO.store (X' := (e82 (lget p0 x10))) 0 rfl rfl rfl rfl rfl rfl (Put.cast Put.here rfl) rfl rfl sz82 rfl ?_
     refine AO.nH [3, 5, 7, 8, 9] (H' := [(n8, (.mem (.ar 1 (x9.map eBool)))), (n17, (.mem (e82 (lget p0 x10))))]) (Sub.cons 1 rfl (Sub.cons 0 rfl (Sub.nil _))) ?_
     refine AW.sr ?_
     refine AO.c (Calm.move rfl rfl) ?_
     refine AO.c (Calm.lenOwn rfl rfl Try.underlying25) ?_
     refine AO.c (Calm.assign rfl rfl) ?_
     refine AO.nK [3, 5, 6, 7, 8, 9] ?_
     refine AW.sr ?_
     refine AO.c (x := .ptr n17 0) (Calm.fldPtr rfl rfl Try.underlying82 rfl sz3 _ rfl) ?_
     refine AO.c (Calm.load 1 rfl rfl rfl (At.cast (At.fld0 At.here) rfl) ag3 sz3) ?_
     refine AO.nH [3, 6, 7, 8, 9, 16] (H' := [(n8, (.mem (.ar 1 (x9.map eBool))))]) (Sub.cons 0 rfl (Sub.nil _)) ?_
     refine AW.block ?_
     refine AW.sr ?_
     refine AO.c (x := eBool (decide (((lget p0 x10).f0) = (0 : Int)))) (Calm.int rfl rfl rfl rfl) ?_
     refine AO.c (Calm.assign rfl rfl) ?_
     refine AO.nK [3, 6, 7, 8, 9, 16, 17] ?_
     rcases of_ite h with ⟨hc18, h⟩ | ⟨hc18, h⟩
     ·refine AW.condP _ rfl hc18 ?_
      refine AW.reg ?_
      refine AO.c (Calm.move rfl rfl) ?_
      refine AO.lit (Z := (eBool false)) (xs := (([true] : List Bool).map eBool)) (qs := [(0, (eBool true))]) rfl 20 rfl (by decide) rfl ⟨rfl, rfl, rfl, trivial⟩ Try.underlying25 sz4 zr4 lay4 rfl (by decide) (litOK (z := 1) [(eBool true)] rfl ⟨⟨rfl, rfl⟩, trivial⟩) rfl fun n19 => ?_
      obtain ⟨hg21, h⟩ := of_guard h
      refine AO.appendL (l := x9) (m := ([true] : List Bool)) 1 21 rfl (by decide) rfl rfl rfl rfl rfl (Src.ownL (f := eBool) (l := ([true] : List Bool)) 0 rfl) Try.underlying25 Try.underlying25 sz4 by4 zr4 rfl hg21 (by decide) fun n20 => ?_
      refine AO.c (Calm.assign rfl rfl) ?_
      refine AO.nH [3, 7, 8, 9] (H' := [(n20, (.mem (.ar 1 ((x9 ++ ([true] : List Bool)).map eBool))))]) (Sub.cons 1 rfl (Sub.nil _)) ?_
      exact ⟨n20, (x9 ++ ([true] : List Bool)), rfl, rfl, h⟩
     ·refine AW.condN _ rfl hc18 ?_
      refine AW.sr ?_
      refine AO.c (x := eBool (decide (((lget p0 x10).f0) = (1 : Int)))) (Calm.int rfl rfl rfl rfl) ?_
      refine AO.c (Calm.assign rfl rfl) ?_
      refine AO.nK [3, 6, 7, 8, 9, 16, 22] ?_
      rcases of_ite h with ⟨hc22, h⟩ | ⟨hc22, h⟩
      ·refine AW.condP _ rfl hc22 ?_
       refine AW.reg ?_
       refine AO.c (Calm.move rfl rfl) ?_
       refine AO.lit (Z := (eBool false)) (xs := (([false] : List Bool).map eBool)) (qs := [(0, (eBool false))]) rfl 25 rfl (by decide) rfl ⟨rfl, rfl, rfl, trivial⟩ Try.underlying25 sz4 zr4 lay4 rfl (by decide) (litOK (z := 1) [(eBool false)] rfl ⟨⟨rfl, rfl⟩, trivial⟩) rfl fun n23 => ?_
       obtain ⟨hg25, h⟩ := of_guard h
       refine AO.appendL (l := x9) (m := ([false] : List Bool)) 1 26 rfl (by decide) rfl rfl rfl rfl rfl (Src.ownL (f := eBool) (l := ([false] : List Bool)) 0 rfl) Try.underlying25 Try.underlying25 sz4 by4 zr4 rfl hg25 (by decide) fun n24 => ?_
       refine AO.c (Calm.assign rfl rfl) ?_
       refine AO.nH [3, 7, 8, 9] (H' := [(n24, (.mem (.ar 1 ((x9 ++ ([false] : List Bool)).map eBool))))]) (Sub.cons 1 rfl (Sub.nil _)) ?_
       exact ⟨n24, (x9 ++ ([false] : List Bool)), rfl, rfl, h⟩
      ·refine AW.condN _ rfl hc22 ?_
       refine AW.sr ?_
       refine AO.c (x := eBool (decide (((lget p0 x10).f0) = (2 : Int)))) (Calm.int rfl rfl rfl rfl) ?_
       refine AO.c (Calm.assign rfl rfl) ?_
       refine AO.nK [3, 6, 7, 8, 9, 16, 27] ?_
       rcases of_ite h with ⟨hc26, h⟩ | ⟨hc26, h⟩
       ·refine AW.condP _ rfl hc26 ?_
        obtain ⟨hg27, h⟩ := of_guard h
        obtain ⟨hg28, h⟩ := of_guard h
        rcases of_ite h with ⟨hc29, h⟩ | ⟨hc29, h⟩
        ·obtain ⟨hg30, h⟩ := of_guard h
         obtain ⟨hg33, h⟩ := of_guard h
         refine AW.regEff (by rfl) (by decide +kernel) (fun (σ : Nat → Nat) => ([(.own n8 0 x9.length), (eI64 (x9.length : Int)), (eI64 (w64 ((x9.length : Int) - (2 : Int)))), (.own n8 0 ((w64 ((x9.length : Int) - (2 : Int))).toNat)), (.own n8 0 x9.length), (eI64 (x9.length : Int)), (eI64 (w64 ((x9.length : Int) - (2 : Int)))), (.ptr n8 ((w64 ((x9.length : Int) - (2 : Int))).toNat * 1 + 0)), (eBool (lget x9 (w64 ((x9.length : Int) - (2 : Int))))), (eBool (lget x9 (w64 ((x9.length : Int) - (2 : Int))))), (.own n8 0 x9.length), (eI64 (x9.length : Int)), (eI64 (w64 ((x9.length : Int) - (1 : Int)))), (.ptr n8 ((w64 ((x9.length : Int) - (1 : Int))).toNat * 1 + 0)), (eBool (lget x9 (w64 ((x9.length : Int) - (1 : Int))))), (eBool (lget x9 (w64 ((x9.length : Int) - (1 : Int))))), (.fz 1 (([(lget x9 (w64 ((x9.length : Int) - (1 : Int))))] : List Bool).map eBool)), (.own (σ 17) 0 (x9.take ((w64 ((x9.length : Int) - (2 : Int))).toNat) ++ ([(lget x9 (w64 ((x9.length : Int) - (1 : Int))))] : List Bool)).length), (.own (σ 17) 0 (x9.take ((w64 ((x9.length : Int) - (2 : Int))).toNat) ++ ([(lget x9 (w64 ((x9.length : Int) - (1 : Int))))] : List Bool)).length)] : List AV)) (fun (L : Nat → Bool) (σ : Nat → Nat) => ((bif L 17 then (((σ 17), (.mem (.ar 1 ((x9.take ((w64 ((x9.length : Int) - (2 : Int))).toNat) ++ ([(lget x9 (w64 ((x9.length : Int) - (1 : Int))))] : List Bool)).map eBool)))) :: []) else ((n8, (.mem (.ar 1 (x9.map eBool)))) :: [])) : Heap)) [(3, (.own n8 0 x9.length)), (6, (eI64 (x9.length : Int))), (7, (.fz 5 (p0.map e82))), (8, (eI64 (p0.length : Int))), (9, (eI64 x10))] ⟨rfl, rfl, rfl, rfl, rfl, trivial⟩ (fun _ => rfl) (fun σ => (Sub.refl _)) ⟨?_, ?_, ?_, ?_, ?_, ?_, ?_, ?_, ?_, ?_, ?_, ?_, ?_, ?_, ?_, ?_, ?_, ?_, ?_, trivial⟩ (fun σ => [(3, (.own (σ 17) 0 (x9.take ((w64 ((x9.length : Int) - (2 : Int))).toNat) ++ ([(lget x9 (w64 ((x9.length : Int) - (1 : Int))))] : List Bool)).length)), (7, (.fz 5 (p0.map e82))), (8, (eI64 (p0.length : Int))), (9, (eI64 x10))]) (fun σ => (((σ 17), (.mem (.ar 1 ((x9.take ((w64 ((x9.length : Int) - (2 : Int))).toNat) ++ ([(lget x9 (w64 ((x9.length : Int) - (1 : Int))))] : List Bool)).map eBool)))) :: [])) (fun σ => ⟨rfl, rfl, rfl, rfl, trivial⟩) (fun σ => Sub.refl _) (fun σ => ?_)
         ·refine StepE.calm (fun _ _ => rfl) fun L σ hc hi hd => ?_
          have m3 : L 3 = false := hc.neg (i := 0) (j := 3) rfl (by rfl) hi
          have m17 : L 17 = false := hc.neg (i := 3) (j := 17) rfl (by rfl) m3
          refine AO.heq (H' := ((n8, (.mem (.ar 1 (x9.map eBool)))) :: [])) (by first | rfl | simp only [m17, cond_true, cond_false]) ?_
          refine AO.wK [3] ?_
          refine AO.c (Calm.move rfl rfl) ?_
          exact AO.nE (d := 29) rfl ⟨⟨29, _, rfl, rfl, rfl⟩, Sub.of_eq (by first | rfl | simp only [m17, cond_true, cond_false]) (Sub.refl _)⟩
         ·refine StepE.calm (fun _ _ => rfl) fun L σ hc hi hd => ?_
          refine AO.wK [6] ?_
          refine AO.c (Calm.move rfl rfl) ?_
          exact AO.nE (d := 30) rfl ⟨⟨30, _, rfl, rfl, rfl⟩, Sub.refl _⟩
         ·refine StepE.calm (fun _ _ => rfl) fun L σ hc hi hd => ?_
          refine AO.wK [30] ?_
          refine AO.c (x := eI64 (w64 ((x9.length : Int) - (2 : Int)))) (Calm.int rfl rfl rfl rfl) ?_
          exact AO.nE (d := 31) rfl ⟨⟨31, _, rfl, rfl, rfl⟩, Sub.refl _⟩
         ·refine StepE.calm (fun _ _ => rfl) fun L σ hc hi hd => ?_
          have m17 : L 17 = false := hc.neg (i := 3) (j := 17) rfl (by rfl) hi
          refine AO.heq (H' := ((n8, (.mem (.ar 1 (x9.map eBool)))) :: [])) (by first | rfl | simp only [m17, cond_true, cond_false]) ?_
          refine AO.wK [29, 31] ?_
          refine AO.c (x := .own n8 0 ((w64 ((x9.length : Int) - (2 : Int))).toNat)) (Calm.preO 0 rfl rfl rfl rfl hg27 Try.underlying25 sz4) ?_
          exact AO.nE (d := 32) rfl ⟨⟨32, _, rfl, rfl, rfl⟩, Sub.of_eq (by first | rfl | simp only [m17, cond_true, cond_false]) (Sub.refl _)⟩
         ·refine StepE.calm (fun _ _ => rfl) fun L σ hc hi hd => ?_
          have m7 : L 7 = false := hc.neg (i := 4) (j := 7) rfl (by rfl) hi
          have m8 : L 8 = false := hc.neg (i := 7) (j := 8) rfl (by rfl) m7
          have m9 : L 9 = false := hc.neg (i := 8) (j := 9) rfl (by rfl) m8
          have m15 : L 15 = false := hc.neg (i := 9) (j := 15) rfl (by rfl) m9
          have m16 : L 16 = false := hc.neg (i := 15) (j := 16) rfl (by rfl) m15
          have m17 : L 17 = false := hc.neg (i := 16) (j := 17) rfl (by rfl) m16
          refine AO.heq (H' := ((n8, (.mem (.ar 1 (x9.map eBool)))) :: [])) (by first | rfl | simp only [m17, cond_true, cond_false]) ?_
          refine AO.wK [3] ?_
          refine AO.c (Calm.move rfl rfl) ?_
          exact AO.nE (d := 33) rfl ⟨⟨33, _, rfl, rfl, rfl⟩, Sub.of_eq (by first | rfl | simp only [m17, cond_true, cond_false]) (Sub.refl _)⟩
         ·refine StepE.calm (fun _ _ => rfl) fun L σ hc hi hd => ?_
          refine AO.wK [6] ?_
          refine AO.c (Calm.move rfl rfl) ?_
          exact AO.nE (d := 34) rfl ⟨⟨34, _, rfl, rfl, rfl⟩, Sub.refl _⟩
         ·refine StepE.calm (fun _ _ => rfl) fun L σ hc hi hd => ?_
          refine AO.wK [34] ?_
          refine AO.c (x := eI64 (w64 ((x9.length : Int) - (2 : Int)))) (Calm.int rfl rfl rfl rfl) ?_
          exact AO.nE (d := 35) rfl ⟨⟨35, _, rfl, rfl, rfl⟩, Sub.refl _⟩
         ·refine StepE.calm (fun _ _ => rfl) fun L σ hc hi hd => ?_
          have m8 : L 8 = false := hc.neg (i := 7) (j := 8) rfl (by rfl) hi
          have m9 : L 9 = false := hc.neg (i := 8) (j := 9) rfl (by rfl) m8
          have m15 : L 15 = false := hc.neg (i := 9) (j := 15) rfl (by rfl) m9
          have m16 : L 16 = false := hc.neg (i := 15) (j := 16) rfl (by rfl) m15
          have m17 : L 17 = false := hc.neg (i := 16) (j := 17) rfl (by rfl) m16
          refine AO.heq (H' := ((n8, (.mem (.ar 1 (x9.map eBool)))) :: [])) (by first | rfl | simp only [m17, cond_true, cond_false]) ?_
          refine AO.wK [33, 35] ?_
          refine AO.c (Calm.idxO 0 rfl rfl rfl rfl hg28 Try.underlying25 sz4) ?_
          exact AO.nE (d := 36) rfl ⟨⟨36, _, rfl, rfl, rfl⟩, Sub.of_eq (by first | rfl | simp only [m17, cond_true, cond_false]) (Sub.refl _)⟩
         ·refine StepE.calm (fun _ _ => rfl) fun L σ hc hi hd => ?_
          have m9 : L 9 = false := hc.neg (i := 8) (j := 9) rfl (by rfl) hi
          have m15 : L 15 = false := hc.neg (i := 9) (j := 15) rfl (by rfl) m9
          have m16 : L 16 = false := hc.neg (i := 15) (j := 16) rfl (by rfl) m15
          have m17 : L 17 = false := hc.neg (i := 16) (j := 17) rfl (by rfl) m16
          refine AO.heq (H' := ((n8, (.mem (.ar 1 (x9.map eBool)))) :: [])) (by first | rfl | simp only [m17, cond_true, cond_false]) ?_
          refine AO.wK [36] ?_
          refine AO.c (Calm.load 0 rfl rfl rfl (At.cast (At.lidx (w64 ((x9.length : Int) - (2 : Int))) hg28.1 hg28.2 At.here) (by omega)) ag4 sz4) ?_
          exact AO.nE (d := 37) rfl ⟨⟨37, _, rfl, rfl, rfl⟩, Sub.of_eq (by first | rfl | simp only [m17, cond_true, cond_false]) (Sub.refl _)⟩
         ·refine StepE.calm (fun _ _ => rfl) fun L σ hc hi hd => ?_
          refine AO.wK [37] ?_
          refine AO.c (Calm.move rfl rfl) ?_
          exact AO.nE (d := 38) rfl ⟨⟨38, _, rfl, rfl, rfl⟩, Sub.refl _⟩
         ·refine StepE.calm (fun _ _ => rfl) fun L σ hc hi hd => ?_
          have m13 : L 13 = false := hc.neg (i := 10) (j := 13) rfl (by rfl) hi
          have m14 : L 14 = false := hc.neg (i := 13) (j := 14) rfl (by rfl) m13
          have m15 : L 15 = false := hc.neg (i := 14) (j := 15) rfl (by rfl) m14
          have m16 : L 16 = false := hc.neg (i := 15) (j := 16) rfl (by rfl) m15
          have m17 : L 17 = false := hc.neg (i := 16) (j := 17) rfl (by rfl) m16
          refine AO.heq (H' := ((n8, (.mem (.ar 1 (x9.map eBool)))) :: [])) (by first | rfl | simp only [m17, cond_true, cond_false]) ?_
          refine AO.wK [3, 38] ?_
          refine AO.cG rfl rfl (bD hc29) (Calm.move rfl rfl) ?_
          exact AO.nE (d := 39) rfl ⟨⟨39, _, rfl, rfl, rfl⟩, Sub.of_eq (by first | rfl | simp only [m17, cond_true, cond_false]) (Sub.refl _)⟩
         ·refine StepE.calm (fun _ _ => rfl) fun L σ hc hi hd => ?_
          refine AO.wK [6, 38] ?_
          refine AO.cG rfl rfl (bD hc29) (Calm.move rfl rfl) ?_
          exact AO.nE (d := 40) rfl ⟨⟨40, _, rfl, rfl, rfl⟩, Sub.refl _⟩
         ·refine StepE.calm (fun _ _ => rfl) fun L σ hc hi hd => ?_
          refine AO.wK [38, 40] ?_
          refine AO.cG (x := eI64 (w64 ((x9.length : Int) - (1 : Int)))) rfl rfl (bD hc29) (Calm.int rfl rfl rfl rfl) ?_
          exact AO.nE (d := 41) rfl ⟨⟨41, _, rfl, rfl, rfl⟩, Sub.refl _⟩
         ·refine StepE.calm (fun _ _ => rfl) fun L σ hc hi hd => ?_
          have m14 : L 14 = false := hc.neg (i := 13) (j := 14) rfl (by rfl) hi
          have m15 : L 15 = false := hc.neg (i := 14) (j := 15) rfl (by rfl) m14
          have m16 : L 16 = false := hc.neg (i := 15) (j := 16) rfl (by rfl) m15
          have m17 : L 17 = false := hc.neg (i := 16) (j := 17) rfl (by rfl) m16
          refine AO.heq (H' := ((n8, (.mem (.ar 1 (x9.map eBool)))) :: [])) (by first | rfl | simp only [m17, cond_true, cond_false]) ?_
          refine AO.wK [38, 39, 41] ?_
          refine AO.cG rfl rfl (bD hc29) (Calm.idxO 0 rfl rfl rfl rfl hg30 Try.underlying25 sz4) ?_
          exact AO.nE (d := 42) rfl ⟨⟨42, _, rfl, rfl, rfl⟩, Sub.of_eq (by first | rfl | simp only [m17, cond_true, cond_false]) (Sub.refl _)⟩
         ·refine StepE.calm (fun _ _ => rfl) fun L σ hc hi hd => ?_
          have m15 : L 15 = false := hc.neg (i := 14) (j := 15) rfl (by rfl) hi
          have m16 : L 16 = false := hc.neg (i := 15) (j := 16) rfl (by rfl) m15
          have m17 : L 17 = false := hc.neg (i := 16) (j := 17) rfl (by rfl) m16
          refine AO.heq (H' := ((n8, (.mem (.ar 1 (x9.map eBool)))) :: [])) (by first | rfl | simp only [m17, cond_true, cond_false]) ?_
          refine AO.wK [38, 42] ?_
          refine AO.cG rfl rfl (bD hc29) (Calm.load 0 rfl rfl rfl (At.cast (At.lidx (w64 ((x9.length : Int) - (1 : Int))) hg30.1 hg30.2 At.here) (by omega)) ag4 sz4) ?_
          exact AO.nE (d := 43) rfl ⟨⟨43, _, rfl, rfl, rfl⟩, Sub.of_eq (by first | rfl | simp only [m17, cond_true, cond_false]) (Sub.refl _)⟩
         ·refine StepE.calm (fun _ _ => rfl) fun L σ hc hi hd => ?_
          refine AO.wK [38, 43] ?_
          refine AO.c (Calm.pickT rfl (bD hc29) rfl) ?_
          exact AO.nE (d := 44) rfl ⟨⟨44, _, rfl, rfl, rfl⟩, Sub.refl _⟩
         ·refine StepE.calm (fun _ _ => rfl) fun L σ hc hi hd => ?_
          refine AO.wK [44] ?_
          refine AO.lit (Z := (eBool false)) (xs := (([(lget x9 (w64 ((x9.length : Int) - (1 : Int))))] : List Bool).map eBool)) (qs := [(0, (eBool (lget x9 (w64 ((x9.length : Int) - (1 : Int))))))]) rfl 45 rfl (by decide) rfl ⟨rfl, rfl, rfl, trivial⟩ Try.underlying25 sz4 zr4 lay4 rfl (by decide) (litOK (z := 1) [(eBool (lget x9 (w64 ((x9.length : Int) - (1 : Int)))))] rfl ⟨⟨rfl, rfl⟩, trivial⟩) rfl fun n31 => ?_
          refine AO.freezeS 0 [(45, (.fz 1 (([(lget x9 (w64 ((x9.length : Int) - (1 : Int))))] : List Bool).map eBool)))] rfl ⟨fz_all rfl, trivial⟩ ?_
          exact AO.nE (d := 45) rfl ⟨⟨45, _, rfl, rfl, rfl⟩, Sub.refl _⟩
         ·intro L σ hc hi hd
          refine AO.heq (H' := ((n8, (.mem (.ar 1 (x9.map eBool)))) :: [])) (by first | rfl | simp only [hi, cond_true, cond_false]) ?_
          refine AO.wK [32, 45] ?_
          refine AO.appendCut (l := x9) (m := ([(lget x9 (w64 ((x9.length : Int) - (1 : Int))))] : List Bool)) 0 46 rfl (by decide) rfl rfl rfl (by omega) rfl rfl Src.fz Try.underlying25 Try.underlying25 sz4 by4 zr4 rfl hg33 (by decide) fun n32 => ?_
          have a17 : addL L 17 17 = true := rfl
          have u17 : upd σ 17 n32 17 = n32 := rfl
          have m18 : L 18 = false := hc.neg (i := 17) (j := 18) rfl (by rfl) hi
          exact AO.nE (d := 46) rfl ⟨(upd σ 17 n32), (fun j hj => match j, hj with | 0, _ => rfl | 1, _ => rfl | 2, _ => rfl | 3, _ => rfl | 4, _ => rfl | 5, _ => rfl | 6, _ => rfl | 7, _ => rfl | 8, _ => rfl | 9, _ => rfl | 10, _ => rfl | 11, _ => rfl | 12, _ => rfl | 13, _ => rfl | 14, _ => rfl | 15, _ => rfl | 16, _ => rfl | 17, hj => Bool.noConfusion (hj.symm.trans hi) | 18, hj => Bool.noConfusion (hj.symm.trans m18) | _ + 19, _ => rfl), (fun d' hd' => ⟨_, rfl, by cases hd'; rfl⟩), Sub.of_eq (B := ((n32, (.mem (.ar 1 ((x9.take ((w64 ((x9.length : Int) - (2 : Int))).toNat) ++ ([(lget x9 (w64 ((x9.length : Int) - (1 : Int))))] : List Bool)).map eBool)))) :: [])) (by simp only [a17, u17, cond_true, cond_false]) (Sub.refl _)⟩
         ·refine StepE.calm (fun _ _ => rfl) fun L σ hc hi hd => ?_
          have y17 : L 17 = true := on_get hd (i := 17) (by rfl)
          refine AO.heq (H' := (((σ 17), (.mem (.ar 1 ((x9.take ((w64 ((x9.length : Int) - (2 : Int))).toNat) ++ ([(lget x9 (w64 ((x9.length : Int) - (1 : Int))))] : List Bool)).map eBool)))) :: [])) (by first | rfl | simp only [y17, cond_true, cond_false]) ?_
          refine AO.wK [46] ?_
          refine AO.c (Calm.assign rfl rfl) ?_
          exact AO.nE (d := 3) rfl ⟨⟨3, _, rfl, rfl, rfl⟩, Sub.of_eq (by first | rfl | simp only [y17, cond_true, cond_false]) (Sub.refl _)⟩
         ·generalize σ 17 = n32
          refine AO.nK [3, 7, 8, 9] ?_
          exact ⟨n32, (x9.take ((w64 ((x9.length : Int) - (2 : Int))).toNat) ++ ([(lget x9 (w64 ((x9.length : Int) - (1 : Int))))] : List Bool)), rfl, rfl, h⟩
        ·obtain ⟨hg36, h⟩ := of_guard h
         refine AW.regEff (by rfl) (by decide +kernel) (fun (σ : Nat → Nat) => ([(.own n8 0 x9.length), (eI64 (x9.length : Int)), (eI64 (w64 ((x9.length : Int) - (2 : Int)))), (.own n8 0 ((w64 ((x9.length : Int) - (2 : Int))).toNat)), (.own n8 0 x9.length), (eI64 (x9.length : Int)), (eI64 (w64 ((x9.length : Int) - (2 : Int)))), (.ptr n8 ((w64 ((x9.length : Int) - (2 : Int))).toNat * 1 + 0)), (eBool (lget x9 (w64 ((x9.length : Int) - (2 : Int))))), (eBool (lget x9 (w64 ((x9.length : Int) - (2 : Int))))), (.fl undef), (.fl undef), (.fl undef), (.fl undef), (.fl undef), (eBool false), (.fz 1 (([false] : List Bool).map eBool)), (.own (σ 17) 0 (x9.take ((w64 ((x9.length : Int) - (2 : Int))).toNat) ++ ([false] : List Bool)).length), (.own (σ 17) 0 (x9.take ((w64 ((x9.length : Int) - (2 : Int))).toNat) ++ ([false] : List Bool)).length)] : List AV)) (fun (L : Nat → Bool) (σ : Nat → Nat) => ((bif L 17 then (((σ 17), (.mem (.ar 1 ((x9.take ((w64 ((x9.length : Int) - (2 : Int))).toNat) ++ ([false] : List Bool)).map eBool)))) :: []) else ((n8, (.mem (.ar 1 (x9.map eBool)))) :: [])) : Heap)) [(3, (.own n8 0 x9.length)), (6, (eI64 (x9.length : Int))), (7, (.fz 5 (p0.map e82))), (8, (eI64 (p0.length : Int))), (9, (eI64 x10))] ⟨rfl, rfl, rfl, rfl, rfl, trivial⟩ (fun _ => rfl) (fun σ => (Sub.refl _)) ⟨?_, ?_, ?_, ?_, ?_, ?_, ?_, ?_, ?_, ?_, ?_, ?_, ?_, ?_, ?_, ?_, ?_, ?_, ?_, trivial⟩ (fun σ => [(3, (.own (σ 17) 0 (x9.take ((w64 ((x9.length : Int) - (2 : Int))).toNat) ++ ([false] : List Bool)).length)), (7, (.fz 5 (p0.map e82))), (8, (eI64 (p0.length : Int))), (9, (eI64 x10))]) (fun σ => (((σ 17), (.mem (.ar 1 ((x9.take ((w64 ((x9.length : Int) - (2 : Int))).toNat) ++ ([false] : List Bool)).map eBool)))) :: [])) (fun σ => ⟨rfl, rfl, rfl, rfl, trivial⟩) (fun σ => Sub.refl _) (fun σ => ?_)
         ·refine StepE.calm (fun _ _ => rfl) fun L σ hc hi hd => ?_
          have m3 : L 3 = false := hc.neg (i := 0) (j := 3) rfl (by rfl) hi
          have m17 : L 17 = false := hc.neg (i := 3) (j := 17) rfl (by rfl) m3
          refine AO.heq (H' := ((n8, (.mem (.ar 1 (x9.map eBool)))) :: [])) (by first | rfl | simp only [m17, cond_true, cond_false]) ?_
          refine AO.wK [3] ?_
          refine AO.c (Calm.move rfl rfl) ?_
          exact AO.nE (d := 29) rfl ⟨⟨29, _, rfl, rfl, rfl⟩, Sub.of_eq (by first | rfl | simp only [m17, cond_true, cond_false]) (Sub.refl _)⟩
         ·refine StepE.calm (fun _ _ => rfl) fun L σ hc hi hd => ?_
          refine AO.wK [6] ?_
          refine AO.c (Calm.move rfl rfl) ?_
          exact AO.nE (d := 30) rfl ⟨⟨30, _, rfl, rfl, rfl⟩, Sub.refl _⟩
         ·refine StepE.calm (fun _ _ => rfl) fun L σ hc hi hd => ?_
          refine AO.wK [30] ?_
          refine AO.c (x := eI64 (w64 ((x9.length : Int) - (2 : Int)))) (Calm.int rfl rfl rfl rfl) ?_
          exact AO.nE (d := 31) rfl ⟨⟨31, _, rfl, rfl, rfl⟩, Sub.refl _⟩
         ·refine StepE.calm (fun _ _ => rfl) fun L σ hc hi hd => ?_
          have m17 : L 17 = false := hc.neg (i := 3) (j := 17) rfl (by rfl) hi
          refine AO.heq (H' := ((n8, (.mem (.ar 1 (x9.map eBool)))) :: [])) (by first | rfl | simp only [m17, cond_true, cond_false]) ?_
          refine AO.wK [29, 31] ?_
          refine AO.c (x := .own n8 0 ((w64 ((x9.length : Int) - (2 : Int))).toNat)) (Calm.preO 0 rfl rfl rfl rfl hg27 Try.underlying25 sz4) ?_
          exact AO.nE (d := 32) rfl ⟨⟨32, _, rfl, rfl, rfl⟩, Sub.of_eq (by first | rfl | simp only [m17, cond_true, cond_false]) (Sub.refl _)⟩
         ·refine StepE.calm (fun _ _ => rfl) fun L σ hc hi hd => ?_
          have m7 : L 7 = false := hc.neg (i := 4) (j := 7) rfl (by rfl) hi
          have m8 : L 8 = false := hc.neg (i := 7) (j := 8) rfl (by rfl) m7
          have m9 : L 9 = false := hc.neg (i := 8) (j := 9) rfl (by rfl) m8
          have m15 : L 15 = false := hc.neg (i := 9) (j := 15) rfl (by rfl) m9
          have m16 : L 16 = false := hc.neg (i := 15) (j := 16) rfl (by rfl) m15
          have m17 : L 17 = false := hc.neg (i := 16) (j := 17) rfl (by rfl) m16
          refine AO.heq (H' := ((n8, (.mem (.ar 1 (x9.map eBool)))) :: [])) (by first | rfl | simp only [m17, cond_true, cond_false]) ?_
          refine AO.wK [3] ?_
          refine AO.c (Calm.move rfl rfl) ?_
          exact AO.nE (d := 33) rfl ⟨⟨33, _, rfl, rfl, rfl⟩, Sub.of_eq (by first | rfl | simp only [m17, cond_true, cond_false]) (Sub.refl _)⟩
         ·refine StepE.calm (fun _ _ => rfl) fun L σ hc hi hd => ?_
          refine AO.wK [6] ?_
          refine AO.c (Calm.move rfl rfl) ?_
          exact AO.nE (d := 34) rfl ⟨⟨34, _, rfl, rfl, rfl⟩, Sub.refl _⟩
         ·refine StepE.calm (fun _ _ => rfl) fun L σ hc hi hd => ?_
          refine AO.wK [34] ?_
          refine AO.c (x := eI64 (w64 ((x9.length : Int) - (2 : Int)))) (Calm.int rfl rfl rfl rfl) ?_
          exact AO.nE (d := 35) rfl ⟨⟨35, _, rfl, rfl, rfl⟩, Sub.refl _⟩
         ·refine StepE.calm (fun _ _ => rfl) fun L σ hc hi hd => ?_
          have m8 : L 8 = false := hc.neg (i := 7) (j := 8) rfl (by rfl) hi
          have m9 : L 9 = false := hc.neg (i := 8) (j := 9) rfl (by rfl) m8
          have m15 : L 15 = false := hc.neg (i := 9) (j := 15) rfl (by rfl) m9
          have m16 : L 16 = false := hc.neg (i := 15) (j := 16) rfl (by rfl) m15
          have m17 : L 17 = false := hc.neg (i := 16) (j := 17) rfl (by rfl) m16
          refine AO.heq (H' := ((n8, (.mem (.ar 1 (x9.map eBool)))) :: [])) (by first | rfl | simp only [m17, cond_true, cond_false]) ?_
          refine AO.wK [33, 35] ?_
          refine AO.c (Calm.idxO 0 rfl rfl rfl rfl hg28 Try.underlying25 sz4) ?_
          exact AO.nE (d := 36) rfl ⟨⟨36, _, rfl, rfl, rfl⟩, Sub.of_eq (by first | rfl | simp only [m17, cond_true, cond_false]) (Sub.refl _)⟩
         ·refine StepE.calm (fun _ _ => rfl) fun L σ hc hi hd => ?_
          have m9 : L 9 = false := hc.neg (i := 8) (j := 9) rfl (by rfl) hi
          have m15 : L 15 = false := hc.neg (i := 9) (j := 15) rfl (by rfl) m9
          have m16 : L 16 = false := hc.neg (i := 15) (j := 16) rfl (by rfl) m15
          have m17 : L 17 = false := hc.neg (i := 16) (j := 17) rfl (by rfl) m16
          refine AO.heq (H' := ((n8, (.mem (.ar 1 (x9.map eBool)))) :: [])) (by first | rfl | simp only [m17, cond_true, cond_false]) ?_
          refine AO.wK [36] ?_
          refine AO.c (Calm.load 0 rfl rfl rfl (At.cast (At.lidx (w64 ((x9.length : Int) - (2 : Int))) hg28.1 hg28.2 At.here) (by omega)) ag4 sz4) ?_
          exact AO.nE (d := 37) rfl ⟨⟨37, _, rfl, rfl, rfl⟩, Sub.of_eq (by first | rfl | simp only [m17, cond_true, cond_false]) (Sub.refl _)⟩
         ·refine StepE.calm (fun _ _ => rfl) fun L σ hc hi hd => ?_
          refine AO.wK [37] ?_
          refine AO.c (Calm.move rfl rfl) ?_
          exact AO.nE (d := 38) rfl ⟨⟨38, _, rfl, rfl, rfl⟩, Sub.refl _⟩
         ·refine StepE.calm (fun _ _ => rfl) fun L σ hc hi hd => ?_
          refine AO.wK [38] ?_
          refine AO.sT rfl rfl (bD (eq_false_of_ne_true hc29)) ?_
          exact AO.nE (d := 39) rfl ⟨⟨39, _, rfl, rfl, rfl⟩, Sub.refl _⟩
         ·refine StepE.calm (fun _ _ => rfl) fun L σ hc hi hd => ?_
          refine AO.wK [38] ?_
          refine AO.sT rfl rfl (bD (eq_false_of_ne_true hc29)) ?_
          exact AO.nE (d := 40) rfl ⟨⟨40, _, rfl, rfl, rfl⟩, Sub.refl _⟩
         ·refine StepE.calm (fun _ _ => rfl) fun L σ hc hi hd => ?_
          refine AO.wK [38] ?_
          refine AO.sT rfl rfl (bD (eq_false_of_ne_true hc29)) ?_
          exact AO.nE (d := 41) rfl ⟨⟨41, _, rfl, rfl, rfl⟩, Sub.refl _⟩
         ·refine StepE.calm (fun _ _ => rfl) fun L σ hc hi hd => ?_
          refine AO.wK [38] ?_
          refine AO.sT rfl rfl (bD (eq_false_of_ne_true hc29)) ?_
          exact AO.nE (d := 42) rfl ⟨⟨42, _, rfl, rfl, rfl⟩, Sub.refl _⟩
         ·refine StepE.calm (fun _ _ => rfl) fun L σ hc hi hd => ?_
          refine AO.wK [38] ?_
          refine AO.sT rfl rfl (bD (eq_false_of_ne_true hc29)) ?_
          exact AO.nE (d := 43) rfl ⟨⟨43, _, rfl, rfl, rfl⟩, Sub.refl _⟩
         ·refine StepE.calm (fun _ _ => rfl) fun L σ hc hi hd => ?_
          refine AO.wK [38, 43] ?_
          refine AO.c (Calm.pickF rfl (bD (eq_false_of_ne_true hc29)) rfl) ?_
          exact AO.nE (d := 44) rfl ⟨⟨44, _, rfl, rfl, rfl⟩, Sub.refl _⟩
         ·refine StepE.calm (fun _ _ => rfl) fun L σ hc hi hd => ?_
          refine AO.wK [44] ?_
          refine AO.lit (Z := (eBool false)) (xs := (([false] : List Bool).map eBool)) (qs := [(0, (eBool false))]) rfl 45 rfl (by decide) rfl ⟨rfl, rfl, rfl, trivial⟩ Try.underlying25 sz4 zr4 lay4 rfl (by decide) (litOK (z := 1) [(eBool false)] rfl ⟨⟨rfl, rfl⟩, trivial⟩) rfl fun n34 => ?_
          refine AO.freezeS 0 [(45, (.fz 1 (([false] : List Bool).map eBool)))] rfl ⟨fz_all rfl, trivial⟩ ?_
          exact AO.nE (d := 45) rfl ⟨⟨45, _, rfl, rfl, rfl⟩, Sub.refl _⟩
         ·intro L σ hc hi hd
          refine AO.heq (H' := ((n8, (.mem (.ar 1 (x9.map eBool)))) :: [])) (by first | rfl | simp only [hi, cond_true, cond_false]) ?_
          refine AO.wK [32, 45] ?_
          refine AO.appendCut (l := x9) (m := ([false] : List Bool)) 0 46 rfl (by decide) rfl rfl rfl (by omega) rfl rfl Src.fz Try.underlying25 Try.underlying25 sz4 by4 zr4 rfl hg36 (by decide) fun n35 => ?_
          have a17 : addL L 17 17 = true := rfl
          have u17 : upd σ 17 n35 17 = n35 := rfl
          have m18 : L 18 = false := hc.neg (i := 17) (j := 18) rfl (by rfl) hi
          exact AO.nE (d := 46) rfl ⟨(upd σ 17 n35), (fun j hj => match j, hj with | 0, _ => rfl | 1, _ => rfl | 2, _ => rfl | 3, _ => rfl | 4, _ => rfl | 5, _ => rfl | 6, _ => rfl | 7, _ => rfl | 8, _ => rfl | 9, _ => rfl | 10, _ => rfl | 11, _ => rfl | 12, _ => rfl | 13, _ => rfl | 14, _ => rfl | 15, _ => rfl | 16, _ => rfl | 17, hj => Bool.noConfusion (hj.symm.trans hi) | 18, hj => Bool.noConfusion (hj.symm.trans m18) | _ + 19, _ => rfl), (fun d' hd' => ⟨_, rfl, by cases hd'; rfl⟩), Sub.of_eq (B := ((n35, (.mem (.ar 1 ((x9.take ((w64 ((x9.length : Int) - (2 : Int))).toNat) ++ ([false] : List Bool)).map eBool)))) :: [])) (by simp only [a17, u17, cond_true, cond_false]) (Sub.refl _)⟩
         ·refine StepE.calm (fun _ _ => rfl) fun L σ hc hi hd => ?_
          have y17 : L 17 = true := on_get hd (i := 17) (by rfl)
          refine AO.heq (H' := (((σ 17), (.mem (.ar 1 ((x9.take ((w64 ((x9.length : Int) - (2 : Int))).toNat) ++ ([false] : List Bool)).map eBool)))) :: [])) (by first | rfl | simp only [y17, cond_true, cond_false]) ?_
          refine AO.wK [46] ?_
          refine AO.c (Calm.assign rfl rfl) ?_
          exact AO.nE (d := 3) rfl ⟨⟨3, _, rfl, rfl, rfl⟩, Sub.of_eq (by first | rfl | simp only [y17, cond_true, cond_false]) (Sub.refl _)⟩
         ·generalize σ 17 = n35
          refine AO.nK [3, 7, 8, 9] ?_
          exact ⟨n35, (x9.take ((w64 ((x9.length : Int) - (2 : Int))).toNat) ++ ([false] : List Bool)), rfl, rfl, h⟩
       ·refine AW.condN _ rfl hc26 ?_
        refine AW.sr ?_
        refine AO.c (x := eBool (decide (((lget p0 x10).f0) = (3 : Int)))) (Calm.int rfl rfl rfl rfl) ?_
        refine AO.c (Calm.assign rfl rfl) ?_
        refine AO.nK [3, 6, 7, 8, 9, 16, 47] ?_
        rcases of_ite h with ⟨hc37, h⟩ | ⟨hc37, h⟩
        ·refine AW.condP _ rfl hc37 ?_
         obtain ⟨hg38, h⟩ := of_guard h
         obtain ⟨hg39, h⟩ := of_guard h
         rcases of_ite h with ⟨hc40, h⟩ | ⟨hc40, h⟩
         ·obtain ⟨hg43, h⟩ := of_guard h
          refine AW.regEff (by rfl) (by decide +kernel) (fun (σ : Nat → Nat) => ([(.own n8 0 x9.length), (eI64 (x9.length : Int)), (eI64 (w64 ((x9.length : Int) - (2 : Int)))), (.own n8 0 ((w64 ((x9.length : Int) - (2 : Int))).toNat)), (.own n8 0 x9.length), (eI64 (x9.length : Int)), (eI64 (w64 ((x9.length : Int) - (2 : Int)))), (.ptr n8 ((w64 ((x9.length : Int) - (2 : Int))).toNat * 1 + 0)), (eBool (lget x9 (w64 ((x9.length : Int) - (2 : Int))))), (eBool (lget x9 (w64 ((x9.length : Int) - (2 : Int))))), (.fl undef), (.fl undef), (.fl undef), (.fl undef), (.fl undef), (eBool true), (.fz 1 (([true] : List Bool).map eBool)), (.own (σ 17) 0 (x9.take ((w64 ((x9.length : Int) - (2 : Int))).toNat) ++ ([true] : List Bool)).length), (.own (σ 17) 0 (x9.take ((w64 ((x9.length : Int) - (2 : Int))).toNat) ++ ([true] : List Bool)).length)] : List AV)) (fun (L : Nat → Bool) (σ : Nat → Nat) => ((bif L 17 then (((σ 17), (.mem (.ar 1 ((x9.take ((w64 ((x9.length : Int) - (2 : Int))).toNat) ++ ([true] : List Bool)).map eBool)))) :: []) else ((n8, (.mem (.ar 1 (x9.map eBool)))) :: [])) : Heap)) [(3, (.own n8 0 x9.length)), (6, (eI64 (x9.length : Int))), (7, (.fz 5 (p0.map e82))), (8, (eI64 (p0.length : Int))), (9, (eI64 x10))] ⟨rfl, rfl, rfl, rfl, rfl, trivial⟩ (fun _ => rfl) (fun σ => (Sub.refl _)) ⟨?_, ?_, ?_, ?_, ?_, ?_, ?_, ?_, ?_, ?_, ?_, ?_, ?_, ?_, ?_, ?_, ?_, ?_, ?_, trivial⟩ (fun σ => [(3, (.own (σ 17) 0 (x9.take ((w64 ((x9.length : Int) - (2 : Int))).toNat) ++ ([true] : List Bool)).length)), (7, (.fz 5 (p0.map e82))), (8, (eI64 (p0.length : Int))), (9, (eI64 x10))]) (fun σ => (((σ 17), (.mem (.ar 1 ((x9.take ((w64 ((x9.length : Int) - (2 : Int))).toNat) ++ ([true] : List Bool)).map eBool)))) :: [])) (fun σ => ⟨rfl, rfl, rfl, rfl, trivial⟩) (fun σ => Sub.refl _) (fun σ => ?_)
          ·refine StepE.calm (fun _ _ => rfl) fun L σ hc hi hd => ?_
           have m3 : L 3 = false := hc.neg (i := 0) (j := 3) rfl (by rfl) hi
           have m17 : L 17 = false := hc.neg (i := 3) (j := 17) rfl (by rfl) m3
           refine AO.heq (H' := ((n8, (.mem (.ar 1 (x9.map eBool)))) :: [])) (by first | rfl | simp only [m17, cond_true, cond_false]) ?_
           refine AO.wK [3] ?_
           refine AO.c (Calm.move rfl rfl) ?_
           exact AO.nE (d := 49) rfl ⟨⟨49, _, rfl, rfl, rfl⟩, Sub.of_eq (by first | rfl | simp only [m17, cond_true, cond_false]) (Sub.refl _)⟩
          ·refine StepE.calm (fun _ _ => rfl) fun L σ hc hi hd => ?_
           refine AO.wK [6] ?_
           refine AO.c (Calm.move rfl rfl) ?_
           exact AO.nE (d := 50) rfl ⟨⟨50, _, rfl, rfl, rfl⟩, Sub.refl _⟩
          ·refine StepE.calm (fun _ _ => rfl) fun L σ hc hi hd => ?_
           refine AO.wK [50] ?_
           refine AO.c (x := eI64 (w64 ((x9.length : Int) - (2 : Int)))) (Calm.int rfl rfl rfl rfl) ?_
           exact AO.nE (d := 51) rfl ⟨⟨51, _, rfl, rfl, rfl⟩, Sub.refl _⟩
          ·refine StepE.calm (fun _ _ => rfl) fun L σ hc hi hd => ?_
           have m17 : L 17 = false := hc.neg (i := 3) (j := 17) rfl (by rfl) hi
           refine AO.heq (H' := ((n8, (.mem (.ar 1 (x9.map eBool)))) :: [])) (by first | rfl | simp only [m17, cond_true, cond_false]) ?_
           refine AO.wK [49, 51] ?_
           refine AO.c (x := .own n8 0 ((w64 ((x9.length : Int) - (2 : Int))).toNat)) (Calm.preO 0 rfl rfl rfl rfl hg38 Try.underlying25 sz4) ?_
           exact AO.nE (d := 52) rfl ⟨⟨52, _, rfl, rfl, rfl⟩, Sub.of_eq (by first | rfl | simp only [m17, cond_true, cond_false]) (Sub.refl _)⟩
          ·refine StepE.calm (fun _ _ => rfl) fun L σ hc hi hd => ?_
           have m7 : L 7 = false := hc.neg (i := 4) (j := 7) rfl (by rfl) hi
           have m8 : L 8 = false := hc.neg (i := 7) (j := 8) rfl (by rfl) m7
           have m9 : L 9 = false := hc.neg (i := 8) (j := 9) rfl (by rfl) m8
           have m15 : L 15 = false := hc.neg (i := 9) (j := 15) rfl (by rfl) m9
           have m16 : L 16 = false := hc.neg (i := 15) (j := 16) rfl (by rfl) m15
           have m17 : L 17 = false := hc.neg (i := 16) (j := 17) rfl (by rfl) m16
           refine AO.heq (H' := ((n8, (.mem (.ar 1 (x9.map eBool)))) :: [])) (by first | rfl | simp only [m17, cond_true, cond_false]) ?_
           refine AO.wK [3] ?_
           refine AO.c (Calm.move rfl rfl) ?_
           exact AO.nE (d := 53) rfl ⟨⟨53, _, rfl, rfl, rfl⟩, Sub.of_eq (by first | rfl | simp only [m17, cond_true, cond_false]) (Sub.refl _)⟩
          ·refine StepE.calm (fun _ _ => rfl) fun L σ hc hi hd => ?_
           refine AO.wK [6] ?_
           refine AO.c (Calm.move rfl rfl) ?_
           exact AO.nE (d := 54) rfl ⟨⟨54, _, rfl, rfl, rfl⟩, Sub.refl _⟩
          ·refine StepE.calm (fun _ _ => rfl) fun L σ hc hi hd => ?_
           refine AO.wK [54] ?_
           refine AO.c (x := eI64 (w64 ((x9.length : Int) - (2 : Int)))) (Calm.int rfl rfl rfl rfl) ?_
           exact AO.nE (d := 55) rfl ⟨⟨55, _, rfl, rfl, rfl⟩, Sub.refl _⟩
          ·refine StepE.calm (fun _ _ => rfl) fun L σ hc hi hd => ?_
           have m8 : L 8 = false := hc.neg (i := 7) (j := 8) rfl (by rfl) hi
           have m9 : L 9 = false := hc.neg (i := 8) (j := 9) rfl (by rfl) m8
           have m15 : L 15 = false := hc.neg (i := 9) (j := 15) rfl (by rfl) m9
           have m16 : L 16 = false := hc.neg (i := 15) (j := 16) rfl (by rfl) m15
           have m17 : L 17 = false := hc.neg (i := 16) (j := 17) rfl (by rfl) m16
           refine AO.heq (H' := ((n8, (.mem (.ar 1 (x9.map eBool)))) :: [])) (by first | rfl | simp only [m17, cond_true, cond_false]) ?_
           refine AO.wK [53, 55] ?_
           refine AO.c (Calm.idxO 0 rfl rfl rfl rfl hg39 Try.underlying25 sz4) ?_
           exact AO.nE (d := 56) rfl ⟨⟨56, _, rfl, rfl, rfl⟩, Sub.of_eq (by first | rfl | simp only [m17, cond_true, cond_false]) (Sub.refl _)⟩
          ·refine StepE.calm (fun _ _ => rfl) fun L σ hc hi hd => ?_
           have m9 : L 9 = false := hc.neg (i := 8) (j := 9) rfl (by rfl) hi
           have m15 : L 15 = false := hc.neg (i := 9) (j := 15) rfl (by rfl) m9
           have m16 : L 16 = false := hc.neg (i := 15) (j := 16) rfl (by rfl) m15
           have m17 : L 17 = false := hc.neg (i := 16) (j := 17) rfl (by rfl) m16
           refine AO.heq (H' := ((n8, (.mem (.ar 1 (x9.map eBool)))) :: [])) (by first | rfl | simp only [m17, cond_true, cond_false]) ?_
           refine AO.wK [56] ?_
           refine AO.c (Calm.load 0 rfl rfl rfl (At.cast (At.lidx (w64 ((x9.length : Int) - (2 : Int))) hg39.1 hg39.2 At.here) (by omega)) ag4 sz4) ?_
           exact AO.nE (d := 57) rfl ⟨⟨57, _, rfl, rfl, rfl⟩, Sub.of_eq (by first | rfl | simp only [m17, cond_true, cond_false]) (Sub.refl _)⟩
          ·refine StepE.calm (fun _ _ => rfl) fun L σ hc hi hd => ?_
           refine AO.wK [57] ?_
           refine AO.c (Calm.move rfl rfl) ?_
           exact AO.nE (d := 58) rfl ⟨⟨58, _, rfl, rfl, rfl⟩, Sub.refl _⟩
          ·refine StepE.calm (fun _ _ => rfl) fun L σ hc hi hd => ?_
           refine AO.wK [58] ?_
           refine AO.sF rfl rfl (bD hc40) ?_
           exact AO.nE (d := 59) rfl ⟨⟨59, _, rfl, rfl, rfl⟩, Sub.refl _⟩
          ·refine StepE.calm (fun _ _ => rfl) fun L σ hc hi hd => ?_
           refine AO.wK [58] ?_
           refine AO.sF rfl rfl (bD hc40) ?_
           exact AO.nE (d := 60) rfl ⟨⟨60, _, rfl, rfl, rfl⟩, Sub.refl _⟩
          ·refine StepE.calm (fun _ _ => rfl) fun L σ hc hi hd => ?_
           refine AO.wK [58] ?_
           refine AO.sF rfl rfl (bD hc40) ?_
           exact AO.nE (d := 61) rfl ⟨⟨61, _, rfl, rfl, rfl⟩, Sub.refl _⟩
          ·refine StepE.calm (fun _ _ => rfl) fun L σ hc hi hd => ?_
           refine AO.wK [58] ?_
           refine AO.sF rfl rfl (bD hc40) ?_
           exact AO.nE (d := 62) rfl ⟨⟨62, _, rfl, rfl, rfl⟩, Sub.refl _⟩
          ·refine StepE.calm (fun _ _ => rfl) fun L σ hc hi hd => ?_
           refine AO.wK [58] ?_
           refine AO.sF rfl rfl (bD hc40) ?_
           exact AO.nE (d := 63) rfl ⟨⟨63, _, rfl, rfl, rfl⟩, Sub.refl _⟩
          ·refine StepE.calm (fun _ _ => rfl) fun L σ hc hi hd => ?_
           refine AO.wK [58, 63] ?_
           refine AO.c (Calm.pickT rfl (bD hc40) rfl) ?_
           exact AO.nE (d := 64) rfl ⟨⟨64, _, rfl, rfl, rfl⟩, Sub.refl _⟩
          ·refine StepE.calm (fun _ _ => rfl) fun L σ hc hi hd => ?_
           refine AO.wK [64] ?_
           refine AO.lit (Z := (eBool false)) (xs := (([true] : List Bool).map eBool)) (qs := [(0, (eBool true))]) rfl 65 rfl (by decide) rfl ⟨rfl, rfl, rfl, trivial⟩ Try.underlying25 sz4 zr4 lay4 rfl (by decide) (litOK (z := 1) [(eBool true)] rfl ⟨⟨rfl, rfl⟩, trivial⟩) rfl fun n41 => ?_
           refine AO.freezeS 0 [(65, (.fz 1 (([true] : List Bool).map eBool)))] rfl ⟨fz_all rfl, trivial⟩ ?_
           exact AO.nE (d := 65) rfl ⟨⟨65, _, rfl, rfl, rfl⟩, Sub.refl _⟩
          ·intro L σ hc hi hd
           refine AO.heq (H' := ((n8, (.mem (.ar 1 (x9.map eBool)))) :: [])) (by first | rfl | simp only [hi, cond_true, cond_false]) ?_
           refine AO.wK [52, 65] ?_
           refine AO.appendCut (l := x9) (m := ([true] : List Bool)) 0 66 rfl (by decide) rfl rfl rfl (by omega) rfl rfl Src.fz Try.underlying25 Try.underlying25 sz4 by4 zr4 rfl hg43 (by decide) fun n42 => ?_
           have a17 : addL L 17 17 = true := rfl
           have u17 : upd σ 17 n42 17 = n42 := rfl
           have m18 : L 18 = false := hc.neg (i := 17) (j := 18) rfl (by rfl) hi
           exact AO.nE (d := 66) rfl ⟨(upd σ 17 n42), (fun j hj => match j, hj with | 0, _ => rfl | 1, _ => rfl | 2, _ => rfl | 3, _ => rfl | 4, _ => rfl | 5, _ => rfl | 6, _ => rfl | 7, _ => rfl | 8, _ => rfl | 9, _ => rfl | 10, _ => rfl | 11, _ => rfl | 12, _ => rfl | 13, _ => rfl | 14, _ => rfl | 15, _ => rfl | 16, _ => rfl | 17, hj => Bool.noConfusion (hj.symm.trans hi) | 18, hj => Bool.noConfusion (hj.symm.trans m18) | _ + 19, _ => rfl), (fun d' hd' => ⟨_, rfl, by cases hd'; rfl⟩), Sub.of_eq (B := ((n42, (.mem (.ar 1 ((x9.take ((w64 ((x9.length : Int) - (2 : Int))).toNat) ++ ([true] : List Bool)).map eBool)))) :: [])) (by simp only [a17, u17, cond_true, cond_false]) (Sub.refl _)⟩
          ·refine StepE.calm (fun _ _ => rfl) fun L σ hc hi hd => ?_
           have y17 : L 17 = true := on_get hd (i := 17) (by rfl)
           refine AO.heq (H' := (((σ 17), (.mem (.ar 1 ((x9.take ((w64 ((x9.length : Int) - (2 : Int))).toNat) ++ ([true] : List Bool)).map eBool)))) :: [])) (by first | rfl | simp only [y17, cond_true, cond_false]) ?_
           refine AO.wK [66] ?_
           refine AO.c (Calm.assign rfl rfl) ?_
           exact AO.nE (d := 3) rfl ⟨⟨3, _, rfl, rfl, rfl⟩, Sub.of_eq (by first | rfl | simp only [y17, cond_true, cond_false]) (Sub.refl _)⟩
          ·generalize σ 17 = n42
           refine AO.nK [3, 7, 8, 9] ?_
           exact ⟨n42, (x9.take ((w64 ((x9.length : Int) - (2 : Int))).toNat) ++ ([true] : List Bool)), rfl, rfl, h⟩
         ·obtain ⟨hg44, h⟩ := of_guard h
          obtain ⟨hg47, h⟩ := of_guard h
          refine AW.regEff (by rfl) (by decide +kernel) (fun (σ : Nat → Nat) => ([(.own n8 0 x9.length), (eI64 (x9.length : Int)), (eI64 (w64 ((x9.length : Int) - (2 : Int)))), (.own n8 0 ((w64 ((x9.length : Int) - (2 : Int))).toNat)), (.own n8 0 x9.length), (eI64 (x9.length : Int)), (eI64 (w64 ((x9.length : Int) - (2 : Int)))), (.ptr n8 ((w64 ((x9.length : Int) - (2 : Int))).toNat * 1 + 0)), (eBool (lget x9 (w64 ((x9.length : Int) - (2 : Int))))), (eBool (lget x9 (w64 ((x9.length : Int) - (2 : Int))))), (.own n8 0 x9.length), (eI64 (x9.length : Int)), (eI64 (w64 ((x9.length : Int) - (1 : Int)))), (.ptr n8 ((w64 ((x9.length : Int) - (1 : Int))).toNat * 1 + 0)), (eBool (lget x9 (w64 ((x9.length : Int) - (1 : Int))))), (eBool (lget x9 (w64 ((x9.length : Int) - (1 : Int))))), (.fz 1 (([(lget x9 (w64 ((x9.length : Int) - (1 : Int))))] : List Bool).map eBool)), (.own (σ 17) 0 (x9.take ((w64 ((x9.length : Int) - (2 : Int))).toNat) ++ ([(lget x9 (w64 ((x9.length : Int) - (1 : Int))))] : List Bool)).length), (.own (σ 17) 0 (x9.take ((w64 ((x9.length : Int) - (2 : Int))).toNat) ++ ([(lget x9 (w64 ((x9.length : Int) - (1 : Int))))] : List Bool)).length)] : List AV)) (fun (L : Nat → Bool) (σ : Nat → Nat) => ((bif L 17 then (((σ 17), (.mem (.ar 1 ((x9.take ((w64 ((x9.length : Int) - (2 : Int))).toNat) ++ ([(lget x9 (w64 ((x9.length : Int) - (1 : Int))))] : List Bool)).map eBool)))) :: []) else ((n8, (.mem (.ar 1 (x9.map eBool)))) :: [])) : Heap)) [(3, (.own n8 0 x9.length)), (6, (eI64 (x9.length : Int))), (7, (.fz 5 (p0.map e82))), (8, (eI64 (p0.length : Int))), (9, (eI64 x10))] ⟨rfl, rfl, rfl, rfl, rfl, trivial⟩ (fun _ => rfl) (fun σ => (Sub.refl _)) ⟨?_, ?_, ?_, ?_, ?_, ?_, ?_, ?_, ?_, ?_, ?_, ?_, ?_, ?_, ?_, ?_, ?_, ?_, ?_, trivial⟩ (fun σ => [(3, (.own (σ 17) 0 (x9.take ((w64 ((x9.length : Int) - (2 : Int))).toNat) ++ ([(lget x9 (w64 ((x9.length : Int) - (1 : Int))))] : List Bool)).length)), (7, (.fz 5 (p0.map e82))), (8, (eI64 (p0.length : Int))), (9, (eI64 x10))]) (fun σ => (((σ 17), (.mem (.ar 1 ((x9.take ((w64 ((x9.length : Int) - (2 : Int))).toNat) ++ ([(lget x9 (w64 ((x9.length : Int) - (1 : Int))))] : List Bool)).map eBool)))) :: [])) (fun σ => ⟨rfl, rfl, rfl, rfl, trivial⟩) (fun σ => Sub.refl _) (fun σ => ?_)
          ·refine StepE.calm (fun _ _ => rfl) fun L σ hc hi hd => ?_
           have m3 : L 3 = false := hc.neg (i := 0) (j := 3) rfl (by rfl) hi
           have m17 : L 17 = false := hc.neg (i := 3) (j := 17) rfl (by rfl) m3
           refine AO.heq (H' := ((n8, (.mem (.ar 1 (x9.map eBool)))) :: [])) (by first | rfl | simp only [m17, cond_true, cond_false]) ?_
           refine AO.wK [3] ?_
           refine AO.c (Calm.move rfl rfl) ?_
           exact AO.nE (d := 49) rfl ⟨⟨49, _, rfl, rfl, rfl⟩, Sub.of_eq (by first | rfl | simp only [m17, cond_true, cond_false]) (Sub.refl _)⟩
          ·refine StepE.calm (fun _ _ => rfl) fun L σ hc hi hd => ?_
           refine AO.wK [6] ?_
           refine AO.c (Calm.move rfl rfl) ?_
           exact AO.nE (d := 50) rfl ⟨⟨50, _, rfl, rfl, rfl⟩, Sub.refl _⟩
          ·refine StepE.calm (fun _ _ => rfl) fun L σ hc hi hd => ?_
           refine AO.wK [50] ?_
           refine AO.c (x := eI64 (w64 ((x9.length : Int) - (2 : Int)))) (Calm.int rfl rfl rfl rfl) ?_
           exact AO.nE (d := 51) rfl ⟨⟨51, _, rfl, rfl, rfl⟩, Sub.refl _⟩
          ·refine StepE.calm (fun _ _ => rfl) fun L σ hc hi hd => ?_
           have m17 : L 17 = false := hc.neg (i := 3) (j := 17) rfl (by rfl) hi
           refine AO.heq (H' := ((n8, (.mem (.ar 1 (x9.map eBool)))) :: [])) (by first | rfl | simp only [m17, cond_true, cond_false]) ?_
           refine AO.wK [49, 51] ?_
           refine AO.c (x := .own n8 0 ((w64 ((x9.length : Int) - (2 : Int))).toNat)) (Calm.preO 0 rfl rfl rfl rfl hg38 Try.underlying25 sz4) ?_
           exact AO.nE (d := 52) rfl ⟨⟨52, _, rfl, rfl, rfl⟩, Sub.of_eq (by first | rfl | simp only [m17, cond_true, cond_false]) (Sub.refl _)⟩
          ·refine StepE.calm (fun _ _ => rfl) fun L σ hc hi hd => ?_
           have m7 : L 7 = false := hc.neg (i := 4) (j := 7) rfl (by rfl) hi
           have m8 : L 8 = false := hc.neg (i := 7) (j := 8) rfl (by rfl) m7
           have m9 : L 9 = false := hc.neg (i := 8) (j := 9) rfl (by rfl) m8
           have m15 : L 15 = false := hc.neg (i := 9) (j := 15) rfl (by rfl) m9
           have m16 : L 16 = false := hc.neg (i := 15) (j := 16) rfl (by rfl) m15
           have m17 : L 17 = false := hc.neg (i := 16) (j := 17) rfl (by rfl) m16
           refine AO.heq (H' := ((n8, (.mem (.ar 1 (x9.map eBool)))) :: [])) (by first | rfl | simp only [m17, cond_true, cond_false]) ?_
           refine AO.wK [3] ?_
           refine AO.c (Calm.move rfl rfl) ?_
           exact AO.nE (d := 53) rfl ⟨⟨53, _, rfl, rfl, rfl⟩, Sub.of_eq (by first | rfl | simp only [m17, cond_true, cond_false]) (Sub.refl _)⟩
          ·refine StepE.calm (fun _ _ => rfl) fun L σ hc hi hd => ?_
           refine AO.wK [6] ?_
           refine AO.c (Calm.move rfl rfl) ?_
           exact AO.nE (d := 54) rfl ⟨⟨54, _, rfl, rfl, rfl⟩, Sub.refl _⟩
          ·refine StepE.calm (fun _ _ => rfl) fun L σ hc hi hd => ?_
           refine AO.wK [54] ?_
           refine AO.c (x := eI64 (w64 ((x9.length : Int) - (2 : Int)))) (Calm.int rfl rfl rfl rfl) ?_
           exact AO.nE (d := 55) rfl ⟨⟨55, _, rfl, rfl, rfl⟩, Sub.refl _⟩
          ·refine StepE.calm (fun _ _ => rfl) fun L σ hc hi hd => ?_
           have m8 : L 8 = false := hc.neg (i := 7) (j := 8) rfl (by rfl) hi
           have m9 : L 9 = false := hc.neg (i := 8) (j := 9) rfl (by rfl) m8
           have m15 : L 15 = false := hc.neg (i := 9) (j := 15) rfl (by rfl) m9
           have m16 : L 16 = false := hc.neg (i := 15) (j := 16) rfl (by rfl) m15
           have m17 : L 17 = false := hc.neg (i := 16) (j := 17) rfl (by rfl) m16
           refine AO.heq (H' := ((n8, (.mem (.ar 1 (x9.map eBool)))) :: [])) (by first | rfl | simp only [m17, cond_true, cond_false]) ?_
           refine AO.wK [53, 55] ?_
           refine AO.c (Calm.idxO 0 rfl rfl rfl rfl hg39 Try.underlying25 sz4) ?_
           exact AO.nE (d := 56) rfl ⟨⟨56, _, rfl, rfl, rfl⟩, Sub.of_eq (by first | rfl | simp only [m17, cond_true, cond_false]) (Sub.refl _)⟩
          ·refine StepE.calm (fun _ _ => rfl) fun L σ hc hi hd => ?_
           have m9 : L 9 = false := hc.neg (i := 8) (j := 9) rfl (by rfl) hi
           have m15 : L 15 = false := hc.neg (i := 9) (j := 15) rfl (by rfl) m9
           have m16 : L 16 = false := hc.neg (i := 15) (j := 16) rfl (by rfl) m15
           have m17 : L 17 = false := hc.neg (i := 16) (j := 17) rfl (by rfl) m16
           refine AO.heq (H' := ((n8, (.mem (.ar 1 (x9.map eBool)))) :: [])) (by first | rfl | simp only [m17, cond_true, cond_false]) ?_
           refine AO.wK [56] ?_
           refine AO.c (Calm.load 0 rfl rfl rfl (At.cast (At.lidx (w64 ((x9.length : Int) - (2 : Int))) hg39.1 hg39.2 At.here) (by omega)) ag4 sz4) ?_
           exact AO.nE (d := 57) rfl ⟨⟨57, _, rfl, rfl, rfl⟩, Sub.of_eq (by first | rfl | simp only [m17, cond_true, cond_false]) (Sub.refl _)⟩
          ·refine StepE.calm (fun _ _ => rfl) fun L σ hc hi hd => ?_
           refine AO.wK [57] ?_
           refine AO.c (Calm.move rfl rfl) ?_
           exact AO.nE (d := 58) rfl ⟨⟨58, _, rfl, rfl, rfl⟩, Sub.refl _⟩
          ·refine StepE.calm (fun _ _ => rfl) fun L σ hc hi hd => ?_
           have m13 : L 13 = false := hc.neg (i := 10) (j := 13) rfl (by rfl) hi
           have m14 : L 14 = false := hc.neg (i := 13) (j := 14) rfl (by rfl) m13
           have m15 : L 15 = false := hc.neg (i := 14) (j := 15) rfl (by rfl) m14
           have m16 : L 16 = false := hc.neg (i := 15) (j := 16) rfl (by rfl) m15
           have m17 : L 17 = false := hc.neg (i := 16) (j := 17) rfl (by rfl) m16
           refine AO.heq (H' := ((n8, (.mem (.ar 1 (x9.map eBool)))) :: [])) (by first | rfl | simp only [m17, cond_true, cond_false]) ?_
           refine AO.wK [3, 58] ?_
           refine AO.cG rfl rfl (bD (eq_false_of_ne_true hc40)) (Calm.move rfl rfl) ?_
           exact AO.nE (d := 59) rfl ⟨⟨59, _, rfl, rfl, rfl⟩, Sub.of_eq (by first | rfl | simp only [m17, cond_true, cond_false]) (Sub.refl _)⟩
          ·refine StepE.calm (fun _ _ => rfl) fun L σ hc hi hd => ?_
           refine AO.wK [6, 58] ?_
           refine AO.cG rfl rfl (bD (eq_false_of_ne_true hc40)) (Calm.move rfl rfl) ?_
           exact AO.nE (d := 60) rfl ⟨⟨60, _, rfl, rfl, rfl⟩, Sub.refl _⟩
          ·refine StepE.calm (fun _ _ => rfl) fun L σ hc hi hd => ?_
           refine AO.wK [58, 60] ?_
           refine AO.cG (x := eI64 (w64 ((x9.length : Int) - (1 : Int)))) rfl rfl (bD (eq_false_of_ne_true hc40)) (Calm.int rfl rfl rfl rfl) ?_
           exact AO.nE (d := 61) rfl ⟨⟨61, _, rfl, rfl, rfl⟩, Sub.refl _⟩
          ·refine StepE.calm (fun _ _ => rfl) fun L σ hc hi hd => ?_
           have m14 : L 14 = false := hc.neg (i := 13) (j := 14) rfl (by rfl) hi
           have m15 : L 15 = false := hc.neg (i := 14) (j := 15) rfl (by rfl) m14
           have m16 : L 16 = false := hc.neg (i := 15) (j := 16) rfl (by rfl) m15
           have m17 : L 17 = false := hc.neg (i := 16) (j := 17) rfl (by rfl) m16
           refine AO.heq (H' := ((n8, (.mem (.ar 1 (x9.map eBool)))) :: [])) (by first | rfl | simp only [m17, cond_true, cond_false]) ?_
           refine AO.wK [58, 59, 61] ?_
           refine AO.cG rfl rfl (bD (eq_false_of_ne_true hc40)) (Calm.idxO 0 rfl rfl rfl rfl hg44 Try.underlying25 sz4) ?_
           exact AO.nE (d := 62) rfl ⟨⟨62, _, rfl, rfl, rfl⟩, Sub.of_eq (by first | rfl | simp only [m17, cond_true, cond_false]) (Sub.refl _)⟩
          ·refine StepE.calm (fun _ _ => rfl) fun L σ hc hi hd => ?_
           have m15 : L 15 = false := hc.neg (i := 14) (j := 15) rfl (by rfl) hi
           have m16 : L 16 = false := hc.neg (i := 15) (j := 16) rfl (by rfl) m15
           have m17 : L 17 = false := hc.neg (i := 16) (j := 17) rfl (by rfl) m16
           refine AO.heq (H' := ((n8, (.mem (.ar 1 (x9.map eBool)))) :: [])) (by first | rfl | simp only [m17, cond_true, cond_false]) ?_
           refine AO.wK [58, 62] ?_
           refine AO.cG rfl rfl (bD (eq_false_of_ne_true hc40)) (Calm.load 0 rfl rfl rfl (At.cast (At.lidx (w64 ((x9.length : Int) - (1 : Int))) hg44.1 hg44.2 At.here) (by omega)) ag4 sz4) ?_
           exact AO.nE (d := 63) rfl ⟨⟨63, _, rfl, rfl, rfl⟩, Sub.of_eq (by first | rfl | simp only [m17, cond_true, cond_false]) (Sub.refl _)⟩
          ·refine StepE.calm (fun _ _ => rfl) fun L σ hc hi hd => ?_
           refine AO.wK [58, 63] ?_
           refine AO.c (Calm.pickF rfl (bD (eq_false_of_ne_true hc40)) rfl) ?_
           exact AO.nE (d := 64) rfl ⟨⟨64, _, rfl, rfl, rfl⟩, Sub.refl _⟩
          ·refine StepE.calm (fun _ _ => rfl) fun L σ hc hi hd => ?_
           refine AO.wK [64] ?_
           refine AO.lit (Z := (eBool false)) (xs := (([(lget x9 (w64 ((x9.length : Int) - (1 : Int))))] : List Bool).map eBool)) (qs := [(0, (eBool (lget x9 (w64 ((x9.length : Int) - (1 : Int))))))]) rfl 65 rfl (by decide) rfl ⟨rfl, rfl, rfl, trivial⟩ Try.underlying25 sz4 zr4 lay4 rfl (by decide) (litOK (z := 1) [(eBool (lget x9 (w64 ((x9.length : Int) - (1 : Int)))))] rfl ⟨⟨rfl, rfl⟩, trivial⟩) rfl fun n45 => ?_
           refine AO.freezeS 0 [(65, (.fz 1 (([(lget x9 (w64 ((x9.length : Int) - (1 : Int))))] : List Bool).map eBool)))] rfl ⟨fz_all rfl, trivial⟩ ?_
           exact AO.nE (d := 65) rfl ⟨⟨65, _, rfl, rfl, rfl⟩, Sub.refl _⟩
          ·intro L σ hc hi hd
           refine AO.heq (H' := ((n8, (.mem (.ar 1 (x9.map eBool)))) :: [])) (by first | rfl | simp only [hi, cond_true, cond_false]) ?_
           refine AO.wK [52, 65] ?_
           refine AO.appendCut (l := x9) (m := ([(lget x9 (w64 ((x9.length : Int) - (1 : Int))))] : List Bool)) 0 66 rfl (by decide) rfl rfl rfl (by omega) rfl rfl Src.fz Try.underlying25 Try.underlying25 sz4 by4 zr4 rfl hg47 (by decide) fun n46 => ?_
           have a17 : addL L 17 17 = true := rfl
           have u17 : upd σ 17 n46 17 = n46 := rfl
           have m18 : L 18 = false := hc.neg (i := 17) (j := 18) rfl (by rfl) hi
           exact AO.nE (d := 66) rfl ⟨(upd σ 17 n46), (fun j hj => match j, hj with | 0, _ => rfl | 1, _ => rfl | 2, _ => rfl | 3, _ => rfl | 4, _ => rfl | 5, _ => rfl | 6, _ => rfl | 7, _ => rfl | 8, _ => rfl | 9, _ => rfl | 10, _ => rfl | 11, _ => rfl | 12, _ => rfl | 13, _ => rfl | 14, _ => rfl | 15, _ => rfl | 16, _ => rfl | 17, hj => Bool.noConfusion (hj.symm.trans hi) | 18, hj => Bool.noConfusion (hj.symm.trans m18) | _ + 19, _ => rfl), (fun d' hd' => ⟨_, rfl, by cases hd'; rfl⟩), Sub.of_eq (B := ((n46, (.mem (.ar 1 ((x9.take ((w64 ((x9.length : Int) - (2 : Int))).toNat) ++ ([(lget x9 (w64 ((x9.length : Int) - (1 : Int))))] : List Bool)).map eBool)))) :: [])) (by simp only [a17, u17, cond_true, cond_false]) (Sub.refl _)⟩
          ·refine StepE.calm (fun _ _ => rfl) fun L σ hc hi hd => ?_
           have y17 : L 17 = true := on_get hd (i := 17) (by rfl)
           refine AO.heq (H' := (((σ 17), (.mem (.ar 1 ((x9.take ((w64 ((x9.length : Int) - (2 : Int))).toNat) ++ ([(lget x9 (w64 ((x9.length : Int) - (1 : Int))))] : List Bool)).map eBool)))) :: [])) (by first | rfl | simp only [y17, cond_true, cond_false]) ?_
           refine AO.wK [66] ?_
           refine AO.c (Calm.assign rfl rfl) ?_
           exact AO.nE (d := 3) rfl ⟨⟨3, _, rfl, rfl, rfl⟩, Sub.of_eq (by first | rfl | simp only [y17, cond_true, cond_false]) (Sub.refl _)⟩
          ·generalize σ 17 = n46
           refine AO.nK [3, 7, 8, 9] ?_
           exact ⟨n46, (x9.take ((w64 ((x9.length : Int) - (2 : Int))).toNat) ++ ([(lget x9 (w64 ((x9.length : Int) - (1 : Int))))] : List Bool)), rfl, rfl, h⟩
        ·refine AW.condN _ rfl hc37 ?_
         refine AW.seq_mid (fun ρ H => ∃ (b48 : Bool), ρ = [(3, (.own n8 0 x9.length)), (6, (eI64 (x9.length : Int))), (7, (.fz 5 (p0.map e82))), (8, (eI64 (p0.length : Int))), (9, (eI64 x10)), (67, (eBool b48))] ∧ H = [(n8, (.mem (.ar 1 (x9.map eBool))))] ∧ deriv_Empty_c2 k rec11 x9 x10 b48 = some r) ?_ ?_
         ·refine AW.sr ?_
          refine AO.c (x := eBool (decide (((lget p0 x10).f0) = (4 : Int)))) (Calm.int rfl rfl rfl rfl) ?_
          refine AO.c (Calm.assign rfl rfl) ?_
          refine AO.nK [3, 6, 7, 8, 9, 16, 67] ?_
          rcases of_ite h with ⟨hc51, h⟩ | ⟨hc51, h⟩
          ·refine AW.condP _ rfl hc51 ?_
           refine AW.sK [3, 6, 7, 8, 9, 67] ?_
           exact ⟨decide (((lget p0 x10).f0) = (4 : Int)), rfl, rfl, h⟩
          ·refine AW.condN _ rfl hc51 ?_
           refine AW.reg ?_
           refine AO.c (x := eBool (decide (((lget p0 x10).f0) = (6 : Int)))) (Calm.int rfl rfl rfl rfl) ?_
           refine AO.c (Calm.assign rfl rfl) ?_
           refine AO.nK [3, 6, 7, 8, 9, 67] ?_
           exact ⟨decide (((lget p0 x10).f0) = (6 : Int)), rfl, rfl, h⟩
         ·rintro _ _ ⟨b48, rfl, rfl, h⟩
          rw [deriv_Empty_c2.eq_1] at h
          rcases of_ite h with ⟨hc49, h⟩ | ⟨hc49, h⟩
          ·refine AW.condT' _ rfl hc49 ?_
           refine AW.reg ?_
           refine AO.c (Calm.move rfl rfl) ?_
           refine AO.c (Calm.move rfl rfl) ?_
           refine AO.c (x := eI64 (w64 ((x9.length : Int) - (1 : Int)))) (Calm.int rfl rfl rfl rfl) ?_
           obtain ⟨hg50, h⟩ := of_guard h
           refine AO.c (Calm.idxO 0 rfl rfl rfl rfl hg50 Try.underlying25 sz4) ?_
           refine AO.store (X' := (.ar 1 ((lset x9 (w64 ((x9.length : Int) - (1 : Int))) true).map eBool))) 0 rfl rfl rfl rfl rfl rfl (Put.cast (Put.lidx (w64 ((x9.length : Int) - (1 : Int))) true hg50.1 hg50.2 Put.here) (by omega)) rfl rfl sz4 rfl ?_
           refine AO.coe 3 (y' := (.own n8 0 (lset x9 (w64 ((x9.length : Int) - (1 : Int))) true).length)) rfl (fun _ _ h => lset_own h) ?_
           refine AO.coe 70 (y' := (.own n8 0 (lset x9 (w64 ((x9.length : Int) - (1 : Int))) true).length)) rfl (fun _ _ h => lset_own h) ?_
           refine AO.nK [3, 7, 8, 9] ?_
           exact ⟨n8, (lset x9 (w64 ((x9.length : Int) - (1 : Int))) true), rfl, rfl, h⟩
          ·refine AW.condF' _ rfl hc49 ?_
           refine AW.sK [3, 7, 8, 9] ?_
           exact ⟨n8, x9, rfl, rfl, h⟩
    ·rintro _ _ ⟨n14, x15, rfl, rfl, h⟩
     rw [deriv_Empty_c1.eq_1] at h
     refine AW.reg ?_
     refine AO.c (x := eI64 (w64 (x10 + (1 : Int)))) (Calm.int rfl rfl rfl rfl) ?_
     refine AO.c (Calm.move rfl rfl) ?_
     refine AO.nK [3, 7, 8, 9] ?_
     exact ⟨kq12, Nat.lt_succ_self _, n14, x15, (w64 (x10 + (1 : Int))), rfl, rfl, by rw [hrec11]; exact h⟩
   ·refine AW.condN _ rfl hc13 ?_
    refine AW.eK [3] ?_
    exact ⟨n8, x9, rfl, rfl, h⟩
  ·rintro _ _ ⟨n2, x3, rfl, rfl, h⟩
   rw [deriv_Empty_c0.eq_1] at h
   refine AW.seq ?_
   obtain ⟨b4, hq5, h⟩ := of_bind h
   refine AW.regM [(2, (eBool b4))] [] ?_ ?_
   ·refine AO.c (Calm.move rfl rfl) ?_
    refine AO.c (Calm.lenOwn rfl rfl Try.underlying25) ?_
    refine AO.c (x := eBool (decide ((x3.length : Int) = (1 : Int)))) (Calm.int rfl rfl rfl rfl) ?_
    refine AO.c (Calm.move rfl rfl) ?_
    rcases of_ite hq5 with ⟨hc6, hq5⟩ | ⟨hc6, hq5⟩
    ·refine AO.cG rfl rfl (bD (decide_eq_true hc6)) (Calm.move rfl rfl) ?_
     obtain ⟨hg7, hq5⟩ := of_guard hq5
     refine AO.cG rfl rfl (bD (decide_eq_true hc6)) (Calm.idxO 0 rfl rfl rfl rfl hg7 Try.underlying25 sz4) ?_
     refine AO.cG rfl rfl (bD (decide_eq_true hc6)) (Calm.load 0 rfl rfl rfl (At.cast (At.lidx (0 : Int) hg7.1 hg7.2 At.here) (by omega)) ag4 sz4) ?_
     refine AO.c (Calm.pickT rfl (bD (decide_eq_true hc6)) rfl) ?_
     refine AO.c (Calm.assign rfl rfl) ?_
     cases hq5
     refine AO.nilE ⟨rfl, rfl⟩ ?_ ?_
     · exact ⟨rfl, trivial⟩
     · exact (Sub.nil _)
    ·refine AO.sT rfl rfl (bD (decide_eq_false hc6)) ?_
     refine AO.sT rfl rfl (bD (decide_eq_false hc6)) ?_
     refine AO.sT rfl rfl (bD (decide_eq_false hc6)) ?_
     refine AO.c (Calm.pickF rfl (bD (decide_eq_false hc6)) rfl) ?_
     refine AO.c (Calm.assign rfl rfl) ?_
     cases hq5
     refine AO.nilE ⟨rfl, rfl⟩ ?_ ?_
     · exact ⟨rfl, trivial⟩
     · exact (Sub.nil _)
   ·refine AW.rK [2] ?_
    have hr := Option.some.inj h
    subst hr
    exact ⟨[(eBool b4)], ⟨rfl, rfl, trivial⟩, rfl⟩
end Go.Avl.T3
