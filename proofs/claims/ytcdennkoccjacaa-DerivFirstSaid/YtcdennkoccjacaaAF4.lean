/- Parts: T3f72, T3f70, T3f82, T3f80, T3f71, T3f58, T3f43, T3f73. -/
import Derived.Test.YtcdennkoccjacaaAF1
import Derived.Test.YtcdennkoccjacaaAF2
/- bosket/rex.Join; printed by avmain.py. -/
namespace Go.Avl.T3
open Go Go.RowKit Go.Proofs Go.Avl
set_option linter.unusedVariables false
set_option maxRecDepth 100000
set_option maxHeartbeats 4000000
attribute [local irreducible] AW AO AQ Spec SpecH Calm

def rex_Join_c0 (k : Nat) (p0 : Int) (x9 : (List S82)) : Option (List S82) :=
  if (x9 ++ ([(S82.mk p0 (Vector.replicate 4 (0 : Int)))] : List S82)).length * 40 ≤ 140737488355328 then some ((x9 ++ ([(S82.mk p0 (Vector.replicate 4 (0 : Int)))] : List S82)))
  else none
def rex_Join_l1 (k : Nat) (p0 : Int) (p1 : (List (List S82))) : Nat → (List S82) → Int → Option (List S82)
  | 0, _, _ => none
  | j + 1, x14, x15 =>
    if x15 < (p1.length : Int) then if 0 ≤ x15 ∧ x15 < (p1.length : Int) then if (x14 ++ (lget p1 x15)).length * 40 ≤ 140737488355328 then (rex_Join_l1 k p0 p1 j) (x14 ++ (lget p1 x15)) (w64 (x15 + (1 : Int)))
    else none
    else none
    else rex_Join_c0 k p0 x14
def rex_Join (k : Nat) (p0 : Int) (p1 : (List (List S82))) : Option (List S82) :=
  Option.bind (α := Bool) ((rex_Takes k p0).bind fun t5 =>
  if t5 ≠ (p1.length : Int) then some (true)
  else some (decide ((p1.length : Int) = (0 : Int)))) fun b3 =>
  if b3 = true then some ([])
  else rex_Join_l1 k p0 p1 k ([] : List S82) (0 : Int)
theorem rex_Join_spec {k : Nat} {p0 : Int} {p1 : (List (List S82))} {r : (List S82)} (h : rex_Join k p0 p1 = some r) : Spec Try.prog 72 [(eI64 p0), (.fz 1 (p1.map e58))] (e58 r) := by
  rw [rex_Join.eq_1] at h
  refine Spec.intro (res := [.tmp 4]) Try.func72 rfl rfl rfl (Nat.le_of_ble_eq_true rfl) ?_
  refine AW.sr ?_
  refine AO.c (Calm.assign rfl rfl) ?_
  refine AO.nK [0, 1] ?_
  refine AW.seq ?_
  refine AW.seq ?_
  obtain ⟨b3, hq4, h⟩ := of_bind h
  refine AW.regM [(0, (eI64 p0)), (1, (.fz 1 (p1.map e58))), (17, (eBool b3))] [] ?_ ?_
  ·refine AO.c (Calm.move rfl rfl) ?_
   obtain ⟨t5, et5, hq4⟩ := of_bind hq4
   refine AO.callS [(eI64 p0)] (eI64 t5) 9 rfl (by decide) ok67 rfl rfl rfl ⟨rfl, rfl, trivial⟩ (rex_Takes_spec et5) ?_
   refine AO.c (Calm.move rfl rfl) ?_
   refine AO.c (Calm.lenL rfl rfl Try.underlying97) ?_
   refine AO.c (x := eBool (decide (t5 ≠ (p1.length : Int)))) (Calm.int rfl rfl rfl rfl) ?_
   refine AO.c (Calm.move rfl rfl) ?_
   rcases of_ite hq4 with ⟨hc6, hq4⟩ | ⟨hc6, hq4⟩
   ·refine AO.sF rfl rfl (bD (decide_eq_true hc6)) ?_
    refine AO.sF rfl rfl (bD (decide_eq_true hc6)) ?_
    refine AO.sF rfl rfl (bD (decide_eq_true hc6)) ?_
    refine AO.c (Calm.pickT rfl (bD (decide_eq_true hc6)) rfl) ?_
    cases hq4
    refine AO.nilE ⟨rfl, rfl⟩ ?_ ?_
    · exact ⟨rfl, rfl, rfl, trivial⟩
    · exact (Sub.refl _)
   ·refine AO.cG rfl rfl (bD (decide_eq_false hc6)) (Calm.move rfl rfl) ?_
    refine AO.cG rfl rfl (bD (decide_eq_false hc6)) (Calm.lenL rfl rfl Try.underlying97) ?_
    refine AO.cG (x := eBool (decide ((p1.length : Int) = (0 : Int)))) rfl rfl (bD (decide_eq_false hc6)) (Calm.int rfl rfl rfl rfl) ?_
    refine AO.c (Calm.pickF rfl (bD (decide_eq_false hc6)) rfl) ?_
    cases hq4
    refine AO.nilE ⟨rfl, rfl⟩ ?_ ?_
    · exact ⟨rfl, rfl, rfl, trivial⟩
    · exact (Sub.refl _)
  ·rcases of_ite h with ⟨hc7, h⟩ | ⟨hc7, h⟩
   ·refine AW.condT' _ rfl hc7 ?_
    refine AW.sr ?_
    refine AO.c (Calm.assign rfl rfl) ?_
    refine AO.nK [4] ?_
    refine AW.coeC 4 (y' := (.fz 5 (([] : List S82).map e82))) rfl Coe.nil ?_
    refine AW.rK [4] ?_
    have hr := Option.some.inj h
    subst hr
    exact ⟨[(.fz 5 (([] : List S82).map e82))], ⟨rfl, rfl, trivial⟩, rfl⟩
   ·refine AW.condF' _ rfl hc7 ?_
    refine AW.sK [0, 1] ?_
    refine AW.sr ?_
    refine AO.c (Calm.assign rfl rfl) ?_
    refine AO.nK [0, 1, 5] ?_
    refine AW.seq_mid (fun ρ H => ∃ (n8 : Nat) (x9 : (List S82)), ρ = [(0, (eI64 p0)), (5, (.own n8 0 x9.length))] ∧ H = [(n8, (.mem (.ar 5 (x9.map e82))))] ∧ rex_Join_c0 k p0 x9 = some r) ?_ ?_
    ·refine AW.sr ?_
     refine AO.c (Calm.move rfl rfl) ?_
     refine AO.c (Calm.lenL rfl rfl Try.underlying97) ?_
     refine AO.c (Calm.move rfl rfl) ?_
     refine AO.nK [0, 5, 18, 19, 20] ?_
     refine AW.block ?_
     refine AW.nilOwn 5 5 rfl fun n22 => ?_
     refine AW.wK [0, 5, 18, 19, 20] ?_
     refine AW.loop (fun kq ρ H => ∃ (n13 : Nat) (x14 : (List S82)) (x15 : Int), ρ = [(0, (eI64 p0)), (5, (.own n13 0 x14.length)), (18, (.fz 1 (p1.map e58))), (19, (eI64 (p1.length : Int))), (20, (eI64 x15))] ∧ H = [(n13, (.mem (.ar 5 (x14.map e82))))] ∧ rex_Join_l1 k p0 p1 kq x14 x15 = some r) k ⟨n22, ([] : List S82), (0 : Int), rfl, rfl, h⟩ ?_
     rintro kq17 _ _ ⟨n13, x14, x15, rfl, rfl, h⟩
     cases kq17 with
     | zero => rw [rex_Join_l1.eq_1] at h; cases h
     | succ kq17 =>
     rw [rex_Join_l1.eq_2] at h
     generalize hrec16 : rex_Join_l1 k p0 p1 kq17 = rec16 at h
     refine AW.sr ?_
     refine AO.c (x := eBool (decide (x15 < (p1.length : Int)))) (Calm.int rfl rfl rfl rfl) ?_
     refine AO.nK [0, 5, 18, 19, 20, 21] ?_
     refine AW.seq ?_
     rcases of_ite h with ⟨hc18, h⟩ | ⟨hc18, h⟩
     ·refine AW.condP _ rfl hc18 ?_
      refine AW.sK [0, 5, 18, 19, 20] ?_
      refine AW.seq ?_
      refine AW.block ?_
      refine AW.sr ?_
      obtain ⟨hg19, h⟩ := of_guard h
      refine AO.c (Calm.idxL (f := e58) rfl rfl rfl hg19 Try.underlying97 sz58) ?_
      refine AO.c (Calm.loadRp rfl rfl ag58 sz58) ?_
      refine AO.c (Calm.assign rfl rfl) ?_
      refine AO.nK [0, 5, 7, 18, 19, 20] ?_
      refine AW.reg ?_
      refine AO.c (Calm.move rfl rfl) ?_
      refine AO.c (Calm.move rfl rfl) ?_
      obtain ⟨hg21, h⟩ := of_guard h
      refine AO.appendL (l := x14) (m := (lget p1 x15)) 0 26 rfl (by decide) rfl rfl rfl rfl rfl Src.fz Try.underlying58 Try.underlying58 sz82 by82 zr82 rfl hg21 (by decide) fun n20 => ?_
      refine AO.c (Calm.assign rfl rfl) ?_
      refine AO.nK [0, 5, 18, 19, 20] ?_
      refine AW.reg ?_
      refine AO.c (x := eI64 (w64 (x15 + (1 : Int)))) (Calm.int rfl rfl rfl rfl) ?_
      refine AO.c (Calm.move rfl rfl) ?_
      refine AO.nK [0, 5, 18, 19, 20] ?_
      exact ⟨kq17, Nat.lt_succ_self _, n20, (x14 ++ (lget p1 x15)), (w64 (x15 + (1 : Int))), rfl, rfl, by rw [hrec16]; exact h⟩
     ·refine AW.condN _ rfl hc18 ?_
      refine AW.eK [0, 5] ?_
      exact ⟨n13, x14, rfl, rfl, h⟩
    ·rintro _ _ ⟨n8, x9, rfl, rfl, h⟩
     rw [rex_Join_c0.eq_1] at h
     refine AW.sr ?_
     refine AO.c (Calm.move rfl rfl) ?_
     refine AO.c (Calm.move rfl rfl) ?_
     refine AO.c (x := .st [(1, (eI64 p0)), (4, (.ar 1 ((Vector.replicate 4 (0 : Int)).toList.map eU64)))]) (Calm.build (qs := [(0, (eI64 p0))]) rfl ⟨rfl, rfl, rfl, trivial⟩ Try.underlying82 rfl zr82 lay82 (.cons rfl rfl rfl rfl (Put.cast (Put.fld0 Put.here) rfl) .nil) rfl) ?_
     refine AO.lit (Z := (.st [(1, (eI64 (0 : Int))), (4, (.ar 1 ((Vector.replicate 4 (0 : Int)).toList.map eU64)))])) (xs := (([(S82.mk p0 (Vector.replicate 4 (0 : Int)))] : List S82).map e82)) (qs := [(0, (e82 (S82.mk p0 (Vector.replicate 4 (0 : Int)))))]) rfl 31 rfl (by decide) rfl ⟨rfl, rfl, rfl, trivial⟩ Try.underlying58 sz82 zr82 lay82 rfl (by decide) (litOK (z := 5) [(e82 (S82.mk p0 (Vector.replicate 4 (0 : Int))))] rfl ⟨⟨rfl, rfl⟩, trivial⟩) rfl fun n10 => ?_
     obtain ⟨hg12, h⟩ := of_guard h
     refine AO.appendL (l := x9) (m := ([(S82.mk p0 (Vector.replicate 4 (0 : Int)))] : List S82)) 1 32 rfl (by decide) rfl rfl rfl rfl rfl (Src.ownL (f := e82) (l := ([(S82.mk p0 (Vector.replicate 4 (0 : Int)))] : List S82)) 0 rfl) Try.underlying58 Try.underlying58 sz82 by82 zr82 rfl hg12 (by decide) fun n11 => ?_
     refine AO.c (Calm.assign rfl rfl) ?_
     refine AO.nH [4] (H' := [(n11, (.mem (.ar 5 ((x9 ++ ([(S82.mk p0 (Vector.replicate 4 (0 : Int)))] : List S82)).map e82))))]) (Sub.cons 1 rfl (Sub.nil _)) ?_
     refine AW.freezeS 0 [(4, (.fz 5 ((x9 ++ ([(S82.mk p0 (Vector.replicate 4 (0 : Int)))] : List S82)).map e82)))] rfl ⟨fz_all rfl, trivial⟩ ?_
     refine AW.rK [4] ?_
     have hr := Option.some.inj h
     subst hr
     exact ⟨[(.fz 5 ((x9 ++ ([(S82.mk p0 (Vector.replicate 4 (0 : Int)))] : List S82)).map e82))], ⟨rfl, rfl, trivial⟩, rfl⟩
end Go.Avl.T3
/- bosket/deriv.cat; printed by avmain.py. -/
namespace Go.Avl.T3
open Go Go.RowKit Go.Proofs Go.Avl
set_option linter.unusedVariables false
set_option maxRecDepth 100000
set_option maxHeartbeats 4000000
attribute [local irreducible] AW AO AQ Spec SpecH Calm

def deriv_cat (k : Nat) (p0 : S62) (p1 : S62) : Option S62 :=
  Option.bind (α := Bool) (if p0.f0 = true then some (true)
  else some (p1.f0)) fun b6 =>
  if b6 = true then some ((S62.mk true []))
  else Option.bind (α := Bool) (if (p0.f1.length : Int) = (1 : Int) then if 0 ≤ (0 : Int) ∧ (0 : Int) < (p0.f1.length : Int) then some (decide (((lget p0.f1 (0 : Int)).f0) = (0 : Int)))
  else none
  else some (false)) fun b10 =>
  if b10 = true then some (p1)
  else Option.bind (α := Bool) (if (p1.f1.length : Int) = (1 : Int) then if 0 ≤ (0 : Int) ∧ (0 : Int) < (p1.f1.length : Int) then some (decide (((lget p1.f1 (0 : Int)).f0) = (0 : Int)))
  else none
  else some (false)) fun b15 =>
  if b15 = true then some (p0)
  else (rex_Join k (2 : Int) [p0.f1, p1.f1]).bind fun t21 =>
  some ((S62.mk false t21))
theorem deriv_cat_spec {k : Nat} {p0 : S62} {p1 : S62} {r : S62} (h : deriv_cat k p0 p1 = some r) : Spec Try.prog 70 [(e62 p0), (e62 p1)] (e62 r) := by
  rw [deriv_cat.eq_1] at h
  refine Spec.intro (res := [.cell 4 62]) Try.func70 rfl rfl rfl (Nat.le_of_ble_eq_true rfl) ?_
  refine AW.sr ?_
  refine AO.box rfl 2 rfl (by decide) rfl rfl rfl fun n3 => ?_
  refine AO.box rfl 3 rfl (by decide) rfl rfl rfl fun n4 => ?_
  refine AO.alloc rfl 4 rfl (by decide) rfl zr62 lay62 fun n5 => ?_
  refine AO.nH [2, 3, 4] (H' := [(n3, (.mem (e62 p0))), (n4, (.mem (e62 p1))), (n5, (.mem (.st [(1, (eBool false)), (1, (.fl (.slice none 0 0)))])))]) (Sub.cons 2 rfl (Sub.cons 1 rfl (Sub.cons 0 rfl (Sub.nil _)))) ?_
  refine AW.seq ?_
  refine AW.block ?_
  refine AW.seq ?_
  obtain ⟨b6, hq7, h⟩ := of_bind h
  refine AW.regM [(2, (.ptr n3 0)), (3, (.ptr n4 0)), (4, (.ptr n5 0)), (5, (eBool b6))] [(n3, (.mem (e62 p0))), (n4, (.mem (e62 p1))), (n5, (.mem (.st [(1, (eBool false)), (1, (.fl (.slice none 0 0)))])))] ?_ ?_
  ·refine AO.c (x := .ptr n3 0) (Calm.fldPtr rfl rfl Try.underlying62 rfl sz4 _ rfl) ?_
   refine AO.c (Calm.load 0 rfl rfl rfl (At.cast (At.fld0 At.here) rfl) ag4 sz4) ?_
   refine AO.c (Calm.move rfl rfl) ?_
   rcases of_ite hq7 with ⟨hc8, hq7⟩ | ⟨hc8, hq7⟩
   ·refine AO.sF rfl rfl (bD hc8) ?_
    refine AO.sF rfl rfl (bD hc8) ?_
    refine AO.c (Calm.pickT rfl (bD hc8) rfl) ?_
    refine AO.c (Calm.assign rfl rfl) ?_
    cases hq7
    refine AO.nilE ⟨rfl, rfl⟩ ?_ ?_
    · exact ⟨rfl, rfl, rfl, rfl, trivial⟩
    · exact (Sub.refl _)
   ·refine AO.cG (x := .ptr n4 0) rfl rfl (bD (eq_false_of_ne_true hc8)) (Calm.fldPtr rfl rfl Try.underlying62 rfl sz4 _ rfl) ?_
    refine AO.cG rfl rfl (bD (eq_false_of_ne_true hc8)) (Calm.load 1 rfl rfl rfl (At.cast (At.fld0 At.here) rfl) ag4 sz4) ?_
    refine AO.c (Calm.pickF rfl (bD (eq_false_of_ne_true hc8)) rfl) ?_
    refine AO.c (Calm.assign rfl rfl) ?_
    cases hq7
    refine AO.nilE ⟨rfl, rfl⟩ ?_ ?_
    · exact ⟨rfl, rfl, rfl, rfl, trivial⟩
    · exact (Sub.refl _)
  ·rcases of_ite h with ⟨hc9, h⟩ | ⟨hc9, h⟩
   ·refine AW.condT' _ rfl hc9 ?_
    refine AW.sr ?_
    refine AO.c (x := .st [(1, (eBool true)), (1, (.fl (.slice none 0 0)))]) (Calm.build (qs := [(0, (eBool true))]) rfl ⟨rfl, rfl, rfl, trivial⟩ Try.underlying62 rfl zr62 lay62 (.cons rfl rfl rfl rfl (Put.cast (Put.fld0 Put.here) rfl) .nil) rfl) ?_
    refine AO.coeC 12 (y' := (e62 (S62.mk true []))) rfl (Coe.st Coe.refl (Coe.st Coe.nil Coe.refl)) ?_
    refine AO.store (X' := (e62 (S62.mk true []))) 2 rfl rfl rfl rfl rfl rfl (Put.cast Put.here rfl) rfl rfl sz62 rfl ?_
    refine AO.nH [4] (H' := [(n5, (.mem (e62 (S62.mk true []))))]) (Sub.cons 2 rfl (Sub.nil _)) ?_
    refine AW.rK [4] ?_
    have hr := Option.some.inj h
    subst hr
    exact ⟨[(e62 (S62.mk true []))], ⟨⟨_, 0, rfl, rfl, ag62, sz62⟩, trivial⟩, rfl⟩
   ·refine AW.condF' _ rfl hc9 ?_
    refine AW.seq ?_
    obtain ⟨b10, hq11, h⟩ := of_bind h
    refine AW.regM [(2, (.ptr n3 0)), (3, (.ptr n4 0)), (4, (.ptr n5 0)), (13, (eBool b10))] [(n3, (.mem (e62 p0))), (n4, (.mem (e62 p1))), (n5, (.mem (.st [(1, (eBool false)), (1, (.fl (.slice none 0 0)))])))] ?_ ?_
    ·refine AO.c (x := .ptr n3 1) (Calm.fldPtr rfl rfl Try.underlying62 rfl sz58 _ rfl) ?_
     refine AO.c (Calm.load 0 rfl rfl rfl (At.cast (At.fldS (At.fld0 At.here)) rfl) ag58 sz58) ?_
     refine AO.c (Calm.lenL rfl rfl Try.underlying58) ?_
     refine AO.c (x := eBool (decide ((p0.f1.length : Int) = (1 : Int)))) (Calm.int rfl rfl rfl rfl) ?_
     refine AO.c (Calm.move rfl rfl) ?_
     rcases of_ite hq11 with ⟨hc12, hq11⟩ | ⟨hc12, hq11⟩
     ·refine AO.cG (x := .ptr n3 1) rfl rfl (bD (decide_eq_true hc12)) (Calm.fldPtr rfl rfl Try.underlying62 rfl sz58 _ rfl) ?_
      refine AO.cG rfl rfl (bD (decide_eq_true hc12)) (Calm.load 0 rfl rfl rfl (At.cast (At.fldS (At.fld0 At.here)) rfl) ag58 sz58) ?_
      obtain ⟨hg13, hq11⟩ := of_guard hq11
      refine AO.cG rfl rfl (bD (decide_eq_true hc12)) (Calm.idxL (f := e82) rfl rfl rfl hg13 Try.underlying58 sz82) ?_
      refine AO.cG rfl rfl (bD (decide_eq_true hc12)) (Calm.fldRp rfl rfl Try.underlying82 rfl sz3 (At.cast (At.fld0 At.here) rfl)) ?_
      refine AO.cG rfl rfl (bD (decide_eq_true hc12)) (Calm.loadRp rfl rfl ag3 sz3) ?_
      refine AO.cG (x := eBool (decide (((lget p0.f1 (0 : Int)).f0) = (0 : Int)))) rfl rfl (bD (decide_eq_true hc12)) (Calm.int rfl rfl rfl rfl) ?_
      refine AO.c (Calm.pickT rfl (bD (decide_eq_true hc12)) rfl) ?_
      refine AO.c (Calm.assign rfl rfl) ?_
      cases hq11
      refine AO.nilE ⟨rfl, rfl⟩ ?_ ?_
      · exact ⟨rfl, rfl, rfl, rfl, trivial⟩
      · exact (Sub.refl _)
     ·refine AO.sT rfl rfl (bD (decide_eq_false hc12)) ?_
      refine AO.sT rfl rfl (bD (decide_eq_false hc12)) ?_
      refine AO.sT rfl rfl (bD (decide_eq_false hc12)) ?_
      refine AO.sT rfl rfl (bD (decide_eq_false hc12)) ?_
      refine AO.sT rfl rfl (bD (decide_eq_false hc12)) ?_
      refine AO.sT rfl rfl (bD (decide_eq_false hc12)) ?_
      refine AO.c (Calm.pickF rfl (bD (decide_eq_false hc12)) rfl) ?_
      refine AO.c (Calm.assign rfl rfl) ?_
      cases hq11
      refine AO.nilE ⟨rfl, rfl⟩ ?_ ?_
      · exact ⟨rfl, rfl, rfl, rfl, trivial⟩
      · exact (Sub.refl _)
    ·rcases of_ite h with ⟨hc14, h⟩ | ⟨hc14, h⟩
     ·refine AW.condT' _ rfl hc14 ?_
      refine AW.sr ?_
      refine AO.c (Calm.load 1 rfl rfl rfl (At.cast At.here rfl) ag62 sz62) ?_
      refine AO.store (X' := (e62 p1)) 2 rfl rfl rfl rfl rfl rfl (Put.cast Put.here rfl) rfl rfl sz62 rfl ?_
      refine AO.nH [4] (H' := [(n5, (.mem (e62 p1)))]) (Sub.cons 2 rfl (Sub.nil _)) ?_
      refine AW.rK [4] ?_
      have hr := Option.some.inj h
      subst hr
      exact ⟨[(e62 p1)], ⟨⟨_, 0, rfl, rfl, ag62, sz62⟩, trivial⟩, rfl⟩
     ·refine AW.condF' _ rfl hc14 ?_
      refine AW.seq ?_
      obtain ⟨b15, hq16, h⟩ := of_bind h
      refine AW.regM [(2, (.ptr n3 0)), (3, (.ptr n4 0)), (4, (.ptr n5 0)), (27, (eBool b15))] [(n3, (.mem (e62 p0))), (n4, (.mem (e62 p1))), (n5, (.mem (.st [(1, (eBool false)), (1, (.fl (.slice none 0 0)))])))] ?_ ?_
      ·refine AO.c (x := .ptr n4 1) (Calm.fldPtr rfl rfl Try.underlying62 rfl sz58 _ rfl) ?_
       refine AO.c (Calm.load 1 rfl rfl rfl (At.cast (At.fldS (At.fld0 At.here)) rfl) ag58 sz58) ?_
       refine AO.c (Calm.lenL rfl rfl Try.underlying58) ?_
       refine AO.c (x := eBool (decide ((p1.f1.length : Int) = (1 : Int)))) (Calm.int rfl rfl rfl rfl) ?_
       refine AO.c (Calm.move rfl rfl) ?_
       rcases of_ite hq16 with ⟨hc17, hq16⟩ | ⟨hc17, hq16⟩
       ·refine AO.cG (x := .ptr n4 1) rfl rfl (bD (decide_eq_true hc17)) (Calm.fldPtr rfl rfl Try.underlying62 rfl sz58 _ rfl) ?_
        refine AO.cG rfl rfl (bD (decide_eq_true hc17)) (Calm.load 1 rfl rfl rfl (At.cast (At.fldS (At.fld0 At.here)) rfl) ag58 sz58) ?_
        obtain ⟨hg18, hq16⟩ := of_guard hq16
        refine AO.cG rfl rfl (bD (decide_eq_true hc17)) (Calm.idxL (f := e82) rfl rfl rfl hg18 Try.underlying58 sz82) ?_
        refine AO.cG rfl rfl (bD (decide_eq_true hc17)) (Calm.fldRp rfl rfl Try.underlying82 rfl sz3 (At.cast (At.fld0 At.here) rfl)) ?_
        refine AO.cG rfl rfl (bD (decide_eq_true hc17)) (Calm.loadRp rfl rfl ag3 sz3) ?_
        refine AO.cG (x := eBool (decide (((lget p1.f1 (0 : Int)).f0) = (0 : Int)))) rfl rfl (bD (decide_eq_true hc17)) (Calm.int rfl rfl rfl rfl) ?_
        refine AO.c (Calm.pickT rfl (bD (decide_eq_true hc17)) rfl) ?_
        refine AO.c (Calm.assign rfl rfl) ?_
        cases hq16
        refine AO.nilE ⟨rfl, rfl⟩ ?_ ?_
        · exact ⟨rfl, rfl, rfl, rfl, trivial⟩
        · exact (Sub.refl _)
       ·refine AO.sT rfl rfl (bD (decide_eq_false hc17)) ?_
        refine AO.sT rfl rfl (bD (decide_eq_false hc17)) ?_
        refine AO.sT rfl rfl (bD (decide_eq_false hc17)) ?_
        refine AO.sT rfl rfl (bD (decide_eq_false hc17)) ?_
        refine AO.sT rfl rfl (bD (decide_eq_false hc17)) ?_
        refine AO.sT rfl rfl (bD (decide_eq_false hc17)) ?_
        refine AO.c (Calm.pickF rfl (bD (decide_eq_false hc17)) rfl) ?_
        refine AO.c (Calm.assign rfl rfl) ?_
        cases hq16
        refine AO.nilE ⟨rfl, rfl⟩ ?_ ?_
        · exact ⟨rfl, rfl, rfl, rfl, trivial⟩
        · exact (Sub.refl _)
      ·rcases of_ite h with ⟨hc19, h⟩ | ⟨hc19, h⟩
       ·refine AW.condT' _ rfl hc19 ?_
        refine AW.sr ?_
        refine AO.c (Calm.load 0 rfl rfl rfl (At.cast At.here rfl) ag62 sz62) ?_
        refine AO.store (X' := (e62 p0)) 2 rfl rfl rfl rfl rfl rfl (Put.cast Put.here rfl) rfl rfl sz62 rfl ?_
        refine AO.nH [4] (H' := [(n5, (.mem (e62 p0)))]) (Sub.cons 2 rfl (Sub.nil _)) ?_
        refine AW.rK [4] ?_
        have hr := Option.some.inj h
        subst hr
        exact ⟨[(e62 p0)], ⟨⟨_, 0, rfl, rfl, ag62, sz62⟩, trivial⟩, rfl⟩
       ·refine AW.condF' _ rfl hc19 ?_
        refine AW.sK [2, 3, 4] ?_
        refine AW.sr ?_
        refine AO.c (x := .ptr n3 1) (Calm.fldPtr rfl rfl Try.underlying62 rfl sz58 _ rfl) ?_
        refine AO.c (Calm.load 0 rfl rfl rfl (At.cast (At.fldS (At.fld0 At.here)) rfl) ag58 sz58) ?_
        refine AO.c (x := .ptr n4 1) (Calm.fldPtr rfl rfl Try.underlying62 rfl sz58 _ rfl) ?_
        refine AO.c (Calm.load 1 rfl rfl rfl (At.cast (At.fldS (At.fld0 At.here)) rfl) ag58 sz58) ?_
        refine AO.lit (Z := (.fl (.slice none 0 0))) (xs := (([p0.f1, p1.f1] : List (List S82)).map e58)) (qs := [(0, (.fz 5 (p0.f1.map e82))), (1, (.fz 5 (p1.f1.map e82)))]) rfl 45 rfl (by decide) rfl ⟨rfl, rfl, rfl, rfl, rfl, rfl, trivial⟩ Try.underlying97 sz58 zr58 lay58 rfl (by decide) (litOK (z := 1) [(.fz 5 (p0.f1.map e82)), (.fz 5 (p1.f1.map e82))] rfl ⟨⟨rfl, rfl⟩, ⟨rfl, rfl⟩, trivial⟩) rfl fun n20 => ?_
        obtain ⟨t21, et21, h⟩ := of_bind h
        refine AO.freezeS 0 [(45, (.fz 1 (([p0.f1, p1.f1] : List (List S82)).map e58)))] rfl ⟨fz_all rfl, trivial⟩ ?_
        refine AO.callS [(eI64 (2 : Int)), (.fz 1 (([p0.f1, p1.f1] : List (List S82)).map e58))] (.fz 5 (t21.map e82)) 46 rfl (by decide) ok72 rfl rfl rfl ⟨rfl, rfl, rfl, rfl, trivial⟩ (rex_Join_spec et21) ?_
        refine AO.c (x := .st [(1, (eBool false)), (1, (.fz 5 (t21.map e82)))]) (Calm.build (qs := [(1, (.fz 5 (t21.map e82)))]) rfl ⟨rfl, rfl, rfl, trivial⟩ Try.underlying62 rfl zr62 lay62 (.cons rfl rfl rfl rfl (Put.cast (Put.fldS (Put.fld0 Put.here)) rfl) .nil) rfl) ?_
        refine AO.store (X' := (e62 (S62.mk false t21))) 2 rfl rfl rfl rfl rfl rfl (Put.cast Put.here rfl) rfl rfl sz62 rfl ?_
        refine AO.nH [4] (H' := [(n5, (.mem (e62 (S62.mk false t21))))]) (Sub.cons 2 rfl (Sub.nil _)) ?_
        refine AW.rK [4] ?_
        have hr := Option.some.inj h
        subst hr
        exact ⟨[(e62 (S62.mk false t21))], ⟨⟨_, 0, rfl, rfl, ag62, sz62⟩, trivial⟩, rfl⟩
end Go.Avl.T3
/- slices.Equal[bosket/api.Regex,bosket/api.Piece]; printed by avmain.py. -/
namespace Go.Avl.T3
open Go Go.RowKit Go.Proofs Go.Avl
set_option linter.unusedVariables false
set_option maxRecDepth 100000
set_option maxHeartbeats 4000000
attribute [local irreducible] AW AO AQ Spec SpecH Calm

def slices_Equal_api_Regex_api_Piece__c0 (k : Nat) : Option Bool :=
  some (true)
def slices_Equal_api_Regex_api_Piece__l1 (k : Nat) (p0 : (List S82)) (p1 : (List S82)) : Nat → Int → Option Bool
  | 0, _ => none
  | j + 1, x4 =>
    if x4 < (p0.length : Int) then if 0 ≤ x4 ∧ x4 < (p0.length : Int) then if 0 ≤ x4 ∧ x4 < (p1.length : Int) then if (!(decide ((lget p0 x4) = (lget p1 x4)))) = true then some (false)
    else (slices_Equal_api_Regex_api_Piece__l1 k p0 p1 j) (w64 (x4 + (1 : Int)))
    else none
    else none
    else slices_Equal_api_Regex_api_Piece__c0 k
def slices_Equal_api_Regex_api_Piece_ (k : Nat) (p0 : (List S82)) (p1 : (List S82)) : Option Bool :=
  if (p0.length : Int) ≠ (p1.length : Int) then some (false)
  else slices_Equal_api_Regex_api_Piece__l1 k p0 p1 k (0 : Int)
theorem slices_Equal_api_Regex_api_Piece__spec {k : Nat} {p0 : (List S82)} {p1 : (List S82)} {r : Bool} (h : slices_Equal_api_Regex_api_Piece_ k p0 p1 = some r) : Spec Try.prog 82 [(.fz 5 (p0.map e82)), (.fz 5 (p1.map e82))] (eBool r) := by
  rw [slices_Equal_api_Regex_api_Piece_.eq_1] at h
  refine Spec.intro (res := [.tmp 4]) Try.func82 rfl rfl rfl (Nat.le_of_ble_eq_true rfl) ?_
  refine AW.sr ?_
  refine AO.c (Calm.assign rfl rfl) ?_
  refine AO.nK [0, 1] ?_
  refine AW.seq ?_
  refine AW.sr ?_
  refine AO.c (Calm.move rfl rfl) ?_
  refine AO.c (Calm.lenL rfl rfl Try.underlying58) ?_
  refine AO.c (Calm.move rfl rfl) ?_
  refine AO.c (Calm.lenL rfl rfl Try.underlying58) ?_
  refine AO.c (x := eBool (decide ((p0.length : Int) ≠ (p1.length : Int)))) (Calm.int rfl rfl rfl rfl) ?_
  refine AO.nK [0, 1, 10] ?_
  rcases of_ite h with ⟨hc3, h⟩ | ⟨hc3, h⟩
  ·refine AW.condP _ rfl hc3 ?_
   refine AW.sr ?_
   refine AO.c (Calm.assign rfl rfl) ?_
   refine AO.nK [4] ?_
   refine AW.rK [4] ?_
   have hr := Option.some.inj h
   subst hr
   exact ⟨[(eBool false)], ⟨rfl, rfl, trivial⟩, rfl⟩
  ·refine AW.condN _ rfl hc3 ?_
   refine AW.sK [0, 1] ?_
   refine AW.seq_mid (fun ρ H => ρ = [] ∧ H = [] ∧ slices_Equal_api_Regex_api_Piece__c0 k = some r) ?_ ?_
   ·refine AW.sr ?_
    refine AO.c (Calm.move rfl rfl) ?_
    refine AO.c (Calm.lenL rfl rfl Try.underlying58) ?_
    refine AO.c (Calm.move rfl rfl) ?_
    refine AO.nK [0, 1, 12, 13] ?_
    refine AW.block ?_
    refine AW.wK [0, 1, 12, 13] ?_
    refine AW.loop (fun kq ρ H => ∃ (x4 : Int), ρ = [(0, (.fz 5 (p0.map e82))), (1, (.fz 5 (p1.map e82))), (12, (eI64 (p0.length : Int))), (13, (eI64 x4))] ∧ H = [] ∧ slices_Equal_api_Regex_api_Piece__l1 k p0 p1 kq x4 = some r) k ⟨(0 : Int), rfl, rfl, h⟩ ?_
    rintro kq6 _ _ ⟨x4, rfl, rfl, h⟩
    cases kq6 with
    | zero => rw [slices_Equal_api_Regex_api_Piece__l1.eq_1] at h; cases h
    | succ kq6 =>
    rw [slices_Equal_api_Regex_api_Piece__l1.eq_2] at h
    generalize hrec5 : slices_Equal_api_Regex_api_Piece__l1 k p0 p1 kq6 = rec5 at h
    refine AW.sr ?_
    refine AO.c (x := eBool (decide (x4 < (p0.length : Int)))) (Calm.int rfl rfl rfl rfl) ?_
    refine AO.nK [0, 1, 12, 13, 14] ?_
    refine AW.seq ?_
    rcases of_ite h with ⟨hc7, h⟩ | ⟨hc7, h⟩
    ·refine AW.condP _ rfl hc7 ?_
     refine AW.sK [0, 1, 12, 13] ?_
     refine AW.seq ?_
     refine AW.block ?_
     refine AW.sr ?_
     refine AO.c (Calm.move rfl rfl) ?_
     refine AO.c (Calm.assign rfl rfl) ?_
     refine AO.nK [0, 1, 5, 12, 13] ?_
     refine AW.seq ?_
     refine AW.regQ (by rfl) (by decide +kernel) ?_
     refine AQ.c (Calm.move rfl rfl) ?_
     refine AQ.c (Calm.move rfl rfl) ?_
     obtain ⟨hg8, h⟩ := of_guard h
     refine AQ.c (Calm.idxL (f := e82) rfl rfl rfl hg8 Try.underlying58 sz82) ?_
     refine AQ.c (Calm.loadRp rfl rfl ag82 sz82) ?_
     refine AQ.c (Calm.move rfl rfl) ?_
     refine AQ.c (Calm.move rfl rfl) ?_
     obtain ⟨hg9, h⟩ := of_guard h
     refine AQ.c (Calm.idxL (f := e82) rfl rfl rfl hg9 Try.underlying58 sz82) ?_
     refine AQ.c (Calm.loadRp rfl rfl ag82 sz82) ?_
     refine AQ.c (x := eBool (!(decide ((lget p0 x4) = (lget p1 x4))))) (Calm.neS rfl rfl rfl eg82 (eqk82 (lget p0 x4) (lget p1 x4)) (by decide)) ?_
     refine AQ.nK [0, 1, 12, 13, 24] ?_
     rcases of_ite h with ⟨hc10, h⟩ | ⟨hc10, h⟩
     ·refine AW.condT' _ rfl hc10 ?_
      refine AW.sr ?_
      refine AO.c (Calm.assign rfl rfl) ?_
      refine AO.nK [4] ?_
      refine AW.rK [4] ?_
      have hr := Option.some.inj h
      subst hr
      exact ⟨[(eBool false)], ⟨rfl, rfl, trivial⟩, rfl⟩
     ·refine AW.condF' _ rfl hc10 ?_
      refine AW.sK [0, 1, 12, 13] ?_
      refine AW.reg ?_
      refine AO.c (x := eI64 (w64 (x4 + (1 : Int)))) (Calm.int rfl rfl rfl rfl) ?_
      refine AO.c (Calm.move rfl rfl) ?_
      refine AO.nK [0, 1, 12, 13] ?_
      exact ⟨kq6, Nat.lt_succ_self _, (w64 (x4 + (1 : Int))), rfl, rfl, by rw [hrec5]; exact h⟩
    ·refine AW.condN _ rfl hc7 ?_
     refine AW.eK [] ?_
     exact ⟨rfl, rfl, h⟩
   ·rintro _ _ ⟨rfl, rfl, h⟩
    rw [slices_Equal_api_Regex_api_Piece__c0.eq_1] at h
    refine AW.sr ?_
    refine AO.c (Calm.assign rfl rfl) ?_
    refine AO.nK [4] ?_
    refine AW.rK [4] ?_
    have hr := Option.some.inj h
    subst hr
    exact ⟨[(eBool true)], ⟨rfl, rfl, trivial⟩, rfl⟩
end Go.Avl.T3
/- bosket/rex.Same; printed by avmain.py. -/
namespace Go.Avl.T3
open Go Go.RowKit Go.Proofs Go.Avl
set_option linter.unusedVariables false
set_option maxRecDepth 100000
set_option maxHeartbeats 4000000
attribute [local irreducible] AW AO AQ Spec SpecH Calm

def rex_Same (k : Nat) (p0 : (List S82)) (p1 : (List S82)) : Option Bool :=
  (slices_Equal_api_Regex_api_Piece_ k p0 p1).bind fun t3 =>
  some (t3)
theorem rex_Same_spec {k : Nat} {p0 : (List S82)} {p1 : (List S82)} {r : Bool} (h : rex_Same k p0 p1 = some r) : Spec Try.prog 80 [(.fz 5 (p0.map e82)), (.fz 5 (p1.map e82))] (eBool r) := by
  rw [rex_Same.eq_1] at h
  refine Spec.intro (res := [.tmp 4]) Try.func80 rfl rfl rfl (Nat.le_of_ble_eq_true rfl) ?_
  refine AW.sr ?_
  refine AO.c (Calm.assign rfl rfl) ?_
  refine AO.nK [0, 1] ?_
  refine AW.sr ?_
  refine AO.c (Calm.move rfl rfl) ?_
  refine AO.c (Calm.move rfl rfl) ?_
  obtain ⟨t3, et3, h⟩ := of_bind h
  refine AO.callS [(.fz 5 (p0.map e82)), (.fz 5 (p1.map e82))] (eBool t3) 7 rfl (by decide) ok82 rfl rfl rfl ⟨rfl, rfl, rfl, rfl, trivial⟩ (slices_Equal_api_Regex_api_Piece__spec et3) ?_
  refine AO.c (Calm.assign rfl rfl) ?_
  refine AO.nK [4] ?_
  refine AW.rK [4] ?_
  have hr := Option.some.inj h
  subst hr
  exact ⟨[(eBool t3)], ⟨rfl, rfl, trivial⟩, rfl⟩
end Go.Avl.T3
/- bosket/deriv.alt; printed by avmain.py. -/
namespace Go.Avl.T3
open Go Go.RowKit Go.Proofs Go.Avl
set_option linter.unusedVariables false
set_option maxRecDepth 100000
set_option maxHeartbeats 4000000
attribute [local irreducible] AW AO AQ Spec SpecH Calm

def deriv_alt (k : Nat) (p0 : S62) (p1 : S62) : Option S62 :=
  if p0.f0 = true then some (p1)
  else Option.bind (α := Bool) (if p1.f0 = true then some (true)
  else (rex_Same k p0.f1 p1.f1).bind fun t10 =>
  some (t10)) fun b7 =>
  if b7 = true then some (p0)
  else (rex_Join k (3 : Int) [p0.f1, p1.f1]).bind fun t13 =>
  some ((S62.mk false t13))
theorem deriv_alt_spec {k : Nat} {p0 : S62} {p1 : S62} {r : S62} (h : deriv_alt k p0 p1 = some r) : Spec Try.prog 71 [(e62 p0), (e62 p1)] (e62 r) := by
  rw [deriv_alt.eq_1] at h
  refine Spec.intro (res := [.cell 4 62]) Try.func71 rfl rfl rfl (Nat.le_of_ble_eq_true rfl) ?_
  refine AW.sr ?_
  refine AO.box rfl 2 rfl (by decide) rfl rfl rfl fun n3 => ?_
  refine AO.box rfl 3 rfl (by decide) rfl rfl rfl fun n4 => ?_
  refine AO.alloc rfl 4 rfl (by decide) rfl zr62 lay62 fun n5 => ?_
  refine AO.nH [2, 3, 4] (H' := [(n3, (.mem (e62 p0))), (n4, (.mem (e62 p1))), (n5, (.mem (.st [(1, (eBool false)), (1, (.fl (.slice none 0 0)))])))]) (Sub.cons 2 rfl (Sub.cons 1 rfl (Sub.cons 0 rfl (Sub.nil _)))) ?_
  refine AW.seq ?_
  refine AW.block ?_
  refine AW.sr ?_
  refine AO.c (x := .ptr n3 0) (Calm.fldPtr rfl rfl Try.underlying62 rfl sz4 _ rfl) ?_
  refine AO.c (Calm.load 0 rfl rfl rfl (At.cast (At.fld0 At.here) rfl) ag4 sz4) ?_
  refine AO.c (Calm.assign rfl rfl) ?_
  refine AO.nK [2, 3, 4, 5] ?_
  rcases of_ite h with ⟨hc6, h⟩ | ⟨hc6, h⟩
  ·refine AW.condT' _ rfl hc6 ?_
   refine AW.sr ?_
   refine AO.c (Calm.load 1 rfl rfl rfl (At.cast At.here rfl) ag62 sz62) ?_
   refine AO.store (X' := (e62 p1)) 2 rfl rfl rfl rfl rfl rfl (Put.cast Put.here rfl) rfl rfl sz62 rfl ?_
   refine AO.nH [4] (H' := [(n5, (.mem (e62 p1)))]) (Sub.cons 2 rfl (Sub.nil _)) ?_
   refine AW.rK [4] ?_
   have hr := Option.some.inj h
   subst hr
   exact ⟨[(e62 p1)], ⟨⟨_, 0, rfl, rfl, ag62, sz62⟩, trivial⟩, rfl⟩
  ·refine AW.condF' _ rfl hc6 ?_
   refine AW.seq ?_
   obtain ⟨b7, hq8, h⟩ := of_bind h
   refine AW.regM [(2, (.ptr n3 0)), (3, (.ptr n4 0)), (4, (.ptr n5 0)), (9, (eBool b7))] [(n3, (.mem (e62 p0))), (n4, (.mem (e62 p1))), (n5, (.mem (.st [(1, (eBool false)), (1, (.fl (.slice none 0 0)))])))] ?_ ?_
   ·refine AO.c (x := .ptr n4 0) (Calm.fldPtr rfl rfl Try.underlying62 rfl sz4 _ rfl) ?_
    refine AO.c (Calm.load 1 rfl rfl rfl (At.cast (At.fld0 At.here) rfl) ag4 sz4) ?_
    refine AO.c (Calm.move rfl rfl) ?_
    rcases of_ite hq8 with ⟨hc9, hq8⟩ | ⟨hc9, hq8⟩
    ·refine AO.sF rfl rfl (bD hc9) ?_
     refine AO.sF rfl rfl (bD hc9) ?_
     refine AO.sF rfl rfl (bD hc9) ?_
     refine AO.sF rfl rfl (bD hc9) ?_
     refine AO.sF rfl rfl (bD hc9) ?_
     refine AO.c (Calm.pickT rfl (bD hc9) rfl) ?_
     refine AO.c (Calm.assign rfl rfl) ?_
     cases hq8
     refine AO.nilE ⟨rfl, rfl⟩ ?_ ?_
     · exact ⟨rfl, rfl, rfl, rfl, trivial⟩
     · exact (Sub.refl _)
    ·refine AO.cG (x := .ptr n3 1) rfl rfl (bD (eq_false_of_ne_true hc9)) (Calm.fldPtr rfl rfl Try.underlying62 rfl sz58 _ rfl) ?_
     refine AO.cG rfl rfl (bD (eq_false_of_ne_true hc9)) (Calm.load 0 rfl rfl rfl (At.cast (At.fldS (At.fld0 At.here)) rfl) ag58 sz58) ?_
     refine AO.cG (x := .ptr n4 1) rfl rfl (bD (eq_false_of_ne_true hc9)) (Calm.fldPtr rfl rfl Try.underlying62 rfl sz58 _ rfl) ?_
     refine AO.cG rfl rfl (bD (eq_false_of_ne_true hc9)) (Calm.load 1 rfl rfl rfl (At.cast (At.fldS (At.fld0 At.here)) rfl) ag58 sz58) ?_
     obtain ⟨t10, et10, hq8⟩ := of_bind hq8
     refine AO.callG 2 false 12 [(.fz 5 (p0.f1.map e82)), (.fz 5 (p1.f1.map e82))] (eBool t10) 17 rfl (by decide) ok80 rfl rfl (bD (eq_false_of_ne_true hc9)) rfl rfl ⟨rfl, rfl, rfl, rfl, trivial⟩ (rex_Same_spec et10) ?_
     refine AO.c (Calm.pickF rfl (bD (eq_false_of_ne_true hc9)) rfl) ?_
     refine AO.c (Calm.assign rfl rfl) ?_
     cases hq8
     refine AO.nilE ⟨rfl, rfl⟩ ?_ ?_
     · exact ⟨rfl, rfl, rfl, rfl, trivial⟩
     · exact (Sub.refl _)
   ·rcases of_ite h with ⟨hc11, h⟩ | ⟨hc11, h⟩
    ·refine AW.condT' _ rfl hc11 ?_
     refine AW.sr ?_
     refine AO.c (Calm.load 0 rfl rfl rfl (At.cast At.here rfl) ag62 sz62) ?_
     refine AO.store (X' := (e62 p0)) 2 rfl rfl rfl rfl rfl rfl (Put.cast Put.here rfl) rfl rfl sz62 rfl ?_
     refine AO.nH [4] (H' := [(n5, (.mem (e62 p0)))]) (Sub.cons 2 rfl (Sub.nil _)) ?_
     refine AW.rK [4] ?_
     have hr := Option.some.inj h
     subst hr
     exact ⟨[(e62 p0)], ⟨⟨_, 0, rfl, rfl, ag62, sz62⟩, trivial⟩, rfl⟩
    ·refine AW.condF' _ rfl hc11 ?_
     refine AW.sK [2, 3, 4] ?_
     refine AW.sr ?_
     refine AO.c (x := .ptr n3 1) (Calm.fldPtr rfl rfl Try.underlying62 rfl sz58 _ rfl) ?_
     refine AO.c (Calm.load 0 rfl rfl rfl (At.cast (At.fldS (At.fld0 At.here)) rfl) ag58 sz58) ?_
     refine AO.c (x := .ptr n4 1) (Calm.fldPtr rfl rfl Try.underlying62 rfl sz58 _ rfl) ?_
     refine AO.c (Calm.load 1 rfl rfl rfl (At.cast (At.fldS (At.fld0 At.here)) rfl) ag58 sz58) ?_
     refine AO.lit (Z := (.fl (.slice none 0 0))) (xs := (([p0.f1, p1.f1] : List (List S82)).map e58)) (qs := [(0, (.fz 5 (p0.f1.map e82))), (1, (.fz 5 (p1.f1.map e82)))]) rfl 24 rfl (by decide) rfl ⟨rfl, rfl, rfl, rfl, rfl, rfl, trivial⟩ Try.underlying97 sz58 zr58 lay58 rfl (by decide) (litOK (z := 1) [(.fz 5 (p0.f1.map e82)), (.fz 5 (p1.f1.map e82))] rfl ⟨⟨rfl, rfl⟩, ⟨rfl, rfl⟩, trivial⟩) rfl fun n12 => ?_
     obtain ⟨t13, et13, h⟩ := of_bind h
     refine AO.freezeS 0 [(24, (.fz 1 (([p0.f1, p1.f1] : List (List S82)).map e58)))] rfl ⟨fz_all rfl, trivial⟩ ?_
     refine AO.callS [(eI64 (3 : Int)), (.fz 1 (([p0.f1, p1.f1] : List (List S82)).map e58))] (.fz 5 (t13.map e82)) 25 rfl (by decide) ok72 rfl rfl rfl ⟨rfl, rfl, rfl, rfl, trivial⟩ (rex_Join_spec et13) ?_
     refine AO.c (x := .st [(1, (eBool false)), (1, (.fz 5 (t13.map e82)))]) (Calm.build (qs := [(1, (.fz 5 (t13.map e82)))]) rfl ⟨rfl, rfl, rfl, trivial⟩ Try.underlying62 rfl zr62 lay62 (.cons rfl rfl rfl rfl (Put.cast (Put.fldS (Put.fld0 Put.here)) rfl) .nil) rfl) ?_
     refine AO.store (X' := (e62 (S62.mk false t13))) 2 rfl rfl rfl rfl rfl rfl (Put.cast Put.here rfl) rfl rfl sz62 rfl ?_
     refine AO.nH [4] (H' := [(n5, (.mem (e62 (S62.mk false t13))))]) (Sub.cons 2 rfl (Sub.nil _)) ?_
     refine AW.rK [4] ?_
     have hr := Option.some.inj h
     subst hr
     exact ⟨[(e62 (S62.mk false t13))], ⟨⟨_, 0, rfl, rfl, ag62, sz62⟩, trivial⟩, rfl⟩
end Go.Avl.T3
/- bosket/deriv.derive; printed by avmain.py. -/
namespace Go.Avl.T3
open Go Go.RowKit Go.Proofs Go.Avl
set_option linter.unusedVariables false
set_option maxRecDepth 100000
set_option maxHeartbeats 4000000
set_option linter.unusedSimpArgs false
attribute [local irreducible] AW AO AQ Spec SpecH Calm

def deriv_derive_c0 (k : Nat) : Option S62 :=
  some ((S62.mk true []))
def deriv_derive_c1 (k : Nat) (self : ((List S82) → Int → Option S62)) (p1 : Int) (t6 : (List (List S82))) (b32 : Bool) : Option S62 :=
  if b32 = true then if 0 ≤ (0 : Int) ∧ (0 : Int) < (t6.length : Int) then (self (lget t6 (0 : Int)) p1).bind fun t35 =>
  if 0 ≤ (0 : Int) ∧ (0 : Int) < (t6.length : Int) then (rex_Join k (4 : Int) [(lget t6 (0 : Int))]).bind fun t38 =>
  (deriv_cat k t35 (S62.mk false t38)).bind fun t39 =>
  some (t39)
  else none
  else none
  else deriv_derive_c0 k
def deriv_derive_r (k : Nat) : Nat → (List S82) → Int → Option S62
  | 0, _, _ => none
  | j + 1, p0, p1 =>
    if 0 ≤ (w64 ((p0.length : Int) - (1 : Int))) ∧ (w64 ((p0.length : Int) - (1 : Int))) < (p0.length : Int) then (rex_Parts k p0).bind fun t6 =>
    if ((lget p0 (w64 ((p0.length : Int) - (1 : Int)))).f0) = (1 : Int) then (byteset_Has k ((lget p0 (w64 ((p0.length : Int) - (1 : Int)))).f1) p1).bind fun t8 =>
    if t8 = true then some ((S62.mk false [(S82.mk (0 : Int) (Vector.replicate 4 (0 : Int)))]))
    else deriv_derive_c0 k
    else if ((lget p0 (w64 ((p0.length : Int) - (1 : Int)))).f0) = (2 : Int) then if 0 ≤ (0 : Int) ∧ (0 : Int) < (t6.length : Int) then ((deriv_derive_r k j) (lget t6 (0 : Int)) p1).bind fun t13 =>
    if 0 ≤ (1 : Int) ∧ (1 : Int) < (t6.length : Int) then (deriv_cat k t13 (S62.mk false (lget t6 (1 : Int)))).bind fun t15 =>
    if 0 ≤ (0 : Int) ∧ (0 : Int) < (t6.length : Int) then (deriv_Empty k (lget t6 (0 : Int))).bind fun t18 =>
    if t18 = true then if 0 ≤ (1 : Int) ∧ (1 : Int) < (t6.length : Int) then ((deriv_derive_r k j) (lget t6 (1 : Int)) p1).bind fun t21 =>
    (deriv_alt k t15 t21).bind fun t22 =>
    some (t22)
    else none
    else some (t15)
    else none
    else none
    else none
    else if ((lget p0 (w64 ((p0.length : Int) - (1 : Int)))).f0) = (3 : Int) then if 0 ≤ (0 : Int) ∧ (0 : Int) < (t6.length : Int) then ((deriv_derive_r k j) (lget t6 (0 : Int)) p1).bind fun t25 =>
    if 0 ≤ (1 : Int) ∧ (1 : Int) < (t6.length : Int) then ((deriv_derive_r k j) (lget t6 (1 : Int)) p1).bind fun t27 =>
    (deriv_alt k t25 t27).bind fun t28 =>
    some (t28)
    else none
    else none
    else if ((lget p0 (w64 ((p0.length : Int) - (1 : Int)))).f0) = (6 : Int) then if 0 ≤ (0 : Int) ∧ (0 : Int) < (t6.length : Int) then ((deriv_derive_r k j) (lget t6 (0 : Int)) p1).bind fun t31 =>
    some (t31)
    else none
    else if ((lget p0 (w64 ((p0.length : Int) - (1 : Int)))).f0) = (4 : Int) then deriv_derive_c1 k (deriv_derive_r k j) p1 t6 (decide (((lget p0 (w64 ((p0.length : Int) - (1 : Int)))).f0) = (4 : Int)))
    else deriv_derive_c1 k (deriv_derive_r k j) p1 t6 (decide (((lget p0 (w64 ((p0.length : Int) - (1 : Int)))).f0) = (5 : Int)))
    else none
def deriv_derive (k : Nat) (p0 : (List S82)) (p1 : Int) : Option S62 := deriv_derive_r k k p0 p1
theorem deriv_derive_spec' (k : Nat) : ∀ (j : Nat) (p0 : (List S82)) (p1 : Int) (r : S62), deriv_derive_r k j p0 p1 = some r → Spec Try.prog 58 [(.fz 5 (p0.map e82)), (eU8 p1)] (e62 r) := by
  intro j
  induction j with
  | zero => intro p0 p1 r h; rw [deriv_derive_r.eq_1] at h; cases h
  | succ j hself =>
  intro p0 p1 r h
  rw [deriv_derive_r.eq_2] at h
  generalize hs : deriv_derive_r k j = self at h hself
  refine Spec.intro (res := [.cell 4 62]) Try.func58 rfl rfl rfl (Nat.le_of_ble_eq_true rfl) ?_
  refine AW.sr ?_
  refine AO.alloc rfl 4 rfl (by decide) rfl zr62 lay62 fun n3 => ?_
  refine AO.nK [0, 1, 4] ?_
  refine AW.sr ?_
  refine AO.c (Calm.move rfl rfl) ?_
  refine AO.c (Calm.move rfl rfl) ?_
  refine AO.c (Calm.lenL rfl rfl Try.underlying58) ?_
  refine AO.c (x := eI64 (w64 ((p0.length : Int) - (1 : Int)))) (Calm.int rfl rfl rfl rfl) ?_
  obtain ⟨hg4, h⟩ := of_guard h
  refine AO.c (Calm.idxL (f := e82) rfl rfl rfl hg4 Try.underlying58 sz82) ?_
  refine AO.c (Calm.loadRp rfl rfl ag82 sz82) ?_
  refine AO.alloc rfl 5 rfl (by decide) rfl zr82 lay82 fun n5 => ?_
  refine AO.store (X' := (e82 (lget p0 (w64 ((p0.length : Int) - (1 : Int)))))) 0 rfl rfl rfl rfl rfl rfl (Put.cast Put.here rfl) rfl rfl sz82 rfl ?_
  refine AO.nH [0, 1, 4, 5] (H' := [(n3, (.mem (.st [(1, (eBool false)), (1, (.fl (.slice none 0 0)))]))), (n5, (.mem (e82 (lget p0 (w64 ((p0.length : Int) - (1 : Int)))))))]) (Sub.cons 1 rfl (Sub.cons 0 rfl (Sub.nil _))) ?_
  refine AW.sr ?_
  refine AO.c (Calm.move rfl rfl) ?_
  obtain ⟨t6, et6, h⟩ := of_bind h
  refine AO.callS [(.fz 5 (p0.map e82))] (.fz 1 (t6.map e58)) 15 rfl (by decide) ok69 rfl rfl rfl ⟨rfl, rfl, trivial⟩ (rex_Parts_spec et6) ?_
  refine AO.c (Calm.assign rfl rfl) ?_
  refine AO.nK [1, 4, 5, 6] ?_
  refine AW.seq_mid (fun ρ H => ρ = [(4, (.ptr n3 0))] ∧ H = [(n3, (.mem (.st [(1, (eBool false)), (1, (.fl (.slice none 0 0)))])))] ∧ deriv_derive_c0 k = some r) ?_ ?_
  ·refine AW.sr ?_
   refine AO.c (x := .ptr n5 0) (Calm.fldPtr rfl rfl Try.underlying82 rfl sz3 _ rfl) ?_
   refine AO.c (Calm.load 1 rfl rfl rfl (At.cast (At.fld0 At.here) rfl) ag3 sz3) ?_
   refine AO.nK [1, 4, 5, 6, 17] ?_
   refine AW.block ?_
   refine AW.sr ?_
   refine AO.c (x := eBool (decide (((lget p0 (w64 ((p0.length : Int) - (1 : Int)))).f0) = (1 : Int)))) (Calm.int rfl rfl rfl rfl) ?_
   refine AO.c (Calm.assign rfl rfl) ?_
   refine AO.nK [1, 4, 5, 6, 17, 18] ?_
   rcases of_ite h with ⟨hc7, h⟩ | ⟨hc7, h⟩
   ·refine AW.condP _ rfl hc7 ?_
    refine AW.sr ?_
    refine AO.c (x := .ptr n5 1) (Calm.fldPtr rfl rfl Try.underlying82 rfl sz33 _ rfl) ?_
    refine AO.c (Calm.load 1 rfl rfl rfl (At.cast (At.fldS (At.fld0 At.here)) rfl) ag33 (by rw [sz33]; simp [AV.size])) ?_
    refine AO.c (Calm.move rfl rfl) ?_
    obtain ⟨t8, et8, h⟩ := of_bind h
    refine AO.callS [(.ar 1 (((lget p0 (w64 ((p0.length : Int) - (1 : Int)))).f1).toList.map eU64)), (eU8 p1)] (eBool t8) 23 rfl (by decide) ok46 rfl rfl rfl ⟨rfl, rfl, rfl, rfl, trivial⟩ (byteset_Has_spec et8) ?_
    refine AO.nH [4, 23] (H' := [(n3, (.mem (.st [(1, (eBool false)), (1, (.fl (.slice none 0 0)))])))]) (Sub.cons 0 rfl (Sub.nil _)) ?_
    rcases of_ite h with ⟨hc9, h⟩ | ⟨hc9, h⟩
    ·refine AW.condT' _ rfl hc9 ?_
     refine AW.sr ?_
     refine AO.c (x := .st [(1, (eI64 (0 : Int))), (4, (.ar 1 ((Vector.replicate 4 (0 : Int)).toList.map eU64)))]) (Calm.build (qs := [(0, (eI64 (0 : Int)))]) rfl ⟨rfl, rfl, rfl, trivial⟩ Try.underlying82 rfl zr82 lay82 (.cons rfl rfl rfl rfl (Put.cast (Put.fld0 Put.here) rfl) .nil) rfl) ?_
     refine AO.lit (Z := (.st [(1, (eI64 (0 : Int))), (4, (.ar 1 ((Vector.replicate 4 (0 : Int)).toList.map eU64)))])) (xs := (([(S82.mk (0 : Int) (Vector.replicate 4 (0 : Int)))] : List S82).map e82)) (qs := [(0, (e82 (S82.mk (0 : Int) (Vector.replicate 4 (0 : Int)))))]) rfl 25 rfl (by decide) rfl ⟨rfl, rfl, rfl, trivial⟩ Try.underlying58 sz82 zr82 lay82 rfl (by decide) (litOK (z := 5) [(e82 (S82.mk (0 : Int) (Vector.replicate 4 (0 : Int))))] rfl ⟨⟨rfl, rfl⟩, trivial⟩) rfl fun n10 => ?_
     refine AO.freezeS 0 [(25, (.fz 5 (([(S82.mk (0 : Int) (Vector.replicate 4 (0 : Int)))] : List S82).map e82)))] rfl ⟨fz_all rfl, trivial⟩ ?_
     refine AO.c (x := .st [(1, (eBool false)), (1, (.fz 5 (([(S82.mk (0 : Int) (Vector.replicate 4 (0 : Int)))] : List S82).map e82)))]) (Calm.build (qs := [(1, (.fz 5 (([(S82.mk (0 : Int) (Vector.replicate 4 (0 : Int)))] : List S82).map e82)))]) rfl ⟨rfl, rfl, rfl, trivial⟩ Try.underlying62 rfl zr62 lay62 (.cons rfl rfl rfl rfl (Put.cast (Put.fldS (Put.fld0 Put.here)) rfl) .nil) rfl) ?_
     refine AO.store (X' := (e62 (S62.mk false [(S82.mk (0 : Int) (Vector.replicate 4 (0 : Int)))]))) 0 rfl rfl rfl rfl rfl rfl (Put.cast Put.here rfl) rfl rfl sz62 rfl ?_
     refine AO.nK [4] ?_
     refine AW.rK [4] ?_
     have hr := Option.some.inj h
     subst hr
     exact ⟨[(e62 (S62.mk false [(S82.mk (0 : Int) (Vector.replicate 4 (0 : Int)))]))], ⟨⟨_, 0, rfl, rfl, ag62, sz62⟩, trivial⟩, rfl⟩
    ·refine AW.condF' _ rfl hc9 ?_
     refine AW.sK [4] ?_
     exact ⟨rfl, rfl, h⟩
   ·refine AW.condN _ rfl hc7 ?_
    refine AW.sr ?_
    refine AO.c (x := eBool (decide (((lget p0 (w64 ((p0.length : Int) - (1 : Int)))).f0) = (2 : Int)))) (Calm.int rfl rfl rfl rfl) ?_
    refine AO.c (Calm.assign rfl rfl) ?_
    refine AO.nH [1, 4, 6, 17, 27] (H' := [(n3, (.mem (.st [(1, (eBool false)), (1, (.fl (.slice none 0 0)))])))]) (Sub.cons 0 rfl (Sub.nil _)) ?_
    rcases of_ite h with ⟨hc11, h⟩ | ⟨hc11, h⟩
    ·refine AW.condP _ rfl hc11 ?_
     refine AW.seq ?_
     obtain ⟨hg12, h⟩ := of_guard h
     obtain ⟨t13, et13, h⟩ := of_bind h
     obtain ⟨hg14, h⟩ := of_guard h
     obtain ⟨t15, et15, h⟩ := of_bind h
     refine AW.regEff (by rfl) (by decide +kernel) (fun (σ : Nat → Nat) => ([(.fz 1 (t6.map e58)), (.rp (.fz 5 ((lget t6 (0 : Int)).map e82))), (.fz 5 ((lget t6 (0 : Int)).map e82)), (eU8 p1), (e62 t13), (.fz 1 (t6.map e58)), (.rp (.fz 5 ((lget t6 (1 : Int)).map e82))), (.fz 5 ((lget t6 (1 : Int)).map e82)), (e62 (S62.mk false (lget t6 (1 : Int)))), (e62 t15), (.ptr (σ 10) 0), (.fl undef)] : List AV)) (fun (L : Nat → Bool) (σ : Nat → Nat) => ((n3, (.mem (.st [(1, (eBool false)), (1, (.fl (.slice none 0 0)))]))) :: (bif L 10 then (bif L 11 then (((σ 10), (.mem (e62 t15))) :: []) else (((σ 10), (.mem (.st [(1, (eBool false)), (1, (.fl (.slice none 0 0)))]))) :: [])) else ([])) : Heap)) [(1, (eU8 p1)), (4, (.ptr n3 0)), (6, (.fz 1 (t6.map e58)))] ⟨rfl, rfl, rfl, trivial⟩ (fun _ => rfl) (fun σ => (Sub.refl _)) ⟨?_, ?_, ?_, ?_, ?_, ?_, ?_, ?_, ?_, ?_, ?_, ?_, trivial⟩ (fun σ => [(1, (eU8 p1)), (4, (.ptr n3 0)), (6, (.fz 1 (t6.map e58))), (7, (.ptr (σ 10) 0))]) (fun σ => ((n3, (.mem (.st [(1, (eBool false)), (1, (.fl (.slice none 0 0)))]))) :: ((σ 10), (.mem (e62 t15))) :: [])) (fun σ => ⟨rfl, rfl, rfl, rfl, trivial⟩) (fun σ => Sub.refl _) (fun σ => ?_)
     ·refine StepE.calm (fun _ _ => rfl) fun L σ hc hi hd => ?_
      refine AO.wK [6] ?_
      refine AO.c (Calm.move rfl rfl) ?_
      exact AO.nE (d := 29) rfl ⟨⟨29, _, rfl, rfl, rfl⟩, Sub.refl _⟩
     ·refine StepE.calm (fun _ _ => rfl) fun L σ hc hi hd => ?_
      refine AO.wK [29] ?_
      refine AO.c (Calm.idxL (f := e58) rfl rfl rfl hg12 Try.underlying97 sz58) ?_
      exact AO.nE (d := 30) rfl ⟨⟨30, _, rfl, rfl, rfl⟩, Sub.refl _⟩
     ·refine StepE.calm (fun _ _ => rfl) fun L σ hc hi hd => ?_
      refine AO.wK [30] ?_
      refine AO.c (Calm.loadRp rfl rfl ag58 sz58) ?_
      exact AO.nE (d := 31) rfl ⟨⟨31, _, rfl, rfl, rfl⟩, Sub.refl _⟩
     ·refine StepE.calm (fun _ _ => rfl) fun L σ hc hi hd => ?_
      refine AO.wK [1] ?_
      refine AO.c (Calm.move rfl rfl) ?_
      exact AO.nE (d := 32) rfl ⟨⟨32, _, rfl, rfl, rfl⟩, Sub.refl _⟩
     ·refine StepE.calm (fun _ _ => rfl) fun L σ hc hi hd => ?_
      refine AO.wK [31, 32] ?_
      refine AO.callS [(.fz 5 ((lget t6 (0 : Int)).map e82)), (eU8 p1)] (e62 t13) 33 rfl (by decide) ok58 rfl rfl rfl ⟨rfl, rfl, rfl, rfl, trivial⟩ (hself _ _ _ et13) ?_
      exact AO.nE (d := 33) rfl ⟨⟨33, _, rfl, rfl, rfl⟩, Sub.refl _⟩
     ·refine StepE.calm (fun _ _ => rfl) fun L σ hc hi hd => ?_
      refine AO.wK [6] ?_
      refine AO.c (Calm.move rfl rfl) ?_
      exact AO.nE (d := 34) rfl ⟨⟨34, _, rfl, rfl, rfl⟩, Sub.refl _⟩
     ·refine StepE.calm (fun _ _ => rfl) fun L σ hc hi hd => ?_
      refine AO.wK [34] ?_
      refine AO.c (Calm.idxL (f := e58) rfl rfl rfl hg14 Try.underlying97 sz58) ?_
      exact AO.nE (d := 35) rfl ⟨⟨35, _, rfl, rfl, rfl⟩, Sub.refl _⟩
     ·refine StepE.calm (fun _ _ => rfl) fun L σ hc hi hd => ?_
      refine AO.wK [35] ?_
      refine AO.c (Calm.loadRp rfl rfl ag58 sz58) ?_
      exact AO.nE (d := 36) rfl ⟨⟨36, _, rfl, rfl, rfl⟩, Sub.refl _⟩
     ·refine StepE.calm (fun _ _ => rfl) fun L σ hc hi hd => ?_
      refine AO.wK [36] ?_
      refine AO.c (x := .st [(1, (eBool false)), (1, (.fz 5 ((lget t6 (1 : Int)).map e82)))]) (Calm.build (qs := [(1, (.fz 5 ((lget t6 (1 : Int)).map e82)))]) rfl ⟨rfl, rfl, rfl, trivial⟩ Try.underlying62 rfl zr62 lay62 (.cons rfl rfl rfl rfl (Put.cast (Put.fldS (Put.fld0 Put.here)) rfl) .nil) rfl) ?_
      exact AO.nE (d := 37) rfl ⟨⟨37, _, rfl, rfl, rfl⟩, Sub.refl _⟩
     ·refine StepE.calm (fun _ _ => rfl) fun L σ hc hi hd => ?_
      refine AO.wK [33, 37] ?_
      refine AO.callS [(e62 t13), (e62 (S62.mk false (lget t6 (1 : Int))))] (e62 t15) 38 rfl (by decide) ok70 rfl rfl rfl ⟨rfl, rfl, rfl, rfl, trivial⟩ (deriv_cat_spec et15) ?_
      exact AO.nE (d := 38) rfl ⟨⟨38, _, rfl, rfl, rfl⟩, Sub.refl _⟩
     ·intro L σ hc hi hd
      have m11 : L 11 = false := hc.neg (i := 10) (j := 11) rfl (by rfl) hi
      refine AO.heq (H' := ((n3, (.mem (.st [(1, (eBool false)), (1, (.fl (.slice none 0 0)))]))) :: [])) (by first | rfl | simp only [hi, m11, cond_true, cond_false]) ?_
      refine AO.wK [] ?_
      refine AO.alloc rfl 7 rfl (by decide) rfl zr62 lay62 fun n16 => ?_
      have a10 : addL L 10 10 = true := rfl
      have a11 : addL L 10 11 = false := m11
      have u10 : upd σ 10 n16 10 = n16 := rfl
      exact AO.nE (d := 7) rfl ⟨(upd σ 10 n16), (fun j hj => match j, hj with | 0, _ => rfl | 1, _ => rfl | 2, _ => rfl | 3, _ => rfl | 4, _ => rfl | 5, _ => rfl | 6, _ => rfl | 7, _ => rfl | 8, _ => rfl | 9, _ => rfl | 10, hj => Bool.noConfusion (hj.symm.trans hi) | 11, _ => rfl | _ + 12, _ => rfl), (fun d' hd' => ⟨_, rfl, by cases hd'; rfl⟩), Sub.of_eq (B := ((n3, (.mem (.st [(1, (eBool false)), (1, (.fl (.slice none 0 0)))]))) :: (n16, (.mem (.st [(1, (eBool false)), (1, (.fl (.slice none 0 0)))]))) :: [])) (by simp only [a10, a11, u10, cond_true, cond_false]) (Sub.cons 1 rfl (Sub.cons 0 rfl (Sub.refl _)))⟩
     ·intro L σ hc hi hd
      have y10 : L 10 = true := on_get hd (i := 10) (by rfl)
      refine AO.heq (H' := ((n3, (.mem (.st [(1, (eBool false)), (1, (.fl (.slice none 0 0)))]))) :: ((σ 10), (.mem (.st [(1, (eBool false)), (1, (.fl (.slice none 0 0)))]))) :: [])) (by first | rfl | simp only [hi, y10, cond_true, cond_false]) ?_
      refine AO.wK [7, 38] ?_
      refine AO.store (X' := (e62 t15)) 1 rfl rfl rfl rfl rfl rfl (Put.cast Put.here rfl) rfl rfl sz62 rfl ?_
      have a10 : addL L 11 10 = true := y10
      have a11 : addL L 11 11 = true := rfl
      exact AO.n0 ⟨σ, (fun _ _ => rfl), (fun d' hd' => by cases hd'), Sub.of_eq (B := ((n3, (.mem (.st [(1, (eBool false)), (1, (.fl (.slice none 0 0)))]))) :: ((σ 10), (.mem (e62 t15))) :: [])) (by simp only [a10, a11, cond_true, cond_false]) (Sub.refl _)⟩
     ·generalize σ 10 = n16
      refine AO.nK [1, 4, 6, 7] ?_
      refine AW.seq ?_
      refine AW.sr ?_
      refine AO.c (Calm.move rfl rfl) ?_
      obtain ⟨hg17, h⟩ := of_guard h
      refine AO.c (Calm.idxL (f := e58) rfl rfl rfl hg17 Try.underlying97 sz58) ?_
      refine AO.c (Calm.loadRp rfl rfl ag58 sz58) ?_
      obtain ⟨t18, et18, h⟩ := of_bind h
      refine AO.callS [(.fz 5 ((lget t6 (0 : Int)).map e82))] (eBool t18) 42 rfl (by decide) ok41 rfl rfl rfl ⟨rfl, rfl, trivial⟩ (deriv_Empty_spec et18) ?_
      refine AO.nK [1, 4, 6, 7, 42] ?_
      rcases of_ite h with ⟨hc19, h⟩ | ⟨hc19, h⟩
      ·refine AW.condT' _ rfl hc19 ?_
       refine AW.seq ?_
       obtain ⟨hg20, h⟩ := of_guard h
       obtain ⟨t21, et21, h⟩ := of_bind h
       obtain ⟨t22, et22, h⟩ := of_bind h
       refine AW.regAnyL rfl rfl (by rfl) (by decide +kernel) (by decide +kernel) [(e62 t15), (.fz 1 (t6.map e58)), (.rp (.fz 5 ((lget t6 (1 : Int)).map e82))), (.fz 5 ((lget t6 (1 : Int)).map e82)), (eU8 p1), (e62 t21), (e62 t22)] [(1, (eU8 p1)), (4, (.ptr n3 0)), (6, (.fz 1 (t6.map e58))), (7, (.ptr n16 0))] ⟨rfl, rfl, rfl, rfl, trivial⟩ rfl ?_ [(4, (.ptr n3 0)), (49, (e62 t22))] ⟨rfl, rfl, trivial⟩ ?_
       ·refine ⟨?_, ?_, ?_, ?_, ?_, ?_, ?_, trivial⟩
        ·refine AO.wK [7] ?_
         refine AO.c (Calm.load 1 rfl rfl rfl (At.cast At.here rfl) ag62 sz62) ?_
         exact AO.nE (d := 43) rfl ⟨⟨_, rfl, rfl⟩, Sub.refl _⟩
        ·refine AO.wK [6] ?_
         refine AO.c (Calm.move rfl rfl) ?_
         exact AO.nE (d := 44) rfl ⟨⟨_, rfl, rfl⟩, Sub.refl _⟩
        ·refine AO.wK [44] ?_
         refine AO.c (Calm.idxL (f := e58) rfl rfl rfl hg20 Try.underlying97 sz58) ?_
         exact AO.nE (d := 45) rfl ⟨⟨_, rfl, rfl⟩, Sub.refl _⟩
        ·refine AO.wK [45] ?_
         refine AO.c (Calm.loadRp rfl rfl ag58 sz58) ?_
         exact AO.nE (d := 46) rfl ⟨⟨_, rfl, rfl⟩, Sub.refl _⟩
        ·refine AO.wK [1] ?_
         refine AO.c (Calm.move rfl rfl) ?_
         exact AO.nE (d := 47) rfl ⟨⟨_, rfl, rfl⟩, Sub.refl _⟩
        ·refine AO.wK [46, 47] ?_
         refine AO.callS [(.fz 5 ((lget t6 (1 : Int)).map e82)), (eU8 p1)] (e62 t21) 48 rfl (by decide) ok58 rfl rfl rfl ⟨rfl, rfl, rfl, rfl, trivial⟩ (hself _ _ _ et21) ?_
         exact AO.nE (d := 48) rfl ⟨⟨_, rfl, rfl⟩, Sub.refl _⟩
        ·refine AO.wK [43, 48] ?_
         refine AO.callS [(e62 t15), (e62 t21)] (e62 t22) 49 rfl (by decide) ok71 rfl rfl rfl ⟨rfl, rfl, rfl, rfl, trivial⟩ (deriv_alt_spec et22) ?_
         exact AO.nE (d := 49) rfl ⟨⟨_, rfl, rfl⟩, Sub.refl _⟩
       ·refine AO.store (X' := (e62 t22)) 0 rfl rfl rfl rfl rfl rfl (Put.cast Put.here rfl) rfl rfl sz62 rfl ?_
        refine AO.nH [4] (H' := [(n3, (.mem (e62 t22)))]) (Sub.cons 0 rfl (Sub.nil _)) ?_
        refine AW.rK [4] ?_
        have hr := Option.some.inj h
        subst hr
        exact ⟨[(e62 t22)], ⟨⟨_, 0, rfl, rfl, ag62, sz62⟩, trivial⟩, rfl⟩
      ·refine AW.condF' _ rfl hc19 ?_
       refine AW.sK [4, 7] ?_
       refine AW.sr ?_
       refine AO.c (Calm.load 1 rfl rfl rfl (At.cast At.here rfl) ag62 sz62) ?_
       refine AO.store (X' := (e62 t15)) 0 rfl rfl rfl rfl rfl rfl (Put.cast Put.here rfl) rfl rfl sz62 rfl ?_
       refine AO.nH [4] (H' := [(n3, (.mem (e62 t15)))]) (Sub.cons 0 rfl (Sub.nil _)) ?_
       refine AW.rK [4] ?_
       have hr := Option.some.inj h
       subst hr
       exact ⟨[(e62 t15)], ⟨⟨_, 0, rfl, rfl, ag62, sz62⟩, trivial⟩, rfl⟩
    ·refine AW.condN _ rfl hc11 ?_
     refine AW.sr ?_
     refine AO.c (x := eBool (decide (((lget p0 (w64 ((p0.length : Int) - (1 : Int)))).f0) = (3 : Int)))) (Calm.int rfl rfl rfl rfl) ?_
     refine AO.c (Calm.assign rfl rfl) ?_
     refine AO.nK [1, 4, 6, 17, 51] ?_
     rcases of_ite h with ⟨hc23, h⟩ | ⟨hc23, h⟩
     ·refine AW.condP _ rfl hc23 ?_
      refine AW.seq ?_
      obtain ⟨hg24, h⟩ := of_guard h
      obtain ⟨t25, et25, h⟩ := of_bind h
      obtain ⟨hg26, h⟩ := of_guard h
      obtain ⟨t27, et27, h⟩ := of_bind h
      obtain ⟨t28, et28, h⟩ := of_bind h
      refine AW.regAnyL rfl rfl (by rfl) (by decide +kernel) (by decide +kernel) [(.fz 1 (t6.map e58)), (.rp (.fz 5 ((lget t6 (0 : Int)).map e82))), (.fz 5 ((lget t6 (0 : Int)).map e82)), (eU8 p1), (e62 t25), (.fz 1 (t6.map e58)), (.rp (.fz 5 ((lget t6 (1 : Int)).map e82))), (.fz 5 ((lget t6 (1 : Int)).map e82)), (eU8 p1), (e62 t27), (e62 t28)] [(1, (eU8 p1)), (4, (.ptr n3 0)), (6, (.fz 1 (t6.map e58)))] ⟨rfl, rfl, rfl, trivial⟩ rfl ?_ [(4, (.ptr n3 0)), (63, (e62 t28))] ⟨rfl, rfl, trivial⟩ ?_
      ·refine ⟨?_, ?_, ?_, ?_, ?_, ?_, ?_, ?_, ?_, ?_, ?_, trivial⟩
       ·refine AO.wK [6] ?_
        refine AO.c (Calm.move rfl rfl) ?_
        exact AO.nE (d := 53) rfl ⟨⟨_, rfl, rfl⟩, Sub.refl _⟩
       ·refine AO.wK [53] ?_
        refine AO.c (Calm.idxL (f := e58) rfl rfl rfl hg24 Try.underlying97 sz58) ?_
        exact AO.nE (d := 54) rfl ⟨⟨_, rfl, rfl⟩, Sub.refl _⟩
       ·refine AO.wK [54] ?_
        refine AO.c (Calm.loadRp rfl rfl ag58 sz58) ?_
        exact AO.nE (d := 55) rfl ⟨⟨_, rfl, rfl⟩, Sub.refl _⟩
       ·refine AO.wK [1] ?_
        refine AO.c (Calm.move rfl rfl) ?_
        exact AO.nE (d := 56) rfl ⟨⟨_, rfl, rfl⟩, Sub.refl _⟩
       ·refine AO.wK [55, 56] ?_
        refine AO.callS [(.fz 5 ((lget t6 (0 : Int)).map e82)), (eU8 p1)] (e62 t25) 57 rfl (by decide) ok58 rfl rfl rfl ⟨rfl, rfl, rfl, rfl, trivial⟩ (hself _ _ _ et25) ?_
        exact AO.nE (d := 57) rfl ⟨⟨_, rfl, rfl⟩, Sub.refl _⟩
       ·refine AO.wK [6] ?_
        refine AO.c (Calm.move rfl rfl) ?_
        exact AO.nE (d := 58) rfl ⟨⟨_, rfl, rfl⟩, Sub.refl _⟩
       ·refine AO.wK [58] ?_
        refine AO.c (Calm.idxL (f := e58) rfl rfl rfl hg26 Try.underlying97 sz58) ?_
        exact AO.nE (d := 59) rfl ⟨⟨_, rfl, rfl⟩, Sub.refl _⟩
       ·refine AO.wK [59] ?_
        refine AO.c (Calm.loadRp rfl rfl ag58 sz58) ?_
        exact AO.nE (d := 60) rfl ⟨⟨_, rfl, rfl⟩, Sub.refl _⟩
       ·refine AO.wK [1] ?_
        refine AO.c (Calm.move rfl rfl) ?_
        exact AO.nE (d := 61) rfl ⟨⟨_, rfl, rfl⟩, Sub.refl _⟩
       ·refine AO.wK [60, 61] ?_
        refine AO.callS [(.fz 5 ((lget t6 (1 : Int)).map e82)), (eU8 p1)] (e62 t27) 62 rfl (by decide) ok58 rfl rfl rfl ⟨rfl, rfl, rfl, rfl, trivial⟩ (hself _ _ _ et27) ?_
        exact AO.nE (d := 62) rfl ⟨⟨_, rfl, rfl⟩, Sub.refl _⟩
       ·refine AO.wK [57, 62] ?_
        refine AO.callS [(e62 t25), (e62 t27)] (e62 t28) 63 rfl (by decide) ok71 rfl rfl rfl ⟨rfl, rfl, rfl, rfl, trivial⟩ (deriv_alt_spec et28) ?_
        exact AO.nE (d := 63) rfl ⟨⟨_, rfl, rfl⟩, Sub.refl _⟩
      ·refine AO.store (X' := (e62 t28)) 0 rfl rfl rfl rfl rfl rfl (Put.cast Put.here rfl) rfl rfl sz62 rfl ?_
       refine AO.nK [4] ?_
       refine AW.rK [4] ?_
       have hr := Option.some.inj h
       subst hr
       exact ⟨[(e62 t28)], ⟨⟨_, 0, rfl, rfl, ag62, sz62⟩, trivial⟩, rfl⟩
     ·refine AW.condN _ rfl hc23 ?_
      refine AW.sr ?_
      refine AO.c (x := eBool (decide (((lget p0 (w64 ((p0.length : Int) - (1 : Int)))).f0) = (6 : Int)))) (Calm.int rfl rfl rfl rfl) ?_
      refine AO.c (Calm.assign rfl rfl) ?_
      refine AO.nK [1, 4, 6, 17, 64] ?_
      rcases of_ite h with ⟨hc29, h⟩ | ⟨hc29, h⟩
      ·refine AW.condP _ rfl hc29 ?_
       refine AW.sr ?_
       refine AO.c (Calm.move rfl rfl) ?_
       obtain ⟨hg30, h⟩ := of_guard h
       refine AO.c (Calm.idxL (f := e58) rfl rfl rfl hg30 Try.underlying97 sz58) ?_
       refine AO.c (Calm.loadRp rfl rfl ag58 sz58) ?_
       refine AO.c (Calm.move rfl rfl) ?_
       obtain ⟨t31, et31, h⟩ := of_bind h
       refine AO.callS [(.fz 5 ((lget t6 (0 : Int)).map e82)), (eU8 p1)] (e62 t31) 70 rfl (by decide) ok58 rfl rfl rfl ⟨rfl, rfl, rfl, rfl, trivial⟩ (hself _ _ _ et31) ?_
       refine AO.store (X' := (e62 t31)) 0 rfl rfl rfl rfl rfl rfl (Put.cast Put.here rfl) rfl rfl sz62 rfl ?_
       refine AO.nK [4] ?_
       refine AW.rK [4] ?_
       have hr := Option.some.inj h
       subst hr
       exact ⟨[(e62 t31)], ⟨⟨_, 0, rfl, rfl, ag62, sz62⟩, trivial⟩, rfl⟩
      ·refine AW.condN _ rfl hc29 ?_
       refine AW.seq_mid (fun ρ H => ∃ (b32 : Bool), ρ = [(1, (eU8 p1)), (4, (.ptr n3 0)), (6, (.fz 1 (t6.map e58))), (71, (eBool b32))] ∧ H = [(n3, (.mem (.st [(1, (eBool false)), (1, (.fl (.slice none 0 0)))])))] ∧ deriv_derive_c1 k self p1 t6 b32 = some r) ?_ ?_
       ·refine AW.sr ?_
        refine AO.c (x := eBool (decide (((lget p0 (w64 ((p0.length : Int) - (1 : Int)))).f0) = (4 : Int)))) (Calm.int rfl rfl rfl rfl) ?_
        refine AO.c (Calm.assign rfl rfl) ?_
        refine AO.nK [1, 4, 6, 17, 71] ?_
        rcases of_ite h with ⟨hc40, h⟩ | ⟨hc40, h⟩
        ·refine AW.condP _ rfl hc40 ?_
         refine AW.sK [1, 4, 6, 71] ?_
         exact ⟨decide (((lget p0 (w64 ((p0.length : Int) - (1 : Int)))).f0) = (4 : Int)), rfl, rfl, h⟩
        ·refine AW.condN _ rfl hc40 ?_
         refine AW.reg ?_
         refine AO.c (x := eBool (decide (((lget p0 (w64 ((p0.length : Int) - (1 : Int)))).f0) = (5 : Int)))) (Calm.int rfl rfl rfl rfl) ?_
         refine AO.c (Calm.assign rfl rfl) ?_
         refine AO.nK [1, 4, 6, 71] ?_
         exact ⟨decide (((lget p0 (w64 ((p0.length : Int) - (1 : Int)))).f0) = (5 : Int)), rfl, rfl, h⟩
       ·rintro _ _ ⟨b32, rfl, rfl, h⟩
        rw [deriv_derive_c1.eq_1] at h
        rcases of_ite h with ⟨hc33, h⟩ | ⟨hc33, h⟩
        ·refine AW.condT' _ rfl hc33 ?_
         refine AW.seq ?_
         obtain ⟨hg34, h⟩ := of_guard h
         obtain ⟨t35, et35, h⟩ := of_bind h
         obtain ⟨hg36, h⟩ := of_guard h
         obtain ⟨t38, et38, h⟩ := of_bind h
         obtain ⟨t39, et39, h⟩ := of_bind h
         refine AW.regAnyL rfl rfl (by rfl) (by decide +kernel) (by decide +kernel) [(.fz 1 (t6.map e58)), (.rp (.fz 5 ((lget t6 (0 : Int)).map e82))), (.fz 5 ((lget t6 (0 : Int)).map e82)), (eU8 p1), (e62 t35), (.fz 1 (t6.map e58)), (.rp (.fz 5 ((lget t6 (0 : Int)).map e82))), (.fz 5 ((lget t6 (0 : Int)).map e82)), (.fz 1 (([(lget t6 (0 : Int))] : List (List S82)).map e58)), (.fz 5 (t38.map e82)), (e62 (S62.mk false t38)), (e62 t39)] [(1, (eU8 p1)), (4, (.ptr n3 0)), (6, (.fz 1 (t6.map e58)))] ⟨rfl, rfl, rfl, trivial⟩ rfl ?_ [(4, (.ptr n3 0)), (85, (e62 t39))] ⟨rfl, rfl, trivial⟩ ?_
         ·refine ⟨?_, ?_, ?_, ?_, ?_, ?_, ?_, ?_, ?_, ?_, ?_, ?_, trivial⟩
          ·refine AO.wK [6] ?_
           refine AO.c (Calm.move rfl rfl) ?_
           exact AO.nE (d := 74) rfl ⟨⟨_, rfl, rfl⟩, Sub.refl _⟩
          ·refine AO.wK [74] ?_
           refine AO.c (Calm.idxL (f := e58) rfl rfl rfl hg34 Try.underlying97 sz58) ?_
           exact AO.nE (d := 75) rfl ⟨⟨_, rfl, rfl⟩, Sub.refl _⟩
          ·refine AO.wK [75] ?_
           refine AO.c (Calm.loadRp rfl rfl ag58 sz58) ?_
           exact AO.nE (d := 76) rfl ⟨⟨_, rfl, rfl⟩, Sub.refl _⟩
          ·refine AO.wK [1] ?_
           refine AO.c (Calm.move rfl rfl) ?_
           exact AO.nE (d := 77) rfl ⟨⟨_, rfl, rfl⟩, Sub.refl _⟩
          ·refine AO.wK [76, 77] ?_
           refine AO.callS [(.fz 5 ((lget t6 (0 : Int)).map e82)), (eU8 p1)] (e62 t35) 78 rfl (by decide) ok58 rfl rfl rfl ⟨rfl, rfl, rfl, rfl, trivial⟩ (hself _ _ _ et35) ?_
           exact AO.nE (d := 78) rfl ⟨⟨_, rfl, rfl⟩, Sub.refl _⟩
          ·refine AO.wK [6] ?_
           refine AO.c (Calm.move rfl rfl) ?_
           exact AO.nE (d := 79) rfl ⟨⟨_, rfl, rfl⟩, Sub.refl _⟩
          ·refine AO.wK [79] ?_
           refine AO.c (Calm.idxL (f := e58) rfl rfl rfl hg36 Try.underlying97 sz58) ?_
           exact AO.nE (d := 80) rfl ⟨⟨_, rfl, rfl⟩, Sub.refl _⟩
          ·refine AO.wK [80] ?_
           refine AO.c (Calm.loadRp rfl rfl ag58 sz58) ?_
           exact AO.nE (d := 81) rfl ⟨⟨_, rfl, rfl⟩, Sub.refl _⟩
          ·refine AO.wK [81] ?_
           refine AO.lit (Z := (.fl (.slice none 0 0))) (xs := (([(lget t6 (0 : Int))] : List (List S82)).map e58)) (qs := [(0, (.fz 5 ((lget t6 (0 : Int)).map e82)))]) rfl 82 rfl (by decide) rfl ⟨rfl, rfl, rfl, trivial⟩ Try.underlying97 sz58 zr58 lay58 rfl (by decide) (litOK (z := 1) [(.fz 5 ((lget t6 (0 : Int)).map e82))] rfl ⟨⟨rfl, rfl⟩, trivial⟩) rfl fun n37 => ?_
           refine AO.freezeS 0 [(82, (.fz 1 (([(lget t6 (0 : Int))] : List (List S82)).map e58)))] rfl ⟨fz_all rfl, trivial⟩ ?_
           exact AO.nE (d := 82) rfl ⟨⟨_, rfl, rfl⟩, Sub.refl _⟩
          ·refine AO.wK [82] ?_
           refine AO.callS [(eI64 (4 : Int)), (.fz 1 (([(lget t6 (0 : Int))] : List (List S82)).map e58))] (.fz 5 (t38.map e82)) 83 rfl (by decide) ok72 rfl rfl rfl ⟨rfl, rfl, rfl, rfl, trivial⟩ (rex_Join_spec et38) ?_
           exact AO.nE (d := 83) rfl ⟨⟨_, rfl, rfl⟩, Sub.refl _⟩
          ·refine AO.wK [83] ?_
           refine AO.c (x := .st [(1, (eBool false)), (1, (.fz 5 (t38.map e82)))]) (Calm.build (qs := [(1, (.fz 5 (t38.map e82)))]) rfl ⟨rfl, rfl, rfl, trivial⟩ Try.underlying62 rfl zr62 lay62 (.cons rfl rfl rfl rfl (Put.cast (Put.fldS (Put.fld0 Put.here)) rfl) .nil) rfl) ?_
           exact AO.nE (d := 84) rfl ⟨⟨_, rfl, rfl⟩, Sub.refl _⟩
          ·refine AO.wK [78, 84] ?_
           refine AO.callS [(e62 t35), (e62 (S62.mk false t38))] (e62 t39) 85 rfl (by decide) ok70 rfl rfl rfl ⟨rfl, rfl, rfl, rfl, trivial⟩ (deriv_cat_spec et39) ?_
           exact AO.nE (d := 85) rfl ⟨⟨_, rfl, rfl⟩, Sub.refl _⟩
         ·refine AO.store (X' := (e62 t39)) 0 rfl rfl rfl rfl rfl rfl (Put.cast Put.here rfl) rfl rfl sz62 rfl ?_
          refine AO.nK [4] ?_
          refine AW.rK [4] ?_
          have hr := Option.some.inj h
          subst hr
          exact ⟨[(e62 t39)], ⟨⟨_, 0, rfl, rfl, ag62, sz62⟩, trivial⟩, rfl⟩
        ·refine AW.condF' _ rfl hc33 ?_
         refine AW.sK [4] ?_
         exact ⟨rfl, rfl, h⟩
  ·rintro _ _ ⟨rfl, rfl, h⟩
   rw [deriv_derive_c0.eq_1] at h
   refine AW.sr ?_
   refine AO.c (x := .st [(1, (eBool true)), (1, (.fl (.slice none 0 0)))]) (Calm.build (qs := [(0, (eBool true))]) rfl ⟨rfl, rfl, rfl, trivial⟩ Try.underlying62 rfl zr62 lay62 (.cons rfl rfl rfl rfl (Put.cast (Put.fld0 Put.here) rfl) .nil) rfl) ?_
   refine AO.coeC 86 (y' := (e62 (S62.mk true []))) rfl (Coe.st Coe.refl (Coe.st Coe.nil Coe.refl)) ?_
   refine AO.store (X' := (e62 (S62.mk true []))) 0 rfl rfl rfl rfl rfl rfl (Put.cast Put.here rfl) rfl rfl sz62 rfl ?_
   refine AO.nK [4] ?_
   refine AW.rK [4] ?_
   have hr := Option.some.inj h
   subst hr
   exact ⟨[(e62 (S62.mk true []))], ⟨⟨_, 0, rfl, rfl, ag62, sz62⟩, trivial⟩, rfl⟩
theorem deriv_derive_spec {k : Nat} {p0 : (List S82)} {p1 : Int} {r : S62} (h : deriv_derive k p0 p1 = some r) : Spec Try.prog 58 [(.fz 5 (p0.map e82)), (eU8 p1)] (e62 r) := deriv_derive_spec' k k p0 p1 r h
end Go.Avl.T3
/- bosket/deriv.By; printed by avmain.py. -/
namespace Go.Avl.T3
open Go Go.RowKit Go.Proofs Go.Avl
set_option linter.unusedVariables false
set_option maxRecDepth 100000
set_option maxHeartbeats 4000000
attribute [local irreducible] AW AO AQ Spec SpecH Calm

def deriv_By (k : Nat) (p0 : (List S82)) (p1 : Int) : Option S62 :=
  (rex_Check k p0).bind fun t4 =>
  if t4 ≠ (0 : Int) then some ((S62.mk true []))
  else (deriv_derive k p0 p1).bind fun t6 =>
  some (t6)
theorem deriv_By_spec {k : Nat} {p0 : (List S82)} {p1 : Int} {r : S62} (h : deriv_By k p0 p1 = some r) : Spec Try.prog 43 [(.fz 5 (p0.map e82)), (eU8 p1)] (e62 r) := by
  rw [deriv_By.eq_1] at h
  refine Spec.intro (res := [.cell 4 62]) Try.func43 rfl rfl rfl (Nat.le_of_ble_eq_true rfl) ?_
  refine AW.sr ?_
  refine AO.alloc rfl 4 rfl (by decide) rfl zr62 lay62 fun n3 => ?_
  refine AO.nK [0, 1, 4] ?_
  refine AW.seq ?_
  refine AW.sr ?_
  refine AO.c (Calm.move rfl rfl) ?_
  obtain ⟨t4, et4, h⟩ := of_bind h
  refine AO.callS [(.fz 5 (p0.map e82))] (eI64 t4) 6 rfl (by decide) ok57 rfl rfl rfl ⟨rfl, rfl, trivial⟩ (rex_Check_spec et4) ?_
  refine AO.c (x := eBool (decide (t4 ≠ (0 : Int)))) (Calm.int rfl rfl rfl rfl) ?_
  refine AO.nK [0, 1, 4, 7] ?_
  rcases of_ite h with ⟨hc5, h⟩ | ⟨hc5, h⟩
  ·refine AW.condP _ rfl hc5 ?_
   refine AW.sr ?_
   refine AO.c (x := .st [(1, (eBool true)), (1, (.fl (.slice none 0 0)))]) (Calm.build (qs := [(0, (eBool true))]) rfl ⟨rfl, rfl, rfl, trivial⟩ Try.underlying62 rfl zr62 lay62 (.cons rfl rfl rfl rfl (Put.cast (Put.fld0 Put.here) rfl) .nil) rfl) ?_
   refine AO.coeC 8 (y' := (e62 (S62.mk true []))) rfl (Coe.st Coe.refl (Coe.st Coe.nil Coe.refl)) ?_
   refine AO.store (X' := (e62 (S62.mk true []))) 0 rfl rfl rfl rfl rfl rfl (Put.cast Put.here rfl) rfl rfl sz62 rfl ?_
   refine AO.nK [4] ?_
   refine AW.rK [4] ?_
   have hr := Option.some.inj h
   subst hr
   exact ⟨[(e62 (S62.mk true []))], ⟨⟨_, 0, rfl, rfl, ag62, sz62⟩, trivial⟩, rfl⟩
  ·refine AW.condN _ rfl hc5 ?_
   refine AW.sK [0, 1, 4] ?_
   refine AW.sr ?_
   refine AO.c (Calm.move rfl rfl) ?_
   refine AO.c (Calm.move rfl rfl) ?_
   obtain ⟨t6, et6, h⟩ := of_bind h
   refine AO.callS [(.fz 5 (p0.map e82)), (eU8 p1)] (e62 t6) 11 rfl (by decide) ok58 rfl rfl rfl ⟨rfl, rfl, rfl, rfl, trivial⟩ (deriv_derive_spec et6) ?_
   refine AO.store (X' := (e62 t6)) 0 rfl rfl rfl rfl rfl rfl (Put.cast Put.here rfl) rfl rfl sz62 rfl ?_
   refine AO.nK [4] ?_
   refine AW.rK [4] ?_
   have hr := Option.some.inj h
   subst hr
   exact ⟨[(e62 t6)], ⟨⟨_, 0, rfl, rfl, ag62, sz62⟩, trivial⟩, rfl⟩
end Go.Avl.T3
/- bosket/bosketref04.or; printed by avmain.py. -/
namespace Go.Avl.T3
open Go Go.RowKit Go.Proofs Go.Avl
set_option linter.unusedVariables false
set_option maxRecDepth 100000
set_option maxHeartbeats 4000000
attribute [local irreducible] AW AO AQ Spec SpecH Calm

def bosketref04_or_c0 (k : Nat) (x4 : (List Bool)) : Option (List Bool) :=
  some (x4)
def bosketref04_or_c1 (k : Nat) (rec8 : ((List Bool) → Int → Option (List Bool))) (x7 : Int) (x12 : (List Bool)) : Option (List Bool) :=
  rec8 x12 (w64 (x7 + (1 : Int)))
def bosketref04_or_l2 (k : Nat) (p0 : (List Bool)) (p1 : (List Bool)) : Nat → (List Bool) → Int → Option (List Bool)
  | 0, _, _ => none
  | j + 1, x6, x7 =>
    if x7 < (p0.length : Int) then if 0 ≤ x7 ∧ x7 < (p0.length : Int) then if (lget p0 x7) = true then if (x6 ++ ([true] : List Bool)).length * 1 ≤ 140737488355328 then bosketref04_or_c1 k (bosketref04_or_l2 k p0 p1 j) x7 (x6 ++ ([true] : List Bool))
    else none
    else if 0 ≤ x7 ∧ x7 < (p1.length : Int) then if (x6 ++ ([(lget p1 x7)] : List Bool)).length * 1 ≤ 140737488355328 then bosketref04_or_c1 k (bosketref04_or_l2 k p0 p1 j) x7 (x6 ++ ([(lget p1 x7)] : List Bool))
    else none
    else none
    else none
    else bosketref04_or_c0 k x6
def bosketref04_or (k : Nat) (p0 : (List Bool)) (p1 : (List Bool)) : Option (List Bool) :=
  bosketref04_or_l2 k p0 p1 k ([] : List Bool) (0 : Int)
theorem bosketref04_or_spec {k : Nat} {p0 : (List Bool)} {p1 : (List Bool)} {r : (List Bool)} (h : bosketref04_or k p0 p1 = some r) : Spec Try.prog 73 [(.fz 1 (p0.map eBool)), (.fz 1 (p1.map eBool))] (e25 r) := by
  rw [bosketref04_or.eq_1] at h
  refine Spec.intro (res := [.tmp 4]) Try.func73 rfl rfl rfl (Nat.le_of_ble_eq_true rfl) ?_
  refine AW.sr ?_
  refine AO.c (Calm.assign rfl rfl) ?_
  refine AO.nK [0, 1] ?_
  refine AW.sr ?_
  refine AO.c (Calm.assign rfl rfl) ?_
  refine AO.nK [0, 1, 5] ?_
  refine AW.seq_mid (fun ρ H => ∃ (n3 : Nat) (x4 : (List Bool)), ρ = [(5, (.own n3 0 x4.length))] ∧ H = [(n3, (.mem (.ar 1 (x4.map eBool))))] ∧ bosketref04_or_c0 k x4 = some r) ?_ ?_
  ·refine AW.sr ?_
   refine AO.c (Calm.assign rfl rfl) ?_
   refine AO.nK [0, 1, 5, 6] ?_
   refine AW.block ?_
   refine AW.nilOwn 5 1 rfl fun n22 => ?_
   refine AW.wK [0, 1, 5, 6] ?_
   refine AW.loop (fun kq ρ H => ∃ (n5 : Nat) (x6 : (List Bool)) (x7 : Int), ρ = [(0, (.fz 1 (p0.map eBool))), (1, (.fz 1 (p1.map eBool))), (5, (.own n5 0 x6.length)), (6, (eI64 x7))] ∧ H = [(n5, (.mem (.ar 1 (x6.map eBool))))] ∧ bosketref04_or_l2 k p0 p1 kq x6 x7 = some r) k ⟨n22, ([] : List Bool), (0 : Int), rfl, rfl, h⟩ ?_
   rintro kq9 _ _ ⟨n5, x6, x7, rfl, rfl, h⟩
   cases kq9 with
   | zero => rw [bosketref04_or_l2.eq_1] at h; cases h
   | succ kq9 =>
   rw [bosketref04_or_l2.eq_2] at h
   generalize hrec8 : bosketref04_or_l2 k p0 p1 kq9 = rec8 at h
   refine AW.seq ?_
   refine AW.sr ?_
   refine AO.c (Calm.move rfl rfl) ?_
   refine AO.c (Calm.move rfl rfl) ?_
   refine AO.c (Calm.lenL rfl rfl Try.underlying25) ?_
   refine AO.c (x := eBool (decide (x7 < (p0.length : Int)))) (Calm.int rfl rfl rfl rfl) ?_
   refine AO.nK [0, 1, 5, 6, 10] ?_
   rcases of_ite h with ⟨hc10, h⟩ | ⟨hc10, h⟩
   ·refine AW.condP _ rfl hc10 ?_
    refine AW.sK [0, 1, 5, 6] ?_
    refine AW.seq_mid (fun ρ H => ∃ (n11 : Nat) (x12 : (List Bool)), ρ = [(0, (.fz 1 (p0.map eBool))), (1, (.fz 1 (p1.map eBool))), (5, (.own n11 0 x12.length)), (6, (eI64 x7))] ∧ H = [(n11, (.mem (.ar 1 (x12.map eBool))))] ∧ bosketref04_or_c1 k rec8 x7 x12 = some r) ?_ ?_
    ·refine AW.block ?_
     refine AW.reg ?_
     refine AO.c (Calm.move rfl rfl) ?_
     refine AO.c (Calm.move rfl rfl) ?_
     refine AO.c (Calm.move rfl rfl) ?_
     obtain ⟨hg13, h⟩ := of_guard h
     refine AO.c (Calm.idxL (f := eBool) rfl rfl rfl hg13 Try.underlying25 sz4) ?_
     refine AO.c (Calm.loadRp rfl rfl ag4 sz4) ?_
     refine AO.c (Calm.move rfl rfl) ?_
     rcases of_ite h with ⟨hc14, h⟩ | ⟨hc14, h⟩
     ·refine AO.sF rfl rfl (bD hc14) ?_
      refine AO.sF rfl rfl (bD hc14) ?_
      refine AO.sF rfl rfl (bD hc14) ?_
      refine AO.sF rfl rfl (bD hc14) ?_
      refine AO.c (Calm.pickT rfl (bD hc14) rfl) ?_
      refine AO.lit (Z := (eBool false)) (xs := (([true] : List Bool).map eBool)) (qs := [(0, (eBool true))]) rfl 24 rfl (by decide) rfl ⟨rfl, rfl, rfl, trivial⟩ Try.underlying25 sz4 zr4 lay4 rfl (by decide) (litOK (z := 1) [(eBool true)] rfl ⟨⟨rfl, rfl⟩, trivial⟩) rfl fun n15 => ?_
      obtain ⟨hg17, h⟩ := of_guard h
      refine AO.appendL (l := x6) (m := ([true] : List Bool)) 1 25 rfl (by decide) rfl rfl rfl rfl rfl (Src.ownL (f := eBool) (l := ([true] : List Bool)) 0 rfl) Try.underlying25 Try.underlying25 sz4 by4 zr4 rfl hg17 (by decide) fun n16 => ?_
      refine AO.c (Calm.assign rfl rfl) ?_
      refine AO.nH [0, 1, 5, 6] (H' := [(n16, (.mem (.ar 1 ((x6 ++ ([true] : List Bool)).map eBool))))]) (Sub.cons 1 rfl (Sub.nil _)) ?_
      exact ⟨n16, (x6 ++ ([true] : List Bool)), rfl, rfl, h⟩
     ·refine AO.cG rfl rfl (bD (eq_false_of_ne_true hc14)) (Calm.move rfl rfl) ?_
      refine AO.cG rfl rfl (bD (eq_false_of_ne_true hc14)) (Calm.move rfl rfl) ?_
      obtain ⟨hg18, h⟩ := of_guard h
      refine AO.cG rfl rfl (bD (eq_false_of_ne_true hc14)) (Calm.idxL (f := eBool) rfl rfl rfl hg18 Try.underlying25 sz4) ?_
      refine AO.cG rfl rfl (bD (eq_false_of_ne_true hc14)) (Calm.loadRp rfl rfl ag4 sz4) ?_
      refine AO.c (Calm.pickF rfl (bD (eq_false_of_ne_true hc14)) rfl) ?_
      refine AO.lit (Z := (eBool false)) (xs := (([(lget p1 x7)] : List Bool).map eBool)) (qs := [(0, (eBool (lget p1 x7)))]) rfl 24 rfl (by decide) rfl ⟨rfl, rfl, rfl, trivial⟩ Try.underlying25 sz4 zr4 lay4 rfl (by decide) (litOK (z := 1) [(eBool (lget p1 x7))] rfl ⟨⟨rfl, rfl⟩, trivial⟩) rfl fun n19 => ?_
      obtain ⟨hg21, h⟩ := of_guard h
      refine AO.appendL (l := x6) (m := ([(lget p1 x7)] : List Bool)) 1 25 rfl (by decide) rfl rfl rfl rfl rfl (Src.ownL (f := eBool) (l := ([(lget p1 x7)] : List Bool)) 0 rfl) Try.underlying25 Try.underlying25 sz4 by4 zr4 rfl hg21 (by decide) fun n20 => ?_
      refine AO.c (Calm.assign rfl rfl) ?_
      refine AO.nH [0, 1, 5, 6] (H' := [(n20, (.mem (.ar 1 ((x6 ++ ([(lget p1 x7)] : List Bool)).map eBool))))]) (Sub.cons 1 rfl (Sub.nil _)) ?_
      exact ⟨n20, (x6 ++ ([(lget p1 x7)] : List Bool)), rfl, rfl, h⟩
    ·rintro _ _ ⟨n11, x12, rfl, rfl, h⟩
     rw [bosketref04_or_c1.eq_1] at h
     refine AW.reg ?_
     refine AO.c (Calm.move rfl rfl) ?_
     refine AO.c (x := eI64 (w64 (x7 + (1 : Int)))) (Calm.int rfl rfl rfl rfl) ?_
     refine AO.c (Calm.assign rfl rfl) ?_
     refine AO.nK [0, 1, 5, 6] ?_
     exact ⟨kq9, Nat.lt_succ_self _, n11, x12, (w64 (x7 + (1 : Int))), rfl, rfl, by rw [hrec8]; exact h⟩
   ·refine AW.condN _ rfl hc10 ?_
    refine AW.eK [5] ?_
    exact ⟨n5, x6, rfl, rfl, h⟩
  ·rintro _ _ ⟨n3, x4, rfl, rfl, h⟩
   rw [bosketref04_or_c0.eq_1] at h
   refine AW.sr ?_
   refine AO.c (Calm.move rfl rfl) ?_
   refine AO.c (Calm.assign rfl rfl) ?_
   refine AO.nK [4] ?_
   refine AW.freezeS 0 [(4, (.fz 1 (x4.map eBool)))] rfl ⟨fz_all rfl, trivial⟩ ?_
   refine AW.rK [4] ?_
   have hr := Option.some.inj h
   subst hr
   exact ⟨[(.fz 1 (x4.map eBool))], ⟨rfl, rfl, trivial⟩, rfl⟩
end Go.Avl.T3
