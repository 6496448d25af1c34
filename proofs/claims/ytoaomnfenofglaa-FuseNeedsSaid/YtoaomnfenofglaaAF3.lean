/- Parts: T5f86, T5f87, T5f58, T5f23, T5f7. -/
import Derived.Test.YtoaomnfenofglaaAF1
import Derived.Test.YtoaomnfenofglaaAF2
/- bosket/fuse.ends; printed by avmain.py. -/
namespace Go.Avl.T5
open Go Go.RowKit Go.Proofs Go.Avl
set_option linter.unusedVariables false
set_option maxRecDepth 100000
set_option maxHeartbeats 4000000
attribute [local irreducible] AW AO AQ Spec SpecH Calm

def fuse_ends (k : Nat) (p0 : S30) (p1 : (List Int)) (p2 : Int) : Option Bool :=
  (dfa_Mark k p0 p2).bind fun t5 =>
  (dfa_Step k p0 p2 (10 : Int)).bind fun t6 =>
  if (0 : Int) ≤ t6 then some (false)
  else Option.bind (α := Bool) (if t5 < (p1.length : Int) then if 0 ≤ t5 ∧ t5 < (p1.length : Int) then if (lget p1 t5) = (2 : Int) then some (true)
  else (dfa_Step k p0 p2 (32 : Int)).bind fun t13 =>
  some (decide (t13 < (0 : Int)))
  else none
  else (dfa_Step k p0 p2 (32 : Int)).bind fun t14 =>
  some (decide (t14 < (0 : Int)))) fun b8 =>
  some (b8)
theorem fuse_ends_spec {k : Nat} {p0 : S30} {p1 : (List Int)} {p2 : Int} {r : Bool} (h : fuse_ends k p0 p1 p2 = some r) : Spec Try.prog 86 [(e30 p0), (.fz 1 (p1.map eI64)), (eI64 p2)] (eBool r) := by
  rw [fuse_ends.eq_1] at h
  refine Spec.intro (res := [.tmp 6]) Try.func86 rfl rfl rfl (Nat.le_of_ble_eq_true rfl) ?_
  refine AW.sr ?_
  refine AO.box rfl 3 rfl (by decide) rfl rfl rfl fun n4 => ?_
  refine AO.c (Calm.assign rfl rfl) ?_
  refine AO.nK [1, 2, 3] ?_
  refine AW.sr ?_
  refine AO.c (Calm.load 0 rfl rfl rfl (At.cast At.here rfl) ag30 sz30) ?_
  refine AO.c (Calm.move rfl rfl) ?_
  obtain ⟨t5, et5, h⟩ := of_bind h
  refine AO.callS [(e30 p0), (eI64 p2)] (eI64 t5) 10 rfl (by decide) ok85 rfl rfl rfl ⟨rfl, rfl, rfl, rfl, trivial⟩ (dfa_Mark_spec et5) ?_
  refine AO.c (Calm.assign rfl rfl) ?_
  refine AO.nK [1, 2, 3, 7] ?_
  refine AW.seq ?_
  refine AW.sr ?_
  refine AO.c (Calm.load 0 rfl rfl rfl (At.cast At.here rfl) ag30 sz30) ?_
  refine AO.c (Calm.move rfl rfl) ?_
  obtain ⟨t6, et6, h⟩ := of_bind h
  refine AO.callS [(e30 p0), (eI64 p2), (eU8 (10 : Int))] (eI64 t6) 13 rfl (by decide) ok97 rfl rfl rfl ⟨rfl, rfl, rfl, rfl, rfl, rfl, trivial⟩ (dfa_Step_spec et6) ?_
  refine AO.c (x := eBool (decide ((0 : Int) ≤ t6))) (Calm.int rfl rfl rfl rfl) ?_
  refine AO.nK [1, 2, 3, 7, 14] ?_
  rcases of_ite h with ⟨hc7, h⟩ | ⟨hc7, h⟩
  ·refine AW.condP _ rfl hc7 ?_
   refine AW.sr ?_
   refine AO.c (Calm.assign rfl rfl) ?_
   refine AO.nH [6] (H' := []) (Sub.nil _) ?_
   refine AW.rK [6] ?_
   have hr := Option.some.inj h
   subst hr
   exact ⟨[(eBool false)], ⟨rfl, rfl, trivial⟩, rfl⟩
  ·refine AW.condN _ rfl hc7 ?_
   refine AW.sK [1, 2, 3, 7] ?_
   refine AW.seq ?_
   obtain ⟨b8, hq9, h⟩ := of_bind h
   refine AW.regM [(6, (eBool b8))] [] ?_ ?_
   ·refine AO.c (Calm.move rfl rfl) ?_
    refine AO.c (Calm.move rfl rfl) ?_
    refine AO.c (Calm.lenL rfl rfl Try.underlying25) ?_
    refine AO.c (x := eBool (decide (t5 < (p1.length : Int)))) (Calm.int rfl rfl rfl rfl) ?_
    refine AO.c (Calm.move rfl rfl) ?_
    rcases of_ite hq9 with ⟨hc10, hq9⟩ | ⟨hc10, hq9⟩
    ·refine AO.cG rfl rfl (bD (decide_eq_true hc10)) (Calm.move rfl rfl) ?_
     refine AO.cG rfl rfl (bD (decide_eq_true hc10)) (Calm.move rfl rfl) ?_
     obtain ⟨hg11, hq9⟩ := of_guard hq9
     refine AO.cG rfl rfl (bD (decide_eq_true hc10)) (Calm.idxL (f := eI64) rfl rfl rfl hg11 Try.underlying25 sz3) ?_
     refine AO.cG rfl rfl (bD (decide_eq_true hc10)) (Calm.loadRp rfl rfl ag3 sz3) ?_
     refine AO.cG (x := eBool (decide ((lget p1 t5) = (2 : Int)))) rfl rfl (bD (decide_eq_true hc10)) (Calm.int rfl rfl rfl rfl) ?_
     refine AO.c (Calm.pickT rfl (bD (decide_eq_true hc10)) rfl) ?_
     refine AO.c (Calm.move rfl rfl) ?_
     rcases of_ite hq9 with ⟨hc12, hq9⟩ | ⟨hc12, hq9⟩
     ·refine AO.sF rfl rfl (bD (decide_eq_true hc12)) ?_
      refine AO.sF rfl rfl (bD (decide_eq_true hc12)) ?_
      refine AO.sF rfl rfl (bD (decide_eq_true hc12)) ?_
      refine AO.sF rfl rfl (bD (decide_eq_true hc12)) ?_
      refine AO.c (Calm.pickT rfl (bD (decide_eq_true hc12)) rfl) ?_
      refine AO.c (Calm.assign rfl rfl) ?_
      cases hq9
      refine AO.nilE ⟨rfl, rfl⟩ ?_ ?_
      · exact ⟨rfl, trivial⟩
      · exact (Sub.nil _)
     ·refine AO.cG rfl rfl (bD (decide_eq_false hc12)) (Calm.load 0 rfl rfl rfl (At.cast At.here rfl) ag30 sz30) ?_
      refine AO.cG rfl rfl (bD (decide_eq_false hc12)) (Calm.move rfl rfl) ?_
      obtain ⟨t13, et13, hq9⟩ := of_bind hq9
      refine AO.callG 11 false 26 [(e30 p0), (eI64 p2), (eU8 (32 : Int))] (eI64 t13) 29 rfl (by decide) ok97 rfl rfl (bD (decide_eq_false hc12)) rfl rfl ⟨rfl, rfl, rfl, rfl, rfl, rfl, trivial⟩ (dfa_Step_spec et13) ?_
      refine AO.cG (x := eBool (decide (t13 < (0 : Int)))) rfl rfl (bD (decide_eq_false hc12)) (Calm.int rfl rfl rfl rfl) ?_
      refine AO.c (Calm.pickF rfl (bD (decide_eq_false hc12)) rfl) ?_
      refine AO.c (Calm.assign rfl rfl) ?_
      cases hq9
      refine AO.nilE ⟨rfl, rfl⟩ ?_ ?_
      · exact ⟨rfl, trivial⟩
      · exact (Sub.nil _)
    ·refine AO.sT rfl rfl (bD (decide_eq_false hc10)) ?_
     refine AO.sT rfl rfl (bD (decide_eq_false hc10)) ?_
     refine AO.sT rfl rfl (bD (decide_eq_false hc10)) ?_
     refine AO.sT rfl rfl (bD (decide_eq_false hc10)) ?_
     refine AO.sT rfl rfl (bD (decide_eq_false hc10)) ?_
     refine AO.c (Calm.pickF rfl (bD (decide_eq_false hc10)) rfl) ?_
     refine AO.c (Calm.move rfl rfl) ?_
     refine AO.cG rfl rfl rfl (Calm.load 0 rfl rfl rfl (At.cast At.here rfl) ag30 sz30) ?_
     refine AO.cG rfl rfl rfl (Calm.move rfl rfl) ?_
     obtain ⟨t14, et14, hq9⟩ := of_bind hq9
     refine AO.callG 11 false 26 [(e30 p0), (eI64 p2), (eU8 (32 : Int))] (eI64 t14) 29 rfl (by decide) ok97 rfl rfl rfl rfl rfl ⟨rfl, rfl, rfl, rfl, rfl, rfl, trivial⟩ (dfa_Step_spec et14) ?_
     refine AO.cG (x := eBool (decide (t14 < (0 : Int)))) rfl rfl rfl (Calm.int rfl rfl rfl rfl) ?_
     refine AO.c (Calm.pickF rfl rfl rfl) ?_
     refine AO.c (Calm.assign rfl rfl) ?_
     cases hq9
     refine AO.nilE ⟨rfl, rfl⟩ ?_ ?_
     · exact ⟨rfl, trivial⟩
     · exact (Sub.nil _)
   ·refine AW.rK [6] ?_
    have hr := Option.some.inj h
    subst hr
    exact ⟨[(eBool b8)], ⟨rfl, rfl, trivial⟩, rfl⟩
end Go.Avl.T5
/- bosket/fuse.blanks; printed by avmain.py. -/
namespace Go.Avl.T5
open Go Go.RowKit Go.Proofs Go.Avl
set_option linter.unusedVariables false
set_option maxRecDepth 100000
set_option maxHeartbeats 4000000
attribute [local irreducible] AW AO AQ Spec SpecH Calm

def fuse_blanks_c0 (k : Nat) : Option Bool :=
  some (true)
def fuse_blanks_c1 (k : Nat) (rec6 : (Int → Option Bool)) (x5 : Int) : Option Bool :=
  rec6 (w64 (x5 + (1 : Int)))
def fuse_blanks_c2 (k : Nat) (rec14 : (Int → Option Bool)) (x13 : Int) : Option Bool :=
  rec14 (w64 (x13 + (1 : Int)))
def fuse_blanks_l3 (k : Nat) (rec14 : (Int → Option Bool)) (p0 : S30) (x13 : Int) : Nat → Int → Option Bool
  | 0, _ => none
  | j + 1, x24 =>
    if x24 < (256 : Int) then Option.bind (α := Bool) (if x24 ≠ (32 : Int) then if x24 ≠ (10 : Int) then if x24 ≠ (9 : Int) then if x24 ≠ (13 : Int) then (dfa_Step k p0 x13 (w8 x24)).bind fun t34 =>
    some (decide ((0 : Int) ≤ t34))
    else some (false)
    else some (false)
    else some (false)
    else some (false)) fun b28 =>
    if b28 = true then some (false)
    else (fuse_blanks_l3 k rec14 p0 x13 j) (w64 (x24 + (1 : Int)))
    else fuse_blanks_c2 k rec14 x13
def fuse_blanks_l4 (k : Nat) (rec6 : (Int → Option Bool)) (p0 : S30) (p1 : Int) (x5 : Int) (t12 : (List Bool)) : Nat → Int → Option Bool
  | 0, _ => none
  | j + 1, x13 =>
    if x13 < (t12.length : Int) then if 0 ≤ x13 ∧ x13 < (t12.length : Int) then if (!(lget t12 x13)) = true then fuse_blanks_c2 k (fuse_blanks_l4 k rec6 p0 p1 x5 t12 j) x13
    else (dfa_Mark k p0 x13).bind fun t19 =>
    Option.bind (α := Bool) (if (0 : Int) ≤ t19 then some (decide (t19 ≠ p1))
    else some (false)) fun b20 =>
    if b20 = true then some (false)
    else fuse_blanks_l3 k (fuse_blanks_l4 k rec6 p0 p1 x5 t12 j) p0 x13 k (0 : Int)
    else none
    else fuse_blanks_c1 k rec6 x5
def fuse_blanks_l5 (k : Nat) (p0 : S30) (p1 : Int) : Nat → Int → Option Bool
  | 0, _ => none
  | j + 1, x5 =>
    if x5 < (([(32 : Int), (10 : Int), (9 : Int), (13 : Int)] : List Int).length : Int) then if 0 ≤ x5 ∧ x5 < (([(32 : Int), (10 : Int), (9 : Int), (13 : Int)] : List Int).length : Int) then (some (lget ([(32 : Int), (10 : Int), (9 : Int), (13 : Int)] : List Int) x5)).bind fun x10 =>
    (dfa_Step k p0 (0 : Int) x10).bind fun t11 =>
    (dfa_Reached k p0 t11).bind fun t12 =>
    fuse_blanks_l4 k (fuse_blanks_l5 k p0 p1 j) p0 p1 x5 t12 k (0 : Int)
    else none
    else fuse_blanks_c0 k
def fuse_blanks (k : Nat) (p0 : S30) (p1 : Int) : Option Bool :=
  fuse_blanks_l5 k p0 p1 k (0 : Int)
theorem fuse_blanks_spec {k : Nat} {p0 : S30} {p1 : Int} {r : Bool} (h : fuse_blanks k p0 p1 = some r) : Spec Try.prog 87 [(e30 p0), (eI64 p1)] (eBool r) := by
  rw [fuse_blanks.eq_1] at h
  refine Spec.intro (res := [.tmp 4]) Try.func87 rfl rfl rfl (Nat.le_of_ble_eq_true rfl) ?_
  refine AW.sr ?_
  refine AO.box rfl 2 rfl (by decide) rfl rfl rfl fun n3 => ?_
  refine AO.c (Calm.assign rfl rfl) ?_
  refine AO.nK [1, 2] ?_
  refine AW.seq_mid (fun ρ H => ρ = [] ∧ H = [] ∧ fuse_blanks_c0 k = some r) ?_ ?_
  ·refine AW.sr ?_
   refine AO.lit (Z := (eU8 (0 : Int))) (xs := (([(32 : Int), (10 : Int), (9 : Int), (13 : Int)] : List Int).map eU8)) (qs := [(0, (eU8 (32 : Int))), (1, (eU8 (10 : Int))), (2, (eU8 (9 : Int))), (3, (eU8 (13 : Int)))]) rfl 12 rfl (by decide) rfl ⟨rfl, rfl, rfl, rfl, rfl, rfl, rfl, rfl, rfl, rfl, rfl, rfl, trivial⟩ Try.underlying77 sz5 zr5 lay5 rfl (by decide) (litOK (z := 1) [(eU8 (32 : Int)), (eU8 (10 : Int)), (eU8 (9 : Int)), (eU8 (13 : Int))] rfl ⟨⟨rfl, rfl⟩, ⟨rfl, rfl⟩, ⟨rfl, rfl⟩, ⟨rfl, rfl⟩, trivial⟩) rfl fun n4 => ?_
   refine AO.c (Calm.lenOwn rfl rfl Try.underlying77) ?_
   refine AO.c (Calm.move rfl rfl) ?_
   refine AO.nH [1, 2, 12, 13, 14] (H' := [(n3, (.mem (e30 p0))), (n4, (.mem (.ar 1 (([(32 : Int), (10 : Int), (9 : Int), (13 : Int)] : List Int).map eU8))))]) (Sub.cons 1 rfl (Sub.cons 0 rfl (Sub.nil _))) ?_
   refine AW.block ?_
   refine AW.wK [1, 2, 12, 13, 14] ?_
   refine AW.loop (fun kq ρ H => ∃ (x5 : Int), ρ = [(1, (eI64 p1)), (2, (.ptr n3 0)), (12, (.own n4 0 ([(32 : Int), (10 : Int), (9 : Int), (13 : Int)] : List Int).length)), (13, (eI64 (([(32 : Int), (10 : Int), (9 : Int), (13 : Int)] : List Int).length : Int))), (14, (eI64 x5))] ∧ H = [(n3, (.mem (e30 p0))), (n4, (.mem (.ar 1 (([(32 : Int), (10 : Int), (9 : Int), (13 : Int)] : List Int).map eU8))))] ∧ fuse_blanks_l5 k p0 p1 kq x5 = some r) k ⟨(0 : Int), rfl, rfl, h⟩ ?_
   rintro kq7 _ _ ⟨x5, rfl, rfl, h⟩
   cases kq7 with
   | zero => rw [fuse_blanks_l5.eq_1] at h; cases h
   | succ kq7 =>
   rw [fuse_blanks_l5.eq_2] at h
   generalize hrec6 : fuse_blanks_l5 k p0 p1 kq7 = rec6 at h
   refine AW.sr ?_
   refine AO.c (x := eBool (decide (x5 < (([(32 : Int), (10 : Int), (9 : Int), (13 : Int)] : List Int).length : Int)))) (Calm.int rfl rfl rfl rfl) ?_
   refine AO.nK [1, 2, 12, 13, 14, 15] ?_
   refine AW.seq ?_
   rcases of_ite h with ⟨hc8, h⟩ | ⟨hc8, h⟩
   ·refine AW.condP _ rfl hc8 ?_
    refine AW.sK [1, 2, 12, 13, 14] ?_
    refine AW.seq_mid (fun ρ H => ρ = [(1, (eI64 p1)), (2, (.ptr n3 0)), (12, (.own n4 0 ([(32 : Int), (10 : Int), (9 : Int), (13 : Int)] : List Int).length)), (13, (eI64 (([(32 : Int), (10 : Int), (9 : Int), (13 : Int)] : List Int).length : Int))), (14, (eI64 x5))] ∧ H = [(n3, (.mem (e30 p0))), (n4, (.mem (.ar 1 (([(32 : Int), (10 : Int), (9 : Int), (13 : Int)] : List Int).map eU8))))] ∧ fuse_blanks_c1 k rec6 x5 = some r) ?_ ?_
    ·refine AW.block ?_
     refine AW.sr ?_
     obtain ⟨hg9, h⟩ := of_guard h
     refine AO.c (Calm.idxO 1 rfl rfl rfl rfl hg9 Try.underlying77 sz5) ?_
     refine AO.c (Calm.load 1 rfl rfl rfl (At.cast (At.lidx x5 hg9.1 hg9.2 At.here) (by omega)) ag5 sz5) ?_
     obtain ⟨x10, ex10, h⟩ := of_bind h
     refine AO.c (Calm.assign rfl (congrArg (fun x => some (eU8 x)) (Option.some.inj ex10))) ?_
     refine AO.nK [1, 2, 6, 12, 13, 14] ?_
     refine AW.sr ?_
     refine AO.c (Calm.load 0 rfl rfl rfl (At.cast At.here rfl) ag30 sz30) ?_
     refine AO.c (Calm.move rfl rfl) ?_
     obtain ⟨t11, et11, h⟩ := of_bind h
     refine AO.callS [(e30 p0), (eI64 (0 : Int)), (eU8 x10)] (eI64 t11) 20 rfl (by decide) ok97 rfl rfl rfl ⟨rfl, rfl, rfl, rfl, rfl, rfl, trivial⟩ (dfa_Step_spec et11) ?_
     refine AO.c (Calm.assign rfl rfl) ?_
     refine AO.nK [1, 2, 7, 12, 13, 14] ?_
     refine AW.sr ?_
     refine AO.c (Calm.load 0 rfl rfl rfl (At.cast At.here rfl) ag30 sz30) ?_
     refine AO.c (Calm.move rfl rfl) ?_
     obtain ⟨t12, et12, h⟩ := of_bind h
     refine AO.callS [(e30 p0), (eI64 t11)] (.fz 1 (t12.map eBool)) 23 rfl (by decide) ok84 rfl rfl rfl ⟨rfl, rfl, rfl, rfl, trivial⟩ (dfa_Reached_spec et12) ?_
     refine AO.c (Calm.lenL rfl rfl Try.underlying49) ?_
     refine AO.c (Calm.move rfl rfl) ?_
     refine AO.nK [1, 2, 12, 13, 14, 23, 24, 25] ?_
     refine AW.block ?_
     refine AW.wK [1, 2, 12, 13, 14, 23, 24, 25] ?_
     refine AW.loop (fun kq ρ H => ∃ (x13 : Int), ρ = [(1, (eI64 p1)), (2, (.ptr n3 0)), (12, (.own n4 0 ([(32 : Int), (10 : Int), (9 : Int), (13 : Int)] : List Int).length)), (13, (eI64 (([(32 : Int), (10 : Int), (9 : Int), (13 : Int)] : List Int).length : Int))), (14, (eI64 x5)), (23, (.fz 1 (t12.map eBool))), (24, (eI64 (t12.length : Int))), (25, (eI64 x13))] ∧ H = [(n3, (.mem (e30 p0))), (n4, (.mem (.ar 1 (([(32 : Int), (10 : Int), (9 : Int), (13 : Int)] : List Int).map eU8))))] ∧ fuse_blanks_l4 k rec6 p0 p1 x5 t12 kq x13 = some r) k ⟨(0 : Int), rfl, rfl, h⟩ ?_
     rintro kq15 _ _ ⟨x13, rfl, rfl, h⟩
     cases kq15 with
     | zero => rw [fuse_blanks_l4.eq_1] at h; cases h
     | succ kq15 =>
     rw [fuse_blanks_l4.eq_2] at h
     generalize hrec14 : fuse_blanks_l4 k rec6 p0 p1 x5 t12 kq15 = rec14 at h
     refine AW.sr ?_
     refine AO.c (x := eBool (decide (x13 < (t12.length : Int)))) (Calm.int rfl rfl rfl rfl) ?_
     refine AO.nK [1, 2, 12, 13, 14, 23, 24, 25, 26] ?_
     refine AW.seq ?_
     rcases of_ite h with ⟨hc16, h⟩ | ⟨hc16, h⟩
     ·refine AW.condP _ rfl hc16 ?_
      refine AW.sK [1, 2, 12, 13, 14, 23, 24, 25] ?_
      refine AW.seq_mid (fun ρ H => ρ = [(1, (eI64 p1)), (2, (.ptr n3 0)), (12, (.own n4 0 ([(32 : Int), (10 : Int), (9 : Int), (13 : Int)] : List Int).length)), (13, (eI64 (([(32 : Int), (10 : Int), (9 : Int), (13 : Int)] : List Int).length : Int))), (14, (eI64 x5)), (23, (.fz 1 (t12.map eBool))), (24, (eI64 (t12.length : Int))), (25, (eI64 x13))] ∧ H = [(n3, (.mem (e30 p0))), (n4, (.mem (.ar 1 (([(32 : Int), (10 : Int), (9 : Int), (13 : Int)] : List Int).map eU8))))] ∧ fuse_blanks_c2 k rec14 x13 = some r) ?_ ?_
      ·refine AW.block ?_
       refine AW.sr ?_
       refine AO.c (Calm.move rfl rfl) ?_
       obtain ⟨hg17, h⟩ := of_guard h
       refine AO.c (Calm.idxL (f := eBool) rfl rfl rfl hg17 Try.underlying49 sz4) ?_
       refine AO.c (Calm.loadRp rfl rfl ag4 sz4) ?_
       refine AO.c (Calm.assign rfl rfl) ?_
       refine AO.c (Calm.assign rfl rfl) ?_
       refine AO.nK [1, 2, 8, 9, 12, 13, 14, 23, 24, 25] ?_
       refine AW.seq ?_
       refine AW.sr ?_
       refine AO.c (Calm.move rfl rfl) ?_
       refine AO.c (Calm.not rfl rfl) ?_
       refine AO.nK [1, 2, 8, 12, 13, 14, 23, 24, 25, 31] ?_
       rcases of_ite h with ⟨hc18, h⟩ | ⟨hc18, h⟩
       ·refine AW.condT' _ rfl hc18 ?_
        refine AW.eK [1, 2, 12, 13, 14, 23, 24, 25] ?_
        exact ⟨rfl, rfl, h⟩
       ·refine AW.condF' _ rfl hc18 ?_
        refine AW.sK [1, 2, 8, 12, 13, 14, 23, 24, 25] ?_
        refine AW.seq ?_
        refine AW.sr ?_
        refine AO.c (Calm.load 0 rfl rfl rfl (At.cast At.here rfl) ag30 sz30) ?_
        refine AO.c (Calm.move rfl rfl) ?_
        obtain ⟨t19, et19, h⟩ := of_bind h
        refine AO.callS [(e30 p0), (eI64 x13)] (eI64 t19) 34 rfl (by decide) ok85 rfl rfl rfl ⟨rfl, rfl, rfl, rfl, trivial⟩ (dfa_Mark_spec et19) ?_
        refine AO.c (Calm.assign rfl rfl) ?_
        refine AO.nK [1, 2, 8, 10, 12, 13, 14, 23, 24, 25] ?_
        refine AW.seq ?_
        obtain ⟨b20, hq21, h⟩ := of_bind h
        refine AW.regM [(1, (eI64 p1)), (2, (.ptr n3 0)), (8, (eI64 x13)), (12, (.own n4 0 ([(32 : Int), (10 : Int), (9 : Int), (13 : Int)] : List Int).length)), (13, (eI64 (([(32 : Int), (10 : Int), (9 : Int), (13 : Int)] : List Int).length : Int))), (14, (eI64 x5)), (23, (.fz 1 (t12.map eBool))), (24, (eI64 (t12.length : Int))), (25, (eI64 x13)), (41, (eBool b20))] [(n3, (.mem (e30 p0))), (n4, (.mem (.ar 1 (([(32 : Int), (10 : Int), (9 : Int), (13 : Int)] : List Int).map eU8))))] ?_ ?_
        ·refine AO.c (Calm.move rfl rfl) ?_
         refine AO.c (x := eBool (decide ((0 : Int) ≤ t19))) (Calm.int rfl rfl rfl rfl) ?_
         refine AO.c (Calm.move rfl rfl) ?_
         rcases of_ite hq21 with ⟨hc22, hq21⟩ | ⟨hc22, hq21⟩
         ·refine AO.cG rfl rfl (bD (decide_eq_true hc22)) (Calm.move rfl rfl) ?_
          refine AO.cG rfl rfl (bD (decide_eq_true hc22)) (Calm.move rfl rfl) ?_
          refine AO.cG (x := eBool (decide (t19 ≠ p1))) rfl rfl (bD (decide_eq_true hc22)) (Calm.int rfl rfl rfl rfl) ?_
          refine AO.c (Calm.pickT rfl (bD (decide_eq_true hc22)) rfl) ?_
          cases hq21
          refine AO.nilE ⟨rfl, rfl⟩ ?_ ?_
          · exact ⟨rfl, rfl, rfl, rfl, rfl, rfl, rfl, rfl, rfl, rfl, trivial⟩
          · exact (Sub.refl _)
         ·refine AO.sT rfl rfl (bD (decide_eq_false hc22)) ?_
          refine AO.sT rfl rfl (bD (decide_eq_false hc22)) ?_
          refine AO.sT rfl rfl (bD (decide_eq_false hc22)) ?_
          refine AO.c (Calm.pickF rfl (bD (decide_eq_false hc22)) rfl) ?_
          cases hq21
          refine AO.nilE ⟨rfl, rfl⟩ ?_ ?_
          · exact ⟨rfl, rfl, rfl, rfl, rfl, rfl, rfl, rfl, rfl, rfl, trivial⟩
          · exact (Sub.refl _)
        ·rcases of_ite h with ⟨hc23, h⟩ | ⟨hc23, h⟩
         ·refine AW.condT' _ rfl hc23 ?_
          refine AW.sr ?_
          refine AO.c (Calm.assign rfl rfl) ?_
          refine AO.nH [4] (H' := []) (Sub.nil _) ?_
          refine AW.rK [4] ?_
          have hr := Option.some.inj h
          subst hr
          exact ⟨[(eBool false)], ⟨rfl, rfl, trivial⟩, rfl⟩
         ·refine AW.condF' _ rfl hc23 ?_
          refine AW.sK [1, 2, 8, 12, 13, 14, 23, 24, 25] ?_
          refine AW.sr ?_
          refine AO.c (Calm.move rfl rfl) ?_
          refine AO.nK [1, 2, 8, 12, 13, 14, 23, 24, 25, 42] ?_
          refine AW.block ?_
          refine AW.wK [1, 2, 8, 12, 13, 14, 23, 24, 25, 42] ?_
          refine AW.loop (fun kq ρ H => ∃ (x24 : Int), ρ = [(1, (eI64 p1)), (2, (.ptr n3 0)), (8, (eI64 x13)), (12, (.own n4 0 ([(32 : Int), (10 : Int), (9 : Int), (13 : Int)] : List Int).length)), (13, (eI64 (([(32 : Int), (10 : Int), (9 : Int), (13 : Int)] : List Int).length : Int))), (14, (eI64 x5)), (23, (.fz 1 (t12.map eBool))), (24, (eI64 (t12.length : Int))), (25, (eI64 x13)), (42, (eI64 x24))] ∧ H = [(n3, (.mem (e30 p0))), (n4, (.mem (.ar 1 (([(32 : Int), (10 : Int), (9 : Int), (13 : Int)] : List Int).map eU8))))] ∧ fuse_blanks_l3 k rec14 p0 x13 kq x24 = some r) k ⟨(0 : Int), rfl, rfl, h⟩ ?_
          rintro kq26 _ _ ⟨x24, rfl, rfl, h⟩
          cases kq26 with
          | zero => rw [fuse_blanks_l3.eq_1] at h; cases h
          | succ kq26 =>
          rw [fuse_blanks_l3.eq_2] at h
          generalize hrec25 : fuse_blanks_l3 k rec14 p0 x13 kq26 = rec25 at h
          refine AW.sr ?_
          refine AO.c (x := eBool (decide (x24 < (256 : Int)))) (Calm.int rfl rfl rfl rfl) ?_
          refine AO.nK [1, 2, 8, 12, 13, 14, 23, 24, 25, 42, 43] ?_
          refine AW.seq ?_
          rcases of_ite h with ⟨hc27, h⟩ | ⟨hc27, h⟩
          ·refine AW.condP _ rfl hc27 ?_
           refine AW.sK [1, 2, 8, 12, 13, 14, 23, 24, 25, 42] ?_
           refine AW.seq ?_
           refine AW.block ?_
           refine AW.sr ?_
           refine AO.c (Calm.move rfl rfl) ?_
           refine AO.c (Calm.assign rfl rfl) ?_
           refine AO.nK [1, 2, 8, 11, 12, 13, 14, 23, 24, 25, 42] ?_
           refine AW.seq ?_
           obtain ⟨b28, hq29, h⟩ := of_bind h
           refine AW.regM [(1, (eI64 p1)), (2, (.ptr n3 0)), (8, (eI64 x13)), (12, (.own n4 0 ([(32 : Int), (10 : Int), (9 : Int), (13 : Int)] : List Int).length)), (13, (eI64 (([(32 : Int), (10 : Int), (9 : Int), (13 : Int)] : List Int).length : Int))), (14, (eI64 x5)), (23, (.fz 1 (t12.map eBool))), (24, (eI64 (t12.length : Int))), (25, (eI64 x13)), (42, (eI64 x24)), (66, (eBool b28))] [(n3, (.mem (e30 p0))), (n4, (.mem (.ar 1 (([(32 : Int), (10 : Int), (9 : Int), (13 : Int)] : List Int).map eU8))))] ?_ ?_
           ·refine AO.c (Calm.move rfl rfl) ?_
            refine AO.c (x := eBool (decide (x24 ≠ (32 : Int)))) (Calm.int rfl rfl rfl rfl) ?_
            refine AO.c (Calm.move rfl rfl) ?_
            rcases of_ite hq29 with ⟨hc30, hq29⟩ | ⟨hc30, hq29⟩
            ·refine AO.cG rfl rfl (bD (decide_eq_true hc30)) (Calm.move rfl rfl) ?_
             refine AO.cG (x := eBool (decide (x24 ≠ (10 : Int)))) rfl rfl (bD (decide_eq_true hc30)) (Calm.int rfl rfl rfl rfl) ?_
             refine AO.c (Calm.pickT rfl (bD (decide_eq_true hc30)) rfl) ?_
             refine AO.c (Calm.move rfl rfl) ?_
             rcases of_ite hq29 with ⟨hc31, hq29⟩ | ⟨hc31, hq29⟩
             ·refine AO.cG rfl rfl (bD (decide_eq_true hc31)) (Calm.move rfl rfl) ?_
              refine AO.cG (x := eBool (decide (x24 ≠ (9 : Int)))) rfl rfl (bD (decide_eq_true hc31)) (Calm.int rfl rfl rfl rfl) ?_
              refine AO.c (Calm.pickT rfl (bD (decide_eq_true hc31)) rfl) ?_
              refine AO.c (Calm.move rfl rfl) ?_
              rcases of_ite hq29 with ⟨hc32, hq29⟩ | ⟨hc32, hq29⟩
              ·refine AO.cG rfl rfl (bD (decide_eq_true hc32)) (Calm.move rfl rfl) ?_
               refine AO.cG (x := eBool (decide (x24 ≠ (13 : Int)))) rfl rfl (bD (decide_eq_true hc32)) (Calm.int rfl rfl rfl rfl) ?_
               refine AO.c (Calm.pickT rfl (bD (decide_eq_true hc32)) rfl) ?_
               refine AO.c (Calm.move rfl rfl) ?_
               rcases of_ite hq29 with ⟨hc33, hq29⟩ | ⟨hc33, hq29⟩
               ·refine AO.cG rfl rfl (bD (decide_eq_true hc33)) (Calm.load 0 rfl rfl rfl (At.cast At.here rfl) ag30 sz30) ?_
                refine AO.cG rfl rfl (bD (decide_eq_true hc33)) (Calm.move rfl rfl) ?_
                refine AO.cG rfl rfl (bD (decide_eq_true hc33)) (Calm.move rfl rfl) ?_
                refine AO.cG (x := eU8 (w8 x24)) rfl rfl (bD (decide_eq_true hc33)) (Calm.conv rfl rfl Try.underlying3 Try.underlying5) ?_
                obtain ⟨t34, et34, hq29⟩ := of_bind hq29
                refine AO.callG 14 true 59 [(e30 p0), (eI64 x13), (eU8 (w8 x24))] (eI64 t34) 64 rfl (by decide) ok97 rfl rfl (bD (decide_eq_true hc33)) rfl rfl ⟨rfl, rfl, rfl, rfl, rfl, rfl, trivial⟩ (dfa_Step_spec et34) ?_
                refine AO.cG (x := eBool (decide ((0 : Int) ≤ t34))) rfl rfl (bD (decide_eq_true hc33)) (Calm.int rfl rfl rfl rfl) ?_
                refine AO.c (Calm.pickT rfl (bD (decide_eq_true hc33)) rfl) ?_
                cases hq29
                refine AO.nilE ⟨rfl, rfl⟩ ?_ ?_
                · exact ⟨rfl, rfl, rfl, rfl, rfl, rfl, rfl, rfl, rfl, rfl, rfl, trivial⟩
                · exact (Sub.refl _)
               ·refine AO.sT rfl rfl (bD (decide_eq_false hc33)) ?_
                refine AO.sT rfl rfl (bD (decide_eq_false hc33)) ?_
                refine AO.sT rfl rfl (bD (decide_eq_false hc33)) ?_
                refine AO.sT rfl rfl (bD (decide_eq_false hc33)) ?_
                refine AO.sT rfl rfl (bD (decide_eq_false hc33)) ?_
                refine AO.sT rfl rfl (bD (decide_eq_false hc33)) ?_
                refine AO.c (Calm.pickF rfl (bD (decide_eq_false hc33)) rfl) ?_
                cases hq29
                refine AO.nilE ⟨rfl, rfl⟩ ?_ ?_
                · exact ⟨rfl, rfl, rfl, rfl, rfl, rfl, rfl, rfl, rfl, rfl, rfl, trivial⟩
                · exact (Sub.refl _)
              ·refine AO.sT rfl rfl (bD (decide_eq_false hc32)) ?_
               refine AO.sT rfl rfl (bD (decide_eq_false hc32)) ?_
               refine AO.c (Calm.pickF rfl (bD (decide_eq_false hc32)) rfl) ?_
               refine AO.c (Calm.move rfl rfl) ?_
               refine AO.sT rfl rfl rfl ?_
               refine AO.sT rfl rfl rfl ?_
               refine AO.sT rfl rfl rfl ?_
               refine AO.sT rfl rfl rfl ?_
               refine AO.sT rfl rfl rfl ?_
               refine AO.sT rfl rfl rfl ?_
               refine AO.c (Calm.pickF rfl rfl rfl) ?_
               cases hq29
               refine AO.nilE ⟨rfl, rfl⟩ ?_ ?_
               · exact ⟨rfl, rfl, rfl, rfl, rfl, rfl, rfl, rfl, rfl, rfl, rfl, trivial⟩
               · exact (Sub.refl _)
             ·refine AO.sT rfl rfl (bD (decide_eq_false hc31)) ?_
              refine AO.sT rfl rfl (bD (decide_eq_false hc31)) ?_
              refine AO.c (Calm.pickF rfl (bD (decide_eq_false hc31)) rfl) ?_
              refine AO.c (Calm.move rfl rfl) ?_
              refine AO.sT rfl rfl rfl ?_
              refine AO.sT rfl rfl rfl ?_
              refine AO.c (Calm.pickF rfl rfl rfl) ?_
              refine AO.c (Calm.move rfl rfl) ?_
              refine AO.sT rfl rfl rfl ?_
              refine AO.sT rfl rfl rfl ?_
              refine AO.sT rfl rfl rfl ?_
              refine AO.sT rfl rfl rfl ?_
              refine AO.sT rfl rfl rfl ?_
              refine AO.sT rfl rfl rfl ?_
              refine AO.c (Calm.pickF rfl rfl rfl) ?_
              cases hq29
              refine AO.nilE ⟨rfl, rfl⟩ ?_ ?_
              · exact ⟨rfl, rfl, rfl, rfl, rfl, rfl, rfl, rfl, rfl, rfl, rfl, trivial⟩
              · exact (Sub.refl _)
            ·refine AO.sT rfl rfl (bD (decide_eq_false hc30)) ?_
             refine AO.sT rfl rfl (bD (decide_eq_false hc30)) ?_
             refine AO.c (Calm.pickF rfl (bD (decide_eq_false hc30)) rfl) ?_
             refine AO.c (Calm.move rfl rfl) ?_
             refine AO.sT rfl rfl rfl ?_
             refine AO.sT rfl rfl rfl ?_
             refine AO.c (Calm.pickF rfl rfl rfl) ?_
             refine AO.c (Calm.move rfl rfl) ?_
             refine AO.sT rfl rfl rfl ?_
             refine AO.sT rfl rfl rfl ?_
             refine AO.c (Calm.pickF rfl rfl rfl) ?_
             refine AO.c (Calm.move rfl rfl) ?_
             refine AO.sT rfl rfl rfl ?_
             refine AO.sT rfl rfl rfl ?_
             refine AO.sT rfl rfl rfl ?_
             refine AO.sT rfl rfl rfl ?_
             refine AO.sT rfl rfl rfl ?_
             refine AO.sT rfl rfl rfl ?_
             refine AO.c (Calm.pickF rfl rfl rfl) ?_
             cases hq29
             refine AO.nilE ⟨rfl, rfl⟩ ?_ ?_
             · exact ⟨rfl, rfl, rfl, rfl, rfl, rfl, rfl, rfl, rfl, rfl, rfl, trivial⟩
             · exact (Sub.refl _)
           ·rcases of_ite h with ⟨hc35, h⟩ | ⟨hc35, h⟩
            ·refine AW.condT' _ rfl hc35 ?_
             refine AW.sr ?_
             refine AO.c (Calm.assign rfl rfl) ?_
             refine AO.nH [4] (H' := []) (Sub.nil _) ?_
             refine AW.rK [4] ?_
             have hr := Option.some.inj h
             subst hr
             exact ⟨[(eBool false)], ⟨rfl, rfl, trivial⟩, rfl⟩
            ·refine AW.condF' _ rfl hc35 ?_
             refine AW.sK [1, 2, 8, 12, 13, 14, 23, 24, 25, 42] ?_
             refine AW.reg ?_
             refine AO.c (x := eI64 (w64 (x24 + (1 : Int)))) (Calm.int rfl rfl rfl rfl) ?_
             refine AO.c (Calm.move rfl rfl) ?_
             refine AO.nK [1, 2, 8, 12, 13, 14, 23, 24, 25, 42] ?_
             exact ⟨kq26, Nat.lt_succ_self _, (w64 (x24 + (1 : Int))), rfl, rfl, by rw [hrec25]; exact h⟩
          ·refine AW.condN _ rfl hc27 ?_
           refine AW.eK [1, 2, 12, 13, 14, 23, 24, 25] ?_
           exact ⟨rfl, rfl, h⟩
      ·rintro _ _ ⟨rfl, rfl, h⟩
       rw [fuse_blanks_c2.eq_1] at h
       refine AW.reg ?_
       refine AO.c (x := eI64 (w64 (x13 + (1 : Int)))) (Calm.int rfl rfl rfl rfl) ?_
       refine AO.c (Calm.move rfl rfl) ?_
       refine AO.nK [1, 2, 12, 13, 14, 23, 24, 25] ?_
       exact ⟨kq15, Nat.lt_succ_self _, (w64 (x13 + (1 : Int))), rfl, rfl, by rw [hrec14]; exact h⟩
     ·refine AW.condN _ rfl hc16 ?_
      refine AW.eK [1, 2, 12, 13, 14] ?_
      exact ⟨rfl, rfl, h⟩
    ·rintro _ _ ⟨rfl, rfl, h⟩
     rw [fuse_blanks_c1.eq_1] at h
     refine AW.reg ?_
     refine AO.c (x := eI64 (w64 (x5 + (1 : Int)))) (Calm.int rfl rfl rfl rfl) ?_
     refine AO.c (Calm.move rfl rfl) ?_
     refine AO.nK [1, 2, 12, 13, 14] ?_
     exact ⟨kq7, Nat.lt_succ_self _, (w64 (x5 + (1 : Int))), rfl, rfl, by rw [hrec6]; exact h⟩
   ·refine AW.condN _ rfl hc8 ?_
    refine AW.eH [] (H' := []) (Sub.nil _) ?_
    exact ⟨rfl, rfl, h⟩
  ·rintro _ _ ⟨rfl, rfl, h⟩
   rw [fuse_blanks_c0.eq_1] at h
   refine AW.sr ?_
   refine AO.c (Calm.assign rfl rfl) ?_
   refine AO.nK [4] ?_
   refine AW.rK [4] ?_
   have hr := Option.some.inj h
   subst hr
   exact ⟨[(eBool true)], ⟨rfl, rfl, trivial⟩, rfl⟩
end Go.Avl.T5
/- bosket/fuse.Safe; printed by avmain.py. -/
namespace Go.Avl.T5
open Go Go.RowKit Go.Proofs Go.Avl
set_option linter.unusedVariables false
set_option maxRecDepth 100000
set_option maxHeartbeats 4000000
attribute [local irreducible] AW AO AQ Spec SpecH Calm

def fuse_Safe_c0 (k : Nat) (p2 : Int) (t12 : S30) : Option Bool :=
  (fuse_blanks k t12 p2).bind fun t15 =>
  some (t15)
def fuse_Safe_l1 (k : Nat) (p1 : (List Int)) (p2 : Int) (t12 : S30) (t14 : (List Bool)) : Nat → Int → Option Bool
  | 0, _ => none
  | j + 1, x16 =>
    if x16 < (t12.f1.length : Int) then (dfa_Mark k t12 x16).bind fun t20 =>
    Option.bind (α := Bool) (if 0 ≤ x16 ∧ x16 < (t14.length : Int) then if (lget t14 x16) = true then if (0 : Int) ≤ t20 then if t20 ≠ p2 then (fuse_ends k t12 p1 x16).bind fun t27 =>
    some (!t27)
    else some (false)
    else some (false)
    else some (false)
    else none) fun b21 =>
    if b21 = true then some (false)
    else (fuse_Safe_l1 k p1 p2 t12 t14 j) (w64 (x16 + (1 : Int)))
    else fuse_Safe_c0 k p2 t12
def fuse_Safe (k : Nat) (p0 : S30) (p1 : (List Int)) (p2 : Int) : Option Bool :=
  Option.bind (α := Bool) (if p2 < (0 : Int) then some (true)
  else (dfa_Has k p0 (ByteArray.mk #[32])).bind fun t8 =>
  if t8 ≠ p2 then some (true)
  else (dfa_Has k p0 (ByteArray.mk #[10])).bind fun t10 =>
  some (decide (t10 ≠ p2))) fun b5 =>
  if b5 = true then some (false)
  else (dfa_Trim k p0).bind fun t12 =>
  (dfa_Reached k t12 (0 : Int)).bind fun t14 =>
  fuse_Safe_l1 k p1 p2 t12 t14 k (0 : Int)
theorem fuse_Safe_spec {k : Nat} {p0 : S30} {p1 : (List Int)} {p2 : Int} {r : Bool} (h : fuse_Safe k p0 p1 p2 = some r) : Spec Try.prog 58 [(e30 p0), (.fz 1 (p1.map eI64)), (eI64 p2)] (eBool r) := by
  rw [fuse_Safe.eq_1] at h
  refine Spec.intro (res := [.tmp 6]) Try.func58 rfl rfl rfl (Nat.le_of_ble_eq_true rfl) ?_
  refine AW.sr ?_
  refine AO.box rfl 3 rfl (by decide) rfl rfl rfl fun n4 => ?_
  refine AO.c (Calm.assign rfl rfl) ?_
  refine AO.nK [1, 2, 3] ?_
  refine AW.seq ?_
  refine AW.seq ?_
  obtain ⟨b5, hq6, h⟩ := of_bind h
  refine AW.regM [(1, (.fz 1 (p1.map eI64))), (2, (eI64 p2)), (3, (.ptr n4 0)), (24, (eBool b5))] [(n4, (.mem (e30 p0)))] ?_ ?_
  ·refine AO.c (Calm.move rfl rfl) ?_
   refine AO.c (x := eBool (decide (p2 < (0 : Int)))) (Calm.int rfl rfl rfl rfl) ?_
   refine AO.c (Calm.move rfl rfl) ?_
   rcases of_ite hq6 with ⟨hc7, hq6⟩ | ⟨hc7, hq6⟩
   ·refine AO.sF rfl rfl (bD (decide_eq_true hc7)) ?_
    refine AO.sF rfl rfl (bD (decide_eq_true hc7)) ?_
    refine AO.sF rfl rfl (bD (decide_eq_true hc7)) ?_
    refine AO.sF rfl rfl (bD (decide_eq_true hc7)) ?_
    refine AO.c (Calm.pickT rfl (bD (decide_eq_true hc7)) rfl) ?_
    refine AO.c (Calm.move rfl rfl) ?_
    refine AO.sF rfl rfl rfl ?_
    refine AO.sF rfl rfl rfl ?_
    refine AO.sF rfl rfl rfl ?_
    refine AO.sF rfl rfl rfl ?_
    refine AO.c (Calm.pickT rfl rfl rfl) ?_
    cases hq6
    refine AO.nilE ⟨rfl, rfl⟩ ?_ ?_
    · exact ⟨rfl, rfl, rfl, rfl, trivial⟩
    · exact (Sub.refl _)
   ·refine AO.cG rfl rfl (bD (decide_eq_false hc7)) (Calm.load 0 rfl rfl rfl (At.cast At.here rfl) ag30 sz30) ?_
    obtain ⟨t8, et8, hq6⟩ := of_bind hq6
    refine AO.callG 2 false 13 [(e30 p0), (eStr (ByteArray.mk #[32]))] (eI64 t8) 15 rfl (by decide) ok83 rfl rfl (bD (decide_eq_false hc7)) rfl rfl ⟨rfl, rfl, rfl, rfl, trivial⟩ (dfa_Has_spec et8) ?_
    refine AO.cG rfl rfl (bD (decide_eq_false hc7)) (Calm.move rfl rfl) ?_
    refine AO.cG (x := eBool (decide (t8 ≠ p2))) rfl rfl (bD (decide_eq_false hc7)) (Calm.int rfl rfl rfl rfl) ?_
    refine AO.c (Calm.pickF rfl (bD (decide_eq_false hc7)) rfl) ?_
    refine AO.c (Calm.move rfl rfl) ?_
    rcases of_ite hq6 with ⟨hc9, hq6⟩ | ⟨hc9, hq6⟩
    ·refine AO.sF rfl rfl (bD (decide_eq_true hc9)) ?_
     refine AO.sF rfl rfl (bD (decide_eq_true hc9)) ?_
     refine AO.sF rfl rfl (bD (decide_eq_true hc9)) ?_
     refine AO.sF rfl rfl (bD (decide_eq_true hc9)) ?_
     refine AO.c (Calm.pickT rfl (bD (decide_eq_true hc9)) rfl) ?_
     cases hq6
     refine AO.nilE ⟨rfl, rfl⟩ ?_ ?_
     · exact ⟨rfl, rfl, rfl, rfl, trivial⟩
     · exact (Sub.refl _)
    ·refine AO.cG rfl rfl (bD (decide_eq_false hc9)) (Calm.load 0 rfl rfl rfl (At.cast At.here rfl) ag30 sz30) ?_
     obtain ⟨t10, et10, hq6⟩ := of_bind hq6
     refine AO.callG 8 false 19 [(e30 p0), (eStr (ByteArray.mk #[10]))] (eI64 t10) 21 rfl (by decide) ok83 rfl rfl (bD (decide_eq_false hc9)) rfl rfl ⟨rfl, rfl, rfl, rfl, trivial⟩ (dfa_Has_spec et10) ?_
     refine AO.cG rfl rfl (bD (decide_eq_false hc9)) (Calm.move rfl rfl) ?_
     refine AO.cG (x := eBool (decide (t10 ≠ p2))) rfl rfl (bD (decide_eq_false hc9)) (Calm.int rfl rfl rfl rfl) ?_
     refine AO.c (Calm.pickF rfl (bD (decide_eq_false hc9)) rfl) ?_
     cases hq6
     refine AO.nilE ⟨rfl, rfl⟩ ?_ ?_
     · exact ⟨rfl, rfl, rfl, rfl, trivial⟩
     · exact (Sub.refl _)
  ·rcases of_ite h with ⟨hc11, h⟩ | ⟨hc11, h⟩
   ·refine AW.condT' _ rfl hc11 ?_
    refine AW.sr ?_
    refine AO.c (Calm.assign rfl rfl) ?_
    refine AO.nH [6] (H' := []) (Sub.nil _) ?_
    refine AW.rK [6] ?_
    have hr := Option.some.inj h
    subst hr
    exact ⟨[(eBool false)], ⟨rfl, rfl, trivial⟩, rfl⟩
   ·refine AW.condF' _ rfl hc11 ?_
    refine AW.sK [1, 2, 3] ?_
    refine AW.sr ?_
    refine AO.c (Calm.load 0 rfl rfl rfl (At.cast At.here rfl) ag30 sz30) ?_
    obtain ⟨t12, et12, h⟩ := of_bind h
    refine AO.callS [(e30 p0)] (e30 t12) 26 rfl (by decide) ok66 rfl rfl rfl ⟨rfl, rfl, trivial⟩ (dfa_Trim_spec et12) ?_
    refine AO.alloc rfl 7 rfl (by decide) rfl zr30 lay30 fun n13 => ?_
    refine AO.store (X' := (e30 t12)) 0 rfl rfl rfl rfl rfl rfl (Put.cast Put.here rfl) rfl rfl sz30 rfl ?_
    refine AO.nH [1, 2, 7] (H' := [(n13, (.mem (e30 t12)))]) (Sub.cons 0 rfl (Sub.nil _)) ?_
    refine AW.sr ?_
    refine AO.c (Calm.load 0 rfl rfl rfl (At.cast At.here rfl) ag30 sz30) ?_
    obtain ⟨t14, et14, h⟩ := of_bind h
    refine AO.callS [(e30 t12), (eI64 (0 : Int))] (.fz 1 (t14.map eBool)) 28 rfl (by decide) ok84 rfl rfl rfl ⟨rfl, rfl, rfl, rfl, trivial⟩ (dfa_Reached_spec et14) ?_
    refine AO.c (Calm.assign rfl rfl) ?_
    refine AO.nK [1, 2, 7, 8] ?_
    refine AW.seq_mid (fun ρ H => ρ = [(2, (eI64 p2)), (7, (.ptr n13 0))] ∧ H = [(n13, (.mem (e30 t12)))] ∧ fuse_Safe_c0 k p2 t12 = some r) ?_ ?_
    ·refine AW.sr ?_
     refine AO.c (x := .ptr n13 256) (Calm.fldPtr rfl rfl Try.underlying30 rfl sz28 _ rfl) ?_
     refine AO.c (Calm.load 0 rfl rfl rfl (At.cast (At.fldS (At.fld0 At.here)) rfl) ag28 sz28) ?_
     refine AO.c (Calm.lenL rfl rfl Try.underlying28) ?_
     refine AO.c (Calm.move rfl rfl) ?_
     refine AO.nK [1, 2, 7, 8, 31, 32] ?_
     refine AW.block ?_
     refine AW.wK [1, 2, 7, 8, 31, 32] ?_
     refine AW.loop (fun kq ρ H => ∃ (x16 : Int), ρ = [(1, (.fz 1 (p1.map eI64))), (2, (eI64 p2)), (7, (.ptr n13 0)), (8, (.fz 1 (t14.map eBool))), (31, (eI64 (t12.f1.length : Int))), (32, (eI64 x16))] ∧ H = [(n13, (.mem (e30 t12)))] ∧ fuse_Safe_l1 k p1 p2 t12 t14 kq x16 = some r) k ⟨(0 : Int), rfl, rfl, h⟩ ?_
     rintro kq18 _ _ ⟨x16, rfl, rfl, h⟩
     cases kq18 with
     | zero => rw [fuse_Safe_l1.eq_1] at h; cases h
     | succ kq18 =>
     rw [fuse_Safe_l1.eq_2] at h
     generalize hrec17 : fuse_Safe_l1 k p1 p2 t12 t14 kq18 = rec17 at h
     refine AW.sr ?_
     refine AO.c (x := eBool (decide (x16 < (t12.f1.length : Int)))) (Calm.int rfl rfl rfl rfl) ?_
     refine AO.nK [1, 2, 7, 8, 31, 32, 33] ?_
     refine AW.seq ?_
     rcases of_ite h with ⟨hc19, h⟩ | ⟨hc19, h⟩
     ·refine AW.condP _ rfl hc19 ?_
      refine AW.sK [1, 2, 7, 8, 31, 32] ?_
      refine AW.seq ?_
      refine AW.block ?_
      refine AW.sr ?_
      refine AO.c (Calm.move rfl rfl) ?_
      refine AO.c (Calm.assign rfl rfl) ?_
      refine AO.nK [1, 2, 7, 8, 9, 31, 32] ?_
      refine AW.sr ?_
      refine AO.c (Calm.load 0 rfl rfl rfl (At.cast At.here rfl) ag30 sz30) ?_
      refine AO.c (Calm.move rfl rfl) ?_
      obtain ⟨t20, et20, h⟩ := of_bind h
      refine AO.callS [(e30 t12), (eI64 x16)] (eI64 t20) 37 rfl (by decide) ok85 rfl rfl rfl ⟨rfl, rfl, rfl, rfl, trivial⟩ (dfa_Mark_spec et20) ?_
      refine AO.c (Calm.assign rfl rfl) ?_
      refine AO.nK [1, 2, 7, 8, 9, 10, 31, 32] ?_
      refine AW.seq ?_
      obtain ⟨b21, hq22, h⟩ := of_bind h
      refine AW.regM [(1, (.fz 1 (p1.map eI64))), (2, (eI64 p2)), (7, (.ptr n13 0)), (8, (.fz 1 (t14.map eBool))), (31, (eI64 (t12.f1.length : Int))), (32, (eI64 x16)), (57, (eBool b21))] [(n13, (.mem (e30 t12)))] ?_ ?_
      ·refine AO.c (Calm.move rfl rfl) ?_
       refine AO.c (Calm.move rfl rfl) ?_
       obtain ⟨hg23, hq22⟩ := of_guard hq22
       refine AO.c (Calm.idxL (f := eBool) rfl rfl rfl hg23 Try.underlying49 sz4) ?_
       refine AO.c (Calm.loadRp rfl rfl ag4 sz4) ?_
       refine AO.c (Calm.move rfl rfl) ?_
       rcases of_ite hq22 with ⟨hc24, hq22⟩ | ⟨hc24, hq22⟩
       ·refine AO.cG rfl rfl (bD hc24) (Calm.move rfl rfl) ?_
        refine AO.cG (x := eBool (decide ((0 : Int) ≤ t20))) rfl rfl (bD hc24) (Calm.int rfl rfl rfl rfl) ?_
        refine AO.c (Calm.pickT rfl (bD hc24) rfl) ?_
        refine AO.c (Calm.move rfl rfl) ?_
        rcases of_ite hq22 with ⟨hc25, hq22⟩ | ⟨hc25, hq22⟩
        ·refine AO.cG rfl rfl (bD (decide_eq_true hc25)) (Calm.move rfl rfl) ?_
         refine AO.cG rfl rfl (bD (decide_eq_true hc25)) (Calm.move rfl rfl) ?_
         refine AO.cG (x := eBool (decide (t20 ≠ p2))) rfl rfl (bD (decide_eq_true hc25)) (Calm.int rfl rfl rfl rfl) ?_
         refine AO.c (Calm.pickT rfl (bD (decide_eq_true hc25)) rfl) ?_
         refine AO.c (Calm.move rfl rfl) ?_
         rcases of_ite hq22 with ⟨hc26, hq22⟩ | ⟨hc26, hq22⟩
         ·refine AO.cG rfl rfl (bD (decide_eq_true hc26)) (Calm.load 0 rfl rfl rfl (At.cast At.here rfl) ag30 sz30) ?_
          refine AO.cG rfl rfl (bD (decide_eq_true hc26)) (Calm.move rfl rfl) ?_
          refine AO.cG rfl rfl (bD (decide_eq_true hc26)) (Calm.move rfl rfl) ?_
          obtain ⟨t27, et27, hq22⟩ := of_bind hq22
          refine AO.callG 13 true 51 [(e30 t12), (.fz 1 (p1.map eI64)), (eI64 x16)] (eBool t27) 55 rfl (by decide) ok86 rfl rfl (bD (decide_eq_true hc26)) rfl rfl ⟨rfl, rfl, rfl, rfl, rfl, rfl, trivial⟩ (fuse_ends_spec et27) ?_
          refine AO.cG rfl rfl (bD (decide_eq_true hc26)) (Calm.not rfl rfl) ?_
          refine AO.c (Calm.pickT rfl (bD (decide_eq_true hc26)) rfl) ?_
          cases hq22
          refine AO.nilE ⟨rfl, rfl⟩ ?_ ?_
          · exact ⟨rfl, rfl, rfl, rfl, rfl, rfl, rfl, trivial⟩
          · exact (Sub.refl _)
         ·refine AO.sT rfl rfl (bD (decide_eq_false hc26)) ?_
          refine AO.sT rfl rfl (bD (decide_eq_false hc26)) ?_
          refine AO.sT rfl rfl (bD (decide_eq_false hc26)) ?_
          refine AO.sT rfl rfl (bD (decide_eq_false hc26)) ?_
          refine AO.sT rfl rfl (bD (decide_eq_false hc26)) ?_
          refine AO.c (Calm.pickF rfl (bD (decide_eq_false hc26)) rfl) ?_
          cases hq22
          refine AO.nilE ⟨rfl, rfl⟩ ?_ ?_
          · exact ⟨rfl, rfl, rfl, rfl, rfl, rfl, rfl, trivial⟩
          · exact (Sub.refl _)
        ·refine AO.sT rfl rfl (bD (decide_eq_false hc25)) ?_
         refine AO.sT rfl rfl (bD (decide_eq_false hc25)) ?_
         refine AO.sT rfl rfl (bD (decide_eq_false hc25)) ?_
         refine AO.c (Calm.pickF rfl (bD (decide_eq_false hc25)) rfl) ?_
         refine AO.c (Calm.move rfl rfl) ?_
         refine AO.sT rfl rfl rfl ?_
         refine AO.sT rfl rfl rfl ?_
         refine AO.sT rfl rfl rfl ?_
         refine AO.sT rfl rfl rfl ?_
         refine AO.sT rfl rfl rfl ?_
         refine AO.c (Calm.pickF rfl rfl rfl) ?_
         cases hq22
         refine AO.nilE ⟨rfl, rfl⟩ ?_ ?_
         · exact ⟨rfl, rfl, rfl, rfl, rfl, rfl, rfl, trivial⟩
         · exact (Sub.refl _)
       ·refine AO.sT rfl rfl (bD (eq_false_of_ne_true hc24)) ?_
        refine AO.sT rfl rfl (bD (eq_false_of_ne_true hc24)) ?_
        refine AO.c (Calm.pickF rfl (bD (eq_false_of_ne_true hc24)) rfl) ?_
        refine AO.c (Calm.move rfl rfl) ?_
        refine AO.sT rfl rfl rfl ?_
        refine AO.sT rfl rfl rfl ?_
        refine AO.sT rfl rfl rfl ?_
        refine AO.c (Calm.pickF rfl rfl rfl) ?_
        refine AO.c (Calm.move rfl rfl) ?_
        refine AO.sT rfl rfl rfl ?_
        refine AO.sT rfl rfl rfl ?_
        refine AO.sT rfl rfl rfl ?_
        refine AO.sT rfl rfl rfl ?_
        refine AO.sT rfl rfl rfl ?_
        refine AO.c (Calm.pickF rfl rfl rfl) ?_
        cases hq22
        refine AO.nilE ⟨rfl, rfl⟩ ?_ ?_
        · exact ⟨rfl, rfl, rfl, rfl, rfl, rfl, rfl, trivial⟩
        · exact (Sub.refl _)
      ·rcases of_ite h with ⟨hc28, h⟩ | ⟨hc28, h⟩
       ·refine AW.condT' _ rfl hc28 ?_
        refine AW.sr ?_
        refine AO.c (Calm.assign rfl rfl) ?_
        refine AO.nH [6] (H' := []) (Sub.nil _) ?_
        refine AW.rK [6] ?_
        have hr := Option.some.inj h
        subst hr
        exact ⟨[(eBool false)], ⟨rfl, rfl, trivial⟩, rfl⟩
       ·refine AW.condF' _ rfl hc28 ?_
        refine AW.sK [1, 2, 7, 8, 31, 32] ?_
        refine AW.reg ?_
        refine AO.c (x := eI64 (w64 (x16 + (1 : Int)))) (Calm.int rfl rfl rfl rfl) ?_
        refine AO.c (Calm.move rfl rfl) ?_
        refine AO.nK [1, 2, 7, 8, 31, 32] ?_
        exact ⟨kq18, Nat.lt_succ_self _, (w64 (x16 + (1 : Int))), rfl, rfl, by rw [hrec17]; exact h⟩
     ·refine AW.condN _ rfl hc19 ?_
      refine AW.eK [2, 7] ?_
      exact ⟨rfl, rfl, h⟩
    ·rintro _ _ ⟨rfl, rfl, h⟩
     rw [fuse_Safe_c0.eq_1] at h
     refine AW.sr ?_
     refine AO.c (Calm.load 0 rfl rfl rfl (At.cast At.here rfl) ag30 sz30) ?_
     refine AO.c (Calm.move rfl rfl) ?_
     obtain ⟨t15, et15, h⟩ := of_bind h
     refine AO.callS [(e30 t12), (eI64 p2)] (eBool t15) 61 rfl (by decide) ok87 rfl rfl rfl ⟨rfl, rfl, rfl, rfl, trivial⟩ (fuse_blanks_spec et15) ?_
     refine AO.c (Calm.assign rfl rfl) ?_
     refine AO.nH [6] (H' := []) (Sub.nil _) ?_
     refine AW.rK [6] ?_
     have hr := Option.some.inj h
     subst hr
     exact ⟨[(eBool t15)], ⟨rfl, rfl, trivial⟩, rfl⟩
end Go.Avl.T5
/- bosket/bosketlaw15.awake; printed by avmain.py. -/
namespace Go.Avl.T5
open Go Go.RowKit Go.Proofs Go.Avl
set_option linter.unusedVariables false
set_option maxRecDepth 100000
set_option maxHeartbeats 4000000
attribute [local irreducible] AW AO AQ Spec SpecH Calm

def bosketlaw15_awake (k : Nat) : Option Bool :=
  (bosketlaw15_machine k).bind fun t1 =>
  (fuse_Gaps k t1 (2 : Int) [(ByteArray.mk #[97]), (ByteArray.mk #[97])]).bind fun t3 =>
  Option.bind (α := Bool) (if t3.2 = (0 : Int) then if (t3.1.length : Int) = (1 : Int) then if 0 ≤ (0 : Int) ∧ (0 : Int) < (t3.1.length : Int) then if (lget t3.1 (0 : Int)) = true then (bosketlaw15_machine k).bind fun t10 =>
  (fuse_Safe k t10 [] (2 : Int)).bind fun t11 =>
  some (t11)
  else some (false)
  else none
  else some (false)
  else some (false)) fun b4 =>
  some (b4)
theorem bosketlaw15_awake_spec {k : Nat}  {r : Bool} (h : bosketlaw15_awake k = some r) : Spec Try.prog 23 [] (eBool r) := by
  rw [bosketlaw15_awake.eq_1] at h
  refine Spec.intro (res := [.tmp 0]) Try.func23 rfl rfl rfl (Nat.le_of_ble_eq_true rfl) ?_
  refine AW.sr ?_
  refine AO.c (Calm.assign rfl rfl) ?_
  refine AO.nK [] ?_
  refine AW.sr ?_
  obtain ⟨t1, et1, h⟩ := of_bind h
  refine AO.callS [] (e30 t1) 4 rfl (by decide) ok57 rfl rfl rfl trivial (bosketlaw15_machine_spec et1) ?_
  refine AO.lit (Z := (eStr ByteArray.empty)) (xs := (([(ByteArray.mk #[97]), (ByteArray.mk #[97])] : List ByteArray).map eStr)) (qs := [(0, (eStr (ByteArray.mk #[97]))), (1, (eStr (ByteArray.mk #[97])))]) rfl 5 rfl (by decide) rfl ⟨rfl, rfl, rfl, rfl, rfl, rfl, trivial⟩ Try.underlying53 sz9 zr9 lay9 rfl (by decide) (litOK (z := 1) [(eStr (ByteArray.mk #[97])), (eStr (ByteArray.mk #[97]))] rfl ⟨⟨rfl, rfl⟩, ⟨rfl, rfl⟩, trivial⟩) rfl fun n2 => ?_
  obtain ⟨t3, et3, h⟩ := of_bind h
  refine AO.freezeS 0 [(5, (.fz 1 (([(ByteArray.mk #[97]), (ByteArray.mk #[97])] : List ByteArray).map eStr)))] rfl ⟨fz_all rfl, trivial⟩ ?_
  refine AO.callS [(e30 t1), (eI64 (2 : Int)), (.fz 1 (([(ByteArray.mk #[97]), (ByteArray.mk #[97])] : List ByteArray).map eStr))] (.tup [(.fz 1 (t3.1.map eBool)), (eI64 t3.2)]) 6 rfl (by decide) ok27 rfl rfl rfl ⟨rfl, rfl, rfl, rfl, rfl, rfl, trivial⟩ (fuse_Gaps_spec et3) ?_
  refine AO.c (Calm.move rfl rfl) ?_
  refine AO.c (Calm.extract rfl rfl rfl) ?_
  refine AO.c (Calm.extract rfl rfl rfl) ?_
  refine AO.c (Calm.assign rfl rfl) ?_
  refine AO.c (Calm.assign rfl rfl) ?_
  refine AO.nK [1, 2] ?_
  refine AW.seq ?_
  obtain ⟨b4, hq5, h⟩ := of_bind h
  refine AW.regM [(0, (eBool b4))] [] ?_ ?_
  ·refine AO.c (Calm.move rfl rfl) ?_
   refine AO.c (x := eBool (decide (t3.2 = (0 : Int)))) (Calm.int rfl rfl rfl rfl) ?_
   refine AO.c (Calm.move rfl rfl) ?_
   rcases of_ite hq5 with ⟨hc6, hq5⟩ | ⟨hc6, hq5⟩
   ·refine AO.cG rfl rfl (bD (decide_eq_true hc6)) (Calm.move rfl rfl) ?_
    refine AO.cG rfl rfl (bD (decide_eq_true hc6)) (Calm.lenL rfl rfl Try.underlying49) ?_
    refine AO.cG (x := eBool (decide ((t3.1.length : Int) = (1 : Int)))) rfl rfl (bD (decide_eq_true hc6)) (Calm.int rfl rfl rfl rfl) ?_
    refine AO.c (Calm.pickT rfl (bD (decide_eq_true hc6)) rfl) ?_
    refine AO.c (Calm.move rfl rfl) ?_
    rcases of_ite hq5 with ⟨hc7, hq5⟩ | ⟨hc7, hq5⟩
    ·refine AO.cG rfl rfl (bD (decide_eq_true hc7)) (Calm.move rfl rfl) ?_
     obtain ⟨hg8, hq5⟩ := of_guard hq5
     refine AO.cG rfl rfl (bD (decide_eq_true hc7)) (Calm.idxL (f := eBool) rfl rfl rfl hg8 Try.underlying49 sz4) ?_
     refine AO.cG rfl rfl (bD (decide_eq_true hc7)) (Calm.loadRp rfl rfl ag4 sz4) ?_
     refine AO.c (Calm.pickT rfl (bD (decide_eq_true hc7)) rfl) ?_
     refine AO.c (Calm.move rfl rfl) ?_
     rcases of_ite hq5 with ⟨hc9, hq5⟩ | ⟨hc9, hq5⟩
     ·obtain ⟨t10, et10, hq5⟩ := of_bind hq5
      refine AO.callG 12 true 21 [] (e30 t10) 22 rfl (by decide) ok57 rfl rfl (bD hc9) rfl rfl trivial (bosketlaw15_machine_spec et10) ?_
      obtain ⟨t11, et11, hq5⟩ := of_bind hq5
      refine AO.callCG 12 true 21 [(e30 t10), (.fz 1 (([] : List Int).map eI64)), (eI64 (2 : Int))] (eBool t11) 23 rfl (by decide) ok58 rfl rfl (bD hc9) rfl rfl ⟨⟨_, rfl, Coe.refl, rfl⟩, ⟨_, rfl, Coe.nil, rfl⟩, ⟨_, rfl, Coe.refl, rfl⟩, trivial⟩ (fuse_Safe_spec et11) ?_
      refine AO.c (Calm.pickT rfl (bD hc9) rfl) ?_
      refine AO.c (Calm.assign rfl rfl) ?_
      cases hq5
      refine AO.nilE ⟨rfl, rfl⟩ ?_ ?_
      · exact ⟨rfl, trivial⟩
      · exact (Sub.refl _)
     ·refine AO.sT rfl rfl (bD (eq_false_of_ne_true hc9)) ?_
      refine AO.sT rfl rfl (bD (eq_false_of_ne_true hc9)) ?_
      refine AO.c (Calm.pickF rfl (bD (eq_false_of_ne_true hc9)) rfl) ?_
      refine AO.c (Calm.assign rfl rfl) ?_
      cases hq5
      refine AO.nilE ⟨rfl, rfl⟩ ?_ ?_
      · exact ⟨rfl, trivial⟩
      · exact (Sub.refl _)
    ·refine AO.sT rfl rfl (bD (decide_eq_false hc7)) ?_
     refine AO.sT rfl rfl (bD (decide_eq_false hc7)) ?_
     refine AO.sT rfl rfl (bD (decide_eq_false hc7)) ?_
     refine AO.c (Calm.pickF rfl (bD (decide_eq_false hc7)) rfl) ?_
     refine AO.c (Calm.move rfl rfl) ?_
     refine AO.sT rfl rfl rfl ?_
     refine AO.sT rfl rfl rfl ?_
     refine AO.c (Calm.pickF rfl rfl rfl) ?_
     refine AO.c (Calm.assign rfl rfl) ?_
     cases hq5
     refine AO.nilE ⟨rfl, rfl⟩ ?_ ?_
     · exact ⟨rfl, trivial⟩
     · exact (Sub.refl _)
   ·refine AO.sT rfl rfl (bD (decide_eq_false hc6)) ?_
    refine AO.sT rfl rfl (bD (decide_eq_false hc6)) ?_
    refine AO.sT rfl rfl (bD (decide_eq_false hc6)) ?_
    refine AO.c (Calm.pickF rfl (bD (decide_eq_false hc6)) rfl) ?_
    refine AO.c (Calm.move rfl rfl) ?_
    refine AO.sT rfl rfl rfl ?_
    refine AO.sT rfl rfl rfl ?_
    refine AO.sT rfl rfl rfl ?_
    refine AO.c (Calm.pickF rfl rfl rfl) ?_
    refine AO.c (Calm.move rfl rfl) ?_
    refine AO.sT rfl rfl rfl ?_
    refine AO.sT rfl rfl rfl ?_
    refine AO.c (Calm.pickF rfl rfl rfl) ?_
    refine AO.c (Calm.assign rfl rfl) ?_
    cases hq5
    refine AO.nilE ⟨rfl, rfl⟩ ?_ ?_
    · exact ⟨rfl, trivial⟩
    · exact (Sub.refl _)
  ·refine AW.rK [0] ?_
   have hr := Option.some.inj h
   subst hr
   exact ⟨[(eBool b4)], ⟨rfl, rfl, trivial⟩, rfl⟩
end Go.Avl.T5
/- bosket/bosketlaw15.FuseNeeds; printed by avmain.py. -/
namespace Go.Avl.T5
open Go Go.RowKit Go.Proofs Go.Avl
set_option linter.unusedVariables false
set_option maxRecDepth 100000
set_option maxHeartbeats 4000000
attribute [local irreducible] AW AO AQ Spec SpecH Calm

def bosketlaw15_FuseNeeds_c0 (k : Nat) : Option Bool :=
  some (true)
def bosketlaw15_FuseNeeds_l1 (k : Nat) (p0 : S30) (p1 : Int) (p2 : (List ByteArray)) (t15 : ((List Bool) × Int)) : Nat → Int → Option Bool
  | 0, _ => none
  | j + 1, x23 =>
    if x23 < (t15.1.length : Int) then if (([] : List Bool) ++ t15.1).length * 1 ≤ 140737488355328 then if 0 ≤ x23 ∧ x23 < ((([] : List Bool) ++ t15.1).length : Int) then Option.bind (α := Bool) (if 0 ≤ x23 ∧ x23 < (t15.1.length : Int) then if (lget t15.1 x23) = true then (fuse_Join k p2 (lset (([] : List Bool) ++ t15.1) x23 false)).bind fun t35 =>
    (fuse_Splits k p0 p1 t35 p2).bind fun t36 =>
    some (t36)
    else some (false)
    else none) fun b31 =>
    if b31 = true then some (false)
    else (bosketlaw15_FuseNeeds_l1 k p0 p1 p2 t15 j) (w64 (x23 + (1 : Int)))
    else none
    else none
    else bosketlaw15_FuseNeeds_c0 k
def bosketlaw15_FuseNeeds (k : Nat) (p0 : S30) (p1 : Int) (p2 : (List ByteArray)) : Option Bool :=
  (bosketlaw15_awake k).bind fun t5 =>
  if (!t5) = true then some (false)
  else Option.bind (α := Bool) ((bosketlaw08_Small k p0).bind fun t9 =>
  if (!t9) = true then some (true)
  else (bosketref08_Right k p0).bind fun t11 =>
  if (!t11) = true then some (true)
  else (bosketlaw15_few k p2).bind fun t13 =>
  some (!t13)) fun b7 =>
  if b7 = true then some (true)
  else (fuse_Gaps k p0 p1 p2).bind fun t15 =>
  if t15.2 ≠ (0 : Int) then some (decide ((t15.1.length : Int) = (0 : Int)))
  else Option.bind (α := Bool) (if (t15.1.length : Int) ≠ (max (w64 ((p2.length : Int) - (1 : Int))) (0 : Int)) then some (true)
  else (fuse_Join k p2 t15.1).bind fun t20 =>
  (fuse_Splits k p0 p1 t20 p2).bind fun t21 =>
  some (!t21)) fun b17 =>
  if b17 = true then some (false)
  else bosketlaw15_FuseNeeds_l1 k p0 p1 p2 t15 k (0 : Int)
theorem bosketlaw15_FuseNeeds_spec {k : Nat} {p0 : S30} {p1 : Int} {p2 : (List ByteArray)} {r : Bool} (h : bosketlaw15_FuseNeeds k p0 p1 p2 = some r) : Spec Try.prog 7 [(e30 p0), (eI64 p1), (.fz 1 (p2.map eStr))] (eBool r) := by
  rw [bosketlaw15_FuseNeeds.eq_1] at h
  refine Spec.intro (res := [.tmp 6]) Try.func7 rfl rfl rfl (Nat.le_of_ble_eq_true rfl) ?_
  refine AW.sr ?_
  refine AO.box rfl 3 rfl (by decide) rfl rfl rfl fun n4 => ?_
  refine AO.c (Calm.assign rfl rfl) ?_
  refine AO.nK [1, 2, 3] ?_
  refine AW.seq ?_
  refine AW.sr ?_
  obtain ⟨t5, et5, h⟩ := of_bind h
  refine AO.callS [] (eBool t5) 11 rfl (by decide) ok23 rfl rfl rfl trivial (bosketlaw15_awake_spec et5) ?_
  refine AO.c (Calm.not rfl rfl) ?_
  refine AO.nK [1, 2, 3, 12] ?_
  rcases of_ite h with ⟨hc6, h⟩ | ⟨hc6, h⟩
  ·refine AW.condT' _ rfl hc6 ?_
   refine AW.sr ?_
   refine AO.c (Calm.assign rfl rfl) ?_
   refine AO.nH [6] (H' := []) (Sub.nil _) ?_
   refine AW.rK [6] ?_
   have hr := Option.some.inj h
   subst hr
   exact ⟨[(eBool false)], ⟨rfl, rfl, trivial⟩, rfl⟩
  ·refine AW.condF' _ rfl hc6 ?_
   refine AW.sK [1, 2, 3] ?_
   refine AW.seq ?_
   refine AW.seq ?_
   obtain ⟨b7, hq8, h⟩ := of_bind h
   refine AW.regM [(1, (eI64 p1)), (2, (.fz 1 (p2.map eStr))), (3, (.ptr n4 0)), (25, (eBool b7))] [(n4, (.mem (e30 p0)))] ?_ ?_
   ·refine AO.c (Calm.load 0 rfl rfl rfl (At.cast At.here rfl) ag30 sz30) ?_
    obtain ⟨t9, et9, hq8⟩ := of_bind hq8
    refine AO.callS [(e30 p0)] (eBool t9) 14 rfl (by decide) ok24 rfl rfl rfl ⟨rfl, rfl, trivial⟩ (bosketlaw08_Small_spec et9) ?_
    refine AO.c (Calm.not rfl rfl) ?_
    refine AO.c (Calm.move rfl rfl) ?_
    rcases of_ite hq8 with ⟨hc10, hq8⟩ | ⟨hc10, hq8⟩
    ·refine AO.sF rfl rfl (bD hc10) ?_
     refine AO.sF rfl rfl (bD hc10) ?_
     refine AO.sF rfl rfl (bD hc10) ?_
     refine AO.c (Calm.pickT rfl (bD hc10) rfl) ?_
     refine AO.c (Calm.move rfl rfl) ?_
     refine AO.sF rfl rfl rfl ?_
     refine AO.sF rfl rfl rfl ?_
     refine AO.sF rfl rfl rfl ?_
     refine AO.c (Calm.pickT rfl rfl rfl) ?_
     cases hq8
     refine AO.nilE ⟨rfl, rfl⟩ ?_ ?_
     · exact ⟨rfl, rfl, rfl, rfl, trivial⟩
     · exact (Sub.refl _)
    ·refine AO.cG rfl rfl (bD (eq_false_of_ne_true hc10)) (Calm.load 0 rfl rfl rfl (At.cast At.here rfl) ag30 sz30) ?_
     obtain ⟨t11, et11, hq8⟩ := of_bind hq8
     refine AO.callG 3 false 16 [(e30 p0)] (eBool t11) 18 rfl (by decide) ok25 rfl rfl (bD (eq_false_of_ne_true hc10)) rfl rfl ⟨rfl, rfl, trivial⟩ (bosketref08_Right_spec et11) ?_
     refine AO.cG rfl rfl (bD (eq_false_of_ne_true hc10)) (Calm.not rfl rfl) ?_
     refine AO.c (Calm.pickF rfl (bD (eq_false_of_ne_true hc10)) rfl) ?_
     refine AO.c (Calm.move rfl rfl) ?_
     rcases of_ite hq8 with ⟨hc12, hq8⟩ | ⟨hc12, hq8⟩
     ·refine AO.sF rfl rfl (bD hc12) ?_
      refine AO.sF rfl rfl (bD hc12) ?_
      refine AO.sF rfl rfl (bD hc12) ?_
      refine AO.c (Calm.pickT rfl (bD hc12) rfl) ?_
      cases hq8
      refine AO.nilE ⟨rfl, rfl⟩ ?_ ?_
      · exact ⟨rfl, rfl, rfl, rfl, trivial⟩
      · exact (Sub.refl _)
     ·refine AO.cG rfl rfl (bD (eq_false_of_ne_true hc12)) (Calm.move rfl rfl) ?_
      obtain ⟨t13, et13, hq8⟩ := of_bind hq8
      refine AO.callG 8 false 21 [(.fz 1 (p2.map eStr))] (eBool t13) 23 rfl (by decide) ok26 rfl rfl (bD (eq_false_of_ne_true hc12)) rfl rfl ⟨rfl, rfl, trivial⟩ (bosketlaw15_few_spec et13) ?_
      refine AO.cG rfl rfl (bD (eq_false_of_ne_true hc12)) (Calm.not rfl rfl) ?_
      refine AO.c (Calm.pickF rfl (bD (eq_false_of_ne_true hc12)) rfl) ?_
      cases hq8
      refine AO.nilE ⟨rfl, rfl⟩ ?_ ?_
      · exact ⟨rfl, rfl, rfl, rfl, trivial⟩
      · exact (Sub.refl _)
   ·rcases of_ite h with ⟨hc14, h⟩ | ⟨hc14, h⟩
    ·refine AW.condT' _ rfl hc14 ?_
     refine AW.sr ?_
     refine AO.c (Calm.assign rfl rfl) ?_
     refine AO.nH [6] (H' := []) (Sub.nil _) ?_
     refine AW.rK [6] ?_
     have hr := Option.some.inj h
     subst hr
     exact ⟨[(eBool true)], ⟨rfl, rfl, trivial⟩, rfl⟩
    ·refine AW.condF' _ rfl hc14 ?_
     refine AW.sK [1, 2, 3] ?_
     refine AW.sr ?_
     refine AO.c (Calm.load 0 rfl rfl rfl (At.cast At.here rfl) ag30 sz30) ?_
     refine AO.c (Calm.move rfl rfl) ?_
     refine AO.c (Calm.move rfl rfl) ?_
     obtain ⟨t15, et15, h⟩ := of_bind h
     refine AO.callS [(e30 p0), (eI64 p1), (.fz 1 (p2.map eStr))] (.tup [(.fz 1 (t15.1.map eBool)), (eI64 t15.2)]) 30 rfl (by decide) ok27 rfl rfl rfl ⟨rfl, rfl, rfl, rfl, rfl, rfl, trivial⟩ (fuse_Gaps_spec et15) ?_
     refine AO.c (Calm.move rfl rfl) ?_
     refine AO.c (Calm.extract rfl rfl rfl) ?_
     refine AO.c (Calm.extract rfl rfl rfl) ?_
     refine AO.c (Calm.assign rfl rfl) ?_
     refine AO.c (Calm.assign rfl rfl) ?_
     refine AO.nK [1, 2, 3, 7, 8] ?_
     refine AW.seq ?_
     refine AW.sr ?_
     refine AO.c (Calm.move rfl rfl) ?_
     refine AO.c (x := eBool (decide (t15.2 ≠ (0 : Int)))) (Calm.int rfl rfl rfl rfl) ?_
     refine AO.nK [1, 2, 3, 7, 34] ?_
     rcases of_ite h with ⟨hc16, h⟩ | ⟨hc16, h⟩
     ·refine AW.condP _ rfl hc16 ?_
      refine AW.sr ?_
      refine AO.c (Calm.move rfl rfl) ?_
      refine AO.c (Calm.lenL rfl rfl Try.underlying49) ?_
      refine AO.c (x := eBool (decide ((t15.1.length : Int) = (0 : Int)))) (Calm.int rfl rfl rfl rfl) ?_
      refine AO.c (Calm.assign rfl rfl) ?_
      refine AO.nH [6] (H' := []) (Sub.nil _) ?_
      refine AW.rK [6] ?_
      have hr := Option.some.inj h
      subst hr
      exact ⟨[(eBool (decide ((t15.1.length : Int) = (0 : Int))))], ⟨rfl, rfl, trivial⟩, rfl⟩
     ·refine AW.condN _ rfl hc16 ?_
      refine AW.sK [1, 2, 3, 7] ?_
      refine AW.seq ?_
      refine AW.seq ?_
      obtain ⟨b17, hq18, h⟩ := of_bind h
      refine AW.regQM (by rfl) (by decide +kernel) [(1, (eI64 p1)), (2, (.fz 1 (p2.map eStr))), (3, (.ptr n4 0)), (7, (.fz 1 (t15.1.map eBool))), (54, (eBool b17))] ?_ ?_
      ·refine AQ.c (Calm.move rfl rfl) ?_
       refine AQ.c (Calm.lenL rfl rfl Try.underlying49) ?_
       refine AQ.c (Calm.move rfl rfl) ?_
       refine AQ.c (Calm.lenL rfl rfl Try.underlying53) ?_
       refine AQ.c (x := eI64 (w64 ((p2.length : Int) - (1 : Int)))) (Calm.int rfl rfl rfl rfl) ?_
       refine AQ.c (x := eI64 (max (w64 ((p2.length : Int) - (1 : Int))) (0 : Int))) (Calm.max2 rfl rfl rfl) ?_
       refine AQ.c (x := eBool (decide ((t15.1.length : Int) ≠ (max (w64 ((p2.length : Int) - (1 : Int))) (0 : Int))))) (Calm.int rfl rfl rfl rfl) ?_
       refine AQ.c (Calm.move rfl rfl) ?_
       rcases of_ite hq18 with ⟨hc19, hq18⟩ | ⟨hc19, hq18⟩
       ·refine AQ.sF rfl rfl (bD (decide_eq_true hc19)) ?_
        refine AQ.sF rfl rfl (bD (decide_eq_true hc19)) ?_
        refine AQ.sF rfl rfl (bD (decide_eq_true hc19)) ?_
        refine AQ.sF rfl rfl (bD (decide_eq_true hc19)) ?_
        refine AQ.sF rfl rfl (bD (decide_eq_true hc19)) ?_
        refine AQ.sF rfl rfl (bD (decide_eq_true hc19)) ?_
        refine AQ.sF rfl rfl (bD (decide_eq_true hc19)) ?_
        refine AQ.sF rfl rfl (bD (decide_eq_true hc19)) ?_
        refine AQ.c (Calm.pickT rfl (bD (decide_eq_true hc19)) rfl) ?_
        cases hq18
        refine AQ.nilE rfl ?_
        exact ⟨rfl, rfl, rfl, rfl, rfl, trivial⟩
       ·refine AQ.cG rfl rfl (bD (decide_eq_false hc19)) (Calm.load 0 rfl rfl rfl (At.cast At.here rfl) ag30 sz30) ?_
        refine AQ.cG rfl rfl (bD (decide_eq_false hc19)) (Calm.move rfl rfl) ?_
        refine AQ.cG rfl rfl (bD (decide_eq_false hc19)) (Calm.move rfl rfl) ?_
        refine AQ.cG rfl rfl (bD (decide_eq_false hc19)) (Calm.move rfl rfl) ?_
        obtain ⟨t20, et20, hq18⟩ := of_bind hq18
        refine AQ.cG rfl rfl (bD (decide_eq_false hc19)) (Calm.call (args := [(.fz 1 (p2.map eStr)), (.fz 1 (t15.1.map eBool))]) rfl rfl ok31 ⟨rfl, rfl, rfl, rfl, trivial⟩ rfl (fuse_Join_spec et20)) ?_
        refine AQ.cG rfl rfl (bD (decide_eq_false hc19)) (Calm.move rfl rfl) ?_
        obtain ⟨t21, et21, hq18⟩ := of_bind hq18
        refine AQ.cG rfl rfl (bD (decide_eq_false hc19)) (Calm.call (args := [(e30 p0), (eI64 p1), (eStr t20), (.fz 1 (p2.map eStr))]) rfl rfl ok30 ⟨rfl, rfl, rfl, rfl, rfl, rfl, rfl, rfl, trivial⟩ rfl (fuse_Splits_spec et21)) ?_
        refine AQ.cG rfl rfl (bD (decide_eq_false hc19)) (Calm.not rfl rfl) ?_
        refine AQ.c (Calm.pickF rfl (bD (decide_eq_false hc19)) rfl) ?_
        cases hq18
        refine AQ.nilE rfl ?_
        exact ⟨rfl, rfl, rfl, rfl, rfl, trivial⟩
      ·rcases of_ite h with ⟨hc22, h⟩ | ⟨hc22, h⟩
       ·refine AW.condT' _ rfl hc22 ?_
        refine AW.sr ?_
        refine AO.c (Calm.assign rfl rfl) ?_
        refine AO.nH [6] (H' := []) (Sub.nil _) ?_
        refine AW.rK [6] ?_
        have hr := Option.some.inj h
        subst hr
        exact ⟨[(eBool false)], ⟨rfl, rfl, trivial⟩, rfl⟩
       ·refine AW.condF' _ rfl hc22 ?_
        refine AW.sK [1, 2, 3, 7] ?_
        refine AW.seq_mid (fun ρ H => ρ = [] ∧ H = [] ∧ bosketlaw15_FuseNeeds_c0 k = some r) ?_ ?_
        ·refine AW.sr ?_
         refine AO.c (Calm.assign rfl rfl) ?_
         refine AO.nK [1, 2, 3, 7, 9] ?_
         refine AW.block ?_
         refine AW.wK [1, 2, 3, 7, 9] ?_
         refine AW.loop (fun kq ρ H => ∃ (x23 : Int), ρ = [(1, (eI64 p1)), (2, (.fz 1 (p2.map eStr))), (3, (.ptr n4 0)), (7, (.fz 1 (t15.1.map eBool))), (9, (eI64 x23))] ∧ H = [(n4, (.mem (e30 p0)))] ∧ bosketlaw15_FuseNeeds_l1 k p0 p1 p2 t15 kq x23 = some r) k ⟨(0 : Int), rfl, rfl, h⟩ ?_
         rintro kq25 _ _ ⟨x23, rfl, rfl, h⟩
         cases kq25 with
         | zero => rw [bosketlaw15_FuseNeeds_l1.eq_1] at h; cases h
         | succ kq25 =>
         rw [bosketlaw15_FuseNeeds_l1.eq_2] at h
         generalize hrec24 : bosketlaw15_FuseNeeds_l1 k p0 p1 p2 t15 kq25 = rec24 at h
         refine AW.seq ?_
         refine AW.sr ?_
         refine AO.c (Calm.move rfl rfl) ?_
         refine AO.c (Calm.move rfl rfl) ?_
         refine AO.c (Calm.lenL rfl rfl Try.underlying49) ?_
         refine AO.c (x := eBool (decide (x23 < (t15.1.length : Int)))) (Calm.int rfl rfl rfl rfl) ?_
         refine AO.nK [1, 2, 3, 7, 9, 58] ?_
         rcases of_ite h with ⟨hc26, h⟩ | ⟨hc26, h⟩
         ·refine AW.condP _ rfl hc26 ?_
          refine AW.sK [1, 2, 3, 7, 9] ?_
          refine AW.seq ?_
          refine AW.block ?_
          refine AW.sr ?_
          refine AO.lit (Z := (eBool false)) (xs := (([] : List Bool).map eBool)) (qs := []) rfl 61 rfl (by decide) rfl trivial Try.underlying49 sz4 zr4 lay4 rfl (by decide) (litOK (z := 1) [] rfl trivial) rfl fun n27 => ?_
          refine AO.c (Calm.move rfl rfl) ?_
          obtain ⟨hg29, h⟩ := of_guard h
          refine AO.appendL (l := ([] : List Bool)) (m := t15.1) 0 63 rfl (by decide) rfl rfl rfl rfl rfl Src.fz Try.underlying49 Try.underlying49 sz4 by4 zr4 rfl hg29 (by decide) fun n28 => ?_
          refine AO.c (Calm.assign rfl rfl) ?_
          refine AO.nH [1, 2, 3, 7, 9, 10] (H' := [(n4, (.mem (e30 p0))), (n28, (.mem (.ar 1 ((([] : List Bool) ++ t15.1).map eBool))))]) (Sub.cons 1 rfl (Sub.cons 0 rfl (Sub.nil _))) ?_
          refine AW.sr ?_
          refine AO.c (Calm.move rfl rfl) ?_
          refine AO.c (Calm.move rfl rfl) ?_
          obtain ⟨hg30, h⟩ := of_guard h
          refine AO.c (Calm.idxO 1 rfl rfl rfl rfl hg30 Try.underlying49 sz4) ?_
          refine AO.store (X' := (.ar 1 ((lset (([] : List Bool) ++ t15.1) x23 false).map eBool))) 1 rfl rfl rfl rfl rfl rfl (Put.cast (Put.lidx x23 false hg30.1 hg30.2 Put.here) (by omega)) rfl rfl sz4 rfl ?_
          refine AO.coe 10 (y' := (.own n28 0 (lset (([] : List Bool) ++ t15.1) x23 false).length)) rfl (fun _ _ h => lset_own h) ?_
          refine AO.coe 64 (y' := (.own n28 0 (lset (([] : List Bool) ++ t15.1) x23 false).length)) rfl (fun _ _ h => lset_own h) ?_
          refine AO.nK [1, 2, 3, 7, 9, 10] ?_
          refine AW.seq ?_
          obtain ⟨b31, hq32, h⟩ := of_bind h
          refine AW.regQM (by rfl) (by decide +kernel) [(1, (eI64 p1)), (2, (.fz 1 (p2.map eStr))), (3, (.ptr n4 0)), (7, (.fz 1 (t15.1.map eBool))), (9, (eI64 x23)), (79, (eBool b31))] ?_ ?_
          ·refine AQ.c (Calm.move rfl rfl) ?_
           refine AQ.c (Calm.move rfl rfl) ?_
           obtain ⟨hg33, hq32⟩ := of_guard hq32
           refine AQ.c (Calm.idxL (f := eBool) rfl rfl rfl hg33 Try.underlying49 sz4) ?_
           refine AQ.c (Calm.loadRp rfl rfl ag4 sz4) ?_
           refine AQ.c (Calm.move rfl rfl) ?_
           rcases of_ite hq32 with ⟨hc34, hq32⟩ | ⟨hc34, hq32⟩
           ·refine AQ.cG rfl rfl (bD hc34) (Calm.load 0 rfl rfl rfl (At.cast At.here rfl) ag30 sz30) ?_
            refine AQ.cG rfl rfl (bD hc34) (Calm.move rfl rfl) ?_
            refine AQ.cG rfl rfl (bD hc34) (Calm.move rfl rfl) ?_
            refine AQ.cG rfl rfl (bD hc34) (Calm.move rfl rfl) ?_
            obtain ⟨t35, et35, hq32⟩ := of_bind hq32
            refine AQ.cG rfl rfl (bD hc34) (Calm.callB (args := [(.fz 1 (p2.map eStr)), (.fz 1 ((lset (([] : List Bool) ++ t15.1) x23 false).map eBool))]) rfl rfl ok31 ⟨.inl ⟨rfl, rfl⟩, .inr ⟨_, 0, _, _, _, 1, rfl, rfl, by simp, by rw [own_all]⟩, trivial⟩ rfl (fuse_Join_spec et35)) ?_
            refine AQ.cG rfl rfl (bD hc34) (Calm.move rfl rfl) ?_
            obtain ⟨t36, et36, hq32⟩ := of_bind hq32
            refine AQ.cG rfl rfl (bD hc34) (Calm.call (args := [(e30 p0), (eI64 p1), (eStr t35), (.fz 1 (p2.map eStr))]) rfl rfl ok30 ⟨rfl, rfl, rfl, rfl, rfl, rfl, rfl, rfl, trivial⟩ rfl (fuse_Splits_spec et36)) ?_
            refine AQ.c (Calm.pickT rfl (bD hc34) rfl) ?_
            cases hq32
            refine AQ.nilE rfl ?_
            exact ⟨rfl, rfl, rfl, rfl, rfl, rfl, trivial⟩
           ·refine AQ.sT rfl rfl (bD (eq_false_of_ne_true hc34)) ?_
            refine AQ.sT rfl rfl (bD (eq_false_of_ne_true hc34)) ?_
            refine AQ.sT rfl rfl (bD (eq_false_of_ne_true hc34)) ?_
            refine AQ.sT rfl rfl (bD (eq_false_of_ne_true hc34)) ?_
            refine AQ.sT rfl rfl (bD (eq_false_of_ne_true hc34)) ?_
            refine AQ.sT rfl rfl (bD (eq_false_of_ne_true hc34)) ?_
            refine AQ.sT rfl rfl (bD (eq_false_of_ne_true hc34)) ?_
            refine AQ.c (Calm.pickF rfl (bD (eq_false_of_ne_true hc34)) rfl) ?_
            cases hq32
            refine AQ.nilE rfl ?_
            exact ⟨rfl, rfl, rfl, rfl, rfl, rfl, trivial⟩
          ·rcases of_ite h with ⟨hc37, h⟩ | ⟨hc37, h⟩
           ·refine AW.condT' _ rfl hc37 ?_
            refine AW.sr ?_
            refine AO.c (Calm.assign rfl rfl) ?_
            refine AO.nH [6] (H' := []) (Sub.nil _) ?_
            refine AW.rK [6] ?_
            have hr := Option.some.inj h
            subst hr
            exact ⟨[(eBool false)], ⟨rfl, rfl, trivial⟩, rfl⟩
           ·refine AW.condF' _ rfl hc37 ?_
            refine AW.sH [1, 2, 3, 7, 9] (H' := [(n4, (.mem (e30 p0)))]) (Sub.cons 0 rfl (Sub.nil _)) ?_
            refine AW.reg ?_
            refine AO.c (Calm.move rfl rfl) ?_
            refine AO.c (x := eI64 (w64 (x23 + (1 : Int)))) (Calm.int rfl rfl rfl rfl) ?_
            refine AO.c (Calm.assign rfl rfl) ?_
            refine AO.nK [1, 2, 3, 7, 9] ?_
            exact ⟨kq25, Nat.lt_succ_self _, (w64 (x23 + (1 : Int))), rfl, rfl, by rw [hrec24]; exact h⟩
         ·refine AW.condN _ rfl hc26 ?_
          refine AW.eH [] (H' := []) (Sub.nil _) ?_
          exact ⟨rfl, rfl, h⟩
        ·rintro _ _ ⟨rfl, rfl, h⟩
         rw [bosketlaw15_FuseNeeds_c0.eq_1] at h
         refine AW.sr ?_
         refine AO.c (Calm.assign rfl rfl) ?_
         refine AO.nK [6] ?_
         refine AW.rK [6] ?_
         have hr := Option.some.inj h
         subst hr
         exact ⟨[(eBool true)], ⟨rfl, rfl, trivial⟩, rfl⟩
end Go.Avl.T5
