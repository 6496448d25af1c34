/- Parts: T5f15, T5f22, T5f12, T5f3. -/
import Derived.Test.YtoaomnfenofglaaAF1
import Derived.Test.YtoaomnfenofglaaAF2
import Derived.Test.YtoaomnfenofglaaAF4
/- bosket/bosketref07.Of; printed by avmain.py. -/
namespace Go.Avl.T5
open Go Go.RowKit Go.Proofs Go.Avl
set_option linter.unusedVariables false
set_option maxRecDepth 100000
set_option maxHeartbeats 4000000
set_option linter.unusedSimpArgs false
attribute [local irreducible] AW AO AQ Spec SpecH Calm

def bosketref07_Of_c0 (k : Nat) (x11 : (List (List Int))) (x13 : (List Int)) : Option ((List (List Int)) × (List Int)) :=
  some (x11, x13)
def bosketref07_Of_c1 (k : Nat) (rec21 : ((List (List Bool)) → (List (List Int)) → (List Int) → Int → Option ((List (List Int)) × (List Int)))) (x20 : Int) (x25 : (List (List Bool))) (x27 : (List (List Int))) (x29 : (List Int)) : Option ((List (List Int)) × (List Int)) :=
  rec21 x25 x27 x29 (w64 (x20 + (1 : Int)))
def bosketref07_Of_c2 (k : Nat) (rec21 : ((List (List Bool)) → (List (List Int)) → (List Int) → Int → Option ((List (List Int)) × (List Int)))) (x17 : (List (List Int))) (x19 : (List Int)) (x20 : Int) (t32 : Int) (x37 : (List (List Bool))) (x39 : (List Int)) : Option ((List (List Int)) × (List Int)) :=
  if (x17 ++ ([x39] : List (List Int))).length * 24 ≤ 140737488355328 then bosketref07_Of_c1 k rec21 x20 x37 (x17 ++ ([x39] : List (List Int))) (x19 ++ ([t32] : List Int))
  else none
def bosketref07_Of_c3 (k : Nat) (rec48 : ((List (List Bool)) → (List Int) → Int → Option ((List (List Int)) × (List Int)))) (x47 : Int) (x52 : (List (List Bool))) (x54 : (List Int)) : Option ((List (List Int)) × (List Int)) :=
  rec48 x52 x54 (w64 (x47 + (1 : Int)))
def bosketref07_Of_c4 (k : Nat) (rec48 : ((List (List Bool)) → (List Int) → Int → Option ((List (List Int)) × (List Int)))) (x46 : (List Int)) (x47 : Int) (x61 : (List (List Bool))) (x62 : Int) : Option ((List (List Int)) × (List Int)) :=
  if (x46 ++ ([x62] : List Int)).length * 8 ≤ 140737488355328 then bosketref07_Of_c3 k rec48 x47 x61 (x46 ++ ([x62] : List Int))
  else none
def bosketref07_Of_c5 (k : Nat) (rec48 : ((List (List Bool)) → (List Int) → Int → Option ((List (List Int)) × (List Int)))) (x44 : (List (List Bool))) (x46 : (List Int)) (x47 : Int) (t58 : (List Bool)) (x59 : Int) : Option ((List (List Int)) × (List Int)) :=
  Option.bind (α := Bool) (if x59 < (0 : Int) then (bosketref07_any k t58).bind fun t69 =>
  some (t69)
  else some (false)) fun b66 =>
  if b66 = true then if (x44 ++ ([t58] : List (List Bool))).length * 24 ≤ 140737488355328 then bosketref07_Of_c4 k rec48 x46 x47 (x44 ++ ([t58] : List (List Bool))) (x44.length : Int)
  else none
  else bosketref07_Of_c4 k rec48 x46 x47 x44 x59
def bosketref07_Of_c6 (k : Nat) (rec76 : (Int → Int → Option ((List (List Int)) × (List Int)))) (x75 : Int) (x84 : Int) : Option ((List (List Int)) × (List Int)) :=
  rec76 x84 (w64 (x75 + (1 : Int)))
def bosketref07_Of_l7 (k : Nat) (rec48 : ((List (List Bool)) → (List Int) → Int → Option ((List (List Int)) × (List Int)))) (x44 : (List (List Bool))) (x46 : (List Int)) (x47 : Int) (t58 : (List Bool)) : Nat → Int → Int → Option ((List (List Int)) × (List Int))
  | 0, _, _ => none
  | j + 1, x74, x75 =>
    Option.bind (α := Bool) (if x75 < (x44.length : Int) then (bosketref07_any k t58).bind fun t81 =>
    if t81 = true then some (decide (x74 < (0 : Int)))
    else some (false)
    else some (false)) fun b78 =>
    if b78 = true then if 0 ≤ x75 ∧ x75 < (x44.length : Int) then (bosketref06_Same k (lget x44 x75) t58).bind fun t86 =>
    if t86 = true then bosketref07_Of_c6 k (bosketref07_Of_l7 k rec48 x44 x46 x47 t58 j) x75 x75
    else bosketref07_Of_c6 k (bosketref07_Of_l7 k rec48 x44 x46 x47 t58 j) x75 x74
    else none
    else bosketref07_Of_c5 k rec48 x44 x46 x47 t58 x74
def bosketref07_Of_l8 (k : Nat) (rec21 : ((List (List Bool)) → (List (List Int)) → (List Int) → Int → Option ((List (List Int)) × (List Int)))) (p0 : S24) (t9 : (List Int)) (x17 : (List (List Int))) (x19 : (List Int)) (x20 : Int) (t32 : Int) : Nat → (List (List Bool)) → (List Int) → Int → Option ((List (List Int)) × (List Int))
  | 0, _, _, _ => none
  | j + 1, x44, x46, x47 =>
    if x47 < (t9.length : Int) then if 0 ≤ x20 ∧ x20 < (x44.length : Int) then if 0 ≤ x47 ∧ x47 < (t9.length : Int) then (bosketref06_Move k p0 (lget x44 x20) (lget t9 x47)).bind fun t57 =>
    (bosketref06_Close k p0 t57).bind fun t58 =>
    bosketref07_Of_l7 k (bosketref07_Of_l8 k rec21 p0 t9 x17 x19 x20 t32 j) x44 x46 x47 t58 k (-1 : Int) (0 : Int)
    else none
    else none
    else bosketref07_Of_c2 k rec21 x17 x19 x20 t32 x44 x46
def bosketref07_Of_l9 (k : Nat) (p0 : S24) (p1 : (List Int)) (t9 : (List Int)) : Nat → (List (List Bool)) → (List (List Int)) → (List Int) → Int → Option ((List (List Int)) × (List Int))
  | 0, _, _, _, _ => none
  | j + 1, x15, x17, x19, x20 =>
    if x20 < (x15.length : Int) then if (300 : Int) < (x15.length : Int) then some ([], [])
    else if 0 ≤ x20 ∧ x20 < (x15.length : Int) then (bosketref07_Mark k p1 (lget x15 x20)).bind fun t32 =>
    if (x19 ++ ([t32] : List Int)).length * 8 ≤ 140737488355328 then bosketref07_Of_l8 k (bosketref07_Of_l9 k p0 p1 t9 j) p0 t9 x17 x19 x20 t32 k x15 ([] : List Int) (0 : Int)
    else none
    else none
    else bosketref07_Of_c0 k x17 x19
def bosketref07_Of (k : Nat) (p0 : S24) (p1 : (List Int)) : Option ((List (List Int)) × (List Int)) :=
  if 0 ≤ p0.f0 ∧ p0.f0 * (1 : Int) ≤ 140737488355328 ∧ p0.f0 ≤ 9223372036854775807 then if 0 ≤ p0.f2 ∧ p0.f2 < ((List.replicate p0.f0.toNat false).length : Int) then (bosketref06_Close k p0 (lset (List.replicate p0.f0.toNat false) p0.f2 true)).bind fun t7 =>
  (bosketref07_Reps k p0).bind fun t9 =>
  bosketref07_Of_l9 k p0 p1 t9 k ([t7] : List (List Bool)) ([] : List (List Int)) ([] : List Int) (0 : Int)
  else none
  else none
theorem bosketref07_Of_spec {k : Nat} {p0 : S24} {p1 : (List Int)} {r : ((List (List Int)) × (List Int))} (h : bosketref07_Of k p0 p1 = some r) : Spec Try.prog 15 [(e24 p0), (.fz 1 (p1.map eI64))] (.tup [(.fz 1 (r.1.map e25)), (.fz 1 (r.2.map eI64))]) := by
  rw [bosketref07_Of.eq_1] at h
  refine Spec.intro (res := [.tmp 4, .tmp 5]) Try.func15 rfl rfl rfl (Nat.le_of_ble_eq_true rfl) ?_
  refine AW.sr ?_
  refine AO.box rfl 2 rfl (by decide) rfl rfl rfl fun n3 => ?_
  refine AO.c (Calm.assign rfl rfl) ?_
  refine AO.c (Calm.assign rfl rfl) ?_
  refine AO.nK [1, 2] ?_
  refine AW.sr ?_
  refine AO.c (x := .ptr n3 0) (Calm.fldPtr rfl rfl Try.underlying24 rfl sz3 _ rfl) ?_
  refine AO.c (Calm.load 0 rfl rfl rfl (At.cast (At.fld0 At.here) rfl) ag3 sz3) ?_
  obtain ⟨hg5, h⟩ := of_guard h
  refine AO.makeL (f := eBool) false rfl 19 rfl (by decide) rfl rfl rfl Try.underlying49 sz4 by4 zr4 lay4 rfl hg5 fun n4 => ?_
  refine AO.c (Calm.assign rfl rfl) ?_
  refine AO.nH [1, 2, 6] (H' := [(n3, (.mem (e24 p0))), (n4, (.mem (.ar 1 ((List.replicate p0.f0.toNat false).map eBool))))]) (Sub.cons 1 rfl (Sub.cons 0 rfl (Sub.nil _))) ?_
  refine AW.sr ?_
  refine AO.c (Calm.move rfl rfl) ?_
  refine AO.c (x := .ptr n3 2) (Calm.fldPtr rfl rfl Try.underlying24 rfl sz3 _ rfl) ?_
  refine AO.c (Calm.load 0 rfl rfl rfl (At.cast (At.fldS (At.fldS (At.fld0 At.here))) rfl) ag3 sz3) ?_
  obtain ⟨hg6, h⟩ := of_guard h
  refine AO.c (Calm.idxO 1 rfl rfl rfl rfl hg6 Try.underlying49 sz4) ?_
  refine AO.store (X' := (.ar 1 ((lset (List.replicate p0.f0.toNat false) p0.f2 true).map eBool))) 1 rfl rfl rfl rfl rfl rfl (Put.cast (Put.lidx p0.f2 true hg6.1 hg6.2 Put.here) (by omega)) rfl rfl sz4 rfl ?_
  refine AO.coe 6 (y' := (.own n4 0 (lset (List.replicate p0.f0.toNat false) p0.f2 true).length)) rfl (fun _ _ h => lset_own h) ?_
  refine AO.coe 20 (y' := (.own n4 0 (lset (List.replicate p0.f0.toNat false) p0.f2 true).length)) rfl (fun _ _ h => lset_own h) ?_
  refine AO.nK [1, 2, 6] ?_
  refine AW.sr ?_
  refine AO.c (Calm.load 0 rfl rfl rfl (At.cast At.here rfl) ag24 sz24) ?_
  refine AO.c (Calm.move rfl rfl) ?_
  obtain ⟨t7, et7, h⟩ := of_bind h
  refine AO.freezeS 1 [(6, (.fz 1 ((lset (List.replicate p0.f0.toNat false) p0.f2 true).map eBool))), (25, (.fz 1 ((lset (List.replicate p0.f0.toNat false) p0.f2 true).map eBool)))] rfl ⟨fz_all rfl, fz_all rfl, trivial⟩ ?_
  refine AO.callS [(e24 p0), (.fz 1 ((lset (List.replicate p0.f0.toNat false) p0.f2 true).map eBool))] (.fz 1 (t7.map eBool)) 26 rfl (by decide) ok53 rfl rfl rfl ⟨rfl, rfl, rfl, rfl, trivial⟩ (bosketref06_Close_spec et7) ?_
  refine AO.lit (Z := (.fl (.slice none 0 0))) (xs := (([t7] : List (List Bool)).map e49)) (qs := [(0, (.fz 1 (t7.map eBool)))]) rfl 27 rfl (by decide) rfl ⟨rfl, rfl, rfl, trivial⟩ Try.underlying78 sz49 zr49 lay49 rfl (by decide) (litOK (z := 1) [(.fz 1 (t7.map eBool))] rfl ⟨⟨rfl, rfl⟩, trivial⟩) rfl fun n8 => ?_
  refine AO.c (Calm.assign rfl rfl) ?_
  refine AO.nH [1, 2, 7] (H' := [(n3, (.mem (e24 p0))), (n8, (.mem (.ar 1 (([t7] : List (List Bool)).map e49))))]) (Sub.cons 1 rfl (Sub.cons 0 rfl (Sub.nil _))) ?_
  refine AW.sr ?_
  refine AO.c (Calm.load 0 rfl rfl rfl (At.cast At.here rfl) ag24 sz24) ?_
  obtain ⟨t9, et9, h⟩ := of_bind h
  refine AO.callS [(e24 p0)] (.fz 1 (t9.map eI64)) 29 rfl (by decide) ok16 rfl rfl rfl ⟨rfl, rfl, trivial⟩ (bosketref07_Reps_spec et9) ?_
  refine AO.c (Calm.assign rfl rfl) ?_
  refine AO.nK [1, 2, 7, 8] ?_
  refine AW.sr ?_
  refine AO.c (Calm.assign rfl rfl) ?_
  refine AO.nK [1, 2, 7, 8, 9] ?_
  refine AW.sr ?_
  refine AO.c (Calm.assign rfl rfl) ?_
  refine AO.nK [1, 2, 7, 8, 9, 10] ?_
  refine AW.seq_mid (fun ρ H => ∃ (n10 : Nat) (n12 : Nat) (x11 : (List (List Int))) (x13 : (List Int)), ρ = [(9, (.own n10 0 x11.length)), (10, (.own n12 0 x13.length))] ∧ H = [(n10, (.mem (.ar 1 (x11.map e25)))), (n12, (.mem (.ar 1 (x13.map eI64))))] ∧ bosketref07_Of_c0 k x11 x13 = some r) ?_ ?_
  ·refine AW.sr ?_
   refine AO.c (Calm.assign rfl rfl) ?_
   refine AO.nK [1, 2, 7, 8, 9, 10, 11] ?_
   refine AW.block ?_
   refine AW.nilOwn 9 1 rfl fun n89 => ?_
   refine AW.nilOwn 10 1 rfl fun n90 => ?_
   refine AW.wH [1, 2, 7, 8, 9, 10, 11] (H' := [(n3, (.mem (e24 p0))), (n8, (.mem (.ar 1 (([t7] : List (List Bool)).map e49)))), (n89, (.mem (.ar 1 (([] : List (List Int)).map e25)))), (n90, (.mem (.ar 1 (([] : List Int).map eI64))))]) (Sub.cons 2 rfl (Sub.cons 2 rfl (Sub.cons 1 rfl (Sub.cons 0 rfl (Sub.nil _))))) ?_
   refine AW.loop (fun kq ρ H => ∃ (n14 : Nat) (n16 : Nat) (n18 : Nat) (x15 : (List (List Bool))) (x17 : (List (List Int))) (x19 : (List Int)) (x20 : Int), ρ = [(1, (.fz 1 (p1.map eI64))), (2, (.ptr n3 0)), (7, (.own n14 0 x15.length)), (8, (.fz 1 (t9.map eI64))), (9, (.own n16 0 x17.length)), (10, (.own n18 0 x19.length)), (11, (eI64 x20))] ∧ H = [(n3, (.mem (e24 p0))), (n14, (.mem (.ar 1 (x15.map e49)))), (n16, (.mem (.ar 1 (x17.map e25)))), (n18, (.mem (.ar 1 (x19.map eI64))))] ∧ bosketref07_Of_l9 k p0 p1 t9 kq x15 x17 x19 x20 = some r) k ⟨n8, n89, n90, ([t7] : List (List Bool)), ([] : List (List Int)), ([] : List Int), (0 : Int), rfl, rfl, h⟩ ?_
   rintro kq22 _ _ ⟨n14, n16, n18, x15, x17, x19, x20, rfl, rfl, h⟩
   cases kq22 with
   | zero => rw [bosketref07_Of_l9.eq_1] at h; cases h
   | succ kq22 =>
   rw [bosketref07_Of_l9.eq_2] at h
   generalize hrec21 : bosketref07_Of_l9 k p0 p1 t9 kq22 = rec21 at h
   refine AW.seq ?_
   refine AW.sr ?_
   refine AO.c (Calm.move rfl rfl) ?_
   refine AO.c (Calm.move rfl rfl) ?_
   refine AO.c (Calm.lenOwn rfl rfl Try.underlying78) ?_
   refine AO.c (x := eBool (decide (x20 < (x15.length : Int)))) (Calm.int rfl rfl rfl rfl) ?_
   refine AO.nK [1, 2, 7, 8, 9, 10, 11, 33] ?_
   rcases of_ite h with ⟨hc23, h⟩ | ⟨hc23, h⟩
   ·refine AW.condP _ rfl hc23 ?_
    refine AW.sK [1, 2, 7, 8, 9, 10, 11] ?_
    refine AW.seq_mid (fun ρ H => ∃ (n24 : Nat) (n26 : Nat) (n28 : Nat) (x25 : (List (List Bool))) (x27 : (List (List Int))) (x29 : (List Int)), ρ = [(1, (.fz 1 (p1.map eI64))), (2, (.ptr n3 0)), (7, (.own n24 0 x25.length)), (8, (.fz 1 (t9.map eI64))), (9, (.own n26 0 x27.length)), (10, (.own n28 0 x29.length)), (11, (eI64 x20))] ∧ H = [(n3, (.mem (e24 p0))), (n24, (.mem (.ar 1 (x25.map e49)))), (n26, (.mem (.ar 1 (x27.map e25)))), (n28, (.mem (.ar 1 (x29.map eI64))))] ∧ bosketref07_Of_c1 k rec21 x20 x25 x27 x29 = some r) ?_ ?_
    ·refine AW.block ?_
     refine AW.seq ?_
     refine AW.sr ?_
     refine AO.c (Calm.move rfl rfl) ?_
     refine AO.c (Calm.lenOwn rfl rfl Try.underlying78) ?_
     refine AO.c (x := eBool (decide ((300 : Int) < (x15.length : Int)))) (Calm.int rfl rfl rfl rfl) ?_
     refine AO.nK [1, 2, 7, 8, 9, 10, 11, 38] ?_
     rcases of_ite h with ⟨hc30, h⟩ | ⟨hc30, h⟩
     ·refine AW.condP _ rfl hc30 ?_
      refine AW.sr ?_
      refine AO.c (Calm.assign rfl rfl) ?_
      refine AO.c (Calm.assign rfl rfl) ?_
      refine AO.nH [4, 5] (H' := []) (Sub.nil _) ?_
      refine AW.coeC 4 (y' := (.fz 1 (([] : List (List Int)).map e25))) rfl Coe.nil ?_
      refine AW.coeC 5 (y' := (.fz 1 (([] : List Int).map eI64))) rfl Coe.nil ?_
      refine AW.rK [4, 5] ?_
      have hr := Option.some.inj h
      subst hr
      exact ⟨[(.fz 1 (([] : List (List Int)).map e25)), (.fz 1 (([] : List Int).map eI64))], ⟨rfl, rfl, rfl, rfl, trivial⟩, rfl⟩
     ·refine AW.condN _ rfl hc30 ?_
      refine AW.sK [1, 2, 7, 8, 9, 10, 11] ?_
      refine AW.sr ?_
      refine AO.c (Calm.move rfl rfl) ?_
      refine AO.c (Calm.move rfl rfl) ?_
      refine AO.c (Calm.move rfl rfl) ?_
      refine AO.c (Calm.move rfl rfl) ?_
      obtain ⟨hg31, h⟩ := of_guard h
      refine AO.c (Calm.idxO 1 rfl rfl rfl rfl hg31 Try.underlying78 sz49) ?_
      refine AO.c (Calm.load 1 rfl rfl rfl (At.cast (At.lidx x20 hg31.1 hg31.2 At.here) (by omega)) ag49 sz49) ?_
      obtain ⟨t32, et32, h⟩ := of_bind h
      refine AO.callS [(.fz 1 (p1.map eI64)), (.fz 1 ((lget x15 x20).map eBool))] (eI64 t32) 45 rfl (by decide) ok20 rfl rfl rfl ⟨rfl, rfl, rfl, rfl, trivial⟩ (bosketref07_Mark_spec et32) ?_
      refine AO.lit (Z := (eI64 (0 : Int))) (xs := (([t32] : List Int).map eI64)) (qs := [(0, (eI64 t32))]) rfl 46 rfl (by decide) rfl ⟨rfl, rfl, rfl, trivial⟩ Try.underlying25 sz3 zr3 lay3 rfl (by decide) (litOK (z := 1) [(eI64 t32)] rfl ⟨⟨rfl, rfl⟩, trivial⟩) rfl fun n33 => ?_
      obtain ⟨hg35, h⟩ := of_guard h
      refine AO.appendL (l := x19) (m := ([t32] : List Int)) 4 47 rfl (by decide) rfl rfl rfl rfl rfl (Src.ownL (f := eI64) (l := ([t32] : List Int)) 0 rfl) Try.underlying25 Try.underlying25 sz3 by3 zr3 rfl hg35 (by decide) fun n34 => ?_
      refine AO.c (Calm.assign rfl rfl) ?_
      refine AO.nH [1, 2, 7, 8, 9, 10, 11] (H' := [(n3, (.mem (e24 p0))), (n14, (.mem (.ar 1 (x15.map e49)))), (n16, (.mem (.ar 1 (x17.map e25)))), (n34, (.mem (.ar 1 ((x19 ++ ([t32] : List Int)).map eI64))))]) (Sub.cons 1 rfl (Sub.cons 1 rfl (Sub.cons 1 rfl (Sub.cons 1 rfl (Sub.nil _))))) ?_
      refine AW.sr ?_
      refine AO.c (Calm.assign rfl rfl) ?_
      refine AO.nK [1, 2, 7, 8, 9, 10, 11, 12] ?_
      refine AW.seq_mid (fun ρ H => ∃ (n36 : Nat) (n38 : Nat) (x37 : (List (List Bool))) (x39 : (List Int)), ρ = [(1, (.fz 1 (p1.map eI64))), (2, (.ptr n3 0)), (7, (.own n36 0 x37.length)), (8, (.fz 1 (t9.map eI64))), (9, (.own n16 0 x17.length)), (10, (.own n34 0 (x19 ++ ([t32] : List Int)).length)), (11, (eI64 x20)), (12, (.own n38 0 x39.length))] ∧ H = [(n3, (.mem (e24 p0))), (n36, (.mem (.ar 1 (x37.map e49)))), (n16, (.mem (.ar 1 (x17.map e25)))), (n34, (.mem (.ar 1 ((x19 ++ ([t32] : List Int)).map eI64)))), (n38, (.mem (.ar 1 (x39.map eI64))))] ∧ bosketref07_Of_c2 k rec21 x17 x19 x20 t32 x37 x39 = some r) ?_ ?_
      ·refine AW.sr ?_
       refine AO.c (Calm.assign rfl rfl) ?_
       refine AO.nK [1, 2, 7, 8, 9, 10, 11, 12, 13] ?_
       refine AW.block ?_
       refine AW.nilOwn 12 1 rfl fun n88 => ?_
       refine AW.wH [1, 2, 7, 8, 9, 10, 11, 12, 13] (H' := [(n3, (.mem (e24 p0))), (n14, (.mem (.ar 1 (x15.map e49)))), (n16, (.mem (.ar 1 (x17.map e25)))), (n34, (.mem (.ar 1 ((x19 ++ ([t32] : List Int)).map eI64)))), (n88, (.mem (.ar 1 (([] : List Int).map eI64))))]) (Sub.cons 1 rfl (Sub.cons 1 rfl (Sub.cons 1 rfl (Sub.cons 1 rfl (Sub.cons 0 rfl (Sub.nil _)))))) ?_
       refine AW.loop (fun kq ρ H => ∃ (n43 : Nat) (n45 : Nat) (x44 : (List (List Bool))) (x46 : (List Int)) (x47 : Int), ρ = [(1, (.fz 1 (p1.map eI64))), (2, (.ptr n3 0)), (7, (.own n43 0 x44.length)), (8, (.fz 1 (t9.map eI64))), (9, (.own n16 0 x17.length)), (10, (.own n34 0 (x19 ++ ([t32] : List Int)).length)), (11, (eI64 x20)), (12, (.own n45 0 x46.length)), (13, (eI64 x47))] ∧ H = [(n3, (.mem (e24 p0))), (n43, (.mem (.ar 1 (x44.map e49)))), (n16, (.mem (.ar 1 (x17.map e25)))), (n34, (.mem (.ar 1 ((x19 ++ ([t32] : List Int)).map eI64)))), (n45, (.mem (.ar 1 (x46.map eI64))))] ∧ bosketref07_Of_l8 k rec21 p0 t9 x17 x19 x20 t32 kq x44 x46 x47 = some r) k ⟨n14, n88, x15, ([] : List Int), (0 : Int), rfl, rfl, h⟩ ?_
       rintro kq49 _ _ ⟨n43, n45, x44, x46, x47, rfl, rfl, h⟩
       cases kq49 with
       | zero => rw [bosketref07_Of_l8.eq_1] at h; cases h
       | succ kq49 =>
       rw [bosketref07_Of_l8.eq_2] at h
       generalize hrec48 : bosketref07_Of_l8 k rec21 p0 t9 x17 x19 x20 t32 kq49 = rec48 at h
       refine AW.seq ?_
       refine AW.sr ?_
       refine AO.c (Calm.move rfl rfl) ?_
       refine AO.c (Calm.move rfl rfl) ?_
       refine AO.c (Calm.lenL rfl rfl Try.underlying25) ?_
       refine AO.c (x := eBool (decide (x47 < (t9.length : Int)))) (Calm.int rfl rfl rfl rfl) ?_
       refine AO.nK [1, 2, 7, 8, 9, 10, 11, 12, 13, 51] ?_
       rcases of_ite h with ⟨hc50, h⟩ | ⟨hc50, h⟩
       ·refine AW.condP _ rfl hc50 ?_
        refine AW.sK [1, 2, 7, 8, 9, 10, 11, 12, 13] ?_
        refine AW.seq_mid (fun ρ H => ∃ (n51 : Nat) (n53 : Nat) (x52 : (List (List Bool))) (x54 : (List Int)), ρ = [(1, (.fz 1 (p1.map eI64))), (2, (.ptr n3 0)), (7, (.own n51 0 x52.length)), (8, (.fz 1 (t9.map eI64))), (9, (.own n16 0 x17.length)), (10, (.own n34 0 (x19 ++ ([t32] : List Int)).length)), (11, (eI64 x20)), (12, (.own n53 0 x54.length)), (13, (eI64 x47))] ∧ H = [(n3, (.mem (e24 p0))), (n51, (.mem (.ar 1 (x52.map e49)))), (n16, (.mem (.ar 1 (x17.map e25)))), (n34, (.mem (.ar 1 ((x19 ++ ([t32] : List Int)).map eI64)))), (n53, (.mem (.ar 1 (x54.map eI64))))] ∧ bosketref07_Of_c3 k rec48 x47 x52 x54 = some r) ?_ ?_
        ·refine AW.block ?_
         refine AW.seq ?_
         obtain ⟨hg55, h⟩ := of_guard h
         obtain ⟨hg56, h⟩ := of_guard h
         obtain ⟨t57, et57, h⟩ := of_bind h
         obtain ⟨t58, et58, h⟩ := of_bind h
         refine AW.regEff (by rfl) (by decide +kernel) (fun (σ : Nat → Nat) => ([(e24 p0), (e24 p0), (.own n43 0 x44.length), (eI64 x20), (.ptr n43 (x20.toNat * 1 + 0)), (.fz 1 ((lget x44 x20).map eBool)), (.fz 1 (t9.map eI64)), (eI64 x47), (.rp (eI64 (lget t9 x47))), (eI64 (lget t9 x47)), (.fz 1 (t57.map eBool)), (.fz 1 (t58.map eBool)), (.fz 1 (t58.map eBool))] : List AV)) (fun (L : Nat → Bool) (σ : Nat → Nat) => ((n3, (.mem (e24 p0))) :: (n43, (.mem (.ar 1 (x44.map e49)))) :: (n16, (.mem (.ar 1 (x17.map e25)))) :: (n34, (.mem (.ar 1 ((x19 ++ ([t32] : List Int)).map eI64)))) :: (n45, (.mem (.ar 1 (x46.map eI64)))) :: ([]) : Heap)) [(1, (.fz 1 (p1.map eI64))), (2, (.ptr n3 0)), (7, (.own n43 0 x44.length)), (8, (.fz 1 (t9.map eI64))), (9, (.own n16 0 x17.length)), (10, (.own n34 0 (x19 ++ ([t32] : List Int)).length)), (11, (eI64 x20)), (12, (.own n45 0 x46.length)), (13, (eI64 x47))] ⟨rfl, rfl, rfl, rfl, rfl, rfl, rfl, rfl, rfl, trivial⟩ (fun _ => rfl) (fun σ => (Sub.refl _)) ⟨?_, ?_, ?_, ?_, ?_, ?_, ?_, ?_, ?_, ?_, ?_, ?_, ?_, trivial⟩ (fun σ => [(1, (.fz 1 (p1.map eI64))), (2, (.ptr n3 0)), (7, (.own n43 0 x44.length)), (8, (.fz 1 (t9.map eI64))), (9, (.own n16 0 x17.length)), (10, (.own n34 0 (x19 ++ ([t32] : List Int)).length)), (11, (eI64 x20)), (12, (.own n45 0 x46.length)), (13, (eI64 x47)), (14, (.fz 1 (t58.map eBool)))]) (fun σ => ((n3, (.mem (e24 p0))) :: (n43, (.mem (.ar 1 (x44.map e49)))) :: (n16, (.mem (.ar 1 (x17.map e25)))) :: (n34, (.mem (.ar 1 ((x19 ++ ([t32] : List Int)).map eI64)))) :: (n45, (.mem (.ar 1 (x46.map eI64)))) :: [])) (fun σ => ⟨rfl, rfl, rfl, rfl, rfl, rfl, rfl, rfl, rfl, rfl, trivial⟩) (fun σ => Sub.refl _) (fun σ => ?_)
         ·refine StepE.calm (fun _ _ => rfl) fun L σ hc hi hd => ?_
          refine AO.wK [2] ?_
          refine AO.c (Calm.load 0 rfl rfl rfl (At.cast At.here rfl) ag24 sz24) ?_
          exact AO.nE (d := 54) rfl ⟨⟨54, _, rfl, rfl, rfl⟩, Sub.refl _⟩
         ·refine StepE.calm (fun _ _ => rfl) fun L σ hc hi hd => ?_
          refine AO.wK [2] ?_
          refine AO.c (Calm.load 0 rfl rfl rfl (At.cast At.here rfl) ag24 sz24) ?_
          exact AO.nE (d := 55) rfl ⟨⟨55, _, rfl, rfl, rfl⟩, Sub.refl _⟩
         ·refine StepE.calm (fun _ _ => rfl) fun L σ hc hi hd => ?_
          refine AO.wK [7] ?_
          refine AO.c (Calm.move rfl rfl) ?_
          exact AO.nE (d := 56) rfl ⟨⟨56, _, rfl, rfl, rfl⟩, Sub.refl _⟩
         ·refine StepE.calm (fun _ _ => rfl) fun L σ hc hi hd => ?_
          refine AO.wK [11] ?_
          refine AO.c (Calm.move rfl rfl) ?_
          exact AO.nE (d := 57) rfl ⟨⟨57, _, rfl, rfl, rfl⟩, Sub.refl _⟩
         ·refine StepE.calm (fun _ _ => rfl) fun L σ hc hi hd => ?_
          refine AO.wK [56, 57] ?_
          refine AO.c (Calm.idxO 1 rfl rfl rfl rfl hg55 Try.underlying78 sz49) ?_
          exact AO.nE (d := 58) rfl ⟨⟨58, _, rfl, rfl, rfl⟩, Sub.refl _⟩
         ·refine StepE.calm (fun _ _ => rfl) fun L σ hc hi hd => ?_
          refine AO.wK [58] ?_
          refine AO.c (Calm.load 1 rfl rfl rfl (At.cast (At.lidx x20 hg55.1 hg55.2 At.here) (by omega)) ag49 sz49) ?_
          exact AO.nE (d := 59) rfl ⟨⟨59, _, rfl, rfl, rfl⟩, Sub.refl _⟩
         ·refine StepE.calm (fun _ _ => rfl) fun L σ hc hi hd => ?_
          refine AO.wK [8] ?_
          refine AO.c (Calm.move rfl rfl) ?_
          exact AO.nE (d := 60) rfl ⟨⟨60, _, rfl, rfl, rfl⟩, Sub.refl _⟩
         ·refine StepE.calm (fun _ _ => rfl) fun L σ hc hi hd => ?_
          refine AO.wK [13] ?_
          refine AO.c (Calm.move rfl rfl) ?_
          exact AO.nE (d := 61) rfl ⟨⟨61, _, rfl, rfl, rfl⟩, Sub.refl _⟩
         ·refine StepE.calm (fun _ _ => rfl) fun L σ hc hi hd => ?_
          refine AO.wK [60, 61] ?_
          refine AO.c (Calm.idxL (f := eI64) rfl rfl rfl hg56 Try.underlying25 sz3) ?_
          exact AO.nE (d := 62) rfl ⟨⟨62, _, rfl, rfl, rfl⟩, Sub.refl _⟩
         ·refine StepE.calm (fun _ _ => rfl) fun L σ hc hi hd => ?_
          refine AO.wK [62] ?_
          refine AO.c (Calm.loadRp rfl rfl ag3 sz3) ?_
          exact AO.nE (d := 63) rfl ⟨⟨63, _, rfl, rfl, rfl⟩, Sub.refl _⟩
         ·refine StepE.calm (fun _ _ => rfl) fun L σ hc hi hd => ?_
          refine AO.wK [55, 59, 63] ?_
          refine AO.callS [(e24 p0), (.fz 1 ((lget x44 x20).map eBool)), (eI64 (lget t9 x47))] (.fz 1 (t57.map eBool)) 64 rfl (by decide) ok54 rfl rfl rfl ⟨rfl, rfl, rfl, rfl, rfl, rfl, trivial⟩ (bosketref06_Move_spec et57) ?_
          exact AO.nE (d := 64) rfl ⟨⟨64, _, rfl, rfl, rfl⟩, Sub.refl _⟩
         ·refine StepE.calm (fun _ _ => rfl) fun L σ hc hi hd => ?_
          refine AO.wK [54, 64] ?_
          refine AO.callS [(e24 p0), (.fz 1 (t57.map eBool))] (.fz 1 (t58.map eBool)) 65 rfl (by decide) ok53 rfl rfl rfl ⟨rfl, rfl, rfl, rfl, trivial⟩ (bosketref06_Close_spec et58) ?_
          exact AO.nE (d := 65) rfl ⟨⟨65, _, rfl, rfl, rfl⟩, Sub.refl _⟩
         ·refine StepE.calm (fun _ _ => rfl) fun L σ hc hi hd => ?_
          refine AO.wK [65] ?_
          refine AO.c (Calm.assign rfl rfl) ?_
          exact AO.nE (d := 14) rfl ⟨⟨14, _, rfl, rfl, rfl⟩, Sub.refl _⟩
         ·refine AO.nK [1, 2, 7, 8, 9, 10, 11, 12, 13, 14] ?_
          refine AW.sr ?_
          refine AO.c (Calm.assign rfl rfl) ?_
          refine AO.nK [1, 2, 7, 8, 9, 10, 11, 12, 13, 14, 15] ?_
          refine AW.seq_mid (fun ρ H => ∃ (x59 : Int), ρ = [(1, (.fz 1 (p1.map eI64))), (2, (.ptr n3 0)), (7, (.own n43 0 x44.length)), (8, (.fz 1 (t9.map eI64))), (9, (.own n16 0 x17.length)), (10, (.own n34 0 (x19 ++ ([t32] : List Int)).length)), (11, (eI64 x20)), (12, (.own n45 0 x46.length)), (13, (eI64 x47)), (14, (.fz 1 (t58.map eBool))), (15, (eI64 x59))] ∧ H = [(n3, (.mem (e24 p0))), (n43, (.mem (.ar 1 (x44.map e49)))), (n16, (.mem (.ar 1 (x17.map e25)))), (n34, (.mem (.ar 1 ((x19 ++ ([t32] : List Int)).map eI64)))), (n45, (.mem (.ar 1 (x46.map eI64))))] ∧ bosketref07_Of_c5 k rec48 x44 x46 x47 t58 x59 = some r) ?_ ?_
          ·refine AW.sr ?_
           refine AO.c (Calm.assign rfl rfl) ?_
           refine AO.nK [1, 2, 7, 8, 9, 10, 11, 12, 13, 14, 15, 16] ?_
           refine AW.block ?_
           refine AW.wK [1, 2, 7, 8, 9, 10, 11, 12, 13, 14, 15, 16] ?_
           refine AW.loop (fun kq ρ H => ∃ (x74 : Int) (x75 : Int), ρ = [(1, (.fz 1 (p1.map eI64))), (2, (.ptr n3 0)), (7, (.own n43 0 x44.length)), (8, (.fz 1 (t9.map eI64))), (9, (.own n16 0 x17.length)), (10, (.own n34 0 (x19 ++ ([t32] : List Int)).length)), (11, (eI64 x20)), (12, (.own n45 0 x46.length)), (13, (eI64 x47)), (14, (.fz 1 (t58.map eBool))), (15, (eI64 x74)), (16, (eI64 x75))] ∧ H = [(n3, (.mem (e24 p0))), (n43, (.mem (.ar 1 (x44.map e49)))), (n16, (.mem (.ar 1 (x17.map e25)))), (n34, (.mem (.ar 1 ((x19 ++ ([t32] : List Int)).map eI64)))), (n45, (.mem (.ar 1 (x46.map eI64))))] ∧ bosketref07_Of_l7 k rec48 x44 x46 x47 t58 kq x74 x75 = some r) k ⟨(-1 : Int), (0 : Int), rfl, rfl, h⟩ ?_
           rintro kq77 _ _ ⟨x74, x75, rfl, rfl, h⟩
           cases kq77 with
           | zero => rw [bosketref07_Of_l7.eq_1] at h; cases h
           | succ kq77 =>
           rw [bosketref07_Of_l7.eq_2] at h
           generalize hrec76 : bosketref07_Of_l7 k rec48 x44 x46 x47 t58 kq77 = rec76 at h
           refine AW.seq ?_
           refine AW.seq ?_
           obtain ⟨b78, hq79, h⟩ := of_bind h
           refine AW.regM [(1, (.fz 1 (p1.map eI64))), (2, (.ptr n3 0)), (7, (.own n43 0 x44.length)), (8, (.fz 1 (t9.map eI64))), (9, (.own n16 0 x17.length)), (10, (.own n34 0 (x19 ++ ([t32] : List Int)).length)), (11, (eI64 x20)), (12, (.own n45 0 x46.length)), (13, (eI64 x47)), (14, (.fz 1 (t58.map eBool))), (15, (eI64 x74)), (16, (eI64 x75)), (77, (eBool b78))] [(n3, (.mem (e24 p0))), (n43, (.mem (.ar 1 (x44.map e49)))), (n16, (.mem (.ar 1 (x17.map e25)))), (n34, (.mem (.ar 1 ((x19 ++ ([t32] : List Int)).map eI64)))), (n45, (.mem (.ar 1 (x46.map eI64))))] ?_ ?_
           ·refine AO.c (Calm.move rfl rfl) ?_
            refine AO.c (Calm.move rfl rfl) ?_
            refine AO.c (Calm.lenOwn rfl rfl Try.underlying78) ?_
            refine AO.c (x := eBool (decide (x75 < (x44.length : Int)))) (Calm.int rfl rfl rfl rfl) ?_
            refine AO.c (Calm.move rfl rfl) ?_
            rcases of_ite hq79 with ⟨hc80, hq79⟩ | ⟨hc80, hq79⟩
            ·refine AO.cG rfl rfl (bD (decide_eq_true hc80)) (Calm.move rfl rfl) ?_
             obtain ⟨t81, et81, hq79⟩ := of_bind hq79
             refine AO.callG 4 true 70 [(.fz 1 (t58.map eBool))] (eBool t81) 72 rfl (by decide) ok55 rfl rfl (bD (decide_eq_true hc80)) rfl rfl ⟨rfl, rfl, trivial⟩ (bosketref07_any_spec et81) ?_
             refine AO.c (Calm.pickT rfl (bD (decide_eq_true hc80)) rfl) ?_
             refine AO.c (Calm.move rfl rfl) ?_
             rcases of_ite hq79 with ⟨hc82, hq79⟩ | ⟨hc82, hq79⟩
             ·refine AO.cG rfl rfl (bD hc82) (Calm.move rfl rfl) ?_
              refine AO.cG (x := eBool (decide (x74 < (0 : Int)))) rfl rfl (bD hc82) (Calm.int rfl rfl rfl rfl) ?_
              refine AO.c (Calm.pickT rfl (bD hc82) rfl) ?_
              cases hq79
              refine AO.nilE ⟨rfl, rfl⟩ ?_ ?_
              · exact ⟨rfl, rfl, rfl, rfl, rfl, rfl, rfl, rfl, rfl, rfl, rfl, rfl, rfl, trivial⟩
              · exact (Sub.refl _)
             ·refine AO.sT rfl rfl (bD (eq_false_of_ne_true hc82)) ?_
              refine AO.sT rfl rfl (bD (eq_false_of_ne_true hc82)) ?_
              refine AO.c (Calm.pickF rfl (bD (eq_false_of_ne_true hc82)) rfl) ?_
              cases hq79
              refine AO.nilE ⟨rfl, rfl⟩ ?_ ?_
              · exact ⟨rfl, rfl, rfl, rfl, rfl, rfl, rfl, rfl, rfl, rfl, rfl, rfl, rfl, trivial⟩
              · exact (Sub.refl _)
            ·refine AO.sT rfl rfl (bD (decide_eq_false hc80)) ?_
             refine AO.sT rfl rfl (bD (decide_eq_false hc80)) ?_
             refine AO.c (Calm.pickF rfl (bD (decide_eq_false hc80)) rfl) ?_
             refine AO.c (Calm.move rfl rfl) ?_
             refine AO.sT rfl rfl rfl ?_
             refine AO.sT rfl rfl rfl ?_
             refine AO.c (Calm.pickF rfl rfl rfl) ?_
             cases hq79
             refine AO.nilE ⟨rfl, rfl⟩ ?_ ?_
             · exact ⟨rfl, rfl, rfl, rfl, rfl, rfl, rfl, rfl, rfl, rfl, rfl, rfl, rfl, trivial⟩
             · exact (Sub.refl _)
           ·rcases of_ite h with ⟨hc83, h⟩ | ⟨hc83, h⟩
            ·refine AW.condT' _ rfl hc83 ?_
             refine AW.sK [1, 2, 7, 8, 9, 10, 11, 12, 13, 14, 15, 16] ?_
             refine AW.seq_mid (fun ρ H => ∃ (x84 : Int), ρ = [(1, (.fz 1 (p1.map eI64))), (2, (.ptr n3 0)), (7, (.own n43 0 x44.length)), (8, (.fz 1 (t9.map eI64))), (9, (.own n16 0 x17.length)), (10, (.own n34 0 (x19 ++ ([t32] : List Int)).length)), (11, (eI64 x20)), (12, (.own n45 0 x46.length)), (13, (eI64 x47)), (14, (.fz 1 (t58.map eBool))), (15, (eI64 x84)), (16, (eI64 x75))] ∧ H = [(n3, (.mem (e24 p0))), (n43, (.mem (.ar 1 (x44.map e49)))), (n16, (.mem (.ar 1 (x17.map e25)))), (n34, (.mem (.ar 1 ((x19 ++ ([t32] : List Int)).map eI64)))), (n45, (.mem (.ar 1 (x46.map eI64))))] ∧ bosketref07_Of_c6 k rec76 x75 x84 = some r) ?_ ?_
             ·refine AW.block ?_
              refine AW.sr ?_
              refine AO.c (Calm.move rfl rfl) ?_
              refine AO.c (Calm.move rfl rfl) ?_
              obtain ⟨hg85, h⟩ := of_guard h
              refine AO.c (Calm.idxO 1 rfl rfl rfl rfl hg85 Try.underlying78 sz49) ?_
              refine AO.c (Calm.load 1 rfl rfl rfl (At.cast (At.lidx x75 hg85.1 hg85.2 At.here) (by omega)) ag49 sz49) ?_
              refine AO.c (Calm.move rfl rfl) ?_
              obtain ⟨t86, et86, h⟩ := of_bind h
              refine AO.callS [(.fz 1 ((lget x44 x75).map eBool)), (.fz 1 (t58.map eBool))] (eBool t86) 85 rfl (by decide) ok29 rfl rfl rfl ⟨rfl, rfl, rfl, rfl, trivial⟩ (bosketref06_Same_spec et86) ?_
              refine AO.nK [1, 2, 7, 8, 9, 10, 11, 12, 13, 14, 15, 16, 85] ?_
              rcases of_ite h with ⟨hc87, h⟩ | ⟨hc87, h⟩
              ·refine AW.condT' _ rfl hc87 ?_
               refine AW.reg ?_
               refine AO.c (Calm.move rfl rfl) ?_
               refine AO.c (Calm.assign rfl rfl) ?_
               refine AO.nK [1, 2, 7, 8, 9, 10, 11, 12, 13, 14, 15, 16] ?_
               exact ⟨x75, rfl, rfl, h⟩
              ·refine AW.condF' _ rfl hc87 ?_
               refine AW.sK [1, 2, 7, 8, 9, 10, 11, 12, 13, 14, 15, 16] ?_
               exact ⟨x74, rfl, rfl, h⟩
             ·rintro _ _ ⟨x84, rfl, rfl, h⟩
              rw [bosketref07_Of_c6.eq_1] at h
              refine AW.reg ?_
              refine AO.c (Calm.move rfl rfl) ?_
              refine AO.c (x := eI64 (w64 (x75 + (1 : Int)))) (Calm.int rfl rfl rfl rfl) ?_
              refine AO.c (Calm.assign rfl rfl) ?_
              refine AO.nK [1, 2, 7, 8, 9, 10, 11, 12, 13, 14, 15, 16] ?_
              exact ⟨kq77, Nat.lt_succ_self _, x84, (w64 (x75 + (1 : Int))), rfl, rfl, by rw [hrec76]; exact h⟩
            ·refine AW.condF' _ rfl hc83 ?_
             refine AW.eK [1, 2, 7, 8, 9, 10, 11, 12, 13, 14, 15] ?_
             exact ⟨x74, rfl, rfl, h⟩
          ·rintro _ _ ⟨x59, rfl, rfl, h⟩
           rw [bosketref07_Of_c5.eq_1] at h
           refine AW.seq_mid (fun ρ H => ∃ (n60 : Nat) (x61 : (List (List Bool))) (x62 : Int), ρ = [(1, (.fz 1 (p1.map eI64))), (2, (.ptr n3 0)), (7, (.own n60 0 x61.length)), (8, (.fz 1 (t9.map eI64))), (9, (.own n16 0 x17.length)), (10, (.own n34 0 (x19 ++ ([t32] : List Int)).length)), (11, (eI64 x20)), (12, (.own n45 0 x46.length)), (13, (eI64 x47)), (15, (eI64 x62))] ∧ H = [(n3, (.mem (e24 p0))), (n60, (.mem (.ar 1 (x61.map e49)))), (n16, (.mem (.ar 1 (x17.map e25)))), (n34, (.mem (.ar 1 ((x19 ++ ([t32] : List Int)).map eI64)))), (n45, (.mem (.ar 1 (x46.map eI64))))] ∧ bosketref07_Of_c4 k rec48 x46 x47 x61 x62 = some r) ?_ ?_
           ·refine AW.seq ?_
            obtain ⟨b66, hq67, h⟩ := of_bind h
            refine AW.regM [(1, (.fz 1 (p1.map eI64))), (2, (.ptr n3 0)), (7, (.own n43 0 x44.length)), (8, (.fz 1 (t9.map eI64))), (9, (.own n16 0 x17.length)), (10, (.own n34 0 (x19 ++ ([t32] : List Int)).length)), (11, (eI64 x20)), (12, (.own n45 0 x46.length)), (13, (eI64 x47)), (14, (.fz 1 (t58.map eBool))), (15, (eI64 x59)), (92, (eBool b66))] [(n3, (.mem (e24 p0))), (n43, (.mem (.ar 1 (x44.map e49)))), (n16, (.mem (.ar 1 (x17.map e25)))), (n34, (.mem (.ar 1 ((x19 ++ ([t32] : List Int)).map eI64)))), (n45, (.mem (.ar 1 (x46.map eI64))))] ?_ ?_
            ·refine AO.c (Calm.move rfl rfl) ?_
             refine AO.c (x := eBool (decide (x59 < (0 : Int)))) (Calm.int rfl rfl rfl rfl) ?_
             refine AO.c (Calm.move rfl rfl) ?_
             rcases of_ite hq67 with ⟨hc68, hq67⟩ | ⟨hc68, hq67⟩
             ·refine AO.cG rfl rfl (bD (decide_eq_true hc68)) (Calm.move rfl rfl) ?_
              obtain ⟨t69, et69, hq67⟩ := of_bind hq67
              refine AO.callG 2 true 89 [(.fz 1 (t58.map eBool))] (eBool t69) 91 rfl (by decide) ok55 rfl rfl (bD (decide_eq_true hc68)) rfl rfl ⟨rfl, rfl, trivial⟩ (bosketref07_any_spec et69) ?_
              refine AO.c (Calm.pickT rfl (bD (decide_eq_true hc68)) rfl) ?_
              cases hq67
              refine AO.nilE ⟨rfl, rfl⟩ ?_ ?_
              · exact ⟨rfl, rfl, rfl, rfl, rfl, rfl, rfl, rfl, rfl, rfl, rfl, rfl, trivial⟩
              · exact (Sub.refl _)
             ·refine AO.sT rfl rfl (bD (decide_eq_false hc68)) ?_
              refine AO.sT rfl rfl (bD (decide_eq_false hc68)) ?_
              refine AO.c (Calm.pickF rfl (bD (decide_eq_false hc68)) rfl) ?_
              cases hq67
              refine AO.nilE ⟨rfl, rfl⟩ ?_ ?_
              · exact ⟨rfl, rfl, rfl, rfl, rfl, rfl, rfl, rfl, rfl, rfl, rfl, rfl, trivial⟩
              · exact (Sub.refl _)
            ·rcases of_ite h with ⟨hc70, h⟩ | ⟨hc70, h⟩
             ·refine AW.condT' _ rfl hc70 ?_
              refine AW.sr ?_
              refine AO.c (Calm.move rfl rfl) ?_
              refine AO.c (Calm.lenOwn rfl rfl Try.underlying78) ?_
              refine AO.c (Calm.assign rfl rfl) ?_
              refine AO.nK [1, 2, 7, 8, 9, 10, 11, 12, 13, 14, 15] ?_
              refine AW.reg ?_
              refine AO.c (Calm.move rfl rfl) ?_
              refine AO.c (Calm.move rfl rfl) ?_
              refine AO.lit (Z := (.fl (.slice none 0 0))) (xs := (([t58] : List (List Bool)).map e49)) (qs := [(0, (.fz 1 (t58.map eBool)))]) rfl 97 rfl (by decide) rfl ⟨rfl, rfl, rfl, trivial⟩ Try.underlying78 sz49 zr49 lay49 rfl (by decide) (litOK (z := 1) [(.fz 1 (t58.map eBool))] rfl ⟨⟨rfl, rfl⟩, trivial⟩) rfl fun n71 => ?_
              obtain ⟨hg73, h⟩ := of_guard h
              refine AO.appendL (l := x44) (m := ([t58] : List (List Bool))) 2 98 rfl (by decide) rfl rfl rfl rfl rfl (Src.ownL (f := e49) (l := ([t58] : List (List Bool))) 0 rfl) Try.underlying78 Try.underlying78 sz49 by49 zr49 rfl hg73 (by decide) fun n72 => ?_
              refine AO.c (Calm.assign rfl rfl) ?_
              refine AO.nH [1, 2, 7, 8, 9, 10, 11, 12, 13, 15] (H' := [(n3, (.mem (e24 p0))), (n72, (.mem (.ar 1 ((x44 ++ ([t58] : List (List Bool))).map e49)))), (n16, (.mem (.ar 1 (x17.map e25)))), (n34, (.mem (.ar 1 ((x19 ++ ([t32] : List Int)).map eI64)))), (n45, (.mem (.ar 1 (x46.map eI64))))]) (Sub.cons 1 rfl (Sub.cons 1 rfl (Sub.cons 1 rfl (Sub.cons 1 rfl (Sub.cons 1 rfl (Sub.nil _)))))) ?_
              exact ⟨n72, (x44 ++ ([t58] : List (List Bool))), (x44.length : Int), rfl, rfl, h⟩
             ·refine AW.condF' _ rfl hc70 ?_
              refine AW.sK [1, 2, 7, 8, 9, 10, 11, 12, 13, 15] ?_
              exact ⟨n43, x44, x59, rfl, rfl, h⟩
           ·rintro _ _ ⟨n60, x61, x62, rfl, rfl, h⟩
            rw [bosketref07_Of_c4.eq_1] at h
            refine AW.reg ?_
            refine AO.c (Calm.move rfl rfl) ?_
            refine AO.c (Calm.move rfl rfl) ?_
            refine AO.lit (Z := (eI64 (0 : Int))) (xs := (([x62] : List Int).map eI64)) (qs := [(0, (eI64 x62))]) rfl 101 rfl (by decide) rfl ⟨rfl, rfl, rfl, trivial⟩ Try.underlying25 sz3 zr3 lay3 rfl (by decide) (litOK (z := 1) [(eI64 x62)] rfl ⟨⟨rfl, rfl⟩, trivial⟩) rfl fun n63 => ?_
            obtain ⟨hg65, h⟩ := of_guard h
            refine AO.appendL (l := x46) (m := ([x62] : List Int)) 5 102 rfl (by decide) rfl rfl rfl rfl rfl (Src.ownL (f := eI64) (l := ([x62] : List Int)) 0 rfl) Try.underlying25 Try.underlying25 sz3 by3 zr3 rfl hg65 (by decide) fun n64 => ?_
            refine AO.c (Calm.assign rfl rfl) ?_
            refine AO.nH [1, 2, 7, 8, 9, 10, 11, 12, 13] (H' := [(n3, (.mem (e24 p0))), (n60, (.mem (.ar 1 (x61.map e49)))), (n16, (.mem (.ar 1 (x17.map e25)))), (n34, (.mem (.ar 1 ((x19 ++ ([t32] : List Int)).map eI64)))), (n64, (.mem (.ar 1 ((x46 ++ ([x62] : List Int)).map eI64))))]) (Sub.cons 1 rfl (Sub.cons 1 rfl (Sub.cons 1 rfl (Sub.cons 1 rfl (Sub.cons 1 rfl (Sub.nil _)))))) ?_
            exact ⟨n60, n64, x61, (x46 ++ ([x62] : List Int)), rfl, rfl, h⟩
        ·rintro _ _ ⟨n51, n53, x52, x54, rfl, rfl, h⟩
         rw [bosketref07_Of_c3.eq_1] at h
         refine AW.reg ?_
         refine AO.c (Calm.move rfl rfl) ?_
         refine AO.c (x := eI64 (w64 (x47 + (1 : Int)))) (Calm.int rfl rfl rfl rfl) ?_
         refine AO.c (Calm.assign rfl rfl) ?_
         refine AO.nK [1, 2, 7, 8, 9, 10, 11, 12, 13] ?_
         exact ⟨kq49, Nat.lt_succ_self _, n51, n53, x52, x54, (w64 (x47 + (1 : Int))), rfl, rfl, by rw [hrec48]; exact h⟩
       ·refine AW.condN _ rfl hc50 ?_
        refine AW.eK [1, 2, 7, 8, 9, 10, 11, 12] ?_
        exact ⟨n43, n45, x44, x46, rfl, rfl, h⟩
      ·rintro _ _ ⟨n36, n38, x37, x39, rfl, rfl, h⟩
       rw [bosketref07_Of_c2.eq_1] at h
       refine AW.reg ?_
       refine AO.c (Calm.move rfl rfl) ?_
       refine AO.c (Calm.move rfl rfl) ?_
       refine AO.freezeS 4 [(12, (.fz 1 (x39.map eI64))), (104, (.fz 1 (x39.map eI64)))] rfl ⟨fz_all rfl, fz_all rfl, trivial⟩ ?_
       refine AO.lit (Z := (.fl (.slice none 0 0))) (xs := (([x39] : List (List Int)).map e25)) (qs := [(0, (.fz 1 (x39.map eI64)))]) rfl 105 rfl (by decide) rfl ⟨rfl, rfl, rfl, trivial⟩ Try.underlying28 sz25 zr25 lay25 rfl (by decide) (litOK (z := 1) [(.fz 1 (x39.map eI64))] rfl ⟨⟨rfl, rfl⟩, trivial⟩) rfl fun n40 => ?_
       obtain ⟨hg42, h⟩ := of_guard h
       refine AO.appendL (l := x17) (m := ([x39] : List (List Int))) 3 106 rfl (by decide) rfl rfl rfl rfl rfl (Src.ownL (f := e25) (l := ([x39] : List (List Int))) 0 rfl) Try.underlying28 Try.underlying28 sz25 by25 zr25 rfl hg42 (by decide) fun n41 => ?_
       refine AO.c (Calm.assign rfl rfl) ?_
       refine AO.nH [1, 2, 7, 8, 9, 10, 11] (H' := [(n3, (.mem (e24 p0))), (n36, (.mem (.ar 1 (x37.map e49)))), (n41, (.mem (.ar 1 ((x17 ++ ([x39] : List (List Int))).map e25)))), (n34, (.mem (.ar 1 ((x19 ++ ([t32] : List Int)).map eI64))))]) (Sub.cons 1 rfl (Sub.cons 1 rfl (Sub.cons 1 rfl (Sub.cons 1 rfl (Sub.nil _))))) ?_
       exact ⟨n36, n41, n34, x37, (x17 ++ ([x39] : List (List Int))), (x19 ++ ([t32] : List Int)), rfl, rfl, h⟩
    ·rintro _ _ ⟨n24, n26, n28, x25, x27, x29, rfl, rfl, h⟩
     rw [bosketref07_Of_c1.eq_1] at h
     refine AW.reg ?_
     refine AO.c (Calm.move rfl rfl) ?_
     refine AO.c (x := eI64 (w64 (x20 + (1 : Int)))) (Calm.int rfl rfl rfl rfl) ?_
     refine AO.c (Calm.assign rfl rfl) ?_
     refine AO.nK [1, 2, 7, 8, 9, 10, 11] ?_
     exact ⟨kq22, Nat.lt_succ_self _, n24, n26, n28, x25, x27, x29, (w64 (x20 + (1 : Int))), rfl, rfl, by rw [hrec21]; exact h⟩
   ·refine AW.condN _ rfl hc23 ?_
    refine AW.eH [9, 10] (H' := [(n16, (.mem (.ar 1 (x17.map e25)))), (n18, (.mem (.ar 1 (x19.map eI64))))]) (Sub.cons 2 rfl (Sub.cons 2 rfl (Sub.nil _))) ?_
    exact ⟨n16, n18, x17, x19, rfl, rfl, h⟩
  ·rintro _ _ ⟨n10, n12, x11, x13, rfl, rfl, h⟩
   rw [bosketref07_Of_c0.eq_1] at h
   refine AW.sr ?_
   refine AO.c (Calm.move rfl rfl) ?_
   refine AO.c (Calm.move rfl rfl) ?_
   refine AO.c (Calm.assign rfl rfl) ?_
   refine AO.c (Calm.assign rfl rfl) ?_
   refine AO.nK [4, 5] ?_
   refine AW.freezeS 0 [(4, (.fz 1 (x11.map e25)))] rfl ⟨fz_all rfl, trivial⟩ ?_
   refine AW.freezeS 0 [(5, (.fz 1 (x13.map eI64)))] rfl ⟨fz_all rfl, trivial⟩ ?_
   refine AW.rK [4, 5] ?_
   have hr := Option.some.inj h
   subst hr
   exact ⟨[(.fz 1 (x11.map e25)), (.fz 1 (x13.map eI64))], ⟨rfl, rfl, rfl, rfl, trivial⟩, rfl⟩
end Go.Avl.T5
/- bosket/subset.One; printed by avmain.py. -/
namespace Go.Avl.T5
open Go Go.RowKit Go.Proofs Go.Avl
set_option linter.unusedVariables false
set_option maxRecDepth 100000
set_option maxHeartbeats 4000000
attribute [local irreducible] AW AO AQ Spec SpecH Calm

def subset_One_c0 (k : Nat) (p0 : S24) (x8 : (List Int)) : Option (S30 × Int) :=
  if 0 ≤ p0.f3 ∧ p0.f3 < (x8.length : Int) then (subset_Of k p0 (lset x8 p0.f3 (0 : Int))).bind fun t10 =>
  some (t10.1, t10.2)
  else none
def subset_One_l1 (k : Nat) (p0 : S24) : Nat → (List Int) → Int → Option (S30 × Int)
  | 0, _, _ => none
  | j + 1, x11, x12 =>
    if x12 < ((List.replicate p0.f0.toNat (0 : Int)).length : Int) then if 0 ≤ x12 ∧ x12 < (x11.length : Int) then (subset_One_l1 k p0 j) (lset x11 x12 (-1 : Int)) (w64 (x12 + (1 : Int)))
    else none
    else subset_One_c0 k p0 x11
def subset_One (k : Nat) (p0 : S24) : Option (S30 × Int) :=
  (nfa_Right k p0).bind fun t4 =>
  if (!t4) = true then some ((S30.mk (Vector.replicate 256 (0 : Int)) ([] : List (List Int)) ([] : List Int)), (1 : Int))
  else if 0 ≤ p0.f0 ∧ p0.f0 * (8 : Int) ≤ 140737488355328 ∧ p0.f0 ≤ 9223372036854775807 then subset_One_l1 k p0 k (List.replicate p0.f0.toNat (0 : Int)) (0 : Int)
  else none
theorem subset_One_spec {k : Nat} {p0 : S24} {r : (S30 × Int)} (h : subset_One k p0 = some r) : Spec Try.prog 22 [(e24 p0)] (.tup [(e30 r.1), (eI64 r.2)]) := by
  rw [subset_One.eq_1] at h
  refine Spec.intro (res := [.cell 2 30, .tmp 3]) Try.func22 rfl rfl rfl (Nat.le_of_ble_eq_true rfl) ?_
  refine AW.sr ?_
  refine AO.box rfl 1 rfl (by decide) rfl rfl rfl fun n2 => ?_
  refine AO.alloc rfl 2 rfl (by decide) rfl zr30 lay30 fun n3 => ?_
  refine AO.c (Calm.assign rfl rfl) ?_
  refine AO.nH [1, 2] (H' := [(n2, (.mem (e24 p0))), (n3, (.mem (.st [(256, (.ar 1 ((Vector.replicate 256 (0 : Int)).toList.map eU8))), (1, (.fl (.slice none 0 0))), (1, (.fl (.slice none 0 0)))])))]) (Sub.cons 1 rfl (Sub.cons 0 rfl (Sub.nil _))) ?_
  refine AW.seq ?_
  refine AW.sr ?_
  refine AO.c (Calm.load 0 rfl rfl rfl (At.cast At.here rfl) ag24 sz24) ?_
  obtain ⟨t4, et4, h⟩ := of_bind h
  refine AO.callS [(e24 p0)] (eBool t4) 7 rfl (by decide) ok47 rfl rfl rfl ⟨rfl, rfl, trivial⟩ (nfa_Right_spec et4) ?_
  refine AO.c (Calm.not rfl rfl) ?_
  refine AO.nK [1, 2, 8] ?_
  rcases of_ite h with ⟨hc5, h⟩ | ⟨hc5, h⟩
  ·refine AW.condT' _ rfl hc5 ?_
   refine AW.sr ?_
   refine AO.c (x := .st [(256, (.ar 1 ((Vector.replicate 256 (0 : Int)).toList.map eU8))), (1, (.fl (.slice none 0 0))), (1, (.fl (.slice none 0 0)))]) (Calm.build (qs := []) rfl trivial Try.underlying30 rfl zr30 lay30 .nil rfl) ?_
   refine AO.store (X' := (.st [(256, (.ar 1 ((Vector.replicate 256 (0 : Int)).toList.map eU8))), (1, (.fl (.slice none 0 0))), (1, (.fl (.slice none 0 0)))])) 1 rfl rfl rfl rfl rfl rfl (Put.cast Put.here rfl) rfl rfl sz30 rfl ?_
   refine AO.c (Calm.assign rfl rfl) ?_
   refine AO.nH [2, 3] (H' := [(n3, (.mem (.st [(256, (.ar 1 ((Vector.replicate 256 (0 : Int)).toList.map eU8))), (1, (.fl (.slice none 0 0))), (1, (.fl (.slice none 0 0)))])))]) (Sub.cons 1 rfl (Sub.nil _)) ?_
   refine AW.coeFld (X' := (.st [(256, (.ar 1 ((Vector.replicate 256 (0 : Int)).toList.map eU8))), (1, (.fz 1 (([] : List (List Int)).map e25))), (1, (.fl (.slice none 0 0)))])) 0 rfl (Put.cast (Put.fldS (Put.fld0 Put.here)) rfl) rfl (nil_fz 1) rfl rfl ?_
   refine AW.coeFld (X' := (.st [(256, (.ar 1 ((Vector.replicate 256 (0 : Int)).toList.map eU8))), (1, (.fz 1 (([] : List (List Int)).map e25))), (1, (.fz 1 (([] : List Int).map eI64)))])) 0 rfl (Put.cast (Put.fldS (Put.fldS (Put.fld0 Put.here))) rfl) rfl (nil_fz 1) rfl rfl ?_
   refine AW.rK [2, 3] ?_
   have hr := Option.some.inj h
   subst hr
   exact ⟨[(e30 (S30.mk (Vector.replicate 256 (0 : Int)) ([] : List (List Int)) ([] : List Int))), (eI64 (1 : Int))], ⟨⟨_, 0, rfl, rfl, ag30, sz30⟩, rfl, rfl, trivial⟩, rfl⟩
  ·refine AW.condF' _ rfl hc5 ?_
   refine AW.sK [1, 2] ?_
   refine AW.sr ?_
   refine AO.c (x := .ptr n2 0) (Calm.fldPtr rfl rfl Try.underlying24 rfl sz3 _ rfl) ?_
   refine AO.c (Calm.load 0 rfl rfl rfl (At.cast (At.fld0 At.here) rfl) ag3 sz3) ?_
   obtain ⟨hg7, h⟩ := of_guard h
   refine AO.makeL (f := eI64) (0 : Int) rfl 12 rfl (by decide) rfl rfl rfl Try.underlying25 sz3 by3 zr3 lay3 rfl hg7 fun n6 => ?_
   refine AO.c (Calm.assign rfl rfl) ?_
   refine AO.nH [1, 2, 4] (H' := [(n2, (.mem (e24 p0))), (n3, (.mem (.st [(256, (.ar 1 ((Vector.replicate 256 (0 : Int)).toList.map eU8))), (1, (.fl (.slice none 0 0))), (1, (.fl (.slice none 0 0)))]))), (n6, (.mem (.ar 1 ((List.replicate p0.f0.toNat (0 : Int)).map eI64))))]) (Sub.cons 1 rfl (Sub.cons 1 rfl (Sub.cons 0 rfl (Sub.nil _)))) ?_
   refine AW.seq_mid (fun ρ H => ∃ (x8 : (List Int)), ρ = [(1, (.ptr n2 0)), (2, (.ptr n3 0)), (4, (.own n6 0 x8.length))] ∧ H = [(n2, (.mem (e24 p0))), (n3, (.mem (.st [(256, (.ar 1 ((Vector.replicate 256 (0 : Int)).toList.map eU8))), (1, (.fl (.slice none 0 0))), (1, (.fl (.slice none 0 0)))]))), (n6, (.mem (.ar 1 (x8.map eI64))))] ∧ subset_One_c0 k p0 x8 = some r) ?_ ?_
   ·refine AW.sr ?_
    refine AO.c (Calm.move rfl rfl) ?_
    refine AO.c (Calm.lenOwn rfl rfl Try.underlying25) ?_
    refine AO.c (Calm.move rfl rfl) ?_
    refine AO.nK [1, 2, 4, 14, 15] ?_
    refine AW.block ?_
    refine AW.wK [1, 2, 4, 14, 15] ?_
    refine AW.loop (fun kq ρ H => ∃ (x11 : (List Int)) (x12 : Int), ρ = [(1, (.ptr n2 0)), (2, (.ptr n3 0)), (4, (.own n6 0 x11.length)), (14, (eI64 ((List.replicate p0.f0.toNat (0 : Int)).length : Int))), (15, (eI64 x12))] ∧ H = [(n2, (.mem (e24 p0))), (n3, (.mem (.st [(256, (.ar 1 ((Vector.replicate 256 (0 : Int)).toList.map eU8))), (1, (.fl (.slice none 0 0))), (1, (.fl (.slice none 0 0)))]))), (n6, (.mem (.ar 1 (x11.map eI64))))] ∧ subset_One_l1 k p0 kq x11 x12 = some r) k ⟨(List.replicate p0.f0.toNat (0 : Int)), (0 : Int), rfl, rfl, h⟩ ?_
    rintro kq14 _ _ ⟨x11, x12, rfl, rfl, h⟩
    cases kq14 with
    | zero => rw [subset_One_l1.eq_1] at h; cases h
    | succ kq14 =>
    rw [subset_One_l1.eq_2] at h
    generalize hrec13 : subset_One_l1 k p0 kq14 = rec13 at h
    refine AW.sr ?_
    refine AO.c (x := eBool (decide (x12 < ((List.replicate p0.f0.toNat (0 : Int)).length : Int)))) (Calm.int rfl rfl rfl rfl) ?_
    refine AO.nK [1, 2, 4, 14, 15, 16] ?_
    refine AW.seq ?_
    rcases of_ite h with ⟨hc15, h⟩ | ⟨hc15, h⟩
    ·refine AW.condP _ rfl hc15 ?_
     refine AW.sK [1, 2, 4, 14, 15] ?_
     refine AW.seq ?_
     refine AW.block ?_
     refine AW.sr ?_
     refine AO.c (Calm.move rfl rfl) ?_
     refine AO.c (Calm.assign rfl rfl) ?_
     refine AO.nK [1, 2, 4, 5, 14, 15] ?_
     refine AW.reg ?_
     refine AO.c (Calm.move rfl rfl) ?_
     refine AO.c (Calm.move rfl rfl) ?_
     obtain ⟨hg16, h⟩ := of_guard h
     refine AO.c (Calm.idxO 2 rfl rfl rfl rfl hg16 Try.underlying25 sz3) ?_
     refine AO.store (X' := (.ar 1 ((lset x11 x12 (-1 : Int)).map eI64))) 2 rfl rfl rfl rfl rfl rfl (Put.cast (Put.lidx x12 (-1 : Int) hg16.1 hg16.2 Put.here) (by omega)) rfl rfl sz3 rfl ?_
     refine AO.coe 4 (y' := (.own n6 0 (lset x11 x12 (-1 : Int)).length)) rfl (fun _ _ h => lset_own h) ?_
     refine AO.coe 18 (y' := (.own n6 0 (lset x11 x12 (-1 : Int)).length)) rfl (fun _ _ h => lset_own h) ?_
     refine AO.nK [1, 2, 4, 14, 15] ?_
     refine AW.reg ?_
     refine AO.c (x := eI64 (w64 (x12 + (1 : Int)))) (Calm.int rfl rfl rfl rfl) ?_
     refine AO.c (Calm.move rfl rfl) ?_
     refine AO.nK [1, 2, 4, 14, 15] ?_
     exact ⟨kq14, Nat.lt_succ_self _, (lset x11 x12 (-1 : Int)), (w64 (x12 + (1 : Int))), rfl, rfl, by rw [hrec13]; exact h⟩
    ·refine AW.condN _ rfl hc15 ?_
     refine AW.eK [1, 2, 4] ?_
     exact ⟨x11, rfl, rfl, h⟩
   ·rintro _ _ ⟨x8, rfl, rfl, h⟩
    rw [subset_One_c0.eq_1] at h
    refine AW.sr ?_
    refine AO.c (Calm.move rfl rfl) ?_
    refine AO.c (x := .ptr n2 3) (Calm.fldPtr rfl rfl Try.underlying24 rfl sz3 _ rfl) ?_
    refine AO.c (Calm.load 0 rfl rfl rfl (At.cast (At.fldS (At.fldS (At.fldS (At.fld0 At.here)))) rfl) ag3 sz3) ?_
    obtain ⟨hg9, h⟩ := of_guard h
    refine AO.c (Calm.idxO 2 rfl rfl rfl rfl hg9 Try.underlying25 sz3) ?_
    refine AO.store (X' := (.ar 1 ((lset x8 p0.f3 (0 : Int)).map eI64))) 2 rfl rfl rfl rfl rfl rfl (Put.cast (Put.lidx p0.f3 (0 : Int) hg9.1 hg9.2 Put.here) (by omega)) rfl rfl sz3 rfl ?_
    refine AO.coe 4 (y' := (.own n6 0 (lset x8 p0.f3 (0 : Int)).length)) rfl (fun _ _ h => lset_own h) ?_
    refine AO.coe 22 (y' := (.own n6 0 (lset x8 p0.f3 (0 : Int)).length)) rfl (fun _ _ h => lset_own h) ?_
    refine AO.nK [1, 2, 4] ?_
    refine AW.sr ?_
    refine AO.c (Calm.load 0 rfl rfl rfl (At.cast At.here rfl) ag24 sz24) ?_
    refine AO.c (Calm.move rfl rfl) ?_
    obtain ⟨t10, et10, h⟩ := of_bind h
    refine AO.freezeS 2 [(4, (.fz 1 ((lset x8 p0.f3 (0 : Int)).map eI64))), (27, (.fz 1 ((lset x8 p0.f3 (0 : Int)).map eI64)))] rfl ⟨fz_all rfl, fz_all rfl, trivial⟩ ?_
    refine AO.callS [(e24 p0), (.fz 1 ((lset x8 p0.f3 (0 : Int)).map eI64))] (.tup [(e30 t10.1), (eI64 t10.2)]) 28 rfl (by decide) ok13 rfl rfl rfl ⟨rfl, rfl, rfl, rfl, trivial⟩ (subset_Of_spec et10) ?_
    refine AO.c (Calm.extract rfl rfl rfl) ?_
    refine AO.c (Calm.extract rfl rfl rfl) ?_
    refine AO.store (X' := (e30 t10.1)) 1 rfl rfl rfl rfl rfl rfl (Put.cast Put.here rfl) rfl rfl sz30 rfl ?_
    refine AO.c (Calm.assign rfl rfl) ?_
    refine AO.nH [2, 3] (H' := [(n3, (.mem (e30 t10.1)))]) (Sub.cons 1 rfl (Sub.nil _)) ?_
    refine AW.rK [2, 3] ?_
    have hr := Option.some.inj h
    subst hr
    exact ⟨[(e30 t10.1), (eI64 t10.2)], ⟨⟨_, 0, rfl, rfl, ag30, sz30⟩, rfl, rfl, trivial⟩, rfl⟩
end Go.Avl.T5
/- bosket/bosketlaw07.awake; printed by avmain.py. -/
namespace Go.Avl.T5
open Go Go.RowKit Go.Proofs Go.Avl
set_option linter.unusedVariables false
set_option maxRecDepth 100000
set_option maxHeartbeats 4000000
attribute [local irreducible] AW AO AQ Spec SpecH Calm

def bosketlaw07_awake (k : Nat) : Option Bool :=
  (subset_One k (S24.mk (2 : Int) [(S43.mk (0 : Int) (1 : Int) (vset (vset (Vector.replicate 4 (0 : Int)) (0 : Int) (0 : Int)) (1 : Int) (8589934592 : Int)) false)] (0 : Int) (1 : Int))).bind fun t2 =>
  Option.bind (α := Bool) (if t2.2 = (0 : Int) then if (t2.1.f1.length : Int) = (2 : Int) then if (t2.1.f2.length : Int) = (2 : Int) then if 0 ≤ (0 : Int) ∧ (0 : Int) < (t2.1.f2.length : Int) then if (lget t2.1.f2 (0 : Int)) = (-1 : Int) then if 0 ≤ (1 : Int) ∧ (1 : Int) < (t2.1.f2.length : Int) then some (decide ((lget t2.1.f2 (1 : Int)) = (0 : Int)))
  else none
  else some (false)
  else none
  else some (false)
  else some (false)
  else some (false)) fun b4 =>
  some (b4)
theorem bosketlaw07_awake_spec {k : Nat}  {r : Bool} (h : bosketlaw07_awake k = some r) : Spec Try.prog 12 [] (eBool r) := by
  rw [bosketlaw07_awake.eq_1] at h
  refine Spec.intro (res := [.tmp 0]) Try.func12 rfl rfl rfl (Nat.le_of_ble_eq_true rfl) ?_
  refine AW.sr ?_
  refine AO.c (Calm.assign rfl rfl) ?_
  refine AO.nK [] ?_
  refine AW.sr ?_
  refine AO.c (x := .ar 1 ((vset (vset (Vector.replicate 4 (0 : Int)) (0 : Int) (0 : Int)) (1 : Int) (8589934592 : Int)).toList.map eU64)) (Calm.buildAr (qs := [(0, (eU64 (0 : Int))), (1, (eU64 (8589934592 : Int)))]) rfl ⟨rfl, rfl, rfl, rfl, rfl, rfl, trivial⟩ Try.underlying41 sz39 zr41 lay41 (.cons rfl rfl rfl rfl (Put.cast (Put.vidx (0 : Int) (0 : Int) (by decide) (by decide) Put.here) rfl) (.cons rfl rfl rfl rfl (Put.cast (Put.vidx (1 : Int) (8589934592 : Int) (by decide) (by decide) Put.here) rfl) .nil)) rfl) ?_
  refine AO.c (x := .st [(1, (eI64 (0 : Int))), (1, (eI64 (1 : Int))), (4, (.ar 1 ((vset (vset (Vector.replicate 4 (0 : Int)) (0 : Int) (0 : Int)) (1 : Int) (8589934592 : Int)).toList.map eU64))), (1, (eBool false))]) (Calm.build (qs := [(1, (eI64 (1 : Int))), (2, (.ar 1 ((vset (vset (Vector.replicate 4 (0 : Int)) (0 : Int) (0 : Int)) (1 : Int) (8589934592 : Int)).toList.map eU64)))]) rfl ⟨rfl, rfl, rfl, rfl, rfl, rfl, trivial⟩ Try.underlying43 rfl zr43 lay43 (.cons rfl rfl rfl rfl (Put.cast (Put.fldS (Put.fld0 Put.here)) rfl) (.cons rfl rfl (vec_size _ _) (vec_size _ _) (Put.cast (Put.fldS (Put.fldS (Put.fld0 Put.here))) rfl) .nil)) rfl) ?_
  refine AO.lit (Z := (.st [(1, (eI64 (0 : Int))), (1, (eI64 (0 : Int))), (4, (.ar 1 ((Vector.replicate 4 (0 : Int)).toList.map eU64))), (1, (eBool false))])) (xs := (([(S43.mk (0 : Int) (1 : Int) (vset (vset (Vector.replicate 4 (0 : Int)) (0 : Int) (0 : Int)) (1 : Int) (8589934592 : Int)) false)] : List S43).map e43)) (qs := [(0, (e43 (S43.mk (0 : Int) (1 : Int) (vset (vset (Vector.replicate 4 (0 : Int)) (0 : Int) (0 : Int)) (1 : Int) (8589934592 : Int)) false)))]) rfl 6 rfl (by decide) rfl ⟨rfl, rfl, rfl, trivial⟩ Try.underlying22 sz43 zr43 lay43 rfl (by decide) (litOK (z := 7) [(e43 (S43.mk (0 : Int) (1 : Int) (vset (vset (Vector.replicate 4 (0 : Int)) (0 : Int) (0 : Int)) (1 : Int) (8589934592 : Int)) false))] rfl ⟨⟨rfl, rfl⟩, trivial⟩) rfl fun n1 => ?_
  refine AO.freezeS 0 [(6, (.fz 7 (([(S43.mk (0 : Int) (1 : Int) (vset (vset (Vector.replicate 4 (0 : Int)) (0 : Int) (0 : Int)) (1 : Int) (8589934592 : Int)) false)] : List S43).map e43)))] rfl ⟨fz_all rfl, trivial⟩ ?_
  refine AO.c (x := .st [(1, (eI64 (2 : Int))), (1, (.fz 7 (([(S43.mk (0 : Int) (1 : Int) (vset (vset (Vector.replicate 4 (0 : Int)) (0 : Int) (0 : Int)) (1 : Int) (8589934592 : Int)) false)] : List S43).map e43))), (1, (eI64 (0 : Int))), (1, (eI64 (1 : Int)))]) (Calm.build (qs := [(0, (eI64 (2 : Int))), (3, (eI64 (1 : Int))), (1, (.fz 7 (([(S43.mk (0 : Int) (1 : Int) (vset (vset (Vector.replicate 4 (0 : Int)) (0 : Int) (0 : Int)) (1 : Int) (8589934592 : Int)) false)] : List S43).map e43)))]) rfl ⟨rfl, rfl, rfl, rfl, rfl, rfl, rfl, rfl, rfl, trivial⟩ Try.underlying24 rfl zr24 lay24 (.cons rfl rfl rfl rfl (Put.cast (Put.fld0 Put.here) rfl) (.cons rfl rfl rfl rfl (Put.cast (Put.fldS (Put.fldS (Put.fldS (Put.fld0 Put.here)))) rfl) (.cons rfl rfl rfl rfl (Put.cast (Put.fldS (Put.fld0 Put.here)) rfl) .nil))) rfl) ?_
  obtain ⟨t2, et2, h⟩ := of_bind h
  refine AO.callS [(e24 (S24.mk (2 : Int) [(S43.mk (0 : Int) (1 : Int) (vset (vset (Vector.replicate 4 (0 : Int)) (0 : Int) (0 : Int)) (1 : Int) (8589934592 : Int)) false)] (0 : Int) (1 : Int)))] (.tup [(e30 t2.1), (eI64 t2.2)]) 8 rfl (by decide) ok22 rfl rfl rfl ⟨rfl, rfl, trivial⟩ (subset_One_spec et2) ?_
  refine AO.c (Calm.move rfl rfl) ?_
  refine AO.c (Calm.extract rfl rfl rfl) ?_
  refine AO.c (Calm.extract rfl rfl rfl) ?_
  refine AO.alloc rfl 1 rfl (by decide) rfl zr30 lay30 fun n3 => ?_
  refine AO.store (X' := (e30 t2.1)) 0 rfl rfl rfl rfl rfl rfl (Put.cast Put.here rfl) rfl rfl sz30 rfl ?_
  refine AO.c (Calm.assign rfl rfl) ?_
  refine AO.nK [1, 2] ?_
  refine AW.seq ?_
  obtain ⟨b4, hq5, h⟩ := of_bind h
  refine AW.regM [(0, (eBool b4))] [] ?_ ?_
  ·refine AO.c (Calm.move rfl rfl) ?_
   refine AO.c (x := eBool (decide (t2.2 = (0 : Int)))) (Calm.int rfl rfl rfl rfl) ?_
   refine AO.c (Calm.move rfl rfl) ?_
   rcases of_ite hq5 with ⟨hc6, hq5⟩ | ⟨hc6, hq5⟩
   ·refine AO.cG (x := .ptr n3 256) rfl rfl (bD (decide_eq_true hc6)) (Calm.fldPtr rfl rfl Try.underlying30 rfl sz28 _ rfl) ?_
    refine AO.cG rfl rfl (bD (decide_eq_true hc6)) (Calm.load 0 rfl rfl rfl (At.cast (At.fldS (At.fld0 At.here)) rfl) ag28 sz28) ?_
    refine AO.cG rfl rfl (bD (decide_eq_true hc6)) (Calm.lenL rfl rfl Try.underlying28) ?_
    refine AO.cG (x := eBool (decide ((t2.1.f1.length : Int) = (2 : Int)))) rfl rfl (bD (decide_eq_true hc6)) (Calm.int rfl rfl rfl rfl) ?_
    refine AO.c (Calm.pickT rfl (bD (decide_eq_true hc6)) rfl) ?_
    refine AO.c (Calm.move rfl rfl) ?_
    rcases of_ite hq5 with ⟨hc7, hq5⟩ | ⟨hc7, hq5⟩
    ·refine AO.cG (x := .ptr n3 257) rfl rfl (bD (decide_eq_true hc7)) (Calm.fldPtr rfl rfl Try.underlying30 rfl sz25 _ rfl) ?_
     refine AO.cG rfl rfl (bD (decide_eq_true hc7)) (Calm.load 0 rfl rfl rfl (At.cast (At.fldS (At.fldS (At.fld0 At.here))) rfl) ag25 sz25) ?_
     refine AO.cG rfl rfl (bD (decide_eq_true hc7)) (Calm.lenL rfl rfl Try.underlying25) ?_
     refine AO.cG (x := eBool (decide ((t2.1.f2.length : Int) = (2 : Int)))) rfl rfl (bD (decide_eq_true hc7)) (Calm.int rfl rfl rfl rfl) ?_
     refine AO.c (Calm.pickT rfl (bD (decide_eq_true hc7)) rfl) ?_
     refine AO.c (Calm.move rfl rfl) ?_
     rcases of_ite hq5 with ⟨hc8, hq5⟩ | ⟨hc8, hq5⟩
     ·refine AO.cG (x := .ptr n3 257) rfl rfl (bD (decide_eq_true hc8)) (Calm.fldPtr rfl rfl Try.underlying30 rfl sz25 _ rfl) ?_
      refine AO.cG rfl rfl (bD (decide_eq_true hc8)) (Calm.load 0 rfl rfl rfl (At.cast (At.fldS (At.fldS (At.fld0 At.here))) rfl) ag25 sz25) ?_
      obtain ⟨hg9, hq5⟩ := of_guard hq5
      refine AO.cG rfl rfl (bD (decide_eq_true hc8)) (Calm.idxL (f := eI64) rfl rfl rfl hg9 Try.underlying25 sz3) ?_
      refine AO.cG rfl rfl (bD (decide_eq_true hc8)) (Calm.loadRp rfl rfl ag3 sz3) ?_
      refine AO.cG (x := eBool (decide ((lget t2.1.f2 (0 : Int)) = (-1 : Int)))) rfl rfl (bD (decide_eq_true hc8)) (Calm.int rfl rfl rfl rfl) ?_
      refine AO.c (Calm.pickT rfl (bD (decide_eq_true hc8)) rfl) ?_
      refine AO.c (Calm.move rfl rfl) ?_
      rcases of_ite hq5 with ⟨hc10, hq5⟩ | ⟨hc10, hq5⟩
      ·refine AO.cG (x := .ptr n3 257) rfl rfl (bD (decide_eq_true hc10)) (Calm.fldPtr rfl rfl Try.underlying30 rfl sz25 _ rfl) ?_
       refine AO.cG rfl rfl (bD (decide_eq_true hc10)) (Calm.load 0 rfl rfl rfl (At.cast (At.fldS (At.fldS (At.fld0 At.here))) rfl) ag25 sz25) ?_
       obtain ⟨hg11, hq5⟩ := of_guard hq5
       refine AO.cG rfl rfl (bD (decide_eq_true hc10)) (Calm.idxL (f := eI64) rfl rfl rfl hg11 Try.underlying25 sz3) ?_
       refine AO.cG rfl rfl (bD (decide_eq_true hc10)) (Calm.loadRp rfl rfl ag3 sz3) ?_
       refine AO.cG (x := eBool (decide ((lget t2.1.f2 (1 : Int)) = (0 : Int)))) rfl rfl (bD (decide_eq_true hc10)) (Calm.int rfl rfl rfl rfl) ?_
       refine AO.c (Calm.pickT rfl (bD (decide_eq_true hc10)) rfl) ?_
       refine AO.c (Calm.assign rfl rfl) ?_
       cases hq5
       refine AO.nilE ⟨rfl, rfl⟩ ?_ ?_
       · exact ⟨rfl, trivial⟩
       · exact (Sub.nil _)
      ·refine AO.sT rfl rfl (bD (decide_eq_false hc10)) ?_
       refine AO.sT rfl rfl (bD (decide_eq_false hc10)) ?_
       refine AO.sT rfl rfl (bD (decide_eq_false hc10)) ?_
       refine AO.sT rfl rfl (bD (decide_eq_false hc10)) ?_
       refine AO.sT rfl rfl (bD (decide_eq_false hc10)) ?_
       refine AO.c (Calm.pickF rfl (bD (decide_eq_false hc10)) rfl) ?_
       refine AO.c (Calm.assign rfl rfl) ?_
       cases hq5
       refine AO.nilE ⟨rfl, rfl⟩ ?_ ?_
       · exact ⟨rfl, trivial⟩
       · exact (Sub.nil _)
     ·refine AO.sT rfl rfl (bD (decide_eq_false hc8)) ?_
      refine AO.sT rfl rfl (bD (decide_eq_false hc8)) ?_
      refine AO.sT rfl rfl (bD (decide_eq_false hc8)) ?_
      refine AO.sT rfl rfl (bD (decide_eq_false hc8)) ?_
      refine AO.sT rfl rfl (bD (decide_eq_false hc8)) ?_
      refine AO.c (Calm.pickF rfl (bD (decide_eq_false hc8)) rfl) ?_
      refine AO.c (Calm.move rfl rfl) ?_
      refine AO.sT rfl rfl rfl ?_
      refine AO.sT rfl rfl rfl ?_
      refine AO.sT rfl rfl rfl ?_
      refine AO.sT rfl rfl rfl ?_
      refine AO.sT rfl rfl rfl ?_
      refine AO.c (Calm.pickF rfl rfl rfl) ?_
      refine AO.c (Calm.assign rfl rfl) ?_
      cases hq5
      refine AO.nilE ⟨rfl, rfl⟩ ?_ ?_
      · exact ⟨rfl, trivial⟩
      · exact (Sub.nil _)
    ·refine AO.sT rfl rfl (bD (decide_eq_false hc7)) ?_
     refine AO.sT rfl rfl (bD (decide_eq_false hc7)) ?_
     refine AO.sT rfl rfl (bD (decide_eq_false hc7)) ?_
     refine AO.sT rfl rfl (bD (decide_eq_false hc7)) ?_
     refine AO.c (Calm.pickF rfl (bD (decide_eq_false hc7)) rfl) ?_
     refine AO.c (Calm.move rfl rfl) ?_
     refine AO.sT rfl rfl rfl ?_
     refine AO.sT rfl rfl rfl ?_
     refine AO.sT rfl rfl rfl ?_
     refine AO.sT rfl rfl rfl ?_
     refine AO.sT rfl rfl rfl ?_
     refine AO.c (Calm.pickF rfl rfl rfl) ?_
     refine AO.c (Calm.move rfl rfl) ?_
     refine AO.sT rfl rfl rfl ?_
     refine AO.sT rfl rfl rfl ?_
     refine AO.sT rfl rfl rfl ?_
     refine AO.sT rfl rfl rfl ?_
     refine AO.sT rfl rfl rfl ?_
     refine AO.c (Calm.pickF rfl rfl rfl) ?_
     refine AO.c (Calm.assign rfl rfl) ?_
     cases hq5
     refine AO.nilE ⟨rfl, rfl⟩ ?_ ?_
     · exact ⟨rfl, trivial⟩
     · exact (Sub.nil _)
   ·refine AO.sT rfl rfl (bD (decide_eq_false hc6)) ?_
    refine AO.sT rfl rfl (bD (decide_eq_false hc6)) ?_
    refine AO.sT rfl rfl (bD (decide_eq_false hc6)) ?_
    refine AO.sT rfl rfl (bD (decide_eq_false hc6)) ?_
    refine AO.c (Calm.pickF rfl (bD (decide_eq_false hc6)) rfl) ?_
    refine AO.c (Calm.move rfl rfl) ?_
    refine AO.sT rfl rfl rfl ?_
    refine AO.sT rfl rfl rfl ?_
    refine AO.sT rfl rfl rfl ?_
    refine AO.sT rfl rfl rfl ?_
    refine AO.c (Calm.pickF rfl rfl rfl) ?_
    refine AO.c (Calm.move rfl rfl) ?_
    refine AO.sT rfl rfl rfl ?_
    refine AO.sT rfl rfl rfl ?_
    refine AO.sT rfl rfl rfl ?_
    refine AO.sT rfl rfl rfl ?_
    refine AO.sT rfl rfl rfl ?_
    refine AO.c (Calm.pickF rfl rfl rfl) ?_
    refine AO.c (Calm.move rfl rfl) ?_
    refine AO.sT rfl rfl rfl ?_
    refine AO.sT rfl rfl rfl ?_
    refine AO.sT rfl rfl rfl ?_
    refine AO.sT rfl rfl rfl ?_
    refine AO.sT rfl rfl rfl ?_
    refine AO.c (Calm.pickF rfl rfl rfl) ?_
    refine AO.c (Calm.assign rfl rfl) ?_
    cases hq5
    refine AO.nilE ⟨rfl, rfl⟩ ?_ ?_
    · exact ⟨rfl, trivial⟩
    · exact (Sub.nil _)
  ·refine AW.rK [0] ?_
   have hr := Option.some.inj h
   subst hr
   exact ⟨[(eBool b4)], ⟨rfl, rfl, trivial⟩, rfl⟩
end Go.Avl.T5
/- bosket/bosketlaw07.SubsetOf; printed by avmain.py. -/
namespace Go.Avl.T5
open Go Go.RowKit Go.Proofs Go.Avl
set_option linter.unusedVariables false
set_option maxRecDepth 100000
set_option maxHeartbeats 4000000
attribute [local irreducible] AW AO AQ Spec SpecH Calm

def bosketlaw07_SubsetOf_c0 (k : Nat) (t11 : (S30 × Int)) (t18 : ((List (List Int)) × (List Int))) : Option Bool :=
  Option.bind (α := Bool) (if t11.2 = (0 : Int) then (bosketref07_SameRows k t11.1.f1 t18.1).bind fun t26 =>
  if t26 = true then (bosketref01_Same k t11.1.f2 t18.2).bind fun t28 =>
  some (t28)
  else some (false)
  else some (false)) fun b23 =>
  some (b23)
def bosketlaw07_SubsetOf_l1 (k : Nat) (t11 : (S30 × Int)) (t18 : ((List (List Int)) × (List Int))) (t20 : (List Int)) (x22 : (List (Vector Int 4))) : Nat → Int → Option Bool
  | 0, _ => none
  | j + 1, x29 =>
    if x29 < (256 : Int) then (bosketref02_Class k x22 x29).bind fun t33 =>
    Option.bind (α := Bool) (if 0 ≤ x29 ∧ x29 < (256 : Int) then if (t20.length : Int) ≤ (w64 (vget t11.1.f0 x29)) then some (true)
    else if 0 ≤ x29 ∧ x29 < (256 : Int) then if 0 ≤ (vget t11.1.f0 x29) ∧ (vget t11.1.f0 x29) < (t20.length : Int) then some (decide ((lget t20 (vget t11.1.f0 x29)) ≠ t33))
    else none
    else none
    else none) fun b34 =>
    if b34 = true then some (false)
    else (bosketlaw07_SubsetOf_l1 k t11 t18 t20 x22 j) (w64 (x29 + (1 : Int)))
    else bosketlaw07_SubsetOf_c0 k t11 t18
def bosketlaw07_SubsetOf_c2 (k : Nat) (t11 : (S30 × Int)) (t18 : ((List (List Int)) × (List Int))) (t20 : (List Int)) (x22 : (List (Vector Int 4))) : Option Bool :=
  bosketlaw07_SubsetOf_l1 k t11 t18 t20 x22 k (0 : Int)
def bosketlaw07_SubsetOf_c3 (k : Nat) (rec44 : ((List (Vector Int 4)) → Int → Option Bool)) (x43 : Int) (x48 : (List (Vector Int 4))) : Option Bool :=
  rec44 x48 (w64 (x43 + (1 : Int)))
def bosketlaw07_SubsetOf_l4 (k : Nat) (p0 : S24) (t11 : (S30 × Int)) (t18 : ((List (List Int)) × (List Int))) (t20 : (List Int)) : Nat → (List (Vector Int 4)) → Int → Option Bool
  | 0, _, _ => none
  | j + 1, x42, x43 =>
    if x43 < (p0.f1.length : Int) then if 0 ≤ x43 ∧ x43 < (p0.f1.length : Int) then if (!((lget p0.f1 x43).f3)) = true then if 0 ≤ x43 ∧ x43 < (p0.f1.length : Int) then if (x42 ++ ([(lget p0.f1 x43).f2] : List (Vector Int 4))).length * 32 ≤ 140737488355328 then bosketlaw07_SubsetOf_c3 k (bosketlaw07_SubsetOf_l4 k p0 t11 t18 t20 j) x43 (x42 ++ ([(lget p0.f1 x43).f2] : List (Vector Int 4)))
    else none
    else none
    else bosketlaw07_SubsetOf_c3 k (bosketlaw07_SubsetOf_l4 k p0 t11 t18 t20 j) x43 x42
    else none
    else bosketlaw07_SubsetOf_c2 k t11 t18 t20 x42
def bosketlaw07_SubsetOf (k : Nat) (p0 : S24) (p1 : (List Int)) : Option Bool :=
  (bosketlaw07_awake k).bind fun t4 =>
  if (!t4) = true then some (false)
  else Option.bind (α := Bool) (if (12 : Int) < p0.f0 then some (true)
  else if (30 : Int) < (p0.f1.length : Int) then some (true)
  else some (decide ((40 : Int) < (p1.length : Int)))) fun b6 =>
  if b6 = true then some (true)
  else (subset_Of k p0 p1).bind fun t11 =>
  (bosketref06_Right k p0).bind fun t13 =>
  if (!t13) = true then Option.bind (α := Bool) (if t11.2 = (1 : Int) then some (decide ((t11.1.f1.length : Int) = (0 : Int)))
  else some (false)) fun b15 =>
  some (b15)
  else (bosketref07_Of k p0 p1).bind fun t18 =>
  if (t18.1.length : Int) = (0 : Int) then some (true)
  else (bosketref07_Reps k p0).bind fun t20 =>
  bosketlaw07_SubsetOf_l4 k p0 t11 t18 t20 k ([] : List (Vector Int 4)) (0 : Int)
theorem bosketlaw07_SubsetOf_spec {k : Nat} {p0 : S24} {p1 : (List Int)} {r : Bool} (h : bosketlaw07_SubsetOf k p0 p1 = some r) : Spec Try.prog 3 [(e24 p0), (.fz 1 (p1.map eI64))] (eBool r) := by
  rw [bosketlaw07_SubsetOf.eq_1] at h
  refine Spec.intro (res := [.tmp 4]) Try.func3 rfl rfl rfl (Nat.le_of_ble_eq_true rfl) ?_
  refine AW.sr ?_
  refine AO.box rfl 2 rfl (by decide) rfl rfl rfl fun n3 => ?_
  refine AO.c (Calm.assign rfl rfl) ?_
  refine AO.nK [1, 2] ?_
  refine AW.seq ?_
  refine AW.sr ?_
  obtain ⟨t4, et4, h⟩ := of_bind h
  refine AO.callS [] (eBool t4) 14 rfl (by decide) ok12 rfl rfl rfl trivial (bosketlaw07_awake_spec et4) ?_
  refine AO.c (Calm.not rfl rfl) ?_
  refine AO.nK [1, 2, 15] ?_
  rcases of_ite h with ⟨hc5, h⟩ | ⟨hc5, h⟩
  ·refine AW.condT' _ rfl hc5 ?_
   refine AW.sr ?_
   refine AO.c (Calm.assign rfl rfl) ?_
   refine AO.nH [4] (H' := []) (Sub.nil _) ?_
   refine AW.rK [4] ?_
   have hr := Option.some.inj h
   subst hr
   exact ⟨[(eBool false)], ⟨rfl, rfl, trivial⟩, rfl⟩
  ·refine AW.condF' _ rfl hc5 ?_
   refine AW.sK [1, 2] ?_
   refine AW.seq ?_
   refine AW.seq ?_
   obtain ⟨b6, hq7, h⟩ := of_bind h
   refine AW.regM [(1, (.fz 1 (p1.map eI64))), (2, (.ptr n3 0)), (29, (eBool b6))] [(n3, (.mem (e24 p0)))] ?_ ?_
   ·refine AO.c (x := .ptr n3 0) (Calm.fldPtr rfl rfl Try.underlying24 rfl sz3 _ rfl) ?_
    refine AO.c (Calm.load 0 rfl rfl rfl (At.cast (At.fld0 At.here) rfl) ag3 sz3) ?_
    refine AO.c (x := eBool (decide ((12 : Int) < p0.f0))) (Calm.int rfl rfl rfl rfl) ?_
    refine AO.c (Calm.move rfl rfl) ?_
    rcases of_ite hq7 with ⟨hc8, hq7⟩ | ⟨hc8, hq7⟩
    ·refine AO.sF rfl rfl (bD (decide_eq_true hc8)) ?_
     refine AO.sF rfl rfl (bD (decide_eq_true hc8)) ?_
     refine AO.sF rfl rfl (bD (decide_eq_true hc8)) ?_
     refine AO.sF rfl rfl (bD (decide_eq_true hc8)) ?_
     refine AO.c (Calm.pickT rfl (bD (decide_eq_true hc8)) rfl) ?_
     refine AO.c (Calm.move rfl rfl) ?_
     refine AO.sF rfl rfl rfl ?_
     refine AO.sF rfl rfl rfl ?_
     refine AO.sF rfl rfl rfl ?_
     refine AO.c (Calm.pickT rfl rfl rfl) ?_
     cases hq7
     refine AO.nilE ⟨rfl, rfl⟩ ?_ ?_
     · exact ⟨rfl, rfl, rfl, trivial⟩
     · exact (Sub.refl _)
    ·refine AO.cG (x := .ptr n3 1) rfl rfl (bD (decide_eq_false hc8)) (Calm.fldPtr rfl rfl Try.underlying24 rfl sz22 _ rfl) ?_
     refine AO.cG rfl rfl (bD (decide_eq_false hc8)) (Calm.load 0 rfl rfl rfl (At.cast (At.fldS (At.fld0 At.here)) rfl) ag22 sz22) ?_
     refine AO.cG rfl rfl (bD (decide_eq_false hc8)) (Calm.lenL rfl rfl Try.underlying22) ?_
     refine AO.cG (x := eBool (decide ((30 : Int) < (p0.f1.length : Int)))) rfl rfl (bD (decide_eq_false hc8)) (Calm.int rfl rfl rfl rfl) ?_
     refine AO.c (Calm.pickF rfl (bD (decide_eq_false hc8)) rfl) ?_
     refine AO.c (Calm.move rfl rfl) ?_
     rcases of_ite hq7 with ⟨hc9, hq7⟩ | ⟨hc9, hq7⟩
     ·refine AO.sF rfl rfl (bD (decide_eq_true hc9)) ?_
      refine AO.sF rfl rfl (bD (decide_eq_true hc9)) ?_
      refine AO.sF rfl rfl (bD (decide_eq_true hc9)) ?_
      refine AO.c (Calm.pickT rfl (bD (decide_eq_true hc9)) rfl) ?_
      cases hq7
      refine AO.nilE ⟨rfl, rfl⟩ ?_ ?_
      · exact ⟨rfl, rfl, rfl, trivial⟩
      · exact (Sub.refl _)
     ·refine AO.cG rfl rfl (bD (decide_eq_false hc9)) (Calm.move rfl rfl) ?_
      refine AO.cG rfl rfl (bD (decide_eq_false hc9)) (Calm.lenL rfl rfl Try.underlying25) ?_
      refine AO.cG (x := eBool (decide ((40 : Int) < (p1.length : Int)))) rfl rfl (bD (decide_eq_false hc9)) (Calm.int rfl rfl rfl rfl) ?_
      refine AO.c (Calm.pickF rfl (bD (decide_eq_false hc9)) rfl) ?_
      cases hq7
      refine AO.nilE ⟨rfl, rfl⟩ ?_ ?_
      · exact ⟨rfl, rfl, rfl, trivial⟩
      · exact (Sub.refl _)
   ·rcases of_ite h with ⟨hc10, h⟩ | ⟨hc10, h⟩
    ·refine AW.condT' _ rfl hc10 ?_
     refine AW.sr ?_
     refine AO.c (Calm.assign rfl rfl) ?_
     refine AO.nH [4] (H' := []) (Sub.nil _) ?_
     refine AW.rK [4] ?_
     have hr := Option.some.inj h
     subst hr
     exact ⟨[(eBool true)], ⟨rfl, rfl, trivial⟩, rfl⟩
    ·refine AW.condF' _ rfl hc10 ?_
     refine AW.sK [1, 2] ?_
     refine AW.sr ?_
     refine AO.c (Calm.load 0 rfl rfl rfl (At.cast At.here rfl) ag24 sz24) ?_
     refine AO.c (Calm.move rfl rfl) ?_
     obtain ⟨t11, et11, h⟩ := of_bind h
     refine AO.callS [(e24 p0), (.fz 1 (p1.map eI64))] (.tup [(e30 t11.1), (eI64 t11.2)]) 33 rfl (by decide) ok13 rfl rfl rfl ⟨rfl, rfl, rfl, rfl, trivial⟩ (subset_Of_spec et11) ?_
     refine AO.c (Calm.move rfl rfl) ?_
     refine AO.c (Calm.extract rfl rfl rfl) ?_
     refine AO.c (Calm.extract rfl rfl rfl) ?_
     refine AO.alloc rfl 5 rfl (by decide) rfl zr30 lay30 fun n12 => ?_
     refine AO.store (X' := (e30 t11.1)) 0 rfl rfl rfl rfl rfl rfl (Put.cast Put.here rfl) rfl rfl sz30 rfl ?_
     refine AO.c (Calm.assign rfl rfl) ?_
     refine AO.nH [1, 2, 5, 6] (H' := [(n3, (.mem (e24 p0))), (n12, (.mem (e30 t11.1)))]) (Sub.cons 1 rfl (Sub.cons 0 rfl (Sub.nil _))) ?_
     refine AW.seq ?_
     refine AW.sr ?_
     refine AO.c (Calm.load 0 rfl rfl rfl (At.cast At.here rfl) ag24 sz24) ?_
     obtain ⟨t13, et13, h⟩ := of_bind h
     refine AO.callS [(e24 p0)] (eBool t13) 37 rfl (by decide) ok14 rfl rfl rfl ⟨rfl, rfl, trivial⟩ (bosketref06_Right_spec et13) ?_
     refine AO.c (Calm.not rfl rfl) ?_
     refine AO.nK [1, 2, 5, 6, 38] ?_
     rcases of_ite h with ⟨hc14, h⟩ | ⟨hc14, h⟩
     ·refine AW.condT' _ rfl hc14 ?_
      refine AW.seq ?_
      obtain ⟨b15, hq16, h⟩ := of_bind h
      refine AW.regM [(4, (eBool b15))] [] ?_ ?_
      ·refine AO.c (Calm.move rfl rfl) ?_
       refine AO.c (x := eBool (decide (t11.2 = (1 : Int)))) (Calm.int rfl rfl rfl rfl) ?_
       refine AO.c (Calm.move rfl rfl) ?_
       rcases of_ite hq16 with ⟨hc17, hq16⟩ | ⟨hc17, hq16⟩
       ·refine AO.cG (x := .ptr n12 256) rfl rfl (bD (decide_eq_true hc17)) (Calm.fldPtr rfl rfl Try.underlying30 rfl sz28 _ rfl) ?_
        refine AO.cG rfl rfl (bD (decide_eq_true hc17)) (Calm.load 1 rfl rfl rfl (At.cast (At.fldS (At.fld0 At.here)) rfl) ag28 sz28) ?_
        refine AO.cG rfl rfl (bD (decide_eq_true hc17)) (Calm.lenL rfl rfl Try.underlying28) ?_
        refine AO.cG (x := eBool (decide ((t11.1.f1.length : Int) = (0 : Int)))) rfl rfl (bD (decide_eq_true hc17)) (Calm.int rfl rfl rfl rfl) ?_
        refine AO.c (Calm.pickT rfl (bD (decide_eq_true hc17)) rfl) ?_
        refine AO.c (Calm.assign rfl rfl) ?_
        cases hq16
        refine AO.nilE ⟨rfl, rfl⟩ ?_ ?_
        · exact ⟨rfl, trivial⟩
        · exact (Sub.nil _)
       ·refine AO.sT rfl rfl (bD (decide_eq_false hc17)) ?_
        refine AO.sT rfl rfl (bD (decide_eq_false hc17)) ?_
        refine AO.sT rfl rfl (bD (decide_eq_false hc17)) ?_
        refine AO.sT rfl rfl (bD (decide_eq_false hc17)) ?_
        refine AO.c (Calm.pickF rfl (bD (decide_eq_false hc17)) rfl) ?_
        refine AO.c (Calm.assign rfl rfl) ?_
        cases hq16
        refine AO.nilE ⟨rfl, rfl⟩ ?_ ?_
        · exact ⟨rfl, trivial⟩
        · exact (Sub.nil _)
      ·refine AW.rK [4] ?_
       have hr := Option.some.inj h
       subst hr
       exact ⟨[(eBool b15)], ⟨rfl, rfl, trivial⟩, rfl⟩
     ·refine AW.condF' _ rfl hc14 ?_
      refine AW.sK [1, 2, 5, 6] ?_
      refine AW.sr ?_
      refine AO.c (Calm.load 0 rfl rfl rfl (At.cast At.here rfl) ag24 sz24) ?_
      refine AO.c (Calm.move rfl rfl) ?_
      obtain ⟨t18, et18, h⟩ := of_bind h
      refine AO.callS [(e24 p0), (.fz 1 (p1.map eI64))] (.tup [(.fz 1 (t18.1.map e25)), (.fz 1 (t18.2.map eI64))]) 50 rfl (by decide) ok15 rfl rfl rfl ⟨rfl, rfl, rfl, rfl, trivial⟩ (bosketref07_Of_spec et18) ?_
      refine AO.c (Calm.move rfl rfl) ?_
      refine AO.c (Calm.extract rfl rfl rfl) ?_
      refine AO.c (Calm.extract rfl rfl rfl) ?_
      refine AO.c (Calm.assign rfl rfl) ?_
      refine AO.c (Calm.assign rfl rfl) ?_
      refine AO.nK [2, 5, 6, 7, 8] ?_
      refine AW.seq ?_
      refine AW.sr ?_
      refine AO.c (Calm.move rfl rfl) ?_
      refine AO.c (Calm.lenL rfl rfl Try.underlying28) ?_
      refine AO.c (x := eBool (decide ((t18.1.length : Int) = (0 : Int)))) (Calm.int rfl rfl rfl rfl) ?_
      refine AO.nK [2, 5, 6, 7, 8, 55] ?_
      rcases of_ite h with ⟨hc19, h⟩ | ⟨hc19, h⟩
      ·refine AW.condP _ rfl hc19 ?_
       refine AW.sr ?_
       refine AO.c (Calm.assign rfl rfl) ?_
       refine AO.nH [4] (H' := []) (Sub.nil _) ?_
       refine AW.rK [4] ?_
       have hr := Option.some.inj h
       subst hr
       exact ⟨[(eBool true)], ⟨rfl, rfl, trivial⟩, rfl⟩
      ·refine AW.condN _ rfl hc19 ?_
       refine AW.sK [2, 5, 6, 7, 8] ?_
       refine AW.sr ?_
       refine AO.c (Calm.load 0 rfl rfl rfl (At.cast At.here rfl) ag24 sz24) ?_
       obtain ⟨t20, et20, h⟩ := of_bind h
       refine AO.callS [(e24 p0)] (.fz 1 (t20.map eI64)) 57 rfl (by decide) ok16 rfl rfl rfl ⟨rfl, rfl, trivial⟩ (bosketref07_Reps_spec et20) ?_
       refine AO.c (Calm.assign rfl rfl) ?_
       refine AO.nK [2, 5, 6, 7, 8, 9] ?_
       refine AW.sr ?_
       refine AO.c (Calm.assign rfl rfl) ?_
       refine AO.nK [2, 5, 6, 7, 8, 9, 10] ?_
       refine AW.seq_mid (fun ρ H => ∃ (n21 : Nat) (x22 : (List (Vector Int 4))), ρ = [(5, (.ptr n12 0)), (6, (eI64 t11.2)), (7, (.fz 1 (t18.1.map e25))), (8, (.fz 1 (t18.2.map eI64))), (9, (.fz 1 (t20.map eI64))), (10, (.own n21 0 x22.length))] ∧ H = [(n12, (.mem (e30 t11.1))), (n21, (.mem (.ar 4 (x22.map e41))))] ∧ bosketlaw07_SubsetOf_c2 k t11 t18 t20 x22 = some r) ?_ ?_
       ·refine AW.sr ?_
        refine AO.c (Calm.assign rfl rfl) ?_
        refine AO.nK [2, 5, 6, 7, 8, 9, 10, 11] ?_
        refine AW.block ?_
        refine AW.nilOwn 10 4 rfl fun n55 => ?_
        refine AW.wH [2, 5, 6, 7, 8, 9, 10, 11] (H' := [(n3, (.mem (e24 p0))), (n12, (.mem (e30 t11.1))), (n55, (.mem (.ar 4 (([] : List (Vector Int 4)).map e41))))]) (Sub.cons 1 rfl (Sub.cons 1 rfl (Sub.cons 0 rfl (Sub.nil _)))) ?_
        refine AW.loop (fun kq ρ H => ∃ (n41 : Nat) (x42 : (List (Vector Int 4))) (x43 : Int), ρ = [(2, (.ptr n3 0)), (5, (.ptr n12 0)), (6, (eI64 t11.2)), (7, (.fz 1 (t18.1.map e25))), (8, (.fz 1 (t18.2.map eI64))), (9, (.fz 1 (t20.map eI64))), (10, (.own n41 0 x42.length)), (11, (eI64 x43))] ∧ H = [(n3, (.mem (e24 p0))), (n12, (.mem (e30 t11.1))), (n41, (.mem (.ar 4 (x42.map e41))))] ∧ bosketlaw07_SubsetOf_l4 k p0 t11 t18 t20 kq x42 x43 = some r) k ⟨n55, ([] : List (Vector Int 4)), (0 : Int), rfl, rfl, h⟩ ?_
        rintro kq45 _ _ ⟨n41, x42, x43, rfl, rfl, h⟩
        cases kq45 with
        | zero => rw [bosketlaw07_SubsetOf_l4.eq_1] at h; cases h
        | succ kq45 =>
        rw [bosketlaw07_SubsetOf_l4.eq_2] at h
        generalize hrec44 : bosketlaw07_SubsetOf_l4 k p0 t11 t18 t20 kq45 = rec44 at h
        refine AW.seq ?_
        refine AW.sr ?_
        refine AO.c (Calm.move rfl rfl) ?_
        refine AO.c (x := .ptr n3 1) (Calm.fldPtr rfl rfl Try.underlying24 rfl sz22 _ rfl) ?_
        refine AO.c (Calm.load 0 rfl rfl rfl (At.cast (At.fldS (At.fld0 At.here)) rfl) ag22 sz22) ?_
        refine AO.c (Calm.lenL rfl rfl Try.underlying22) ?_
        refine AO.c (x := eBool (decide (x43 < (p0.f1.length : Int)))) (Calm.int rfl rfl rfl rfl) ?_
        refine AO.nK [2, 5, 6, 7, 8, 9, 10, 11, 62] ?_
        rcases of_ite h with ⟨hc46, h⟩ | ⟨hc46, h⟩
        ·refine AW.condP _ rfl hc46 ?_
         refine AW.sK [2, 5, 6, 7, 8, 9, 10, 11] ?_
         refine AW.seq_mid (fun ρ H => ∃ (n47 : Nat) (x48 : (List (Vector Int 4))), ρ = [(2, (.ptr n3 0)), (5, (.ptr n12 0)), (6, (eI64 t11.2)), (7, (.fz 1 (t18.1.map e25))), (8, (.fz 1 (t18.2.map eI64))), (9, (.fz 1 (t20.map eI64))), (10, (.own n47 0 x48.length)), (11, (eI64 x43))] ∧ H = [(n3, (.mem (e24 p0))), (n12, (.mem (e30 t11.1))), (n47, (.mem (.ar 4 (x48.map e41))))] ∧ bosketlaw07_SubsetOf_c3 k rec44 x43 x48 = some r) ?_ ?_
         ·refine AW.block ?_
          refine AW.sr ?_
          refine AO.c (x := .ptr n3 1) (Calm.fldPtr rfl rfl Try.underlying24 rfl sz22 _ rfl) ?_
          refine AO.c (Calm.load 0 rfl rfl rfl (At.cast (At.fldS (At.fld0 At.here)) rfl) ag22 sz22) ?_
          refine AO.c (Calm.move rfl rfl) ?_
          obtain ⟨hg49, h⟩ := of_guard h
          refine AO.c (Calm.idxL (f := e43) rfl rfl rfl hg49 Try.underlying22 sz43) ?_
          refine AO.c (Calm.fldRp rfl rfl Try.underlying43 rfl sz4 (At.cast (At.fldS (At.fldS (At.fldS (At.fld0 At.here)))) rfl)) ?_
          refine AO.c (Calm.loadRp rfl rfl ag4 sz4) ?_
          refine AO.c (Calm.not rfl rfl) ?_
          refine AO.nK [2, 5, 6, 7, 8, 9, 10, 11, 71] ?_
          rcases of_ite h with ⟨hc50, h⟩ | ⟨hc50, h⟩
          ·refine AW.condT' _ rfl hc50 ?_
           refine AW.reg ?_
           refine AO.c (Calm.move rfl rfl) ?_
           refine AO.c (x := .ptr n3 1) (Calm.fldPtr rfl rfl Try.underlying24 rfl sz22 _ rfl) ?_
           refine AO.c (Calm.load 0 rfl rfl rfl (At.cast (At.fldS (At.fld0 At.here)) rfl) ag22 sz22) ?_
           refine AO.c (Calm.move rfl rfl) ?_
           obtain ⟨hg51, h⟩ := of_guard h
           refine AO.c (Calm.idxL (f := e43) rfl rfl rfl hg51 Try.underlying22 sz43) ?_
           refine AO.c (Calm.fldRp rfl rfl Try.underlying43 rfl sz41 (At.cast (At.fldS (At.fldS (At.fld0 At.here))) rfl)) ?_
           refine AO.c (Calm.loadRp rfl rfl ag41 (by rw [sz41]; simp [AV.size])) ?_
           refine AO.lit (Z := (.ar 1 ((Vector.replicate 4 (0 : Int)).toList.map eU64))) (xs := (([(lget p0.f1 x43).f2] : List (Vector Int 4)).map e41)) (qs := [(0, (.ar 1 (((lget p0.f1 x43).f2).toList.map eU64)))]) rfl 79 rfl (by decide) rfl ⟨rfl, rfl, rfl, trivial⟩ Try.underlying38 sz41 zr41 lay41 rfl (by decide) (litOK (z := 4) [(.ar 1 (((lget p0.f1 x43).f2).toList.map eU64))] (vec_size _ _) ⟨⟨rfl, (vec_size _ _)⟩, trivial⟩) rfl fun n52 => ?_
           obtain ⟨hg54, h⟩ := of_guard h
           refine AO.appendL (l := x42) (m := ([(lget p0.f1 x43).f2] : List (Vector Int 4))) 3 80 rfl (by decide) rfl rfl rfl rfl rfl (Src.ownL (f := e41) (l := ([(lget p0.f1 x43).f2] : List (Vector Int 4))) 0 rfl) Try.underlying38 Try.underlying38 sz41 by41 zr41 rfl hg54 (by decide) fun n53 => ?_
           refine AO.c (Calm.assign rfl rfl) ?_
           refine AO.nH [2, 5, 6, 7, 8, 9, 10, 11] (H' := [(n3, (.mem (e24 p0))), (n12, (.mem (e30 t11.1))), (n53, (.mem (.ar 4 ((x42 ++ ([(lget p0.f1 x43).f2] : List (Vector Int 4))).map e41))))]) (Sub.cons 1 rfl (Sub.cons 1 rfl (Sub.cons 1 rfl (Sub.nil _)))) ?_
           exact ⟨n53, (x42 ++ ([(lget p0.f1 x43).f2] : List (Vector Int 4))), rfl, rfl, h⟩
          ·refine AW.condF' _ rfl hc50 ?_
           refine AW.sK [2, 5, 6, 7, 8, 9, 10, 11] ?_
           exact ⟨n41, x42, rfl, rfl, h⟩
         ·rintro _ _ ⟨n47, x48, rfl, rfl, h⟩
          rw [bosketlaw07_SubsetOf_c3.eq_1] at h
          refine AW.reg ?_
          refine AO.c (Calm.move rfl rfl) ?_
          refine AO.c (x := eI64 (w64 (x43 + (1 : Int)))) (Calm.int rfl rfl rfl rfl) ?_
          refine AO.c (Calm.assign rfl rfl) ?_
          refine AO.nK [2, 5, 6, 7, 8, 9, 10, 11] ?_
          exact ⟨kq45, Nat.lt_succ_self _, n47, x48, (w64 (x43 + (1 : Int))), rfl, rfl, by rw [hrec44]; exact h⟩
        ·refine AW.condN _ rfl hc46 ?_
         refine AW.eH [5, 6, 7, 8, 9, 10] (H' := [(n12, (.mem (e30 t11.1))), (n41, (.mem (.ar 4 (x42.map e41))))]) (Sub.cons 1 rfl (Sub.cons 1 rfl (Sub.nil _))) ?_
         exact ⟨n41, x42, rfl, rfl, h⟩
       ·rintro _ _ ⟨n21, x22, rfl, rfl, h⟩
        rw [bosketlaw07_SubsetOf_c2.eq_1] at h
        refine AW.seq_mid (fun ρ H => ρ = [(5, (.ptr n12 0)), (6, (eI64 t11.2)), (7, (.fz 1 (t18.1.map e25))), (8, (.fz 1 (t18.2.map eI64)))] ∧ H = [(n12, (.mem (e30 t11.1)))] ∧ bosketlaw07_SubsetOf_c0 k t11 t18 = some r) ?_ ?_
        ·refine AW.sr ?_
         refine AO.c (Calm.assign rfl rfl) ?_
         refine AO.nK [5, 6, 7, 8, 9, 10, 12] ?_
         refine AW.block ?_
         refine AW.wK [5, 6, 7, 8, 9, 10, 12] ?_
         refine AW.loop (fun kq ρ H => ∃ (x29 : Int), ρ = [(5, (.ptr n12 0)), (6, (eI64 t11.2)), (7, (.fz 1 (t18.1.map e25))), (8, (.fz 1 (t18.2.map eI64))), (9, (.fz 1 (t20.map eI64))), (10, (.own n21 0 x22.length)), (12, (eI64 x29))] ∧ H = [(n12, (.mem (e30 t11.1))), (n21, (.mem (.ar 4 (x22.map e41))))] ∧ bosketlaw07_SubsetOf_l1 k t11 t18 t20 x22 kq x29 = some r) k ⟨(0 : Int), rfl, rfl, h⟩ ?_
         rintro kq31 _ _ ⟨x29, rfl, rfl, h⟩
         cases kq31 with
         | zero => rw [bosketlaw07_SubsetOf_l1.eq_1] at h; cases h
         | succ kq31 =>
         rw [bosketlaw07_SubsetOf_l1.eq_2] at h
         generalize hrec30 : bosketlaw07_SubsetOf_l1 k t11 t18 t20 x22 kq31 = rec30 at h
         refine AW.seq ?_
         refine AW.sr ?_
         refine AO.c (Calm.move rfl rfl) ?_
         refine AO.c (x := eBool (decide (x29 < (256 : Int)))) (Calm.int rfl rfl rfl rfl) ?_
         refine AO.nK [5, 6, 7, 8, 9, 10, 12, 82] ?_
         rcases of_ite h with ⟨hc32, h⟩ | ⟨hc32, h⟩
         ·refine AW.condP _ rfl hc32 ?_
          refine AW.sK [5, 6, 7, 8, 9, 10, 12] ?_
          refine AW.seq ?_
          refine AW.block ?_
          refine AW.sr ?_
          refine AO.c (Calm.move rfl rfl) ?_
          refine AO.c (Calm.move rfl rfl) ?_
          obtain ⟨t33, et33, h⟩ := of_bind h
          refine AO.c (Calm.callB (args := [(.fz 4 (x22.map e41)), (eI64 x29)]) rfl rfl ok17 ⟨.inr ⟨_, 0, _, _, _, 1, rfl, rfl, by simp, by rw [own_all]⟩, .inl ⟨rfl, rfl⟩, trivial⟩ rfl (bosketref02_Class_spec et33)) ?_
          refine AO.c (Calm.assign rfl rfl) ?_
          refine AO.nK [5, 6, 7, 8, 9, 10, 12, 13] ?_
          refine AW.seq ?_
          obtain ⟨b34, hq35, h⟩ := of_bind h
          refine AW.regM [(5, (.ptr n12 0)), (6, (eI64 t11.2)), (7, (.fz 1 (t18.1.map e25))), (8, (.fz 1 (t18.2.map eI64))), (9, (.fz 1 (t20.map eI64))), (10, (.own n21 0 x22.length)), (12, (eI64 x29)), (106, (eBool b34))] [(n12, (.mem (e30 t11.1))), (n21, (.mem (.ar 4 (x22.map e41))))] ?_ ?_
          ·refine AO.c (Calm.move rfl rfl) ?_
           refine AO.c (x := .ptr n12 0) (Calm.fldPtr rfl rfl Try.underlying30 rfl sz27 _ rfl) ?_
           obtain ⟨hg36, hq35⟩ := of_guard hq35
           refine AO.c (Calm.idxP rfl rfl rfl hg36 Try.underlying27 sz5) ?_
           refine AO.c (Calm.load 0 rfl rfl rfl (At.cast (At.fld0 (At.vidx x29 hg36.1 hg36.2 At.here)) (by omega)) ag5 sz5) ?_
           refine AO.c (x := eI64 (w64 (vget t11.1.f0 x29))) (Calm.conv rfl rfl Try.underlying5 Try.underlying3) ?_
           refine AO.c (Calm.move rfl rfl) ?_
           refine AO.c (Calm.lenL rfl rfl Try.underlying25) ?_
           refine AO.c (x := eBool (decide ((t20.length : Int) ≤ (w64 (vget t11.1.f0 x29))))) (Calm.int rfl rfl rfl rfl) ?_
           refine AO.c (Calm.move rfl rfl) ?_
           rcases of_ite hq35 with ⟨hc37, hq35⟩ | ⟨hc37, hq35⟩
           ·refine AO.sF rfl rfl (bD (decide_eq_true hc37)) ?_
            refine AO.sF rfl rfl (bD (decide_eq_true hc37)) ?_
            refine AO.sF rfl rfl (bD (decide_eq_true hc37)) ?_
            refine AO.sF rfl rfl (bD (decide_eq_true hc37)) ?_
            refine AO.sF rfl rfl (bD (decide_eq_true hc37)) ?_
            refine AO.sF rfl rfl (bD (decide_eq_true hc37)) ?_
            refine AO.sF rfl rfl (bD (decide_eq_true hc37)) ?_
            refine AO.sF rfl rfl (bD (decide_eq_true hc37)) ?_
            refine AO.sF rfl rfl (bD (decide_eq_true hc37)) ?_
            refine AO.c (Calm.pickT rfl (bD (decide_eq_true hc37)) rfl) ?_
            cases hq35
            refine AO.nilE ⟨rfl, rfl⟩ ?_ ?_
            · exact ⟨rfl, rfl, rfl, rfl, rfl, rfl, rfl, rfl, trivial⟩
            · exact (Sub.refl _)
           ·refine AO.cG rfl rfl (bD (decide_eq_false hc37)) (Calm.move rfl rfl) ?_
            refine AO.cG rfl rfl (bD (decide_eq_false hc37)) (Calm.move rfl rfl) ?_
            refine AO.cG (x := .ptr n12 0) rfl rfl (bD (decide_eq_false hc37)) (Calm.fldPtr rfl rfl Try.underlying30 rfl sz27 _ rfl) ?_
            obtain ⟨hg38, hq35⟩ := of_guard hq35
            refine AO.cG rfl rfl (bD (decide_eq_false hc37)) (Calm.idxP rfl rfl rfl hg38 Try.underlying27 sz5) ?_
            refine AO.cG rfl rfl (bD (decide_eq_false hc37)) (Calm.load 0 rfl rfl rfl (At.cast (At.fld0 (At.vidx x29 hg38.1 hg38.2 At.here)) (by omega)) ag5 sz5) ?_
            obtain ⟨hg39, hq35⟩ := of_guard hq35
            refine AO.cG rfl rfl (bD (decide_eq_false hc37)) (Calm.idxL (f := eI64) rfl rfl rfl hg39 Try.underlying25 sz3) ?_
            refine AO.cG rfl rfl (bD (decide_eq_false hc37)) (Calm.loadRp rfl rfl ag3 sz3) ?_
            refine AO.cG rfl rfl (bD (decide_eq_false hc37)) (Calm.move rfl rfl) ?_
            refine AO.cG (x := eBool (decide ((lget t20 (vget t11.1.f0 x29)) ≠ t33))) rfl rfl (bD (decide_eq_false hc37)) (Calm.int rfl rfl rfl rfl) ?_
            refine AO.c (Calm.pickF rfl (bD (decide_eq_false hc37)) rfl) ?_
            cases hq35
            refine AO.nilE ⟨rfl, rfl⟩ ?_ ?_
            · exact ⟨rfl, rfl, rfl, rfl, rfl, rfl, rfl, rfl, trivial⟩
            · exact (Sub.refl _)
          ·rcases of_ite h with ⟨hc40, h⟩ | ⟨hc40, h⟩
           ·refine AW.condT' _ rfl hc40 ?_
            refine AW.sr ?_
            refine AO.c (Calm.assign rfl rfl) ?_
            refine AO.nH [4] (H' := []) (Sub.nil _) ?_
            refine AW.rK [4] ?_
            have hr := Option.some.inj h
            subst hr
            exact ⟨[(eBool false)], ⟨rfl, rfl, trivial⟩, rfl⟩
           ·refine AW.condF' _ rfl hc40 ?_
            refine AW.sK [5, 6, 7, 8, 9, 10, 12] ?_
            refine AW.reg ?_
            refine AO.c (Calm.move rfl rfl) ?_
            refine AO.c (x := eI64 (w64 (x29 + (1 : Int)))) (Calm.int rfl rfl rfl rfl) ?_
            refine AO.c (Calm.assign rfl rfl) ?_
            refine AO.nK [5, 6, 7, 8, 9, 10, 12] ?_
            exact ⟨kq31, Nat.lt_succ_self _, (w64 (x29 + (1 : Int))), rfl, rfl, by rw [hrec30]; exact h⟩
         ·refine AW.condN _ rfl hc32 ?_
          refine AW.eH [5, 6, 7, 8] (H' := [(n12, (.mem (e30 t11.1)))]) (Sub.cons 0 rfl (Sub.nil _)) ?_
          exact ⟨rfl, rfl, h⟩
        ·rintro _ _ ⟨rfl, rfl, h⟩
         rw [bosketlaw07_SubsetOf_c0.eq_1] at h
         refine AW.seq ?_
         obtain ⟨b23, hq24, h⟩ := of_bind h
         refine AW.regM [(4, (eBool b23))] [] ?_ ?_
         ·refine AO.c (Calm.move rfl rfl) ?_
          refine AO.c (x := eBool (decide (t11.2 = (0 : Int)))) (Calm.int rfl rfl rfl rfl) ?_
          refine AO.c (Calm.move rfl rfl) ?_
          rcases of_ite hq24 with ⟨hc25, hq24⟩ | ⟨hc25, hq24⟩
          ·refine AO.cG (x := .ptr n12 256) rfl rfl (bD (decide_eq_true hc25)) (Calm.fldPtr rfl rfl Try.underlying30 rfl sz28 _ rfl) ?_
           refine AO.cG rfl rfl (bD (decide_eq_true hc25)) (Calm.load 0 rfl rfl rfl (At.cast (At.fldS (At.fld0 At.here)) rfl) ag28 sz28) ?_
           refine AO.cG rfl rfl (bD (decide_eq_true hc25)) (Calm.move rfl rfl) ?_
           obtain ⟨t26, et26, hq24⟩ := of_bind hq24
           refine AO.callG 2 true 109 [(.fz 1 (t11.1.f1.map e25)), (.fz 1 (t18.1.map e25))] (eBool t26) 113 rfl (by decide) ok18 rfl rfl (bD (decide_eq_true hc25)) rfl rfl ⟨rfl, rfl, rfl, rfl, trivial⟩ (bosketref07_SameRows_spec et26) ?_
           refine AO.c (Calm.pickT rfl (bD (decide_eq_true hc25)) rfl) ?_
           refine AO.c (Calm.move rfl rfl) ?_
           rcases of_ite hq24 with ⟨hc27, hq24⟩ | ⟨hc27, hq24⟩
           ·refine AO.cG (x := .ptr n12 257) rfl rfl (bD hc27) (Calm.fldPtr rfl rfl Try.underlying30 rfl sz25 _ rfl) ?_
            refine AO.cG rfl rfl (bD hc27) (Calm.load 0 rfl rfl rfl (At.cast (At.fldS (At.fldS (At.fld0 At.here))) rfl) ag25 sz25) ?_
            refine AO.cG rfl rfl (bD hc27) (Calm.move rfl rfl) ?_
            obtain ⟨t28, et28, hq24⟩ := of_bind hq24
            refine AO.callG 8 true 115 [(.fz 1 (t11.1.f2.map eI64)), (.fz 1 (t18.2.map eI64))] (eBool t28) 119 rfl (by decide) ok19 rfl rfl (bD hc27) rfl rfl ⟨rfl, rfl, rfl, rfl, trivial⟩ (bosketref01_Same_spec et28) ?_
            refine AO.c (Calm.pickT rfl (bD hc27) rfl) ?_
            refine AO.c (Calm.assign rfl rfl) ?_
            cases hq24
            refine AO.nilE ⟨rfl, rfl⟩ ?_ ?_
            · exact ⟨rfl, trivial⟩
            · exact (Sub.nil _)
           ·refine AO.sT rfl rfl (bD (eq_false_of_ne_true hc27)) ?_
            refine AO.sT rfl rfl (bD (eq_false_of_ne_true hc27)) ?_
            refine AO.sT rfl rfl (bD (eq_false_of_ne_true hc27)) ?_
            refine AO.sT rfl rfl (bD (eq_false_of_ne_true hc27)) ?_
            refine AO.c (Calm.pickF rfl (bD (eq_false_of_ne_true hc27)) rfl) ?_
            refine AO.c (Calm.assign rfl rfl) ?_
            cases hq24
            refine AO.nilE ⟨rfl, rfl⟩ ?_ ?_
            · exact ⟨rfl, trivial⟩
            · exact (Sub.nil _)
          ·refine AO.sT rfl rfl (bD (decide_eq_false hc25)) ?_
           refine AO.sT rfl rfl (bD (decide_eq_false hc25)) ?_
           refine AO.sT rfl rfl (bD (decide_eq_false hc25)) ?_
           refine AO.sT rfl rfl (bD (decide_eq_false hc25)) ?_
           refine AO.c (Calm.pickF rfl (bD (decide_eq_false hc25)) rfl) ?_
           refine AO.c (Calm.move rfl rfl) ?_
           refine AO.sT rfl rfl rfl ?_
           refine AO.sT rfl rfl rfl ?_
           refine AO.sT rfl rfl rfl ?_
           refine AO.sT rfl rfl rfl ?_
           refine AO.c (Calm.pickF rfl rfl rfl) ?_
           refine AO.c (Calm.assign rfl rfl) ?_
           cases hq24
           refine AO.nilE ⟨rfl, rfl⟩ ?_ ?_
           · exact ⟨rfl, trivial⟩
           · exact (Sub.nil _)
         ·refine AW.rK [4] ?_
          have hr := Option.some.inj h
          subst hr
          exact ⟨[(eBool b23)], ⟨rfl, rfl, trivial⟩, rfl⟩
end Go.Avl.T5
