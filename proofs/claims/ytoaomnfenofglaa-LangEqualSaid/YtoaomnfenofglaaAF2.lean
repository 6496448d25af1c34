/- Parts: T5f92, T5f93, T5f66, T5f84, T5f77, T5f43, T5f24, T5f60. -/
import Derived.Test.YtoaomnfenofglaaAF1
/- bosket/dfa.Alive; printed by avmain.py. -/
namespace Go.Avl.T5
open Go Go.RowKit Go.Proofs Go.Avl
set_option linter.unusedVariables false
set_option maxRecDepth 100000
set_option maxHeartbeats 4000000
attribute [local irreducible] AW AO AQ Spec SpecH Calm

def dfa_Alive_c0 (k : Nat) (x6 : (List Bool)) : Option (List Bool) :=
  some (x6)
def dfa_Alive_c1 (k : Nat) (rec15 : ((List Bool) → Bool → Int → Option (List Bool))) (x14 : Int) (x18 : (List Bool)) (b19 : Bool) : Option (List Bool) :=
  rec15 x18 b19 (w64 (x14 + (1 : Int)))
def dfa_Alive_l2 (k : Nat) (rec15 : ((List Bool) → Bool → Int → Option (List Bool))) (p0 : S30) (x12 : (List Bool)) (b13 : Bool) (x14 : Int) : Nat → Int → Option (List Bool)
  | 0, _ => none
  | j + 1, x23 =>
    if x23 < ((lget p0.f1 x14).length : Int) then if 0 ≤ x23 ∧ x23 < ((lget p0.f1 x14).length : Int) then Option.bind (α := Bool) (if (0 : Int) ≤ (lget (lget p0.f1 x14) x23) then if (lget (lget p0.f1 x14) x23) < (x12.length : Int) then if 0 ≤ (lget (lget p0.f1 x14) x23) ∧ (lget (lget p0.f1 x14) x23) < (x12.length : Int) then some ((lget x12 (lget (lget p0.f1 x14) x23)))
    else none
    else some (false)
    else some (false)) fun b28 =>
    if b28 = true then if 0 ≤ x14 ∧ x14 < (x12.length : Int) then dfa_Alive_c1 k rec15 x14 (lset x12 x14 true) true
    else none
    else (dfa_Alive_l2 k rec15 p0 x12 b13 x14 j) (w64 (x23 + (1 : Int)))
    else none
    else dfa_Alive_c1 k rec15 x14 x12 b13
def dfa_Alive_l3 (k : Nat) (rec9 : ((List Bool) → Bool → Option (List Bool))) (p0 : S30) : Nat → (List Bool) → Bool → Int → Option (List Bool)
  | 0, _, _, _ => none
  | j + 1, x12, b13, x14 =>
    if x14 < (p0.f1.length : Int) then if 0 ≤ x14 ∧ x14 < (p0.f1.length : Int) then if 0 ≤ x14 ∧ x14 < (x12.length : Int) then if (lget x12 x14) = true then dfa_Alive_c1 k (dfa_Alive_l3 k rec9 p0 j) x14 x12 b13
    else dfa_Alive_l2 k (dfa_Alive_l3 k rec9 p0 j) p0 x12 b13 x14 k (0 : Int)
    else none
    else none
    else rec9 x12 b13
def dfa_Alive_l4 (k : Nat) (p0 : S30) : Nat → (List Bool) → Bool → Option (List Bool)
  | 0, _, _ => none
  | j + 1, x7, b8 =>
    if b8 = true then dfa_Alive_l3 k (dfa_Alive_l4 k p0 j) p0 k x7 false (0 : Int)
    else dfa_Alive_c0 k x7
def dfa_Alive_c5 (k : Nat) (p0 : S30) (x5 : (List Bool)) : Option (List Bool) :=
  dfa_Alive_l4 k p0 k x5 true
def dfa_Alive_l6 (k : Nat) (p0 : S30) : Nat → (List Bool) → Int → Option (List Bool)
  | 0, _, _ => none
  | j + 1, x35, x36 =>
    if x36 < ((List.replicate (p0.f1.length : Int).toNat false).length : Int) then (dfa_Mark k p0 x36).bind fun t40 =>
    if 0 ≤ x36 ∧ x36 < (x35.length : Int) then (dfa_Alive_l6 k p0 j) (lset x35 x36 (decide ((0 : Int) ≤ t40))) (w64 (x36 + (1 : Int)))
    else none
    else dfa_Alive_c5 k p0 x35
def dfa_Alive (k : Nat) (p0 : S30) : Option (List Bool) :=
  if 0 ≤ (p0.f1.length : Int) ∧ (p0.f1.length : Int) * (1 : Int) ≤ 140737488355328 ∧ (p0.f1.length : Int) ≤ 9223372036854775807 then dfa_Alive_l6 k p0 k (List.replicate (p0.f1.length : Int).toNat false) (0 : Int)
  else none
theorem dfa_Alive_spec {k : Nat} {p0 : S30} {r : (List Bool)} (h : dfa_Alive k p0 = some r) : Spec Try.prog 92 [(e30 p0)] (e49 r) := by
  rw [dfa_Alive.eq_1] at h
  refine Spec.intro (res := [.tmp 2]) Try.func92 rfl rfl rfl (Nat.le_of_ble_eq_true rfl) ?_
  refine AW.sr ?_
  refine AO.box rfl 1 rfl (by decide) rfl rfl rfl fun n2 => ?_
  refine AO.c (Calm.assign rfl rfl) ?_
  refine AO.nK [1] ?_
  refine AW.sr ?_
  refine AO.c (x := .ptr n2 256) (Calm.fldPtr rfl rfl Try.underlying30 rfl sz28 _ rfl) ?_
  refine AO.c (Calm.load 0 rfl rfl rfl (At.cast (At.fldS (At.fld0 At.here)) rfl) ag28 sz28) ?_
  refine AO.c (Calm.lenL rfl rfl Try.underlying28) ?_
  obtain ⟨hg4, h⟩ := of_guard h
  refine AO.makeL (f := eBool) false rfl 13 rfl (by decide) rfl rfl rfl Try.underlying49 sz4 by4 zr4 lay4 rfl hg4 fun n3 => ?_
  refine AO.c (Calm.assign rfl rfl) ?_
  refine AO.nH [1, 3] (H' := [(n2, (.mem (e30 p0))), (n3, (.mem (.ar 1 ((List.replicate (p0.f1.length : Int).toNat false).map eBool))))]) (Sub.cons 1 rfl (Sub.cons 0 rfl (Sub.nil _))) ?_
  refine AW.seq_mid (fun ρ H => ∃ (x5 : (List Bool)), ρ = [(1, (.ptr n2 0)), (3, (.own n3 0 x5.length))] ∧ H = [(n2, (.mem (e30 p0))), (n3, (.mem (.ar 1 (x5.map eBool))))] ∧ dfa_Alive_c5 k p0 x5 = some r) ?_ ?_
  ·refine AW.sr ?_
   refine AO.c (Calm.move rfl rfl) ?_
   refine AO.c (Calm.lenOwn rfl rfl Try.underlying49) ?_
   refine AO.c (Calm.move rfl rfl) ?_
   refine AO.nK [1, 3, 15, 16] ?_
   refine AW.block ?_
   refine AW.wK [1, 3, 15, 16] ?_
   refine AW.loop (fun kq ρ H => ∃ (x35 : (List Bool)) (x36 : Int), ρ = [(1, (.ptr n2 0)), (3, (.own n3 0 x35.length)), (15, (eI64 ((List.replicate (p0.f1.length : Int).toNat false).length : Int))), (16, (eI64 x36))] ∧ H = [(n2, (.mem (e30 p0))), (n3, (.mem (.ar 1 (x35.map eBool))))] ∧ dfa_Alive_l6 k p0 kq x35 x36 = some r) k ⟨(List.replicate (p0.f1.length : Int).toNat false), (0 : Int), rfl, rfl, h⟩ ?_
   rintro kq38 _ _ ⟨x35, x36, rfl, rfl, h⟩
   cases kq38 with
   | zero => rw [dfa_Alive_l6.eq_1] at h; cases h
   | succ kq38 =>
   rw [dfa_Alive_l6.eq_2] at h
   generalize hrec37 : dfa_Alive_l6 k p0 kq38 = rec37 at h
   refine AW.sr ?_
   refine AO.c (x := eBool (decide (x36 < ((List.replicate (p0.f1.length : Int).toNat false).length : Int)))) (Calm.int rfl rfl rfl rfl) ?_
   refine AO.nK [1, 3, 15, 16, 17] ?_
   refine AW.seq ?_
   rcases of_ite h with ⟨hc39, h⟩ | ⟨hc39, h⟩
   ·refine AW.condP _ rfl hc39 ?_
    refine AW.sK [1, 3, 15, 16] ?_
    refine AW.seq ?_
    refine AW.block ?_
    refine AW.sr ?_
    refine AO.c (Calm.move rfl rfl) ?_
    refine AO.c (Calm.assign rfl rfl) ?_
    refine AO.nK [1, 3, 4, 15, 16] ?_
    refine AW.reg ?_
    refine AO.c (Calm.move rfl rfl) ?_
    refine AO.c (Calm.move rfl rfl) ?_
    refine AO.c (Calm.load 0 rfl rfl rfl (At.cast At.here rfl) ag30 sz30) ?_
    refine AO.c (Calm.move rfl rfl) ?_
    obtain ⟨t40, et40, h⟩ := of_bind h
    refine AO.callS [(e30 p0), (eI64 x36)] (eI64 t40) 23 rfl (by decide) ok85 rfl rfl rfl ⟨rfl, rfl, rfl, rfl, trivial⟩ (dfa_Mark_spec et40) ?_
    refine AO.c (x := eBool (decide ((0 : Int) ≤ t40))) (Calm.int rfl rfl rfl rfl) ?_
    obtain ⟨hg41, h⟩ := of_guard h
    refine AO.c (Calm.idxO 1 rfl rfl rfl rfl hg41 Try.underlying49 sz4) ?_
    refine AO.store (X' := (.ar 1 ((lset x35 x36 (decide ((0 : Int) ≤ t40))).map eBool))) 1 rfl rfl rfl rfl rfl rfl (Put.cast (Put.lidx x36 (decide ((0 : Int) ≤ t40)) hg41.1 hg41.2 Put.here) (by omega)) rfl rfl sz4 rfl ?_
    refine AO.coe 3 (y' := (.own n3 0 (lset x35 x36 (decide ((0 : Int) ≤ t40))).length)) rfl (fun _ _ h => lset_own h) ?_
    refine AO.coe 19 (y' := (.own n3 0 (lset x35 x36 (decide ((0 : Int) ≤ t40))).length)) rfl (fun _ _ h => lset_own h) ?_
    refine AO.nK [1, 3, 15, 16] ?_
    refine AW.reg ?_
    refine AO.c (x := eI64 (w64 (x36 + (1 : Int)))) (Calm.int rfl rfl rfl rfl) ?_
    refine AO.c (Calm.move rfl rfl) ?_
    refine AO.nK [1, 3, 15, 16] ?_
    exact ⟨kq38, Nat.lt_succ_self _, (lset x35 x36 (decide ((0 : Int) ≤ t40))), (w64 (x36 + (1 : Int))), rfl, rfl, by rw [hrec37]; exact h⟩
   ·refine AW.condN _ rfl hc39 ?_
    refine AW.eK [1, 3] ?_
    exact ⟨x35, rfl, rfl, h⟩
  ·rintro _ _ ⟨x5, rfl, rfl, h⟩
   rw [dfa_Alive_c5.eq_1] at h
   refine AW.seq_mid (fun ρ H => ∃ (x6 : (List Bool)), ρ = [(3, (.own n3 0 x6.length))] ∧ H = [(n3, (.mem (.ar 1 (x6.map eBool))))] ∧ dfa_Alive_c0 k x6 = some r) ?_ ?_
   ·refine AW.sr ?_
    refine AO.c (Calm.assign rfl rfl) ?_
    refine AO.nK [1, 3, 5] ?_
    refine AW.block ?_
    refine AW.wK [1, 3, 5] ?_
    refine AW.loop (fun kq ρ H => ∃ (x7 : (List Bool)) (b8 : Bool), ρ = [(1, (.ptr n2 0)), (3, (.own n3 0 x7.length)), (5, (eBool b8))] ∧ H = [(n2, (.mem (e30 p0))), (n3, (.mem (.ar 1 (x7.map eBool))))] ∧ dfa_Alive_l4 k p0 kq x7 b8 = some r) k ⟨x5, true, rfl, rfl, h⟩ ?_
    rintro kq10 _ _ ⟨x7, b8, rfl, rfl, h⟩
    cases kq10 with
    | zero => rw [dfa_Alive_l4.eq_1] at h; cases h
    | succ kq10 =>
    rw [dfa_Alive_l4.eq_2] at h
    generalize hrec9 : dfa_Alive_l4 k p0 kq10 = rec9 at h
    refine AW.seq ?_
    refine AW.sr ?_
    refine AO.c (Calm.move rfl rfl) ?_
    refine AO.nK [1, 3, 27] ?_
    rcases of_ite h with ⟨hc11, h⟩ | ⟨hc11, h⟩
    ·refine AW.condT' _ rfl hc11 ?_
     refine AW.sK [1, 3] ?_
     refine AW.block ?_
     refine AW.scope ?_
     refine AW.sr ?_
     refine AO.c (Calm.assign rfl rfl) ?_
     refine AO.nK [1, 3, 5] ?_
     refine AW.seq ?_
     refine AW.lK [1, 3, 5] ?_
     refine AW.sr ?_
     refine AO.c (x := .ptr n2 256) (Calm.fldPtr rfl rfl Try.underlying30 rfl sz28 _ rfl) ?_
     refine AO.c (Calm.load 0 rfl rfl rfl (At.cast (At.fldS (At.fld0 At.here)) rfl) ag28 sz28) ?_
     refine AO.c (Calm.lenL rfl rfl Try.underlying28) ?_
     refine AO.c (Calm.move rfl rfl) ?_
     refine AO.nK [1, 3, 5, 29, 30, 31] ?_
     refine AW.block ?_
     refine AW.wK [1, 3, 5, 29, 30, 31] ?_
     refine AW.loop (fun kq ρ H => ∃ (x12 : (List Bool)) (b13 : Bool) (x14 : Int), ρ = [(1, (.ptr n2 0)), (3, (.own n3 0 x12.length)), (5, (eBool b13)), (29, (.fz 1 (p0.f1.map e25))), (30, (eI64 (p0.f1.length : Int))), (31, (eI64 x14))] ∧ H = [(n2, (.mem (e30 p0))), (n3, (.mem (.ar 1 (x12.map eBool))))] ∧ dfa_Alive_l3 k rec9 p0 kq x12 b13 x14 = some r) k ⟨x7, false, (0 : Int), rfl, rfl, h⟩ ?_
     rintro kq16 _ _ ⟨x12, b13, x14, rfl, rfl, h⟩
     cases kq16 with
     | zero => rw [dfa_Alive_l3.eq_1] at h; cases h
     | succ kq16 =>
     rw [dfa_Alive_l3.eq_2] at h
     generalize hrec15 : dfa_Alive_l3 k rec9 p0 kq16 = rec15 at h
     refine AW.sr ?_
     refine AO.c (x := eBool (decide (x14 < (p0.f1.length : Int)))) (Calm.int rfl rfl rfl rfl) ?_
     refine AO.nK [1, 3, 5, 29, 30, 31, 32] ?_
     refine AW.seq ?_
     rcases of_ite h with ⟨hc17, h⟩ | ⟨hc17, h⟩
     ·refine AW.condP _ rfl hc17 ?_
      refine AW.sK [1, 3, 5, 29, 30, 31] ?_
      refine AW.seq_mid (fun ρ H => ∃ (x18 : (List Bool)) (b19 : Bool), ρ = [(1, (.ptr n2 0)), (3, (.own n3 0 x18.length)), (5, (eBool b19)), (29, (.fz 1 (p0.f1.map e25))), (30, (eI64 (p0.f1.length : Int))), (31, (eI64 x14))] ∧ H = [(n2, (.mem (e30 p0))), (n3, (.mem (.ar 1 (x18.map eBool))))] ∧ dfa_Alive_c1 k rec15 x14 x18 b19 = some r) ?_ ?_
      ·refine AW.block ?_
       refine AW.sr ?_
       refine AO.c (Calm.move rfl rfl) ?_
       obtain ⟨hg20, h⟩ := of_guard h
       refine AO.c (Calm.idxL (f := e25) rfl rfl rfl hg20 Try.underlying28 sz25) ?_
       refine AO.c (Calm.loadRp rfl rfl ag25 sz25) ?_
       refine AO.c (Calm.assign rfl rfl) ?_
       refine AO.c (Calm.assign rfl rfl) ?_
       refine AO.nK [1, 3, 5, 6, 7, 29, 30, 31] ?_
       refine AW.seq ?_
       refine AW.sr ?_
       refine AO.c (Calm.move rfl rfl) ?_
       refine AO.c (Calm.move rfl rfl) ?_
       obtain ⟨hg21, h⟩ := of_guard h
       refine AO.c (Calm.idxO 1 rfl rfl rfl rfl hg21 Try.underlying49 sz4) ?_
       refine AO.c (Calm.load 1 rfl rfl rfl (At.cast (At.lidx x14 hg21.1 hg21.2 At.here) (by omega)) ag4 sz4) ?_
       refine AO.nK [1, 3, 5, 6, 7, 29, 30, 31, 39] ?_
       rcases of_ite h with ⟨hc22, h⟩ | ⟨hc22, h⟩
       ·refine AW.condT' _ rfl hc22 ?_
        refine AW.eK [1, 3, 5, 29, 30, 31] ?_
        exact ⟨x12, b13, rfl, rfl, h⟩
       ·refine AW.condF' _ rfl hc22 ?_
        refine AW.sK [1, 3, 5, 6, 7, 29, 30, 31] ?_
        refine AW.sr ?_
        refine AO.c (Calm.move rfl rfl) ?_
        refine AO.c (Calm.lenL rfl rfl Try.underlying25) ?_
        refine AO.c (Calm.move rfl rfl) ?_
        refine AO.nK [1, 3, 5, 6, 29, 30, 31, 40, 41, 42] ?_
        refine AW.block ?_
        refine AW.wK [1, 3, 5, 6, 29, 30, 31, 40, 41, 42] ?_
        refine AW.loop (fun kq ρ H => ∃ (x23 : Int), ρ = [(1, (.ptr n2 0)), (3, (.own n3 0 x12.length)), (5, (eBool b13)), (6, (eI64 x14)), (29, (.fz 1 (p0.f1.map e25))), (30, (eI64 (p0.f1.length : Int))), (31, (eI64 x14)), (40, (.fz 1 ((lget p0.f1 x14).map eI64))), (41, (eI64 ((lget p0.f1 x14).length : Int))), (42, (eI64 x23))] ∧ H = [(n2, (.mem (e30 p0))), (n3, (.mem (.ar 1 (x12.map eBool))))] ∧ dfa_Alive_l2 k rec15 p0 x12 b13 x14 kq x23 = some r) k ⟨(0 : Int), rfl, rfl, h⟩ ?_
        rintro kq25 _ _ ⟨x23, rfl, rfl, h⟩
        cases kq25 with
        | zero => rw [dfa_Alive_l2.eq_1] at h; cases h
        | succ kq25 =>
        rw [dfa_Alive_l2.eq_2] at h
        generalize hrec24 : dfa_Alive_l2 k rec15 p0 x12 b13 x14 kq25 = rec24 at h
        refine AW.sr ?_
        refine AO.c (x := eBool (decide (x23 < ((lget p0.f1 x14).length : Int)))) (Calm.int rfl rfl rfl rfl) ?_
        refine AO.nK [1, 3, 5, 6, 29, 30, 31, 40, 41, 42, 43] ?_
        refine AW.seq ?_
        rcases of_ite h with ⟨hc26, h⟩ | ⟨hc26, h⟩
        ·refine AW.condP _ rfl hc26 ?_
         refine AW.sK [1, 3, 5, 6, 29, 30, 31, 40, 41, 42] ?_
         refine AW.seq ?_
         refine AW.block ?_
         refine AW.sr ?_
         obtain ⟨hg27, h⟩ := of_guard h
         refine AO.c (Calm.idxL (f := eI64) rfl rfl rfl hg27 Try.underlying25 sz3) ?_
         refine AO.c (Calm.loadRp rfl rfl ag3 sz3) ?_
         refine AO.c (Calm.assign rfl rfl) ?_
         refine AO.nK [1, 3, 5, 6, 9, 29, 30, 31, 40, 41, 42] ?_
         refine AW.seq ?_
         obtain ⟨b28, hq29, h⟩ := of_bind h
         refine AW.regM [(1, (.ptr n2 0)), (3, (.own n3 0 x12.length)), (5, (eBool b13)), (6, (eI64 x14)), (29, (.fz 1 (p0.f1.map e25))), (30, (eI64 (p0.f1.length : Int))), (31, (eI64 x14)), (40, (.fz 1 ((lget p0.f1 x14).map eI64))), (41, (eI64 ((lget p0.f1 x14).length : Int))), (42, (eI64 x23)), (59, (eBool b28))] [(n2, (.mem (e30 p0))), (n3, (.mem (.ar 1 (x12.map eBool))))] ?_ ?_
         ·refine AO.c (Calm.move rfl rfl) ?_
          refine AO.c (x := eBool (decide ((0 : Int) ≤ (lget (lget p0.f1 x14) x23)))) (Calm.int rfl rfl rfl rfl) ?_
          refine AO.c (Calm.move rfl rfl) ?_
          rcases of_ite hq29 with ⟨hc30, hq29⟩ | ⟨hc30, hq29⟩
          ·refine AO.cG rfl rfl (bD (decide_eq_true hc30)) (Calm.move rfl rfl) ?_
           refine AO.cG rfl rfl (bD (decide_eq_true hc30)) (Calm.move rfl rfl) ?_
           refine AO.cG rfl rfl (bD (decide_eq_true hc30)) (Calm.lenOwn rfl rfl Try.underlying49) ?_
           refine AO.cG (x := eBool (decide ((lget (lget p0.f1 x14) x23) < (x12.length : Int)))) rfl rfl (bD (decide_eq_true hc30)) (Calm.int rfl rfl rfl rfl) ?_
           refine AO.c (Calm.pickT rfl (bD (decide_eq_true hc30)) rfl) ?_
           refine AO.c (Calm.move rfl rfl) ?_
           rcases of_ite hq29 with ⟨hc31, hq29⟩ | ⟨hc31, hq29⟩
           ·refine AO.cG rfl rfl (bD (decide_eq_true hc31)) (Calm.move rfl rfl) ?_
            refine AO.cG rfl rfl (bD (decide_eq_true hc31)) (Calm.move rfl rfl) ?_
            obtain ⟨hg32, hq29⟩ := of_guard hq29
            refine AO.cG rfl rfl (bD (decide_eq_true hc31)) (Calm.idxO 1 rfl rfl rfl rfl hg32 Try.underlying49 sz4) ?_
            refine AO.cG rfl rfl (bD (decide_eq_true hc31)) (Calm.load 1 rfl rfl rfl (At.cast (At.lidx (lget (lget p0.f1 x14) x23) hg32.1 hg32.2 At.here) (by omega)) ag4 sz4) ?_
            refine AO.c (Calm.pickT rfl (bD (decide_eq_true hc31)) rfl) ?_
            cases hq29
            refine AO.nilE ⟨rfl, rfl⟩ ?_ ?_
            · exact ⟨rfl, rfl, rfl, rfl, rfl, rfl, rfl, rfl, rfl, rfl, rfl, trivial⟩
            · exact (Sub.refl _)
           ·refine AO.sT rfl rfl (bD (decide_eq_false hc31)) ?_
            refine AO.sT rfl rfl (bD (decide_eq_false hc31)) ?_
            refine AO.sT rfl rfl (bD (decide_eq_false hc31)) ?_
            refine AO.sT rfl rfl (bD (decide_eq_false hc31)) ?_
            refine AO.c (Calm.pickF rfl (bD (decide_eq_false hc31)) rfl) ?_
            cases hq29
            refine AO.nilE ⟨rfl, rfl⟩ ?_ ?_
            · exact ⟨rfl, rfl, rfl, rfl, rfl, rfl, rfl, rfl, rfl, rfl, rfl, trivial⟩
            · exact (Sub.refl _)
          ·refine AO.sT rfl rfl (bD (decide_eq_false hc30)) ?_
           refine AO.sT rfl rfl (bD (decide_eq_false hc30)) ?_
           refine AO.sT rfl rfl (bD (decide_eq_false hc30)) ?_
           refine AO.sT rfl rfl (bD (decide_eq_false hc30)) ?_
           refine AO.c (Calm.pickF rfl (bD (decide_eq_false hc30)) rfl) ?_
           refine AO.c (Calm.move rfl rfl) ?_
           refine AO.sT rfl rfl rfl ?_
           refine AO.sT rfl rfl rfl ?_
           refine AO.sT rfl rfl rfl ?_
           refine AO.sT rfl rfl rfl ?_
           refine AO.c (Calm.pickF rfl rfl rfl) ?_
           cases hq29
           refine AO.nilE ⟨rfl, rfl⟩ ?_ ?_
           · exact ⟨rfl, rfl, rfl, rfl, rfl, rfl, rfl, rfl, rfl, rfl, rfl, trivial⟩
           · exact (Sub.refl _)
         ·rcases of_ite h with ⟨hc33, h⟩ | ⟨hc33, h⟩
          ·refine AW.condT' _ rfl hc33 ?_
           refine AW.sr ?_
           refine AO.c (Calm.move rfl rfl) ?_
           refine AO.c (Calm.move rfl rfl) ?_
           obtain ⟨hg34, h⟩ := of_guard h
           refine AO.c (Calm.idxO 1 rfl rfl rfl rfl hg34 Try.underlying49 sz4) ?_
           refine AO.store (X' := (.ar 1 ((lset x12 x14 true).map eBool))) 1 rfl rfl rfl rfl rfl rfl (Put.cast (Put.lidx x14 true hg34.1 hg34.2 Put.here) (by omega)) rfl rfl sz4 rfl ?_
           refine AO.coe 3 (y' := (.own n3 0 (lset x12 x14 true).length)) rfl (fun _ _ h => lset_own h) ?_
           refine AO.coe 60 (y' := (.own n3 0 (lset x12 x14 true).length)) rfl (fun _ _ h => lset_own h) ?_
           refine AO.c (Calm.assign rfl rfl) ?_
           refine AO.nK [1, 3, 5, 29, 30, 31] ?_
           refine AW.eK [1, 3, 5, 29, 30, 31] ?_
           exact ⟨(lset x12 x14 true), true, rfl, rfl, h⟩
          ·refine AW.condF' _ rfl hc33 ?_
           refine AW.sK [1, 3, 5, 6, 29, 30, 31, 40, 41, 42] ?_
           refine AW.reg ?_
           refine AO.c (x := eI64 (w64 (x23 + (1 : Int)))) (Calm.int rfl rfl rfl rfl) ?_
           refine AO.c (Calm.move rfl rfl) ?_
           refine AO.nK [1, 3, 5, 6, 29, 30, 31, 40, 41, 42] ?_
           exact ⟨kq25, Nat.lt_succ_self _, (w64 (x23 + (1 : Int))), rfl, rfl, by rw [hrec24]; exact h⟩
        ·refine AW.condN _ rfl hc26 ?_
         refine AW.eK [1, 3, 5, 29, 30, 31] ?_
         exact ⟨x12, b13, rfl, rfl, h⟩
      ·rintro _ _ ⟨x18, b19, rfl, rfl, h⟩
       rw [dfa_Alive_c1.eq_1] at h
       refine AW.reg ?_
       refine AO.c (x := eI64 (w64 (x14 + (1 : Int)))) (Calm.int rfl rfl rfl rfl) ?_
       refine AO.c (Calm.move rfl rfl) ?_
       refine AO.nK [1, 3, 5, 29, 30, 31] ?_
       exact ⟨kq16, Nat.lt_succ_self _, x18, b19, (w64 (x14 + (1 : Int))), rfl, rfl, by rw [hrec15]; exact h⟩
     ·refine AW.condN _ rfl hc17 ?_
      refine AW.eK [1, 3, 5] ?_
      exact ⟨kq10, Nat.lt_succ_self _, x12, b13, rfl, rfl, by rw [hrec9]; exact h⟩
    ·refine AW.condF' _ rfl hc11 ?_
     refine AW.eH [3] (H' := [(n3, (.mem (.ar 1 (x7.map eBool))))]) (Sub.cons 1 rfl (Sub.nil _)) ?_
     exact ⟨x7, rfl, rfl, h⟩
   ·rintro _ _ ⟨x6, rfl, rfl, h⟩
    rw [dfa_Alive_c0.eq_1] at h
    refine AW.sr ?_
    refine AO.c (Calm.move rfl rfl) ?_
    refine AO.c (Calm.assign rfl rfl) ?_
    refine AO.nK [2] ?_
    refine AW.freezeS 0 [(2, (.fz 1 (x6.map eBool)))] rfl ⟨fz_all rfl, trivial⟩ ?_
    refine AW.rK [2] ?_
    have hr := Option.some.inj h
    subst hr
    exact ⟨[(.fz 1 (x6.map eBool))], ⟨rfl, rfl, trivial⟩, rfl⟩
end Go.Avl.T5
/- slices.Clone[[]int,int]; printed by avmain.py. -/
namespace Go.Avl.T5
open Go Go.RowKit Go.Proofs Go.Avl
set_option linter.unusedVariables false
set_option maxRecDepth 100000
set_option maxHeartbeats 4000000
attribute [local irreducible] AW AO AQ Spec SpecH Calm

def slices_Clone_int_int_ (k : Nat) (p0 : (List Int)) : Option (List Int) :=
  if (([] : List Int) ++ p0).length * 8 ≤ 140737488355328 then some ((([] : List Int) ++ p0))
  else none
def slices_Clone_int_int__own (k : Nat) (p0 : (List Int)) : Option (List Int) :=
  if (([] : List Int) ++ p0).length * 8 ≤ 140737488355328 then some ((([] : List Int) ++ p0))
  else none
theorem slices_Clone_int_int__spec {k : Nat} {p0 : (List Int)} {r : (List Int)} (h : slices_Clone_int_int_ k p0 = some r) : Spec Try.prog 93 [(.fz 1 (p0.map eI64))] (e25 r) := by
  rw [slices_Clone_int_int_.eq_1] at h
  refine Spec.intro (res := [.tmp 2]) Try.func93 rfl rfl rfl (Nat.le_of_ble_eq_true rfl) ?_
  refine AW.sr ?_
  refine AO.c (Calm.assign rfl rfl) ?_
  refine AO.nK [0] ?_
  refine AW.seq ?_
  refine AW.sr ?_
  refine AO.c (Calm.move rfl rfl) ?_
  refine AO.nilFz rfl 4 rfl (by decide) rfl rfl Try.underlying25 fun gb2 hgb2 => ?_
  refine AO.nK [0, 4] ?_
  cases gb2
  ·refine AW.condF rfl ?_
   refine AW.sK [0] ?_
   refine AW.sr ?_
   refine AO.lit (Z := (eI64 (0 : Int))) (xs := (([] : List Int).map eI64)) (qs := []) rfl 5 rfl (by decide) rfl trivial Try.underlying25 sz3 zr3 lay3 rfl (by decide) (litOK (z := 1) [] rfl trivial) rfl fun n3 => ?_
   refine AO.c (Calm.move rfl rfl) ?_
   obtain ⟨hg5, h⟩ := of_guard h
   refine AO.appendL (l := ([] : List Int)) (m := p0) 0 7 rfl (by decide) rfl rfl rfl rfl rfl Src.fz Try.underlying25 Try.underlying25 sz3 by3 zr3 rfl hg5 (by decide) fun n4 => ?_
   refine AO.c (Calm.assign rfl rfl) ?_
   refine AO.nK [2] ?_
   refine AW.freezeS 0 [(2, (.fz 1 ((([] : List Int) ++ p0).map eI64)))] rfl ⟨fz_all rfl, trivial⟩ ?_
   refine AW.rK [2] ?_
   have hr := Option.some.inj h
   subst hr
   exact ⟨[(.fz 1 ((([] : List Int) ++ p0).map eI64))], ⟨rfl, rfl, trivial⟩, rfl⟩
  ·have hn6 : p0 = [] := List.map_eq_nil_iff.1 (hgb2 rfl)
   have h : (some ([])) = some r := by simpa [hn6] using h
   refine AW.condT rfl ?_
   refine AW.sr ?_
   refine AO.c (Calm.assign rfl rfl) ?_
   refine AO.nK [2] ?_
   refine AW.coeC 2 (y' := (.fz 1 (([] : List Int).map eI64))) rfl Coe.nil ?_
   refine AW.rK [2] ?_
   have hr := Option.some.inj h
   subst hr
   exact ⟨[(.fz 1 (([] : List Int).map eI64))], ⟨rfl, rfl, trivial⟩, rfl⟩
theorem slices_Clone_int_int__own_spec {k : Nat} {p0 : (List Int)} {r : (List Int)} (h : slices_Clone_int_int__own k p0 = some r) {T0 : Heap} : SpecH Try.prog 93 [(.fz 1 (p0.map eI64))] (T0) (fun x H' => ∃ m, x = .own m 0 r.length ∧ Sub ((m, .mem (.ar 1 (r.map eI64))) :: T0) H') := by
  rw [slices_Clone_int_int__own.eq_1] at h
  refine SpecH.intro (res := [.tmp 2]) Try.func93 rfl rfl rfl (Nat.le_of_ble_eq_true rfl) ?_
  refine AW.sr ?_
  refine AO.c (Calm.assign rfl rfl) ?_
  refine AO.nK [0] ?_
  refine AW.seq ?_
  refine AW.sr ?_
  refine AO.c (Calm.move rfl rfl) ?_
  refine AO.nilFz rfl 4 rfl (by decide) rfl rfl Try.underlying25 fun gb2 hgb2 => ?_
  refine AO.nK [0, 4] ?_
  cases gb2
  ·refine AW.condF rfl ?_
   refine AW.sK [0] ?_
   refine AW.sr ?_
   refine AO.lit (Z := (eI64 (0 : Int))) (xs := (([] : List Int).map eI64)) (qs := []) rfl 5 rfl (by decide) rfl trivial Try.underlying25 sz3 zr3 lay3 rfl (by decide) (litOK (z := 1) [] rfl trivial) rfl fun n4 => ?_
   refine AO.c (Calm.move rfl rfl) ?_
   obtain ⟨hg6, h⟩ := of_guard h
   refine AO.appendL (l := ([] : List Int)) (m := p0) 0 7 rfl (by decide) rfl rfl rfl rfl rfl Src.fz Try.underlying25 Try.underlying25 sz3 by3 zr3 rfl hg6 (by decide) fun n5 => ?_
   refine AO.c (Calm.assign rfl rfl) ?_
   refine AO.nK [2] ?_
   refine AW.rK [2] ?_
   have hr := Option.some.inj h
   subst hr
   exact ⟨[(.own n5 0 (([] : List Int) ++ p0).length)], ⟨rfl, rfl, trivial⟩, n5, rfl, (Sub.cons 0 rfl (Sub.refl _))⟩
  ·have hn7 : p0 = [] := List.map_eq_nil_iff.1 (hgb2 rfl)
   have h : (some ([])) = some r := by simpa [hn7] using h
   refine AW.condT rfl ?_
   refine AW.sr ?_
   refine AO.c (Calm.assign rfl rfl) ?_
   refine AO.nK [2] ?_
   refine AW.nilOwn 2 1 rfl fun n3 => ?_
   refine AW.rK [2] ?_
   have hr := Option.some.inj h
   subst hr
   exact ⟨[(.own n3 0 ([] : List Int).length)], ⟨rfl, rfl, trivial⟩, n3, rfl, (Sub.cons 0 rfl (Sub.refl _))⟩
end Go.Avl.T5
/- bosket/dfa.Trim; printed by avmain.py. -/
namespace Go.Avl.T5
open Go Go.RowKit Go.Proofs Go.Avl
set_option linter.unusedVariables false
set_option maxRecDepth 100000
set_option maxHeartbeats 4000000
set_option linter.unusedSimpArgs false
attribute [local irreducible] AW AO AQ Spec SpecH Calm

def dfa_Trim_c0 (k : Nat) (p0 : S30) (t5 : (List Int)) (x8 : (List (List Int))) : Option S30 :=
  some ((S30.mk p0.f0 x8 t5))
def dfa_Trim_c1 (k : Nat) (rec12 : ((List (List Int)) → Int → Option S30)) (x11 : Int) (x16 : (List (List Int))) : Option S30 :=
  rec12 x16 (w64 (x11 + (1 : Int)))
def dfa_Trim_c2 (k : Nat) (rec12 : ((List (List Int)) → Int → Option S30)) (x10 : (List (List Int))) (x11 : Int) (x21 : (List Int)) : Option S30 :=
  if (x10 ++ ([x21] : List (List Int))).length * 24 ≤ 140737488355328 then dfa_Trim_c1 k rec12 x11 (x10 ++ ([x21] : List (List Int)))
  else none
def dfa_Trim_c3 (k : Nat) (rec27 : ((List Int) → Int → Option S30)) (x26 : Int) (x30 : (List Int)) : Option S30 :=
  rec27 x30 (w64 (x26 + (1 : Int)))
def dfa_Trim_l4 (k : Nat) (rec12 : ((List (List Int)) → Int → Option S30)) (t4 : (List Bool)) (x10 : (List (List Int))) (x11 : Int) (t18 : (List Int)) : Nat → (List Int) → Int → Option S30
  | 0, _, _ => none
  | j + 1, x25, x26 =>
    if x26 < (t18.length : Int) then if 0 ≤ x26 ∧ x26 < (x25.length : Int) then Option.bind (α := Bool) (if (0 : Int) ≤ (lget x25 x26) then if (lget x25 x26) < (t4.length : Int) then if 0 ≤ (lget x25 x26) ∧ (lget x25 x26) < (t4.length : Int) then some (!(lget t4 (lget x25 x26)))
    else none
    else some (false)
    else some (false)) fun b32 =>
    if b32 = true then if 0 ≤ x26 ∧ x26 < (x25.length : Int) then dfa_Trim_c3 k (dfa_Trim_l4 k rec12 t4 x10 x11 t18 j) x26 (lset x25 x26 (-1 : Int))
    else none
    else dfa_Trim_c3 k (dfa_Trim_l4 k rec12 t4 x10 x11 t18 j) x26 x25
    else none
    else dfa_Trim_c2 k rec12 x10 x11 x25
def dfa_Trim_l5 (k : Nat) (p0 : S30) (t4 : (List Bool)) (t5 : (List Int)) : Nat → (List (List Int)) → Int → Option S30
  | 0, _, _ => none
  | j + 1, x10, x11 =>
    if x11 < (p0.f1.length : Int) then if 0 ≤ x11 ∧ x11 < (p0.f1.length : Int) then (slices_Clone_int_int__own k (lget p0.f1 x11)).bind fun t18 =>
    dfa_Trim_l4 k (dfa_Trim_l5 k p0 t4 t5 j) t4 x10 x11 t18 k t18 (0 : Int)
    else none
    else dfa_Trim_c0 k p0 t5 x10
def dfa_Trim (k : Nat) (p0 : S30) : Option S30 :=
  (dfa_Alive k p0).bind fun t4 =>
  (slices_Clone_int_int_ k p0.f2).bind fun t5 =>
  dfa_Trim_l5 k p0 t4 t5 k ([] : List (List Int)) (0 : Int)
theorem dfa_Trim_spec {k : Nat} {p0 : S30} {r : S30} (h : dfa_Trim k p0 = some r) : Spec Try.prog 66 [(e30 p0)] (e30 r) := by
  rw [dfa_Trim.eq_1] at h
  refine Spec.intro (res := [.cell 2 30]) Try.func66 rfl rfl rfl (Nat.le_of_ble_eq_true rfl) ?_
  refine AW.sr ?_
  refine AO.box rfl 1 rfl (by decide) rfl rfl rfl fun n2 => ?_
  refine AO.alloc rfl 2 rfl (by decide) rfl zr30 lay30 fun n3 => ?_
  refine AO.nH [1, 2] (H' := [(n2, (.mem (e30 p0))), (n3, (.mem (.st [(256, (.ar 1 ((Vector.replicate 256 (0 : Int)).toList.map eU8))), (1, (.fl (.slice none 0 0))), (1, (.fl (.slice none 0 0)))])))]) (Sub.cons 1 rfl (Sub.cons 0 rfl (Sub.nil _))) ?_
  refine AW.sr ?_
  refine AO.c (Calm.load 0 rfl rfl rfl (At.cast At.here rfl) ag30 sz30) ?_
  obtain ⟨t4, et4, h⟩ := of_bind h
  refine AO.callS [(e30 p0)] (.fz 1 (t4.map eBool)) 11 rfl (by decide) ok92 rfl rfl rfl ⟨rfl, rfl, trivial⟩ (dfa_Alive_spec et4) ?_
  refine AO.c (Calm.assign rfl rfl) ?_
  refine AO.nK [1, 2, 3] ?_
  refine AW.seq ?_
  obtain ⟨t5, et5, h⟩ := of_bind h
  refine AW.regEff (by rfl) (by decide +kernel) (fun (σ : Nat → Nat) => ([(.ptr n2 0), (.ar 1 (p0.f0.toList.map eU8)), (.ptr n2 257), (.fz 1 (p0.f2.map eI64)), (.fz 1 (t5.map eI64)), (.st [(256, (.ar 1 (p0.f0.toList.map eU8))), (1, (.fl (.slice none 0 0))), (1, (.fz 1 (t5.map eI64)))]), (.ptr (σ 6) 0), (.fl undef)] : List AV)) (fun (L : Nat → Bool) (σ : Nat → Nat) => ((n2, (.mem (e30 p0))) :: (n3, (.mem (.st [(256, (.ar 1 ((Vector.replicate 256 (0 : Int)).toList.map eU8))), (1, (.fl (.slice none 0 0))), (1, (.fl (.slice none 0 0)))]))) :: (bif L 6 then (bif L 7 then (((σ 6), (.mem (.st [(256, (.ar 1 (p0.f0.toList.map eU8))), (1, (.fl (.slice none 0 0))), (1, (.fz 1 (t5.map eI64)))]))) :: []) else (((σ 6), (.mem (.st [(256, (.ar 1 ((Vector.replicate 256 (0 : Int)).toList.map eU8))), (1, (.fl (.slice none 0 0))), (1, (.fl (.slice none 0 0)))]))) :: [])) else ([])) : Heap)) [(1, (.ptr n2 0)), (2, (.ptr n3 0)), (3, (.fz 1 (t4.map eBool)))] ⟨rfl, rfl, rfl, trivial⟩ (fun _ => rfl) (fun σ => (Sub.refl _)) ⟨?_, ?_, ?_, ?_, ?_, ?_, ?_, ?_, trivial⟩ (fun σ => [(1, (.ptr n2 0)), (2, (.ptr n3 0)), (3, (.fz 1 (t4.map eBool))), (4, (.ptr (σ 6) 0))]) (fun σ => ((n2, (.mem (e30 p0))) :: (n3, (.mem (.st [(256, (.ar 1 ((Vector.replicate 256 (0 : Int)).toList.map eU8))), (1, (.fl (.slice none 0 0))), (1, (.fl (.slice none 0 0)))]))) :: ((σ 6), (.mem (.st [(256, (.ar 1 (p0.f0.toList.map eU8))), (1, (.fl (.slice none 0 0))), (1, (.fz 1 (t5.map eI64)))]))) :: [])) (fun σ => ⟨rfl, rfl, rfl, rfl, trivial⟩) (fun σ => Sub.refl _) (fun σ => ?_)
  ·refine StepE.calm (fun _ _ => rfl) fun L σ hc hi hd => ?_
   refine AO.wK [1] ?_
   refine AO.c (x := .ptr n2 0) (Calm.fldPtr rfl rfl Try.underlying30 rfl sz27 _ rfl) ?_
   exact AO.nE (d := 12) rfl ⟨⟨12, _, rfl, rfl, rfl⟩, Sub.refl _⟩
  ·refine StepE.calm (fun _ _ => rfl) fun L σ hc hi hd => ?_
   refine AO.wK [12] ?_
   refine AO.c (Calm.load 0 rfl rfl rfl (At.cast (At.fld0 At.here) rfl) ag27 (by rw [sz27]; simp [AV.size])) ?_
   exact AO.nE (d := 13) rfl ⟨⟨13, _, rfl, rfl, rfl⟩, Sub.refl _⟩
  ·refine StepE.calm (fun _ _ => rfl) fun L σ hc hi hd => ?_
   refine AO.wK [1] ?_
   refine AO.c (x := .ptr n2 257) (Calm.fldPtr rfl rfl Try.underlying30 rfl sz25 _ rfl) ?_
   exact AO.nE (d := 14) rfl ⟨⟨14, _, rfl, rfl, rfl⟩, Sub.refl _⟩
  ·refine StepE.calm (fun _ _ => rfl) fun L σ hc hi hd => ?_
   refine AO.wK [14] ?_
   refine AO.c (Calm.load 0 rfl rfl rfl (At.cast (At.fldS (At.fldS (At.fld0 At.here))) rfl) ag25 sz25) ?_
   exact AO.nE (d := 15) rfl ⟨⟨15, _, rfl, rfl, rfl⟩, Sub.refl _⟩
  ·refine StepE.calm (fun _ _ => rfl) fun L σ hc hi hd => ?_
   refine AO.wK [15] ?_
   refine AO.callS [(.fz 1 (p0.f2.map eI64))] (.fz 1 (t5.map eI64)) 16 rfl (by decide) ok93 rfl rfl rfl ⟨rfl, rfl, trivial⟩ (slices_Clone_int_int__spec et5) ?_
   exact AO.nE (d := 16) rfl ⟨⟨16, _, rfl, rfl, rfl⟩, Sub.refl _⟩
  ·refine StepE.calm (fun _ _ => rfl) fun L σ hc hi hd => ?_
   refine AO.wK [13, 16] ?_
   refine AO.c (x := .st [(256, (.ar 1 (p0.f0.toList.map eU8))), (1, (.fl (.slice none 0 0))), (1, (.fz 1 (t5.map eI64)))]) (Calm.build (qs := [(0, (.ar 1 (p0.f0.toList.map eU8))), (2, (.fz 1 (t5.map eI64)))]) rfl ⟨rfl, rfl, rfl, rfl, rfl, rfl, trivial⟩ Try.underlying30 rfl zr30 lay30 (.cons rfl rfl (vec_size _ _) (vec_size _ _) (Put.cast (Put.fld0 Put.here) rfl) (.cons rfl rfl rfl rfl (Put.cast (Put.fldS (Put.fldS (Put.fld0 Put.here))) rfl) .nil)) rfl) ?_
   exact AO.nE (d := 17) rfl ⟨⟨17, _, rfl, rfl, rfl⟩, Sub.refl _⟩
  ·intro L σ hc hi hd
   have m7 : L 7 = false := hc.neg (i := 6) (j := 7) rfl (by rfl) hi
   refine AO.heq (H' := ((n2, (.mem (e30 p0))) :: (n3, (.mem (.st [(256, (.ar 1 ((Vector.replicate 256 (0 : Int)).toList.map eU8))), (1, (.fl (.slice none 0 0))), (1, (.fl (.slice none 0 0)))]))) :: [])) (by first | rfl | simp only [hi, m7, cond_true, cond_false]) ?_
   refine AO.wK [] ?_
   refine AO.alloc rfl 4 rfl (by decide) rfl zr30 lay30 fun n6 => ?_
   have a6 : addL L 6 6 = true := rfl
   have a7 : addL L 6 7 = false := m7
   have u6 : upd σ 6 n6 6 = n6 := rfl
   exact AO.nE (d := 4) rfl ⟨(upd σ 6 n6), (fun j hj => match j, hj with | 0, _ => rfl | 1, _ => rfl | 2, _ => rfl | 3, _ => rfl | 4, _ => rfl | 5, _ => rfl | 6, hj => Bool.noConfusion (hj.symm.trans hi) | 7, _ => rfl | _ + 8, _ => rfl), (fun d' hd' => ⟨_, rfl, by cases hd'; rfl⟩), Sub.of_eq (B := ((n2, (.mem (e30 p0))) :: (n3, (.mem (.st [(256, (.ar 1 ((Vector.replicate 256 (0 : Int)).toList.map eU8))), (1, (.fl (.slice none 0 0))), (1, (.fl (.slice none 0 0)))]))) :: (n6, (.mem (.st [(256, (.ar 1 ((Vector.replicate 256 (0 : Int)).toList.map eU8))), (1, (.fl (.slice none 0 0))), (1, (.fl (.slice none 0 0)))]))) :: [])) (by simp only [a6, a7, u6, cond_true, cond_false]) (Sub.cons 1 rfl (Sub.cons 1 rfl (Sub.cons 0 rfl (Sub.refl _))))⟩
  ·intro L σ hc hi hd
   have y6 : L 6 = true := on_get hd (i := 6) (by rfl)
   refine AO.heq (H' := ((n2, (.mem (e30 p0))) :: (n3, (.mem (.st [(256, (.ar 1 ((Vector.replicate 256 (0 : Int)).toList.map eU8))), (1, (.fl (.slice none 0 0))), (1, (.fl (.slice none 0 0)))]))) :: ((σ 6), (.mem (.st [(256, (.ar 1 ((Vector.replicate 256 (0 : Int)).toList.map eU8))), (1, (.fl (.slice none 0 0))), (1, (.fl (.slice none 0 0)))]))) :: [])) (by first | rfl | simp only [hi, y6, cond_true, cond_false]) ?_
   refine AO.wK [4, 17] ?_
   refine AO.store (X' := (.st [(256, (.ar 1 (p0.f0.toList.map eU8))), (1, (.fl (.slice none 0 0))), (1, (.fz 1 (t5.map eI64)))])) 2 rfl rfl rfl rfl rfl rfl (Put.cast Put.here rfl) rfl rfl sz30 rfl ?_
   have a6 : addL L 7 6 = true := y6
   have a7 : addL L 7 7 = true := rfl
   exact AO.n0 ⟨σ, (fun _ _ => rfl), (fun d' hd' => by cases hd'), Sub.of_eq (B := ((n2, (.mem (e30 p0))) :: (n3, (.mem (.st [(256, (.ar 1 ((Vector.replicate 256 (0 : Int)).toList.map eU8))), (1, (.fl (.slice none 0 0))), (1, (.fl (.slice none 0 0)))]))) :: ((σ 6), (.mem (.st [(256, (.ar 1 (p0.f0.toList.map eU8))), (1, (.fl (.slice none 0 0))), (1, (.fz 1 (t5.map eI64)))]))) :: [])) (by simp only [a6, a7, cond_true, cond_false]) (Sub.refl _)⟩
  ·generalize σ 6 = n6
   refine AO.nK [1, 2, 3, 4] ?_
   refine AW.seq_mid (fun ρ H => ∃ (n7 : Nat) (x8 : (List (List Int))), ρ = [(2, (.ptr n3 0)), (4, (.ptr n6 0))] ∧ H = [(n3, (.mem (.st [(256, (.ar 1 ((Vector.replicate 256 (0 : Int)).toList.map eU8))), (1, (.fl (.slice none 0 0))), (1, (.fl (.slice none 0 0)))]))), (n6, (.mem (.st [(256, (.ar 1 (p0.f0.toList.map eU8))), (1, (.own n7 0 x8.length)), (1, (.fz 1 (t5.map eI64)))]))), (n7, (.mem (.ar 1 (x8.map e25))))] ∧ dfa_Trim_c0 k p0 t5 x8 = some r) ?_ ?_
   ·refine AW.sr ?_
    refine AO.c (x := .ptr n2 256) (Calm.fldPtr rfl rfl Try.underlying30 rfl sz28 _ rfl) ?_
    refine AO.c (Calm.load 0 rfl rfl rfl (At.cast (At.fldS (At.fld0 At.here)) rfl) ag28 sz28) ?_
    refine AO.c (Calm.lenL rfl rfl Try.underlying28) ?_
    refine AO.c (Calm.move rfl rfl) ?_
    refine AO.nH [2, 3, 4, 19, 20, 21] (H' := [(n3, (.mem (.st [(256, (.ar 1 ((Vector.replicate 256 (0 : Int)).toList.map eU8))), (1, (.fl (.slice none 0 0))), (1, (.fl (.slice none 0 0)))]))), (n6, (.mem (.st [(256, (.ar 1 (p0.f0.toList.map eU8))), (1, (.fl (.slice none 0 0))), (1, (.fz 1 (t5.map eI64)))])))]) (Sub.cons 1 rfl (Sub.cons 1 rfl (Sub.nil _))) ?_
    refine AW.block ?_
    refine AW.nilOwnFld 1 1 (fun n39 => (.st [(256, (.ar 1 (p0.f0.toList.map eU8))), (1, (.own n39 0 0)), (1, (.fz 1 (t5.map eI64)))])) rfl (fun _ => (Put.cast (Put.fldS (Put.fld0 Put.here)) rfl)) (fun _ => rfl) (fun _ => rfl) fun n39 => ?_
    refine AW.wH [2, 3, 4, 19, 20, 21] (H' := [(n3, (.mem (.st [(256, (.ar 1 ((Vector.replicate 256 (0 : Int)).toList.map eU8))), (1, (.fl (.slice none 0 0))), (1, (.fl (.slice none 0 0)))]))), (n6, (.mem (.st [(256, (.ar 1 (p0.f0.toList.map eU8))), (1, (.own n39 0 ([] : List (List Int)).length)), (1, (.fz 1 (t5.map eI64)))]))), (n39, (.mem (.ar 1 (([] : List (List Int)).map e25))))]) (Sub.cons 1 rfl (Sub.cons 1 rfl (Sub.cons 0 rfl (Sub.nil _)))) ?_
    refine AW.loop (fun kq ρ H => ∃ (n9 : Nat) (x10 : (List (List Int))) (x11 : Int), ρ = [(2, (.ptr n3 0)), (3, (.fz 1 (t4.map eBool))), (4, (.ptr n6 0)), (19, (.fz 1 (p0.f1.map e25))), (20, (eI64 (p0.f1.length : Int))), (21, (eI64 x11))] ∧ H = [(n3, (.mem (.st [(256, (.ar 1 ((Vector.replicate 256 (0 : Int)).toList.map eU8))), (1, (.fl (.slice none 0 0))), (1, (.fl (.slice none 0 0)))]))), (n6, (.mem (.st [(256, (.ar 1 (p0.f0.toList.map eU8))), (1, (.own n9 0 x10.length)), (1, (.fz 1 (t5.map eI64)))]))), (n9, (.mem (.ar 1 (x10.map e25))))] ∧ dfa_Trim_l5 k p0 t4 t5 kq x10 x11 = some r) k ⟨n39, ([] : List (List Int)), (0 : Int), rfl, rfl, h⟩ ?_
    rintro kq13 _ _ ⟨n9, x10, x11, rfl, rfl, h⟩
    cases kq13 with
    | zero => rw [dfa_Trim_l5.eq_1] at h; cases h
    | succ kq13 =>
    rw [dfa_Trim_l5.eq_2] at h
    generalize hrec12 : dfa_Trim_l5 k p0 t4 t5 kq13 = rec12 at h
    refine AW.sr ?_
    refine AO.c (x := eBool (decide (x11 < (p0.f1.length : Int)))) (Calm.int rfl rfl rfl rfl) ?_
    refine AO.nK [2, 3, 4, 19, 20, 21, 22] ?_
    refine AW.seq ?_
    rcases of_ite h with ⟨hc14, h⟩ | ⟨hc14, h⟩
    ·refine AW.condP _ rfl hc14 ?_
     refine AW.sK [2, 3, 4, 19, 20, 21] ?_
     refine AW.seq_mid (fun ρ H => ∃ (n15 : Nat) (x16 : (List (List Int))), ρ = [(2, (.ptr n3 0)), (3, (.fz 1 (t4.map eBool))), (4, (.ptr n6 0)), (19, (.fz 1 (p0.f1.map e25))), (20, (eI64 (p0.f1.length : Int))), (21, (eI64 x11))] ∧ H = [(n3, (.mem (.st [(256, (.ar 1 ((Vector.replicate 256 (0 : Int)).toList.map eU8))), (1, (.fl (.slice none 0 0))), (1, (.fl (.slice none 0 0)))]))), (n6, (.mem (.st [(256, (.ar 1 (p0.f0.toList.map eU8))), (1, (.own n15 0 x16.length)), (1, (.fz 1 (t5.map eI64)))]))), (n15, (.mem (.ar 1 (x16.map e25))))] ∧ dfa_Trim_c1 k rec12 x11 x16 = some r) ?_ ?_
     ·refine AW.block ?_
      refine AW.sr ?_
      obtain ⟨hg17, h⟩ := of_guard h
      refine AO.c (Calm.idxL (f := e25) rfl rfl rfl hg17 Try.underlying28 sz25) ?_
      refine AO.c (Calm.loadRp rfl rfl ag25 sz25) ?_
      refine AO.c (Calm.assign rfl rfl) ?_
      refine AO.nK [2, 3, 4, 6, 19, 20, 21] ?_
      refine AW.sr ?_
      refine AO.c (Calm.move rfl rfl) ?_
      obtain ⟨t18, et18, h⟩ := of_bind h
      refine AO.callH [(.fz 1 ((lget p0.f1 x11).map eI64))] [(n3, (.mem (.st [(256, (.ar 1 ((Vector.replicate 256 (0 : Int)).toList.map eU8))), (1, (.fl (.slice none 0 0))), (1, (.fl (.slice none 0 0)))]))), (n6, (.mem (.st [(256, (.ar 1 (p0.f0.toList.map eU8))), (1, (.own n9 0 x10.length)), (1, (.fz 1 (t5.map eI64)))]))), (n9, (.mem (.ar 1 (x10.map e25))))] _ rfl rfl rfl 26 rfl (by decide) ok93 ⟨rfl, rfl, trivial⟩ (Sub.refl _) (slices_Clone_int_int__own_spec et18) ?_
      rintro _ _ ⟨n20, rfl, hs19⟩
      refine AO.wH [2, 3, 4, 6, 19, 20, 21, 25, 26] hs19 ?_
      refine AO.c (Calm.assign rfl rfl) ?_
      refine AO.nH [2, 3, 4, 7, 19, 20, 21] (H' := [(n3, (.mem (.st [(256, (.ar 1 ((Vector.replicate 256 (0 : Int)).toList.map eU8))), (1, (.fl (.slice none 0 0))), (1, (.fl (.slice none 0 0)))]))), (n6, (.mem (.st [(256, (.ar 1 (p0.f0.toList.map eU8))), (1, (.own n9 0 x10.length)), (1, (.fz 1 (t5.map eI64)))]))), (n9, (.mem (.ar 1 (x10.map e25)))), (n20, (.mem (.ar 1 (t18.map eI64))))]) (Sub.cons 1 rfl (Sub.cons 1 rfl (Sub.cons 1 rfl (Sub.cons 0 rfl (Sub.nil _))))) ?_
      refine AW.seq_mid (fun ρ H => ∃ (x21 : (List Int)), ρ = [(2, (.ptr n3 0)), (3, (.fz 1 (t4.map eBool))), (4, (.ptr n6 0)), (7, (.own n20 0 x21.length)), (19, (.fz 1 (p0.f1.map e25))), (20, (eI64 (p0.f1.length : Int))), (21, (eI64 x11))] ∧ H = [(n3, (.mem (.st [(256, (.ar 1 ((Vector.replicate 256 (0 : Int)).toList.map eU8))), (1, (.fl (.slice none 0 0))), (1, (.fl (.slice none 0 0)))]))), (n6, (.mem (.st [(256, (.ar 1 (p0.f0.toList.map eU8))), (1, (.own n9 0 x10.length)), (1, (.fz 1 (t5.map eI64)))]))), (n9, (.mem (.ar 1 (x10.map e25)))), (n20, (.mem (.ar 1 (x21.map eI64))))] ∧ dfa_Trim_c2 k rec12 x10 x11 x21 = some r) ?_ ?_
      ·refine AW.sr ?_
       refine AO.c (Calm.move rfl rfl) ?_
       refine AO.c (Calm.lenOwn rfl rfl Try.underlying25) ?_
       refine AO.c (Calm.move rfl rfl) ?_
       refine AO.nK [2, 3, 4, 7, 19, 20, 21, 27, 28, 29] ?_
       refine AW.block ?_
       refine AW.wK [2, 3, 4, 7, 19, 20, 21, 27, 28, 29] ?_
       refine AW.loop (fun kq ρ H => ∃ (x25 : (List Int)) (x26 : Int), ρ = [(2, (.ptr n3 0)), (3, (.fz 1 (t4.map eBool))), (4, (.ptr n6 0)), (7, (.own n20 0 x25.length)), (19, (.fz 1 (p0.f1.map e25))), (20, (eI64 (p0.f1.length : Int))), (21, (eI64 x11)), (27, (.own n20 0 x25.length)), (28, (eI64 (t18.length : Int))), (29, (eI64 x26))] ∧ H = [(n3, (.mem (.st [(256, (.ar 1 ((Vector.replicate 256 (0 : Int)).toList.map eU8))), (1, (.fl (.slice none 0 0))), (1, (.fl (.slice none 0 0)))]))), (n6, (.mem (.st [(256, (.ar 1 (p0.f0.toList.map eU8))), (1, (.own n9 0 x10.length)), (1, (.fz 1 (t5.map eI64)))]))), (n9, (.mem (.ar 1 (x10.map e25)))), (n20, (.mem (.ar 1 (x25.map eI64))))] ∧ dfa_Trim_l4 k rec12 t4 x10 x11 t18 kq x25 x26 = some r) k ⟨t18, (0 : Int), rfl, rfl, h⟩ ?_
       rintro kq28 _ _ ⟨x25, x26, rfl, rfl, h⟩
       cases kq28 with
       | zero => rw [dfa_Trim_l4.eq_1] at h; cases h
       | succ kq28 =>
       rw [dfa_Trim_l4.eq_2] at h
       generalize hrec27 : dfa_Trim_l4 k rec12 t4 x10 x11 t18 kq28 = rec27 at h
       refine AW.sr ?_
       refine AO.c (x := eBool (decide (x26 < (t18.length : Int)))) (Calm.int rfl rfl rfl rfl) ?_
       refine AO.nK [2, 3, 4, 7, 19, 20, 21, 27, 28, 29, 30] ?_
       refine AW.seq ?_
       rcases of_ite h with ⟨hc29, h⟩ | ⟨hc29, h⟩
       ·refine AW.condP _ rfl hc29 ?_
        refine AW.sK [2, 3, 4, 7, 19, 20, 21, 27, 28, 29] ?_
        refine AW.seq_mid (fun ρ H => ∃ (x30 : (List Int)), ρ = [(2, (.ptr n3 0)), (3, (.fz 1 (t4.map eBool))), (4, (.ptr n6 0)), (7, (.own n20 0 x30.length)), (19, (.fz 1 (p0.f1.map e25))), (20, (eI64 (p0.f1.length : Int))), (21, (eI64 x11)), (27, (.own n20 0 x30.length)), (28, (eI64 (t18.length : Int))), (29, (eI64 x26))] ∧ H = [(n3, (.mem (.st [(256, (.ar 1 ((Vector.replicate 256 (0 : Int)).toList.map eU8))), (1, (.fl (.slice none 0 0))), (1, (.fl (.slice none 0 0)))]))), (n6, (.mem (.st [(256, (.ar 1 (p0.f0.toList.map eU8))), (1, (.own n9 0 x10.length)), (1, (.fz 1 (t5.map eI64)))]))), (n9, (.mem (.ar 1 (x10.map e25)))), (n20, (.mem (.ar 1 (x30.map eI64))))] ∧ dfa_Trim_c3 k rec27 x26 x30 = some r) ?_ ?_
        ·refine AW.block ?_
         refine AW.sr ?_
         refine AO.c (Calm.move rfl rfl) ?_
         obtain ⟨hg31, h⟩ := of_guard h
         refine AO.c (Calm.idxO 3 rfl rfl rfl rfl hg31 Try.underlying25 sz3) ?_
         refine AO.c (Calm.load 3 rfl rfl rfl (At.cast (At.lidx x26 hg31.1 hg31.2 At.here) (by omega)) ag3 sz3) ?_
         refine AO.c (Calm.assign rfl rfl) ?_
         refine AO.c (Calm.assign rfl rfl) ?_
         refine AO.nK [2, 3, 4, 7, 8, 9, 19, 20, 21, 27, 28, 29] ?_
         refine AW.seq ?_
         obtain ⟨b32, hq33, h⟩ := of_bind h
         refine AW.regM [(2, (.ptr n3 0)), (3, (.fz 1 (t4.map eBool))), (4, (.ptr n6 0)), (7, (.own n20 0 x25.length)), (8, (eI64 x26)), (19, (.fz 1 (p0.f1.map e25))), (20, (eI64 (p0.f1.length : Int))), (21, (eI64 x11)), (27, (.own n20 0 x25.length)), (28, (eI64 (t18.length : Int))), (29, (eI64 x26)), (48, (eBool b32))] [(n3, (.mem (.st [(256, (.ar 1 ((Vector.replicate 256 (0 : Int)).toList.map eU8))), (1, (.fl (.slice none 0 0))), (1, (.fl (.slice none 0 0)))]))), (n6, (.mem (.st [(256, (.ar 1 (p0.f0.toList.map eU8))), (1, (.own n9 0 x10.length)), (1, (.fz 1 (t5.map eI64)))]))), (n9, (.mem (.ar 1 (x10.map e25)))), (n20, (.mem (.ar 1 (x25.map eI64))))] ?_ ?_
         ·refine AO.c (Calm.move rfl rfl) ?_
          refine AO.c (x := eBool (decide ((0 : Int) ≤ (lget x25 x26)))) (Calm.int rfl rfl rfl rfl) ?_
          refine AO.c (Calm.move rfl rfl) ?_
          rcases of_ite hq33 with ⟨hc34, hq33⟩ | ⟨hc34, hq33⟩
          ·refine AO.cG rfl rfl (bD (decide_eq_true hc34)) (Calm.move rfl rfl) ?_
           refine AO.cG rfl rfl (bD (decide_eq_true hc34)) (Calm.move rfl rfl) ?_
           refine AO.cG rfl rfl (bD (decide_eq_true hc34)) (Calm.lenL rfl rfl Try.underlying49) ?_
           refine AO.cG (x := eBool (decide ((lget x25 x26) < (t4.length : Int)))) rfl rfl (bD (decide_eq_true hc34)) (Calm.int rfl rfl rfl rfl) ?_
           refine AO.c (Calm.pickT rfl (bD (decide_eq_true hc34)) rfl) ?_
           refine AO.c (Calm.move rfl rfl) ?_
           rcases of_ite hq33 with ⟨hc35, hq33⟩ | ⟨hc35, hq33⟩
           ·refine AO.cG rfl rfl (bD (decide_eq_true hc35)) (Calm.move rfl rfl) ?_
            refine AO.cG rfl rfl (bD (decide_eq_true hc35)) (Calm.move rfl rfl) ?_
            obtain ⟨hg36, hq33⟩ := of_guard hq33
            refine AO.cG rfl rfl (bD (decide_eq_true hc35)) (Calm.idxL (f := eBool) rfl rfl rfl hg36 Try.underlying49 sz4) ?_
            refine AO.cG rfl rfl (bD (decide_eq_true hc35)) (Calm.loadRp rfl rfl ag4 sz4) ?_
            refine AO.cG rfl rfl (bD (decide_eq_true hc35)) (Calm.not rfl rfl) ?_
            refine AO.c (Calm.pickT rfl (bD (decide_eq_true hc35)) rfl) ?_
            cases hq33
            refine AO.nilE ⟨rfl, rfl⟩ ?_ ?_
            · exact ⟨rfl, rfl, rfl, rfl, rfl, rfl, rfl, rfl, rfl, rfl, rfl, rfl, trivial⟩
            · exact (Sub.refl _)
           ·refine AO.sT rfl rfl (bD (decide_eq_false hc35)) ?_
            refine AO.sT rfl rfl (bD (decide_eq_false hc35)) ?_
            refine AO.sT rfl rfl (bD (decide_eq_false hc35)) ?_
            refine AO.sT rfl rfl (bD (decide_eq_false hc35)) ?_
            refine AO.sT rfl rfl (bD (decide_eq_false hc35)) ?_
            refine AO.c (Calm.pickF rfl (bD (decide_eq_false hc35)) rfl) ?_
            cases hq33
            refine AO.nilE ⟨rfl, rfl⟩ ?_ ?_
            · exact ⟨rfl, rfl, rfl, rfl, rfl, rfl, rfl, rfl, rfl, rfl, rfl, rfl, trivial⟩
            · exact (Sub.refl _)
          ·refine AO.sT rfl rfl (bD (decide_eq_false hc34)) ?_
           refine AO.sT rfl rfl (bD (decide_eq_false hc34)) ?_
           refine AO.sT rfl rfl (bD (decide_eq_false hc34)) ?_
           refine AO.sT rfl rfl (bD (decide_eq_false hc34)) ?_
           refine AO.c (Calm.pickF rfl (bD (decide_eq_false hc34)) rfl) ?_
           refine AO.c (Calm.move rfl rfl) ?_
           refine AO.sT rfl rfl rfl ?_
           refine AO.sT rfl rfl rfl ?_
           refine AO.sT rfl rfl rfl ?_
           refine AO.sT rfl rfl rfl ?_
           refine AO.sT rfl rfl rfl ?_
           refine AO.c (Calm.pickF rfl rfl rfl) ?_
           cases hq33
           refine AO.nilE ⟨rfl, rfl⟩ ?_ ?_
           · exact ⟨rfl, rfl, rfl, rfl, rfl, rfl, rfl, rfl, rfl, rfl, rfl, rfl, trivial⟩
           · exact (Sub.refl _)
         ·rcases of_ite h with ⟨hc37, h⟩ | ⟨hc37, h⟩
          ·refine AW.condT' _ rfl hc37 ?_
           refine AW.reg ?_
           refine AO.c (Calm.move rfl rfl) ?_
           refine AO.c (Calm.move rfl rfl) ?_
           obtain ⟨hg38, h⟩ := of_guard h
           refine AO.c (Calm.idxO 3 rfl rfl rfl rfl hg38 Try.underlying25 sz3) ?_
           refine AO.store (X' := (.ar 1 ((lset x25 x26 (-1 : Int)).map eI64))) 3 rfl rfl rfl rfl rfl rfl (Put.cast (Put.lidx x26 (-1 : Int) hg38.1 hg38.2 Put.here) (by omega)) rfl rfl sz3 rfl ?_
           refine AO.coe 7 (y' := (.own n20 0 (lset x25 x26 (-1 : Int)).length)) rfl (fun _ _ h => lset_own h) ?_
           refine AO.coe 27 (y' := (.own n20 0 (lset x25 x26 (-1 : Int)).length)) rfl (fun _ _ h => lset_own h) ?_
           refine AO.coe 49 (y' := (.own n20 0 (lset x25 x26 (-1 : Int)).length)) rfl (fun _ _ h => lset_own h) ?_
           refine AO.nK [2, 3, 4, 7, 19, 20, 21, 27, 28, 29] ?_
           exact ⟨(lset x25 x26 (-1 : Int)), rfl, rfl, h⟩
          ·refine AW.condF' _ rfl hc37 ?_
           refine AW.sK [2, 3, 4, 7, 19, 20, 21, 27, 28, 29] ?_
           exact ⟨x25, rfl, rfl, h⟩
        ·rintro _ _ ⟨x30, rfl, rfl, h⟩
         rw [dfa_Trim_c3.eq_1] at h
         refine AW.reg ?_
         refine AO.c (x := eI64 (w64 (x26 + (1 : Int)))) (Calm.int rfl rfl rfl rfl) ?_
         refine AO.c (Calm.move rfl rfl) ?_
         refine AO.nK [2, 3, 4, 7, 19, 20, 21, 27, 28, 29] ?_
         exact ⟨kq28, Nat.lt_succ_self _, x30, (w64 (x26 + (1 : Int))), rfl, rfl, by rw [hrec27]; exact h⟩
       ·refine AW.condN _ rfl hc29 ?_
        refine AW.eK [2, 3, 4, 7, 19, 20, 21] ?_
        exact ⟨x25, rfl, rfl, h⟩
      ·rintro _ _ ⟨x21, rfl, rfl, h⟩
       rw [dfa_Trim_c2.eq_1] at h
       refine AW.reg ?_
       refine AO.c (x := .ptr n6 256) (Calm.fldPtr rfl rfl Try.underlying30 rfl sz28 _ rfl) ?_
       refine AO.c (Calm.load 1 rfl rfl rfl (At.cast (At.fldS (At.fld0 At.here)) rfl) ag28 sz28) ?_
       refine AO.c (Calm.move rfl rfl) ?_
       refine AO.freezeS 3 [(7, (.fz 1 (x21.map eI64))), (55, (.fz 1 (x21.map eI64)))] rfl ⟨fz_all rfl, fz_all rfl, trivial⟩ ?_
       refine AO.lit (Z := (.fl (.slice none 0 0))) (xs := (([x21] : List (List Int)).map e25)) (qs := [(0, (.fz 1 (x21.map eI64)))]) rfl 56 rfl (by decide) rfl ⟨rfl, rfl, rfl, trivial⟩ Try.underlying28 sz25 zr25 lay25 rfl (by decide) (litOK (z := 1) [(.fz 1 (x21.map eI64))] rfl ⟨⟨rfl, rfl⟩, trivial⟩) rfl fun n22 => ?_
       obtain ⟨hg24, h⟩ := of_guard h
       refine AO.appendL (l := x10) (m := ([x21] : List (List Int))) 3 57 rfl (by decide) rfl rfl rfl rfl rfl (Src.ownL (f := e25) (l := ([x21] : List (List Int))) 0 rfl) Try.underlying28 Try.underlying28 sz25 by25 zr25 rfl hg24 (by decide) fun n23 => ?_
       refine AO.c (x := .ptr n6 256) (Calm.fldPtr rfl rfl Try.underlying30 rfl sz28 _ rfl) ?_
       refine AO.store (X' := (.st [(256, (.ar 1 (p0.f0.toList.map eU8))), (1, (.own n23 0 (x10 ++ ([x21] : List (List Int))).length)), (1, (.fz 1 (t5.map eI64)))])) 2 rfl rfl rfl rfl rfl rfl (Put.cast (Put.fldS (Put.fld0 Put.here)) rfl) rfl rfl sz28 rfl ?_
       refine AO.nH [2, 3, 4, 19, 20, 21] (H' := [(n3, (.mem (.st [(256, (.ar 1 ((Vector.replicate 256 (0 : Int)).toList.map eU8))), (1, (.fl (.slice none 0 0))), (1, (.fl (.slice none 0 0)))]))), (n6, (.mem (.st [(256, (.ar 1 (p0.f0.toList.map eU8))), (1, (.own n23 0 (x10 ++ ([x21] : List (List Int))).length)), (1, (.fz 1 (t5.map eI64)))]))), (n23, (.mem (.ar 1 ((x10 ++ ([x21] : List (List Int))).map e25))))]) (Sub.cons 1 rfl (Sub.cons 1 rfl (Sub.cons 1 rfl (Sub.nil _)))) ?_
       exact ⟨n23, (x10 ++ ([x21] : List (List Int))), rfl, rfl, h⟩
     ·rintro _ _ ⟨n15, x16, rfl, rfl, h⟩
      rw [dfa_Trim_c1.eq_1] at h
      refine AW.reg ?_
      refine AO.c (x := eI64 (w64 (x11 + (1 : Int)))) (Calm.int rfl rfl rfl rfl) ?_
      refine AO.c (Calm.move rfl rfl) ?_
      refine AO.nK [2, 3, 4, 19, 20, 21] ?_
      exact ⟨kq13, Nat.lt_succ_self _, n15, x16, (w64 (x11 + (1 : Int))), rfl, rfl, by rw [hrec12]; exact h⟩
    ·refine AW.condN _ rfl hc14 ?_
     refine AW.eK [2, 4] ?_
     exact ⟨n9, x10, rfl, rfl, h⟩
   ·rintro _ _ ⟨n7, x8, rfl, rfl, h⟩
    rw [dfa_Trim_c0.eq_1] at h
    refine AW.sr ?_
    refine AO.freezeFld (X' := (.st [(256, (.ar 1 (p0.f0.toList.map eU8))), (1, (.fz 1 (x8.map e25))), (1, (.fz 1 (t5.map eI64)))])) (els' := (x8.map e25)) 2 1 rfl rfl (Put.cast (Put.fldS (Put.fld0 Put.here)) rfl) (by simp) (by rw [own_all]) rfl rfl (by decide) ?_
    refine AO.c (x := e30 (S30.mk p0.f0 x8 t5)) (Calm.load 1 rfl rfl rfl (At.cast At.here rfl) ag30 sz30) ?_
    refine AO.store (X' := (e30 (S30.mk p0.f0 x8 t5))) 0 rfl rfl rfl rfl rfl rfl (Put.cast Put.here rfl) rfl rfl sz30 rfl ?_
    refine AO.nH [2] (H' := [(n3, (.mem (e30 (S30.mk p0.f0 x8 t5))))]) (Sub.cons 0 rfl (Sub.nil _)) ?_
    refine AW.rK [2] ?_
    have hr := Option.some.inj h
    subst hr
    exact ⟨[(e30 (S30.mk p0.f0 x8 t5))], ⟨⟨_, 0, rfl, rfl, ag30, sz30⟩, trivial⟩, rfl⟩
end Go.Avl.T5
/- bosket/dfa.Reached; printed by avmain.py. -/
namespace Go.Avl.T5
open Go Go.RowKit Go.Proofs Go.Avl
set_option linter.unusedVariables false
set_option maxRecDepth 100000
set_option maxHeartbeats 4000000
attribute [local irreducible] AW AO AQ Spec SpecH Calm

def dfa_Reached_c0 (k : Nat) (x11 : (List Bool)) : Option (List Bool) :=
  some (x11)
def dfa_Reached_c1 (k : Nat) (rec27 : ((List Bool) → (List Int) → Int → Option (List Bool))) (x26 : Int) (x30 : (List Bool)) (x32 : (List Int)) : Option (List Bool) :=
  rec27 x30 x32 (w64 (x26 + (1 : Int)))
def dfa_Reached_l2 (k : Nat) (rec16 : ((List Bool) → (List Int) → Option (List Bool))) (p0 : S30) (x15 : (List Int)) : Nat → (List Bool) → (List Int) → Int → Option (List Bool)
  | 0, _, _, _ => none
  | j + 1, x23, x25, x26 =>
    if x26 < ((lget p0.f1 (lget x15 (0 : Int))).length : Int) then if 0 ≤ x26 ∧ x26 < ((lget p0.f1 (lget x15 (0 : Int))).length : Int) then Option.bind (α := Bool) (if (0 : Int) ≤ (lget (lget p0.f1 (lget x15 (0 : Int))) x26) then if (lget (lget p0.f1 (lget x15 (0 : Int))) x26) < (x23.length : Int) then if 0 ≤ (lget (lget p0.f1 (lget x15 (0 : Int))) x26) ∧ (lget (lget p0.f1 (lget x15 (0 : Int))) x26) < (x23.length : Int) then some (!(lget x23 (lget (lget p0.f1 (lget x15 (0 : Int))) x26)))
    else none
    else some (false)
    else some (false)) fun b34 =>
    if b34 = true then if 0 ≤ (lget (lget p0.f1 (lget x15 (0 : Int))) x26) ∧ (lget (lget p0.f1 (lget x15 (0 : Int))) x26) < (x23.length : Int) then if (x25 ++ ([(lget (lget p0.f1 (lget x15 (0 : Int))) x26)] : List Int)).length * 8 ≤ 140737488355328 then dfa_Reached_c1 k (dfa_Reached_l2 k rec16 p0 x15 j) x26 (lset x23 (lget (lget p0.f1 (lget x15 (0 : Int))) x26) true) (x25 ++ ([(lget (lget p0.f1 (lget x15 (0 : Int))) x26)] : List Int))
    else none
    else none
    else dfa_Reached_c1 k (dfa_Reached_l2 k rec16 p0 x15 j) x26 x23 x25
    else none
    else rec16 x23 x25
def dfa_Reached_l3 (k : Nat) (p0 : S30) : Nat → (List Bool) → (List Int) → Option (List Bool)
  | 0, _, _ => none
  | j + 1, x13, x15 =>
    if (0 : Int) < (x15.length : Int) then if 0 ≤ (0 : Int) ∧ (0 : Int) < (x15.length : Int) then if 0 ≤ (1 : Int) ∧ (1 : Int) ≤ (x15.length : Int) then if 0 ≤ (lget x15 (0 : Int)) ∧ (lget x15 (0 : Int)) < (p0.f1.length : Int) then dfa_Reached_l2 k (dfa_Reached_l3 k p0 j) p0 x15 k x13 (x15.drop (1 : Int).toNat) (0 : Int)
    else none
    else none
    else none
    else dfa_Reached_c0 k x13
def dfa_Reached (k : Nat) (p0 : S30) (p1 : Int) : Option (List Bool) :=
  if 0 ≤ (p0.f1.length : Int) ∧ (p0.f1.length : Int) * (1 : Int) ≤ 140737488355328 ∧ (p0.f1.length : Int) ≤ 9223372036854775807 then Option.bind (α := Bool) (if p1 < (0 : Int) then some (true)
  else some (decide (((List.replicate (p0.f1.length : Int).toNat false).length : Int) ≤ p1))) fun b6 =>
  if b6 = true then some ((List.replicate (p0.f1.length : Int).toNat false))
  else if 0 ≤ p1 ∧ p1 < ((List.replicate (p0.f1.length : Int).toNat false).length : Int) then dfa_Reached_l3 k p0 k (lset (List.replicate (p0.f1.length : Int).toNat false) p1 true) ([p1] : List Int)
  else none
  else none
theorem dfa_Reached_spec {k : Nat} {p0 : S30} {p1 : Int} {r : (List Bool)} (h : dfa_Reached k p0 p1 = some r) : Spec Try.prog 84 [(e30 p0), (eI64 p1)] (e49 r) := by
  rw [dfa_Reached.eq_1] at h
  refine Spec.intro (res := [.tmp 4]) Try.func84 rfl rfl rfl (Nat.le_of_ble_eq_true rfl) ?_
  refine AW.sr ?_
  refine AO.box rfl 2 rfl (by decide) rfl rfl rfl fun n3 => ?_
  refine AO.c (Calm.assign rfl rfl) ?_
  refine AO.nK [1, 2] ?_
  refine AW.sr ?_
  refine AO.c (x := .ptr n3 256) (Calm.fldPtr rfl rfl Try.underlying30 rfl sz28 _ rfl) ?_
  refine AO.c (Calm.load 0 rfl rfl rfl (At.cast (At.fldS (At.fld0 At.here)) rfl) ag28 sz28) ?_
  refine AO.c (Calm.lenL rfl rfl Try.underlying28) ?_
  obtain ⟨hg5, h⟩ := of_guard h
  refine AO.makeL (f := eBool) false rfl 13 rfl (by decide) rfl rfl rfl Try.underlying49 sz4 by4 zr4 lay4 rfl hg5 fun n4 => ?_
  refine AO.c (Calm.assign rfl rfl) ?_
  refine AO.nH [1, 2, 5] (H' := [(n3, (.mem (e30 p0))), (n4, (.mem (.ar 1 ((List.replicate (p0.f1.length : Int).toNat false).map eBool))))]) (Sub.cons 1 rfl (Sub.cons 0 rfl (Sub.nil _))) ?_
  refine AW.seq ?_
  refine AW.seq ?_
  obtain ⟨b6, hq7, h⟩ := of_bind h
  refine AW.regM [(1, (eI64 p1)), (2, (.ptr n3 0)), (5, (.own n4 0 (List.replicate (p0.f1.length : Int).toNat false).length)), (21, (eBool b6))] [(n3, (.mem (e30 p0))), (n4, (.mem (.ar 1 ((List.replicate (p0.f1.length : Int).toNat false).map eBool))))] ?_ ?_
  ·refine AO.c (Calm.move rfl rfl) ?_
   refine AO.c (x := eBool (decide (p1 < (0 : Int)))) (Calm.int rfl rfl rfl rfl) ?_
   refine AO.c (Calm.move rfl rfl) ?_
   rcases of_ite hq7 with ⟨hc8, hq7⟩ | ⟨hc8, hq7⟩
   ·refine AO.sF rfl rfl (bD (decide_eq_true hc8)) ?_
    refine AO.sF rfl rfl (bD (decide_eq_true hc8)) ?_
    refine AO.sF rfl rfl (bD (decide_eq_true hc8)) ?_
    refine AO.sF rfl rfl (bD (decide_eq_true hc8)) ?_
    refine AO.c (Calm.pickT rfl (bD (decide_eq_true hc8)) rfl) ?_
    cases hq7
    refine AO.nilE ⟨rfl, rfl⟩ ?_ ?_
    · exact ⟨rfl, rfl, rfl, rfl, trivial⟩
    · exact (Sub.refl _)
   ·refine AO.cG rfl rfl (bD (decide_eq_false hc8)) (Calm.move rfl rfl) ?_
    refine AO.cG rfl rfl (bD (decide_eq_false hc8)) (Calm.move rfl rfl) ?_
    refine AO.cG rfl rfl (bD (decide_eq_false hc8)) (Calm.lenOwn rfl rfl Try.underlying49) ?_
    refine AO.cG (x := eBool (decide (((List.replicate (p0.f1.length : Int).toNat false).length : Int) ≤ p1))) rfl rfl (bD (decide_eq_false hc8)) (Calm.int rfl rfl rfl rfl) ?_
    refine AO.c (Calm.pickF rfl (bD (decide_eq_false hc8)) rfl) ?_
    cases hq7
    refine AO.nilE ⟨rfl, rfl⟩ ?_ ?_
    · exact ⟨rfl, rfl, rfl, rfl, trivial⟩
    · exact (Sub.refl _)
  ·rcases of_ite h with ⟨hc9, h⟩ | ⟨hc9, h⟩
   ·refine AW.condT' _ rfl hc9 ?_
    refine AW.sr ?_
    refine AO.c (Calm.move rfl rfl) ?_
    refine AO.c (Calm.assign rfl rfl) ?_
    refine AO.nH [4] (H' := [(n4, (.mem (.ar 1 ((List.replicate (p0.f1.length : Int).toNat false).map eBool))))]) (Sub.cons 1 rfl (Sub.nil _)) ?_
    refine AW.freezeS 0 [(4, (.fz 1 ((List.replicate (p0.f1.length : Int).toNat false).map eBool)))] rfl ⟨fz_all rfl, trivial⟩ ?_
    refine AW.rK [4] ?_
    have hr := Option.some.inj h
    subst hr
    exact ⟨[(.fz 1 ((List.replicate (p0.f1.length : Int).toNat false).map eBool))], ⟨rfl, rfl, trivial⟩, rfl⟩
   ·refine AW.condF' _ rfl hc9 ?_
    refine AW.sK [1, 2, 5] ?_
    refine AW.sr ?_
    refine AO.c (Calm.move rfl rfl) ?_
    refine AO.c (Calm.move rfl rfl) ?_
    obtain ⟨hg10, h⟩ := of_guard h
    refine AO.c (Calm.idxO 1 rfl rfl rfl rfl hg10 Try.underlying49 sz4) ?_
    refine AO.store (X' := (.ar 1 ((lset (List.replicate (p0.f1.length : Int).toNat false) p1 true).map eBool))) 1 rfl rfl rfl rfl rfl rfl (Put.cast (Put.lidx p1 true hg10.1 hg10.2 Put.here) (by omega)) rfl rfl sz4 rfl ?_
    refine AO.coe 5 (y' := (.own n4 0 (lset (List.replicate (p0.f1.length : Int).toNat false) p1 true).length)) rfl (fun _ _ h => lset_own h) ?_
    refine AO.coe 23 (y' := (.own n4 0 (lset (List.replicate (p0.f1.length : Int).toNat false) p1 true).length)) rfl (fun _ _ h => lset_own h) ?_
    refine AO.nK [1, 2, 5] ?_
    refine AW.seq_mid (fun ρ H => ∃ (x11 : (List Bool)), ρ = [(5, (.own n4 0 x11.length))] ∧ H = [(n4, (.mem (.ar 1 (x11.map eBool))))] ∧ dfa_Reached_c0 k x11 = some r) ?_ ?_
    ·refine AW.sr ?_
     refine AO.c (Calm.move rfl rfl) ?_
     refine AO.lit (Z := (eI64 (0 : Int))) (xs := (([p1] : List Int).map eI64)) (qs := [(0, (eI64 p1))]) rfl 27 rfl (by decide) rfl ⟨rfl, rfl, rfl, trivial⟩ Try.underlying25 sz3 zr3 lay3 rfl (by decide) (litOK (z := 1) [(eI64 p1)] rfl ⟨⟨rfl, rfl⟩, trivial⟩) rfl fun n12 => ?_
     refine AO.c (Calm.assign rfl rfl) ?_
     refine AO.nH [2, 5, 6] (H' := [(n3, (.mem (e30 p0))), (n4, (.mem (.ar 1 ((lset (List.replicate (p0.f1.length : Int).toNat false) p1 true).map eBool)))), (n12, (.mem (.ar 1 (([p1] : List Int).map eI64))))]) (Sub.cons 1 rfl (Sub.cons 1 rfl (Sub.cons 0 rfl (Sub.nil _)))) ?_
     refine AW.block ?_
     refine AW.wK [2, 5, 6] ?_
     refine AW.loop (fun kq ρ H => ∃ (n14 : Nat) (x13 : (List Bool)) (x15 : (List Int)), ρ = [(2, (.ptr n3 0)), (5, (.own n4 0 x13.length)), (6, (.own n14 0 x15.length))] ∧ H = [(n3, (.mem (e30 p0))), (n4, (.mem (.ar 1 (x13.map eBool)))), (n14, (.mem (.ar 1 (x15.map eI64))))] ∧ dfa_Reached_l3 k p0 kq x13 x15 = some r) k ⟨n12, (lset (List.replicate (p0.f1.length : Int).toNat false) p1 true), ([p1] : List Int), rfl, rfl, h⟩ ?_
     rintro kq17 _ _ ⟨n14, x13, x15, rfl, rfl, h⟩
     cases kq17 with
     | zero => rw [dfa_Reached_l3.eq_1] at h; cases h
     | succ kq17 =>
     rw [dfa_Reached_l3.eq_2] at h
     generalize hrec16 : dfa_Reached_l3 k p0 kq17 = rec16 at h
     refine AW.seq ?_
     refine AW.sr ?_
     refine AO.c (Calm.move rfl rfl) ?_
     refine AO.c (Calm.lenOwn rfl rfl Try.underlying25) ?_
     refine AO.c (x := eBool (decide ((0 : Int) < (x15.length : Int)))) (Calm.int rfl rfl rfl rfl) ?_
     refine AO.nK [2, 5, 6, 30] ?_
     rcases of_ite h with ⟨hc18, h⟩ | ⟨hc18, h⟩
     ·refine AW.condP _ rfl hc18 ?_
      refine AW.sK [2, 5, 6] ?_
      refine AW.block ?_
      refine AW.sr ?_
      refine AO.c (Calm.move rfl rfl) ?_
      obtain ⟨hg19, h⟩ := of_guard h
      refine AO.c (Calm.idxO 2 rfl rfl rfl rfl hg19 Try.underlying25 sz3) ?_
      refine AO.c (Calm.load 2 rfl rfl rfl (At.cast (At.lidx (0 : Int) hg19.1 hg19.2 At.here) (by omega)) ag3 sz3) ?_
      refine AO.c (Calm.assign rfl rfl) ?_
      refine AO.nK [2, 5, 6, 7] ?_
      refine AW.sr ?_
      refine AO.c (Calm.move rfl rfl) ?_
      obtain ⟨hg20, h⟩ := of_guard h
      refine AO.sufNew (l := x15) (f := eI64) 2 35 rfl (by decide) rfl rfl rfl rfl rfl hg20 Try.underlying25 sz3 fun n21 => ?_
      refine AO.c (Calm.assign rfl rfl) ?_
      refine AO.nK [2, 5, 6, 7] ?_
      refine AW.sr ?_
      refine AO.c (x := .ptr n3 256) (Calm.fldPtr rfl rfl Try.underlying30 rfl sz28 _ rfl) ?_
      refine AO.c (Calm.load 0 rfl rfl rfl (At.cast (At.fldS (At.fld0 At.here)) rfl) ag28 sz28) ?_
      refine AO.c (Calm.move rfl rfl) ?_
      obtain ⟨hg22, h⟩ := of_guard h
      refine AO.c (Calm.idxL (f := e25) rfl rfl rfl hg22 Try.underlying28 sz25) ?_
      refine AO.c (Calm.loadRp rfl rfl ag25 sz25) ?_
      refine AO.c (Calm.lenL rfl rfl Try.underlying25) ?_
      refine AO.c (Calm.move rfl rfl) ?_
      refine AO.nK [2, 5, 6, 40, 41, 42] ?_
      refine AW.block ?_
      refine AW.wK [2, 5, 6, 40, 41, 42] ?_
      refine AW.loop (fun kq ρ H => ∃ (n24 : Nat) (x23 : (List Bool)) (x25 : (List Int)) (x26 : Int), ρ = [(2, (.ptr n3 0)), (5, (.own n4 0 x23.length)), (6, (.own n24 0 x25.length)), (40, (.fz 1 ((lget p0.f1 (lget x15 (0 : Int))).map eI64))), (41, (eI64 ((lget p0.f1 (lget x15 (0 : Int))).length : Int))), (42, (eI64 x26))] ∧ H = [(n3, (.mem (e30 p0))), (n4, (.mem (.ar 1 (x23.map eBool)))), (n24, (.mem (.ar 1 (x25.map eI64))))] ∧ dfa_Reached_l2 k rec16 p0 x15 kq x23 x25 x26 = some r) k ⟨n21, x13, (x15.drop (1 : Int).toNat), (0 : Int), rfl, rfl, h⟩ ?_
      rintro kq28 _ _ ⟨n24, x23, x25, x26, rfl, rfl, h⟩
      cases kq28 with
      | zero => rw [dfa_Reached_l2.eq_1] at h; cases h
      | succ kq28 =>
      rw [dfa_Reached_l2.eq_2] at h
      generalize hrec27 : dfa_Reached_l2 k rec16 p0 x15 kq28 = rec27 at h
      refine AW.sr ?_
      refine AO.c (x := eBool (decide (x26 < ((lget p0.f1 (lget x15 (0 : Int))).length : Int)))) (Calm.int rfl rfl rfl rfl) ?_
      refine AO.nK [2, 5, 6, 40, 41, 42, 43] ?_
      refine AW.seq ?_
      rcases of_ite h with ⟨hc29, h⟩ | ⟨hc29, h⟩
      ·refine AW.condP _ rfl hc29 ?_
       refine AW.sK [2, 5, 6, 40, 41, 42] ?_
       refine AW.seq_mid (fun ρ H => ∃ (n31 : Nat) (x30 : (List Bool)) (x32 : (List Int)), ρ = [(2, (.ptr n3 0)), (5, (.own n4 0 x30.length)), (6, (.own n31 0 x32.length)), (40, (.fz 1 ((lget p0.f1 (lget x15 (0 : Int))).map eI64))), (41, (eI64 ((lget p0.f1 (lget x15 (0 : Int))).length : Int))), (42, (eI64 x26))] ∧ H = [(n3, (.mem (e30 p0))), (n4, (.mem (.ar 1 (x30.map eBool)))), (n31, (.mem (.ar 1 (x32.map eI64))))] ∧ dfa_Reached_c1 k rec27 x26 x30 x32 = some r) ?_ ?_
       ·refine AW.block ?_
        refine AW.sr ?_
        obtain ⟨hg33, h⟩ := of_guard h
        refine AO.c (Calm.idxL (f := eI64) rfl rfl rfl hg33 Try.underlying25 sz3) ?_
        refine AO.c (Calm.loadRp rfl rfl ag3 sz3) ?_
        refine AO.c (Calm.assign rfl rfl) ?_
        refine AO.nK [2, 5, 6, 9, 40, 41, 42] ?_
        refine AW.seq ?_
        obtain ⟨b34, hq35, h⟩ := of_bind h
        refine AW.regM [(2, (.ptr n3 0)), (5, (.own n4 0 x23.length)), (6, (.own n24 0 x25.length)), (9, (eI64 (lget (lget p0.f1 (lget x15 (0 : Int))) x26))), (40, (.fz 1 ((lget p0.f1 (lget x15 (0 : Int))).map eI64))), (41, (eI64 ((lget p0.f1 (lget x15 (0 : Int))).length : Int))), (42, (eI64 x26)), (60, (eBool b34))] [(n3, (.mem (e30 p0))), (n4, (.mem (.ar 1 (x23.map eBool)))), (n24, (.mem (.ar 1 (x25.map eI64))))] ?_ ?_
        ·refine AO.c (Calm.move rfl rfl) ?_
         refine AO.c (x := eBool (decide ((0 : Int) ≤ (lget (lget p0.f1 (lget x15 (0 : Int))) x26)))) (Calm.int rfl rfl rfl rfl) ?_
         refine AO.c (Calm.move rfl rfl) ?_
         rcases of_ite hq35 with ⟨hc36, hq35⟩ | ⟨hc36, hq35⟩
         ·refine AO.cG rfl rfl (bD (decide_eq_true hc36)) (Calm.move rfl rfl) ?_
          refine AO.cG rfl rfl (bD (decide_eq_true hc36)) (Calm.move rfl rfl) ?_
          refine AO.cG rfl rfl (bD (decide_eq_true hc36)) (Calm.lenOwn rfl rfl Try.underlying49) ?_
          refine AO.cG (x := eBool (decide ((lget (lget p0.f1 (lget x15 (0 : Int))) x26) < (x23.length : Int)))) rfl rfl (bD (decide_eq_true hc36)) (Calm.int rfl rfl rfl rfl) ?_
          refine AO.c (Calm.pickT rfl (bD (decide_eq_true hc36)) rfl) ?_
          refine AO.c (Calm.move rfl rfl) ?_
          rcases of_ite hq35 with ⟨hc37, hq35⟩ | ⟨hc37, hq35⟩
          ·refine AO.cG rfl rfl (bD (decide_eq_true hc37)) (Calm.move rfl rfl) ?_
           refine AO.cG rfl rfl (bD (decide_eq_true hc37)) (Calm.move rfl rfl) ?_
           obtain ⟨hg38, hq35⟩ := of_guard hq35
           refine AO.cG rfl rfl (bD (decide_eq_true hc37)) (Calm.idxO 1 rfl rfl rfl rfl hg38 Try.underlying49 sz4) ?_
           refine AO.cG rfl rfl (bD (decide_eq_true hc37)) (Calm.load 1 rfl rfl rfl (At.cast (At.lidx (lget (lget p0.f1 (lget x15 (0 : Int))) x26) hg38.1 hg38.2 At.here) (by omega)) ag4 sz4) ?_
           refine AO.cG rfl rfl (bD (decide_eq_true hc37)) (Calm.not rfl rfl) ?_
           refine AO.c (Calm.pickT rfl (bD (decide_eq_true hc37)) rfl) ?_
           cases hq35
           refine AO.nilE ⟨rfl, rfl⟩ ?_ ?_
           · exact ⟨rfl, rfl, rfl, rfl, rfl, rfl, rfl, rfl, trivial⟩
           · exact (Sub.refl _)
          ·refine AO.sT rfl rfl (bD (decide_eq_false hc37)) ?_
           refine AO.sT rfl rfl (bD (decide_eq_false hc37)) ?_
           refine AO.sT rfl rfl (bD (decide_eq_false hc37)) ?_
           refine AO.sT rfl rfl (bD (decide_eq_false hc37)) ?_
           refine AO.sT rfl rfl (bD (decide_eq_false hc37)) ?_
           refine AO.c (Calm.pickF rfl (bD (decide_eq_false hc37)) rfl) ?_
           cases hq35
           refine AO.nilE ⟨rfl, rfl⟩ ?_ ?_
           · exact ⟨rfl, rfl, rfl, rfl, rfl, rfl, rfl, rfl, trivial⟩
           · exact (Sub.refl _)
         ·refine AO.sT rfl rfl (bD (decide_eq_false hc36)) ?_
          refine AO.sT rfl rfl (bD (decide_eq_false hc36)) ?_
          refine AO.sT rfl rfl (bD (decide_eq_false hc36)) ?_
          refine AO.sT rfl rfl (bD (decide_eq_false hc36)) ?_
          refine AO.c (Calm.pickF rfl (bD (decide_eq_false hc36)) rfl) ?_
          refine AO.c (Calm.move rfl rfl) ?_
          refine AO.sT rfl rfl rfl ?_
          refine AO.sT rfl rfl rfl ?_
          refine AO.sT rfl rfl rfl ?_
          refine AO.sT rfl rfl rfl ?_
          refine AO.sT rfl rfl rfl ?_
          refine AO.c (Calm.pickF rfl rfl rfl) ?_
          cases hq35
          refine AO.nilE ⟨rfl, rfl⟩ ?_ ?_
          · exact ⟨rfl, rfl, rfl, rfl, rfl, rfl, rfl, rfl, trivial⟩
          · exact (Sub.refl _)
        ·rcases of_ite h with ⟨hc39, h⟩ | ⟨hc39, h⟩
         ·refine AW.condT' _ rfl hc39 ?_
          refine AW.sr ?_
          refine AO.c (Calm.move rfl rfl) ?_
          refine AO.c (Calm.move rfl rfl) ?_
          obtain ⟨hg40, h⟩ := of_guard h
          refine AO.c (Calm.idxO 1 rfl rfl rfl rfl hg40 Try.underlying49 sz4) ?_
          refine AO.store (X' := (.ar 1 ((lset x23 (lget (lget p0.f1 (lget x15 (0 : Int))) x26) true).map eBool))) 1 rfl rfl rfl rfl rfl rfl (Put.cast (Put.lidx (lget (lget p0.f1 (lget x15 (0 : Int))) x26) true hg40.1 hg40.2 Put.here) (by omega)) rfl rfl sz4 rfl ?_
          refine AO.coe 5 (y' := (.own n4 0 (lset x23 (lget (lget p0.f1 (lget x15 (0 : Int))) x26) true).length)) rfl (fun _ _ h => lset_own h) ?_
          refine AO.coe 61 (y' := (.own n4 0 (lset x23 (lget (lget p0.f1 (lget x15 (0 : Int))) x26) true).length)) rfl (fun _ _ h => lset_own h) ?_
          refine AO.nK [2, 5, 6, 9, 40, 41, 42] ?_
          refine AW.reg ?_
          refine AO.c (Calm.move rfl rfl) ?_
          refine AO.c (Calm.move rfl rfl) ?_
          refine AO.lit (Z := (eI64 (0 : Int))) (xs := (([(lget (lget p0.f1 (lget x15 (0 : Int))) x26)] : List Int).map eI64)) (qs := [(0, (eI64 (lget (lget p0.f1 (lget x15 (0 : Int))) x26)))]) rfl 66 rfl (by decide) rfl ⟨rfl, rfl, rfl, trivial⟩ Try.underlying25 sz3 zr3 lay3 rfl (by decide) (litOK (z := 1) [(eI64 (lget (lget p0.f1 (lget x15 (0 : Int))) x26))] rfl ⟨⟨rfl, rfl⟩, trivial⟩) rfl fun n41 => ?_
          obtain ⟨hg43, h⟩ := of_guard h
          refine AO.appendL (l := x25) (m := ([(lget (lget p0.f1 (lget x15 (0 : Int))) x26)] : List Int)) 3 67 rfl (by decide) rfl rfl rfl rfl rfl (Src.ownL (f := eI64) (l := ([(lget (lget p0.f1 (lget x15 (0 : Int))) x26)] : List Int)) 0 rfl) Try.underlying25 Try.underlying25 sz3 by3 zr3 rfl hg43 (by decide) fun n42 => ?_
          refine AO.c (Calm.assign rfl rfl) ?_
          refine AO.nH [2, 5, 6, 40, 41, 42] (H' := [(n3, (.mem (e30 p0))), (n4, (.mem (.ar 1 ((lset x23 (lget (lget p0.f1 (lget x15 (0 : Int))) x26) true).map eBool)))), (n42, (.mem (.ar 1 ((x25 ++ ([(lget (lget p0.f1 (lget x15 (0 : Int))) x26)] : List Int)).map eI64))))]) (Sub.cons 1 rfl (Sub.cons 1 rfl (Sub.cons 1 rfl (Sub.nil _)))) ?_
          exact ⟨n42, (lset x23 (lget (lget p0.f1 (lget x15 (0 : Int))) x26) true), (x25 ++ ([(lget (lget p0.f1 (lget x15 (0 : Int))) x26)] : List Int)), rfl, rfl, h⟩
         ·refine AW.condF' _ rfl hc39 ?_
          refine AW.sK [2, 5, 6, 40, 41, 42] ?_
          exact ⟨n24, x23, x25, rfl, rfl, h⟩
       ·rintro _ _ ⟨n31, x30, x32, rfl, rfl, h⟩
        rw [dfa_Reached_c1.eq_1] at h
        refine AW.reg ?_
        refine AO.c (x := eI64 (w64 (x26 + (1 : Int)))) (Calm.int rfl rfl rfl rfl) ?_
        refine AO.c (Calm.move rfl rfl) ?_
        refine AO.nK [2, 5, 6, 40, 41, 42] ?_
        exact ⟨kq28, Nat.lt_succ_self _, n31, x30, x32, (w64 (x26 + (1 : Int))), rfl, rfl, by rw [hrec27]; exact h⟩
      ·refine AW.condN _ rfl hc29 ?_
       refine AW.eK [2, 5, 6] ?_
       exact ⟨kq17, Nat.lt_succ_self _, n24, x23, x25, rfl, rfl, by rw [hrec16]; exact h⟩
     ·refine AW.condN _ rfl hc18 ?_
      refine AW.eH [5] (H' := [(n4, (.mem (.ar 1 (x13.map eBool))))]) (Sub.cons 1 rfl (Sub.nil _)) ?_
      exact ⟨x13, rfl, rfl, h⟩
    ·rintro _ _ ⟨x11, rfl, rfl, h⟩
     rw [dfa_Reached_c0.eq_1] at h
     refine AW.sr ?_
     refine AO.c (Calm.move rfl rfl) ?_
     refine AO.c (Calm.assign rfl rfl) ?_
     refine AO.nK [4] ?_
     refine AW.freezeS 0 [(4, (.fz 1 (x11.map eBool)))] rfl ⟨fz_all rfl, trivial⟩ ?_
     refine AW.rK [4] ?_
     have hr := Option.some.inj h
     subst hr
     exact ⟨[(.fz 1 (x11.map eBool))], ⟨rfl, rfl, trivial⟩, rfl⟩
end Go.Avl.T5
/- bosket/lang.Finite; printed by avmain.py. -/
namespace Go.Avl.T5
open Go Go.RowKit Go.Proofs Go.Avl
set_option linter.unusedVariables false
set_option maxRecDepth 100000
set_option maxHeartbeats 4000000
attribute [local irreducible] AW AO AQ Spec SpecH Calm

def lang_Finite_c0 (k : Nat) : Option Bool :=
  some (true)
def lang_Finite_c1 (k : Nat) (rec9 : (Int → Option Bool)) (x8 : Int) : Option Bool :=
  rec9 (w64 (x8 + (1 : Int)))
def lang_Finite_l2 (k : Nat) (rec9 : (Int → Option Bool)) (t5 : S30) (x8 : Int) : Nat → Int → Option Bool
  | 0, _ => none
  | j + 1, x15 =>
    if x15 < ((lget t5.f1 x8).length : Int) then if 0 ≤ x15 ∧ x15 < ((lget t5.f1 x8).length : Int) then Option.bind (α := Bool) (if (0 : Int) ≤ (lget (lget t5.f1 x8) x15) then (dfa_Reached k t5 (lget (lget t5.f1 x8) x15)).bind fun t23 =>
    if 0 ≤ x8 ∧ x8 < (t23.length : Int) then some ((lget t23 x8))
    else none
    else some (false)) fun b20 =>
    if b20 = true then some (false)
    else (lang_Finite_l2 k rec9 t5 x8 j) (w64 (x15 + (1 : Int)))
    else none
    else lang_Finite_c1 k rec9 x8
def lang_Finite_l3 (k : Nat) (t5 : S30) (t7 : (List Bool)) : Nat → Int → Option Bool
  | 0, _ => none
  | j + 1, x8 =>
    if x8 < (t5.f1.length : Int) then if 0 ≤ x8 ∧ x8 < (t7.length : Int) then if (!(lget t7 x8)) = true then lang_Finite_c1 k (lang_Finite_l3 k t5 t7 j) x8
    else if 0 ≤ x8 ∧ x8 < (t5.f1.length : Int) then lang_Finite_l2 k (lang_Finite_l3 k t5 t7 j) t5 x8 k (0 : Int)
    else none
    else none
    else lang_Finite_c0 k
def lang_Finite (k : Nat) (p0 : S30) : Option Bool :=
  (dfa_Right k p0).bind fun t3 =>
  if (!t3) = true then some (true)
  else (dfa_Trim k p0).bind fun t5 =>
  (dfa_Reached k t5 (0 : Int)).bind fun t7 =>
  lang_Finite_l3 k t5 t7 k (0 : Int)
theorem lang_Finite_spec {k : Nat} {p0 : S30} {r : Bool} (h : lang_Finite k p0 = some r) : Spec Try.prog 77 [(e30 p0)] (eBool r) := by
  rw [lang_Finite.eq_1] at h
  refine Spec.intro (res := [.tmp 2]) Try.func77 rfl rfl rfl (Nat.le_of_ble_eq_true rfl) ?_
  refine AW.sr ?_
  refine AO.box rfl 1 rfl (by decide) rfl rfl rfl fun n2 => ?_
  refine AO.c (Calm.assign rfl rfl) ?_
  refine AO.nK [1] ?_
  refine AW.seq ?_
  refine AW.sr ?_
  refine AO.c (Calm.load 0 rfl rfl rfl (At.cast At.here rfl) ag30 sz30) ?_
  obtain ⟨t3, et3, h⟩ := of_bind h
  refine AO.callS [(e30 p0)] (eBool t3) 9 rfl (by decide) ok64 rfl rfl rfl ⟨rfl, rfl, trivial⟩ (dfa_Right_spec et3) ?_
  refine AO.c (Calm.not rfl rfl) ?_
  refine AO.nK [1, 10] ?_
  rcases of_ite h with ⟨hc4, h⟩ | ⟨hc4, h⟩
  ·refine AW.condT' _ rfl hc4 ?_
   refine AW.sr ?_
   refine AO.c (Calm.assign rfl rfl) ?_
   refine AO.nH [2] (H' := []) (Sub.nil _) ?_
   refine AW.rK [2] ?_
   have hr := Option.some.inj h
   subst hr
   exact ⟨[(eBool true)], ⟨rfl, rfl, trivial⟩, rfl⟩
  ·refine AW.condF' _ rfl hc4 ?_
   refine AW.sK [1] ?_
   refine AW.sr ?_
   refine AO.c (Calm.load 0 rfl rfl rfl (At.cast At.here rfl) ag30 sz30) ?_
   obtain ⟨t5, et5, h⟩ := of_bind h
   refine AO.callS [(e30 p0)] (e30 t5) 12 rfl (by decide) ok66 rfl rfl rfl ⟨rfl, rfl, trivial⟩ (dfa_Trim_spec et5) ?_
   refine AO.alloc rfl 3 rfl (by decide) rfl zr30 lay30 fun n6 => ?_
   refine AO.store (X' := (e30 t5)) 0 rfl rfl rfl rfl rfl rfl (Put.cast Put.here rfl) rfl rfl sz30 rfl ?_
   refine AO.nH [3] (H' := [(n6, (.mem (e30 t5)))]) (Sub.cons 0 rfl (Sub.nil _)) ?_
   refine AW.sr ?_
   refine AO.c (Calm.load 0 rfl rfl rfl (At.cast At.here rfl) ag30 sz30) ?_
   obtain ⟨t7, et7, h⟩ := of_bind h
   refine AO.callS [(e30 t5), (eI64 (0 : Int))] (.fz 1 (t7.map eBool)) 14 rfl (by decide) ok84 rfl rfl rfl ⟨rfl, rfl, rfl, rfl, trivial⟩ (dfa_Reached_spec et7) ?_
   refine AO.c (Calm.assign rfl rfl) ?_
   refine AO.nK [3, 4] ?_
   refine AW.seq_mid (fun ρ H => ρ = [] ∧ H = [] ∧ lang_Finite_c0 k = some r) ?_ ?_
   ·refine AW.sr ?_
    refine AO.c (x := .ptr n6 256) (Calm.fldPtr rfl rfl Try.underlying30 rfl sz28 _ rfl) ?_
    refine AO.c (Calm.load 0 rfl rfl rfl (At.cast (At.fldS (At.fld0 At.here)) rfl) ag28 sz28) ?_
    refine AO.c (Calm.lenL rfl rfl Try.underlying28) ?_
    refine AO.c (Calm.move rfl rfl) ?_
    refine AO.nK [3, 4, 17, 18] ?_
    refine AW.block ?_
    refine AW.wK [3, 4, 17, 18] ?_
    refine AW.loop (fun kq ρ H => ∃ (x8 : Int), ρ = [(3, (.ptr n6 0)), (4, (.fz 1 (t7.map eBool))), (17, (eI64 (t5.f1.length : Int))), (18, (eI64 x8))] ∧ H = [(n6, (.mem (e30 t5)))] ∧ lang_Finite_l3 k t5 t7 kq x8 = some r) k ⟨(0 : Int), rfl, rfl, h⟩ ?_
    rintro kq10 _ _ ⟨x8, rfl, rfl, h⟩
    cases kq10 with
    | zero => rw [lang_Finite_l3.eq_1] at h; cases h
    | succ kq10 =>
    rw [lang_Finite_l3.eq_2] at h
    generalize hrec9 : lang_Finite_l3 k t5 t7 kq10 = rec9 at h
    refine AW.sr ?_
    refine AO.c (x := eBool (decide (x8 < (t5.f1.length : Int)))) (Calm.int rfl rfl rfl rfl) ?_
    refine AO.nK [3, 4, 17, 18, 19] ?_
    refine AW.seq ?_
    rcases of_ite h with ⟨hc11, h⟩ | ⟨hc11, h⟩
    ·refine AW.condP _ rfl hc11 ?_
     refine AW.sK [3, 4, 17, 18] ?_
     refine AW.seq_mid (fun ρ H => ρ = [(3, (.ptr n6 0)), (4, (.fz 1 (t7.map eBool))), (17, (eI64 (t5.f1.length : Int))), (18, (eI64 x8))] ∧ H = [(n6, (.mem (e30 t5)))] ∧ lang_Finite_c1 k rec9 x8 = some r) ?_ ?_
     ·refine AW.block ?_
      refine AW.sr ?_
      refine AO.c (Calm.move rfl rfl) ?_
      refine AO.c (Calm.assign rfl rfl) ?_
      refine AO.nK [3, 4, 5, 17, 18] ?_
      refine AW.seq ?_
      refine AW.sr ?_
      refine AO.c (Calm.move rfl rfl) ?_
      refine AO.c (Calm.move rfl rfl) ?_
      obtain ⟨hg12, h⟩ := of_guard h
      refine AO.c (Calm.idxL (f := eBool) rfl rfl rfl hg12 Try.underlying49 sz4) ?_
      refine AO.c (Calm.loadRp rfl rfl ag4 sz4) ?_
      refine AO.c (Calm.not rfl rfl) ?_
      refine AO.nK [3, 4, 5, 17, 18, 25] ?_
      rcases of_ite h with ⟨hc13, h⟩ | ⟨hc13, h⟩
      ·refine AW.condT' _ rfl hc13 ?_
       refine AW.eK [3, 4, 17, 18] ?_
       exact ⟨rfl, rfl, h⟩
      ·refine AW.condF' _ rfl hc13 ?_
       refine AW.sK [3, 4, 5, 17, 18] ?_
       refine AW.sr ?_
       refine AO.c (x := .ptr n6 256) (Calm.fldPtr rfl rfl Try.underlying30 rfl sz28 _ rfl) ?_
       refine AO.c (Calm.load 0 rfl rfl rfl (At.cast (At.fldS (At.fld0 At.here)) rfl) ag28 sz28) ?_
       refine AO.c (Calm.move rfl rfl) ?_
       obtain ⟨hg14, h⟩ := of_guard h
       refine AO.c (Calm.idxL (f := e25) rfl rfl rfl hg14 Try.underlying28 sz25) ?_
       refine AO.c (Calm.loadRp rfl rfl ag25 sz25) ?_
       refine AO.c (Calm.lenL rfl rfl Try.underlying25) ?_
       refine AO.c (Calm.move rfl rfl) ?_
       refine AO.nK [3, 4, 5, 17, 18, 30, 31, 32] ?_
       refine AW.block ?_
       refine AW.wK [3, 4, 5, 17, 18, 30, 31, 32] ?_
       refine AW.loop (fun kq ρ H => ∃ (x15 : Int), ρ = [(3, (.ptr n6 0)), (4, (.fz 1 (t7.map eBool))), (5, (eI64 x8)), (17, (eI64 (t5.f1.length : Int))), (18, (eI64 x8)), (30, (.fz 1 ((lget t5.f1 x8).map eI64))), (31, (eI64 ((lget t5.f1 x8).length : Int))), (32, (eI64 x15))] ∧ H = [(n6, (.mem (e30 t5)))] ∧ lang_Finite_l2 k rec9 t5 x8 kq x15 = some r) k ⟨(0 : Int), rfl, rfl, h⟩ ?_
       rintro kq17 _ _ ⟨x15, rfl, rfl, h⟩
       cases kq17 with
       | zero => rw [lang_Finite_l2.eq_1] at h; cases h
       | succ kq17 =>
       rw [lang_Finite_l2.eq_2] at h
       generalize hrec16 : lang_Finite_l2 k rec9 t5 x8 kq17 = rec16 at h
       refine AW.sr ?_
       refine AO.c (x := eBool (decide (x15 < ((lget t5.f1 x8).length : Int)))) (Calm.int rfl rfl rfl rfl) ?_
       refine AO.nK [3, 4, 5, 17, 18, 30, 31, 32, 33] ?_
       refine AW.seq ?_
       rcases of_ite h with ⟨hc18, h⟩ | ⟨hc18, h⟩
       ·refine AW.condP _ rfl hc18 ?_
        refine AW.sK [3, 4, 5, 17, 18, 30, 31, 32] ?_
        refine AW.seq ?_
        refine AW.block ?_
        refine AW.sr ?_
        obtain ⟨hg19, h⟩ := of_guard h
        refine AO.c (Calm.idxL (f := eI64) rfl rfl rfl hg19 Try.underlying25 sz3) ?_
        refine AO.c (Calm.loadRp rfl rfl ag3 sz3) ?_
        refine AO.c (Calm.assign rfl rfl) ?_
        refine AO.nK [3, 4, 5, 7, 17, 18, 30, 31, 32] ?_
        refine AW.seq ?_
        obtain ⟨b20, hq21, h⟩ := of_bind h
        refine AW.regM [(3, (.ptr n6 0)), (4, (.fz 1 (t7.map eBool))), (5, (eI64 x8)), (17, (eI64 (t5.f1.length : Int))), (18, (eI64 x8)), (30, (.fz 1 ((lget t5.f1 x8).map eI64))), (31, (eI64 ((lget t5.f1 x8).length : Int))), (32, (eI64 x15)), (45, (eBool b20))] [(n6, (.mem (e30 t5)))] ?_ ?_
        ·refine AO.c (Calm.move rfl rfl) ?_
         refine AO.c (x := eBool (decide ((0 : Int) ≤ (lget (lget t5.f1 x8) x15)))) (Calm.int rfl rfl rfl rfl) ?_
         refine AO.c (Calm.move rfl rfl) ?_
         rcases of_ite hq21 with ⟨hc22, hq21⟩ | ⟨hc22, hq21⟩
         ·refine AO.cG rfl rfl (bD (decide_eq_true hc22)) (Calm.load 0 rfl rfl rfl (At.cast At.here rfl) ag30 sz30) ?_
          refine AO.cG rfl rfl (bD (decide_eq_true hc22)) (Calm.move rfl rfl) ?_
          obtain ⟨t23, et23, hq21⟩ := of_bind hq21
          refine AO.callG 2 true 38 [(e30 t5), (eI64 (lget (lget t5.f1 x8) x15))] (.fz 1 (t23.map eBool)) 41 rfl (by decide) ok84 rfl rfl (bD (decide_eq_true hc22)) rfl rfl ⟨rfl, rfl, rfl, rfl, trivial⟩ (dfa_Reached_spec et23) ?_
          refine AO.cG rfl rfl (bD (decide_eq_true hc22)) (Calm.move rfl rfl) ?_
          obtain ⟨hg24, hq21⟩ := of_guard hq21
          refine AO.cG rfl rfl (bD (decide_eq_true hc22)) (Calm.idxL (f := eBool) rfl rfl rfl hg24 Try.underlying49 sz4) ?_
          refine AO.cG rfl rfl (bD (decide_eq_true hc22)) (Calm.loadRp rfl rfl ag4 sz4) ?_
          refine AO.c (Calm.pickT rfl (bD (decide_eq_true hc22)) rfl) ?_
          cases hq21
          refine AO.nilE ⟨rfl, rfl⟩ ?_ ?_
          · exact ⟨rfl, rfl, rfl, rfl, rfl, rfl, rfl, rfl, rfl, trivial⟩
          · exact (Sub.refl _)
         ·refine AO.sT rfl rfl (bD (decide_eq_false hc22)) ?_
          refine AO.sT rfl rfl (bD (decide_eq_false hc22)) ?_
          refine AO.sT rfl rfl (bD (decide_eq_false hc22)) ?_
          refine AO.sT rfl rfl (bD (decide_eq_false hc22)) ?_
          refine AO.sT rfl rfl (bD (decide_eq_false hc22)) ?_
          refine AO.sT rfl rfl (bD (decide_eq_false hc22)) ?_
          refine AO.c (Calm.pickF rfl (bD (decide_eq_false hc22)) rfl) ?_
          cases hq21
          refine AO.nilE ⟨rfl, rfl⟩ ?_ ?_
          · exact ⟨rfl, rfl, rfl, rfl, rfl, rfl, rfl, rfl, rfl, trivial⟩
          · exact (Sub.refl _)
        ·rcases of_ite h with ⟨hc25, h⟩ | ⟨hc25, h⟩
         ·refine AW.condT' _ rfl hc25 ?_
          refine AW.sr ?_
          refine AO.c (Calm.assign rfl rfl) ?_
          refine AO.nH [2] (H' := []) (Sub.nil _) ?_
          refine AW.rK [2] ?_
          have hr := Option.some.inj h
          subst hr
          exact ⟨[(eBool false)], ⟨rfl, rfl, trivial⟩, rfl⟩
         ·refine AW.condF' _ rfl hc25 ?_
          refine AW.sK [3, 4, 5, 17, 18, 30, 31, 32] ?_
          refine AW.reg ?_
          refine AO.c (x := eI64 (w64 (x15 + (1 : Int)))) (Calm.int rfl rfl rfl rfl) ?_
          refine AO.c (Calm.move rfl rfl) ?_
          refine AO.nK [3, 4, 5, 17, 18, 30, 31, 32] ?_
          exact ⟨kq17, Nat.lt_succ_self _, (w64 (x15 + (1 : Int))), rfl, rfl, by rw [hrec16]; exact h⟩
       ·refine AW.condN _ rfl hc18 ?_
        refine AW.eK [3, 4, 17, 18] ?_
        exact ⟨rfl, rfl, h⟩
     ·rintro _ _ ⟨rfl, rfl, h⟩
      rw [lang_Finite_c1.eq_1] at h
      refine AW.reg ?_
      refine AO.c (x := eI64 (w64 (x8 + (1 : Int)))) (Calm.int rfl rfl rfl rfl) ?_
      refine AO.c (Calm.move rfl rfl) ?_
      refine AO.nK [3, 4, 17, 18] ?_
      exact ⟨kq10, Nat.lt_succ_self _, (w64 (x8 + (1 : Int))), rfl, rfl, by rw [hrec9]; exact h⟩
    ·refine AW.condN _ rfl hc11 ?_
     refine AW.eH [] (H' := []) (Sub.nil _) ?_
     exact ⟨rfl, rfl, h⟩
   ·rintro _ _ ⟨rfl, rfl, h⟩
    rw [lang_Finite_c0.eq_1] at h
    refine AW.sr ?_
    refine AO.c (Calm.assign rfl rfl) ?_
    refine AO.nK [2] ?_
    refine AW.rK [2] ?_
    have hr := Option.some.inj h
    subst hr
    exact ⟨[(eBool true)], ⟨rfl, rfl, trivial⟩, rfl⟩
end Go.Avl.T5
/- bosket/bosketlaw10.awake; printed by avmain.py. -/
namespace Go.Avl.T5
open Go Go.RowKit Go.Proofs Go.Avl
set_option linter.unusedVariables false
set_option maxRecDepth 100000
set_option maxHeartbeats 4000000
attribute [local irreducible] AW AO AQ Spec SpecH Calm

def bosketlaw10_awake (k : Nat) : Option Bool :=
  (lang_Shortest k (S30.mk (vset (vset (vset (Vector.replicate 256 (0 : Int)) (97 : Int) (1 : Int)) (98 : Int) (2 : Int)) (99 : Int) (3 : Int)) ([[(-1 : Int), (1 : Int), (2 : Int), (-1 : Int)], [(-1 : Int), (-1 : Int), (-1 : Int), (-1 : Int)], [(-1 : Int), (-1 : Int), (-1 : Int), (1 : Int)]] : List (List Int)) ([(-1 : Int), (5 : Int), (-1 : Int)] : List Int))).bind fun t7 =>
  Option.bind (α := Bool) (if t7.2 = true then if t7.1 = (ByteArray.mk #[97]) then (lang_Count k (S30.mk (vset (vset (vset (Vector.replicate 256 (0 : Int)) (97 : Int) (1 : Int)) (98 : Int) (2 : Int)) (99 : Int) (3 : Int)) ([[(-1 : Int), (1 : Int), (2 : Int), (-1 : Int)], [(-1 : Int), (-1 : Int), (-1 : Int), (-1 : Int)], [(-1 : Int), (-1 : Int), (-1 : Int), (1 : Int)]] : List (List Int)) ([(-1 : Int), (5 : Int), (-1 : Int)] : List Int)) (2 : Int) (9 : Int)).bind fun t12 =>
  if t12 = (1 : Int) then (lang_Finite k (S30.mk (vset (vset (vset (Vector.replicate 256 (0 : Int)) (97 : Int) (1 : Int)) (98 : Int) (2 : Int)) (99 : Int) (3 : Int)) ([[(-1 : Int), (1 : Int), (2 : Int), (-1 : Int)], [(-1 : Int), (-1 : Int), (-1 : Int), (-1 : Int)], [(-1 : Int), (-1 : Int), (-1 : Int), (1 : Int)]] : List (List Int)) ([(-1 : Int), (5 : Int), (-1 : Int)] : List Int))).bind fun t14 =>
  if t14 = true then some (true)
  else some (false)
  else some (false)
  else some (false)
  else some (false)) fun b8 =>
  some (b8)
theorem bosketlaw10_awake_spec {k : Nat}  {r : Bool} (h : bosketlaw10_awake k = some r) : Spec Try.prog 43 [] (eBool r) := by
  rw [bosketlaw10_awake.eq_1] at h
  refine Spec.intro (res := [.tmp 0]) Try.func43 rfl rfl rfl (Nat.le_of_ble_eq_true rfl) ?_
  refine AW.sr ?_
  refine AO.c (Calm.assign rfl rfl) ?_
  refine AO.nK [] ?_
  refine AW.sr ?_
  refine AO.alloc rfl 1 rfl (by decide) rfl zr30 lay30 fun n1 => ?_
  refine AO.nK [1] ?_
  refine AW.sr ?_
  refine AO.c (x := .ptr n1 0) (Calm.fldPtr rfl rfl Try.underlying30 rfl sz27 _ rfl) ?_
  refine AO.c (Calm.idxP rfl rfl rfl (by decide) Try.underlying27 sz5) ?_
  refine AO.store (X' := (.st [(256, (.ar 1 ((vset (Vector.replicate 256 (0 : Int)) (97 : Int) (1 : Int)).toList.map eU8))), (1, (.fl (.slice none 0 0))), (1, (.fl (.slice none 0 0)))])) 0 rfl rfl rfl rfl rfl rfl (Put.cast (Put.fld0 (Put.vidx (97 : Int) (1 : Int) (by decide) (by decide) Put.here)) (by omega)) rfl rfl sz5 rfl ?_
  refine AO.c (x := .ptr n1 0) (Calm.fldPtr rfl rfl Try.underlying30 rfl sz27 _ rfl) ?_
  refine AO.c (Calm.idxP rfl rfl rfl (by decide) Try.underlying27 sz5) ?_
  refine AO.store (X' := (.st [(256, (.ar 1 ((vset (vset (Vector.replicate 256 (0 : Int)) (97 : Int) (1 : Int)) (98 : Int) (2 : Int)).toList.map eU8))), (1, (.fl (.slice none 0 0))), (1, (.fl (.slice none 0 0)))])) 0 rfl rfl rfl rfl rfl rfl (Put.cast (Put.fld0 (Put.vidx (98 : Int) (2 : Int) (by decide) (by decide) Put.here)) (by omega)) rfl rfl sz5 rfl ?_
  refine AO.c (x := .ptr n1 0) (Calm.fldPtr rfl rfl Try.underlying30 rfl sz27 _ rfl) ?_
  refine AO.c (Calm.idxP rfl rfl rfl (by decide) Try.underlying27 sz5) ?_
  refine AO.store (X' := (.st [(256, (.ar 1 ((vset (vset (vset (Vector.replicate 256 (0 : Int)) (97 : Int) (1 : Int)) (98 : Int) (2 : Int)) (99 : Int) (3 : Int)).toList.map eU8))), (1, (.fl (.slice none 0 0))), (1, (.fl (.slice none 0 0)))])) 0 rfl rfl rfl rfl rfl rfl (Put.cast (Put.fld0 (Put.vidx (99 : Int) (3 : Int) (by decide) (by decide) Put.here)) (by omega)) rfl rfl sz5 rfl ?_
  refine AO.nK [1] ?_
  refine AW.sr ?_
  refine AO.lit (Z := (eI64 (0 : Int))) (xs := (([(-1 : Int), (1 : Int), (2 : Int), (-1 : Int)] : List Int).map eI64)) (qs := [(0, (eI64 (-1 : Int))), (1, (eI64 (1 : Int))), (2, (eI64 (2 : Int))), (3, (eI64 (-1 : Int)))]) rfl 10 rfl (by decide) rfl ⟨rfl, rfl, rfl, rfl, rfl, rfl, rfl, rfl, rfl, rfl, rfl, rfl, trivial⟩ Try.underlying25 sz3 zr3 lay3 rfl (by decide) (litOK (z := 1) [(eI64 (-1 : Int)), (eI64 (1 : Int)), (eI64 (2 : Int)), (eI64 (-1 : Int))] rfl ⟨⟨rfl, rfl⟩, ⟨rfl, rfl⟩, ⟨rfl, rfl⟩, ⟨rfl, rfl⟩, trivial⟩) rfl fun n2 => ?_
  refine AO.lit (Z := (eI64 (0 : Int))) (xs := (([(-1 : Int), (-1 : Int), (-1 : Int), (-1 : Int)] : List Int).map eI64)) (qs := [(0, (eI64 (-1 : Int))), (1, (eI64 (-1 : Int))), (2, (eI64 (-1 : Int))), (3, (eI64 (-1 : Int)))]) rfl 11 rfl (by decide) rfl ⟨rfl, rfl, rfl, rfl, rfl, rfl, rfl, rfl, rfl, rfl, rfl, rfl, trivial⟩ Try.underlying25 sz3 zr3 lay3 rfl (by decide) (litOK (z := 1) [(eI64 (-1 : Int)), (eI64 (-1 : Int)), (eI64 (-1 : Int)), (eI64 (-1 : Int))] rfl ⟨⟨rfl, rfl⟩, ⟨rfl, rfl⟩, ⟨rfl, rfl⟩, ⟨rfl, rfl⟩, trivial⟩) rfl fun n3 => ?_
  refine AO.lit (Z := (eI64 (0 : Int))) (xs := (([(-1 : Int), (-1 : Int), (-1 : Int), (1 : Int)] : List Int).map eI64)) (qs := [(0, (eI64 (-1 : Int))), (1, (eI64 (-1 : Int))), (2, (eI64 (-1 : Int))), (3, (eI64 (1 : Int)))]) rfl 12 rfl (by decide) rfl ⟨rfl, rfl, rfl, rfl, rfl, rfl, rfl, rfl, rfl, rfl, rfl, rfl, trivial⟩ Try.underlying25 sz3 zr3 lay3 rfl (by decide) (litOK (z := 1) [(eI64 (-1 : Int)), (eI64 (-1 : Int)), (eI64 (-1 : Int)), (eI64 (1 : Int))] rfl ⟨⟨rfl, rfl⟩, ⟨rfl, rfl⟩, ⟨rfl, rfl⟩, ⟨rfl, rfl⟩, trivial⟩) rfl fun n4 => ?_
  refine AO.freezeS 2 [(10, (.fz 1 (([(-1 : Int), (1 : Int), (2 : Int), (-1 : Int)] : List Int).map eI64)))] rfl ⟨fz_all rfl, trivial⟩ ?_
  refine AO.freezeS 1 [(11, (.fz 1 (([(-1 : Int), (-1 : Int), (-1 : Int), (-1 : Int)] : List Int).map eI64)))] rfl ⟨fz_all rfl, trivial⟩ ?_
  refine AO.freezeS 0 [(12, (.fz 1 (([(-1 : Int), (-1 : Int), (-1 : Int), (1 : Int)] : List Int).map eI64)))] rfl ⟨fz_all rfl, trivial⟩ ?_
  refine AO.lit (Z := (.fl (.slice none 0 0))) (xs := (([[(-1 : Int), (1 : Int), (2 : Int), (-1 : Int)], [(-1 : Int), (-1 : Int), (-1 : Int), (-1 : Int)], [(-1 : Int), (-1 : Int), (-1 : Int), (1 : Int)]] : List (List Int)).map e25)) (qs := [(0, (.fz 1 (([(-1 : Int), (1 : Int), (2 : Int), (-1 : Int)] : List Int).map eI64))), (1, (.fz 1 (([(-1 : Int), (-1 : Int), (-1 : Int), (-1 : Int)] : List Int).map eI64))), (2, (.fz 1 (([(-1 : Int), (-1 : Int), (-1 : Int), (1 : Int)] : List Int).map eI64)))]) rfl 13 rfl (by decide) rfl ⟨rfl, rfl, rfl, rfl, rfl, rfl, rfl, rfl, rfl, trivial⟩ Try.underlying28 sz25 zr25 lay25 rfl (by decide) (litOK (z := 1) [(.fz 1 (([(-1 : Int), (1 : Int), (2 : Int), (-1 : Int)] : List Int).map eI64)), (.fz 1 (([(-1 : Int), (-1 : Int), (-1 : Int), (-1 : Int)] : List Int).map eI64)), (.fz 1 (([(-1 : Int), (-1 : Int), (-1 : Int), (1 : Int)] : List Int).map eI64))] rfl ⟨⟨rfl, rfl⟩, ⟨rfl, rfl⟩, ⟨rfl, rfl⟩, trivial⟩) rfl fun n5 => ?_
  refine AO.c (x := .ptr n1 256) (Calm.fldPtr rfl rfl Try.underlying30 rfl sz28 _ rfl) ?_
  refine AO.store (X' := (.st [(256, (.ar 1 ((vset (vset (vset (Vector.replicate 256 (0 : Int)) (97 : Int) (1 : Int)) (98 : Int) (2 : Int)) (99 : Int) (3 : Int)).toList.map eU8))), (1, (.own n5 0 ([[(-1 : Int), (1 : Int), (2 : Int), (-1 : Int)], [(-1 : Int), (-1 : Int), (-1 : Int), (-1 : Int)], [(-1 : Int), (-1 : Int), (-1 : Int), (1 : Int)]] : List (List Int)).length)), (1, (.fl (.slice none 0 0)))])) 1 rfl rfl rfl rfl rfl rfl (Put.cast (Put.fldS (Put.fld0 Put.here)) rfl) rfl rfl sz28 rfl ?_
  refine AO.nH [1] (H' := [(n1, (.mem (.st [(256, (.ar 1 ((vset (vset (vset (Vector.replicate 256 (0 : Int)) (97 : Int) (1 : Int)) (98 : Int) (2 : Int)) (99 : Int) (3 : Int)).toList.map eU8))), (1, (.own n5 0 ([[(-1 : Int), (1 : Int), (2 : Int), (-1 : Int)], [(-1 : Int), (-1 : Int), (-1 : Int), (-1 : Int)], [(-1 : Int), (-1 : Int), (-1 : Int), (1 : Int)]] : List (List Int)).length)), (1, (.fl (.slice none 0 0)))]))), (n5, (.mem (.ar 1 (([[(-1 : Int), (1 : Int), (2 : Int), (-1 : Int)], [(-1 : Int), (-1 : Int), (-1 : Int), (-1 : Int)], [(-1 : Int), (-1 : Int), (-1 : Int), (1 : Int)]] : List (List Int)).map e25))))]) (Sub.cons 1 rfl (Sub.cons 0 rfl (Sub.nil _))) ?_
  refine AW.sr ?_
  refine AO.lit (Z := (eI64 (0 : Int))) (xs := (([(-1 : Int), (5 : Int), (-1 : Int)] : List Int).map eI64)) (qs := [(0, (eI64 (-1 : Int))), (1, (eI64 (5 : Int))), (2, (eI64 (-1 : Int)))]) rfl 15 rfl (by decide) rfl ⟨rfl, rfl, rfl, rfl, rfl, rfl, rfl, rfl, rfl, trivial⟩ Try.underlying25 sz3 zr3 lay3 rfl (by decide) (litOK (z := 1) [(eI64 (-1 : Int)), (eI64 (5 : Int)), (eI64 (-1 : Int))] rfl ⟨⟨rfl, rfl⟩, ⟨rfl, rfl⟩, ⟨rfl, rfl⟩, trivial⟩) rfl fun n6 => ?_
  refine AO.c (x := .ptr n1 257) (Calm.fldPtr rfl rfl Try.underlying30 rfl sz25 _ rfl) ?_
  refine AO.store (X' := (.st [(256, (.ar 1 ((vset (vset (vset (Vector.replicate 256 (0 : Int)) (97 : Int) (1 : Int)) (98 : Int) (2 : Int)) (99 : Int) (3 : Int)).toList.map eU8))), (1, (.own n5 0 ([[(-1 : Int), (1 : Int), (2 : Int), (-1 : Int)], [(-1 : Int), (-1 : Int), (-1 : Int), (-1 : Int)], [(-1 : Int), (-1 : Int), (-1 : Int), (1 : Int)]] : List (List Int)).length)), (1, (.own n6 0 ([(-1 : Int), (5 : Int), (-1 : Int)] : List Int).length))])) 1 rfl rfl rfl rfl rfl rfl (Put.cast (Put.fldS (Put.fldS (Put.fld0 Put.here))) rfl) rfl rfl sz25 rfl ?_
  refine AO.nH [1] (H' := [(n1, (.mem (.st [(256, (.ar 1 ((vset (vset (vset (Vector.replicate 256 (0 : Int)) (97 : Int) (1 : Int)) (98 : Int) (2 : Int)) (99 : Int) (3 : Int)).toList.map eU8))), (1, (.own n5 0 ([[(-1 : Int), (1 : Int), (2 : Int), (-1 : Int)], [(-1 : Int), (-1 : Int), (-1 : Int), (-1 : Int)], [(-1 : Int), (-1 : Int), (-1 : Int), (1 : Int)]] : List (List Int)).length)), (1, (.own n6 0 ([(-1 : Int), (5 : Int), (-1 : Int)] : List Int).length))]))), (n5, (.mem (.ar 1 (([[(-1 : Int), (1 : Int), (2 : Int), (-1 : Int)], [(-1 : Int), (-1 : Int), (-1 : Int), (-1 : Int)], [(-1 : Int), (-1 : Int), (-1 : Int), (1 : Int)]] : List (List Int)).map e25)))), (n6, (.mem (.ar 1 (([(-1 : Int), (5 : Int), (-1 : Int)] : List Int).map eI64))))]) (Sub.cons 1 rfl (Sub.cons 1 rfl (Sub.cons 0 rfl (Sub.nil _)))) ?_
  refine AW.sr ?_
  refine AO.freezeFld (X' := (.st [(256, (.ar 1 ((vset (vset (vset (Vector.replicate 256 (0 : Int)) (97 : Int) (1 : Int)) (98 : Int) (2 : Int)) (99 : Int) (3 : Int)).toList.map eU8))), (1, (.fz 1 (([[(-1 : Int), (1 : Int), (2 : Int), (-1 : Int)], [(-1 : Int), (-1 : Int), (-1 : Int), (-1 : Int)], [(-1 : Int), (-1 : Int), (-1 : Int), (1 : Int)]] : List (List Int)).map e25))), (1, (.own n6 0 ([(-1 : Int), (5 : Int), (-1 : Int)] : List Int).length))])) (els' := (([[(-1 : Int), (1 : Int), (2 : Int), (-1 : Int)], [(-1 : Int), (-1 : Int), (-1 : Int), (-1 : Int)], [(-1 : Int), (-1 : Int), (-1 : Int), (1 : Int)]] : List (List Int)).map e25)) 1 0 rfl rfl (Put.cast (Put.fldS (Put.fld0 Put.here)) rfl) (by simp) (by rw [own_all]) rfl rfl (by decide) ?_
  refine AO.freezeFld (X' := (.st [(256, (.ar 1 ((vset (vset (vset (Vector.replicate 256 (0 : Int)) (97 : Int) (1 : Int)) (98 : Int) (2 : Int)) (99 : Int) (3 : Int)).toList.map eU8))), (1, (.fz 1 (([[(-1 : Int), (1 : Int), (2 : Int), (-1 : Int)], [(-1 : Int), (-1 : Int), (-1 : Int), (-1 : Int)], [(-1 : Int), (-1 : Int), (-1 : Int), (1 : Int)]] : List (List Int)).map e25))), (1, (.fz 1 (([(-1 : Int), (5 : Int), (-1 : Int)] : List Int).map eI64)))])) (els' := (([(-1 : Int), (5 : Int), (-1 : Int)] : List Int).map eI64)) 1 0 rfl rfl (Put.cast (Put.fldS (Put.fldS (Put.fld0 Put.here))) rfl) (by simp) (by rw [own_all]) rfl rfl (by decide) ?_
  refine AO.c (x := e30 (S30.mk (vset (vset (vset (Vector.replicate 256 (0 : Int)) (97 : Int) (1 : Int)) (98 : Int) (2 : Int)) (99 : Int) (3 : Int)) ([[(-1 : Int), (1 : Int), (2 : Int), (-1 : Int)], [(-1 : Int), (-1 : Int), (-1 : Int), (-1 : Int)], [(-1 : Int), (-1 : Int), (-1 : Int), (1 : Int)]] : List (List Int)) ([(-1 : Int), (5 : Int), (-1 : Int)] : List Int))) (Calm.load 0 rfl rfl rfl (At.cast At.here rfl) ag30 sz30) ?_
  obtain ⟨t7, et7, h⟩ := of_bind h
  refine AO.callS [(e30 (S30.mk (vset (vset (vset (Vector.replicate 256 (0 : Int)) (97 : Int) (1 : Int)) (98 : Int) (2 : Int)) (99 : Int) (3 : Int)) ([[(-1 : Int), (1 : Int), (2 : Int), (-1 : Int)], [(-1 : Int), (-1 : Int), (-1 : Int), (-1 : Int)], [(-1 : Int), (-1 : Int), (-1 : Int), (1 : Int)]] : List (List Int)) ([(-1 : Int), (5 : Int), (-1 : Int)] : List Int)))] (.tup [(eStr t7.1), (eBool t7.2)]) 19 rfl (by decide) ok75 rfl rfl rfl ⟨rfl, rfl, trivial⟩ (lang_Shortest_spec et7) ?_
  refine AO.c (Calm.move rfl rfl) ?_
  refine AO.c (Calm.extract rfl rfl rfl) ?_
  refine AO.c (Calm.extract rfl rfl rfl) ?_
  refine AO.c (Calm.assign rfl rfl) ?_
  refine AO.c (Calm.assign rfl rfl) ?_
  refine AO.nK [1, 2, 3] ?_
  refine AW.seq ?_
  obtain ⟨b8, hq9, h⟩ := of_bind h
  refine AW.regM [(0, (eBool b8))] [] ?_ ?_
  ·refine AO.c (Calm.move rfl rfl) ?_
   refine AO.c (Calm.move rfl rfl) ?_
   rcases of_ite hq9 with ⟨hc10, hq9⟩ | ⟨hc10, hq9⟩
   ·refine AO.cG rfl rfl (bD hc10) (Calm.move rfl rfl) ?_
    refine AO.cG (x := eBool (decide (t7.1 = (ByteArray.mk #[97])))) rfl rfl (bD hc10) (Calm.str rfl rfl rfl rfl) ?_
    refine AO.c (Calm.pickT rfl (bD hc10) rfl) ?_
    refine AO.c (Calm.move rfl rfl) ?_
    rcases of_ite hq9 with ⟨hc11, hq9⟩ | ⟨hc11, hq9⟩
    ·refine AO.cG rfl rfl (bD (decide_eq_true hc11)) (Calm.load 0 rfl rfl rfl (At.cast At.here rfl) ag30 sz30) ?_
     obtain ⟨t12, et12, hq9⟩ := of_bind hq9
     refine AO.callG 5 true 27 [(e30 (S30.mk (vset (vset (vset (Vector.replicate 256 (0 : Int)) (97 : Int) (1 : Int)) (98 : Int) (2 : Int)) (99 : Int) (3 : Int)) ([[(-1 : Int), (1 : Int), (2 : Int), (-1 : Int)], [(-1 : Int), (-1 : Int), (-1 : Int), (-1 : Int)], [(-1 : Int), (-1 : Int), (-1 : Int), (1 : Int)]] : List (List Int)) ([(-1 : Int), (5 : Int), (-1 : Int)] : List Int))), (eI64 (2 : Int)), (eI64 (9 : Int))] (eI64 t12) 29 rfl (by decide) ok76 rfl rfl (bD (decide_eq_true hc11)) rfl rfl ⟨rfl, rfl, rfl, rfl, rfl, rfl, trivial⟩ (lang_Count_spec et12) ?_
     refine AO.cG (x := eBool (decide (t12 = (1 : Int)))) rfl rfl (bD (decide_eq_true hc11)) (Calm.int rfl rfl rfl rfl) ?_
     refine AO.c (Calm.pickT rfl (bD (decide_eq_true hc11)) rfl) ?_
     refine AO.c (Calm.move rfl rfl) ?_
     rcases of_ite hq9 with ⟨hc13, hq9⟩ | ⟨hc13, hq9⟩
     ·refine AO.cG rfl rfl (bD (decide_eq_true hc13)) (Calm.load 0 rfl rfl rfl (At.cast At.here rfl) ag30 sz30) ?_
      obtain ⟨t14, et14, hq9⟩ := of_bind hq9
      refine AO.callG 10 true 32 [(e30 (S30.mk (vset (vset (vset (Vector.replicate 256 (0 : Int)) (97 : Int) (1 : Int)) (98 : Int) (2 : Int)) (99 : Int) (3 : Int)) ([[(-1 : Int), (1 : Int), (2 : Int), (-1 : Int)], [(-1 : Int), (-1 : Int), (-1 : Int), (-1 : Int)], [(-1 : Int), (-1 : Int), (-1 : Int), (1 : Int)]] : List (List Int)) ([(-1 : Int), (5 : Int), (-1 : Int)] : List Int)))] (eBool t14) 34 rfl (by decide) ok77 rfl rfl (bD (decide_eq_true hc13)) rfl rfl ⟨rfl, rfl, trivial⟩ (lang_Finite_spec et14) ?_
      refine AO.c (Calm.pickT rfl (bD (decide_eq_true hc13)) rfl) ?_
      refine AO.c (Calm.move rfl rfl) ?_
      rcases of_ite hq9 with ⟨hc15, hq9⟩ | ⟨hc15, hq9⟩
      ·refine AO.c (Calm.pickT rfl (bD hc15) rfl) ?_
       refine AO.c (Calm.assign rfl rfl) ?_
       cases hq9
       refine AO.nilE ⟨rfl, rfl⟩ ?_ ?_
       · exact ⟨rfl, trivial⟩
       · exact (Sub.nil _)
      ·refine AO.c (Calm.pickF rfl (bD (eq_false_of_ne_true hc15)) rfl) ?_
       refine AO.c (Calm.assign rfl rfl) ?_
       cases hq9
       refine AO.nilE ⟨rfl, rfl⟩ ?_ ?_
       · exact ⟨rfl, trivial⟩
       · exact (Sub.nil _)
     ·refine AO.sT rfl rfl (bD (decide_eq_false hc13)) ?_
      refine AO.sT rfl rfl (bD (decide_eq_false hc13)) ?_
      refine AO.c (Calm.pickF rfl (bD (decide_eq_false hc13)) rfl) ?_
      refine AO.c (Calm.move rfl rfl) ?_
      refine AO.c (Calm.pickF rfl rfl rfl) ?_
      refine AO.c (Calm.assign rfl rfl) ?_
      cases hq9
      refine AO.nilE ⟨rfl, rfl⟩ ?_ ?_
      · exact ⟨rfl, trivial⟩
      · exact (Sub.nil _)
    ·refine AO.sT rfl rfl (bD (decide_eq_false hc11)) ?_
     refine AO.sT rfl rfl (bD (decide_eq_false hc11)) ?_
     refine AO.sT rfl rfl (bD (decide_eq_false hc11)) ?_
     refine AO.c (Calm.pickF rfl (bD (decide_eq_false hc11)) rfl) ?_
     refine AO.c (Calm.move rfl rfl) ?_
     refine AO.sT rfl rfl rfl ?_
     refine AO.sT rfl rfl rfl ?_
     refine AO.c (Calm.pickF rfl rfl rfl) ?_
     refine AO.c (Calm.move rfl rfl) ?_
     refine AO.c (Calm.pickF rfl rfl rfl) ?_
     refine AO.c (Calm.assign rfl rfl) ?_
     cases hq9
     refine AO.nilE ⟨rfl, rfl⟩ ?_ ?_
     · exact ⟨rfl, trivial⟩
     · exact (Sub.nil _)
   ·refine AO.sT rfl rfl (bD (eq_false_of_ne_true hc10)) ?_
    refine AO.sT rfl rfl (bD (eq_false_of_ne_true hc10)) ?_
    refine AO.c (Calm.pickF rfl (bD (eq_false_of_ne_true hc10)) rfl) ?_
    refine AO.c (Calm.move rfl rfl) ?_
    refine AO.sT rfl rfl rfl ?_
    refine AO.sT rfl rfl rfl ?_
    refine AO.sT rfl rfl rfl ?_
    refine AO.c (Calm.pickF rfl rfl rfl) ?_
    refine AO.c (Calm.move rfl rfl) ?_
    refine AO.sT rfl rfl rfl ?_
    refine AO.sT rfl rfl rfl ?_
    refine AO.c (Calm.pickF rfl rfl rfl) ?_
    refine AO.c (Calm.move rfl rfl) ?_
    refine AO.c (Calm.pickF rfl rfl rfl) ?_
    refine AO.c (Calm.assign rfl rfl) ?_
    cases hq9
    refine AO.nilE ⟨rfl, rfl⟩ ?_ ?_
    · exact ⟨rfl, trivial⟩
    · exact (Sub.nil _)
  ·refine AW.rK [0] ?_
   have hr := Option.some.inj h
   subst hr
   exact ⟨[(eBool b8)], ⟨rfl, rfl, trivial⟩, rfl⟩
end Go.Avl.T5
/- bosket/bosketlaw08.Small; printed by avmain.py. -/
namespace Go.Avl.T5
open Go Go.RowKit Go.Proofs Go.Avl
set_option linter.unusedVariables false
set_option maxRecDepth 100000
set_option maxHeartbeats 4000000
attribute [local irreducible] AW AO AQ Spec SpecH Calm

def bosketlaw08_Small_c0 (k : Nat) : Option Bool :=
  some (true)
def bosketlaw08_Small_l1 (k : Nat) (p0 : S30) : Nat → Int → Option Bool
  | 0, _ => none
  | j + 1, x7 =>
    if x7 < (p0.f1.length : Int) then if 0 ≤ x7 ∧ x7 < (p0.f1.length : Int) then if (256 : Int) < ((lget p0.f1 x7).length : Int) then some (false)
    else (bosketlaw08_Small_l1 k p0 j) (w64 (x7 + (1 : Int)))
    else none
    else bosketlaw08_Small_c0 k
def bosketlaw08_Small (k : Nat) (p0 : S30) : Option Bool :=
  Option.bind (α := Bool) (if (20 : Int) < (p0.f1.length : Int) then some (true)
  else some (decide ((30 : Int) < (p0.f2.length : Int)))) fun b3 =>
  if b3 = true then some (false)
  else bosketlaw08_Small_l1 k p0 k (0 : Int)
theorem bosketlaw08_Small_spec {k : Nat} {p0 : S30} {r : Bool} (h : bosketlaw08_Small k p0 = some r) : Spec Try.prog 24 [(e30 p0)] (eBool r) := by
  rw [bosketlaw08_Small.eq_1] at h
  refine Spec.intro (res := [.tmp 2]) Try.func24 rfl rfl rfl (Nat.le_of_ble_eq_true rfl) ?_
  refine AW.sr ?_
  refine AO.box rfl 1 rfl (by decide) rfl rfl rfl fun n2 => ?_
  refine AO.c (Calm.assign rfl rfl) ?_
  refine AO.nK [1] ?_
  refine AW.seq ?_
  refine AW.seq ?_
  obtain ⟨b3, hq4, h⟩ := of_bind h
  refine AW.regM [(1, (.ptr n2 0)), (13, (eBool b3))] [(n2, (.mem (e30 p0)))] ?_ ?_
  ·refine AO.c (x := .ptr n2 256) (Calm.fldPtr rfl rfl Try.underlying30 rfl sz28 _ rfl) ?_
   refine AO.c (Calm.load 0 rfl rfl rfl (At.cast (At.fldS (At.fld0 At.here)) rfl) ag28 sz28) ?_
   refine AO.c (Calm.lenL rfl rfl Try.underlying28) ?_
   refine AO.c (x := eBool (decide ((20 : Int) < (p0.f1.length : Int)))) (Calm.int rfl rfl rfl rfl) ?_
   refine AO.c (Calm.move rfl rfl) ?_
   rcases of_ite hq4 with ⟨hc5, hq4⟩ | ⟨hc5, hq4⟩
   ·refine AO.sF rfl rfl (bD (decide_eq_true hc5)) ?_
    refine AO.sF rfl rfl (bD (decide_eq_true hc5)) ?_
    refine AO.sF rfl rfl (bD (decide_eq_true hc5)) ?_
    refine AO.sF rfl rfl (bD (decide_eq_true hc5)) ?_
    refine AO.c (Calm.pickT rfl (bD (decide_eq_true hc5)) rfl) ?_
    cases hq4
    refine AO.nilE ⟨rfl, rfl⟩ ?_ ?_
    · exact ⟨rfl, rfl, trivial⟩
    · exact (Sub.refl _)
   ·refine AO.cG (x := .ptr n2 257) rfl rfl (bD (decide_eq_false hc5)) (Calm.fldPtr rfl rfl Try.underlying30 rfl sz25 _ rfl) ?_
    refine AO.cG rfl rfl (bD (decide_eq_false hc5)) (Calm.load 0 rfl rfl rfl (At.cast (At.fldS (At.fldS (At.fld0 At.here))) rfl) ag25 sz25) ?_
    refine AO.cG rfl rfl (bD (decide_eq_false hc5)) (Calm.lenL rfl rfl Try.underlying25) ?_
    refine AO.cG (x := eBool (decide ((30 : Int) < (p0.f2.length : Int)))) rfl rfl (bD (decide_eq_false hc5)) (Calm.int rfl rfl rfl rfl) ?_
    refine AO.c (Calm.pickF rfl (bD (decide_eq_false hc5)) rfl) ?_
    cases hq4
    refine AO.nilE ⟨rfl, rfl⟩ ?_ ?_
    · exact ⟨rfl, rfl, trivial⟩
    · exact (Sub.refl _)
  ·rcases of_ite h with ⟨hc6, h⟩ | ⟨hc6, h⟩
   ·refine AW.condT' _ rfl hc6 ?_
    refine AW.sr ?_
    refine AO.c (Calm.assign rfl rfl) ?_
    refine AO.nH [2] (H' := []) (Sub.nil _) ?_
    refine AW.rK [2] ?_
    have hr := Option.some.inj h
    subst hr
    exact ⟨[(eBool false)], ⟨rfl, rfl, trivial⟩, rfl⟩
   ·refine AW.condF' _ rfl hc6 ?_
    refine AW.sK [1] ?_
    refine AW.seq_mid (fun ρ H => ρ = [] ∧ H = [] ∧ bosketlaw08_Small_c0 k = some r) ?_ ?_
    ·refine AW.sr ?_
     refine AO.c (Calm.assign rfl rfl) ?_
     refine AO.nK [1, 3] ?_
     refine AW.block ?_
     refine AW.wK [1, 3] ?_
     refine AW.loop (fun kq ρ H => ∃ (x7 : Int), ρ = [(1, (.ptr n2 0)), (3, (eI64 x7))] ∧ H = [(n2, (.mem (e30 p0)))] ∧ bosketlaw08_Small_l1 k p0 kq x7 = some r) k ⟨(0 : Int), rfl, rfl, h⟩ ?_
     rintro kq9 _ _ ⟨x7, rfl, rfl, h⟩
     cases kq9 with
     | zero => rw [bosketlaw08_Small_l1.eq_1] at h; cases h
     | succ kq9 =>
     rw [bosketlaw08_Small_l1.eq_2] at h
     generalize hrec8 : bosketlaw08_Small_l1 k p0 kq9 = rec8 at h
     refine AW.seq ?_
     refine AW.sr ?_
     refine AO.c (Calm.move rfl rfl) ?_
     refine AO.c (x := .ptr n2 256) (Calm.fldPtr rfl rfl Try.underlying30 rfl sz28 _ rfl) ?_
     refine AO.c (Calm.load 0 rfl rfl rfl (At.cast (At.fldS (At.fld0 At.here)) rfl) ag28 sz28) ?_
     refine AO.c (Calm.lenL rfl rfl Try.underlying28) ?_
     refine AO.c (x := eBool (decide (x7 < (p0.f1.length : Int)))) (Calm.int rfl rfl rfl rfl) ?_
     refine AO.nK [1, 3, 18] ?_
     rcases of_ite h with ⟨hc10, h⟩ | ⟨hc10, h⟩
     ·refine AW.condP _ rfl hc10 ?_
      refine AW.sK [1, 3] ?_
      refine AW.seq ?_
      refine AW.block ?_
      refine AW.sr ?_
      refine AO.c (x := .ptr n2 256) (Calm.fldPtr rfl rfl Try.underlying30 rfl sz28 _ rfl) ?_
      refine AO.c (Calm.load 0 rfl rfl rfl (At.cast (At.fldS (At.fld0 At.here)) rfl) ag28 sz28) ?_
      refine AO.c (Calm.move rfl rfl) ?_
      obtain ⟨hg11, h⟩ := of_guard h
      refine AO.c (Calm.idxL (f := e25) rfl rfl rfl hg11 Try.underlying28 sz25) ?_
      refine AO.c (Calm.loadRp rfl rfl ag25 sz25) ?_
      refine AO.c (Calm.lenL rfl rfl Try.underlying25) ?_
      refine AO.c (x := eBool (decide ((256 : Int) < ((lget p0.f1 x7).length : Int)))) (Calm.int rfl rfl rfl rfl) ?_
      refine AO.nK [1, 3, 27] ?_
      rcases of_ite h with ⟨hc12, h⟩ | ⟨hc12, h⟩
      ·refine AW.condP _ rfl hc12 ?_
       refine AW.sr ?_
       refine AO.c (Calm.assign rfl rfl) ?_
       refine AO.nH [2] (H' := []) (Sub.nil _) ?_
       refine AW.rK [2] ?_
       have hr := Option.some.inj h
       subst hr
       exact ⟨[(eBool false)], ⟨rfl, rfl, trivial⟩, rfl⟩
      ·refine AW.condN _ rfl hc12 ?_
       refine AW.sK [1, 3] ?_
       refine AW.reg ?_
       refine AO.c (Calm.move rfl rfl) ?_
       refine AO.c (x := eI64 (w64 (x7 + (1 : Int)))) (Calm.int rfl rfl rfl rfl) ?_
       refine AO.c (Calm.assign rfl rfl) ?_
       refine AO.nK [1, 3] ?_
       exact ⟨kq9, Nat.lt_succ_self _, (w64 (x7 + (1 : Int))), rfl, rfl, by rw [hrec8]; exact h⟩
     ·refine AW.condN _ rfl hc10 ?_
      refine AW.eH [] (H' := []) (Sub.nil _) ?_
      exact ⟨rfl, rfl, h⟩
    ·rintro _ _ ⟨rfl, rfl, h⟩
     rw [bosketlaw08_Small_c0.eq_1] at h
     refine AW.sr ?_
     refine AO.c (Calm.assign rfl rfl) ?_
     refine AO.nK [2] ?_
     refine AW.rK [2] ?_
     have hr := Option.some.inj h
     subst hr
     exact ⟨[(eBool true)], ⟨rfl, rfl, trivial⟩, rfl⟩
end Go.Avl.T5
/- bosket/bosketref08.classes; printed by avmain.py. -/
namespace Go.Avl.T5
open Go Go.RowKit Go.Proofs Go.Avl
set_option linter.unusedVariables false
set_option maxRecDepth 100000
set_option maxHeartbeats 4000000
attribute [local irreducible] AW AO AQ Spec SpecH Calm

def bosketref08_classes_c0 (k : Nat) (x3 : Int) : Option Int :=
  some (x3)
def bosketref08_classes_l1 (k : Nat) (p0 : S30) : Nat → Int → Int → Option Int
  | 0, _, _ => none
  | j + 1, x4, x5 =>
    if x5 < (256 : Int) then if 0 ≤ x5 ∧ x5 < (256 : Int) then (bosketref08_classes_l1 k p0 j) (max x4 (w64 ((w64 (vget p0.f0 x5)) + (1 : Int)))) (w64 (x5 + (1 : Int)))
    else none
    else bosketref08_classes_c0 k x4
def bosketref08_classes (k : Nat) (p0 : S30) : Option Int :=
  bosketref08_classes_l1 k p0 k (0 : Int) (0 : Int)
theorem bosketref08_classes_spec {k : Nat} {p0 : S30} {r : Int} (h : bosketref08_classes k p0 = some r) : Spec Try.prog 60 [(e30 p0)] (eI64 r) := by
  rw [bosketref08_classes.eq_1] at h
  refine Spec.intro (res := [.tmp 2]) Try.func60 rfl rfl rfl (Nat.le_of_ble_eq_true rfl) ?_
  refine AW.sr ?_
  refine AO.box rfl 1 rfl (by decide) rfl rfl rfl fun n2 => ?_
  refine AO.c (Calm.assign rfl rfl) ?_
  refine AO.nK [1] ?_
  refine AW.sr ?_
  refine AO.c (Calm.assign rfl rfl) ?_
  refine AO.nK [1, 3] ?_
  refine AW.seq_mid (fun ρ H => ∃ (x3 : Int), ρ = [(3, (eI64 x3))] ∧ H = [] ∧ bosketref08_classes_c0 k x3 = some r) ?_ ?_
  ·refine AW.sr ?_
   refine AO.c (Calm.assign rfl rfl) ?_
   refine AO.nK [1, 3, 4] ?_
   refine AW.block ?_
   refine AW.wK [1, 3, 4] ?_
   refine AW.loop (fun kq ρ H => ∃ (x4 : Int) (x5 : Int), ρ = [(1, (.ptr n2 0)), (3, (eI64 x4)), (4, (eI64 x5))] ∧ H = [(n2, (.mem (e30 p0)))] ∧ bosketref08_classes_l1 k p0 kq x4 x5 = some r) k ⟨(0 : Int), (0 : Int), rfl, rfl, h⟩ ?_
   rintro kq7 _ _ ⟨x4, x5, rfl, rfl, h⟩
   cases kq7 with
   | zero => rw [bosketref08_classes_l1.eq_1] at h; cases h
   | succ kq7 =>
   rw [bosketref08_classes_l1.eq_2] at h
   generalize hrec6 : bosketref08_classes_l1 k p0 kq7 = rec6 at h
   refine AW.seq ?_
   refine AW.sr ?_
   refine AO.c (Calm.move rfl rfl) ?_
   refine AO.c (x := eBool (decide (x5 < (256 : Int)))) (Calm.int rfl rfl rfl rfl) ?_
   refine AO.nK [1, 3, 4, 6] ?_
   rcases of_ite h with ⟨hc8, h⟩ | ⟨hc8, h⟩
   ·refine AW.condP _ rfl hc8 ?_
    refine AW.sK [1, 3, 4] ?_
    refine AW.seq ?_
    refine AW.block ?_
    refine AW.reg ?_
    refine AO.c (Calm.move rfl rfl) ?_
    refine AO.c (Calm.move rfl rfl) ?_
    refine AO.c (x := .ptr n2 0) (Calm.fldPtr rfl rfl Try.underlying30 rfl sz27 _ rfl) ?_
    obtain ⟨hg9, h⟩ := of_guard h
    refine AO.c (Calm.idxP rfl rfl rfl hg9 Try.underlying27 sz5) ?_
    refine AO.c (Calm.load 0 rfl rfl rfl (At.cast (At.fld0 (At.vidx x5 hg9.1 hg9.2 At.here)) (by omega)) ag5 sz5) ?_
    refine AO.c (x := eI64 (w64 (vget p0.f0 x5))) (Calm.conv rfl rfl Try.underlying5 Try.underlying3) ?_
    refine AO.c (x := eI64 (w64 ((w64 (vget p0.f0 x5)) + (1 : Int)))) (Calm.int rfl rfl rfl rfl) ?_
    refine AO.c (x := eI64 (max x4 (w64 ((w64 (vget p0.f0 x5)) + (1 : Int))))) (Calm.max2 rfl rfl rfl) ?_
    refine AO.c (Calm.assign rfl rfl) ?_
    refine AO.nK [1, 3, 4] ?_
    refine AW.reg ?_
    refine AO.c (Calm.move rfl rfl) ?_
    refine AO.c (x := eI64 (w64 (x5 + (1 : Int)))) (Calm.int rfl rfl rfl rfl) ?_
    refine AO.c (Calm.assign rfl rfl) ?_
    refine AO.nK [1, 3, 4] ?_
    exact ⟨kq7, Nat.lt_succ_self _, (max x4 (w64 ((w64 (vget p0.f0 x5)) + (1 : Int)))), (w64 (x5 + (1 : Int))), rfl, rfl, by rw [hrec6]; exact h⟩
   ·refine AW.condN _ rfl hc8 ?_
    refine AW.eH [3] (H' := []) (Sub.nil _) ?_
    exact ⟨x4, rfl, rfl, h⟩
  ·rintro _ _ ⟨x3, rfl, rfl, h⟩
   rw [bosketref08_classes_c0.eq_1] at h
   refine AW.sr ?_
   refine AO.c (Calm.move rfl rfl) ?_
   refine AO.c (Calm.assign rfl rfl) ?_
   refine AO.nK [2] ?_
   refine AW.rK [2] ?_
   have hr := Option.some.inj h
   subst hr
   exact ⟨[(eI64 x3)], ⟨rfl, rfl, trivial⟩, rfl⟩
end Go.Avl.T5
