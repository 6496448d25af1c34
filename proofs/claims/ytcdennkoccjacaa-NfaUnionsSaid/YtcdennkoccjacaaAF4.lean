/- Parts: T3f65. -/
import Derived.Test.YtcdennkoccjacaaAF1
import Derived.Test.YtcdennkoccjacaaAF3
/- (*bosket/nfa.maker).add; printed by avmain.py. -/
namespace Go.Avl.T3
open Go Go.RowKit Go.Proofs Go.Avl
set_option linter.unusedVariables false
set_option maxRecDepth 100000
set_option maxHeartbeats 4000000
set_option linter.unusedSimpArgs false
attribute [local irreducible] AW AO AQ Spec SpecH Calm

def nfa_maker_add_c0 (k : Nat) (p1 : S82) (p2 : (List S110)) (t5 : (S110 × S106)) (x9 : Int) (x11 : (List S35)) (x12 : Int) (x13 : Int) : Option ((List S110) × S106) :=
  (rex_Takes k p1.f0).bind fun t14 =>
  if 0 ≤ (w64 ((p2.length : Int) - t14)) ∧ (w64 ((p2.length : Int) - t14)) ≤ (p2.length : Int) then if (p2.take ((w64 ((p2.length : Int) - t14)).toNat) ++ ([t5.1] : List S110)).length * 16 ≤ 140737488355328 then some ((p2.take ((w64 ((p2.length : Int) - t14)).toNat) ++ ([t5.1] : List S110)), (S106.mk (S24.mk x9 x11 x12 x13)))
  else none
  else none
def nfa_maker_add_l1 (k : Nat) (p1 : S82) (p2 : (List S110)) (t5 : (S110 × S106)) : Nat → Int → (List S35) → Int → Int → Int → Option ((List S110) × S106)
  | 0, _, _, _, _, _ => none
  | j + 1, x43, x45, x46, x47, x48 =>
    if x48 < (((p2.length - (w64 ((p2.length : Int) - (2 : Int))).toNat) : Nat) : Int) then if 0 ≤ x48 ∧ x48 < (((p2.length - (w64 ((p2.length : Int) - (2 : Int))).toNat) : Nat) : Int) then (nfa_maker_free k (S106.mk (S24.mk x43 x45 x46 x47)) t5.1.f0 ((lget p2 ((w64 ((p2.length : Int) - (2 : Int))) + x48)).f0)).bind fun t55 =>
    (nfa_maker_free k (S106.mk (S24.mk t55.f0.f0 t55.f0.f1 t55.f0.f2 t55.f0.f3)) ((lget p2 ((w64 ((p2.length : Int) - (2 : Int))) + x48)).f1) t5.1.f1).bind fun t58 =>
    (nfa_maker_add_l1 k p1 p2 t5 j) t58.f0.f0 t58.f0.f1 t58.f0.f2 t58.f0.f3 (w64 (x48 + (1 : Int)))
    else none
    else nfa_maker_add_c0 k p1 p2 t5 x43 x45 x46 x47
def nfa_maker_add_c2 (k : Nat) (p1 : S82) (p2 : (List S110)) (t5 : (S110 × S106)) (x69 : Int) (x71 : (List S35)) (x72 : Int) (x73 : Int) : Option ((List S110) × S106) :=
  if p1.f0 ≠ (5 : Int) then (nfa_maker_free k (S106.mk (S24.mk x69 x71 x72 x73)) t5.1.f0 t5.1.f1).bind fun t75 =>
  nfa_maker_add_c0 k p1 p2 t5 t75.f0.f0 t75.f0.f1 t75.f0.f2 t75.f0.f3
  else nfa_maker_add_c0 k p1 p2 t5 x69 x71 x72 x73
def nfa_maker_add (k : Nat) (p0 : S106) (p1 : S82) (p2 : (List S110)) : Option ((List S110) × S106) :=
  (nfa_maker_fresh k (S106.mk (S24.mk p0.f0.f0 p0.f0.f1 p0.f0.f2 p0.f0.f3))).bind fun t5 =>
  if p1.f0 = (0 : Int) then (nfa_maker_free k (S106.mk (S24.mk t5.2.f0.f0 t5.2.f0.f1 t5.2.f0.f2 t5.2.f0.f3)) t5.1.f0 t5.1.f1).bind fun t20 =>
  nfa_maker_add_c0 k p1 p2 t5 t20.f0.f0 t20.f0.f1 t20.f0.f2 t20.f0.f3
  else if p1.f0 = (1 : Int) then if (t5.2.f0.f1 ++ ([(S35.mk t5.1.f0 t5.1.f1 p1.f1 false)] : List S35)).length * 56 ≤ 140737488355328 then nfa_maker_add_c0 k p1 p2 t5 t5.2.f0.f0 (t5.2.f0.f1 ++ ([(S35.mk t5.1.f0 t5.1.f1 p1.f1 false)] : List S35)) t5.2.f0.f2 t5.2.f0.f3
  else none
  else if p1.f0 = (2 : Int) then if 0 ≤ (w64 ((p2.length : Int) - (2 : Int))) ∧ (w64 ((p2.length : Int) - (2 : Int))) < (p2.length : Int) then if 0 ≤ (w64 ((p2.length : Int) - (1 : Int))) ∧ (w64 ((p2.length : Int) - (1 : Int))) < (p2.length : Int) then (nfa_maker_free k (S106.mk (S24.mk t5.2.f0.f0 t5.2.f0.f1 t5.2.f0.f2 t5.2.f0.f3)) t5.1.f0 ((lget p2 (w64 ((p2.length : Int) - (2 : Int)))).f0)).bind fun t32 =>
  (nfa_maker_free k (S106.mk (S24.mk t32.f0.f0 t32.f0.f1 t32.f0.f2 t32.f0.f3)) ((lget p2 (w64 ((p2.length : Int) - (2 : Int)))).f1) ((lget p2 (w64 ((p2.length : Int) - (1 : Int)))).f0)).bind fun t35 =>
  (nfa_maker_free k (S106.mk (S24.mk t35.f0.f0 t35.f0.f1 t35.f0.f2 t35.f0.f3)) ((lget p2 (w64 ((p2.length : Int) - (1 : Int)))).f1) t5.1.f1).bind fun t38 =>
  nfa_maker_add_c0 k p1 p2 t5 t38.f0.f0 t38.f0.f1 t38.f0.f2 t38.f0.f3
  else none
  else none
  else if p1.f0 = (3 : Int) then if 0 ≤ (w64 ((p2.length : Int) - (2 : Int))) ∧ (w64 ((p2.length : Int) - (2 : Int))) ≤ (p2.length : Int) then nfa_maker_add_l1 k p1 p2 t5 k t5.2.f0.f0 t5.2.f0.f1 t5.2.f0.f2 t5.2.f0.f3 (0 : Int)
  else none
  else if 0 ≤ (w64 ((p2.length : Int) - (1 : Int))) ∧ (w64 ((p2.length : Int) - (1 : Int))) < (p2.length : Int) then (nfa_maker_free k (S106.mk (S24.mk t5.2.f0.f0 t5.2.f0.f1 t5.2.f0.f2 t5.2.f0.f3)) t5.1.f0 ((lget p2 (w64 ((p2.length : Int) - (1 : Int)))).f0)).bind fun t63 =>
  (nfa_maker_free k (S106.mk (S24.mk t63.f0.f0 t63.f0.f1 t63.f0.f2 t63.f0.f3)) ((lget p2 (w64 ((p2.length : Int) - (1 : Int)))).f1) t5.1.f1).bind fun t66 =>
  if p1.f0 ≠ (6 : Int) then (nfa_maker_free k (S106.mk (S24.mk t66.f0.f0 t66.f0.f1 t66.f0.f2 t66.f0.f3)) ((lget p2 (w64 ((p2.length : Int) - (1 : Int)))).f1) ((lget p2 (w64 ((p2.length : Int) - (1 : Int)))).f0)).bind fun t79 =>
  nfa_maker_add_c2 k p1 p2 t5 t79.f0.f0 t79.f0.f1 t79.f0.f2 t79.f0.f3
  else nfa_maker_add_c2 k p1 p2 t5 t66.f0.f0 t66.f0.f1 t66.f0.f2 t66.f0.f3
  else none
theorem nfa_maker_add_spec {k : Nat} {p0 : S106} {p1 : S82} {p2 : (List S110)} {r : ((List S110) × S106)} (h : nfa_maker_add k p0 p1 p2 = some r) {q0 : Nat} {q0_0 : Nat} {q2 : Nat} {T0 : Heap} : SpecH Try.prog 65 [(.ptr q0 0), (e82 p1), (.own q2 0 p2.length)] ((q0, (.mem (.st [(4, (.st [(1, (eI64 p0.f0.f0)), (1, (.own q0_0 0 p0.f0.f1.length)), (1, (eI64 p0.f0.f2)), (1, (eI64 p0.f0.f3))]))]))) :: (q0_0, (.mem (.ar 7 (p0.f0.f1.map e35)))) :: (q2, .mem (.ar 2 (p2.map e110))) :: T0) (fun x H' => ∃ m m0_0, x = .own m 0 r.1.length ∧ Sub ((m, .mem (.ar 2 (r.1.map e110))) :: (q0, (.mem (.st [(4, (.st [(1, (eI64 r.2.f0.f0)), (1, (.own m0_0 0 r.2.f0.f1.length)), (1, (eI64 r.2.f0.f2)), (1, (eI64 r.2.f0.f3))]))]))) :: (m0_0, (.mem (.ar 7 (r.2.f0.f1.map e35)))) :: T0) H') := by
  rw [nfa_maker_add.eq_1] at h
  refine SpecH.intro (res := [.tmp 6]) Try.func65 rfl rfl rfl (Nat.le_of_ble_eq_true rfl) ?_
  refine AW.seq ?_
  refine AW.reg ?_
  refine AO.box rfl 4 rfl (by decide) rfl rfl rfl fun n4 => ?_
  refine AO.calm rfl 6 rfl (by decide) (.fl (.slice none 0 0)) (Calm.assign rfl rfl) ?_
  refine AO.nil (ρ' := [(0, (.ptr q0 0)), (2, (.own q2 0 p2.length)), (4, (.ptr n4 0))]) (H' := ((q0, (.mem (.st [(4, (.st [(1, (eI64 p0.f0.f0)), (1, (.own q0_0 0 p0.f0.f1.length)), (1, (eI64 p0.f0.f2)), (1, (eI64 p0.f0.f3))]))]))) :: (q0_0, (.mem (.ar 7 (p0.f0.f1.map e35)))) :: (q2, (.mem (.ar 2 (p2.map e110)))) :: (n4, (.mem (e82 p1))) :: T0)) ⟨rfl, rfl, rfl, trivial⟩ (Sub.cons 1 rfl (Sub.cons 1 rfl (Sub.cons 1 rfl (Sub.cons 0 rfl (Sub.refl _))))) ?_
  refine AW.seq ?_
  refine AW.reg ?_
  refine AO.calm rfl 14 rfl (by decide) (.own q2 0 p2.length) (Calm.move rfl rfl) ?_
  refine AO.calm rfl 15 rfl (by decide) (eI64 (p2.length : Int)) (Calm.lenOwn rfl rfl Try.underlying107) ?_
  refine AO.calm rfl 7 rfl (by decide) (eI64 (p2.length : Int)) (Calm.assign rfl rfl) ?_
  refine AO.nil (ρ' := [(0, (.ptr q0 0)), (2, (.own q2 0 p2.length)), (4, (.ptr n4 0)), (7, (eI64 (p2.length : Int)))]) (H' := ((q0, (.mem (.st [(4, (.st [(1, (eI64 p0.f0.f0)), (1, (.own q0_0 0 p0.f0.f1.length)), (1, (eI64 p0.f0.f2)), (1, (eI64 p0.f0.f3))]))]))) :: (q0_0, (.mem (.ar 7 (p0.f0.f1.map e35)))) :: (q2, (.mem (.ar 2 (p2.map e110)))) :: (n4, (.mem (e82 p1))) :: T0)) ⟨rfl, rfl, rfl, rfl, trivial⟩ (Sub.refl _) ?_
  refine AW.seq ?_
  refine AW.reg ?_
  refine AO.calm rfl 16 rfl (by decide) (.ptr q0 0) (Calm.move rfl rfl) ?_
  obtain ⟨t5, et5, h⟩ := of_bind h
  refine AO.callH [(.ptr q0 0)] ((q0, (.mem (.st [(4, (.st [(1, (eI64 p0.f0.f0)), (1, (.own q0_0 0 p0.f0.f1.length)), (1, (eI64 p0.f0.f2)), (1, (eI64 p0.f0.f3))]))]))) :: (q0_0, (.mem (.ar 7 (p0.f0.f1.map e35)))) :: (q2, (.mem (.ar 2 (p2.map e110)))) :: (n4, (.mem (e82 p1))) :: T0) _ rfl rfl rfl 17 rfl (by decide) ok77 ⟨rfl, rfl, trivial⟩ (Sub.cons 0 rfl (Sub.cons 0 rfl (Sub.refl _))) (nfa_maker_fresh_spec et5) ?_
  rintro _ _ ⟨n7, rfl, hs6⟩
  refine AO.weak (ρ' := [(0, (.ptr q0 0)), (2, (.own q2 0 p2.length)), (4, (.ptr n4 0)), (7, (eI64 (p2.length : Int))), (16, (.ptr q0 0)), (17, (e110 t5.1))]) (H' := ((q0, (.mem (.st [(4, (.st [(1, (eI64 t5.2.f0.f0)), (1, (.own n7 0 t5.2.f0.f1.length)), (1, (eI64 t5.2.f0.f2)), (1, (eI64 t5.2.f0.f3))]))]))) :: (n7, (.mem (.ar 7 (t5.2.f0.f1.map e35)))) :: (q2, (.mem (.ar 2 (p2.map e110)))) :: (n4, (.mem (e82 p1))) :: T0)) ⟨rfl, rfl, rfl, rfl, rfl, rfl, trivial⟩ hs6 ?_
  refine AO.alloc rfl 8 rfl (by decide) rfl zr110 lay110 fun n8 => ?_
  refine AO.store (X' := (e110 t5.1)) 0 rfl rfl rfl rfl rfl rfl (Put.cast Put.here rfl) rfl rfl sz110 rfl ?_
  refine AO.nil (ρ' := [(0, (.ptr q0 0)), (2, (.own q2 0 p2.length)), (4, (.ptr n4 0)), (7, (eI64 (p2.length : Int))), (8, (.ptr n8 0))]) (H' := ((q0, (.mem (.st [(4, (.st [(1, (eI64 t5.2.f0.f0)), (1, (.own n7 0 t5.2.f0.f1.length)), (1, (eI64 t5.2.f0.f2)), (1, (eI64 t5.2.f0.f3))]))]))) :: (n7, (.mem (.ar 7 (t5.2.f0.f1.map e35)))) :: (q2, (.mem (.ar 2 (p2.map e110)))) :: (n4, (.mem (e82 p1))) :: (n8, (.mem (e110 t5.1))) :: T0)) ⟨rfl, rfl, rfl, rfl, rfl, trivial⟩ (Sub.cons 1 rfl (Sub.cons 1 rfl (Sub.cons 1 rfl (Sub.cons 1 rfl (Sub.cons 0 rfl (Sub.refl _)))))) ?_
  refine AW.seq_mid (fun ρ H => ∃ (n10 : Nat) (x9 : Int) (x11 : (List S35)) (x12 : Int) (x13 : Int), ρ = [(2, (.own q2 0 p2.length)), (4, (.ptr n4 0)), (7, (eI64 (p2.length : Int))), (8, (.ptr n8 0))] ∧ H = ((q0, (.mem (.st [(4, (.st [(1, (eI64 x9)), (1, (.own n10 0 x11.length)), (1, (eI64 x12)), (1, (eI64 x13))]))]))) :: (n10, (.mem (.ar 7 (x11.map e35)))) :: (q2, (.mem (.ar 2 (p2.map e110)))) :: (n4, (.mem (e82 p1))) :: (n8, (.mem (e110 t5.1))) :: T0) ∧ nfa_maker_add_c0 k p1 p2 t5 x9 x11 x12 x13 = some r) ?_ ?_
  · refine AW.seq ?_
    refine AW.reg ?_
    refine AO.calm rfl 18 rfl (by decide) (.ptr n4 0) (Calm.fldPtr rfl rfl Try.underlying82 rfl sz3 _ rfl) ?_
    refine AO.calm rfl 19 rfl (by decide) (eI64 p1.f0) (Calm.load 3 rfl rfl rfl (At.cast (At.fld0 At.here) rfl) ag3 sz3) ?_
    refine AO.nil (ρ' := [(0, (.ptr q0 0)), (2, (.own q2 0 p2.length)), (4, (.ptr n4 0)), (7, (eI64 (p2.length : Int))), (8, (.ptr n8 0)), (19, (eI64 p1.f0))]) (H' := ((q0, (.mem (.st [(4, (.st [(1, (eI64 t5.2.f0.f0)), (1, (.own n7 0 t5.2.f0.f1.length)), (1, (eI64 t5.2.f0.f2)), (1, (eI64 t5.2.f0.f3))]))]))) :: (n7, (.mem (.ar 7 (t5.2.f0.f1.map e35)))) :: (q2, (.mem (.ar 2 (p2.map e110)))) :: (n4, (.mem (e82 p1))) :: (n8, (.mem (e110 t5.1))) :: T0)) ⟨rfl, rfl, rfl, rfl, rfl, rfl, trivial⟩ (Sub.refl _) ?_
    refine AW.block ?_
    refine AW.seq ?_
    refine AW.reg ?_
    refine AO.calm rfl 56 rfl (by decide) (eBool (decide (p1.f0 = (0 : Int)))) (Calm.int rfl rfl rfl rfl) ?_
    refine AO.calm rfl 55 rfl (by decide) (eBool (decide (p1.f0 = (0 : Int)))) (Calm.assign rfl rfl) ?_
    refine AO.nil (ρ' := [(0, (.ptr q0 0)), (2, (.own q2 0 p2.length)), (4, (.ptr n4 0)), (7, (eI64 (p2.length : Int))), (8, (.ptr n8 0)), (19, (eI64 p1.f0)), (55, (eBool (decide (p1.f0 = (0 : Int)))))]) (H' := ((q0, (.mem (.st [(4, (.st [(1, (eI64 t5.2.f0.f0)), (1, (.own n7 0 t5.2.f0.f1.length)), (1, (eI64 t5.2.f0.f2)), (1, (eI64 t5.2.f0.f3))]))]))) :: (n7, (.mem (.ar 7 (t5.2.f0.f1.map e35)))) :: (q2, (.mem (.ar 2 (p2.map e110)))) :: (n4, (.mem (e82 p1))) :: (n8, (.mem (e110 t5.1))) :: T0)) ⟨rfl, rfl, rfl, rfl, rfl, rfl, rfl, trivial⟩ (Sub.refl _) ?_
    by_cases hc19 : p1.f0 = (0 : Int)
    · have h := (if_pos hc19).symm.trans h
      refine AW.condP (p1.f0 = (0 : Int)) rfl hc19 ?_
      refine AW.reg ?_
      refine AO.calm rfl 57 rfl (by decide) (.ptr q0 0) (Calm.move rfl rfl) ?_
      refine AO.calm rfl 58 rfl (by decide) (.ptr n8 0) (Calm.fldPtr rfl rfl Try.underlying110 rfl sz3 _ rfl) ?_
      refine AO.calm rfl 59 rfl (by decide) (eI64 t5.1.f0) (Calm.load 4 rfl rfl rfl (At.cast (At.fld0 At.here) rfl) ag3 sz3) ?_
      refine AO.calm rfl 60 rfl (by decide) (.ptr n8 1) (Calm.fldPtr rfl rfl Try.underlying110 rfl sz3 _ rfl) ?_
      refine AO.calm rfl 61 rfl (by decide) (eI64 t5.1.f1) (Calm.load 4 rfl rfl rfl (At.cast (At.fldS (At.fld0 At.here)) rfl) ag3 sz3) ?_
      obtain ⟨t20, et20, h⟩ := of_bind h
      refine AO.callH [(.ptr q0 0), (eI64 t5.1.f0), (eI64 t5.1.f1)] ((q0, (.mem (.st [(4, (.st [(1, (eI64 t5.2.f0.f0)), (1, (.own n7 0 t5.2.f0.f1.length)), (1, (eI64 t5.2.f0.f2)), (1, (eI64 t5.2.f0.f3))]))]))) :: (n7, (.mem (.ar 7 (t5.2.f0.f1.map e35)))) :: (q2, (.mem (.ar 2 (p2.map e110)))) :: (n4, (.mem (e82 p1))) :: (n8, (.mem (e110 t5.1))) :: T0) _ rfl rfl rfl 62 rfl (by decide) ok78 ⟨rfl, rfl, rfl, rfl, rfl, rfl, trivial⟩ (Sub.cons 0 rfl (Sub.cons 0 rfl (Sub.refl _))) (nfa_maker_free_spec et20) ?_
      rintro _ _ ⟨n22, rfl, hs21⟩
      refine AO.weak (ρ' := [(0, (.ptr q0 0)), (2, (.own q2 0 p2.length)), (4, (.ptr n4 0)), (7, (eI64 (p2.length : Int))), (8, (.ptr n8 0)), (19, (eI64 p1.f0)), (55, (eBool (decide (p1.f0 = (0 : Int))))), (57, (.ptr q0 0)), (58, (.ptr n8 0)), (59, (eI64 t5.1.f0)), (60, (.ptr n8 1)), (61, (eI64 t5.1.f1)), (62, (.tup []))]) (H' := ((q0, (.mem (.st [(4, (.st [(1, (eI64 t20.f0.f0)), (1, (.own n22 0 t20.f0.f1.length)), (1, (eI64 t20.f0.f2)), (1, (eI64 t20.f0.f3))]))]))) :: (n22, (.mem (.ar 7 (t20.f0.f1.map e35)))) :: (q2, (.mem (.ar 2 (p2.map e110)))) :: (n4, (.mem (e82 p1))) :: (n8, (.mem (e110 t5.1))) :: T0)) ⟨rfl, rfl, rfl, rfl, rfl, rfl, rfl, rfl, rfl, rfl, rfl, rfl, rfl, trivial⟩ hs21 ?_
      refine AO.nil (ρ' := [(2, (.own q2 0 p2.length)), (4, (.ptr n4 0)), (7, (eI64 (p2.length : Int))), (8, (.ptr n8 0))]) (H' := ((q0, (.mem (.st [(4, (.st [(1, (eI64 t20.f0.f0)), (1, (.own n22 0 t20.f0.f1.length)), (1, (eI64 t20.f0.f2)), (1, (eI64 t20.f0.f3))]))]))) :: (n22, (.mem (.ar 7 (t20.f0.f1.map e35)))) :: (q2, (.mem (.ar 2 (p2.map e110)))) :: (n4, (.mem (e82 p1))) :: (n8, (.mem (e110 t5.1))) :: T0)) ⟨rfl, rfl, rfl, rfl, trivial⟩ (Sub.refl _) ?_
      exact ⟨n22, t20.f0.f0, t20.f0.f1, t20.f0.f2, t20.f0.f3, rfl, rfl, h⟩
    · have h := (if_neg hc19).symm.trans h
      refine AW.condN (p1.f0 = (0 : Int)) rfl hc19 ?_
      refine AW.seq ?_
      refine AW.reg ?_
      refine AO.calm rfl 64 rfl (by decide) (eBool (decide (p1.f0 = (1 : Int)))) (Calm.int rfl rfl rfl rfl) ?_
      refine AO.calm rfl 63 rfl (by decide) (eBool (decide (p1.f0 = (1 : Int)))) (Calm.assign rfl rfl) ?_
      refine AO.nil (ρ' := [(0, (.ptr q0 0)), (2, (.own q2 0 p2.length)), (4, (.ptr n4 0)), (7, (eI64 (p2.length : Int))), (8, (.ptr n8 0)), (19, (eI64 p1.f0)), (63, (eBool (decide (p1.f0 = (1 : Int)))))]) (H' := ((q0, (.mem (.st [(4, (.st [(1, (eI64 t5.2.f0.f0)), (1, (.own n7 0 t5.2.f0.f1.length)), (1, (eI64 t5.2.f0.f2)), (1, (eI64 t5.2.f0.f3))]))]))) :: (n7, (.mem (.ar 7 (t5.2.f0.f1.map e35)))) :: (q2, (.mem (.ar 2 (p2.map e110)))) :: (n4, (.mem (e82 p1))) :: (n8, (.mem (e110 t5.1))) :: T0)) ⟨rfl, rfl, rfl, rfl, rfl, rfl, rfl, trivial⟩ (Sub.refl _) ?_
      by_cases hc23 : p1.f0 = (1 : Int)
      · have h := (if_pos hc23).symm.trans h
        refine AW.condP (p1.f0 = (1 : Int)) rfl hc23 ?_
        obtain ⟨hg26, h⟩ := of_guard h
        refine AW.regEff (by rfl) (by decide +kernel) (fun (σ : Nat → Nat) => ([(.ptr q0 0), (.ptr q0 0), (.ptr q0 0), (.ptr q0 0), (.ptr q0 1), (.own n7 0 t5.2.f0.f1.length), (.ptr n8 0), (eI64 t5.1.f0), (.ptr n8 1), (eI64 t5.1.f1), (.ptr n4 1), (.ar 1 (p1.f1.toList.map eU64)), (e35 (S35.mk t5.1.f0 t5.1.f1 p1.f1 false)), (.fz 7 (([(S35.mk t5.1.f0 t5.1.f1 p1.f1 false)] : List S35).map e35)), (.own (σ 14) 0 (t5.2.f0.f1 ++ ([(S35.mk t5.1.f0 t5.1.f1 p1.f1 false)] : List S35)).length), (.ptr q0 0), (.ptr q0 0), (.ptr q0 1), (.fl undef)] : List AV)) (fun (L : Nat → Bool) (σ : Nat → Nat) => ((q2, (.mem (.ar 2 (p2.map e110)))) :: (n4, (.mem (e82 p1))) :: (n8, (.mem (e110 t5.1))) :: (bif L 14 then (bif L 18 then ((q0, (.mem (.st [(4, (.st [(1, (eI64 t5.2.f0.f0)), (1, (.own (σ 14) 0 (t5.2.f0.f1 ++ ([(S35.mk t5.1.f0 t5.1.f1 p1.f1 false)] : List S35)).length)), (1, (eI64 t5.2.f0.f2)), (1, (eI64 t5.2.f0.f3))]))]))) :: ((σ 14), (.mem (.ar 7 ((t5.2.f0.f1 ++ ([(S35.mk t5.1.f0 t5.1.f1 p1.f1 false)] : List S35)).map e35)))) :: T0) else ((q0, (.mem (.st [(4, (.st [(1, (eI64 t5.2.f0.f0)), (1, (.own n7 0 t5.2.f0.f1.length)), (1, (eI64 t5.2.f0.f2)), (1, (eI64 t5.2.f0.f3))]))]))) :: ((σ 14), (.mem (.ar 7 ((t5.2.f0.f1 ++ ([(S35.mk t5.1.f0 t5.1.f1 p1.f1 false)] : List S35)).map e35)))) :: T0)) else ((q0, (.mem (.st [(4, (.st [(1, (eI64 t5.2.f0.f0)), (1, (.own n7 0 t5.2.f0.f1.length)), (1, (eI64 t5.2.f0.f2)), (1, (eI64 t5.2.f0.f3))]))]))) :: (n7, (.mem (.ar 7 (t5.2.f0.f1.map e35)))) :: T0)) : Heap)) [(0, (.ptr q0 0)), (2, (.own q2 0 p2.length)), (4, (.ptr n4 0)), (7, (eI64 (p2.length : Int))), (8, (.ptr n8 0))] ⟨rfl, rfl, rfl, rfl, rfl, trivial⟩ (fun _ => rfl) (fun σ => (Sub.cons 2 rfl (Sub.cons 2 rfl (Sub.cons 2 rfl (Sub.cons 0 rfl (Sub.cons 0 rfl (Sub.refl _))))))) ⟨?_, ?_, ?_, ?_, ?_, ?_, ?_, ?_, ?_, ?_, ?_, ?_, ?_, ?_, ?_, ?_, ?_, ?_, ?_, trivial⟩ (fun σ => [(2, (.own q2 0 p2.length)), (4, (.ptr n4 0)), (7, (eI64 (p2.length : Int))), (8, (.ptr n8 0))]) (fun σ => ((q2, (.mem (.ar 2 (p2.map e110)))) :: (n4, (.mem (e82 p1))) :: (n8, (.mem (e110 t5.1))) :: (q0, (.mem (.st [(4, (.st [(1, (eI64 t5.2.f0.f0)), (1, (.own (σ 14) 0 (t5.2.f0.f1 ++ ([(S35.mk t5.1.f0 t5.1.f1 p1.f1 false)] : List S35)).length)), (1, (eI64 t5.2.f0.f2)), (1, (eI64 t5.2.f0.f3))]))]))) :: ((σ 14), (.mem (.ar 7 ((t5.2.f0.f1 ++ ([(S35.mk t5.1.f0 t5.1.f1 p1.f1 false)] : List S35)).map e35)))) :: T0)) (fun σ => ⟨rfl, rfl, rfl, rfl, trivial⟩) (fun σ => Sub.refl _) (fun σ => ?_)
        · refine StepE.calm (fun _ _ => rfl) fun L σ hc hi hd => ?_
          have m18 : L 18 = false := hc.neg (i := 0) (j := 18) rfl (by rfl) hi
          cases b14 : L 14 with
          | true =>
            refine AO.heq (H' := ((q2, (.mem (.ar 2 (p2.map e110)))) :: (n4, (.mem (e82 p1))) :: (n8, (.mem (e110 t5.1))) :: (q0, (.mem (.st [(4, (.st [(1, (eI64 t5.2.f0.f0)), (1, (.own n7 0 t5.2.f0.f1.length)), (1, (eI64 t5.2.f0.f2)), (1, (eI64 t5.2.f0.f3))]))]))) :: ((σ 14), (.mem (.ar 7 ((t5.2.f0.f1 ++ ([(S35.mk t5.1.f0 t5.1.f1 p1.f1 false)] : List S35)).map e35)))) :: T0)) (by first | rfl | simp only [b14, m18, cond_true, cond_false]) ?_
            refine AO.weak (ρ' := [(0, (.ptr q0 0))]) (H' := ((q2, (.mem (.ar 2 (p2.map e110)))) :: (n4, (.mem (e82 p1))) :: (n8, (.mem (e110 t5.1))) :: (q0, (.mem (.st [(4, (.st [(1, (eI64 t5.2.f0.f0)), (1, (.own n7 0 t5.2.f0.f1.length)), (1, (eI64 t5.2.f0.f2)), (1, (eI64 t5.2.f0.f3))]))]))) :: ((σ 14), (.mem (.ar 7 ((t5.2.f0.f1 ++ ([(S35.mk t5.1.f0 t5.1.f1 p1.f1 false)] : List S35)).map e35)))) :: T0)) ⟨rfl, trivial⟩ (Sub.refl _) ?_
            refine AO.calm rfl 65 rfl (by decide) (.ptr q0 0) (Calm.move rfl rfl) ?_
            exact AO.nilE (ρ' := [(65, (.ptr q0 0))]) ⟨⟨65, _, rfl, rfl, rfl⟩, Sub.of_eq (by first | rfl | simp only [b14, m18, cond_true, cond_false]) (Sub.refl _)⟩ ⟨rfl, trivial⟩ (Sub.refl _)
          | false =>
            refine AO.heq (H' := ((q2, (.mem (.ar 2 (p2.map e110)))) :: (n4, (.mem (e82 p1))) :: (n8, (.mem (e110 t5.1))) :: (q0, (.mem (.st [(4, (.st [(1, (eI64 t5.2.f0.f0)), (1, (.own n7 0 t5.2.f0.f1.length)), (1, (eI64 t5.2.f0.f2)), (1, (eI64 t5.2.f0.f3))]))]))) :: (n7, (.mem (.ar 7 (t5.2.f0.f1.map e35)))) :: T0)) (by first | rfl | simp only [b14, m18, cond_true, cond_false]) ?_
            refine AO.weak (ρ' := [(0, (.ptr q0 0))]) (H' := ((q2, (.mem (.ar 2 (p2.map e110)))) :: (n4, (.mem (e82 p1))) :: (n8, (.mem (e110 t5.1))) :: (q0, (.mem (.st [(4, (.st [(1, (eI64 t5.2.f0.f0)), (1, (.own n7 0 t5.2.f0.f1.length)), (1, (eI64 t5.2.f0.f2)), (1, (eI64 t5.2.f0.f3))]))]))) :: (n7, (.mem (.ar 7 (t5.2.f0.f1.map e35)))) :: T0)) ⟨rfl, trivial⟩ (Sub.refl _) ?_
            refine AO.calm rfl 65 rfl (by decide) (.ptr q0 0) (Calm.move rfl rfl) ?_
            exact AO.nilE (ρ' := [(65, (.ptr q0 0))]) ⟨⟨65, _, rfl, rfl, rfl⟩, Sub.of_eq (by first | rfl | simp only [b14, m18, cond_true, cond_false]) (Sub.refl _)⟩ ⟨rfl, trivial⟩ (Sub.refl _)
        · refine StepE.calm (fun _ _ => rfl) fun L σ hc hi hd => ?_
          have m2 : L 2 = false := hc.neg (i := 1) (j := 2) rfl (by rfl) hi
          have m3 : L 3 = false := hc.neg (i := 2) (j := 3) rfl (by rfl) m2
          have m4 : L 4 = false := hc.neg (i := 3) (j := 4) rfl (by rfl) m3
          have m5 : L 5 = false := hc.neg (i := 4) (j := 5) rfl (by rfl) m4
          have m14 : L 14 = false := hc.neg (i := 5) (j := 14) rfl (by rfl) m5
          have m18 : L 18 = false := hc.neg (i := 1) (j := 18) rfl (by rfl) hi
          refine AO.heq (H' := ((q2, (.mem (.ar 2 (p2.map e110)))) :: (n4, (.mem (e82 p1))) :: (n8, (.mem (e110 t5.1))) :: (q0, (.mem (.st [(4, (.st [(1, (eI64 t5.2.f0.f0)), (1, (.own n7 0 t5.2.f0.f1.length)), (1, (eI64 t5.2.f0.f2)), (1, (eI64 t5.2.f0.f3))]))]))) :: (n7, (.mem (.ar 7 (t5.2.f0.f1.map e35)))) :: T0)) (by first | rfl | simp only [m14, m18, cond_true, cond_false]) ?_
          refine AO.weak (ρ' := [(0, (.ptr q0 0))]) (H' := ((q2, (.mem (.ar 2 (p2.map e110)))) :: (n4, (.mem (e82 p1))) :: (n8, (.mem (e110 t5.1))) :: (q0, (.mem (.st [(4, (.st [(1, (eI64 t5.2.f0.f0)), (1, (.own n7 0 t5.2.f0.f1.length)), (1, (eI64 t5.2.f0.f2)), (1, (eI64 t5.2.f0.f3))]))]))) :: (n7, (.mem (.ar 7 (t5.2.f0.f1.map e35)))) :: T0)) ⟨rfl, trivial⟩ (Sub.refl _) ?_
          refine AO.calm rfl 66 rfl (by decide) (.ptr q0 0) (Calm.move rfl rfl) ?_
          exact AO.nilE (ρ' := [(66, (.ptr q0 0))]) ⟨⟨66, _, rfl, rfl, rfl⟩, Sub.of_eq (by first | rfl | simp only [m14, m18, cond_true, cond_false]) (Sub.refl _)⟩ ⟨rfl, trivial⟩ (Sub.refl _)
        · refine StepE.calm (fun _ _ => rfl) fun L σ hc hi hd => ?_
          have m3 : L 3 = false := hc.neg (i := 2) (j := 3) rfl (by rfl) hi
          have m4 : L 4 = false := hc.neg (i := 3) (j := 4) rfl (by rfl) m3
          have m5 : L 5 = false := hc.neg (i := 4) (j := 5) rfl (by rfl) m4
          have m14 : L 14 = false := hc.neg (i := 5) (j := 14) rfl (by rfl) m5
          have m18 : L 18 = false := hc.neg (i := 2) (j := 18) rfl (by rfl) hi
          refine AO.heq (H' := ((q2, (.mem (.ar 2 (p2.map e110)))) :: (n4, (.mem (e82 p1))) :: (n8, (.mem (e110 t5.1))) :: (q0, (.mem (.st [(4, (.st [(1, (eI64 t5.2.f0.f0)), (1, (.own n7 0 t5.2.f0.f1.length)), (1, (eI64 t5.2.f0.f2)), (1, (eI64 t5.2.f0.f3))]))]))) :: (n7, (.mem (.ar 7 (t5.2.f0.f1.map e35)))) :: T0)) (by first | rfl | simp only [m14, m18, cond_true, cond_false]) ?_
          refine AO.weak (ρ' := [(66, (.ptr q0 0))]) (H' := ((q2, (.mem (.ar 2 (p2.map e110)))) :: (n4, (.mem (e82 p1))) :: (n8, (.mem (e110 t5.1))) :: (q0, (.mem (.st [(4, (.st [(1, (eI64 t5.2.f0.f0)), (1, (.own n7 0 t5.2.f0.f1.length)), (1, (eI64 t5.2.f0.f2)), (1, (eI64 t5.2.f0.f3))]))]))) :: (n7, (.mem (.ar 7 (t5.2.f0.f1.map e35)))) :: T0)) ⟨rfl, trivial⟩ (Sub.refl _) ?_
          refine AO.calm rfl 67 rfl (by decide) (.ptr q0 0) (Calm.nilCheck rfl rfl) ?_
          exact AO.nilE (ρ' := [(67, (.ptr q0 0))]) ⟨⟨67, _, rfl, rfl, rfl⟩, Sub.of_eq (by first | rfl | simp only [m14, m18, cond_true, cond_false]) (Sub.refl _)⟩ ⟨rfl, trivial⟩ (Sub.refl _)
        · refine StepE.calm (fun _ _ => rfl) fun L σ hc hi hd => ?_
          have m4 : L 4 = false := hc.neg (i := 3) (j := 4) rfl (by rfl) hi
          have m5 : L 5 = false := hc.neg (i := 4) (j := 5) rfl (by rfl) m4
          have m14 : L 14 = false := hc.neg (i := 5) (j := 14) rfl (by rfl) m5
          have m18 : L 18 = false := hc.neg (i := 3) (j := 18) rfl (by rfl) hi
          refine AO.heq (H' := ((q2, (.mem (.ar 2 (p2.map e110)))) :: (n4, (.mem (e82 p1))) :: (n8, (.mem (e110 t5.1))) :: (q0, (.mem (.st [(4, (.st [(1, (eI64 t5.2.f0.f0)), (1, (.own n7 0 t5.2.f0.f1.length)), (1, (eI64 t5.2.f0.f2)), (1, (eI64 t5.2.f0.f3))]))]))) :: (n7, (.mem (.ar 7 (t5.2.f0.f1.map e35)))) :: T0)) (by first | rfl | simp only [m14, m18, cond_true, cond_false]) ?_
          refine AO.weak (ρ' := [(67, (.ptr q0 0))]) (H' := ((q2, (.mem (.ar 2 (p2.map e110)))) :: (n4, (.mem (e82 p1))) :: (n8, (.mem (e110 t5.1))) :: (q0, (.mem (.st [(4, (.st [(1, (eI64 t5.2.f0.f0)), (1, (.own n7 0 t5.2.f0.f1.length)), (1, (eI64 t5.2.f0.f2)), (1, (eI64 t5.2.f0.f3))]))]))) :: (n7, (.mem (.ar 7 (t5.2.f0.f1.map e35)))) :: T0)) ⟨rfl, trivial⟩ (Sub.refl _) ?_
          refine AO.calm rfl 68 rfl (by decide) (.ptr q0 0) (Calm.fldPtr rfl rfl Try.underlying106 rfl sz24 _ rfl) ?_
          exact AO.nilE (ρ' := [(68, (.ptr q0 0))]) ⟨⟨68, _, rfl, rfl, rfl⟩, Sub.of_eq (by first | rfl | simp only [m14, m18, cond_true, cond_false]) (Sub.refl _)⟩ ⟨rfl, trivial⟩ (Sub.refl _)
        · refine StepE.calm (fun _ _ => rfl) fun L σ hc hi hd => ?_
          have m5 : L 5 = false := hc.neg (i := 4) (j := 5) rfl (by rfl) hi
          have m14 : L 14 = false := hc.neg (i := 5) (j := 14) rfl (by rfl) m5
          have m18 : L 18 = false := hc.neg (i := 4) (j := 18) rfl (by rfl) hi
          refine AO.heq (H' := ((q2, (.mem (.ar 2 (p2.map e110)))) :: (n4, (.mem (e82 p1))) :: (n8, (.mem (e110 t5.1))) :: (q0, (.mem (.st [(4, (.st [(1, (eI64 t5.2.f0.f0)), (1, (.own n7 0 t5.2.f0.f1.length)), (1, (eI64 t5.2.f0.f2)), (1, (eI64 t5.2.f0.f3))]))]))) :: (n7, (.mem (.ar 7 (t5.2.f0.f1.map e35)))) :: T0)) (by first | rfl | simp only [m14, m18, cond_true, cond_false]) ?_
          refine AO.weak (ρ' := [(68, (.ptr q0 0))]) (H' := ((q2, (.mem (.ar 2 (p2.map e110)))) :: (n4, (.mem (e82 p1))) :: (n8, (.mem (e110 t5.1))) :: (q0, (.mem (.st [(4, (.st [(1, (eI64 t5.2.f0.f0)), (1, (.own n7 0 t5.2.f0.f1.length)), (1, (eI64 t5.2.f0.f2)), (1, (eI64 t5.2.f0.f3))]))]))) :: (n7, (.mem (.ar 7 (t5.2.f0.f1.map e35)))) :: T0)) ⟨rfl, trivial⟩ (Sub.refl _) ?_
          refine AO.calm rfl 69 rfl (by decide) (.ptr q0 1) (Calm.fldPtr rfl rfl Try.underlying24 rfl sz22 _ rfl) ?_
          exact AO.nilE (ρ' := [(69, (.ptr q0 1))]) ⟨⟨69, _, rfl, rfl, rfl⟩, Sub.of_eq (by first | rfl | simp only [m14, m18, cond_true, cond_false]) (Sub.refl _)⟩ ⟨rfl, trivial⟩ (Sub.refl _)
        · refine StepE.calm (fun _ _ => rfl) fun L σ hc hi hd => ?_
          have m14 : L 14 = false := hc.neg (i := 5) (j := 14) rfl (by rfl) hi
          have m18 : L 18 = false := hc.neg (i := 5) (j := 18) rfl (by rfl) hi
          refine AO.heq (H' := ((q2, (.mem (.ar 2 (p2.map e110)))) :: (n4, (.mem (e82 p1))) :: (n8, (.mem (e110 t5.1))) :: (q0, (.mem (.st [(4, (.st [(1, (eI64 t5.2.f0.f0)), (1, (.own n7 0 t5.2.f0.f1.length)), (1, (eI64 t5.2.f0.f2)), (1, (eI64 t5.2.f0.f3))]))]))) :: (n7, (.mem (.ar 7 (t5.2.f0.f1.map e35)))) :: T0)) (by first | rfl | simp only [m14, m18, cond_true, cond_false]) ?_
          refine AO.weak (ρ' := [(69, (.ptr q0 1))]) (H' := ((q2, (.mem (.ar 2 (p2.map e110)))) :: (n4, (.mem (e82 p1))) :: (n8, (.mem (e110 t5.1))) :: (q0, (.mem (.st [(4, (.st [(1, (eI64 t5.2.f0.f0)), (1, (.own n7 0 t5.2.f0.f1.length)), (1, (eI64 t5.2.f0.f2)), (1, (eI64 t5.2.f0.f3))]))]))) :: (n7, (.mem (.ar 7 (t5.2.f0.f1.map e35)))) :: T0)) ⟨rfl, trivial⟩ (Sub.refl _) ?_
          refine AO.calm rfl 70 rfl (by decide) (.own n7 0 t5.2.f0.f1.length) (Calm.load 3 rfl rfl rfl (At.cast (At.fld0 (At.fldS (At.fld0 At.here))) rfl) ag22 sz22) ?_
          exact AO.nilE (ρ' := [(70, (.own n7 0 t5.2.f0.f1.length))]) ⟨⟨70, _, rfl, rfl, rfl⟩, Sub.of_eq (by first | rfl | simp only [m14, m18, cond_true, cond_false]) (Sub.refl _)⟩ ⟨rfl, trivial⟩ (Sub.refl _)
        · refine StepE.calm (fun _ _ => rfl) fun L σ hc hi hd => ?_
          refine AO.weak (ρ' := [(8, (.ptr n8 0))]) ⟨rfl, trivial⟩ (Sub.refl _) ?_
          refine AO.calm rfl 71 rfl (by decide) (.ptr n8 0) (Calm.fldPtr rfl rfl Try.underlying110 rfl sz3 _ rfl) ?_
          exact AO.nilE (ρ' := [(71, (.ptr n8 0))]) ⟨⟨71, _, rfl, rfl, rfl⟩, Sub.refl _⟩ ⟨rfl, trivial⟩ (Sub.refl _)
        · refine StepE.calm (fun _ _ => rfl) fun L σ hc hi hd => ?_
          refine AO.weak (ρ' := [(71, (.ptr n8 0))]) ⟨rfl, trivial⟩ (Sub.refl _) ?_
          refine AO.calm rfl 72 rfl (by decide) (eI64 t5.1.f0) (Calm.load 2 rfl rfl rfl (At.cast (At.fld0 At.here) rfl) ag3 sz3) ?_
          exact AO.nilE (ρ' := [(72, (eI64 t5.1.f0))]) ⟨⟨72, _, rfl, rfl, rfl⟩, Sub.refl _⟩ ⟨rfl, trivial⟩ (Sub.refl _)
        · refine StepE.calm (fun _ _ => rfl) fun L σ hc hi hd => ?_
          refine AO.weak (ρ' := [(8, (.ptr n8 0))]) ⟨rfl, trivial⟩ (Sub.refl _) ?_
          refine AO.calm rfl 73 rfl (by decide) (.ptr n8 1) (Calm.fldPtr rfl rfl Try.underlying110 rfl sz3 _ rfl) ?_
          exact AO.nilE (ρ' := [(73, (.ptr n8 1))]) ⟨⟨73, _, rfl, rfl, rfl⟩, Sub.refl _⟩ ⟨rfl, trivial⟩ (Sub.refl _)
        · refine StepE.calm (fun _ _ => rfl) fun L σ hc hi hd => ?_
          refine AO.weak (ρ' := [(73, (.ptr n8 1))]) ⟨rfl, trivial⟩ (Sub.refl _) ?_
          refine AO.calm rfl 74 rfl (by decide) (eI64 t5.1.f1) (Calm.load 2 rfl rfl rfl (At.cast (At.fldS (At.fld0 At.here)) rfl) ag3 sz3) ?_
          exact AO.nilE (ρ' := [(74, (eI64 t5.1.f1))]) ⟨⟨74, _, rfl, rfl, rfl⟩, Sub.refl _⟩ ⟨rfl, trivial⟩ (Sub.refl _)
        · refine StepE.calm (fun _ _ => rfl) fun L σ hc hi hd => ?_
          refine AO.weak (ρ' := [(4, (.ptr n4 0))]) ⟨rfl, trivial⟩ (Sub.refl _) ?_
          refine AO.calm rfl 75 rfl (by decide) (.ptr n4 1) (Calm.fldPtr rfl rfl Try.underlying82 rfl sz33 _ rfl) ?_
          exact AO.nilE (ρ' := [(75, (.ptr n4 1))]) ⟨⟨75, _, rfl, rfl, rfl⟩, Sub.refl _⟩ ⟨rfl, trivial⟩ (Sub.refl _)
        · refine StepE.calm (fun _ _ => rfl) fun L σ hc hi hd => ?_
          refine AO.weak (ρ' := [(75, (.ptr n4 1))]) ⟨rfl, trivial⟩ (Sub.refl _) ?_
          refine AO.calm rfl 76 rfl (by decide) (.ar 1 (p1.f1.toList.map eU64)) (Calm.load 1 rfl rfl rfl (At.cast (At.fldS (At.fld0 At.here)) rfl) ag33 (by rw [sz33]; simp [AV.size])) ?_
          exact AO.nilE (ρ' := [(76, (.ar 1 (p1.f1.toList.map eU64)))]) ⟨⟨76, _, rfl, rfl, rfl⟩, Sub.refl _⟩ ⟨rfl, trivial⟩ (Sub.refl _)
        · refine StepE.calm (fun _ _ => rfl) fun L σ hc hi hd => ?_
          refine AO.weak (ρ' := [(72, (eI64 t5.1.f0)), (74, (eI64 t5.1.f1)), (76, (.ar 1 (p1.f1.toList.map eU64)))]) ⟨rfl, rfl, rfl, trivial⟩ (Sub.refl _) ?_
          refine AO.calm rfl 77 rfl (by decide) (.st [(1, (eI64 t5.1.f0)), (1, (eI64 t5.1.f1)), (4, (.ar 1 (p1.f1.toList.map eU64))), (1, (eBool false))]) (Calm.build (qs := [(0, (eI64 t5.1.f0)), (1, (eI64 t5.1.f1)), (2, (.ar 1 (p1.f1.toList.map eU64)))]) rfl ⟨rfl, rfl, rfl, rfl, rfl, rfl, rfl, rfl, rfl, trivial⟩ Try.underlying35 rfl zr35 lay35 (.cons rfl rfl rfl rfl (Put.cast (Put.fld0 Put.here) rfl) (.cons rfl rfl rfl rfl (Put.cast (Put.fldS (Put.fld0 Put.here)) rfl) (.cons rfl rfl (vec_size _ _) (vec_size _ _) (Put.cast (Put.fldS (Put.fldS (Put.fld0 Put.here))) rfl) .nil))) rfl) ?_
          exact AO.nilE (ρ' := [(77, (e35 (S35.mk t5.1.f0 t5.1.f1 p1.f1 false)))]) ⟨⟨77, _, rfl, rfl, rfl⟩, Sub.refl _⟩ ⟨rfl, trivial⟩ (Sub.refl _)
        · refine StepE.calm (fun _ _ => rfl) fun L σ hc hi hd => ?_
          refine AO.weak (ρ' := [(77, (e35 (S35.mk t5.1.f0 t5.1.f1 p1.f1 false)))]) ⟨rfl, trivial⟩ (Sub.refl _) ?_
          refine AO.lit (Z := (.st [(1, (eI64 (0 : Int))), (1, (eI64 (0 : Int))), (4, (.ar 1 ((Vector.replicate 4 (0 : Int)).toList.map eU64))), (1, (eBool false))])) (xs := (([(S35.mk t5.1.f0 t5.1.f1 p1.f1 false)] : List S35).map e35)) (qs := [(0, (e35 (S35.mk t5.1.f0 t5.1.f1 p1.f1 false)))]) rfl 78 rfl (by decide) rfl ⟨rfl, rfl, rfl, trivial⟩ Try.underlying22 sz35 zr35 lay35 rfl (by decide) (litOK (z := 7) [(e35 (S35.mk t5.1.f0 t5.1.f1 p1.f1 false))] rfl ⟨⟨rfl, rfl⟩, trivial⟩) rfl fun n24 => ?_
          refine AO.freezeS 0 [(78, (.fz 7 (([(S35.mk t5.1.f0 t5.1.f1 p1.f1 false)] : List S35).map e35)))] rfl ⟨fz_all rfl, trivial⟩ ?_
          exact AO.nilE (ρ' := [(78, (.fz 7 (([(S35.mk t5.1.f0 t5.1.f1 p1.f1 false)] : List S35).map e35)))]) ⟨⟨78, _, rfl, rfl, rfl⟩, Sub.refl _⟩ ⟨rfl, trivial⟩ (Sub.refl _)
        · intro L σ hc hi hd
          have m18 : L 18 = false := hc.neg (i := 14) (j := 18) rfl (by rfl) hi
          refine AO.heq (H' := ((q2, (.mem (.ar 2 (p2.map e110)))) :: (n4, (.mem (e82 p1))) :: (n8, (.mem (e110 t5.1))) :: (q0, (.mem (.st [(4, (.st [(1, (eI64 t5.2.f0.f0)), (1, (.own n7 0 t5.2.f0.f1.length)), (1, (eI64 t5.2.f0.f2)), (1, (eI64 t5.2.f0.f3))]))]))) :: (n7, (.mem (.ar 7 (t5.2.f0.f1.map e35)))) :: T0)) (by first | rfl | simp only [hi, m18, cond_true, cond_false]) ?_
          refine AO.weak (ρ' := [(70, (.own n7 0 t5.2.f0.f1.length)), (78, (.fz 7 (([(S35.mk t5.1.f0 t5.1.f1 p1.f1 false)] : List S35).map e35)))]) (H' := ((q2, (.mem (.ar 2 (p2.map e110)))) :: (n4, (.mem (e82 p1))) :: (n8, (.mem (e110 t5.1))) :: (q0, (.mem (.st [(4, (.st [(1, (eI64 t5.2.f0.f0)), (1, (.own n7 0 t5.2.f0.f1.length)), (1, (eI64 t5.2.f0.f2)), (1, (eI64 t5.2.f0.f3))]))]))) :: (n7, (.mem (.ar 7 (t5.2.f0.f1.map e35)))) :: T0)) ⟨rfl, rfl, trivial⟩ (Sub.refl _) ?_
          refine AO.appendL (l := t5.2.f0.f1) (m := ([(S35.mk t5.1.f0 t5.1.f1 p1.f1 false)] : List S35)) 4 79 rfl (by decide) rfl rfl rfl rfl rfl Src.fz Try.underlying22 Try.underlying22 sz35 by35 zr35 rfl hg26 (by decide) fun n25 => ?_
          have a14 : addL L 14 14 = true := rfl
          have a18 : addL L 14 18 = false := m18
          have u14 : upd σ 14 n25 14 = n25 := rfl
          exact AO.nilE (ρ' := [(79, (.own n25 0 (t5.2.f0.f1 ++ ([(S35.mk t5.1.f0 t5.1.f1 p1.f1 false)] : List S35)).length))]) (H' := ((q2, (.mem (.ar 2 (p2.map e110)))) :: (n4, (.mem (e82 p1))) :: (n8, (.mem (e110 t5.1))) :: (q0, (.mem (.st [(4, (.st [(1, (eI64 t5.2.f0.f0)), (1, (.own n7 0 t5.2.f0.f1.length)), (1, (eI64 t5.2.f0.f2)), (1, (eI64 t5.2.f0.f3))]))]))) :: (n25, (.mem (.ar 7 ((t5.2.f0.f1 ++ ([(S35.mk t5.1.f0 t5.1.f1 p1.f1 false)] : List S35)).map e35)))) :: T0)) ⟨(upd σ 14 n25), (fun j hj => match j, hj with | 0, _ => rfl | 1, _ => rfl | 2, _ => rfl | 3, _ => rfl | 4, _ => rfl | 5, _ => rfl | 6, _ => rfl | 7, _ => rfl | 8, _ => rfl | 9, _ => rfl | 10, _ => rfl | 11, _ => rfl | 12, _ => rfl | 13, _ => rfl | 14, hj => Bool.noConfusion (hj.symm.trans hi) | 15, _ => rfl | 16, _ => rfl | 17, _ => rfl | 18, _ => rfl | _ + 19, _ => rfl), (fun d' hd' => ⟨_, rfl, by cases hd'; rfl⟩), Sub.of_eq (B := ((q2, (.mem (.ar 2 (p2.map e110)))) :: (n4, (.mem (e82 p1))) :: (n8, (.mem (e110 t5.1))) :: (q0, (.mem (.st [(4, (.st [(1, (eI64 t5.2.f0.f0)), (1, (.own n7 0 t5.2.f0.f1.length)), (1, (eI64 t5.2.f0.f2)), (1, (eI64 t5.2.f0.f3))]))]))) :: (n25, (.mem (.ar 7 ((t5.2.f0.f1 ++ ([(S35.mk t5.1.f0 t5.1.f1 p1.f1 false)] : List S35)).map e35)))) :: T0)) (by simp only [a14, a18, u14, cond_true, cond_false]) (Sub.refl _)⟩ ⟨rfl, trivial⟩ (Sub.refl _)
        · refine StepE.calm (fun _ _ => rfl) fun L σ hc hi hd => ?_
          have y14 : L 14 = true := on_get hd (i := 14) (by rfl)
          have m16 : L 16 = false := hc.neg (i := 15) (j := 16) rfl (by rfl) hi
          have m17 : L 17 = false := hc.neg (i := 16) (j := 17) rfl (by rfl) m16
          have m18 : L 18 = false := hc.neg (i := 17) (j := 18) rfl (by rfl) m17
          refine AO.heq (H' := ((q2, (.mem (.ar 2 (p2.map e110)))) :: (n4, (.mem (e82 p1))) :: (n8, (.mem (e110 t5.1))) :: (q0, (.mem (.st [(4, (.st [(1, (eI64 t5.2.f0.f0)), (1, (.own n7 0 t5.2.f0.f1.length)), (1, (eI64 t5.2.f0.f2)), (1, (eI64 t5.2.f0.f3))]))]))) :: ((σ 14), (.mem (.ar 7 ((t5.2.f0.f1 ++ ([(S35.mk t5.1.f0 t5.1.f1 p1.f1 false)] : List S35)).map e35)))) :: T0)) (by first | rfl | simp only [y14, m18, cond_true, cond_false]) ?_
          refine AO.weak (ρ' := [(65, (.ptr q0 0))]) (H' := ((q2, (.mem (.ar 2 (p2.map e110)))) :: (n4, (.mem (e82 p1))) :: (n8, (.mem (e110 t5.1))) :: (q0, (.mem (.st [(4, (.st [(1, (eI64 t5.2.f0.f0)), (1, (.own n7 0 t5.2.f0.f1.length)), (1, (eI64 t5.2.f0.f2)), (1, (eI64 t5.2.f0.f3))]))]))) :: ((σ 14), (.mem (.ar 7 ((t5.2.f0.f1 ++ ([(S35.mk t5.1.f0 t5.1.f1 p1.f1 false)] : List S35)).map e35)))) :: T0)) ⟨rfl, trivial⟩ (Sub.refl _) ?_
          refine AO.calm rfl 80 rfl (by decide) (.ptr q0 0) (Calm.nilCheck rfl rfl) ?_
          exact AO.nilE (ρ' := [(80, (.ptr q0 0))]) ⟨⟨80, _, rfl, rfl, rfl⟩, Sub.of_eq (by first | rfl | simp only [y14, m18, cond_true, cond_false]) (Sub.refl _)⟩ ⟨rfl, trivial⟩ (Sub.refl _)
        · refine StepE.calm (fun _ _ => rfl) fun L σ hc hi hd => ?_
          have y14 : L 14 = true := on_get hd (i := 14) (by rfl)
          have m17 : L 17 = false := hc.neg (i := 16) (j := 17) rfl (by rfl) hi
          have m18 : L 18 = false := hc.neg (i := 17) (j := 18) rfl (by rfl) m17
          refine AO.heq (H' := ((q2, (.mem (.ar 2 (p2.map e110)))) :: (n4, (.mem (e82 p1))) :: (n8, (.mem (e110 t5.1))) :: (q0, (.mem (.st [(4, (.st [(1, (eI64 t5.2.f0.f0)), (1, (.own n7 0 t5.2.f0.f1.length)), (1, (eI64 t5.2.f0.f2)), (1, (eI64 t5.2.f0.f3))]))]))) :: ((σ 14), (.mem (.ar 7 ((t5.2.f0.f1 ++ ([(S35.mk t5.1.f0 t5.1.f1 p1.f1 false)] : List S35)).map e35)))) :: T0)) (by first | rfl | simp only [y14, m18, cond_true, cond_false]) ?_
          refine AO.weak (ρ' := [(80, (.ptr q0 0))]) (H' := ((q2, (.mem (.ar 2 (p2.map e110)))) :: (n4, (.mem (e82 p1))) :: (n8, (.mem (e110 t5.1))) :: (q0, (.mem (.st [(4, (.st [(1, (eI64 t5.2.f0.f0)), (1, (.own n7 0 t5.2.f0.f1.length)), (1, (eI64 t5.2.f0.f2)), (1, (eI64 t5.2.f0.f3))]))]))) :: ((σ 14), (.mem (.ar 7 ((t5.2.f0.f1 ++ ([(S35.mk t5.1.f0 t5.1.f1 p1.f1 false)] : List S35)).map e35)))) :: T0)) ⟨rfl, trivial⟩ (Sub.refl _) ?_
          refine AO.calm rfl 81 rfl (by decide) (.ptr q0 0) (Calm.fldPtr rfl rfl Try.underlying106 rfl sz24 _ rfl) ?_
          exact AO.nilE (ρ' := [(81, (.ptr q0 0))]) ⟨⟨81, _, rfl, rfl, rfl⟩, Sub.of_eq (by first | rfl | simp only [y14, m18, cond_true, cond_false]) (Sub.refl _)⟩ ⟨rfl, trivial⟩ (Sub.refl _)
        · refine StepE.calm (fun _ _ => rfl) fun L σ hc hi hd => ?_
          have y14 : L 14 = true := on_get hd (i := 14) (by rfl)
          have m18 : L 18 = false := hc.neg (i := 17) (j := 18) rfl (by rfl) hi
          refine AO.heq (H' := ((q2, (.mem (.ar 2 (p2.map e110)))) :: (n4, (.mem (e82 p1))) :: (n8, (.mem (e110 t5.1))) :: (q0, (.mem (.st [(4, (.st [(1, (eI64 t5.2.f0.f0)), (1, (.own n7 0 t5.2.f0.f1.length)), (1, (eI64 t5.2.f0.f2)), (1, (eI64 t5.2.f0.f3))]))]))) :: ((σ 14), (.mem (.ar 7 ((t5.2.f0.f1 ++ ([(S35.mk t5.1.f0 t5.1.f1 p1.f1 false)] : List S35)).map e35)))) :: T0)) (by first | rfl | simp only [y14, m18, cond_true, cond_false]) ?_
          refine AO.weak (ρ' := [(81, (.ptr q0 0))]) (H' := ((q2, (.mem (.ar 2 (p2.map e110)))) :: (n4, (.mem (e82 p1))) :: (n8, (.mem (e110 t5.1))) :: (q0, (.mem (.st [(4, (.st [(1, (eI64 t5.2.f0.f0)), (1, (.own n7 0 t5.2.f0.f1.length)), (1, (eI64 t5.2.f0.f2)), (1, (eI64 t5.2.f0.f3))]))]))) :: ((σ 14), (.mem (.ar 7 ((t5.2.f0.f1 ++ ([(S35.mk t5.1.f0 t5.1.f1 p1.f1 false)] : List S35)).map e35)))) :: T0)) ⟨rfl, trivial⟩ (Sub.refl _) ?_
          refine AO.calm rfl 82 rfl (by decide) (.ptr q0 1) (Calm.fldPtr rfl rfl Try.underlying24 rfl sz22 _ rfl) ?_
          exact AO.nilE (ρ' := [(82, (.ptr q0 1))]) ⟨⟨82, _, rfl, rfl, rfl⟩, Sub.of_eq (by first | rfl | simp only [y14, m18, cond_true, cond_false]) (Sub.refl _)⟩ ⟨rfl, trivial⟩ (Sub.refl _)
        · intro L σ hc hi hd
          have y14 : L 14 = true := on_get hd (i := 14) (by rfl)
          refine AO.heq (H' := ((q2, (.mem (.ar 2 (p2.map e110)))) :: (n4, (.mem (e82 p1))) :: (n8, (.mem (e110 t5.1))) :: (q0, (.mem (.st [(4, (.st [(1, (eI64 t5.2.f0.f0)), (1, (.own n7 0 t5.2.f0.f1.length)), (1, (eI64 t5.2.f0.f2)), (1, (eI64 t5.2.f0.f3))]))]))) :: ((σ 14), (.mem (.ar 7 ((t5.2.f0.f1 ++ ([(S35.mk t5.1.f0 t5.1.f1 p1.f1 false)] : List S35)).map e35)))) :: T0)) (by first | rfl | simp only [hi, y14, cond_true, cond_false]) ?_
          refine AO.weak (ρ' := [(79, (.own (σ 14) 0 (t5.2.f0.f1 ++ ([(S35.mk t5.1.f0 t5.1.f1 p1.f1 false)] : List S35)).length)), (82, (.ptr q0 1))]) (H' := ((q2, (.mem (.ar 2 (p2.map e110)))) :: (n4, (.mem (e82 p1))) :: (n8, (.mem (e110 t5.1))) :: (q0, (.mem (.st [(4, (.st [(1, (eI64 t5.2.f0.f0)), (1, (.own n7 0 t5.2.f0.f1.length)), (1, (eI64 t5.2.f0.f2)), (1, (eI64 t5.2.f0.f3))]))]))) :: ((σ 14), (.mem (.ar 7 ((t5.2.f0.f1 ++ ([(S35.mk t5.1.f0 t5.1.f1 p1.f1 false)] : List S35)).map e35)))) :: T0)) ⟨rfl, rfl, trivial⟩ (Sub.refl _) ?_
          refine AO.store (X' := (.st [(4, (.st [(1, (eI64 t5.2.f0.f0)), (1, (.own (σ 14) 0 (t5.2.f0.f1 ++ ([(S35.mk t5.1.f0 t5.1.f1 p1.f1 false)] : List S35)).length)), (1, (eI64 t5.2.f0.f2)), (1, (eI64 t5.2.f0.f3))]))])) 3 rfl rfl rfl rfl rfl rfl (Put.cast (Put.fld0 (Put.fldS (Put.fld0 Put.here))) rfl) rfl rfl sz22 rfl ?_
          have a14 : addL L 18 14 = true := y14
          have a18 : addL L 18 18 = true := rfl
          exact AO.nilE (ρ' := []) (H' := ((q2, (.mem (.ar 2 (p2.map e110)))) :: (n4, (.mem (e82 p1))) :: (n8, (.mem (e110 t5.1))) :: (q0, (.mem (.st [(4, (.st [(1, (eI64 t5.2.f0.f0)), (1, (.own (σ 14) 0 (t5.2.f0.f1 ++ ([(S35.mk t5.1.f0 t5.1.f1 p1.f1 false)] : List S35)).length)), (1, (eI64 t5.2.f0.f2)), (1, (eI64 t5.2.f0.f3))]))]))) :: ((σ 14), (.mem (.ar 7 ((t5.2.f0.f1 ++ ([(S35.mk t5.1.f0 t5.1.f1 p1.f1 false)] : List S35)).map e35)))) :: T0)) ⟨σ, (fun _ _ => rfl), (fun d' hd' => by cases hd'), Sub.of_eq (B := ((q2, (.mem (.ar 2 (p2.map e110)))) :: (n4, (.mem (e82 p1))) :: (n8, (.mem (e110 t5.1))) :: (q0, (.mem (.st [(4, (.st [(1, (eI64 t5.2.f0.f0)), (1, (.own (σ 14) 0 (t5.2.f0.f1 ++ ([(S35.mk t5.1.f0 t5.1.f1 p1.f1 false)] : List S35)).length)), (1, (eI64 t5.2.f0.f2)), (1, (eI64 t5.2.f0.f3))]))]))) :: ((σ 14), (.mem (.ar 7 ((t5.2.f0.f1 ++ ([(S35.mk t5.1.f0 t5.1.f1 p1.f1 false)] : List S35)).map e35)))) :: T0)) (by simp only [a14, a18, cond_true, cond_false]) (Sub.refl _)⟩ trivial (Sub.refl _)
        · generalize σ 14 = n25
          refine AO.nil (ρ' := [(2, (.own q2 0 p2.length)), (4, (.ptr n4 0)), (7, (eI64 (p2.length : Int))), (8, (.ptr n8 0))]) (H' := ((q0, (.mem (.st [(4, (.st [(1, (eI64 t5.2.f0.f0)), (1, (.own n25 0 (t5.2.f0.f1 ++ ([(S35.mk t5.1.f0 t5.1.f1 p1.f1 false)] : List S35)).length)), (1, (eI64 t5.2.f0.f2)), (1, (eI64 t5.2.f0.f3))]))]))) :: (n25, (.mem (.ar 7 ((t5.2.f0.f1 ++ ([(S35.mk t5.1.f0 t5.1.f1 p1.f1 false)] : List S35)).map e35)))) :: (q2, (.mem (.ar 2 (p2.map e110)))) :: (n4, (.mem (e82 p1))) :: (n8, (.mem (e110 t5.1))) :: T0)) ⟨rfl, rfl, rfl, rfl, trivial⟩ (Sub.cons 3 rfl (Sub.cons 3 rfl (Sub.cons 0 rfl (Sub.cons 0 rfl (Sub.cons 0 rfl (Sub.refl _)))))) ?_
          exact ⟨n25, t5.2.f0.f0, (t5.2.f0.f1 ++ ([(S35.mk t5.1.f0 t5.1.f1 p1.f1 false)] : List S35)), t5.2.f0.f2, t5.2.f0.f3, rfl, rfl, h⟩
      · have h := (if_neg hc23).symm.trans h
        refine AW.condN (p1.f0 = (1 : Int)) rfl hc23 ?_
        refine AW.seq ?_
        refine AW.reg ?_
        refine AO.calm rfl 84 rfl (by decide) (eBool (decide (p1.f0 = (2 : Int)))) (Calm.int rfl rfl rfl rfl) ?_
        refine AO.calm rfl 83 rfl (by decide) (eBool (decide (p1.f0 = (2 : Int)))) (Calm.assign rfl rfl) ?_
        refine AO.nil (ρ' := [(0, (.ptr q0 0)), (2, (.own q2 0 p2.length)), (4, (.ptr n4 0)), (7, (eI64 (p2.length : Int))), (8, (.ptr n8 0)), (19, (eI64 p1.f0)), (83, (eBool (decide (p1.f0 = (2 : Int)))))]) (H' := ((q0, (.mem (.st [(4, (.st [(1, (eI64 t5.2.f0.f0)), (1, (.own n7 0 t5.2.f0.f1.length)), (1, (eI64 t5.2.f0.f2)), (1, (eI64 t5.2.f0.f3))]))]))) :: (n7, (.mem (.ar 7 (t5.2.f0.f1.map e35)))) :: (q2, (.mem (.ar 2 (p2.map e110)))) :: (n4, (.mem (e82 p1))) :: (n8, (.mem (e110 t5.1))) :: T0)) ⟨rfl, rfl, rfl, rfl, rfl, rfl, rfl, trivial⟩ (Sub.refl _) ?_
        by_cases hc27 : p1.f0 = (2 : Int)
        · have h := (if_pos hc27).symm.trans h
          refine AW.condP (p1.f0 = (2 : Int)) rfl hc27 ?_
          refine AW.seq ?_
          obtain ⟨hg28, h⟩ := of_guard h
          obtain ⟨hg29, h⟩ := of_guard h
          refine AW.regEff (by rfl) (by decide +kernel) (fun (σ : Nat → Nat) => ([(.own q2 0 p2.length), (eI64 (p2.length : Int)), (eI64 (w64 ((p2.length : Int) - (2 : Int)))), (.ptr q2 ((w64 ((p2.length : Int) - (2 : Int))).toNat * 2 + 0)), (e110 (lget p2 (w64 ((p2.length : Int) - (2 : Int))))), (.own q2 0 p2.length), (eI64 (p2.length : Int)), (eI64 (w64 ((p2.length : Int) - (1 : Int)))), (.ptr q2 ((w64 ((p2.length : Int) - (1 : Int))).toNat * 2 + 0)), (e110 (lget p2 (w64 ((p2.length : Int) - (1 : Int))))), (.ptr (σ 10) 0), (.ptr (σ 11) 0), (.fl undef), (.fl undef)] : List AV)) (fun (L : Nat → Bool) (σ : Nat → Nat) => ((q0, (.mem (.st [(4, (.st [(1, (eI64 t5.2.f0.f0)), (1, (.own n7 0 t5.2.f0.f1.length)), (1, (eI64 t5.2.f0.f2)), (1, (eI64 t5.2.f0.f3))]))]))) :: (n7, (.mem (.ar 7 (t5.2.f0.f1.map e35)))) :: (q2, (.mem (.ar 2 (p2.map e110)))) :: (n4, (.mem (e82 p1))) :: (n8, (.mem (e110 t5.1))) :: (bif L 10 then (bif L 11 then (bif L 12 then (bif L 13 then (((σ 11), (.mem (e110 (lget p2 (w64 ((p2.length : Int) - (1 : Int))))))) :: ((σ 10), (.mem (e110 (lget p2 (w64 ((p2.length : Int) - (2 : Int))))))) :: T0) else (((σ 11), (.mem (.st [(1, (eI64 (0 : Int))), (1, (eI64 (0 : Int)))]))) :: ((σ 10), (.mem (e110 (lget p2 (w64 ((p2.length : Int) - (2 : Int))))))) :: T0)) else (((σ 11), (.mem (.st [(1, (eI64 (0 : Int))), (1, (eI64 (0 : Int)))]))) :: ((σ 10), (.mem (.st [(1, (eI64 (0 : Int))), (1, (eI64 (0 : Int)))]))) :: T0)) else (((σ 10), (.mem (.st [(1, (eI64 (0 : Int))), (1, (eI64 (0 : Int)))]))) :: T0)) else (bif L 11 then (((σ 11), (.mem (.st [(1, (eI64 (0 : Int))), (1, (eI64 (0 : Int)))]))) :: T0) else (T0))) : Heap)) [(0, (.ptr q0 0)), (2, (.own q2 0 p2.length)), (4, (.ptr n4 0)), (7, (eI64 (p2.length : Int))), (8, (.ptr n8 0))] ⟨rfl, rfl, rfl, rfl, rfl, trivial⟩ (fun _ => rfl) (fun σ => (Sub.refl _)) ⟨?_, ?_, ?_, ?_, ?_, ?_, ?_, ?_, ?_, ?_, ?_, ?_, ?_, ?_, trivial⟩ (fun σ => [(0, (.ptr q0 0)), (2, (.own q2 0 p2.length)), (4, (.ptr n4 0)), (7, (eI64 (p2.length : Int))), (8, (.ptr n8 0)), (9, (.ptr (σ 10) 0)), (10, (.ptr (σ 11) 0))]) (fun σ => ((q0, (.mem (.st [(4, (.st [(1, (eI64 t5.2.f0.f0)), (1, (.own n7 0 t5.2.f0.f1.length)), (1, (eI64 t5.2.f0.f2)), (1, (eI64 t5.2.f0.f3))]))]))) :: (n7, (.mem (.ar 7 (t5.2.f0.f1.map e35)))) :: (q2, (.mem (.ar 2 (p2.map e110)))) :: (n4, (.mem (e82 p1))) :: (n8, (.mem (e110 t5.1))) :: ((σ 11), (.mem (e110 (lget p2 (w64 ((p2.length : Int) - (1 : Int))))))) :: ((σ 10), (.mem (e110 (lget p2 (w64 ((p2.length : Int) - (2 : Int))))))) :: T0)) (fun σ => ⟨rfl, rfl, rfl, rfl, rfl, rfl, rfl, trivial⟩) (fun σ => Sub.refl _) (fun σ => ?_)
          · refine StepE.calm (fun _ _ => rfl) fun L σ hc hi hd => ?_
            refine AO.weak (ρ' := [(2, (.own q2 0 p2.length))]) ⟨rfl, trivial⟩ (Sub.refl _) ?_
            refine AO.calm rfl 85 rfl (by decide) (.own q2 0 p2.length) (Calm.move rfl rfl) ?_
            exact AO.nilE (ρ' := [(85, (.own q2 0 p2.length))]) ⟨⟨85, _, rfl, rfl, rfl⟩, Sub.refl _⟩ ⟨rfl, trivial⟩ (Sub.refl _)
          · refine StepE.calm (fun _ _ => rfl) fun L σ hc hi hd => ?_
            refine AO.weak (ρ' := [(7, (eI64 (p2.length : Int)))]) ⟨rfl, trivial⟩ (Sub.refl _) ?_
            refine AO.calm rfl 86 rfl (by decide) (eI64 (p2.length : Int)) (Calm.move rfl rfl) ?_
            exact AO.nilE (ρ' := [(86, (eI64 (p2.length : Int)))]) ⟨⟨86, _, rfl, rfl, rfl⟩, Sub.refl _⟩ ⟨rfl, trivial⟩ (Sub.refl _)
          · refine StepE.calm (fun _ _ => rfl) fun L σ hc hi hd => ?_
            refine AO.weak (ρ' := [(86, (eI64 (p2.length : Int)))]) ⟨rfl, trivial⟩ (Sub.refl _) ?_
            refine AO.calm rfl 87 rfl (by decide) (eI64 (w64 ((p2.length : Int) - (2 : Int)))) (Calm.int rfl rfl rfl rfl) ?_
            exact AO.nilE (ρ' := [(87, (eI64 (w64 ((p2.length : Int) - (2 : Int)))))]) ⟨⟨87, _, rfl, rfl, rfl⟩, Sub.refl _⟩ ⟨rfl, trivial⟩ (Sub.refl _)
          · refine StepE.calm (fun _ _ => rfl) fun L σ hc hi hd => ?_
            refine AO.weak (ρ' := [(85, (.own q2 0 p2.length)), (87, (eI64 (w64 ((p2.length : Int) - (2 : Int)))))]) ⟨rfl, rfl, trivial⟩ (Sub.refl _) ?_
            refine AO.calm rfl 88 rfl (by decide) (.ptr q2 ((w64 ((p2.length : Int) - (2 : Int))).toNat * 2 + 0)) (Calm.idxO 2 rfl rfl rfl rfl hg28 Try.underlying107 sz110) ?_
            exact AO.nilE (ρ' := [(88, (.ptr q2 ((w64 ((p2.length : Int) - (2 : Int))).toNat * 2 + 0)))]) ⟨⟨88, _, rfl, rfl, rfl⟩, Sub.refl _⟩ ⟨rfl, trivial⟩ (Sub.refl _)
          · refine StepE.calm (fun _ _ => rfl) fun L σ hc hi hd => ?_
            refine AO.weak (ρ' := [(88, (.ptr q2 ((w64 ((p2.length : Int) - (2 : Int))).toNat * 2 + 0)))]) ⟨rfl, trivial⟩ (Sub.refl _) ?_
            refine AO.calm rfl 89 rfl (by decide) (e110 (lget p2 (w64 ((p2.length : Int) - (2 : Int))))) (Calm.load 2 rfl rfl rfl (At.cast (At.lidx (w64 ((p2.length : Int) - (2 : Int))) hg28.1 hg28.2 At.here) (by omega)) ag110 sz110) ?_
            exact AO.nilE (ρ' := [(89, (e110 (lget p2 (w64 ((p2.length : Int) - (2 : Int))))))]) ⟨⟨89, _, rfl, rfl, rfl⟩, Sub.refl _⟩ ⟨rfl, trivial⟩ (Sub.refl _)
          · refine StepE.calm (fun _ _ => rfl) fun L σ hc hi hd => ?_
            refine AO.weak (ρ' := [(2, (.own q2 0 p2.length))]) ⟨rfl, trivial⟩ (Sub.refl _) ?_
            refine AO.calm rfl 90 rfl (by decide) (.own q2 0 p2.length) (Calm.move rfl rfl) ?_
            exact AO.nilE (ρ' := [(90, (.own q2 0 p2.length))]) ⟨⟨90, _, rfl, rfl, rfl⟩, Sub.refl _⟩ ⟨rfl, trivial⟩ (Sub.refl _)
          · refine StepE.calm (fun _ _ => rfl) fun L σ hc hi hd => ?_
            refine AO.weak (ρ' := [(7, (eI64 (p2.length : Int)))]) ⟨rfl, trivial⟩ (Sub.refl _) ?_
            refine AO.calm rfl 91 rfl (by decide) (eI64 (p2.length : Int)) (Calm.move rfl rfl) ?_
            exact AO.nilE (ρ' := [(91, (eI64 (p2.length : Int)))]) ⟨⟨91, _, rfl, rfl, rfl⟩, Sub.refl _⟩ ⟨rfl, trivial⟩ (Sub.refl _)
          · refine StepE.calm (fun _ _ => rfl) fun L σ hc hi hd => ?_
            refine AO.weak (ρ' := [(91, (eI64 (p2.length : Int)))]) ⟨rfl, trivial⟩ (Sub.refl _) ?_
            refine AO.calm rfl 92 rfl (by decide) (eI64 (w64 ((p2.length : Int) - (1 : Int)))) (Calm.int rfl rfl rfl rfl) ?_
            exact AO.nilE (ρ' := [(92, (eI64 (w64 ((p2.length : Int) - (1 : Int)))))]) ⟨⟨92, _, rfl, rfl, rfl⟩, Sub.refl _⟩ ⟨rfl, trivial⟩ (Sub.refl _)
          · refine StepE.calm (fun _ _ => rfl) fun L σ hc hi hd => ?_
            refine AO.weak (ρ' := [(90, (.own q2 0 p2.length)), (92, (eI64 (w64 ((p2.length : Int) - (1 : Int)))))]) ⟨rfl, rfl, trivial⟩ (Sub.refl _) ?_
            refine AO.calm rfl 93 rfl (by decide) (.ptr q2 ((w64 ((p2.length : Int) - (1 : Int))).toNat * 2 + 0)) (Calm.idxO 2 rfl rfl rfl rfl hg29 Try.underlying107 sz110) ?_
            exact AO.nilE (ρ' := [(93, (.ptr q2 ((w64 ((p2.length : Int) - (1 : Int))).toNat * 2 + 0)))]) ⟨⟨93, _, rfl, rfl, rfl⟩, Sub.refl _⟩ ⟨rfl, trivial⟩ (Sub.refl _)
          · refine StepE.calm (fun _ _ => rfl) fun L σ hc hi hd => ?_
            refine AO.weak (ρ' := [(93, (.ptr q2 ((w64 ((p2.length : Int) - (1 : Int))).toNat * 2 + 0)))]) ⟨rfl, trivial⟩ (Sub.refl _) ?_
            refine AO.calm rfl 94 rfl (by decide) (e110 (lget p2 (w64 ((p2.length : Int) - (1 : Int))))) (Calm.load 2 rfl rfl rfl (At.cast (At.lidx (w64 ((p2.length : Int) - (1 : Int))) hg29.1 hg29.2 At.here) (by omega)) ag110 sz110) ?_
            exact AO.nilE (ρ' := [(94, (e110 (lget p2 (w64 ((p2.length : Int) - (1 : Int))))))]) ⟨⟨94, _, rfl, rfl, rfl⟩, Sub.refl _⟩ ⟨rfl, trivial⟩ (Sub.refl _)
          · intro L σ hc hi hd
            have m12 : L 12 = false := hc.neg (i := 10) (j := 12) rfl (by rfl) hi
            have m13 : L 13 = false := hc.neg (i := 10) (j := 13) rfl (by rfl) hi
            cases b11 : L 11 with
            | true =>
              refine AO.heq (H' := ((q0, (.mem (.st [(4, (.st [(1, (eI64 t5.2.f0.f0)), (1, (.own n7 0 t5.2.f0.f1.length)), (1, (eI64 t5.2.f0.f2)), (1, (eI64 t5.2.f0.f3))]))]))) :: (n7, (.mem (.ar 7 (t5.2.f0.f1.map e35)))) :: (q2, (.mem (.ar 2 (p2.map e110)))) :: (n4, (.mem (e82 p1))) :: (n8, (.mem (e110 t5.1))) :: ((σ 11), (.mem (.st [(1, (eI64 (0 : Int))), (1, (eI64 (0 : Int)))]))) :: T0)) (by first | rfl | simp only [hi, b11, m12, m13, cond_true, cond_false]) ?_
              refine AO.weak (ρ' := []) (H' := ((q0, (.mem (.st [(4, (.st [(1, (eI64 t5.2.f0.f0)), (1, (.own n7 0 t5.2.f0.f1.length)), (1, (eI64 t5.2.f0.f2)), (1, (eI64 t5.2.f0.f3))]))]))) :: (n7, (.mem (.ar 7 (t5.2.f0.f1.map e35)))) :: (q2, (.mem (.ar 2 (p2.map e110)))) :: (n4, (.mem (e82 p1))) :: (n8, (.mem (e110 t5.1))) :: ((σ 11), (.mem (.st [(1, (eI64 (0 : Int))), (1, (eI64 (0 : Int)))]))) :: T0)) trivial (Sub.refl _) ?_
              refine AO.alloc rfl 9 rfl (by decide) rfl zr110 lay110 fun n30 => ?_
              have a10 : addL L 10 10 = true := rfl
              have a11 : addL L 10 11 = true := b11
              have a12 : addL L 10 12 = false := m12
              have a13 : addL L 10 13 = false := m13
              have u10 : upd σ 10 n30 10 = n30 := rfl
              have u11 : upd σ 10 n30 11 = σ 11 := rfl
              exact AO.nilE (ρ' := [(9, (.ptr n30 0))]) (H' := ((n30, (.mem (.st [(1, (eI64 (0 : Int))), (1, (eI64 (0 : Int)))]))) :: (q0, (.mem (.st [(4, (.st [(1, (eI64 t5.2.f0.f0)), (1, (.own n7 0 t5.2.f0.f1.length)), (1, (eI64 t5.2.f0.f2)), (1, (eI64 t5.2.f0.f3))]))]))) :: (n7, (.mem (.ar 7 (t5.2.f0.f1.map e35)))) :: (q2, (.mem (.ar 2 (p2.map e110)))) :: (n4, (.mem (e82 p1))) :: (n8, (.mem (e110 t5.1))) :: ((σ 11), (.mem (.st [(1, (eI64 (0 : Int))), (1, (eI64 (0 : Int)))]))) :: T0)) ⟨(upd σ 10 n30), (fun j hj => match j, hj with | 0, _ => rfl | 1, _ => rfl | 2, _ => rfl | 3, _ => rfl | 4, _ => rfl | 5, _ => rfl | 6, _ => rfl | 7, _ => rfl | 8, _ => rfl | 9, _ => rfl | 10, hj => Bool.noConfusion (hj.symm.trans hi) | 11, _ => rfl | 12, _ => rfl | 13, _ => rfl | _ + 14, _ => rfl), (fun d' hd' => ⟨_, rfl, by cases hd'; rfl⟩), Sub.of_eq (B := ((q0, (.mem (.st [(4, (.st [(1, (eI64 t5.2.f0.f0)), (1, (.own n7 0 t5.2.f0.f1.length)), (1, (eI64 t5.2.f0.f2)), (1, (eI64 t5.2.f0.f3))]))]))) :: (n7, (.mem (.ar 7 (t5.2.f0.f1.map e35)))) :: (q2, (.mem (.ar 2 (p2.map e110)))) :: (n4, (.mem (e82 p1))) :: (n8, (.mem (e110 t5.1))) :: ((σ 11), (.mem (.st [(1, (eI64 (0 : Int))), (1, (eI64 (0 : Int)))]))) :: (n30, (.mem (.st [(1, (eI64 (0 : Int))), (1, (eI64 (0 : Int)))]))) :: T0)) (by simp only [a10, a11, a12, a13, u10, u11, cond_true, cond_false]) (Sub.cons 1 rfl (Sub.cons 1 rfl (Sub.cons 1 rfl (Sub.cons 1 rfl (Sub.cons 1 rfl (Sub.cons 1 rfl (Sub.cons 0 rfl (Sub.refl _))))))))⟩ ⟨rfl, trivial⟩ (Sub.refl _)
            | false =>
              refine AO.heq (H' := ((q0, (.mem (.st [(4, (.st [(1, (eI64 t5.2.f0.f0)), (1, (.own n7 0 t5.2.f0.f1.length)), (1, (eI64 t5.2.f0.f2)), (1, (eI64 t5.2.f0.f3))]))]))) :: (n7, (.mem (.ar 7 (t5.2.f0.f1.map e35)))) :: (q2, (.mem (.ar 2 (p2.map e110)))) :: (n4, (.mem (e82 p1))) :: (n8, (.mem (e110 t5.1))) :: T0)) (by first | rfl | simp only [hi, b11, m12, m13, cond_true, cond_false]) ?_
              refine AO.weak (ρ' := []) (H' := ((q0, (.mem (.st [(4, (.st [(1, (eI64 t5.2.f0.f0)), (1, (.own n7 0 t5.2.f0.f1.length)), (1, (eI64 t5.2.f0.f2)), (1, (eI64 t5.2.f0.f3))]))]))) :: (n7, (.mem (.ar 7 (t5.2.f0.f1.map e35)))) :: (q2, (.mem (.ar 2 (p2.map e110)))) :: (n4, (.mem (e82 p1))) :: (n8, (.mem (e110 t5.1))) :: T0)) trivial (Sub.refl _) ?_
              refine AO.alloc rfl 9 rfl (by decide) rfl zr110 lay110 fun n30 => ?_
              have a10 : addL L 10 10 = true := rfl
              have a11 : addL L 10 11 = false := b11
              have a12 : addL L 10 12 = false := m12
              have a13 : addL L 10 13 = false := m13
              have u10 : upd σ 10 n30 10 = n30 := rfl
              have u11 : upd σ 10 n30 11 = σ 11 := rfl
              exact AO.nilE (ρ' := [(9, (.ptr n30 0))]) (H' := ((n30, (.mem (.st [(1, (eI64 (0 : Int))), (1, (eI64 (0 : Int)))]))) :: (q0, (.mem (.st [(4, (.st [(1, (eI64 t5.2.f0.f0)), (1, (.own n7 0 t5.2.f0.f1.length)), (1, (eI64 t5.2.f0.f2)), (1, (eI64 t5.2.f0.f3))]))]))) :: (n7, (.mem (.ar 7 (t5.2.f0.f1.map e35)))) :: (q2, (.mem (.ar 2 (p2.map e110)))) :: (n4, (.mem (e82 p1))) :: (n8, (.mem (e110 t5.1))) :: T0)) ⟨(upd σ 10 n30), (fun j hj => match j, hj with | 0, _ => rfl | 1, _ => rfl | 2, _ => rfl | 3, _ => rfl | 4, _ => rfl | 5, _ => rfl | 6, _ => rfl | 7, _ => rfl | 8, _ => rfl | 9, _ => rfl | 10, hj => Bool.noConfusion (hj.symm.trans hi) | 11, _ => rfl | 12, _ => rfl | 13, _ => rfl | _ + 14, _ => rfl), (fun d' hd' => ⟨_, rfl, by cases hd'; rfl⟩), Sub.of_eq (B := ((q0, (.mem (.st [(4, (.st [(1, (eI64 t5.2.f0.f0)), (1, (.own n7 0 t5.2.f0.f1.length)), (1, (eI64 t5.2.f0.f2)), (1, (eI64 t5.2.f0.f3))]))]))) :: (n7, (.mem (.ar 7 (t5.2.f0.f1.map e35)))) :: (q2, (.mem (.ar 2 (p2.map e110)))) :: (n4, (.mem (e82 p1))) :: (n8, (.mem (e110 t5.1))) :: (n30, (.mem (.st [(1, (eI64 (0 : Int))), (1, (eI64 (0 : Int)))]))) :: T0)) (by simp only [a10, a11, a12, a13, u10, u11, cond_true, cond_false]) (Sub.cons 1 rfl (Sub.cons 1 rfl (Sub.cons 1 rfl (Sub.cons 1 rfl (Sub.cons 1 rfl (Sub.cons 0 rfl (Sub.refl _)))))))⟩ ⟨rfl, trivial⟩ (Sub.refl _)
          · intro L σ hc hi hd
            have m12 : L 12 = false := hc.neg (i := 11) (j := 12) rfl (by rfl) hi
            have m13 : L 13 = false := hc.neg (i := 11) (j := 13) rfl (by rfl) hi
            cases b10 : L 10 with
            | true =>
              refine AO.heq (H' := ((q0, (.mem (.st [(4, (.st [(1, (eI64 t5.2.f0.f0)), (1, (.own n7 0 t5.2.f0.f1.length)), (1, (eI64 t5.2.f0.f2)), (1, (eI64 t5.2.f0.f3))]))]))) :: (n7, (.mem (.ar 7 (t5.2.f0.f1.map e35)))) :: (q2, (.mem (.ar 2 (p2.map e110)))) :: (n4, (.mem (e82 p1))) :: (n8, (.mem (e110 t5.1))) :: ((σ 10), (.mem (.st [(1, (eI64 (0 : Int))), (1, (eI64 (0 : Int)))]))) :: T0)) (by first | rfl | simp only [hi, b10, m12, m13, cond_true, cond_false]) ?_
              refine AO.weak (ρ' := []) (H' := ((q0, (.mem (.st [(4, (.st [(1, (eI64 t5.2.f0.f0)), (1, (.own n7 0 t5.2.f0.f1.length)), (1, (eI64 t5.2.f0.f2)), (1, (eI64 t5.2.f0.f3))]))]))) :: (n7, (.mem (.ar 7 (t5.2.f0.f1.map e35)))) :: (q2, (.mem (.ar 2 (p2.map e110)))) :: (n4, (.mem (e82 p1))) :: (n8, (.mem (e110 t5.1))) :: ((σ 10), (.mem (.st [(1, (eI64 (0 : Int))), (1, (eI64 (0 : Int)))]))) :: T0)) trivial (Sub.refl _) ?_
              refine AO.alloc rfl 10 rfl (by decide) rfl zr110 lay110 fun n31 => ?_
              have a10 : addL L 11 10 = true := b10
              have a11 : addL L 11 11 = true := rfl
              have a12 : addL L 11 12 = false := m12
              have a13 : addL L 11 13 = false := m13
              have u10 : upd σ 11 n31 10 = σ 10 := rfl
              have u11 : upd σ 11 n31 11 = n31 := rfl
              exact AO.nilE (ρ' := [(10, (.ptr n31 0))]) (H' := ((n31, (.mem (.st [(1, (eI64 (0 : Int))), (1, (eI64 (0 : Int)))]))) :: (q0, (.mem (.st [(4, (.st [(1, (eI64 t5.2.f0.f0)), (1, (.own n7 0 t5.2.f0.f1.length)), (1, (eI64 t5.2.f0.f2)), (1, (eI64 t5.2.f0.f3))]))]))) :: (n7, (.mem (.ar 7 (t5.2.f0.f1.map e35)))) :: (q2, (.mem (.ar 2 (p2.map e110)))) :: (n4, (.mem (e82 p1))) :: (n8, (.mem (e110 t5.1))) :: ((σ 10), (.mem (.st [(1, (eI64 (0 : Int))), (1, (eI64 (0 : Int)))]))) :: T0)) ⟨(upd σ 11 n31), (fun j hj => match j, hj with | 0, _ => rfl | 1, _ => rfl | 2, _ => rfl | 3, _ => rfl | 4, _ => rfl | 5, _ => rfl | 6, _ => rfl | 7, _ => rfl | 8, _ => rfl | 9, _ => rfl | 10, _ => rfl | 11, hj => Bool.noConfusion (hj.symm.trans hi) | 12, _ => rfl | 13, _ => rfl | _ + 14, _ => rfl), (fun d' hd' => ⟨_, rfl, by cases hd'; rfl⟩), Sub.of_eq (B := ((q0, (.mem (.st [(4, (.st [(1, (eI64 t5.2.f0.f0)), (1, (.own n7 0 t5.2.f0.f1.length)), (1, (eI64 t5.2.f0.f2)), (1, (eI64 t5.2.f0.f3))]))]))) :: (n7, (.mem (.ar 7 (t5.2.f0.f1.map e35)))) :: (q2, (.mem (.ar 2 (p2.map e110)))) :: (n4, (.mem (e82 p1))) :: (n8, (.mem (e110 t5.1))) :: (n31, (.mem (.st [(1, (eI64 (0 : Int))), (1, (eI64 (0 : Int)))]))) :: ((σ 10), (.mem (.st [(1, (eI64 (0 : Int))), (1, (eI64 (0 : Int)))]))) :: T0)) (by simp only [a10, a11, a12, a13, u10, u11, cond_true, cond_false]) (Sub.cons 1 rfl (Sub.cons 1 rfl (Sub.cons 1 rfl (Sub.cons 1 rfl (Sub.cons 1 rfl (Sub.cons 0 rfl (Sub.cons 0 rfl (Sub.refl _))))))))⟩ ⟨rfl, trivial⟩ (Sub.refl _)
            | false =>
              refine AO.heq (H' := ((q0, (.mem (.st [(4, (.st [(1, (eI64 t5.2.f0.f0)), (1, (.own n7 0 t5.2.f0.f1.length)), (1, (eI64 t5.2.f0.f2)), (1, (eI64 t5.2.f0.f3))]))]))) :: (n7, (.mem (.ar 7 (t5.2.f0.f1.map e35)))) :: (q2, (.mem (.ar 2 (p2.map e110)))) :: (n4, (.mem (e82 p1))) :: (n8, (.mem (e110 t5.1))) :: T0)) (by first | rfl | simp only [hi, b10, m12, m13, cond_true, cond_false]) ?_
              refine AO.weak (ρ' := []) (H' := ((q0, (.mem (.st [(4, (.st [(1, (eI64 t5.2.f0.f0)), (1, (.own n7 0 t5.2.f0.f1.length)), (1, (eI64 t5.2.f0.f2)), (1, (eI64 t5.2.f0.f3))]))]))) :: (n7, (.mem (.ar 7 (t5.2.f0.f1.map e35)))) :: (q2, (.mem (.ar 2 (p2.map e110)))) :: (n4, (.mem (e82 p1))) :: (n8, (.mem (e110 t5.1))) :: T0)) trivial (Sub.refl _) ?_
              refine AO.alloc rfl 10 rfl (by decide) rfl zr110 lay110 fun n31 => ?_
              have a10 : addL L 11 10 = false := b10
              have a11 : addL L 11 11 = true := rfl
              have a12 : addL L 11 12 = false := m12
              have a13 : addL L 11 13 = false := m13
              have u10 : upd σ 11 n31 10 = σ 10 := rfl
              have u11 : upd σ 11 n31 11 = n31 := rfl
              exact AO.nilE (ρ' := [(10, (.ptr n31 0))]) (H' := ((n31, (.mem (.st [(1, (eI64 (0 : Int))), (1, (eI64 (0 : Int)))]))) :: (q0, (.mem (.st [(4, (.st [(1, (eI64 t5.2.f0.f0)), (1, (.own n7 0 t5.2.f0.f1.length)), (1, (eI64 t5.2.f0.f2)), (1, (eI64 t5.2.f0.f3))]))]))) :: (n7, (.mem (.ar 7 (t5.2.f0.f1.map e35)))) :: (q2, (.mem (.ar 2 (p2.map e110)))) :: (n4, (.mem (e82 p1))) :: (n8, (.mem (e110 t5.1))) :: T0)) ⟨(upd σ 11 n31), (fun j hj => match j, hj with | 0, _ => rfl | 1, _ => rfl | 2, _ => rfl | 3, _ => rfl | 4, _ => rfl | 5, _ => rfl | 6, _ => rfl | 7, _ => rfl | 8, _ => rfl | 9, _ => rfl | 10, _ => rfl | 11, hj => Bool.noConfusion (hj.symm.trans hi) | 12, _ => rfl | 13, _ => rfl | _ + 14, _ => rfl), (fun d' hd' => ⟨_, rfl, by cases hd'; rfl⟩), Sub.of_eq (B := ((q0, (.mem (.st [(4, (.st [(1, (eI64 t5.2.f0.f0)), (1, (.own n7 0 t5.2.f0.f1.length)), (1, (eI64 t5.2.f0.f2)), (1, (eI64 t5.2.f0.f3))]))]))) :: (n7, (.mem (.ar 7 (t5.2.f0.f1.map e35)))) :: (q2, (.mem (.ar 2 (p2.map e110)))) :: (n4, (.mem (e82 p1))) :: (n8, (.mem (e110 t5.1))) :: (n31, (.mem (.st [(1, (eI64 (0 : Int))), (1, (eI64 (0 : Int)))]))) :: T0)) (by simp only [a10, a11, a12, a13, u10, u11, cond_true, cond_false]) (Sub.cons 1 rfl (Sub.cons 1 rfl (Sub.cons 1 rfl (Sub.cons 1 rfl (Sub.cons 1 rfl (Sub.cons 0 rfl (Sub.refl _)))))))⟩ ⟨rfl, trivial⟩ (Sub.refl _)
          · intro L σ hc hi hd
            have y10 : L 10 = true := on_get hd (i := 10) (by rfl)
            have y11 : L 11 = true := on_get hd (i := 11) (by rfl)
            have m13 : L 13 = false := hc.neg (i := 12) (j := 13) rfl (by rfl) hi
            refine AO.heq (H' := ((q0, (.mem (.st [(4, (.st [(1, (eI64 t5.2.f0.f0)), (1, (.own n7 0 t5.2.f0.f1.length)), (1, (eI64 t5.2.f0.f2)), (1, (eI64 t5.2.f0.f3))]))]))) :: (n7, (.mem (.ar 7 (t5.2.f0.f1.map e35)))) :: (q2, (.mem (.ar 2 (p2.map e110)))) :: (n4, (.mem (e82 p1))) :: (n8, (.mem (e110 t5.1))) :: ((σ 11), (.mem (.st [(1, (eI64 (0 : Int))), (1, (eI64 (0 : Int)))]))) :: ((σ 10), (.mem (.st [(1, (eI64 (0 : Int))), (1, (eI64 (0 : Int)))]))) :: T0)) (by first | rfl | simp only [hi, y10, y11, m13, cond_true, cond_false]) ?_
            refine AO.weak (ρ' := [(9, (.ptr (σ 10) 0)), (89, (e110 (lget p2 (w64 ((p2.length : Int) - (2 : Int))))))]) (H' := ((q0, (.mem (.st [(4, (.st [(1, (eI64 t5.2.f0.f0)), (1, (.own n7 0 t5.2.f0.f1.length)), (1, (eI64 t5.2.f0.f2)), (1, (eI64 t5.2.f0.f3))]))]))) :: (n7, (.mem (.ar 7 (t5.2.f0.f1.map e35)))) :: (q2, (.mem (.ar 2 (p2.map e110)))) :: (n4, (.mem (e82 p1))) :: (n8, (.mem (e110 t5.1))) :: ((σ 11), (.mem (.st [(1, (eI64 (0 : Int))), (1, (eI64 (0 : Int)))]))) :: ((σ 10), (.mem (.st [(1, (eI64 (0 : Int))), (1, (eI64 (0 : Int)))]))) :: T0)) ⟨rfl, rfl, trivial⟩ (Sub.refl _) ?_
            refine AO.store (X' := (e110 (lget p2 (w64 ((p2.length : Int) - (2 : Int)))))) 6 rfl rfl rfl rfl rfl rfl (Put.cast Put.here rfl) rfl rfl sz110 rfl ?_
            have a10 : addL L 12 10 = true := y10
            have a11 : addL L 12 11 = true := y11
            have a12 : addL L 12 12 = true := rfl
            have a13 : addL L 12 13 = false := m13
            exact AO.nilE (ρ' := []) (H' := ((q0, (.mem (.st [(4, (.st [(1, (eI64 t5.2.f0.f0)), (1, (.own n7 0 t5.2.f0.f1.length)), (1, (eI64 t5.2.f0.f2)), (1, (eI64 t5.2.f0.f3))]))]))) :: (n7, (.mem (.ar 7 (t5.2.f0.f1.map e35)))) :: (q2, (.mem (.ar 2 (p2.map e110)))) :: (n4, (.mem (e82 p1))) :: (n8, (.mem (e110 t5.1))) :: ((σ 11), (.mem (.st [(1, (eI64 (0 : Int))), (1, (eI64 (0 : Int)))]))) :: ((σ 10), (.mem (e110 (lget p2 (w64 ((p2.length : Int) - (2 : Int))))))) :: T0)) ⟨σ, (fun _ _ => rfl), (fun d' hd' => by cases hd'), Sub.of_eq (B := ((q0, (.mem (.st [(4, (.st [(1, (eI64 t5.2.f0.f0)), (1, (.own n7 0 t5.2.f0.f1.length)), (1, (eI64 t5.2.f0.f2)), (1, (eI64 t5.2.f0.f3))]))]))) :: (n7, (.mem (.ar 7 (t5.2.f0.f1.map e35)))) :: (q2, (.mem (.ar 2 (p2.map e110)))) :: (n4, (.mem (e82 p1))) :: (n8, (.mem (e110 t5.1))) :: ((σ 11), (.mem (.st [(1, (eI64 (0 : Int))), (1, (eI64 (0 : Int)))]))) :: ((σ 10), (.mem (e110 (lget p2 (w64 ((p2.length : Int) - (2 : Int))))))) :: T0)) (by simp only [a10, a11, a12, a13, cond_true, cond_false]) (Sub.refl _)⟩ trivial (Sub.refl _)
          · intro L σ hc hi hd
            have y10 : L 10 = true := on_get hd (i := 10) (by rfl)
            have y11 : L 11 = true := on_get hd (i := 11) (by rfl)
            have y12 : L 12 = true := on_get hd (i := 12) (by rfl)
            refine AO.heq (H' := ((q0, (.mem (.st [(4, (.st [(1, (eI64 t5.2.f0.f0)), (1, (.own n7 0 t5.2.f0.f1.length)), (1, (eI64 t5.2.f0.f2)), (1, (eI64 t5.2.f0.f3))]))]))) :: (n7, (.mem (.ar 7 (t5.2.f0.f1.map e35)))) :: (q2, (.mem (.ar 2 (p2.map e110)))) :: (n4, (.mem (e82 p1))) :: (n8, (.mem (e110 t5.1))) :: ((σ 11), (.mem (.st [(1, (eI64 (0 : Int))), (1, (eI64 (0 : Int)))]))) :: ((σ 10), (.mem (e110 (lget p2 (w64 ((p2.length : Int) - (2 : Int))))))) :: T0)) (by first | rfl | simp only [hi, y10, y11, y12, cond_true, cond_false]) ?_
            refine AO.weak (ρ' := [(10, (.ptr (σ 11) 0)), (94, (e110 (lget p2 (w64 ((p2.length : Int) - (1 : Int))))))]) (H' := ((q0, (.mem (.st [(4, (.st [(1, (eI64 t5.2.f0.f0)), (1, (.own n7 0 t5.2.f0.f1.length)), (1, (eI64 t5.2.f0.f2)), (1, (eI64 t5.2.f0.f3))]))]))) :: (n7, (.mem (.ar 7 (t5.2.f0.f1.map e35)))) :: (q2, (.mem (.ar 2 (p2.map e110)))) :: (n4, (.mem (e82 p1))) :: (n8, (.mem (e110 t5.1))) :: ((σ 11), (.mem (.st [(1, (eI64 (0 : Int))), (1, (eI64 (0 : Int)))]))) :: ((σ 10), (.mem (e110 (lget p2 (w64 ((p2.length : Int) - (2 : Int))))))) :: T0)) ⟨rfl, rfl, trivial⟩ (Sub.refl _) ?_
            refine AO.store (X' := (e110 (lget p2 (w64 ((p2.length : Int) - (1 : Int)))))) 5 rfl rfl rfl rfl rfl rfl (Put.cast Put.here rfl) rfl rfl sz110 rfl ?_
            have a10 : addL L 13 10 = true := y10
            have a11 : addL L 13 11 = true := y11
            have a12 : addL L 13 12 = true := y12
            have a13 : addL L 13 13 = true := rfl
            exact AO.nilE (ρ' := []) (H' := ((q0, (.mem (.st [(4, (.st [(1, (eI64 t5.2.f0.f0)), (1, (.own n7 0 t5.2.f0.f1.length)), (1, (eI64 t5.2.f0.f2)), (1, (eI64 t5.2.f0.f3))]))]))) :: (n7, (.mem (.ar 7 (t5.2.f0.f1.map e35)))) :: (q2, (.mem (.ar 2 (p2.map e110)))) :: (n4, (.mem (e82 p1))) :: (n8, (.mem (e110 t5.1))) :: ((σ 11), (.mem (e110 (lget p2 (w64 ((p2.length : Int) - (1 : Int))))))) :: ((σ 10), (.mem (e110 (lget p2 (w64 ((p2.length : Int) - (2 : Int))))))) :: T0)) ⟨σ, (fun _ _ => rfl), (fun d' hd' => by cases hd'), Sub.of_eq (B := ((q0, (.mem (.st [(4, (.st [(1, (eI64 t5.2.f0.f0)), (1, (.own n7 0 t5.2.f0.f1.length)), (1, (eI64 t5.2.f0.f2)), (1, (eI64 t5.2.f0.f3))]))]))) :: (n7, (.mem (.ar 7 (t5.2.f0.f1.map e35)))) :: (q2, (.mem (.ar 2 (p2.map e110)))) :: (n4, (.mem (e82 p1))) :: (n8, (.mem (e110 t5.1))) :: ((σ 11), (.mem (e110 (lget p2 (w64 ((p2.length : Int) - (1 : Int))))))) :: ((σ 10), (.mem (e110 (lget p2 (w64 ((p2.length : Int) - (2 : Int))))))) :: T0)) (by simp only [a10, a11, a12, a13, cond_true, cond_false]) (Sub.refl _)⟩ trivial (Sub.refl _)
          · generalize σ 10 = n30
            generalize σ 11 = n31
            refine AO.nil (ρ' := [(0, (.ptr q0 0)), (2, (.own q2 0 p2.length)), (4, (.ptr n4 0)), (7, (eI64 (p2.length : Int))), (8, (.ptr n8 0)), (9, (.ptr n30 0)), (10, (.ptr n31 0))]) (H' := ((q0, (.mem (.st [(4, (.st [(1, (eI64 t5.2.f0.f0)), (1, (.own n7 0 t5.2.f0.f1.length)), (1, (eI64 t5.2.f0.f2)), (1, (eI64 t5.2.f0.f3))]))]))) :: (n7, (.mem (.ar 7 (t5.2.f0.f1.map e35)))) :: (q2, (.mem (.ar 2 (p2.map e110)))) :: (n4, (.mem (e82 p1))) :: (n8, (.mem (e110 t5.1))) :: (n30, (.mem (e110 (lget p2 (w64 ((p2.length : Int) - (2 : Int))))))) :: (n31, (.mem (e110 (lget p2 (w64 ((p2.length : Int) - (1 : Int))))))) :: T0)) ⟨rfl, rfl, rfl, rfl, rfl, rfl, rfl, trivial⟩ (Sub.cons 0 rfl (Sub.cons 0 rfl (Sub.cons 0 rfl (Sub.cons 0 rfl (Sub.cons 0 rfl (Sub.cons 1 rfl (Sub.cons 0 rfl (Sub.refl _)))))))) ?_
            refine AW.seq ?_
            refine AW.reg ?_
            refine AO.calm rfl 95 rfl (by decide) (.ptr q0 0) (Calm.move rfl rfl) ?_
            refine AO.calm rfl 96 rfl (by decide) (.ptr n8 0) (Calm.fldPtr rfl rfl Try.underlying110 rfl sz3 _ rfl) ?_
            refine AO.calm rfl 97 rfl (by decide) (eI64 t5.1.f0) (Calm.load 4 rfl rfl rfl (At.cast (At.fld0 At.here) rfl) ag3 sz3) ?_
            refine AO.calm rfl 98 rfl (by decide) (.ptr n30 0) (Calm.fldPtr rfl rfl Try.underlying110 rfl sz3 _ rfl) ?_
            refine AO.calm rfl 99 rfl (by decide) (eI64 ((lget p2 (w64 ((p2.length : Int) - (2 : Int)))).f0)) (Calm.load 5 rfl rfl rfl (At.cast (At.fld0 At.here) rfl) ag3 sz3) ?_
            obtain ⟨t32, et32, h⟩ := of_bind h
            refine AO.callH [(.ptr q0 0), (eI64 t5.1.f0), (eI64 ((lget p2 (w64 ((p2.length : Int) - (2 : Int)))).f0))] ((q0, (.mem (.st [(4, (.st [(1, (eI64 t5.2.f0.f0)), (1, (.own n7 0 t5.2.f0.f1.length)), (1, (eI64 t5.2.f0.f2)), (1, (eI64 t5.2.f0.f3))]))]))) :: (n7, (.mem (.ar 7 (t5.2.f0.f1.map e35)))) :: (q2, (.mem (.ar 2 (p2.map e110)))) :: (n4, (.mem (e82 p1))) :: (n8, (.mem (e110 t5.1))) :: (n30, (.mem (e110 (lget p2 (w64 ((p2.length : Int) - (2 : Int))))))) :: (n31, (.mem (e110 (lget p2 (w64 ((p2.length : Int) - (1 : Int))))))) :: T0) _ rfl rfl rfl 100 rfl (by decide) ok78 ⟨rfl, rfl, rfl, rfl, rfl, rfl, trivial⟩ (Sub.cons 0 rfl (Sub.cons 0 rfl (Sub.refl _))) (nfa_maker_free_spec et32) ?_
            rintro _ _ ⟨n34, rfl, hs33⟩
            refine AO.weak (ρ' := [(0, (.ptr q0 0)), (2, (.own q2 0 p2.length)), (4, (.ptr n4 0)), (7, (eI64 (p2.length : Int))), (8, (.ptr n8 0)), (9, (.ptr n30 0)), (10, (.ptr n31 0)), (95, (.ptr q0 0)), (96, (.ptr n8 0)), (97, (eI64 t5.1.f0)), (98, (.ptr n30 0)), (99, (eI64 ((lget p2 (w64 ((p2.length : Int) - (2 : Int)))).f0))), (100, (.tup []))]) (H' := ((q0, (.mem (.st [(4, (.st [(1, (eI64 t32.f0.f0)), (1, (.own n34 0 t32.f0.f1.length)), (1, (eI64 t32.f0.f2)), (1, (eI64 t32.f0.f3))]))]))) :: (n34, (.mem (.ar 7 (t32.f0.f1.map e35)))) :: (q2, (.mem (.ar 2 (p2.map e110)))) :: (n4, (.mem (e82 p1))) :: (n8, (.mem (e110 t5.1))) :: (n30, (.mem (e110 (lget p2 (w64 ((p2.length : Int) - (2 : Int))))))) :: (n31, (.mem (e110 (lget p2 (w64 ((p2.length : Int) - (1 : Int))))))) :: T0)) ⟨rfl, rfl, rfl, rfl, rfl, rfl, rfl, rfl, rfl, rfl, rfl, rfl, rfl, trivial⟩ hs33 ?_
            refine AO.nil (ρ' := [(0, (.ptr q0 0)), (2, (.own q2 0 p2.length)), (4, (.ptr n4 0)), (7, (eI64 (p2.length : Int))), (8, (.ptr n8 0)), (9, (.ptr n30 0)), (10, (.ptr n31 0))]) (H' := ((q0, (.mem (.st [(4, (.st [(1, (eI64 t32.f0.f0)), (1, (.own n34 0 t32.f0.f1.length)), (1, (eI64 t32.f0.f2)), (1, (eI64 t32.f0.f3))]))]))) :: (n34, (.mem (.ar 7 (t32.f0.f1.map e35)))) :: (q2, (.mem (.ar 2 (p2.map e110)))) :: (n4, (.mem (e82 p1))) :: (n8, (.mem (e110 t5.1))) :: (n30, (.mem (e110 (lget p2 (w64 ((p2.length : Int) - (2 : Int))))))) :: (n31, (.mem (e110 (lget p2 (w64 ((p2.length : Int) - (1 : Int))))))) :: T0)) ⟨rfl, rfl, rfl, rfl, rfl, rfl, rfl, trivial⟩ (Sub.refl _) ?_
            refine AW.seq ?_
            refine AW.reg ?_
            refine AO.calm rfl 101 rfl (by decide) (.ptr q0 0) (Calm.move rfl rfl) ?_
            refine AO.calm rfl 102 rfl (by decide) (.ptr n30 1) (Calm.fldPtr rfl rfl Try.underlying110 rfl sz3 _ rfl) ?_
            refine AO.calm rfl 103 rfl (by decide) (eI64 ((lget p2 (w64 ((p2.length : Int) - (2 : Int)))).f1)) (Calm.load 5 rfl rfl rfl (At.cast (At.fldS (At.fld0 At.here)) rfl) ag3 sz3) ?_
            refine AO.calm rfl 104 rfl (by decide) (.ptr n31 0) (Calm.fldPtr rfl rfl Try.underlying110 rfl sz3 _ rfl) ?_
            refine AO.calm rfl 105 rfl (by decide) (eI64 ((lget p2 (w64 ((p2.length : Int) - (1 : Int)))).f0)) (Calm.load 6 rfl rfl rfl (At.cast (At.fld0 At.here) rfl) ag3 sz3) ?_
            obtain ⟨t35, et35, h⟩ := of_bind h
            refine AO.callH [(.ptr q0 0), (eI64 ((lget p2 (w64 ((p2.length : Int) - (2 : Int)))).f1)), (eI64 ((lget p2 (w64 ((p2.length : Int) - (1 : Int)))).f0))] ((q0, (.mem (.st [(4, (.st [(1, (eI64 t32.f0.f0)), (1, (.own n34 0 t32.f0.f1.length)), (1, (eI64 t32.f0.f2)), (1, (eI64 t32.f0.f3))]))]))) :: (n34, (.mem (.ar 7 (t32.f0.f1.map e35)))) :: (q2, (.mem (.ar 2 (p2.map e110)))) :: (n4, (.mem (e82 p1))) :: (n8, (.mem (e110 t5.1))) :: (n30, (.mem (e110 (lget p2 (w64 ((p2.length : Int) - (2 : Int))))))) :: (n31, (.mem (e110 (lget p2 (w64 ((p2.length : Int) - (1 : Int))))))) :: T0) _ rfl rfl rfl 106 rfl (by decide) ok78 ⟨rfl, rfl, rfl, rfl, rfl, rfl, trivial⟩ (Sub.cons 0 rfl (Sub.cons 0 rfl (Sub.refl _))) (nfa_maker_free_spec et35) ?_
            rintro _ _ ⟨n37, rfl, hs36⟩
            refine AO.weak (ρ' := [(0, (.ptr q0 0)), (2, (.own q2 0 p2.length)), (4, (.ptr n4 0)), (7, (eI64 (p2.length : Int))), (8, (.ptr n8 0)), (9, (.ptr n30 0)), (10, (.ptr n31 0)), (101, (.ptr q0 0)), (102, (.ptr n30 1)), (103, (eI64 ((lget p2 (w64 ((p2.length : Int) - (2 : Int)))).f1))), (104, (.ptr n31 0)), (105, (eI64 ((lget p2 (w64 ((p2.length : Int) - (1 : Int)))).f0))), (106, (.tup []))]) (H' := ((q0, (.mem (.st [(4, (.st [(1, (eI64 t35.f0.f0)), (1, (.own n37 0 t35.f0.f1.length)), (1, (eI64 t35.f0.f2)), (1, (eI64 t35.f0.f3))]))]))) :: (n37, (.mem (.ar 7 (t35.f0.f1.map e35)))) :: (q2, (.mem (.ar 2 (p2.map e110)))) :: (n4, (.mem (e82 p1))) :: (n8, (.mem (e110 t5.1))) :: (n30, (.mem (e110 (lget p2 (w64 ((p2.length : Int) - (2 : Int))))))) :: (n31, (.mem (e110 (lget p2 (w64 ((p2.length : Int) - (1 : Int))))))) :: T0)) ⟨rfl, rfl, rfl, rfl, rfl, rfl, rfl, rfl, rfl, rfl, rfl, rfl, rfl, trivial⟩ hs36 ?_
            refine AO.nil (ρ' := [(0, (.ptr q0 0)), (2, (.own q2 0 p2.length)), (4, (.ptr n4 0)), (7, (eI64 (p2.length : Int))), (8, (.ptr n8 0)), (10, (.ptr n31 0))]) (H' := ((q0, (.mem (.st [(4, (.st [(1, (eI64 t35.f0.f0)), (1, (.own n37 0 t35.f0.f1.length)), (1, (eI64 t35.f0.f2)), (1, (eI64 t35.f0.f3))]))]))) :: (n37, (.mem (.ar 7 (t35.f0.f1.map e35)))) :: (q2, (.mem (.ar 2 (p2.map e110)))) :: (n4, (.mem (e82 p1))) :: (n8, (.mem (e110 t5.1))) :: (n31, (.mem (e110 (lget p2 (w64 ((p2.length : Int) - (1 : Int))))))) :: T0)) ⟨rfl, rfl, rfl, rfl, rfl, rfl, trivial⟩ (Sub.cons 0 rfl (Sub.cons 0 rfl (Sub.cons 0 rfl (Sub.cons 0 rfl (Sub.cons 0 rfl (Sub.cons 1 rfl (Sub.drop (Sub.refl _)))))))) ?_
            refine AW.reg ?_
            refine AO.calm rfl 107 rfl (by decide) (.ptr q0 0) (Calm.move rfl rfl) ?_
            refine AO.calm rfl 108 rfl (by decide) (.ptr n31 1) (Calm.fldPtr rfl rfl Try.underlying110 rfl sz3 _ rfl) ?_
            refine AO.calm rfl 109 rfl (by decide) (eI64 ((lget p2 (w64 ((p2.length : Int) - (1 : Int)))).f1)) (Calm.load 5 rfl rfl rfl (At.cast (At.fldS (At.fld0 At.here)) rfl) ag3 sz3) ?_
            refine AO.calm rfl 110 rfl (by decide) (.ptr n8 1) (Calm.fldPtr rfl rfl Try.underlying110 rfl sz3 _ rfl) ?_
            refine AO.calm rfl 111 rfl (by decide) (eI64 t5.1.f1) (Calm.load 4 rfl rfl rfl (At.cast (At.fldS (At.fld0 At.here)) rfl) ag3 sz3) ?_
            obtain ⟨t38, et38, h⟩ := of_bind h
            refine AO.callH [(.ptr q0 0), (eI64 ((lget p2 (w64 ((p2.length : Int) - (1 : Int)))).f1)), (eI64 t5.1.f1)] ((q0, (.mem (.st [(4, (.st [(1, (eI64 t35.f0.f0)), (1, (.own n37 0 t35.f0.f1.length)), (1, (eI64 t35.f0.f2)), (1, (eI64 t35.f0.f3))]))]))) :: (n37, (.mem (.ar 7 (t35.f0.f1.map e35)))) :: (q2, (.mem (.ar 2 (p2.map e110)))) :: (n4, (.mem (e82 p1))) :: (n8, (.mem (e110 t5.1))) :: (n31, (.mem (e110 (lget p2 (w64 ((p2.length : Int) - (1 : Int))))))) :: T0) _ rfl rfl rfl 112 rfl (by decide) ok78 ⟨rfl, rfl, rfl, rfl, rfl, rfl, trivial⟩ (Sub.cons 0 rfl (Sub.cons 0 rfl (Sub.refl _))) (nfa_maker_free_spec et38) ?_
            rintro _ _ ⟨n40, rfl, hs39⟩
            refine AO.weak (ρ' := [(0, (.ptr q0 0)), (2, (.own q2 0 p2.length)), (4, (.ptr n4 0)), (7, (eI64 (p2.length : Int))), (8, (.ptr n8 0)), (10, (.ptr n31 0)), (107, (.ptr q0 0)), (108, (.ptr n31 1)), (109, (eI64 ((lget p2 (w64 ((p2.length : Int) - (1 : Int)))).f1))), (110, (.ptr n8 1)), (111, (eI64 t5.1.f1)), (112, (.tup []))]) (H' := ((q0, (.mem (.st [(4, (.st [(1, (eI64 t38.f0.f0)), (1, (.own n40 0 t38.f0.f1.length)), (1, (eI64 t38.f0.f2)), (1, (eI64 t38.f0.f3))]))]))) :: (n40, (.mem (.ar 7 (t38.f0.f1.map e35)))) :: (q2, (.mem (.ar 2 (p2.map e110)))) :: (n4, (.mem (e82 p1))) :: (n8, (.mem (e110 t5.1))) :: (n31, (.mem (e110 (lget p2 (w64 ((p2.length : Int) - (1 : Int))))))) :: T0)) ⟨rfl, rfl, rfl, rfl, rfl, rfl, rfl, rfl, rfl, rfl, rfl, rfl, trivial⟩ hs39 ?_
            refine AO.nil (ρ' := [(2, (.own q2 0 p2.length)), (4, (.ptr n4 0)), (7, (eI64 (p2.length : Int))), (8, (.ptr n8 0))]) (H' := ((q0, (.mem (.st [(4, (.st [(1, (eI64 t38.f0.f0)), (1, (.own n40 0 t38.f0.f1.length)), (1, (eI64 t38.f0.f2)), (1, (eI64 t38.f0.f3))]))]))) :: (n40, (.mem (.ar 7 (t38.f0.f1.map e35)))) :: (q2, (.mem (.ar 2 (p2.map e110)))) :: (n4, (.mem (e82 p1))) :: (n8, (.mem (e110 t5.1))) :: T0)) ⟨rfl, rfl, rfl, rfl, trivial⟩ (Sub.cons 0 rfl (Sub.cons 0 rfl (Sub.cons 0 rfl (Sub.cons 0 rfl (Sub.cons 0 rfl (Sub.drop (Sub.refl _))))))) ?_
            exact ⟨n40, t38.f0.f0, t38.f0.f1, t38.f0.f2, t38.f0.f3, rfl, rfl, h⟩
        · have h := (if_neg hc27).symm.trans h
          refine AW.condN (p1.f0 = (2 : Int)) rfl hc27 ?_
          refine AW.seq ?_
          refine AW.reg ?_
          refine AO.calm rfl 114 rfl (by decide) (eBool (decide (p1.f0 = (3 : Int)))) (Calm.int rfl rfl rfl rfl) ?_
          refine AO.calm rfl 113 rfl (by decide) (eBool (decide (p1.f0 = (3 : Int)))) (Calm.assign rfl rfl) ?_
          refine AO.nil (ρ' := [(0, (.ptr q0 0)), (2, (.own q2 0 p2.length)), (4, (.ptr n4 0)), (7, (eI64 (p2.length : Int))), (8, (.ptr n8 0)), (113, (eBool (decide (p1.f0 = (3 : Int)))))]) (H' := ((q0, (.mem (.st [(4, (.st [(1, (eI64 t5.2.f0.f0)), (1, (.own n7 0 t5.2.f0.f1.length)), (1, (eI64 t5.2.f0.f2)), (1, (eI64 t5.2.f0.f3))]))]))) :: (n7, (.mem (.ar 7 (t5.2.f0.f1.map e35)))) :: (q2, (.mem (.ar 2 (p2.map e110)))) :: (n4, (.mem (e82 p1))) :: (n8, (.mem (e110 t5.1))) :: T0)) ⟨rfl, rfl, rfl, rfl, rfl, rfl, trivial⟩ (Sub.refl _) ?_
          by_cases hc41 : p1.f0 = (3 : Int)
          · have h := (if_pos hc41).symm.trans h
            refine AW.condP (p1.f0 = (3 : Int)) rfl hc41 ?_
            refine AW.seq ?_
            refine AW.reg ?_
            refine AO.calm rfl 115 rfl (by decide) (.own q2 0 p2.length) (Calm.move rfl rfl) ?_
            refine AO.calm rfl 116 rfl (by decide) (eI64 (p2.length : Int)) (Calm.move rfl rfl) ?_
            refine AO.calm rfl 117 rfl (by decide) (eI64 (w64 ((p2.length : Int) - (2 : Int)))) (Calm.int rfl rfl rfl rfl) ?_
            obtain ⟨hg42, h⟩ := of_guard h
            refine AO.calm rfl 118 rfl (by decide) (.own q2 ((w64 ((p2.length : Int) - (2 : Int))).toNat) (p2.length - (w64 ((p2.length : Int) - (2 : Int))).toNat)) (Calm.sufO 2 rfl rfl rfl rfl hg42 Try.underlying107 sz110) ?_
            refine AO.calm rfl 119 rfl (by decide) (eI64 (((p2.length - (w64 ((p2.length : Int) - (2 : Int))).toNat) : Nat) : Int)) (Calm.lenOwn rfl rfl Try.underlying107) ?_
            refine AO.calm rfl 120 rfl (by decide) (eI64 (0 : Int)) (Calm.move rfl rfl) ?_
            refine AO.nil (ρ' := [(0, (.ptr q0 0)), (2, (.own q2 0 p2.length)), (4, (.ptr n4 0)), (7, (eI64 (p2.length : Int))), (8, (.ptr n8 0)), (118, (.own q2 ((w64 ((p2.length : Int) - (2 : Int))).toNat) (p2.length - (w64 ((p2.length : Int) - (2 : Int))).toNat))), (119, (eI64 (((p2.length - (w64 ((p2.length : Int) - (2 : Int))).toNat) : Nat) : Int))), (120, (eI64 (0 : Int)))]) (H' := ((q0, (.mem (.st [(4, (.st [(1, (eI64 t5.2.f0.f0)), (1, (.own n7 0 t5.2.f0.f1.length)), (1, (eI64 t5.2.f0.f2)), (1, (eI64 t5.2.f0.f3))]))]))) :: (n7, (.mem (.ar 7 (t5.2.f0.f1.map e35)))) :: (q2, (.mem (.ar 2 (p2.map e110)))) :: (n4, (.mem (e82 p1))) :: (n8, (.mem (e110 t5.1))) :: T0)) ⟨rfl, rfl, rfl, rfl, rfl, rfl, rfl, rfl, trivial⟩ (Sub.refl _) ?_
            refine AW.block ?_
            refine AW.weak (ρ' := [(0, (.ptr q0 0)), (2, (.own q2 0 p2.length)), (4, (.ptr n4 0)), (7, (eI64 (p2.length : Int))), (8, (.ptr n8 0)), (118, (.own q2 ((w64 ((p2.length : Int) - (2 : Int))).toNat) (p2.length - (w64 ((p2.length : Int) - (2 : Int))).toNat))), (119, (eI64 (((p2.length - (w64 ((p2.length : Int) - (2 : Int))).toNat) : Nat) : Int))), (120, (eI64 (0 : Int)))]) (H' := ((q0, (.mem (.st [(4, (.st [(1, (eI64 t5.2.f0.f0)), (1, (.own n7 0 t5.2.f0.f1.length)), (1, (eI64 t5.2.f0.f2)), (1, (eI64 t5.2.f0.f3))]))]))) :: (n7, (.mem (.ar 7 (t5.2.f0.f1.map e35)))) :: (q2, (.mem (.ar 2 (p2.map e110)))) :: (n4, (.mem (e82 p1))) :: (n8, (.mem (e110 t5.1))) :: T0)) ⟨rfl, rfl, rfl, rfl, rfl, rfl, rfl, rfl, trivial⟩ (Sub.refl _) ?_
            refine AW.loop (fun kq ρ H => ∃ (n44 : Nat) (x43 : Int) (x45 : (List S35)) (x46 : Int) (x47 : Int) (x48 : Int), ρ = [(0, (.ptr q0 0)), (2, (.own q2 0 p2.length)), (4, (.ptr n4 0)), (7, (eI64 (p2.length : Int))), (8, (.ptr n8 0)), (118, (.own q2 ((w64 ((p2.length : Int) - (2 : Int))).toNat) (p2.length - (w64 ((p2.length : Int) - (2 : Int))).toNat))), (119, (eI64 (((p2.length - (w64 ((p2.length : Int) - (2 : Int))).toNat) : Nat) : Int))), (120, (eI64 x48))] ∧ H = ((q0, (.mem (.st [(4, (.st [(1, (eI64 x43)), (1, (.own n44 0 x45.length)), (1, (eI64 x46)), (1, (eI64 x47))]))]))) :: (n44, (.mem (.ar 7 (x45.map e35)))) :: (q2, (.mem (.ar 2 (p2.map e110)))) :: (n4, (.mem (e82 p1))) :: (n8, (.mem (e110 t5.1))) :: T0) ∧ nfa_maker_add_l1 k p1 p2 t5 kq x43 x45 x46 x47 x48 = some r) k ⟨n7, t5.2.f0.f0, t5.2.f0.f1, t5.2.f0.f2, t5.2.f0.f3, (0 : Int), rfl, rfl, h⟩ ?_
            rintro kq50 _ _ ⟨n44, x43, x45, x46, x47, x48, rfl, rfl, h⟩
            cases kq50 with
            | zero => rw [nfa_maker_add_l1.eq_1] at h; cases h
            | succ kq50 =>
            rw [nfa_maker_add_l1.eq_2] at h
            generalize hrec49 : nfa_maker_add_l1 k p1 p2 t5 kq50 = rec49 at h
            refine AW.seq ?_
            refine AW.reg ?_
            refine AO.calm rfl 121 rfl (by decide) (eBool (decide (x48 < (((p2.length - (w64 ((p2.length : Int) - (2 : Int))).toNat) : Nat) : Int)))) (Calm.int rfl rfl rfl rfl) ?_
            refine AO.nil (ρ' := [(0, (.ptr q0 0)), (2, (.own q2 0 p2.length)), (4, (.ptr n4 0)), (7, (eI64 (p2.length : Int))), (8, (.ptr n8 0)), (118, (.own q2 ((w64 ((p2.length : Int) - (2 : Int))).toNat) (p2.length - (w64 ((p2.length : Int) - (2 : Int))).toNat))), (119, (eI64 (((p2.length - (w64 ((p2.length : Int) - (2 : Int))).toNat) : Nat) : Int))), (120, (eI64 x48)), (121, (eBool (decide (x48 < (((p2.length - (w64 ((p2.length : Int) - (2 : Int))).toNat) : Nat) : Int)))))]) (H' := ((q0, (.mem (.st [(4, (.st [(1, (eI64 x43)), (1, (.own n44 0 x45.length)), (1, (eI64 x46)), (1, (eI64 x47))]))]))) :: (n44, (.mem (.ar 7 (x45.map e35)))) :: (q2, (.mem (.ar 2 (p2.map e110)))) :: (n4, (.mem (e82 p1))) :: (n8, (.mem (e110 t5.1))) :: T0)) ⟨rfl, rfl, rfl, rfl, rfl, rfl, rfl, rfl, rfl, trivial⟩ (Sub.refl _) ?_
            refine AW.seq ?_
            by_cases hc51 : x48 < (((p2.length - (w64 ((p2.length : Int) - (2 : Int))).toNat) : Nat) : Int)
            · have h := (if_pos hc51).symm.trans h
              refine AW.condP (x48 < (((p2.length - (w64 ((p2.length : Int) - (2 : Int))).toNat) : Nat) : Int)) rfl hc51 ?_
              refine AW.skip (ρ' := [(0, (.ptr q0 0)), (2, (.own q2 0 p2.length)), (4, (.ptr n4 0)), (7, (eI64 (p2.length : Int))), (8, (.ptr n8 0)), (118, (.own q2 ((w64 ((p2.length : Int) - (2 : Int))).toNat) (p2.length - (w64 ((p2.length : Int) - (2 : Int))).toNat))), (119, (eI64 (((p2.length - (w64 ((p2.length : Int) - (2 : Int))).toNat) : Nat) : Int))), (120, (eI64 x48))]) (H' := ((q0, (.mem (.st [(4, (.st [(1, (eI64 x43)), (1, (.own n44 0 x45.length)), (1, (eI64 x46)), (1, (eI64 x47))]))]))) :: (n44, (.mem (.ar 7 (x45.map e35)))) :: (q2, (.mem (.ar 2 (p2.map e110)))) :: (n4, (.mem (e82 p1))) :: (n8, (.mem (e110 t5.1))) :: T0)) ⟨rfl, rfl, rfl, rfl, rfl, rfl, rfl, rfl, trivial⟩ (Sub.refl _) ?_
              refine AW.seq ?_
              refine AW.block ?_
              refine AW.seq ?_
              refine AW.reg ?_
              obtain ⟨hg52, h⟩ := of_guard h
              have hx53 : 0 ≤ ((w64 ((p2.length : Int) - (2 : Int))) + x48) ∧ ((w64 ((p2.length : Int) - (2 : Int))) + x48) < (p2.length : Int) := by omega
              refine AO.calm rfl 122 rfl (by decide) (.ptr q2 (((w64 ((p2.length : Int) - (2 : Int))) + x48).toNat * 2 + 0)) (Calm.idxSufO 2 rfl rfl rfl rfl hg42.1 hg52 Try.underlying107 sz110) ?_
              refine AO.calm rfl 123 rfl (by decide) (e110 (lget p2 ((w64 ((p2.length : Int) - (2 : Int))) + x48))) (Calm.load 2 rfl rfl rfl (At.cast (At.lidx ((w64 ((p2.length : Int) - (2 : Int))) + x48) hx53.1 hx53.2 At.here) (by omega)) ag110 sz110) ?_
              refine AO.alloc rfl 12 rfl (by decide) rfl zr110 lay110 fun n54 => ?_
              refine AO.store (X' := (e110 (lget p2 ((w64 ((p2.length : Int) - (2 : Int))) + x48)))) 0 rfl rfl rfl rfl rfl rfl (Put.cast Put.here rfl) rfl rfl sz110 rfl ?_
              refine AO.nil (ρ' := [(0, (.ptr q0 0)), (2, (.own q2 0 p2.length)), (4, (.ptr n4 0)), (7, (eI64 (p2.length : Int))), (8, (.ptr n8 0)), (12, (.ptr n54 0)), (118, (.own q2 ((w64 ((p2.length : Int) - (2 : Int))).toNat) (p2.length - (w64 ((p2.length : Int) - (2 : Int))).toNat))), (119, (eI64 (((p2.length - (w64 ((p2.length : Int) - (2 : Int))).toNat) : Nat) : Int))), (120, (eI64 x48))]) (H' := ((q0, (.mem (.st [(4, (.st [(1, (eI64 x43)), (1, (.own n44 0 x45.length)), (1, (eI64 x46)), (1, (eI64 x47))]))]))) :: (n44, (.mem (.ar 7 (x45.map e35)))) :: (q2, (.mem (.ar 2 (p2.map e110)))) :: (n4, (.mem (e82 p1))) :: (n8, (.mem (e110 t5.1))) :: (n54, (.mem (e110 (lget p2 ((w64 ((p2.length : Int) - (2 : Int))) + x48))))) :: T0)) ⟨rfl, rfl, rfl, rfl, rfl, rfl, rfl, rfl, rfl, trivial⟩ (Sub.cons 1 rfl (Sub.cons 1 rfl (Sub.cons 1 rfl (Sub.cons 1 rfl (Sub.cons 1 rfl (Sub.cons 0 rfl (Sub.refl _))))))) ?_
              refine AW.seq ?_
              refine AW.reg ?_
              refine AO.calm rfl 124 rfl (by decide) (.ptr q0 0) (Calm.move rfl rfl) ?_
              refine AO.calm rfl 125 rfl (by decide) (.ptr n8 0) (Calm.fldPtr rfl rfl Try.underlying110 rfl sz3 _ rfl) ?_
              refine AO.calm rfl 126 rfl (by decide) (eI64 t5.1.f0) (Calm.load 4 rfl rfl rfl (At.cast (At.fld0 At.here) rfl) ag3 sz3) ?_
              refine AO.calm rfl 127 rfl (by decide) (.ptr n54 0) (Calm.fldPtr rfl rfl Try.underlying110 rfl sz3 _ rfl) ?_
              refine AO.calm rfl 128 rfl (by decide) (eI64 ((lget p2 ((w64 ((p2.length : Int) - (2 : Int))) + x48)).f0)) (Calm.load 5 rfl rfl rfl (At.cast (At.fld0 At.here) rfl) ag3 sz3) ?_
              obtain ⟨t55, et55, h⟩ := of_bind h
              refine AO.callH [(.ptr q0 0), (eI64 t5.1.f0), (eI64 ((lget p2 ((w64 ((p2.length : Int) - (2 : Int))) + x48)).f0))] ((q0, (.mem (.st [(4, (.st [(1, (eI64 x43)), (1, (.own n44 0 x45.length)), (1, (eI64 x46)), (1, (eI64 x47))]))]))) :: (n44, (.mem (.ar 7 (x45.map e35)))) :: (q2, (.mem (.ar 2 (p2.map e110)))) :: (n4, (.mem (e82 p1))) :: (n8, (.mem (e110 t5.1))) :: (n54, (.mem (e110 (lget p2 ((w64 ((p2.length : Int) - (2 : Int))) + x48))))) :: T0) _ rfl rfl rfl 129 rfl (by decide) ok78 ⟨rfl, rfl, rfl, rfl, rfl, rfl, trivial⟩ (Sub.cons 0 rfl (Sub.cons 0 rfl (Sub.refl _))) (nfa_maker_free_spec et55) ?_
              rintro _ _ ⟨n57, rfl, hs56⟩
              refine AO.weak (ρ' := [(0, (.ptr q0 0)), (2, (.own q2 0 p2.length)), (4, (.ptr n4 0)), (7, (eI64 (p2.length : Int))), (8, (.ptr n8 0)), (12, (.ptr n54 0)), (118, (.own q2 ((w64 ((p2.length : Int) - (2 : Int))).toNat) (p2.length - (w64 ((p2.length : Int) - (2 : Int))).toNat))), (119, (eI64 (((p2.length - (w64 ((p2.length : Int) - (2 : Int))).toNat) : Nat) : Int))), (120, (eI64 x48)), (124, (.ptr q0 0)), (125, (.ptr n8 0)), (126, (eI64 t5.1.f0)), (127, (.ptr n54 0)), (128, (eI64 ((lget p2 ((w64 ((p2.length : Int) - (2 : Int))) + x48)).f0))), (129, (.tup []))]) (H' := ((q0, (.mem (.st [(4, (.st [(1, (eI64 t55.f0.f0)), (1, (.own n57 0 t55.f0.f1.length)), (1, (eI64 t55.f0.f2)), (1, (eI64 t55.f0.f3))]))]))) :: (n57, (.mem (.ar 7 (t55.f0.f1.map e35)))) :: (q2, (.mem (.ar 2 (p2.map e110)))) :: (n4, (.mem (e82 p1))) :: (n8, (.mem (e110 t5.1))) :: (n54, (.mem (e110 (lget p2 ((w64 ((p2.length : Int) - (2 : Int))) + x48))))) :: T0)) ⟨rfl, rfl, rfl, rfl, rfl, rfl, rfl, rfl, rfl, rfl, rfl, rfl, rfl, rfl, rfl, trivial⟩ hs56 ?_
              refine AO.nil (ρ' := [(0, (.ptr q0 0)), (2, (.own q2 0 p2.length)), (4, (.ptr n4 0)), (7, (eI64 (p2.length : Int))), (8, (.ptr n8 0)), (12, (.ptr n54 0)), (118, (.own q2 ((w64 ((p2.length : Int) - (2 : Int))).toNat) (p2.length - (w64 ((p2.length : Int) - (2 : Int))).toNat))), (119, (eI64 (((p2.length - (w64 ((p2.length : Int) - (2 : Int))).toNat) : Nat) : Int))), (120, (eI64 x48))]) (H' := ((q0, (.mem (.st [(4, (.st [(1, (eI64 t55.f0.f0)), (1, (.own n57 0 t55.f0.f1.length)), (1, (eI64 t55.f0.f2)), (1, (eI64 t55.f0.f3))]))]))) :: (n57, (.mem (.ar 7 (t55.f0.f1.map e35)))) :: (q2, (.mem (.ar 2 (p2.map e110)))) :: (n4, (.mem (e82 p1))) :: (n8, (.mem (e110 t5.1))) :: (n54, (.mem (e110 (lget p2 ((w64 ((p2.length : Int) - (2 : Int))) + x48))))) :: T0)) ⟨rfl, rfl, rfl, rfl, rfl, rfl, rfl, rfl, rfl, trivial⟩ (Sub.refl _) ?_
              refine AW.reg ?_
              refine AO.calm rfl 130 rfl (by decide) (.ptr q0 0) (Calm.move rfl rfl) ?_
              refine AO.calm rfl 131 rfl (by decide) (.ptr n54 1) (Calm.fldPtr rfl rfl Try.underlying110 rfl sz3 _ rfl) ?_
              refine AO.calm rfl 132 rfl (by decide) (eI64 ((lget p2 ((w64 ((p2.length : Int) - (2 : Int))) + x48)).f1)) (Calm.load 5 rfl rfl rfl (At.cast (At.fldS (At.fld0 At.here)) rfl) ag3 sz3) ?_
              refine AO.calm rfl 133 rfl (by decide) (.ptr n8 1) (Calm.fldPtr rfl rfl Try.underlying110 rfl sz3 _ rfl) ?_
              refine AO.calm rfl 134 rfl (by decide) (eI64 t5.1.f1) (Calm.load 4 rfl rfl rfl (At.cast (At.fldS (At.fld0 At.here)) rfl) ag3 sz3) ?_
              obtain ⟨t58, et58, h⟩ := of_bind h
              refine AO.callH [(.ptr q0 0), (eI64 ((lget p2 ((w64 ((p2.length : Int) - (2 : Int))) + x48)).f1)), (eI64 t5.1.f1)] ((q0, (.mem (.st [(4, (.st [(1, (eI64 t55.f0.f0)), (1, (.own n57 0 t55.f0.f1.length)), (1, (eI64 t55.f0.f2)), (1, (eI64 t55.f0.f3))]))]))) :: (n57, (.mem (.ar 7 (t55.f0.f1.map e35)))) :: (q2, (.mem (.ar 2 (p2.map e110)))) :: (n4, (.mem (e82 p1))) :: (n8, (.mem (e110 t5.1))) :: (n54, (.mem (e110 (lget p2 ((w64 ((p2.length : Int) - (2 : Int))) + x48))))) :: T0) _ rfl rfl rfl 135 rfl (by decide) ok78 ⟨rfl, rfl, rfl, rfl, rfl, rfl, trivial⟩ (Sub.cons 0 rfl (Sub.cons 0 rfl (Sub.refl _))) (nfa_maker_free_spec et58) ?_
              rintro _ _ ⟨n60, rfl, hs59⟩
              refine AO.weak (ρ' := [(0, (.ptr q0 0)), (2, (.own q2 0 p2.length)), (4, (.ptr n4 0)), (7, (eI64 (p2.length : Int))), (8, (.ptr n8 0)), (12, (.ptr n54 0)), (118, (.own q2 ((w64 ((p2.length : Int) - (2 : Int))).toNat) (p2.length - (w64 ((p2.length : Int) - (2 : Int))).toNat))), (119, (eI64 (((p2.length - (w64 ((p2.length : Int) - (2 : Int))).toNat) : Nat) : Int))), (120, (eI64 x48)), (130, (.ptr q0 0)), (131, (.ptr n54 1)), (132, (eI64 ((lget p2 ((w64 ((p2.length : Int) - (2 : Int))) + x48)).f1))), (133, (.ptr n8 1)), (134, (eI64 t5.1.f1)), (135, (.tup []))]) (H' := ((q0, (.mem (.st [(4, (.st [(1, (eI64 t58.f0.f0)), (1, (.own n60 0 t58.f0.f1.length)), (1, (eI64 t58.f0.f2)), (1, (eI64 t58.f0.f3))]))]))) :: (n60, (.mem (.ar 7 (t58.f0.f1.map e35)))) :: (q2, (.mem (.ar 2 (p2.map e110)))) :: (n4, (.mem (e82 p1))) :: (n8, (.mem (e110 t5.1))) :: (n54, (.mem (e110 (lget p2 ((w64 ((p2.length : Int) - (2 : Int))) + x48))))) :: T0)) ⟨rfl, rfl, rfl, rfl, rfl, rfl, rfl, rfl, rfl, rfl, rfl, rfl, rfl, rfl, rfl, trivial⟩ hs59 ?_
              refine AO.nil (ρ' := [(0, (.ptr q0 0)), (2, (.own q2 0 p2.length)), (4, (.ptr n4 0)), (7, (eI64 (p2.length : Int))), (8, (.ptr n8 0)), (118, (.own q2 ((w64 ((p2.length : Int) - (2 : Int))).toNat) (p2.length - (w64 ((p2.length : Int) - (2 : Int))).toNat))), (119, (eI64 (((p2.length - (w64 ((p2.length : Int) - (2 : Int))).toNat) : Nat) : Int))), (120, (eI64 x48))]) (H' := ((q0, (.mem (.st [(4, (.st [(1, (eI64 t58.f0.f0)), (1, (.own n60 0 t58.f0.f1.length)), (1, (eI64 t58.f0.f2)), (1, (eI64 t58.f0.f3))]))]))) :: (n60, (.mem (.ar 7 (t58.f0.f1.map e35)))) :: (q2, (.mem (.ar 2 (p2.map e110)))) :: (n4, (.mem (e82 p1))) :: (n8, (.mem (e110 t5.1))) :: T0)) ⟨rfl, rfl, rfl, rfl, rfl, rfl, rfl, rfl, trivial⟩ (Sub.cons 0 rfl (Sub.cons 0 rfl (Sub.cons 0 rfl (Sub.cons 0 rfl (Sub.cons 0 rfl (Sub.drop (Sub.refl _))))))) ?_
              refine AW.reg ?_
              refine AO.calm rfl 136 rfl (by decide) (eI64 (w64 (x48 + (1 : Int)))) (Calm.int rfl rfl rfl rfl) ?_
              refine AO.calm rfl 120 rfl (by decide) (eI64 (w64 (x48 + (1 : Int)))) (Calm.move rfl rfl) ?_
              refine AO.nil (ρ' := [(0, (.ptr q0 0)), (2, (.own q2 0 p2.length)), (4, (.ptr n4 0)), (7, (eI64 (p2.length : Int))), (8, (.ptr n8 0)), (118, (.own q2 ((w64 ((p2.length : Int) - (2 : Int))).toNat) (p2.length - (w64 ((p2.length : Int) - (2 : Int))).toNat))), (119, (eI64 (((p2.length - (w64 ((p2.length : Int) - (2 : Int))).toNat) : Nat) : Int))), (120, (eI64 (w64 (x48 + (1 : Int)))))]) (H' := ((q0, (.mem (.st [(4, (.st [(1, (eI64 t58.f0.f0)), (1, (.own n60 0 t58.f0.f1.length)), (1, (eI64 t58.f0.f2)), (1, (eI64 t58.f0.f3))]))]))) :: (n60, (.mem (.ar 7 (t58.f0.f1.map e35)))) :: (q2, (.mem (.ar 2 (p2.map e110)))) :: (n4, (.mem (e82 p1))) :: (n8, (.mem (e110 t5.1))) :: T0)) ⟨rfl, rfl, rfl, rfl, rfl, rfl, rfl, rfl, trivial⟩ (Sub.refl _) ?_
              exact ⟨kq50, Nat.lt_succ_self _, n60, t58.f0.f0, t58.f0.f1, t58.f0.f2, t58.f0.f3, (w64 (x48 + (1 : Int))), rfl, rfl, by rw [hrec49]; exact h⟩
            · have h := (if_neg hc51).symm.trans h
              refine AW.condN (x48 < (((p2.length - (w64 ((p2.length : Int) - (2 : Int))).toNat) : Nat) : Int)) rfl hc51 ?_
              refine AW.exit (ρ' := [(2, (.own q2 0 p2.length)), (4, (.ptr n4 0)), (7, (eI64 (p2.length : Int))), (8, (.ptr n8 0))]) (H' := ((q0, (.mem (.st [(4, (.st [(1, (eI64 x43)), (1, (.own n44 0 x45.length)), (1, (eI64 x46)), (1, (eI64 x47))]))]))) :: (n44, (.mem (.ar 7 (x45.map e35)))) :: (q2, (.mem (.ar 2 (p2.map e110)))) :: (n4, (.mem (e82 p1))) :: (n8, (.mem (e110 t5.1))) :: T0)) ⟨rfl, rfl, rfl, rfl, trivial⟩ (Sub.refl _) ?_
              exact ⟨n44, x43, x45, x46, x47, rfl, rfl, h⟩
          · have h := (if_neg hc41).symm.trans h
            refine AW.condN (p1.f0 = (3 : Int)) rfl hc41 ?_
            refine AW.seq ?_
            refine AW.reg ?_
            refine AO.calm rfl 20 rfl (by decide) (.own q2 0 p2.length) (Calm.move rfl rfl) ?_
            refine AO.calm rfl 21 rfl (by decide) (eI64 (p2.length : Int)) (Calm.move rfl rfl) ?_
            refine AO.calm rfl 22 rfl (by decide) (eI64 (w64 ((p2.length : Int) - (1 : Int)))) (Calm.int rfl rfl rfl rfl) ?_
            obtain ⟨hg61, h⟩ := of_guard h
            refine AO.calm rfl 23 rfl (by decide) (.ptr q2 ((w64 ((p2.length : Int) - (1 : Int))).toNat * 2 + 0)) (Calm.idxO 2 rfl rfl rfl rfl hg61 Try.underlying107 sz110) ?_
            refine AO.calm rfl 24 rfl (by decide) (e110 (lget p2 (w64 ((p2.length : Int) - (1 : Int))))) (Calm.load 2 rfl rfl rfl (At.cast (At.lidx (w64 ((p2.length : Int) - (1 : Int))) hg61.1 hg61.2 At.here) (by omega)) ag110 sz110) ?_
            refine AO.alloc rfl 13 rfl (by decide) rfl zr110 lay110 fun n62 => ?_
            refine AO.store (X' := (e110 (lget p2 (w64 ((p2.length : Int) - (1 : Int)))))) 0 rfl rfl rfl rfl rfl rfl (Put.cast Put.here rfl) rfl rfl sz110 rfl ?_
            refine AO.nil (ρ' := [(0, (.ptr q0 0)), (2, (.own q2 0 p2.length)), (4, (.ptr n4 0)), (7, (eI64 (p2.length : Int))), (8, (.ptr n8 0)), (13, (.ptr n62 0))]) (H' := ((q0, (.mem (.st [(4, (.st [(1, (eI64 t5.2.f0.f0)), (1, (.own n7 0 t5.2.f0.f1.length)), (1, (eI64 t5.2.f0.f2)), (1, (eI64 t5.2.f0.f3))]))]))) :: (n7, (.mem (.ar 7 (t5.2.f0.f1.map e35)))) :: (q2, (.mem (.ar 2 (p2.map e110)))) :: (n4, (.mem (e82 p1))) :: (n8, (.mem (e110 t5.1))) :: (n62, (.mem (e110 (lget p2 (w64 ((p2.length : Int) - (1 : Int))))))) :: T0)) ⟨rfl, rfl, rfl, rfl, rfl, rfl, trivial⟩ (Sub.cons 1 rfl (Sub.cons 1 rfl (Sub.cons 1 rfl (Sub.cons 1 rfl (Sub.cons 1 rfl (Sub.cons 0 rfl (Sub.refl _))))))) ?_
            refine AW.seq ?_
            refine AW.reg ?_
            refine AO.calm rfl 25 rfl (by decide) (.ptr q0 0) (Calm.move rfl rfl) ?_
            refine AO.calm rfl 26 rfl (by decide) (.ptr n8 0) (Calm.fldPtr rfl rfl Try.underlying110 rfl sz3 _ rfl) ?_
            refine AO.calm rfl 27 rfl (by decide) (eI64 t5.1.f0) (Calm.load 4 rfl rfl rfl (At.cast (At.fld0 At.here) rfl) ag3 sz3) ?_
            refine AO.calm rfl 28 rfl (by decide) (.ptr n62 0) (Calm.fldPtr rfl rfl Try.underlying110 rfl sz3 _ rfl) ?_
            refine AO.calm rfl 29 rfl (by decide) (eI64 ((lget p2 (w64 ((p2.length : Int) - (1 : Int)))).f0)) (Calm.load 5 rfl rfl rfl (At.cast (At.fld0 At.here) rfl) ag3 sz3) ?_
            obtain ⟨t63, et63, h⟩ := of_bind h
            refine AO.callH [(.ptr q0 0), (eI64 t5.1.f0), (eI64 ((lget p2 (w64 ((p2.length : Int) - (1 : Int)))).f0))] ((q0, (.mem (.st [(4, (.st [(1, (eI64 t5.2.f0.f0)), (1, (.own n7 0 t5.2.f0.f1.length)), (1, (eI64 t5.2.f0.f2)), (1, (eI64 t5.2.f0.f3))]))]))) :: (n7, (.mem (.ar 7 (t5.2.f0.f1.map e35)))) :: (q2, (.mem (.ar 2 (p2.map e110)))) :: (n4, (.mem (e82 p1))) :: (n8, (.mem (e110 t5.1))) :: (n62, (.mem (e110 (lget p2 (w64 ((p2.length : Int) - (1 : Int))))))) :: T0) _ rfl rfl rfl 30 rfl (by decide) ok78 ⟨rfl, rfl, rfl, rfl, rfl, rfl, trivial⟩ (Sub.cons 0 rfl (Sub.cons 0 rfl (Sub.refl _))) (nfa_maker_free_spec et63) ?_
            rintro _ _ ⟨n65, rfl, hs64⟩
            refine AO.weak (ρ' := [(0, (.ptr q0 0)), (2, (.own q2 0 p2.length)), (4, (.ptr n4 0)), (7, (eI64 (p2.length : Int))), (8, (.ptr n8 0)), (13, (.ptr n62 0)), (25, (.ptr q0 0)), (26, (.ptr n8 0)), (27, (eI64 t5.1.f0)), (28, (.ptr n62 0)), (29, (eI64 ((lget p2 (w64 ((p2.length : Int) - (1 : Int)))).f0))), (30, (.tup []))]) (H' := ((q0, (.mem (.st [(4, (.st [(1, (eI64 t63.f0.f0)), (1, (.own n65 0 t63.f0.f1.length)), (1, (eI64 t63.f0.f2)), (1, (eI64 t63.f0.f3))]))]))) :: (n65, (.mem (.ar 7 (t63.f0.f1.map e35)))) :: (q2, (.mem (.ar 2 (p2.map e110)))) :: (n4, (.mem (e82 p1))) :: (n8, (.mem (e110 t5.1))) :: (n62, (.mem (e110 (lget p2 (w64 ((p2.length : Int) - (1 : Int))))))) :: T0)) ⟨rfl, rfl, rfl, rfl, rfl, rfl, rfl, rfl, rfl, rfl, rfl, rfl, trivial⟩ hs64 ?_
            refine AO.nil (ρ' := [(0, (.ptr q0 0)), (2, (.own q2 0 p2.length)), (4, (.ptr n4 0)), (7, (eI64 (p2.length : Int))), (8, (.ptr n8 0)), (13, (.ptr n62 0))]) (H' := ((q0, (.mem (.st [(4, (.st [(1, (eI64 t63.f0.f0)), (1, (.own n65 0 t63.f0.f1.length)), (1, (eI64 t63.f0.f2)), (1, (eI64 t63.f0.f3))]))]))) :: (n65, (.mem (.ar 7 (t63.f0.f1.map e35)))) :: (q2, (.mem (.ar 2 (p2.map e110)))) :: (n4, (.mem (e82 p1))) :: (n8, (.mem (e110 t5.1))) :: (n62, (.mem (e110 (lget p2 (w64 ((p2.length : Int) - (1 : Int))))))) :: T0)) ⟨rfl, rfl, rfl, rfl, rfl, rfl, trivial⟩ (Sub.refl _) ?_
            refine AW.seq ?_
            refine AW.reg ?_
            refine AO.calm rfl 31 rfl (by decide) (.ptr q0 0) (Calm.move rfl rfl) ?_
            refine AO.calm rfl 32 rfl (by decide) (.ptr n62 1) (Calm.fldPtr rfl rfl Try.underlying110 rfl sz3 _ rfl) ?_
            refine AO.calm rfl 33 rfl (by decide) (eI64 ((lget p2 (w64 ((p2.length : Int) - (1 : Int)))).f1)) (Calm.load 5 rfl rfl rfl (At.cast (At.fldS (At.fld0 At.here)) rfl) ag3 sz3) ?_
            refine AO.calm rfl 34 rfl (by decide) (.ptr n8 1) (Calm.fldPtr rfl rfl Try.underlying110 rfl sz3 _ rfl) ?_
            refine AO.calm rfl 35 rfl (by decide) (eI64 t5.1.f1) (Calm.load 4 rfl rfl rfl (At.cast (At.fldS (At.fld0 At.here)) rfl) ag3 sz3) ?_
            obtain ⟨t66, et66, h⟩ := of_bind h
            refine AO.callH [(.ptr q0 0), (eI64 ((lget p2 (w64 ((p2.length : Int) - (1 : Int)))).f1)), (eI64 t5.1.f1)] ((q0, (.mem (.st [(4, (.st [(1, (eI64 t63.f0.f0)), (1, (.own n65 0 t63.f0.f1.length)), (1, (eI64 t63.f0.f2)), (1, (eI64 t63.f0.f3))]))]))) :: (n65, (.mem (.ar 7 (t63.f0.f1.map e35)))) :: (q2, (.mem (.ar 2 (p2.map e110)))) :: (n4, (.mem (e82 p1))) :: (n8, (.mem (e110 t5.1))) :: (n62, (.mem (e110 (lget p2 (w64 ((p2.length : Int) - (1 : Int))))))) :: T0) _ rfl rfl rfl 36 rfl (by decide) ok78 ⟨rfl, rfl, rfl, rfl, rfl, rfl, trivial⟩ (Sub.cons 0 rfl (Sub.cons 0 rfl (Sub.refl _))) (nfa_maker_free_spec et66) ?_
            rintro _ _ ⟨n68, rfl, hs67⟩
            refine AO.weak (ρ' := [(0, (.ptr q0 0)), (2, (.own q2 0 p2.length)), (4, (.ptr n4 0)), (7, (eI64 (p2.length : Int))), (8, (.ptr n8 0)), (13, (.ptr n62 0)), (31, (.ptr q0 0)), (32, (.ptr n62 1)), (33, (eI64 ((lget p2 (w64 ((p2.length : Int) - (1 : Int)))).f1))), (34, (.ptr n8 1)), (35, (eI64 t5.1.f1)), (36, (.tup []))]) (H' := ((q0, (.mem (.st [(4, (.st [(1, (eI64 t66.f0.f0)), (1, (.own n68 0 t66.f0.f1.length)), (1, (eI64 t66.f0.f2)), (1, (eI64 t66.f0.f3))]))]))) :: (n68, (.mem (.ar 7 (t66.f0.f1.map e35)))) :: (q2, (.mem (.ar 2 (p2.map e110)))) :: (n4, (.mem (e82 p1))) :: (n8, (.mem (e110 t5.1))) :: (n62, (.mem (e110 (lget p2 (w64 ((p2.length : Int) - (1 : Int))))))) :: T0)) ⟨rfl, rfl, rfl, rfl, rfl, rfl, rfl, rfl, rfl, rfl, rfl, rfl, trivial⟩ hs67 ?_
            refine AO.nil (ρ' := [(0, (.ptr q0 0)), (2, (.own q2 0 p2.length)), (4, (.ptr n4 0)), (7, (eI64 (p2.length : Int))), (8, (.ptr n8 0)), (13, (.ptr n62 0))]) (H' := ((q0, (.mem (.st [(4, (.st [(1, (eI64 t66.f0.f0)), (1, (.own n68 0 t66.f0.f1.length)), (1, (eI64 t66.f0.f2)), (1, (eI64 t66.f0.f3))]))]))) :: (n68, (.mem (.ar 7 (t66.f0.f1.map e35)))) :: (q2, (.mem (.ar 2 (p2.map e110)))) :: (n4, (.mem (e82 p1))) :: (n8, (.mem (e110 t5.1))) :: (n62, (.mem (e110 (lget p2 (w64 ((p2.length : Int) - (1 : Int))))))) :: T0)) ⟨rfl, rfl, rfl, rfl, rfl, rfl, trivial⟩ (Sub.refl _) ?_
            refine AW.seq_mid (fun ρ H => ∃ (n70 : Nat) (x69 : Int) (x71 : (List S35)) (x72 : Int) (x73 : Int), ρ = [(0, (.ptr q0 0)), (2, (.own q2 0 p2.length)), (4, (.ptr n4 0)), (7, (eI64 (p2.length : Int))), (8, (.ptr n8 0))] ∧ H = ((q0, (.mem (.st [(4, (.st [(1, (eI64 x69)), (1, (.own n70 0 x71.length)), (1, (eI64 x72)), (1, (eI64 x73))]))]))) :: (n70, (.mem (.ar 7 (x71.map e35)))) :: (q2, (.mem (.ar 2 (p2.map e110)))) :: (n4, (.mem (e82 p1))) :: (n8, (.mem (e110 t5.1))) :: T0) ∧ nfa_maker_add_c2 k p1 p2 t5 x69 x71 x72 x73 = some r) ?_ ?_
            · refine AW.seq ?_
              refine AW.reg ?_
              refine AO.calm rfl 37 rfl (by decide) (.ptr n4 0) (Calm.fldPtr rfl rfl Try.underlying82 rfl sz3 _ rfl) ?_
              refine AO.calm rfl 38 rfl (by decide) (eI64 p1.f0) (Calm.load 3 rfl rfl rfl (At.cast (At.fld0 At.here) rfl) ag3 sz3) ?_
              refine AO.calm rfl 39 rfl (by decide) (eBool (decide (p1.f0 ≠ (6 : Int)))) (Calm.int rfl rfl rfl rfl) ?_
              refine AO.nil (ρ' := [(0, (.ptr q0 0)), (2, (.own q2 0 p2.length)), (4, (.ptr n4 0)), (7, (eI64 (p2.length : Int))), (8, (.ptr n8 0)), (13, (.ptr n62 0)), (39, (eBool (decide (p1.f0 ≠ (6 : Int)))))]) (H' := ((q0, (.mem (.st [(4, (.st [(1, (eI64 t66.f0.f0)), (1, (.own n68 0 t66.f0.f1.length)), (1, (eI64 t66.f0.f2)), (1, (eI64 t66.f0.f3))]))]))) :: (n68, (.mem (.ar 7 (t66.f0.f1.map e35)))) :: (q2, (.mem (.ar 2 (p2.map e110)))) :: (n4, (.mem (e82 p1))) :: (n8, (.mem (e110 t5.1))) :: (n62, (.mem (e110 (lget p2 (w64 ((p2.length : Int) - (1 : Int))))))) :: T0)) ⟨rfl, rfl, rfl, rfl, rfl, rfl, rfl, trivial⟩ (Sub.refl _) ?_
              by_cases hc78 : p1.f0 ≠ (6 : Int)
              · have h := (if_pos hc78).symm.trans h
                refine AW.condP (p1.f0 ≠ (6 : Int)) rfl hc78 ?_
                refine AW.reg ?_
                refine AO.calm rfl 40 rfl (by decide) (.ptr q0 0) (Calm.move rfl rfl) ?_
                refine AO.calm rfl 41 rfl (by decide) (.ptr n62 1) (Calm.fldPtr rfl rfl Try.underlying110 rfl sz3 _ rfl) ?_
                refine AO.calm rfl 42 rfl (by decide) (eI64 ((lget p2 (w64 ((p2.length : Int) - (1 : Int)))).f1)) (Calm.load 5 rfl rfl rfl (At.cast (At.fldS (At.fld0 At.here)) rfl) ag3 sz3) ?_
                refine AO.calm rfl 43 rfl (by decide) (.ptr n62 0) (Calm.fldPtr rfl rfl Try.underlying110 rfl sz3 _ rfl) ?_
                refine AO.calm rfl 44 rfl (by decide) (eI64 ((lget p2 (w64 ((p2.length : Int) - (1 : Int)))).f0)) (Calm.load 5 rfl rfl rfl (At.cast (At.fld0 At.here) rfl) ag3 sz3) ?_
                obtain ⟨t79, et79, h⟩ := of_bind h
                refine AO.callH [(.ptr q0 0), (eI64 ((lget p2 (w64 ((p2.length : Int) - (1 : Int)))).f1)), (eI64 ((lget p2 (w64 ((p2.length : Int) - (1 : Int)))).f0))] ((q0, (.mem (.st [(4, (.st [(1, (eI64 t66.f0.f0)), (1, (.own n68 0 t66.f0.f1.length)), (1, (eI64 t66.f0.f2)), (1, (eI64 t66.f0.f3))]))]))) :: (n68, (.mem (.ar 7 (t66.f0.f1.map e35)))) :: (q2, (.mem (.ar 2 (p2.map e110)))) :: (n4, (.mem (e82 p1))) :: (n8, (.mem (e110 t5.1))) :: (n62, (.mem (e110 (lget p2 (w64 ((p2.length : Int) - (1 : Int))))))) :: T0) _ rfl rfl rfl 45 rfl (by decide) ok78 ⟨rfl, rfl, rfl, rfl, rfl, rfl, trivial⟩ (Sub.cons 0 rfl (Sub.cons 0 rfl (Sub.refl _))) (nfa_maker_free_spec et79) ?_
                rintro _ _ ⟨n81, rfl, hs80⟩
                refine AO.weak (ρ' := [(0, (.ptr q0 0)), (2, (.own q2 0 p2.length)), (4, (.ptr n4 0)), (7, (eI64 (p2.length : Int))), (8, (.ptr n8 0)), (13, (.ptr n62 0)), (39, (eBool (decide (p1.f0 ≠ (6 : Int))))), (40, (.ptr q0 0)), (41, (.ptr n62 1)), (42, (eI64 ((lget p2 (w64 ((p2.length : Int) - (1 : Int)))).f1))), (43, (.ptr n62 0)), (44, (eI64 ((lget p2 (w64 ((p2.length : Int) - (1 : Int)))).f0))), (45, (.tup []))]) (H' := ((q0, (.mem (.st [(4, (.st [(1, (eI64 t79.f0.f0)), (1, (.own n81 0 t79.f0.f1.length)), (1, (eI64 t79.f0.f2)), (1, (eI64 t79.f0.f3))]))]))) :: (n81, (.mem (.ar 7 (t79.f0.f1.map e35)))) :: (q2, (.mem (.ar 2 (p2.map e110)))) :: (n4, (.mem (e82 p1))) :: (n8, (.mem (e110 t5.1))) :: (n62, (.mem (e110 (lget p2 (w64 ((p2.length : Int) - (1 : Int))))))) :: T0)) ⟨rfl, rfl, rfl, rfl, rfl, rfl, rfl, rfl, rfl, rfl, rfl, rfl, rfl, trivial⟩ hs80 ?_
                refine AO.nil (ρ' := [(0, (.ptr q0 0)), (2, (.own q2 0 p2.length)), (4, (.ptr n4 0)), (7, (eI64 (p2.length : Int))), (8, (.ptr n8 0))]) (H' := ((q0, (.mem (.st [(4, (.st [(1, (eI64 t79.f0.f0)), (1, (.own n81 0 t79.f0.f1.length)), (1, (eI64 t79.f0.f2)), (1, (eI64 t79.f0.f3))]))]))) :: (n81, (.mem (.ar 7 (t79.f0.f1.map e35)))) :: (q2, (.mem (.ar 2 (p2.map e110)))) :: (n4, (.mem (e82 p1))) :: (n8, (.mem (e110 t5.1))) :: T0)) ⟨rfl, rfl, rfl, rfl, rfl, trivial⟩ (Sub.cons 0 rfl (Sub.cons 0 rfl (Sub.cons 0 rfl (Sub.cons 0 rfl (Sub.cons 0 rfl (Sub.drop (Sub.refl _))))))) ?_
                exact ⟨n81, t79.f0.f0, t79.f0.f1, t79.f0.f2, t79.f0.f3, rfl, rfl, h⟩
              · have h := (if_neg hc78).symm.trans h
                refine AW.condN (p1.f0 ≠ (6 : Int)) rfl hc78 ?_
                refine AW.skip (ρ' := [(0, (.ptr q0 0)), (2, (.own q2 0 p2.length)), (4, (.ptr n4 0)), (7, (eI64 (p2.length : Int))), (8, (.ptr n8 0))]) (H' := ((q0, (.mem (.st [(4, (.st [(1, (eI64 t66.f0.f0)), (1, (.own n68 0 t66.f0.f1.length)), (1, (eI64 t66.f0.f2)), (1, (eI64 t66.f0.f3))]))]))) :: (n68, (.mem (.ar 7 (t66.f0.f1.map e35)))) :: (q2, (.mem (.ar 2 (p2.map e110)))) :: (n4, (.mem (e82 p1))) :: (n8, (.mem (e110 t5.1))) :: T0)) ⟨rfl, rfl, rfl, rfl, rfl, trivial⟩ (Sub.cons 0 rfl (Sub.cons 0 rfl (Sub.cons 0 rfl (Sub.cons 0 rfl (Sub.cons 0 rfl (Sub.drop (Sub.refl _))))))) ?_
                exact ⟨n68, t66.f0.f0, t66.f0.f1, t66.f0.f2, t66.f0.f3, rfl, rfl, h⟩
            · rintro _ _ ⟨n70, x69, x71, x72, x73, rfl, rfl, h⟩
              rw [nfa_maker_add_c2.eq_1] at h
              refine AW.seq ?_
              refine AW.reg ?_
              refine AO.calm rfl 46 rfl (by decide) (.ptr n4 0) (Calm.fldPtr rfl rfl Try.underlying82 rfl sz3 _ rfl) ?_
              refine AO.calm rfl 47 rfl (by decide) (eI64 p1.f0) (Calm.load 3 rfl rfl rfl (At.cast (At.fld0 At.here) rfl) ag3 sz3) ?_
              refine AO.calm rfl 48 rfl (by decide) (eBool (decide (p1.f0 ≠ (5 : Int)))) (Calm.int rfl rfl rfl rfl) ?_
              refine AO.nil (ρ' := [(0, (.ptr q0 0)), (2, (.own q2 0 p2.length)), (4, (.ptr n4 0)), (7, (eI64 (p2.length : Int))), (8, (.ptr n8 0)), (48, (eBool (decide (p1.f0 ≠ (5 : Int)))))]) (H' := ((q0, (.mem (.st [(4, (.st [(1, (eI64 x69)), (1, (.own n70 0 x71.length)), (1, (eI64 x72)), (1, (eI64 x73))]))]))) :: (n70, (.mem (.ar 7 (x71.map e35)))) :: (q2, (.mem (.ar 2 (p2.map e110)))) :: (n4, (.mem (e82 p1))) :: (n8, (.mem (e110 t5.1))) :: T0)) ⟨rfl, rfl, rfl, rfl, rfl, rfl, trivial⟩ (Sub.refl _) ?_
              by_cases hc74 : p1.f0 ≠ (5 : Int)
              · have h := (if_pos hc74).symm.trans h
                refine AW.condP (p1.f0 ≠ (5 : Int)) rfl hc74 ?_
                refine AW.reg ?_
                refine AO.calm rfl 49 rfl (by decide) (.ptr q0 0) (Calm.move rfl rfl) ?_
                refine AO.calm rfl 50 rfl (by decide) (.ptr n8 0) (Calm.fldPtr rfl rfl Try.underlying110 rfl sz3 _ rfl) ?_
                refine AO.calm rfl 51 rfl (by decide) (eI64 t5.1.f0) (Calm.load 4 rfl rfl rfl (At.cast (At.fld0 At.here) rfl) ag3 sz3) ?_
                refine AO.calm rfl 52 rfl (by decide) (.ptr n8 1) (Calm.fldPtr rfl rfl Try.underlying110 rfl sz3 _ rfl) ?_
                refine AO.calm rfl 53 rfl (by decide) (eI64 t5.1.f1) (Calm.load 4 rfl rfl rfl (At.cast (At.fldS (At.fld0 At.here)) rfl) ag3 sz3) ?_
                obtain ⟨t75, et75, h⟩ := of_bind h
                refine AO.callH [(.ptr q0 0), (eI64 t5.1.f0), (eI64 t5.1.f1)] ((q0, (.mem (.st [(4, (.st [(1, (eI64 x69)), (1, (.own n70 0 x71.length)), (1, (eI64 x72)), (1, (eI64 x73))]))]))) :: (n70, (.mem (.ar 7 (x71.map e35)))) :: (q2, (.mem (.ar 2 (p2.map e110)))) :: (n4, (.mem (e82 p1))) :: (n8, (.mem (e110 t5.1))) :: T0) _ rfl rfl rfl 54 rfl (by decide) ok78 ⟨rfl, rfl, rfl, rfl, rfl, rfl, trivial⟩ (Sub.cons 0 rfl (Sub.cons 0 rfl (Sub.refl _))) (nfa_maker_free_spec et75) ?_
                rintro _ _ ⟨n77, rfl, hs76⟩
                refine AO.weak (ρ' := [(0, (.ptr q0 0)), (2, (.own q2 0 p2.length)), (4, (.ptr n4 0)), (7, (eI64 (p2.length : Int))), (8, (.ptr n8 0)), (48, (eBool (decide (p1.f0 ≠ (5 : Int))))), (49, (.ptr q0 0)), (50, (.ptr n8 0)), (51, (eI64 t5.1.f0)), (52, (.ptr n8 1)), (53, (eI64 t5.1.f1)), (54, (.tup []))]) (H' := ((q0, (.mem (.st [(4, (.st [(1, (eI64 t75.f0.f0)), (1, (.own n77 0 t75.f0.f1.length)), (1, (eI64 t75.f0.f2)), (1, (eI64 t75.f0.f3))]))]))) :: (n77, (.mem (.ar 7 (t75.f0.f1.map e35)))) :: (q2, (.mem (.ar 2 (p2.map e110)))) :: (n4, (.mem (e82 p1))) :: (n8, (.mem (e110 t5.1))) :: T0)) ⟨rfl, rfl, rfl, rfl, rfl, rfl, rfl, rfl, rfl, rfl, rfl, rfl, trivial⟩ hs76 ?_
                refine AO.nil (ρ' := [(2, (.own q2 0 p2.length)), (4, (.ptr n4 0)), (7, (eI64 (p2.length : Int))), (8, (.ptr n8 0))]) (H' := ((q0, (.mem (.st [(4, (.st [(1, (eI64 t75.f0.f0)), (1, (.own n77 0 t75.f0.f1.length)), (1, (eI64 t75.f0.f2)), (1, (eI64 t75.f0.f3))]))]))) :: (n77, (.mem (.ar 7 (t75.f0.f1.map e35)))) :: (q2, (.mem (.ar 2 (p2.map e110)))) :: (n4, (.mem (e82 p1))) :: (n8, (.mem (e110 t5.1))) :: T0)) ⟨rfl, rfl, rfl, rfl, trivial⟩ (Sub.refl _) ?_
                exact ⟨n77, t75.f0.f0, t75.f0.f1, t75.f0.f2, t75.f0.f3, rfl, rfl, h⟩
              · have h := (if_neg hc74).symm.trans h
                refine AW.condN (p1.f0 ≠ (5 : Int)) rfl hc74 ?_
                refine AW.skip (ρ' := [(2, (.own q2 0 p2.length)), (4, (.ptr n4 0)), (7, (eI64 (p2.length : Int))), (8, (.ptr n8 0))]) (H' := ((q0, (.mem (.st [(4, (.st [(1, (eI64 x69)), (1, (.own n70 0 x71.length)), (1, (eI64 x72)), (1, (eI64 x73))]))]))) :: (n70, (.mem (.ar 7 (x71.map e35)))) :: (q2, (.mem (.ar 2 (p2.map e110)))) :: (n4, (.mem (e82 p1))) :: (n8, (.mem (e110 t5.1))) :: T0)) ⟨rfl, rfl, rfl, rfl, trivial⟩ (Sub.refl _) ?_
                exact ⟨n70, x69, x71, x72, x73, rfl, rfl, h⟩
  · rintro _ _ ⟨n10, x9, x11, x12, x13, rfl, rfl, h⟩
    rw [nfa_maker_add_c0.eq_1] at h
    refine AW.seq ?_
    obtain ⟨t14, et14, h⟩ := of_bind h
    obtain ⟨hg15, h⟩ := of_guard h
    obtain ⟨hg18, h⟩ := of_guard h
    refine AW.regEff (by rfl) (by decide +kernel) (fun (σ : Nat → Nat) => ([(.own q2 0 p2.length), (eI64 (p2.length : Int)), (.ptr n4 0), (eI64 p1.f0), (eI64 t14), (eI64 (w64 ((p2.length : Int) - t14))), (.own q2 0 ((w64 ((p2.length : Int) - t14)).toNat)), (e110 t5.1), (.fz 2 (([t5.1] : List S110).map e110)), (.own (σ 9) 0 (p2.take ((w64 ((p2.length : Int) - t14)).toNat) ++ ([t5.1] : List S110)).length), (.own (σ 9) 0 (p2.take ((w64 ((p2.length : Int) - t14)).toNat) ++ ([t5.1] : List S110)).length)] : List AV)) (fun (L : Nat → Bool) (σ : Nat → Nat) => ((q0, (.mem (.st [(4, (.st [(1, (eI64 x9)), (1, (.own n10 0 x11.length)), (1, (eI64 x12)), (1, (eI64 x13))]))]))) :: (n10, (.mem (.ar 7 (x11.map e35)))) :: (n4, (.mem (e82 p1))) :: (n8, (.mem (e110 t5.1))) :: (bif L 9 then (((σ 9), (.mem (.ar 2 ((p2.take ((w64 ((p2.length : Int) - t14)).toNat) ++ ([t5.1] : List S110)).map e110)))) :: T0) else ((q2, (.mem (.ar 2 (p2.map e110)))) :: T0)) : Heap)) [(2, (.own q2 0 p2.length)), (4, (.ptr n4 0)), (7, (eI64 (p2.length : Int))), (8, (.ptr n8 0))] ⟨rfl, rfl, rfl, rfl, trivial⟩ (fun _ => rfl) (fun σ => (Sub.cons 0 rfl (Sub.cons 0 rfl (Sub.cons 1 rfl (Sub.cons 1 rfl (Sub.cons 0 rfl (Sub.refl _))))))) ⟨?_, ?_, ?_, ?_, ?_, ?_, ?_, ?_, ?_, ?_, ?_, trivial⟩ (fun σ => [(6, (.own (σ 9) 0 (p2.take ((w64 ((p2.length : Int) - t14)).toNat) ++ ([t5.1] : List S110)).length))]) (fun σ => ((q0, (.mem (.st [(4, (.st [(1, (eI64 x9)), (1, (.own n10 0 x11.length)), (1, (eI64 x12)), (1, (eI64 x13))]))]))) :: (n10, (.mem (.ar 7 (x11.map e35)))) :: (n4, (.mem (e82 p1))) :: (n8, (.mem (e110 t5.1))) :: ((σ 9), (.mem (.ar 2 ((p2.take ((w64 ((p2.length : Int) - t14)).toNat) ++ ([t5.1] : List S110)).map e110)))) :: T0)) (fun σ => ⟨rfl, trivial⟩) (fun σ => Sub.refl _) (fun σ => ?_)
    · refine StepE.calm (fun _ _ => rfl) fun L σ hc hi hd => ?_
      have m6 : L 6 = false := hc.neg (i := 0) (j := 6) rfl (by rfl) hi
      have m9 : L 9 = false := hc.neg (i := 6) (j := 9) rfl (by rfl) m6
      refine AO.heq (H' := ((q0, (.mem (.st [(4, (.st [(1, (eI64 x9)), (1, (.own n10 0 x11.length)), (1, (eI64 x12)), (1, (eI64 x13))]))]))) :: (n10, (.mem (.ar 7 (x11.map e35)))) :: (n4, (.mem (e82 p1))) :: (n8, (.mem (e110 t5.1))) :: (q2, (.mem (.ar 2 (p2.map e110)))) :: T0)) (by first | rfl | simp only [m9, cond_true, cond_false]) ?_
      refine AO.weak (ρ' := [(2, (.own q2 0 p2.length))]) (H' := ((q0, (.mem (.st [(4, (.st [(1, (eI64 x9)), (1, (.own n10 0 x11.length)), (1, (eI64 x12)), (1, (eI64 x13))]))]))) :: (n10, (.mem (.ar 7 (x11.map e35)))) :: (n4, (.mem (e82 p1))) :: (n8, (.mem (e110 t5.1))) :: (q2, (.mem (.ar 2 (p2.map e110)))) :: T0)) ⟨rfl, trivial⟩ (Sub.refl _) ?_
      refine AO.calm rfl 137 rfl (by decide) (.own q2 0 p2.length) (Calm.move rfl rfl) ?_
      exact AO.nilE (ρ' := [(137, (.own q2 0 p2.length))]) ⟨⟨137, _, rfl, rfl, rfl⟩, Sub.of_eq (by first | rfl | simp only [m9, cond_true, cond_false]) (Sub.refl _)⟩ ⟨rfl, trivial⟩ (Sub.refl _)
    · refine StepE.calm (fun _ _ => rfl) fun L σ hc hi hd => ?_
      refine AO.weak (ρ' := [(7, (eI64 (p2.length : Int)))]) ⟨rfl, trivial⟩ (Sub.refl _) ?_
      refine AO.calm rfl 138 rfl (by decide) (eI64 (p2.length : Int)) (Calm.move rfl rfl) ?_
      exact AO.nilE (ρ' := [(138, (eI64 (p2.length : Int)))]) ⟨⟨138, _, rfl, rfl, rfl⟩, Sub.refl _⟩ ⟨rfl, trivial⟩ (Sub.refl _)
    · refine StepE.calm (fun _ _ => rfl) fun L σ hc hi hd => ?_
      refine AO.weak (ρ' := [(4, (.ptr n4 0))]) ⟨rfl, trivial⟩ (Sub.refl _) ?_
      refine AO.calm rfl 139 rfl (by decide) (.ptr n4 0) (Calm.fldPtr rfl rfl Try.underlying82 rfl sz3 _ rfl) ?_
      exact AO.nilE (ρ' := [(139, (.ptr n4 0))]) ⟨⟨139, _, rfl, rfl, rfl⟩, Sub.refl _⟩ ⟨rfl, trivial⟩ (Sub.refl _)
    · refine StepE.calm (fun _ _ => rfl) fun L σ hc hi hd => ?_
      refine AO.weak (ρ' := [(139, (.ptr n4 0))]) ⟨rfl, trivial⟩ (Sub.refl _) ?_
      refine AO.calm rfl 140 rfl (by decide) (eI64 p1.f0) (Calm.load 2 rfl rfl rfl (At.cast (At.fld0 At.here) rfl) ag3 sz3) ?_
      exact AO.nilE (ρ' := [(140, (eI64 p1.f0))]) ⟨⟨140, _, rfl, rfl, rfl⟩, Sub.refl _⟩ ⟨rfl, trivial⟩ (Sub.refl _)
    · refine StepE.calm (fun _ _ => rfl) fun L σ hc hi hd => ?_
      refine AO.weak (ρ' := [(140, (eI64 p1.f0))]) ⟨rfl, trivial⟩ (Sub.refl _) ?_
      refine AO.callS [(eI64 p1.f0)] (eI64 t14) 141 rfl (by decide) ok67 rfl rfl rfl ⟨rfl, rfl, trivial⟩ (rex_Takes_spec et14) ?_
      exact AO.nilE (ρ' := [(141, (eI64 t14))]) ⟨⟨141, _, rfl, rfl, rfl⟩, Sub.refl _⟩ ⟨rfl, trivial⟩ (Sub.refl _)
    · refine StepE.calm (fun _ _ => rfl) fun L σ hc hi hd => ?_
      refine AO.weak (ρ' := [(138, (eI64 (p2.length : Int))), (141, (eI64 t14))]) ⟨rfl, rfl, trivial⟩ (Sub.refl _) ?_
      refine AO.calm rfl 142 rfl (by decide) (eI64 (w64 ((p2.length : Int) - t14))) (Calm.int rfl rfl rfl rfl) ?_
      exact AO.nilE (ρ' := [(142, (eI64 (w64 ((p2.length : Int) - t14))))]) ⟨⟨142, _, rfl, rfl, rfl⟩, Sub.refl _⟩ ⟨rfl, trivial⟩ (Sub.refl _)
    · refine StepE.calm (fun _ _ => rfl) fun L σ hc hi hd => ?_
      have m9 : L 9 = false := hc.neg (i := 6) (j := 9) rfl (by rfl) hi
      refine AO.heq (H' := ((q0, (.mem (.st [(4, (.st [(1, (eI64 x9)), (1, (.own n10 0 x11.length)), (1, (eI64 x12)), (1, (eI64 x13))]))]))) :: (n10, (.mem (.ar 7 (x11.map e35)))) :: (n4, (.mem (e82 p1))) :: (n8, (.mem (e110 t5.1))) :: (q2, (.mem (.ar 2 (p2.map e110)))) :: T0)) (by first | rfl | simp only [m9, cond_true, cond_false]) ?_
      refine AO.weak (ρ' := [(137, (.own q2 0 p2.length)), (142, (eI64 (w64 ((p2.length : Int) - t14))))]) (H' := ((q0, (.mem (.st [(4, (.st [(1, (eI64 x9)), (1, (.own n10 0 x11.length)), (1, (eI64 x12)), (1, (eI64 x13))]))]))) :: (n10, (.mem (.ar 7 (x11.map e35)))) :: (n4, (.mem (e82 p1))) :: (n8, (.mem (e110 t5.1))) :: (q2, (.mem (.ar 2 (p2.map e110)))) :: T0)) ⟨rfl, rfl, trivial⟩ (Sub.refl _) ?_
      refine AO.calm rfl 143 rfl (by decide) (.own q2 0 ((w64 ((p2.length : Int) - t14)).toNat)) (Calm.preO 4 rfl rfl rfl rfl hg15 Try.underlying107 sz110) ?_
      exact AO.nilE (ρ' := [(143, (.own q2 0 ((w64 ((p2.length : Int) - t14)).toNat)))]) ⟨⟨143, _, rfl, rfl, rfl⟩, Sub.of_eq (by first | rfl | simp only [m9, cond_true, cond_false]) (Sub.refl _)⟩ ⟨rfl, trivial⟩ (Sub.refl _)
    · refine StepE.calm (fun _ _ => rfl) fun L σ hc hi hd => ?_
      refine AO.weak (ρ' := [(8, (.ptr n8 0))]) ⟨rfl, trivial⟩ (Sub.refl _) ?_
      refine AO.calm rfl 144 rfl (by decide) (e110 t5.1) (Calm.load 3 rfl rfl rfl (At.cast At.here rfl) ag110 sz110) ?_
      exact AO.nilE (ρ' := [(144, (e110 t5.1))]) ⟨⟨144, _, rfl, rfl, rfl⟩, Sub.refl _⟩ ⟨rfl, trivial⟩ (Sub.refl _)
    · refine StepE.calm (fun _ _ => rfl) fun L σ hc hi hd => ?_
      refine AO.weak (ρ' := [(144, (e110 t5.1))]) ⟨rfl, trivial⟩ (Sub.refl _) ?_
      refine AO.lit (Z := (.st [(1, (eI64 (0 : Int))), (1, (eI64 (0 : Int)))])) (xs := (([t5.1] : List S110).map e110)) (qs := [(0, (e110 t5.1))]) rfl 145 rfl (by decide) rfl ⟨rfl, rfl, rfl, trivial⟩ Try.underlying107 sz110 zr110 lay110 rfl (by decide) (litOK (z := 2) [(e110 t5.1)] rfl ⟨⟨rfl, rfl⟩, trivial⟩) rfl fun n16 => ?_
      refine AO.freezeS 0 [(145, (.fz 2 (([t5.1] : List S110).map e110)))] rfl ⟨fz_all rfl, trivial⟩ ?_
      exact AO.nilE (ρ' := [(145, (.fz 2 (([t5.1] : List S110).map e110)))]) ⟨⟨145, _, rfl, rfl, rfl⟩, Sub.refl _⟩ ⟨rfl, trivial⟩ (Sub.refl _)
    · intro L σ hc hi hd
      refine AO.heq (H' := ((q0, (.mem (.st [(4, (.st [(1, (eI64 x9)), (1, (.own n10 0 x11.length)), (1, (eI64 x12)), (1, (eI64 x13))]))]))) :: (n10, (.mem (.ar 7 (x11.map e35)))) :: (n4, (.mem (e82 p1))) :: (n8, (.mem (e110 t5.1))) :: (q2, (.mem (.ar 2 (p2.map e110)))) :: T0)) (by first | rfl | simp only [hi, cond_true, cond_false]) ?_
      refine AO.weak (ρ' := [(143, (.own q2 0 ((w64 ((p2.length : Int) - t14)).toNat))), (145, (.fz 2 (([t5.1] : List S110).map e110)))]) (H' := ((q0, (.mem (.st [(4, (.st [(1, (eI64 x9)), (1, (.own n10 0 x11.length)), (1, (eI64 x12)), (1, (eI64 x13))]))]))) :: (n10, (.mem (.ar 7 (x11.map e35)))) :: (n4, (.mem (e82 p1))) :: (n8, (.mem (e110 t5.1))) :: (q2, (.mem (.ar 2 (p2.map e110)))) :: T0)) ⟨rfl, rfl, trivial⟩ (Sub.refl _) ?_
      refine AO.appendCut (l := p2) (m := ([t5.1] : List S110)) 4 146 rfl (by decide) rfl rfl rfl (by omega) rfl rfl Src.fz Try.underlying107 Try.underlying107 sz110 by110 zr110 rfl hg18 (by decide) fun n17 => ?_
      have a9 : addL L 9 9 = true := rfl
      have u9 : upd σ 9 n17 9 = n17 := rfl
      have m10 : L 10 = false := hc.neg (i := 9) (j := 10) rfl (by rfl) hi
      exact AO.nilE (ρ' := [(146, (.own n17 0 (p2.take ((w64 ((p2.length : Int) - t14)).toNat) ++ ([t5.1] : List S110)).length))]) (H' := ((q0, (.mem (.st [(4, (.st [(1, (eI64 x9)), (1, (.own n10 0 x11.length)), (1, (eI64 x12)), (1, (eI64 x13))]))]))) :: (n10, (.mem (.ar 7 (x11.map e35)))) :: (n4, (.mem (e82 p1))) :: (n8, (.mem (e110 t5.1))) :: (n17, (.mem (.ar 2 ((p2.take ((w64 ((p2.length : Int) - t14)).toNat) ++ ([t5.1] : List S110)).map e110)))) :: T0)) ⟨(upd σ 9 n17), (fun j hj => match j, hj with | 0, _ => rfl | 1, _ => rfl | 2, _ => rfl | 3, _ => rfl | 4, _ => rfl | 5, _ => rfl | 6, _ => rfl | 7, _ => rfl | 8, _ => rfl | 9, hj => Bool.noConfusion (hj.symm.trans hi) | 10, hj => Bool.noConfusion (hj.symm.trans m10) | _ + 11, _ => rfl), (fun d' hd' => ⟨_, rfl, by cases hd'; rfl⟩), Sub.of_eq (B := ((q0, (.mem (.st [(4, (.st [(1, (eI64 x9)), (1, (.own n10 0 x11.length)), (1, (eI64 x12)), (1, (eI64 x13))]))]))) :: (n10, (.mem (.ar 7 (x11.map e35)))) :: (n4, (.mem (e82 p1))) :: (n8, (.mem (e110 t5.1))) :: (n17, (.mem (.ar 2 ((p2.take ((w64 ((p2.length : Int) - t14)).toNat) ++ ([t5.1] : List S110)).map e110)))) :: T0)) (by simp only [a9, u9, cond_true, cond_false]) (Sub.refl _)⟩ ⟨rfl, trivial⟩ (Sub.refl _)
    · refine StepE.calm (fun _ _ => rfl) fun L σ hc hi hd => ?_
      have y9 : L 9 = true := on_get hd (i := 9) (by rfl)
      refine AO.heq (H' := ((q0, (.mem (.st [(4, (.st [(1, (eI64 x9)), (1, (.own n10 0 x11.length)), (1, (eI64 x12)), (1, (eI64 x13))]))]))) :: (n10, (.mem (.ar 7 (x11.map e35)))) :: (n4, (.mem (e82 p1))) :: (n8, (.mem (e110 t5.1))) :: ((σ 9), (.mem (.ar 2 ((p2.take ((w64 ((p2.length : Int) - t14)).toNat) ++ ([t5.1] : List S110)).map e110)))) :: T0)) (by first | rfl | simp only [y9, cond_true, cond_false]) ?_
      refine AO.weak (ρ' := [(146, (.own (σ 9) 0 (p2.take ((w64 ((p2.length : Int) - t14)).toNat) ++ ([t5.1] : List S110)).length))]) (H' := ((q0, (.mem (.st [(4, (.st [(1, (eI64 x9)), (1, (.own n10 0 x11.length)), (1, (eI64 x12)), (1, (eI64 x13))]))]))) :: (n10, (.mem (.ar 7 (x11.map e35)))) :: (n4, (.mem (e82 p1))) :: (n8, (.mem (e110 t5.1))) :: ((σ 9), (.mem (.ar 2 ((p2.take ((w64 ((p2.length : Int) - t14)).toNat) ++ ([t5.1] : List S110)).map e110)))) :: T0)) ⟨rfl, trivial⟩ (Sub.refl _) ?_
      refine AO.calm rfl 6 rfl (by decide) (.own (σ 9) 0 (p2.take ((w64 ((p2.length : Int) - t14)).toNat) ++ ([t5.1] : List S110)).length) (Calm.assign rfl rfl) ?_
      exact AO.nilE (ρ' := [(6, (.own (σ 9) 0 (p2.take ((w64 ((p2.length : Int) - t14)).toNat) ++ ([t5.1] : List S110)).length))]) ⟨⟨6, _, rfl, rfl, rfl⟩, Sub.of_eq (by first | rfl | simp only [y9, cond_true, cond_false]) (Sub.refl _)⟩ ⟨rfl, trivial⟩ (Sub.refl _)
    · generalize σ 9 = n17
      refine AO.nil (ρ' := [(6, (.own n17 0 (p2.take ((w64 ((p2.length : Int) - t14)).toNat) ++ ([t5.1] : List S110)).length))]) (H' := ((q0, (.mem (.st [(4, (.st [(1, (eI64 x9)), (1, (.own n10 0 x11.length)), (1, (eI64 x12)), (1, (eI64 x13))]))]))) :: (n10, (.mem (.ar 7 (x11.map e35)))) :: (n17, (.mem (.ar 2 ((p2.take ((w64 ((p2.length : Int) - t14)).toNat) ++ ([t5.1] : List S110)).map e110)))) :: T0)) ⟨rfl, trivial⟩ (Sub.cons 0 rfl (Sub.cons 0 rfl (Sub.cons 2 rfl (Sub.drop (Sub.drop (Sub.refl _)))))) ?_
      refine AW.ret (ρ' := [(6, (.own n17 0 (p2.take ((w64 ((p2.length : Int) - t14)).toNat) ++ ([t5.1] : List S110)).length))]) (H' := ((q0, (.mem (.st [(4, (.st [(1, (eI64 x9)), (1, (.own n10 0 x11.length)), (1, (eI64 x12)), (1, (eI64 x13))]))]))) :: (n10, (.mem (.ar 7 (x11.map e35)))) :: (n17, (.mem (.ar 2 ((p2.take ((w64 ((p2.length : Int) - t14)).toNat) ++ ([t5.1] : List S110)).map e110)))) :: T0)) ⟨rfl, trivial⟩ (Sub.refl _) ?_
      have hr := Option.some.inj h
      subst hr
      exact ⟨[(.own n17 0 (p2.take ((w64 ((p2.length : Int) - t14)).toNat) ++ ([t5.1] : List S110)).length)], ⟨rfl, rfl, trivial⟩, n17, n10, rfl, (Sub.cons 2 rfl (Sub.cons 0 rfl (Sub.cons 0 rfl (Sub.refl _))))⟩
end Go.Avl.T3
