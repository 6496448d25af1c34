/- Parts: T3f17, T3f12, T3f14, T3f16, T3f18, T3f19. -/
import Derived.Test.YtcdennkoccjacaaAF1
/- bosket/nfa.Move; printed by avmain.py. -/
namespace Go.Avl.T3
open Go Go.RowKit Go.Proofs Go.Avl
set_option linter.unusedVariables false
set_option maxRecDepth 100000
set_option maxHeartbeats 4000000
attribute [local irreducible] AW AO AQ Spec SpecH Calm

def nfa_Move_c0 (k : Nat) (x7 : (List Bool)) : Option (List Bool) :=
  some (x7)
def nfa_Move_c1 (k : Nat) (rec10 : ((List Bool) → Int → Option (List Bool))) (x9 : Int) (x13 : (List Bool)) : Option (List Bool) :=
  rec10 x13 (w64 (x9 + (1 : Int)))
def nfa_Move_l2 (k : Nat) (p0 : S24) (p1 : (List Bool)) (p2 : Int) : Nat → (List Bool) → Int → Option (List Bool)
  | 0, _, _ => none
  | j + 1, x8, x9 =>
    if x9 < (p0.f1.length : Int) then if 0 ≤ x9 ∧ x9 < (p0.f1.length : Int) then Option.bind (α := Bool) (if (!((lget p0.f1 x9).f3)) = true then if ((lget p0.f1 x9).f0) < (p1.length : Int) then if 0 ≤ ((lget p0.f1 x9).f0) ∧ ((lget p0.f1 x9).f0) < (p1.length : Int) then if (lget p1 ((lget p0.f1 x9).f0)) = true then (byteset_Has k ((lget p0.f1 x9).f2) p2).bind fun t22 =>
    some (t22)
    else some (false)
    else none
    else some (false)
    else some (false)) fun b16 =>
    if b16 = true then if 0 ≤ ((lget p0.f1 x9).f1) ∧ ((lget p0.f1 x9).f1) < (x8.length : Int) then nfa_Move_c1 k (nfa_Move_l2 k p0 p1 p2 j) x9 (lset x8 ((lget p0.f1 x9).f1) true)
    else none
    else nfa_Move_c1 k (nfa_Move_l2 k p0 p1 p2 j) x9 x8
    else none
    else nfa_Move_c0 k x8
def nfa_Move (k : Nat) (p0 : S24) (p1 : (List Bool)) (p2 : Int) : Option (List Bool) :=
  if 0 ≤ p0.f0 ∧ p0.f0 * (1 : Int) ≤ 140737488355328 ∧ p0.f0 ≤ 9223372036854775807 then nfa_Move_l2 k p0 p1 p2 k (List.replicate p0.f0.toNat false) (0 : Int)
  else none
theorem nfa_Move_spec {k : Nat} {p0 : S24} {p1 : (List Bool)} {p2 : Int} {r : (List Bool)} (h : nfa_Move k p0 p1 p2 = some r) : Spec Try.prog 17 [(e24 p0), (.fz 1 (p1.map eBool)), (eU8 p2)] (e25 r) := by
  rw [nfa_Move.eq_1] at h
  refine Spec.intro (res := [.tmp 6]) Try.func17 rfl rfl rfl (Nat.le_of_ble_eq_true rfl) ?_
  refine AW.seq ?_
  refine AW.reg ?_
  refine AO.box rfl 3 rfl (by decide) rfl rfl rfl fun n4 => ?_
  refine AO.calm rfl 6 rfl (by decide) (.fl (.slice none 0 0)) (Calm.assign rfl rfl) ?_
  refine AO.nil (ρ' := [(1, (.fz 1 (p1.map eBool))), (2, (eU8 p2)), (3, (.ptr n4 0))]) (H' := [(n4, (.mem (e24 p0)))]) ⟨rfl, rfl, rfl, trivial⟩ (Sub.refl _) ?_
  refine AW.seq ?_
  refine AW.reg ?_
  refine AO.calm rfl 10 rfl (by decide) (.ptr n4 0) (Calm.fldPtr rfl rfl Try.underlying24 rfl sz3 _ rfl) ?_
  refine AO.calm rfl 11 rfl (by decide) (eI64 p0.f0) (Calm.load 0 rfl rfl rfl (At.cast (At.fld0 At.here) rfl) ag3 sz3) ?_
  obtain ⟨hg6, h⟩ := of_guard h
  refine AO.makeL (f := eBool) false rfl 12 rfl (by decide) rfl rfl rfl Try.underlying25 sz4 by4 zr4 lay4 rfl hg6 fun n5 => ?_
  refine AO.calm rfl 7 rfl (by decide) (.own n5 0 (List.replicate p0.f0.toNat false).length) (Calm.assign rfl rfl) ?_
  refine AO.nil (ρ' := [(1, (.fz 1 (p1.map eBool))), (2, (eU8 p2)), (3, (.ptr n4 0)), (7, (.own n5 0 (List.replicate p0.f0.toNat false).length))]) (H' := [(n4, (.mem (e24 p0))), (n5, (.mem (.ar 1 ((List.replicate p0.f0.toNat false).map eBool))))]) ⟨rfl, rfl, rfl, rfl, trivial⟩ (Sub.cons 1 rfl (Sub.cons 0 rfl (Sub.nil _))) ?_
  refine AW.seq_mid (fun ρ H => ∃ (x7 : (List Bool)), ρ = [(7, (.own n5 0 x7.length))] ∧ H = [(n5, (.mem (.ar 1 (x7.map eBool))))] ∧ nfa_Move_c0 k x7 = some r) ?_ ?_
  · refine AW.seq ?_
    refine AW.reg ?_
    refine AO.calm rfl 13 rfl (by decide) (.ptr n4 1) (Calm.fldPtr rfl rfl Try.underlying24 rfl sz22 _ rfl) ?_
    refine AO.calm rfl 14 rfl (by decide) (.fz 7 (p0.f1.map e35)) (Calm.load 0 rfl rfl rfl (At.cast (At.fldS (At.fld0 At.here)) rfl) ag22 sz22) ?_
    refine AO.calm rfl 15 rfl (by decide) (eI64 (p0.f1.length : Int)) (Calm.lenL rfl rfl Try.underlying22) ?_
    refine AO.calm rfl 16 rfl (by decide) (eI64 (0 : Int)) (Calm.move rfl rfl) ?_
    refine AO.nil (ρ' := [(1, (.fz 1 (p1.map eBool))), (2, (eU8 p2)), (7, (.own n5 0 (List.replicate p0.f0.toNat false).length)), (14, (.fz 7 (p0.f1.map e35))), (15, (eI64 (p0.f1.length : Int))), (16, (eI64 (0 : Int)))]) (H' := [(n5, (.mem (.ar 1 ((List.replicate p0.f0.toNat false).map eBool))))]) ⟨rfl, rfl, rfl, rfl, rfl, rfl, trivial⟩ (Sub.cons 1 rfl (Sub.nil _)) ?_
    refine AW.block ?_
    refine AW.weak (ρ' := [(1, (.fz 1 (p1.map eBool))), (2, (eU8 p2)), (7, (.own n5 0 (List.replicate p0.f0.toNat false).length)), (14, (.fz 7 (p0.f1.map e35))), (15, (eI64 (p0.f1.length : Int))), (16, (eI64 (0 : Int)))]) (H' := [(n5, (.mem (.ar 1 ((List.replicate p0.f0.toNat false).map eBool))))]) ⟨rfl, rfl, rfl, rfl, rfl, rfl, trivial⟩ (Sub.refl _) ?_
    refine AW.loop (fun kq ρ H => ∃ (x8 : (List Bool)) (x9 : Int), ρ = [(1, (.fz 1 (p1.map eBool))), (2, (eU8 p2)), (7, (.own n5 0 x8.length)), (14, (.fz 7 (p0.f1.map e35))), (15, (eI64 (p0.f1.length : Int))), (16, (eI64 x9))] ∧ H = [(n5, (.mem (.ar 1 (x8.map eBool))))] ∧ nfa_Move_l2 k p0 p1 p2 kq x8 x9 = some r) k ⟨(List.replicate p0.f0.toNat false), (0 : Int), rfl, rfl, h⟩ ?_
    rintro kq11 _ _ ⟨x8, x9, rfl, rfl, h⟩
    cases kq11 with
    | zero => rw [nfa_Move_l2.eq_1] at h; cases h
    | succ kq11 =>
    rw [nfa_Move_l2.eq_2] at h
    generalize hrec10 : nfa_Move_l2 k p0 p1 p2 kq11 = rec10 at h
    refine AW.seq ?_
    refine AW.reg ?_
    refine AO.calm rfl 17 rfl (by decide) (eBool (decide (x9 < (p0.f1.length : Int)))) (Calm.int rfl rfl rfl rfl) ?_
    refine AO.nil (ρ' := [(1, (.fz 1 (p1.map eBool))), (2, (eU8 p2)), (7, (.own n5 0 x8.length)), (14, (.fz 7 (p0.f1.map e35))), (15, (eI64 (p0.f1.length : Int))), (16, (eI64 x9)), (17, (eBool (decide (x9 < (p0.f1.length : Int)))))]) (H' := [(n5, (.mem (.ar 1 (x8.map eBool))))]) ⟨rfl, rfl, rfl, rfl, rfl, rfl, rfl, trivial⟩ (Sub.refl _) ?_
    refine AW.seq ?_
    by_cases hc12 : x9 < (p0.f1.length : Int)
    · have h := (if_pos hc12).symm.trans h
      refine AW.condP (x9 < (p0.f1.length : Int)) rfl hc12 ?_
      refine AW.skip (ρ' := [(1, (.fz 1 (p1.map eBool))), (2, (eU8 p2)), (7, (.own n5 0 x8.length)), (14, (.fz 7 (p0.f1.map e35))), (15, (eI64 (p0.f1.length : Int))), (16, (eI64 x9))]) (H' := [(n5, (.mem (.ar 1 (x8.map eBool))))]) ⟨rfl, rfl, rfl, rfl, rfl, rfl, trivial⟩ (Sub.refl _) ?_
      refine AW.seq_mid (fun ρ H => ∃ (x13 : (List Bool)), ρ = [(1, (.fz 1 (p1.map eBool))), (2, (eU8 p2)), (7, (.own n5 0 x13.length)), (14, (.fz 7 (p0.f1.map e35))), (15, (eI64 (p0.f1.length : Int))), (16, (eI64 x9))] ∧ H = [(n5, (.mem (.ar 1 (x13.map eBool))))] ∧ nfa_Move_c1 k rec10 x9 x13 = some r) ?_ ?_
      · refine AW.block ?_
        refine AW.seq ?_
        refine AW.reg ?_
        obtain ⟨hg14, h⟩ := of_guard h
        refine AO.calm rfl 18 rfl (by decide) (.rp (e35 (lget p0.f1 x9))) (Calm.idxL (f := e35) rfl rfl rfl hg14 Try.underlying22 sz35) ?_
        refine AO.calm rfl 19 rfl (by decide) (e35 (lget p0.f1 x9)) (Calm.loadRp rfl rfl ag35 sz35) ?_
        refine AO.alloc rfl 9 rfl (by decide) rfl zr35 lay35 fun n15 => ?_
        refine AO.store (X' := (e35 (lget p0.f1 x9))) 0 rfl rfl rfl rfl rfl rfl (Put.cast Put.here rfl) rfl rfl sz35 rfl ?_
        refine AO.nil (ρ' := [(1, (.fz 1 (p1.map eBool))), (2, (eU8 p2)), (7, (.own n5 0 x8.length)), (9, (.ptr n15 0)), (14, (.fz 7 (p0.f1.map e35))), (15, (eI64 (p0.f1.length : Int))), (16, (eI64 x9))]) (H' := [(n5, (.mem (.ar 1 (x8.map eBool)))), (n15, (.mem (e35 (lget p0.f1 x9))))]) ⟨rfl, rfl, rfl, rfl, rfl, rfl, rfl, trivial⟩ (Sub.cons 1 rfl (Sub.cons 0 rfl (Sub.nil _))) ?_
        refine AW.seq ?_
        obtain ⟨b16, hq17, h⟩ := of_bind h
        refine AW.regM [(1, (.fz 1 (p1.map eBool))), (2, (eU8 p2)), (7, (.own n5 0 x8.length)), (9, (.ptr n15 0)), (14, (.fz 7 (p0.f1.map e35))), (15, (eI64 (p0.f1.length : Int))), (16, (eI64 x9)), (42, (eBool b16))] [(n5, (.mem (.ar 1 (x8.map eBool)))), (n15, (.mem (e35 (lget p0.f1 x9))))] ?_ ?_
        · refine AO.calm rfl 20 rfl (by decide) (.ptr n15 6) (Calm.fldPtr rfl rfl Try.underlying35 rfl sz4 _ rfl) ?_
          refine AO.calm rfl 21 rfl (by decide) (eBool ((lget p0.f1 x9).f3)) (Calm.load 1 rfl rfl rfl (At.cast (At.fldS (At.fldS (At.fldS (At.fld0 At.here)))) rfl) ag4 sz4) ?_
          refine AO.calm rfl 22 rfl (by decide) (eBool (!((lget p0.f1 x9).f3))) (Calm.not rfl rfl) ?_
          refine AO.calm rfl 23 rfl (by decide) (eBool (!((lget p0.f1 x9).f3))) (Calm.move rfl rfl) ?_
          by_cases hc18 : (!((lget p0.f1 x9).f3)) = true
          · have hq17 := (if_pos hc18).symm.trans hq17
            refine AO.calmG 3 true 23 rfl rfl (congrArg (fun b => some (AV.fl (Value.bool b))) hc18) 24 rfl (by decide) (.ptr n15 0) (Calm.fldPtr rfl rfl Try.underlying35 rfl sz3 _ rfl) ?_
            refine AO.calmG 3 true 23 rfl rfl (congrArg (fun b => some (AV.fl (Value.bool b))) hc18) 25 rfl (by decide) (eI64 ((lget p0.f1 x9).f0)) (Calm.load 1 rfl rfl rfl (At.cast (At.fld0 At.here) rfl) ag3 sz3) ?_
            refine AO.calmG 3 true 23 rfl rfl (congrArg (fun b => some (AV.fl (Value.bool b))) hc18) 26 rfl (by decide) (.fz 1 (p1.map eBool)) (Calm.move rfl rfl) ?_
            refine AO.calmG 3 true 23 rfl rfl (congrArg (fun b => some (AV.fl (Value.bool b))) hc18) 27 rfl (by decide) (eI64 (p1.length : Int)) (Calm.lenL rfl rfl Try.underlying25) ?_
            refine AO.calmG 3 true 23 rfl rfl (congrArg (fun b => some (AV.fl (Value.bool b))) hc18) 28 rfl (by decide) (eBool (decide (((lget p0.f1 x9).f0) < (p1.length : Int)))) (Calm.int rfl rfl rfl rfl) ?_
            refine AO.calm rfl 29 rfl (by decide) (eBool (decide (((lget p0.f1 x9).f0) < (p1.length : Int)))) (Calm.pickT rfl (congrArg (fun b => some (AV.fl (Value.bool b))) hc18) rfl) ?_
            refine AO.calm rfl 30 rfl (by decide) (eBool (decide (((lget p0.f1 x9).f0) < (p1.length : Int)))) (Calm.move rfl rfl) ?_
            by_cases hc19 : ((lget p0.f1 x9).f0) < (p1.length : Int)
            · have hq17 := (if_pos hc19).symm.trans hq17
              refine AO.calmG 10 true 30 rfl rfl (congrArg (fun b => some (AV.fl (Value.bool b))) (decide_eq_true hc19)) 31 rfl (by decide) (.fz 1 (p1.map eBool)) (Calm.move rfl rfl) ?_
              refine AO.calmG 10 true 30 rfl rfl (congrArg (fun b => some (AV.fl (Value.bool b))) (decide_eq_true hc19)) 32 rfl (by decide) (.ptr n15 0) (Calm.fldPtr rfl rfl Try.underlying35 rfl sz3 _ rfl) ?_
              refine AO.calmG 10 true 30 rfl rfl (congrArg (fun b => some (AV.fl (Value.bool b))) (decide_eq_true hc19)) 33 rfl (by decide) (eI64 ((lget p0.f1 x9).f0)) (Calm.load 1 rfl rfl rfl (At.cast (At.fld0 At.here) rfl) ag3 sz3) ?_
              obtain ⟨hg20, hq17⟩ := of_guard hq17
              refine AO.calmG 10 true 30 rfl rfl (congrArg (fun b => some (AV.fl (Value.bool b))) (decide_eq_true hc19)) 34 rfl (by decide) (.rp (eBool (lget p1 ((lget p0.f1 x9).f0)))) (Calm.idxL (f := eBool) rfl rfl rfl hg20 Try.underlying25 sz4) ?_
              refine AO.calmG 10 true 30 rfl rfl (congrArg (fun b => some (AV.fl (Value.bool b))) (decide_eq_true hc19)) 35 rfl (by decide) (eBool (lget p1 ((lget p0.f1 x9).f0))) (Calm.loadRp rfl rfl ag4 sz4) ?_
              refine AO.calm rfl 36 rfl (by decide) (eBool (lget p1 ((lget p0.f1 x9).f0))) (Calm.pickT rfl (congrArg (fun b => some (AV.fl (Value.bool b))) (decide_eq_true hc19)) rfl) ?_
              refine AO.calm rfl 37 rfl (by decide) (eBool (lget p1 ((lget p0.f1 x9).f0))) (Calm.move rfl rfl) ?_
              by_cases hc21 : (lget p1 ((lget p0.f1 x9).f0)) = true
              · have hq17 := (if_pos hc21).symm.trans hq17
                refine AO.calmG 17 true 37 rfl rfl (congrArg (fun b => some (AV.fl (Value.bool b))) hc21) 38 rfl (by decide) (.ptr n15 2) (Calm.fldPtr rfl rfl Try.underlying35 rfl sz33 _ rfl) ?_
                refine AO.calmG 17 true 37 rfl rfl (congrArg (fun b => some (AV.fl (Value.bool b))) hc21) 39 rfl (by decide) (.ar 1 (((lget p0.f1 x9).f2).toList.map eU64)) (Calm.load 1 rfl rfl rfl (At.cast (At.fldS (At.fldS (At.fld0 At.here))) rfl) ag33 (by rw [sz33]; simp [AV.size])) ?_
                refine AO.calmG 17 true 37 rfl rfl (congrArg (fun b => some (AV.fl (Value.bool b))) hc21) 40 rfl (by decide) (eU8 p2) (Calm.move rfl rfl) ?_
                obtain ⟨t22, et22, hq17⟩ := of_bind hq17
                refine AO.callG 17 true 37 [(.ar 1 (((lget p0.f1 x9).f2).toList.map eU64)), (eU8 p2)] (eBool t22) 41 rfl (by decide) ok46 rfl rfl (congrArg (fun b => some (AV.fl (Value.bool b))) hc21) rfl rfl ⟨rfl, rfl, rfl, rfl, trivial⟩ (byteset_Has_spec et22) ?_
                refine AO.calm rfl 42 rfl (by decide) (eBool t22) (Calm.pickT rfl (congrArg (fun b => some (AV.fl (Value.bool b))) hc21) rfl) ?_
                cases hq17
                refine AO.nilE ⟨rfl, rfl⟩ ?_ ?_
                · exact ⟨rfl, rfl, rfl, rfl, rfl, rfl, rfl, rfl, trivial⟩
                · exact (Sub.refl _)
              · have hq17 := (if_neg hc21).symm.trans hq17
                refine AO.skipG 17 false 37 rfl rfl (congrArg (fun b => some (AV.fl (Value.bool b))) (eq_false_of_ne_true hc21)) 38 rfl (by decide) ?_
                refine AO.skipG 17 false 37 rfl rfl (congrArg (fun b => some (AV.fl (Value.bool b))) (eq_false_of_ne_true hc21)) 39 rfl (by decide) ?_
                refine AO.skipG 17 false 37 rfl rfl (congrArg (fun b => some (AV.fl (Value.bool b))) (eq_false_of_ne_true hc21)) 40 rfl (by decide) ?_
                refine AO.skipG 17 false 37 rfl rfl (congrArg (fun b => some (AV.fl (Value.bool b))) (eq_false_of_ne_true hc21)) 41 rfl (by decide) ?_
                refine AO.calm rfl 42 rfl (by decide) (eBool false) (Calm.pickF rfl (congrArg (fun b => some (AV.fl (Value.bool b))) (eq_false_of_ne_true hc21)) rfl) ?_
                cases hq17
                refine AO.nilE ⟨rfl, rfl⟩ ?_ ?_
                · exact ⟨rfl, rfl, rfl, rfl, rfl, rfl, rfl, rfl, trivial⟩
                · exact (Sub.refl _)
            · have hq17 := (if_neg hc19).symm.trans hq17
              refine AO.skipG 10 false 30 rfl rfl (congrArg (fun b => some (AV.fl (Value.bool b))) (decide_eq_false hc19)) 31 rfl (by decide) ?_
              refine AO.skipG 10 false 30 rfl rfl (congrArg (fun b => some (AV.fl (Value.bool b))) (decide_eq_false hc19)) 32 rfl (by decide) ?_
              refine AO.skipG 10 false 30 rfl rfl (congrArg (fun b => some (AV.fl (Value.bool b))) (decide_eq_false hc19)) 33 rfl (by decide) ?_
              refine AO.skipG 10 false 30 rfl rfl (congrArg (fun b => some (AV.fl (Value.bool b))) (decide_eq_false hc19)) 34 rfl (by decide) ?_
              refine AO.skipG 10 false 30 rfl rfl (congrArg (fun b => some (AV.fl (Value.bool b))) (decide_eq_false hc19)) 35 rfl (by decide) ?_
              refine AO.calm rfl 36 rfl (by decide) (eBool false) (Calm.pickF rfl (congrArg (fun b => some (AV.fl (Value.bool b))) (decide_eq_false hc19)) rfl) ?_
              refine AO.calm rfl 37 rfl (by decide) (eBool false) (Calm.move rfl rfl) ?_
              refine AO.skipG 17 false 37 rfl rfl rfl 38 rfl (by decide) ?_
              refine AO.skipG 17 false 37 rfl rfl rfl 39 rfl (by decide) ?_
              refine AO.skipG 17 false 37 rfl rfl rfl 40 rfl (by decide) ?_
              refine AO.skipG 17 false 37 rfl rfl rfl 41 rfl (by decide) ?_
              refine AO.calm rfl 42 rfl (by decide) (eBool false) (Calm.pickF rfl rfl rfl) ?_
              cases hq17
              refine AO.nilE ⟨rfl, rfl⟩ ?_ ?_
              · exact ⟨rfl, rfl, rfl, rfl, rfl, rfl, rfl, rfl, trivial⟩
              · exact (Sub.refl _)
          · have hq17 := (if_neg hc18).symm.trans hq17
            refine AO.skipG 3 false 23 rfl rfl (congrArg (fun b => some (AV.fl (Value.bool b))) (eq_false_of_ne_true hc18)) 24 rfl (by decide) ?_
            refine AO.skipG 3 false 23 rfl rfl (congrArg (fun b => some (AV.fl (Value.bool b))) (eq_false_of_ne_true hc18)) 25 rfl (by decide) ?_
            refine AO.skipG 3 false 23 rfl rfl (congrArg (fun b => some (AV.fl (Value.bool b))) (eq_false_of_ne_true hc18)) 26 rfl (by decide) ?_
            refine AO.skipG 3 false 23 rfl rfl (congrArg (fun b => some (AV.fl (Value.bool b))) (eq_false_of_ne_true hc18)) 27 rfl (by decide) ?_
            refine AO.skipG 3 false 23 rfl rfl (congrArg (fun b => some (AV.fl (Value.bool b))) (eq_false_of_ne_true hc18)) 28 rfl (by decide) ?_
            refine AO.calm rfl 29 rfl (by decide) (eBool false) (Calm.pickF rfl (congrArg (fun b => some (AV.fl (Value.bool b))) (eq_false_of_ne_true hc18)) rfl) ?_
            refine AO.calm rfl 30 rfl (by decide) (eBool false) (Calm.move rfl rfl) ?_
            refine AO.skipG 10 false 30 rfl rfl rfl 31 rfl (by decide) ?_
            refine AO.skipG 10 false 30 rfl rfl rfl 32 rfl (by decide) ?_
            refine AO.skipG 10 false 30 rfl rfl rfl 33 rfl (by decide) ?_
            refine AO.skipG 10 false 30 rfl rfl rfl 34 rfl (by decide) ?_
            refine AO.skipG 10 false 30 rfl rfl rfl 35 rfl (by decide) ?_
            refine AO.calm rfl 36 rfl (by decide) (eBool false) (Calm.pickF rfl rfl rfl) ?_
            refine AO.calm rfl 37 rfl (by decide) (eBool false) (Calm.move rfl rfl) ?_
            refine AO.skipG 17 false 37 rfl rfl rfl 38 rfl (by decide) ?_
            refine AO.skipG 17 false 37 rfl rfl rfl 39 rfl (by decide) ?_
            refine AO.skipG 17 false 37 rfl rfl rfl 40 rfl (by decide) ?_
            refine AO.skipG 17 false 37 rfl rfl rfl 41 rfl (by decide) ?_
            refine AO.calm rfl 42 rfl (by decide) (eBool false) (Calm.pickF rfl rfl rfl) ?_
            cases hq17
            refine AO.nilE ⟨rfl, rfl⟩ ?_ ?_
            · exact ⟨rfl, rfl, rfl, rfl, rfl, rfl, rfl, rfl, trivial⟩
            · exact (Sub.refl _)
        · by_cases hc23 : b16 = true
          · have h := (if_pos hc23).symm.trans h
            refine AW.condT' b16 rfl hc23 ?_
            refine AW.reg ?_
            refine AO.calm rfl 43 rfl (by decide) (.own n5 0 x8.length) (Calm.move rfl rfl) ?_
            refine AO.calm rfl 44 rfl (by decide) (.ptr n15 1) (Calm.fldPtr rfl rfl Try.underlying35 rfl sz3 _ rfl) ?_
            refine AO.calm rfl 45 rfl (by decide) (eI64 ((lget p0.f1 x9).f1)) (Calm.load 1 rfl rfl rfl (At.cast (At.fldS (At.fld0 At.here)) rfl) ag3 sz3) ?_
            obtain ⟨hg24, h⟩ := of_guard h
            refine AO.calm rfl 46 rfl (by decide) (.ptr n5 (((lget p0.f1 x9).f1).toNat * 1 + 0)) (Calm.idxO 0 rfl rfl rfl rfl hg24 Try.underlying25 sz4) ?_
            refine AO.store (X' := (.ar 1 ((lset x8 ((lget p0.f1 x9).f1) true).map eBool))) 0 rfl rfl rfl rfl rfl rfl (Put.cast (Put.lidx ((lget p0.f1 x9).f1) true hg24.1 hg24.2 Put.here) (by omega)) rfl rfl sz4 rfl ?_
            refine AO.coe 7 (y' := (.own n5 0 (lset x8 ((lget p0.f1 x9).f1) true).length)) rfl (fun _ _ h => lset_own h) ?_
            refine AO.coe 43 (y' := (.own n5 0 (lset x8 ((lget p0.f1 x9).f1) true).length)) rfl (fun _ _ h => lset_own h) ?_
            refine AO.nil (ρ' := [(1, (.fz 1 (p1.map eBool))), (2, (eU8 p2)), (7, (.own n5 0 (lset x8 ((lget p0.f1 x9).f1) true).length)), (14, (.fz 7 (p0.f1.map e35))), (15, (eI64 (p0.f1.length : Int))), (16, (eI64 x9))]) (H' := [(n5, (.mem (.ar 1 ((lset x8 ((lget p0.f1 x9).f1) true).map eBool))))]) ⟨rfl, rfl, rfl, rfl, rfl, rfl, trivial⟩ (Sub.cons 0 rfl (Sub.nil _)) ?_
            exact ⟨(lset x8 ((lget p0.f1 x9).f1) true), rfl, rfl, h⟩
          · have h := (if_neg hc23).symm.trans h
            refine AW.condF' b16 rfl hc23 ?_
            refine AW.skip (ρ' := [(1, (.fz 1 (p1.map eBool))), (2, (eU8 p2)), (7, (.own n5 0 x8.length)), (14, (.fz 7 (p0.f1.map e35))), (15, (eI64 (p0.f1.length : Int))), (16, (eI64 x9))]) (H' := [(n5, (.mem (.ar 1 (x8.map eBool))))]) ⟨rfl, rfl, rfl, rfl, rfl, rfl, trivial⟩ (Sub.cons 0 rfl (Sub.nil _)) ?_
            exact ⟨x8, rfl, rfl, h⟩
      · rintro _ _ ⟨x13, rfl, rfl, h⟩
        rw [nfa_Move_c1.eq_1] at h
        refine AW.reg ?_
        refine AO.calm rfl 47 rfl (by decide) (eI64 (w64 (x9 + (1 : Int)))) (Calm.int rfl rfl rfl rfl) ?_
        refine AO.calm rfl 16 rfl (by decide) (eI64 (w64 (x9 + (1 : Int)))) (Calm.move rfl rfl) ?_
        refine AO.nil (ρ' := [(1, (.fz 1 (p1.map eBool))), (2, (eU8 p2)), (7, (.own n5 0 x13.length)), (14, (.fz 7 (p0.f1.map e35))), (15, (eI64 (p0.f1.length : Int))), (16, (eI64 (w64 (x9 + (1 : Int)))))]) (H' := [(n5, (.mem (.ar 1 (x13.map eBool))))]) ⟨rfl, rfl, rfl, rfl, rfl, rfl, trivial⟩ (Sub.refl _) ?_
        exact ⟨kq11, Nat.lt_succ_self _, x13, (w64 (x9 + (1 : Int))), rfl, rfl, by rw [hrec10]; exact h⟩
    · have h := (if_neg hc12).symm.trans h
      refine AW.condN (x9 < (p0.f1.length : Int)) rfl hc12 ?_
      refine AW.exit (ρ' := [(7, (.own n5 0 x8.length))]) (H' := [(n5, (.mem (.ar 1 (x8.map eBool))))]) ⟨rfl, trivial⟩ (Sub.refl _) ?_
      exact ⟨x8, rfl, rfl, h⟩
  · rintro _ _ ⟨x7, rfl, rfl, h⟩
    rw [nfa_Move_c0.eq_1] at h
    refine AW.seq ?_
    refine AW.reg ?_
    refine AO.calm rfl 48 rfl (by decide) (.own n5 0 x7.length) (Calm.move rfl rfl) ?_
    refine AO.calm rfl 6 rfl (by decide) (.own n5 0 x7.length) (Calm.assign rfl rfl) ?_
    refine AO.nil (ρ' := [(6, (.own n5 0 x7.length))]) (H' := [(n5, (.mem (.ar 1 (x7.map eBool))))]) ⟨rfl, trivial⟩ (Sub.refl _) ?_
    refine AW.freezeS 0 [(6, (.fz 1 (x7.map eBool)))] rfl ⟨fz_all rfl, trivial⟩ ?_
    refine AW.ret (ρ' := [(6, (.fz 1 (x7.map eBool)))]) (H' := []) ⟨rfl, trivial⟩ (Sub.refl _) ?_
    have hr := Option.some.inj h
    subst hr
    exact ⟨[(.fz 1 (x7.map eBool))], ⟨rfl, rfl, trivial⟩, rfl⟩
end Go.Avl.T3
/- bosket/nfa.Has; printed by avmain.py. -/
namespace Go.Avl.T3
open Go Go.RowKit Go.Proofs Go.Avl
set_option linter.unusedVariables false
set_option maxRecDepth 100000
set_option maxHeartbeats 4000000
attribute [local irreducible] AW AO AQ Spec SpecH Calm

def nfa_Has_c0 (k : Nat) (p0 : S24) (x10 : (List Bool)) : Option Bool :=
  if 0 ≤ p0.f3 ∧ p0.f3 < (x10.length : Int) then some ((lget x10 p0.f3))
  else none
def nfa_Has_l1 (k : Nat) (p0 : S24) (p1 : ByteArray) : Nat → (List Bool) → Int → Option Bool
  | 0, _, _ => none
  | j + 1, x12, x13 =>
    if x13 < (p1.size : Int) then if 0 ≤ x13 ∧ x13 < (p1.size : Int) then (nfa_Move k p0 x12 (byteAt p1 x13)).bind fun t18 =>
    (nfa_Close k p0 t18).bind fun t19 =>
    (nfa_Has_l1 k p0 p1 j) t19 (w64 (x13 + (1 : Int)))
    else none
    else nfa_Has_c0 k p0 x12
def nfa_Has (k : Nat) (p0 : S24) (p1 : ByteArray) : Option Bool :=
  (nfa_Right k p0).bind fun t4 =>
  if (!t4) = true then some (false)
  else if 0 ≤ p0.f0 ∧ p0.f0 * (1 : Int) ≤ 140737488355328 ∧ p0.f0 ≤ 9223372036854775807 then if 0 ≤ p0.f2 ∧ p0.f2 < ((List.replicate p0.f0.toNat false).length : Int) then (nfa_Close k p0 (lset (List.replicate p0.f0.toNat false) p0.f2 true)).bind fun t9 =>
  nfa_Has_l1 k p0 p1 k t9 (0 : Int)
  else none
  else none
theorem nfa_Has_spec {k : Nat} {p0 : S24} {p1 : ByteArray} {r : Bool} (h : nfa_Has k p0 p1 = some r) : Spec Try.prog 12 [(e24 p0), (eStr p1)] (eBool r) := by
  rw [nfa_Has.eq_1] at h
  refine Spec.intro (res := [.tmp 4]) Try.func12 rfl rfl rfl (Nat.le_of_ble_eq_true rfl) ?_
  refine AW.seq ?_
  refine AW.reg ?_
  refine AO.box rfl 2 rfl (by decide) rfl rfl rfl fun n3 => ?_
  refine AO.calm rfl 4 rfl (by decide) (eBool false) (Calm.assign rfl rfl) ?_
  refine AO.nil (ρ' := [(1, (eStr p1)), (2, (.ptr n3 0))]) (H' := [(n3, (.mem (e24 p0)))]) ⟨rfl, rfl, trivial⟩ (Sub.refl _) ?_
  refine AW.seq ?_
  refine AW.seq ?_
  refine AW.reg ?_
  refine AO.calm rfl 7 rfl (by decide) (e24 p0) (Calm.load 0 rfl rfl rfl (At.cast At.here rfl) ag24 sz24) ?_
  obtain ⟨t4, et4, h⟩ := of_bind h
  refine AO.callS [(e24 p0)] (eBool t4) 8 rfl (by decide) ok11 rfl rfl rfl ⟨rfl, rfl, trivial⟩ (nfa_Right_spec et4) ?_
  refine AO.calm rfl 9 rfl (by decide) (eBool (!t4)) (Calm.not rfl rfl) ?_
  refine AO.nil (ρ' := [(1, (eStr p1)), (2, (.ptr n3 0)), (9, (eBool (!t4)))]) (H' := [(n3, (.mem (e24 p0)))]) ⟨rfl, rfl, rfl, trivial⟩ (Sub.refl _) ?_
  by_cases hc5 : (!t4) = true
  · have h := (if_pos hc5).symm.trans h
    refine AW.condT' (!t4) rfl hc5 ?_
    refine AW.seq ?_
    refine AW.reg ?_
    refine AO.calm rfl 4 rfl (by decide) (eBool false) (Calm.assign rfl rfl) ?_
    refine AO.nil (ρ' := [(4, (eBool false))]) (H' := []) ⟨rfl, trivial⟩ (Sub.nil _) ?_
    refine AW.ret (ρ' := [(4, (eBool false))]) (H' := []) ⟨rfl, trivial⟩ (Sub.refl _) ?_
    have hr := Option.some.inj h
    subst hr
    exact ⟨[(eBool false)], ⟨rfl, rfl, trivial⟩, rfl⟩
  · have h := (if_neg hc5).symm.trans h
    refine AW.condF' (!t4) rfl hc5 ?_
    refine AW.skip (ρ' := [(1, (eStr p1)), (2, (.ptr n3 0))]) (H' := [(n3, (.mem (e24 p0)))]) ⟨rfl, rfl, trivial⟩ (Sub.refl _) ?_
    refine AW.seq ?_
    refine AW.reg ?_
    refine AO.calm rfl 10 rfl (by decide) (.ptr n3 0) (Calm.fldPtr rfl rfl Try.underlying24 rfl sz3 _ rfl) ?_
    refine AO.calm rfl 11 rfl (by decide) (eI64 p0.f0) (Calm.load 0 rfl rfl rfl (At.cast (At.fld0 At.here) rfl) ag3 sz3) ?_
    obtain ⟨hg7, h⟩ := of_guard h
    refine AO.makeL (f := eBool) false rfl 12 rfl (by decide) rfl rfl rfl Try.underlying25 sz4 by4 zr4 lay4 rfl hg7 fun n6 => ?_
    refine AO.calm rfl 5 rfl (by decide) (.own n6 0 (List.replicate p0.f0.toNat false).length) (Calm.assign rfl rfl) ?_
    refine AO.nil (ρ' := [(1, (eStr p1)), (2, (.ptr n3 0)), (5, (.own n6 0 (List.replicate p0.f0.toNat false).length))]) (H' := [(n3, (.mem (e24 p0))), (n6, (.mem (.ar 1 ((List.replicate p0.f0.toNat false).map eBool))))]) ⟨rfl, rfl, rfl, trivial⟩ (Sub.cons 1 rfl (Sub.cons 0 rfl (Sub.nil _))) ?_
    refine AW.seq ?_
    refine AW.reg ?_
    refine AO.calm rfl 13 rfl (by decide) (.own n6 0 (List.replicate p0.f0.toNat false).length) (Calm.move rfl rfl) ?_
    refine AO.calm rfl 14 rfl (by decide) (.ptr n3 2) (Calm.fldPtr rfl rfl Try.underlying24 rfl sz3 _ rfl) ?_
    refine AO.calm rfl 15 rfl (by decide) (eI64 p0.f2) (Calm.load 0 rfl rfl rfl (At.cast (At.fldS (At.fldS (At.fld0 At.here))) rfl) ag3 sz3) ?_
    obtain ⟨hg8, h⟩ := of_guard h
    refine AO.calm rfl 16 rfl (by decide) (.ptr n6 (p0.f2.toNat * 1 + 0)) (Calm.idxO 1 rfl rfl rfl rfl hg8 Try.underlying25 sz4) ?_
    refine AO.store (X' := (.ar 1 ((lset (List.replicate p0.f0.toNat false) p0.f2 true).map eBool))) 1 rfl rfl rfl rfl rfl rfl (Put.cast (Put.lidx p0.f2 true hg8.1 hg8.2 Put.here) (by omega)) rfl rfl sz4 rfl ?_
    refine AO.coe 5 (y' := (.own n6 0 (lset (List.replicate p0.f0.toNat false) p0.f2 true).length)) rfl (fun _ _ h => lset_own h) ?_
    refine AO.coe 13 (y' := (.own n6 0 (lset (List.replicate p0.f0.toNat false) p0.f2 true).length)) rfl (fun _ _ h => lset_own h) ?_
    refine AO.nil (ρ' := [(1, (eStr p1)), (2, (.ptr n3 0)), (5, (.own n6 0 (lset (List.replicate p0.f0.toNat false) p0.f2 true).length))]) (H' := [(n3, (.mem (e24 p0))), (n6, (.mem (.ar 1 ((lset (List.replicate p0.f0.toNat false) p0.f2 true).map eBool))))]) ⟨rfl, rfl, rfl, trivial⟩ (Sub.refl _) ?_
    refine AW.seq ?_
    refine AW.reg ?_
    refine AO.calm rfl 17 rfl (by decide) (e24 p0) (Calm.load 0 rfl rfl rfl (At.cast At.here rfl) ag24 sz24) ?_
    refine AO.calm rfl 18 rfl (by decide) (.own n6 0 (lset (List.replicate p0.f0.toNat false) p0.f2 true).length) (Calm.move rfl rfl) ?_
    obtain ⟨t9, et9, h⟩ := of_bind h
    refine AO.freezeS 1 [(5, (.fz 1 ((lset (List.replicate p0.f0.toNat false) p0.f2 true).map eBool))), (18, (.fz 1 ((lset (List.replicate p0.f0.toNat false) p0.f2 true).map eBool)))] rfl ⟨fz_all rfl, fz_all rfl, trivial⟩ ?_
    refine AO.callS [(e24 p0), (.fz 1 ((lset (List.replicate p0.f0.toNat false) p0.f2 true).map eBool))] (.fz 1 (t9.map eBool)) 19 rfl (by decide) ok15 rfl rfl rfl ⟨rfl, rfl, rfl, rfl, trivial⟩ (nfa_Close_spec et9) ?_
    refine AO.calm rfl 5 rfl (by decide) (.fz 1 (t9.map eBool)) (Calm.assign rfl rfl) ?_
    refine AO.nil (ρ' := [(1, (eStr p1)), (2, (.ptr n3 0)), (5, (.fz 1 (t9.map eBool)))]) (H' := [(n3, (.mem (e24 p0)))]) ⟨rfl, rfl, rfl, trivial⟩ (Sub.refl _) ?_
    refine AW.seq_mid (fun ρ H => ∃ (x10 : (List Bool)), ρ = [(2, (.ptr n3 0)), (5, (.fz 1 (x10.map eBool)))] ∧ H = [(n3, (.mem (e24 p0)))] ∧ nfa_Has_c0 k p0 x10 = some r) ?_ ?_
    · refine AW.seq ?_
      refine AW.reg ?_
      refine AO.calm rfl 20 rfl (by decide) (eStr p1) (Calm.move rfl rfl) ?_
      refine AO.calm rfl 21 rfl (by decide) (eI64 (p1.size : Int)) (Calm.lenStr rfl rfl Try.underlying9) ?_
      refine AO.calm rfl 22 rfl (by decide) (eI64 (0 : Int)) (Calm.move rfl rfl) ?_
      refine AO.nil (ρ' := [(1, (eStr p1)), (2, (.ptr n3 0)), (5, (.fz 1 (t9.map eBool))), (21, (eI64 (p1.size : Int))), (22, (eI64 (0 : Int)))]) (H' := [(n3, (.mem (e24 p0)))]) ⟨rfl, rfl, rfl, rfl, rfl, trivial⟩ (Sub.refl _) ?_
      refine AW.block ?_
      refine AW.weak (ρ' := [(1, (eStr p1)), (2, (.ptr n3 0)), (5, (.fz 1 (t9.map eBool))), (21, (eI64 (p1.size : Int))), (22, (eI64 (0 : Int)))]) (H' := [(n3, (.mem (e24 p0)))]) ⟨rfl, rfl, rfl, rfl, rfl, trivial⟩ (Sub.refl _) ?_
      refine AW.loop (fun kq ρ H => ∃ (x12 : (List Bool)) (x13 : Int), ρ = [(1, (eStr p1)), (2, (.ptr n3 0)), (5, (.fz 1 (x12.map eBool))), (21, (eI64 (p1.size : Int))), (22, (eI64 x13))] ∧ H = [(n3, (.mem (e24 p0)))] ∧ nfa_Has_l1 k p0 p1 kq x12 x13 = some r) k ⟨t9, (0 : Int), rfl, rfl, h⟩ ?_
      rintro kq15 _ _ ⟨x12, x13, rfl, rfl, h⟩
      cases kq15 with
      | zero => rw [nfa_Has_l1.eq_1] at h; cases h
      | succ kq15 =>
      rw [nfa_Has_l1.eq_2] at h
      generalize hrec14 : nfa_Has_l1 k p0 p1 kq15 = rec14 at h
      refine AW.seq ?_
      refine AW.reg ?_
      refine AO.calm rfl 23 rfl (by decide) (eBool (decide (x13 < (p1.size : Int)))) (Calm.int rfl rfl rfl rfl) ?_
      refine AO.nil (ρ' := [(1, (eStr p1)), (2, (.ptr n3 0)), (5, (.fz 1 (x12.map eBool))), (21, (eI64 (p1.size : Int))), (22, (eI64 x13)), (23, (eBool (decide (x13 < (p1.size : Int)))))]) (H' := [(n3, (.mem (e24 p0)))]) ⟨rfl, rfl, rfl, rfl, rfl, rfl, trivial⟩ (Sub.refl _) ?_
      refine AW.seq ?_
      by_cases hc16 : x13 < (p1.size : Int)
      · have h := (if_pos hc16).symm.trans h
        refine AW.condP (x13 < (p1.size : Int)) rfl hc16 ?_
        refine AW.skip (ρ' := [(1, (eStr p1)), (2, (.ptr n3 0)), (5, (.fz 1 (x12.map eBool))), (21, (eI64 (p1.size : Int))), (22, (eI64 x13))]) (H' := [(n3, (.mem (e24 p0)))]) ⟨rfl, rfl, rfl, rfl, rfl, trivial⟩ (Sub.refl _) ?_
        refine AW.seq ?_
        refine AW.block ?_
        refine AW.seq ?_
        refine AW.reg ?_
        refine AO.calm rfl 24 rfl (by decide) (eI64 x13) (Calm.move rfl rfl) ?_
        refine AO.calm rfl 6 rfl (by decide) (eI64 x13) (Calm.assign rfl rfl) ?_
        refine AO.nil (ρ' := [(1, (eStr p1)), (2, (.ptr n3 0)), (5, (.fz 1 (x12.map eBool))), (6, (eI64 x13)), (21, (eI64 (p1.size : Int))), (22, (eI64 x13))]) (H' := [(n3, (.mem (e24 p0)))]) ⟨rfl, rfl, rfl, rfl, rfl, rfl, trivial⟩ (Sub.refl _) ?_
        obtain ⟨hg17, h⟩ := of_guard h
        obtain ⟨t18, et18, h⟩ := of_bind h
        obtain ⟨t19, et19, h⟩ := of_bind h
        refine AW.regAny (by rfl) (by decide +kernel) [(e24 p0), (e24 p0), (.fz 1 (x12.map eBool)), (eStr p1), (eI64 x13), (eU8 (byteAt p1 x13)), (.fz 1 (t18.map eBool)), (.fz 1 (t19.map eBool)), (.fz 1 (t19.map eBool))] [(1, (eStr p1)), (2, (.ptr n3 0)), (5, (.fz 1 (x12.map eBool))), (6, (eI64 x13)), (21, (eI64 (p1.size : Int))), (22, (eI64 x13))] ⟨rfl, rfl, rfl, rfl, rfl, rfl, trivial⟩ rfl ?_ [(1, (eStr p1)), (2, (.ptr n3 0)), (5, (.fz 1 (t19.map eBool))), (21, (eI64 (p1.size : Int))), (22, (eI64 x13))] [(n3, (.mem (e24 p0)))] ⟨rfl, rfl, rfl, rfl, rfl, trivial⟩ (Sub.refl _) ?_
        · refine ⟨?_, ?_, ?_, ?_, ?_, ?_, ?_, ?_, ?_, trivial⟩
          · refine AO.weak (ρ' := [(2, (.ptr n3 0))]) (H' := [(n3, (.mem (e24 p0)))]) ⟨rfl, trivial⟩ (Sub.refl _) ?_
            refine AO.calm rfl 25 rfl (by decide) (e24 p0) (Calm.load 0 rfl rfl rfl (At.cast At.here rfl) ag24 sz24) ?_
            exact AO.nilE (ρ' := [(25, (e24 p0))]) (H' := [(n3, (.mem (e24 p0)))]) ⟨⟨_, rfl, rfl⟩, Sub.refl _⟩ ⟨rfl, trivial⟩ (Sub.refl _)
          · refine AO.weak (ρ' := [(2, (.ptr n3 0))]) (H' := [(n3, (.mem (e24 p0)))]) ⟨rfl, trivial⟩ (Sub.refl _) ?_
            refine AO.calm rfl 26 rfl (by decide) (e24 p0) (Calm.load 0 rfl rfl rfl (At.cast At.here rfl) ag24 sz24) ?_
            exact AO.nilE (ρ' := [(26, (e24 p0))]) (H' := [(n3, (.mem (e24 p0)))]) ⟨⟨_, rfl, rfl⟩, Sub.refl _⟩ ⟨rfl, trivial⟩ (Sub.refl _)
          · refine AO.weak (ρ' := [(5, (.fz 1 (x12.map eBool)))]) (H' := [(n3, (.mem (e24 p0)))]) ⟨rfl, trivial⟩ (Sub.refl _) ?_
            refine AO.calm rfl 27 rfl (by decide) (.fz 1 (x12.map eBool)) (Calm.move rfl rfl) ?_
            exact AO.nilE (ρ' := [(27, (.fz 1 (x12.map eBool)))]) (H' := [(n3, (.mem (e24 p0)))]) ⟨⟨_, rfl, rfl⟩, Sub.refl _⟩ ⟨rfl, trivial⟩ (Sub.refl _)
          · refine AO.weak (ρ' := [(1, (eStr p1))]) (H' := [(n3, (.mem (e24 p0)))]) ⟨rfl, trivial⟩ (Sub.refl _) ?_
            refine AO.calm rfl 28 rfl (by decide) (eStr p1) (Calm.move rfl rfl) ?_
            exact AO.nilE (ρ' := [(28, (eStr p1))]) (H' := [(n3, (.mem (e24 p0)))]) ⟨⟨_, rfl, rfl⟩, Sub.refl _⟩ ⟨rfl, trivial⟩ (Sub.refl _)
          · refine AO.weak (ρ' := [(6, (eI64 x13))]) (H' := [(n3, (.mem (e24 p0)))]) ⟨rfl, trivial⟩ (Sub.refl _) ?_
            refine AO.calm rfl 29 rfl (by decide) (eI64 x13) (Calm.move rfl rfl) ?_
            exact AO.nilE (ρ' := [(29, (eI64 x13))]) (H' := [(n3, (.mem (e24 p0)))]) ⟨⟨_, rfl, rfl⟩, Sub.refl _⟩ ⟨rfl, trivial⟩ (Sub.refl _)
          · refine AO.weak (ρ' := [(28, (eStr p1)), (29, (eI64 x13))]) (H' := [(n3, (.mem (e24 p0)))]) ⟨rfl, rfl, trivial⟩ (Sub.refl _) ?_
            refine AO.calm rfl 30 rfl (by decide) (eU8 (byteAt p1 x13)) (Calm.idxS rfl rfl rfl hg17 Try.underlying9) ?_
            exact AO.nilE (ρ' := [(30, (eU8 (byteAt p1 x13)))]) (H' := [(n3, (.mem (e24 p0)))]) ⟨⟨_, rfl, rfl⟩, Sub.refl _⟩ ⟨rfl, trivial⟩ (Sub.refl _)
          · refine AO.weak (ρ' := [(26, (e24 p0)), (27, (.fz 1 (x12.map eBool))), (30, (eU8 (byteAt p1 x13)))]) (H' := [(n3, (.mem (e24 p0)))]) ⟨rfl, rfl, rfl, trivial⟩ (Sub.refl _) ?_
            refine AO.callS [(e24 p0), (.fz 1 (x12.map eBool)), (eU8 (byteAt p1 x13))] (.fz 1 (t18.map eBool)) 31 rfl (by decide) ok17 rfl rfl rfl ⟨rfl, rfl, rfl, rfl, rfl, rfl, trivial⟩ (nfa_Move_spec et18) ?_
            exact AO.nilE (ρ' := [(31, (.fz 1 (t18.map eBool)))]) (H' := [(n3, (.mem (e24 p0)))]) ⟨⟨_, rfl, rfl⟩, Sub.refl _⟩ ⟨rfl, trivial⟩ (Sub.refl _)
          · refine AO.weak (ρ' := [(25, (e24 p0)), (31, (.fz 1 (t18.map eBool)))]) (H' := [(n3, (.mem (e24 p0)))]) ⟨rfl, rfl, trivial⟩ (Sub.refl _) ?_
            refine AO.callS [(e24 p0), (.fz 1 (t18.map eBool))] (.fz 1 (t19.map eBool)) 32 rfl (by decide) ok15 rfl rfl rfl ⟨rfl, rfl, rfl, rfl, trivial⟩ (nfa_Close_spec et19) ?_
            exact AO.nilE (ρ' := [(32, (.fz 1 (t19.map eBool)))]) (H' := [(n3, (.mem (e24 p0)))]) ⟨⟨_, rfl, rfl⟩, Sub.refl _⟩ ⟨rfl, trivial⟩ (Sub.refl _)
          · refine AO.weak (ρ' := [(32, (.fz 1 (t19.map eBool)))]) (H' := [(n3, (.mem (e24 p0)))]) ⟨rfl, trivial⟩ (Sub.refl _) ?_
            refine AO.calm rfl 5 rfl (by decide) (.fz 1 (t19.map eBool)) (Calm.assign rfl rfl) ?_
            exact AO.nilE (ρ' := [(5, (.fz 1 (t19.map eBool)))]) (H' := [(n3, (.mem (e24 p0)))]) ⟨⟨_, rfl, rfl⟩, Sub.refl _⟩ ⟨rfl, trivial⟩ (Sub.refl _)
        · refine AW.reg ?_
          refine AO.calm rfl 33 rfl (by decide) (eI64 (w64 (x13 + (1 : Int)))) (Calm.int rfl rfl rfl rfl) ?_
          refine AO.calm rfl 22 rfl (by decide) (eI64 (w64 (x13 + (1 : Int)))) (Calm.move rfl rfl) ?_
          refine AO.nil (ρ' := [(1, (eStr p1)), (2, (.ptr n3 0)), (5, (.fz 1 (t19.map eBool))), (21, (eI64 (p1.size : Int))), (22, (eI64 (w64 (x13 + (1 : Int)))))]) (H' := [(n3, (.mem (e24 p0)))]) ⟨rfl, rfl, rfl, rfl, rfl, trivial⟩ (Sub.refl _) ?_
          exact ⟨kq15, Nat.lt_succ_self _, t19, (w64 (x13 + (1 : Int))), rfl, rfl, by rw [hrec14]; exact h⟩
      · have h := (if_neg hc16).symm.trans h
        refine AW.condN (x13 < (p1.size : Int)) rfl hc16 ?_
        refine AW.exit (ρ' := [(2, (.ptr n3 0)), (5, (.fz 1 (x12.map eBool)))]) (H' := [(n3, (.mem (e24 p0)))]) ⟨rfl, rfl, trivial⟩ (Sub.refl _) ?_
        exact ⟨x12, rfl, rfl, h⟩
    · rintro _ _ ⟨x10, rfl, rfl, h⟩
      rw [nfa_Has_c0.eq_1] at h
      refine AW.seq ?_
      refine AW.reg ?_
      refine AO.calm rfl 34 rfl (by decide) (.fz 1 (x10.map eBool)) (Calm.move rfl rfl) ?_
      refine AO.calm rfl 35 rfl (by decide) (.ptr n3 3) (Calm.fldPtr rfl rfl Try.underlying24 rfl sz3 _ rfl) ?_
      refine AO.calm rfl 36 rfl (by decide) (eI64 p0.f3) (Calm.load 0 rfl rfl rfl (At.cast (At.fldS (At.fldS (At.fldS (At.fld0 At.here)))) rfl) ag3 sz3) ?_
      obtain ⟨hg11, h⟩ := of_guard h
      refine AO.calm rfl 37 rfl (by decide) (.rp (eBool (lget x10 p0.f3))) (Calm.idxL (f := eBool) rfl rfl rfl hg11 Try.underlying25 sz4) ?_
      refine AO.calm rfl 38 rfl (by decide) (eBool (lget x10 p0.f3)) (Calm.loadRp rfl rfl ag4 sz4) ?_
      refine AO.calm rfl 4 rfl (by decide) (eBool (lget x10 p0.f3)) (Calm.assign rfl rfl) ?_
      refine AO.nil (ρ' := [(4, (eBool (lget x10 p0.f3)))]) (H' := []) ⟨rfl, trivial⟩ (Sub.nil _) ?_
      refine AW.ret (ρ' := [(4, (eBool (lget x10 p0.f3)))]) (H' := []) ⟨rfl, trivial⟩ (Sub.refl _) ?_
      have hr := Option.some.inj h
      subst hr
      exact ⟨[(eBool (lget x10 p0.f3))], ⟨rfl, rfl, trivial⟩, rfl⟩
end Go.Avl.T3
/- bosket/bosketref06.Same; printed by avmain.py. -/
namespace Go.Avl.T3
open Go Go.RowKit Go.Proofs Go.Avl
set_option linter.unusedVariables false
set_option maxRecDepth 100000
set_option maxHeartbeats 4000000
attribute [local irreducible] AW AO AQ Spec SpecH Calm

def bosketref06_Same_c0 (k : Nat) : Option Bool :=
  some (true)
def bosketref06_Same_l1 (k : Nat) (p0 : (List Bool)) (p1 : (List Bool)) : Nat → Int → Option Bool
  | 0, _ => none
  | j + 1, x4 =>
    if x4 < (p0.length : Int) then if 0 ≤ x4 ∧ x4 < (p0.length : Int) then if 0 ≤ x4 ∧ x4 < (p1.length : Int) then if ((lget p0 x4) != (lget p1 x4)) = true then some (false)
    else (bosketref06_Same_l1 k p0 p1 j) (w64 (x4 + (1 : Int)))
    else none
    else none
    else bosketref06_Same_c0 k
def bosketref06_Same (k : Nat) (p0 : (List Bool)) (p1 : (List Bool)) : Option Bool :=
  if (p0.length : Int) ≠ (p1.length : Int) then some (false)
  else bosketref06_Same_l1 k p0 p1 k (0 : Int)
theorem bosketref06_Same_spec {k : Nat} {p0 : (List Bool)} {p1 : (List Bool)} {r : Bool} (h : bosketref06_Same k p0 p1 = some r) : Spec Try.prog 14 [(.fz 1 (p0.map eBool)), (.fz 1 (p1.map eBool))] (eBool r) := by
  rw [bosketref06_Same.eq_1] at h
  refine Spec.intro (res := [.tmp 4]) Try.func14 rfl rfl rfl (Nat.le_of_ble_eq_true rfl) ?_
  refine AW.seq ?_
  refine AW.reg ?_
  refine AO.calm rfl 4 rfl (by decide) (eBool false) (Calm.assign rfl rfl) ?_
  refine AO.nil (ρ' := [(0, (.fz 1 (p0.map eBool))), (1, (.fz 1 (p1.map eBool)))]) (H' := []) ⟨rfl, rfl, trivial⟩ (Sub.refl _) ?_
  refine AW.seq ?_
  refine AW.seq ?_
  refine AW.reg ?_
  refine AO.calm rfl 6 rfl (by decide) (.fz 1 (p0.map eBool)) (Calm.move rfl rfl) ?_
  refine AO.calm rfl 7 rfl (by decide) (eI64 (p0.length : Int)) (Calm.lenL rfl rfl Try.underlying25) ?_
  refine AO.calm rfl 8 rfl (by decide) (.fz 1 (p1.map eBool)) (Calm.move rfl rfl) ?_
  refine AO.calm rfl 9 rfl (by decide) (eI64 (p1.length : Int)) (Calm.lenL rfl rfl Try.underlying25) ?_
  refine AO.calm rfl 10 rfl (by decide) (eBool (decide ((p0.length : Int) ≠ (p1.length : Int)))) (Calm.int rfl rfl rfl rfl) ?_
  refine AO.nil (ρ' := [(0, (.fz 1 (p0.map eBool))), (1, (.fz 1 (p1.map eBool))), (10, (eBool (decide ((p0.length : Int) ≠ (p1.length : Int)))))]) (H' := []) ⟨rfl, rfl, rfl, trivial⟩ (Sub.refl _) ?_
  by_cases hc3 : (p0.length : Int) ≠ (p1.length : Int)
  · have h := (if_pos hc3).symm.trans h
    refine AW.condP ((p0.length : Int) ≠ (p1.length : Int)) rfl hc3 ?_
    refine AW.seq ?_
    refine AW.reg ?_
    refine AO.calm rfl 4 rfl (by decide) (eBool false) (Calm.assign rfl rfl) ?_
    refine AO.nil (ρ' := [(4, (eBool false))]) (H' := []) ⟨rfl, trivial⟩ (Sub.refl _) ?_
    refine AW.ret (ρ' := [(4, (eBool false))]) (H' := []) ⟨rfl, trivial⟩ (Sub.refl _) ?_
    have hr := Option.some.inj h
    subst hr
    exact ⟨[(eBool false)], ⟨rfl, rfl, trivial⟩, rfl⟩
  · have h := (if_neg hc3).symm.trans h
    refine AW.condN ((p0.length : Int) ≠ (p1.length : Int)) rfl hc3 ?_
    refine AW.skip (ρ' := [(0, (.fz 1 (p0.map eBool))), (1, (.fz 1 (p1.map eBool)))]) (H' := []) ⟨rfl, rfl, trivial⟩ (Sub.refl _) ?_
    refine AW.seq_mid (fun ρ H => ρ = [] ∧ H = [] ∧ bosketref06_Same_c0 k = some r) ?_ ?_
    · refine AW.seq ?_
      refine AW.reg ?_
      refine AO.calm rfl 5 rfl (by decide) (eI64 (0 : Int)) (Calm.assign rfl rfl) ?_
      refine AO.nil (ρ' := [(0, (.fz 1 (p0.map eBool))), (1, (.fz 1 (p1.map eBool))), (5, (eI64 (0 : Int)))]) (H' := []) ⟨rfl, rfl, rfl, trivial⟩ (Sub.refl _) ?_
      refine AW.block ?_
      refine AW.weak (ρ' := [(0, (.fz 1 (p0.map eBool))), (1, (.fz 1 (p1.map eBool))), (5, (eI64 (0 : Int)))]) (H' := []) ⟨rfl, rfl, rfl, trivial⟩ (Sub.refl _) ?_
      refine AW.loop (fun kq ρ H => ∃ (x4 : Int), ρ = [(0, (.fz 1 (p0.map eBool))), (1, (.fz 1 (p1.map eBool))), (5, (eI64 x4))] ∧ H = [] ∧ bosketref06_Same_l1 k p0 p1 kq x4 = some r) k ⟨(0 : Int), rfl, rfl, h⟩ ?_
      rintro kq6 _ _ ⟨x4, rfl, rfl, h⟩
      cases kq6 with
      | zero => rw [bosketref06_Same_l1.eq_1] at h; cases h
      | succ kq6 =>
      rw [bosketref06_Same_l1.eq_2] at h
      generalize hrec5 : bosketref06_Same_l1 k p0 p1 kq6 = rec5 at h
      refine AW.seq ?_
      refine AW.seq ?_
      refine AW.reg ?_
      refine AO.calm rfl 11 rfl (by decide) (eI64 x4) (Calm.move rfl rfl) ?_
      refine AO.calm rfl 12 rfl (by decide) (.fz 1 (p0.map eBool)) (Calm.move rfl rfl) ?_
      refine AO.calm rfl 13 rfl (by decide) (eI64 (p0.length : Int)) (Calm.lenL rfl rfl Try.underlying25) ?_
      refine AO.calm rfl 14 rfl (by decide) (eBool (decide (x4 < (p0.length : Int)))) (Calm.int rfl rfl rfl rfl) ?_
      refine AO.nil (ρ' := [(0, (.fz 1 (p0.map eBool))), (1, (.fz 1 (p1.map eBool))), (5, (eI64 x4)), (14, (eBool (decide (x4 < (p0.length : Int)))))]) (H' := []) ⟨rfl, rfl, rfl, rfl, trivial⟩ (Sub.refl _) ?_
      by_cases hc7 : x4 < (p0.length : Int)
      · have h := (if_pos hc7).symm.trans h
        refine AW.condP (x4 < (p0.length : Int)) rfl hc7 ?_
        refine AW.skip (ρ' := [(0, (.fz 1 (p0.map eBool))), (1, (.fz 1 (p1.map eBool))), (5, (eI64 x4))]) (H' := []) ⟨rfl, rfl, rfl, trivial⟩ (Sub.refl _) ?_
        refine AW.seq ?_
        refine AW.block ?_
        refine AW.seq ?_
        refine AW.regQ (by rfl) (by decide +kernel) ?_
        refine AQ.calm rfl 17 rfl (by decide) (.fz 1 (p0.map eBool)) (Calm.move rfl rfl) ?_
        refine AQ.calm rfl 18 rfl (by decide) (eI64 x4) (Calm.move rfl rfl) ?_
        obtain ⟨hg8, h⟩ := of_guard h
        refine AQ.calm rfl 19 rfl (by decide) (.rp (eBool (lget p0 x4))) (Calm.idxL (f := eBool) rfl rfl rfl hg8 Try.underlying25 sz4) ?_
        refine AQ.calm rfl 20 rfl (by decide) (eBool (lget p0 x4)) (Calm.loadRp rfl rfl ag4 sz4) ?_
        refine AQ.calm rfl 21 rfl (by decide) (.fz 1 (p1.map eBool)) (Calm.move rfl rfl) ?_
        refine AQ.calm rfl 22 rfl (by decide) (eI64 x4) (Calm.move rfl rfl) ?_
        obtain ⟨hg9, h⟩ := of_guard h
        refine AQ.calm rfl 23 rfl (by decide) (.rp (eBool (lget p1 x4))) (Calm.idxL (f := eBool) rfl rfl rfl hg9 Try.underlying25 sz4) ?_
        refine AQ.calm rfl 24 rfl (by decide) (eBool (lget p1 x4)) (Calm.loadRp rfl rfl ag4 sz4) ?_
        refine AQ.calm rfl 25 rfl (by decide) (eBool ((lget p0 x4) != (lget p1 x4))) (Calm.boolNe rfl rfl rfl Try.underlying4) ?_
        refine AQ.nil (ρ' := [(0, (.fz 1 (p0.map eBool))), (1, (.fz 1 (p1.map eBool))), (5, (eI64 x4)), (25, (eBool ((lget p0 x4) != (lget p1 x4))))]) ⟨rfl, rfl, rfl, rfl, trivial⟩ ?_
        by_cases hc10 : ((lget p0 x4) != (lget p1 x4)) = true
        · have h := (if_pos hc10).symm.trans h
          refine AW.condT' ((lget p0 x4) != (lget p1 x4)) rfl hc10 ?_
          refine AW.seq ?_
          refine AW.reg ?_
          refine AO.calm rfl 4 rfl (by decide) (eBool false) (Calm.assign rfl rfl) ?_
          refine AO.nil (ρ' := [(4, (eBool false))]) (H' := []) ⟨rfl, trivial⟩ (Sub.refl _) ?_
          refine AW.ret (ρ' := [(4, (eBool false))]) (H' := []) ⟨rfl, trivial⟩ (Sub.refl _) ?_
          have hr := Option.some.inj h
          subst hr
          exact ⟨[(eBool false)], ⟨rfl, rfl, trivial⟩, rfl⟩
        · have h := (if_neg hc10).symm.trans h
          refine AW.condF' ((lget p0 x4) != (lget p1 x4)) rfl hc10 ?_
          refine AW.skip (ρ' := [(0, (.fz 1 (p0.map eBool))), (1, (.fz 1 (p1.map eBool))), (5, (eI64 x4))]) (H' := []) ⟨rfl, rfl, rfl, trivial⟩ (Sub.refl _) ?_
          refine AW.reg ?_
          refine AO.calm rfl 15 rfl (by decide) (eI64 x4) (Calm.move rfl rfl) ?_
          refine AO.calm rfl 16 rfl (by decide) (eI64 (w64 (x4 + (1 : Int)))) (Calm.int rfl rfl rfl rfl) ?_
          refine AO.calm rfl 5 rfl (by decide) (eI64 (w64 (x4 + (1 : Int)))) (Calm.assign rfl rfl) ?_
          refine AO.nil (ρ' := [(0, (.fz 1 (p0.map eBool))), (1, (.fz 1 (p1.map eBool))), (5, (eI64 (w64 (x4 + (1 : Int)))))]) (H' := []) ⟨rfl, rfl, rfl, trivial⟩ (Sub.refl _) ?_
          exact ⟨kq6, Nat.lt_succ_self _, (w64 (x4 + (1 : Int))), rfl, rfl, by rw [hrec5]; exact h⟩
      · have h := (if_neg hc7).symm.trans h
        refine AW.condN (x4 < (p0.length : Int)) rfl hc7 ?_
        refine AW.exit (ρ' := []) (H' := []) trivial (Sub.refl _) ?_
        exact ⟨rfl, rfl, h⟩
    · rintro _ _ ⟨rfl, rfl, h⟩
      rw [bosketref06_Same_c0.eq_1] at h
      refine AW.seq ?_
      refine AW.reg ?_
      refine AO.calm rfl 4 rfl (by decide) (eBool true) (Calm.assign rfl rfl) ?_
      refine AO.nil (ρ' := [(4, (eBool true))]) (H' := []) ⟨rfl, trivial⟩ (Sub.refl _) ?_
      refine AW.ret (ρ' := [(4, (eBool true))]) (H' := []) ⟨rfl, trivial⟩ (Sub.refl _) ?_
      have hr := Option.some.inj h
      subst hr
      exact ⟨[(eBool true)], ⟨rfl, rfl, trivial⟩, rfl⟩
end Go.Avl.T3
/- bosket/bosketref06.Close; printed by avmain.py. -/
namespace Go.Avl.T3
open Go Go.RowKit Go.Proofs Go.Avl
set_option linter.unusedVariables false
set_option maxRecDepth 100000
set_option maxHeartbeats 4000000
attribute [local irreducible] AW AO AQ Spec SpecH Calm

def bosketref06_Close_c0 (k : Nat) (x7 : (List Bool)) : Option (List Bool) :=
  some (x7)
def bosketref06_Close_c1 (k : Nat) (rec10 : ((List Bool) → Int → Option (List Bool))) (x9 : Int) (x13 : (List Bool)) : Option (List Bool) :=
  rec10 x13 (w64 (x9 + (1 : Int)))
def bosketref06_Close_c2 (k : Nat) (rec10 : ((List Bool) → Int → Option (List Bool))) (x9 : Int) (x14 : (List Bool)) (b15 : Bool) : Option (List Bool) :=
  if (!b15) = true then some (x14)
  else bosketref06_Close_c1 k rec10 x9 x14
def bosketref06_Close_c3 (k : Nat) (rec20 : ((List Bool) → Bool → Int → Option (List Bool))) (x19 : Int) (x23 : (List Bool)) (b24 : Bool) : Option (List Bool) :=
  rec20 x23 b24 (w64 (x19 + (1 : Int)))
def bosketref06_Close_l4 (k : Nat) (rec10 : ((List Bool) → Int → Option (List Bool))) (p0 : S24) (x9 : Int) : Nat → (List Bool) → Bool → Int → Option (List Bool)
  | 0, _, _, _ => none
  | j + 1, x17, b18, x19 =>
    if x19 < (p0.f1.length : Int) then if 0 ≤ x19 ∧ x19 < (p0.f1.length : Int) then Option.bind (α := Bool) (if ((lget p0.f1 x19).f3) = true then if 0 ≤ ((lget p0.f1 x19).f0) ∧ ((lget p0.f1 x19).f0) < (x17.length : Int) then if (lget x17 ((lget p0.f1 x19).f0)) = true then if 0 ≤ ((lget p0.f1 x19).f1) ∧ ((lget p0.f1 x19).f1) < (x17.length : Int) then some (!(lget x17 ((lget p0.f1 x19).f1)))
    else none
    else some (false)
    else none
    else some (false)) fun b27 =>
    if b27 = true then if 0 ≤ ((lget p0.f1 x19).f1) ∧ ((lget p0.f1 x19).f1) < (x17.length : Int) then bosketref06_Close_c3 k (bosketref06_Close_l4 k rec10 p0 x9 j) x19 (lset x17 ((lget p0.f1 x19).f1) true) true
    else none
    else bosketref06_Close_c3 k (bosketref06_Close_l4 k rec10 p0 x9 j) x19 x17 b18
    else none
    else bosketref06_Close_c2 k rec10 x9 x17 b18
def bosketref06_Close_l5 (k : Nat) (p0 : S24) : Nat → (List Bool) → Int → Option (List Bool)
  | 0, _, _ => none
  | j + 1, x8, x9 =>
    if x9 < p0.f0 then bosketref06_Close_l4 k (bosketref06_Close_l5 k p0 j) p0 x9 k x8 false (0 : Int)
    else bosketref06_Close_c0 k x8
def bosketref06_Close_c6 (k : Nat) (p0 : S24) (x6 : (List Bool)) : Option (List Bool) :=
  bosketref06_Close_l5 k p0 k x6 (0 : Int)
def bosketref06_Close_l7 (k : Nat) (p0 : S24) (p1 : (List Bool)) : Nat → (List Bool) → Int → Option (List Bool)
  | 0, _, _ => none
  | j + 1, x35, x36 =>
    Option.bind (α := Bool) (if x36 < p0.f0 then some (decide (x36 < (p1.length : Int)))
    else some (false)) fun b39 =>
    if b39 = true then if 0 ≤ x36 ∧ x36 < (p1.length : Int) then if 0 ≤ x36 ∧ x36 < (x35.length : Int) then (bosketref06_Close_l7 k p0 p1 j) (lset x35 x36 (lget p1 x36)) (w64 (x36 + (1 : Int)))
    else none
    else none
    else bosketref06_Close_c6 k p0 x35
def bosketref06_Close (k : Nat) (p0 : S24) (p1 : (List Bool)) : Option (List Bool) :=
  if 0 ≤ p0.f0 ∧ p0.f0 * (1 : Int) ≤ 140737488355328 ∧ p0.f0 ≤ 9223372036854775807 then bosketref06_Close_l7 k p0 p1 k (List.replicate p0.f0.toNat false) (0 : Int)
  else none
theorem bosketref06_Close_spec {k : Nat} {p0 : S24} {p1 : (List Bool)} {r : (List Bool)} (h : bosketref06_Close k p0 p1 = some r) : Spec Try.prog 16 [(e24 p0), (.fz 1 (p1.map eBool))] (e25 r) := by
  rw [bosketref06_Close.eq_1] at h
  refine Spec.intro (res := [.tmp 4]) Try.func16 rfl rfl rfl (Nat.le_of_ble_eq_true rfl) ?_
  refine AW.seq ?_
  refine AW.reg ?_
  refine AO.box rfl 2 rfl (by decide) rfl rfl rfl fun n3 => ?_
  refine AO.calm rfl 4 rfl (by decide) (.fl (.slice none 0 0)) (Calm.assign rfl rfl) ?_
  refine AO.nil (ρ' := [(1, (.fz 1 (p1.map eBool))), (2, (.ptr n3 0))]) (H' := [(n3, (.mem (e24 p0)))]) ⟨rfl, rfl, trivial⟩ (Sub.refl _) ?_
  refine AW.seq ?_
  refine AW.reg ?_
  refine AO.calm rfl 11 rfl (by decide) (.ptr n3 0) (Calm.fldPtr rfl rfl Try.underlying24 rfl sz3 _ rfl) ?_
  refine AO.calm rfl 12 rfl (by decide) (eI64 p0.f0) (Calm.load 0 rfl rfl rfl (At.cast (At.fld0 At.here) rfl) ag3 sz3) ?_
  obtain ⟨hg5, h⟩ := of_guard h
  refine AO.makeL (f := eBool) false rfl 13 rfl (by decide) rfl rfl rfl Try.underlying25 sz4 by4 zr4 lay4 rfl hg5 fun n4 => ?_
  refine AO.calm rfl 5 rfl (by decide) (.own n4 0 (List.replicate p0.f0.toNat false).length) (Calm.assign rfl rfl) ?_
  refine AO.nil (ρ' := [(1, (.fz 1 (p1.map eBool))), (2, (.ptr n3 0)), (5, (.own n4 0 (List.replicate p0.f0.toNat false).length))]) (H' := [(n3, (.mem (e24 p0))), (n4, (.mem (.ar 1 ((List.replicate p0.f0.toNat false).map eBool))))]) ⟨rfl, rfl, rfl, trivial⟩ (Sub.cons 1 rfl (Sub.cons 0 rfl (Sub.nil _))) ?_
  refine AW.seq_mid (fun ρ H => ∃ (x6 : (List Bool)), ρ = [(2, (.ptr n3 0)), (5, (.own n4 0 x6.length))] ∧ H = [(n3, (.mem (e24 p0))), (n4, (.mem (.ar 1 (x6.map eBool))))] ∧ bosketref06_Close_c6 k p0 x6 = some r) ?_ ?_
  · refine AW.seq ?_
    refine AW.reg ?_
    refine AO.calm rfl 6 rfl (by decide) (eI64 (0 : Int)) (Calm.assign rfl rfl) ?_
    refine AO.nil (ρ' := [(1, (.fz 1 (p1.map eBool))), (2, (.ptr n3 0)), (5, (.own n4 0 (List.replicate p0.f0.toNat false).length)), (6, (eI64 (0 : Int)))]) (H' := [(n3, (.mem (e24 p0))), (n4, (.mem (.ar 1 ((List.replicate p0.f0.toNat false).map eBool))))]) ⟨rfl, rfl, rfl, rfl, trivial⟩ (Sub.refl _) ?_
    refine AW.block ?_
    refine AW.weak (ρ' := [(1, (.fz 1 (p1.map eBool))), (2, (.ptr n3 0)), (5, (.own n4 0 (List.replicate p0.f0.toNat false).length)), (6, (eI64 (0 : Int)))]) (H' := [(n3, (.mem (e24 p0))), (n4, (.mem (.ar 1 ((List.replicate p0.f0.toNat false).map eBool))))]) ⟨rfl, rfl, rfl, rfl, trivial⟩ (Sub.refl _) ?_
    refine AW.loop (fun kq ρ H => ∃ (x35 : (List Bool)) (x36 : Int), ρ = [(1, (.fz 1 (p1.map eBool))), (2, (.ptr n3 0)), (5, (.own n4 0 x35.length)), (6, (eI64 x36))] ∧ H = [(n3, (.mem (e24 p0))), (n4, (.mem (.ar 1 (x35.map eBool))))] ∧ bosketref06_Close_l7 k p0 p1 kq x35 x36 = some r) k ⟨(List.replicate p0.f0.toNat false), (0 : Int), rfl, rfl, h⟩ ?_
    rintro kq38 _ _ ⟨x35, x36, rfl, rfl, h⟩
    cases kq38 with
    | zero => rw [bosketref06_Close_l7.eq_1] at h; cases h
    | succ kq38 =>
    rw [bosketref06_Close_l7.eq_2] at h
    generalize hrec37 : bosketref06_Close_l7 k p0 p1 kq38 = rec37 at h
    refine AW.seq ?_
    refine AW.seq ?_
    obtain ⟨b39, hq40, h⟩ := of_bind h
    refine AW.regM [(1, (.fz 1 (p1.map eBool))), (2, (.ptr n3 0)), (5, (.own n4 0 x35.length)), (6, (eI64 x36)), (23, (eBool b39))] [(n3, (.mem (e24 p0))), (n4, (.mem (.ar 1 (x35.map eBool))))] ?_ ?_
    · refine AO.calm rfl 14 rfl (by decide) (eI64 x36) (Calm.move rfl rfl) ?_
      refine AO.calm rfl 15 rfl (by decide) (.ptr n3 0) (Calm.fldPtr rfl rfl Try.underlying24 rfl sz3 _ rfl) ?_
      refine AO.calm rfl 16 rfl (by decide) (eI64 p0.f0) (Calm.load 0 rfl rfl rfl (At.cast (At.fld0 At.here) rfl) ag3 sz3) ?_
      refine AO.calm rfl 17 rfl (by decide) (eBool (decide (x36 < p0.f0))) (Calm.int rfl rfl rfl rfl) ?_
      refine AO.calm rfl 18 rfl (by decide) (eBool (decide (x36 < p0.f0))) (Calm.move rfl rfl) ?_
      by_cases hc41 : x36 < p0.f0
      · have hq40 := (if_pos hc41).symm.trans hq40
        refine AO.calmG 4 true 18 rfl rfl (congrArg (fun b => some (AV.fl (Value.bool b))) (decide_eq_true hc41)) 19 rfl (by decide) (eI64 x36) (Calm.move rfl rfl) ?_
        refine AO.calmG 4 true 18 rfl rfl (congrArg (fun b => some (AV.fl (Value.bool b))) (decide_eq_true hc41)) 20 rfl (by decide) (.fz 1 (p1.map eBool)) (Calm.move rfl rfl) ?_
        refine AO.calmG 4 true 18 rfl rfl (congrArg (fun b => some (AV.fl (Value.bool b))) (decide_eq_true hc41)) 21 rfl (by decide) (eI64 (p1.length : Int)) (Calm.lenL rfl rfl Try.underlying25) ?_
        refine AO.calmG 4 true 18 rfl rfl (congrArg (fun b => some (AV.fl (Value.bool b))) (decide_eq_true hc41)) 22 rfl (by decide) (eBool (decide (x36 < (p1.length : Int)))) (Calm.int rfl rfl rfl rfl) ?_
        refine AO.calm rfl 23 rfl (by decide) (eBool (decide (x36 < (p1.length : Int)))) (Calm.pickT rfl (congrArg (fun b => some (AV.fl (Value.bool b))) (decide_eq_true hc41)) rfl) ?_
        cases hq40
        refine AO.nilE ⟨rfl, rfl⟩ ?_ ?_
        · exact ⟨rfl, rfl, rfl, rfl, rfl, trivial⟩
        · exact (Sub.refl _)
      · have hq40 := (if_neg hc41).symm.trans hq40
        refine AO.skipG 4 false 18 rfl rfl (congrArg (fun b => some (AV.fl (Value.bool b))) (decide_eq_false hc41)) 19 rfl (by decide) ?_
        refine AO.skipG 4 false 18 rfl rfl (congrArg (fun b => some (AV.fl (Value.bool b))) (decide_eq_false hc41)) 20 rfl (by decide) ?_
        refine AO.skipG 4 false 18 rfl rfl (congrArg (fun b => some (AV.fl (Value.bool b))) (decide_eq_false hc41)) 21 rfl (by decide) ?_
        refine AO.skipG 4 false 18 rfl rfl (congrArg (fun b => some (AV.fl (Value.bool b))) (decide_eq_false hc41)) 22 rfl (by decide) ?_
        refine AO.calm rfl 23 rfl (by decide) (eBool false) (Calm.pickF rfl (congrArg (fun b => some (AV.fl (Value.bool b))) (decide_eq_false hc41)) rfl) ?_
        cases hq40
        refine AO.nilE ⟨rfl, rfl⟩ ?_ ?_
        · exact ⟨rfl, rfl, rfl, rfl, rfl, trivial⟩
        · exact (Sub.refl _)
    · by_cases hc42 : b39 = true
      · have h := (if_pos hc42).symm.trans h
        refine AW.condT' b39 rfl hc42 ?_
        refine AW.skip (ρ' := [(1, (.fz 1 (p1.map eBool))), (2, (.ptr n3 0)), (5, (.own n4 0 x35.length)), (6, (eI64 x36))]) (H' := [(n3, (.mem (e24 p0))), (n4, (.mem (.ar 1 (x35.map eBool))))]) ⟨rfl, rfl, rfl, rfl, trivial⟩ (Sub.refl _) ?_
        refine AW.seq ?_
        refine AW.block ?_
        refine AW.reg ?_
        refine AO.calm rfl 26 rfl (by decide) (.own n4 0 x35.length) (Calm.move rfl rfl) ?_
        refine AO.calm rfl 27 rfl (by decide) (eI64 x36) (Calm.move rfl rfl) ?_
        refine AO.calm rfl 28 rfl (by decide) (.fz 1 (p1.map eBool)) (Calm.move rfl rfl) ?_
        refine AO.calm rfl 29 rfl (by decide) (eI64 x36) (Calm.move rfl rfl) ?_
        obtain ⟨hg43, h⟩ := of_guard h
        refine AO.calm rfl 30 rfl (by decide) (.rp (eBool (lget p1 x36))) (Calm.idxL (f := eBool) rfl rfl rfl hg43 Try.underlying25 sz4) ?_
        refine AO.calm rfl 31 rfl (by decide) (eBool (lget p1 x36)) (Calm.loadRp rfl rfl ag4 sz4) ?_
        obtain ⟨hg44, h⟩ := of_guard h
        refine AO.calm rfl 32 rfl (by decide) (.ptr n4 (x36.toNat * 1 + 0)) (Calm.idxO 1 rfl rfl rfl rfl hg44 Try.underlying25 sz4) ?_
        refine AO.store (X' := (.ar 1 ((lset x35 x36 (lget p1 x36)).map eBool))) 1 rfl rfl rfl rfl rfl rfl (Put.cast (Put.lidx x36 (lget p1 x36) hg44.1 hg44.2 Put.here) (by omega)) rfl rfl sz4 rfl ?_
        refine AO.coe 5 (y' := (.own n4 0 (lset x35 x36 (lget p1 x36)).length)) rfl (fun _ _ h => lset_own h) ?_
        refine AO.coe 26 (y' := (.own n4 0 (lset x35 x36 (lget p1 x36)).length)) rfl (fun _ _ h => lset_own h) ?_
        refine AO.nil (ρ' := [(1, (.fz 1 (p1.map eBool))), (2, (.ptr n3 0)), (5, (.own n4 0 (lset x35 x36 (lget p1 x36)).length)), (6, (eI64 x36))]) (H' := [(n3, (.mem (e24 p0))), (n4, (.mem (.ar 1 ((lset x35 x36 (lget p1 x36)).map eBool))))]) ⟨rfl, rfl, rfl, rfl, trivial⟩ (Sub.refl _) ?_
        refine AW.reg ?_
        refine AO.calm rfl 24 rfl (by decide) (eI64 x36) (Calm.move rfl rfl) ?_
        refine AO.calm rfl 25 rfl (by decide) (eI64 (w64 (x36 + (1 : Int)))) (Calm.int rfl rfl rfl rfl) ?_
        refine AO.calm rfl 6 rfl (by decide) (eI64 (w64 (x36 + (1 : Int)))) (Calm.assign rfl rfl) ?_
        refine AO.nil (ρ' := [(1, (.fz 1 (p1.map eBool))), (2, (.ptr n3 0)), (5, (.own n4 0 (lset x35 x36 (lget p1 x36)).length)), (6, (eI64 (w64 (x36 + (1 : Int)))))]) (H' := [(n3, (.mem (e24 p0))), (n4, (.mem (.ar 1 ((lset x35 x36 (lget p1 x36)).map eBool))))]) ⟨rfl, rfl, rfl, rfl, trivial⟩ (Sub.refl _) ?_
        exact ⟨kq38, Nat.lt_succ_self _, (lset x35 x36 (lget p1 x36)), (w64 (x36 + (1 : Int))), rfl, rfl, by rw [hrec37]; exact h⟩
      · have h := (if_neg hc42).symm.trans h
        refine AW.condF' b39 rfl hc42 ?_
        refine AW.exit (ρ' := [(2, (.ptr n3 0)), (5, (.own n4 0 x35.length))]) (H' := [(n3, (.mem (e24 p0))), (n4, (.mem (.ar 1 (x35.map eBool))))]) ⟨rfl, rfl, trivial⟩ (Sub.refl _) ?_
        exact ⟨x35, rfl, rfl, h⟩
  · rintro _ _ ⟨x6, rfl, rfl, h⟩
    rw [bosketref06_Close_c6.eq_1] at h
    refine AW.seq_mid (fun ρ H => ∃ (x7 : (List Bool)), ρ = [(5, (.own n4 0 x7.length))] ∧ H = [(n4, (.mem (.ar 1 (x7.map eBool))))] ∧ bosketref06_Close_c0 k x7 = some r) ?_ ?_
    · refine AW.seq ?_
      refine AW.reg ?_
      refine AO.calm rfl 7 rfl (by decide) (eI64 (0 : Int)) (Calm.assign rfl rfl) ?_
      refine AO.nil (ρ' := [(2, (.ptr n3 0)), (5, (.own n4 0 x6.length)), (7, (eI64 (0 : Int)))]) (H' := [(n3, (.mem (e24 p0))), (n4, (.mem (.ar 1 (x6.map eBool))))]) ⟨rfl, rfl, rfl, trivial⟩ (Sub.refl _) ?_
      refine AW.block ?_
      refine AW.weak (ρ' := [(2, (.ptr n3 0)), (5, (.own n4 0 x6.length)), (7, (eI64 (0 : Int)))]) (H' := [(n3, (.mem (e24 p0))), (n4, (.mem (.ar 1 (x6.map eBool))))]) ⟨rfl, rfl, rfl, trivial⟩ (Sub.refl _) ?_
      refine AW.loop (fun kq ρ H => ∃ (x8 : (List Bool)) (x9 : Int), ρ = [(2, (.ptr n3 0)), (5, (.own n4 0 x8.length)), (7, (eI64 x9))] ∧ H = [(n3, (.mem (e24 p0))), (n4, (.mem (.ar 1 (x8.map eBool))))] ∧ bosketref06_Close_l5 k p0 kq x8 x9 = some r) k ⟨x6, (0 : Int), rfl, rfl, h⟩ ?_
      rintro kq11 _ _ ⟨x8, x9, rfl, rfl, h⟩
      cases kq11 with
      | zero => rw [bosketref06_Close_l5.eq_1] at h; cases h
      | succ kq11 =>
      rw [bosketref06_Close_l5.eq_2] at h
      generalize hrec10 : bosketref06_Close_l5 k p0 kq11 = rec10 at h
      refine AW.seq ?_
      refine AW.seq ?_
      refine AW.reg ?_
      refine AO.calm rfl 33 rfl (by decide) (eI64 x9) (Calm.move rfl rfl) ?_
      refine AO.calm rfl 34 rfl (by decide) (.ptr n3 0) (Calm.fldPtr rfl rfl Try.underlying24 rfl sz3 _ rfl) ?_
      refine AO.calm rfl 35 rfl (by decide) (eI64 p0.f0) (Calm.load 0 rfl rfl rfl (At.cast (At.fld0 At.here) rfl) ag3 sz3) ?_
      refine AO.calm rfl 36 rfl (by decide) (eBool (decide (x9 < p0.f0))) (Calm.int rfl rfl rfl rfl) ?_
      refine AO.nil (ρ' := [(2, (.ptr n3 0)), (5, (.own n4 0 x8.length)), (7, (eI64 x9)), (36, (eBool (decide (x9 < p0.f0))))]) (H' := [(n3, (.mem (e24 p0))), (n4, (.mem (.ar 1 (x8.map eBool))))]) ⟨rfl, rfl, rfl, rfl, trivial⟩ (Sub.refl _) ?_
      by_cases hc12 : x9 < p0.f0
      · have h := (if_pos hc12).symm.trans h
        refine AW.condP (x9 < p0.f0) rfl hc12 ?_
        refine AW.skip (ρ' := [(2, (.ptr n3 0)), (5, (.own n4 0 x8.length)), (7, (eI64 x9))]) (H' := [(n3, (.mem (e24 p0))), (n4, (.mem (.ar 1 (x8.map eBool))))]) ⟨rfl, rfl, rfl, trivial⟩ (Sub.refl _) ?_
        refine AW.seq_mid (fun ρ H => ∃ (x13 : (List Bool)), ρ = [(2, (.ptr n3 0)), (5, (.own n4 0 x13.length)), (7, (eI64 x9))] ∧ H = [(n3, (.mem (e24 p0))), (n4, (.mem (.ar 1 (x13.map eBool))))] ∧ bosketref06_Close_c1 k rec10 x9 x13 = some r) ?_ ?_
        · refine AW.block ?_
          refine AW.seq ?_
          refine AW.reg ?_
          refine AO.calm rfl 8 rfl (by decide) (eBool false) (Calm.assign rfl rfl) ?_
          refine AO.nil (ρ' := [(2, (.ptr n3 0)), (5, (.own n4 0 x8.length)), (7, (eI64 x9)), (8, (eBool false))]) (H' := [(n3, (.mem (e24 p0))), (n4, (.mem (.ar 1 (x8.map eBool))))]) ⟨rfl, rfl, rfl, rfl, trivial⟩ (Sub.refl _) ?_
          refine AW.seq_mid (fun ρ H => ∃ (x14 : (List Bool)) (b15 : Bool), ρ = [(2, (.ptr n3 0)), (5, (.own n4 0 x14.length)), (7, (eI64 x9)), (8, (eBool b15))] ∧ H = [(n3, (.mem (e24 p0))), (n4, (.mem (.ar 1 (x14.map eBool))))] ∧ bosketref06_Close_c2 k rec10 x9 x14 b15 = some r) ?_ ?_
          · refine AW.seq ?_
            refine AW.reg ?_
            refine AO.calm rfl 9 rfl (by decide) (eI64 (0 : Int)) (Calm.assign rfl rfl) ?_
            refine AO.nil (ρ' := [(2, (.ptr n3 0)), (5, (.own n4 0 x8.length)), (7, (eI64 x9)), (8, (eBool false)), (9, (eI64 (0 : Int)))]) (H' := [(n3, (.mem (e24 p0))), (n4, (.mem (.ar 1 (x8.map eBool))))]) ⟨rfl, rfl, rfl, rfl, rfl, trivial⟩ (Sub.refl _) ?_
            refine AW.block ?_
            refine AW.weak (ρ' := [(2, (.ptr n3 0)), (5, (.own n4 0 x8.length)), (7, (eI64 x9)), (8, (eBool false)), (9, (eI64 (0 : Int)))]) (H' := [(n3, (.mem (e24 p0))), (n4, (.mem (.ar 1 (x8.map eBool))))]) ⟨rfl, rfl, rfl, rfl, rfl, trivial⟩ (Sub.refl _) ?_
            refine AW.loop (fun kq ρ H => ∃ (x17 : (List Bool)) (b18 : Bool) (x19 : Int), ρ = [(2, (.ptr n3 0)), (5, (.own n4 0 x17.length)), (7, (eI64 x9)), (8, (eBool b18)), (9, (eI64 x19))] ∧ H = [(n3, (.mem (e24 p0))), (n4, (.mem (.ar 1 (x17.map eBool))))] ∧ bosketref06_Close_l4 k rec10 p0 x9 kq x17 b18 x19 = some r) k ⟨x8, false, (0 : Int), rfl, rfl, h⟩ ?_
            rintro kq21 _ _ ⟨x17, b18, x19, rfl, rfl, h⟩
            cases kq21 with
            | zero => rw [bosketref06_Close_l4.eq_1] at h; cases h
            | succ kq21 =>
            rw [bosketref06_Close_l4.eq_2] at h
            generalize hrec20 : bosketref06_Close_l4 k rec10 p0 x9 kq21 = rec20 at h
            refine AW.seq ?_
            refine AW.seq ?_
            refine AW.reg ?_
            refine AO.calm rfl 39 rfl (by decide) (eI64 x19) (Calm.move rfl rfl) ?_
            refine AO.calm rfl 40 rfl (by decide) (.ptr n3 1) (Calm.fldPtr rfl rfl Try.underlying24 rfl sz22 _ rfl) ?_
            refine AO.calm rfl 41 rfl (by decide) (.fz 7 (p0.f1.map e35)) (Calm.load 0 rfl rfl rfl (At.cast (At.fldS (At.fld0 At.here)) rfl) ag22 sz22) ?_
            refine AO.calm rfl 42 rfl (by decide) (eI64 (p0.f1.length : Int)) (Calm.lenL rfl rfl Try.underlying22) ?_
            refine AO.calm rfl 43 rfl (by decide) (eBool (decide (x19 < (p0.f1.length : Int)))) (Calm.int rfl rfl rfl rfl) ?_
            refine AO.nil (ρ' := [(2, (.ptr n3 0)), (5, (.own n4 0 x17.length)), (7, (eI64 x9)), (8, (eBool b18)), (9, (eI64 x19)), (43, (eBool (decide (x19 < (p0.f1.length : Int)))))]) (H' := [(n3, (.mem (e24 p0))), (n4, (.mem (.ar 1 (x17.map eBool))))]) ⟨rfl, rfl, rfl, rfl, rfl, rfl, trivial⟩ (Sub.refl _) ?_
            by_cases hc22 : x19 < (p0.f1.length : Int)
            · have h := (if_pos hc22).symm.trans h
              refine AW.condP (x19 < (p0.f1.length : Int)) rfl hc22 ?_
              refine AW.skip (ρ' := [(2, (.ptr n3 0)), (5, (.own n4 0 x17.length)), (7, (eI64 x9)), (8, (eBool b18)), (9, (eI64 x19))]) (H' := [(n3, (.mem (e24 p0))), (n4, (.mem (.ar 1 (x17.map eBool))))]) ⟨rfl, rfl, rfl, rfl, rfl, trivial⟩ (Sub.refl _) ?_
              refine AW.seq_mid (fun ρ H => ∃ (x23 : (List Bool)) (b24 : Bool), ρ = [(2, (.ptr n3 0)), (5, (.own n4 0 x23.length)), (7, (eI64 x9)), (8, (eBool b24)), (9, (eI64 x19))] ∧ H = [(n3, (.mem (e24 p0))), (n4, (.mem (.ar 1 (x23.map eBool))))] ∧ bosketref06_Close_c3 k rec20 x19 x23 b24 = some r) ?_ ?_
              · refine AW.block ?_
                refine AW.seq ?_
                refine AW.reg ?_
                refine AO.calm rfl 46 rfl (by decide) (.ptr n3 1) (Calm.fldPtr rfl rfl Try.underlying24 rfl sz22 _ rfl) ?_
                refine AO.calm rfl 47 rfl (by decide) (.fz 7 (p0.f1.map e35)) (Calm.load 0 rfl rfl rfl (At.cast (At.fldS (At.fld0 At.here)) rfl) ag22 sz22) ?_
                refine AO.calm rfl 48 rfl (by decide) (eI64 x19) (Calm.move rfl rfl) ?_
                obtain ⟨hg25, h⟩ := of_guard h
                refine AO.calm rfl 49 rfl (by decide) (.rp (e35 (lget p0.f1 x19))) (Calm.idxL (f := e35) rfl rfl rfl hg25 Try.underlying22 sz35) ?_
                refine AO.calm rfl 50 rfl (by decide) (e35 (lget p0.f1 x19)) (Calm.loadRp rfl rfl ag35 sz35) ?_
                refine AO.alloc rfl 10 rfl (by decide) rfl zr35 lay35 fun n26 => ?_
                refine AO.store (X' := (e35 (lget p0.f1 x19))) 0 rfl rfl rfl rfl rfl rfl (Put.cast Put.here rfl) rfl rfl sz35 rfl ?_
                refine AO.nil (ρ' := [(2, (.ptr n3 0)), (5, (.own n4 0 x17.length)), (7, (eI64 x9)), (8, (eBool b18)), (9, (eI64 x19)), (10, (.ptr n26 0))]) (H' := [(n3, (.mem (e24 p0))), (n4, (.mem (.ar 1 (x17.map eBool)))), (n26, (.mem (e35 (lget p0.f1 x19))))]) ⟨rfl, rfl, rfl, rfl, rfl, rfl, trivial⟩ (Sub.cons 1 rfl (Sub.cons 1 rfl (Sub.cons 0 rfl (Sub.nil _)))) ?_
                refine AW.seq ?_
                obtain ⟨b27, hq28, h⟩ := of_bind h
                refine AW.regM [(2, (.ptr n3 0)), (5, (.own n4 0 x17.length)), (7, (eI64 x9)), (8, (eBool b18)), (9, (eI64 x19)), (10, (.ptr n26 0)), (67, (eBool b27))] [(n3, (.mem (e24 p0))), (n4, (.mem (.ar 1 (x17.map eBool)))), (n26, (.mem (e35 (lget p0.f1 x19))))] ?_ ?_
                · refine AO.calm rfl 51 rfl (by decide) (.ptr n26 6) (Calm.fldPtr rfl rfl Try.underlying35 rfl sz4 _ rfl) ?_
                  refine AO.calm rfl 52 rfl (by decide) (eBool ((lget p0.f1 x19).f3)) (Calm.load 2 rfl rfl rfl (At.cast (At.fldS (At.fldS (At.fldS (At.fld0 At.here)))) rfl) ag4 sz4) ?_
                  refine AO.calm rfl 53 rfl (by decide) (eBool ((lget p0.f1 x19).f3)) (Calm.move rfl rfl) ?_
                  by_cases hc29 : ((lget p0.f1 x19).f3) = true
                  · have hq28 := (if_pos hc29).symm.trans hq28
                    refine AO.calmG 2 true 53 rfl rfl (congrArg (fun b => some (AV.fl (Value.bool b))) hc29) 54 rfl (by decide) (.own n4 0 x17.length) (Calm.move rfl rfl) ?_
                    refine AO.calmG 2 true 53 rfl rfl (congrArg (fun b => some (AV.fl (Value.bool b))) hc29) 55 rfl (by decide) (.ptr n26 0) (Calm.fldPtr rfl rfl Try.underlying35 rfl sz3 _ rfl) ?_
                    refine AO.calmG 2 true 53 rfl rfl (congrArg (fun b => some (AV.fl (Value.bool b))) hc29) 56 rfl (by decide) (eI64 ((lget p0.f1 x19).f0)) (Calm.load 2 rfl rfl rfl (At.cast (At.fld0 At.here) rfl) ag3 sz3) ?_
                    obtain ⟨hg30, hq28⟩ := of_guard hq28
                    refine AO.calmG 2 true 53 rfl rfl (congrArg (fun b => some (AV.fl (Value.bool b))) hc29) 57 rfl (by decide) (.ptr n4 (((lget p0.f1 x19).f0).toNat * 1 + 0)) (Calm.idxO 1 rfl rfl rfl rfl hg30 Try.underlying25 sz4) ?_
                    refine AO.calmG 2 true 53 rfl rfl (congrArg (fun b => some (AV.fl (Value.bool b))) hc29) 58 rfl (by decide) (eBool (lget x17 ((lget p0.f1 x19).f0))) (Calm.load 1 rfl rfl rfl (At.cast (At.lidx ((lget p0.f1 x19).f0) hg30.1 hg30.2 At.here) (by omega)) ag4 sz4) ?_
                    refine AO.calm rfl 59 rfl (by decide) (eBool (lget x17 ((lget p0.f1 x19).f0))) (Calm.pickT rfl (congrArg (fun b => some (AV.fl (Value.bool b))) hc29) rfl) ?_
                    refine AO.calm rfl 60 rfl (by decide) (eBool (lget x17 ((lget p0.f1 x19).f0))) (Calm.move rfl rfl) ?_
                    by_cases hc31 : (lget x17 ((lget p0.f1 x19).f0)) = true
                    · have hq28 := (if_pos hc31).symm.trans hq28
                      refine AO.calmG 9 true 60 rfl rfl (congrArg (fun b => some (AV.fl (Value.bool b))) hc31) 61 rfl (by decide) (.own n4 0 x17.length) (Calm.move rfl rfl) ?_
                      refine AO.calmG 9 true 60 rfl rfl (congrArg (fun b => some (AV.fl (Value.bool b))) hc31) 62 rfl (by decide) (.ptr n26 1) (Calm.fldPtr rfl rfl Try.underlying35 rfl sz3 _ rfl) ?_
                      refine AO.calmG 9 true 60 rfl rfl (congrArg (fun b => some (AV.fl (Value.bool b))) hc31) 63 rfl (by decide) (eI64 ((lget p0.f1 x19).f1)) (Calm.load 2 rfl rfl rfl (At.cast (At.fldS (At.fld0 At.here)) rfl) ag3 sz3) ?_
                      obtain ⟨hg32, hq28⟩ := of_guard hq28
                      refine AO.calmG 9 true 60 rfl rfl (congrArg (fun b => some (AV.fl (Value.bool b))) hc31) 64 rfl (by decide) (.ptr n4 (((lget p0.f1 x19).f1).toNat * 1 + 0)) (Calm.idxO 1 rfl rfl rfl rfl hg32 Try.underlying25 sz4) ?_
                      refine AO.calmG 9 true 60 rfl rfl (congrArg (fun b => some (AV.fl (Value.bool b))) hc31) 65 rfl (by decide) (eBool (lget x17 ((lget p0.f1 x19).f1))) (Calm.load 1 rfl rfl rfl (At.cast (At.lidx ((lget p0.f1 x19).f1) hg32.1 hg32.2 At.here) (by omega)) ag4 sz4) ?_
                      refine AO.calmG 9 true 60 rfl rfl (congrArg (fun b => some (AV.fl (Value.bool b))) hc31) 66 rfl (by decide) (eBool (!(lget x17 ((lget p0.f1 x19).f1)))) (Calm.not rfl rfl) ?_
                      refine AO.calm rfl 67 rfl (by decide) (eBool (!(lget x17 ((lget p0.f1 x19).f1)))) (Calm.pickT rfl (congrArg (fun b => some (AV.fl (Value.bool b))) hc31) rfl) ?_
                      cases hq28
                      refine AO.nilE ⟨rfl, rfl⟩ ?_ ?_
                      · exact ⟨rfl, rfl, rfl, rfl, rfl, rfl, rfl, trivial⟩
                      · exact (Sub.refl _)
                    · have hq28 := (if_neg hc31).symm.trans hq28
                      refine AO.skipG 9 false 60 rfl rfl (congrArg (fun b => some (AV.fl (Value.bool b))) (eq_false_of_ne_true hc31)) 61 rfl (by decide) ?_
                      refine AO.skipG 9 false 60 rfl rfl (congrArg (fun b => some (AV.fl (Value.bool b))) (eq_false_of_ne_true hc31)) 62 rfl (by decide) ?_
                      refine AO.skipG 9 false 60 rfl rfl (congrArg (fun b => some (AV.fl (Value.bool b))) (eq_false_of_ne_true hc31)) 63 rfl (by decide) ?_
                      refine AO.skipG 9 false 60 rfl rfl (congrArg (fun b => some (AV.fl (Value.bool b))) (eq_false_of_ne_true hc31)) 64 rfl (by decide) ?_
                      refine AO.skipG 9 false 60 rfl rfl (congrArg (fun b => some (AV.fl (Value.bool b))) (eq_false_of_ne_true hc31)) 65 rfl (by decide) ?_
                      refine AO.skipG 9 false 60 rfl rfl (congrArg (fun b => some (AV.fl (Value.bool b))) (eq_false_of_ne_true hc31)) 66 rfl (by decide) ?_
                      refine AO.calm rfl 67 rfl (by decide) (eBool false) (Calm.pickF rfl (congrArg (fun b => some (AV.fl (Value.bool b))) (eq_false_of_ne_true hc31)) rfl) ?_
                      cases hq28
                      refine AO.nilE ⟨rfl, rfl⟩ ?_ ?_
                      · exact ⟨rfl, rfl, rfl, rfl, rfl, rfl, rfl, trivial⟩
                      · exact (Sub.refl _)
                  · have hq28 := (if_neg hc29).symm.trans hq28
                    refine AO.skipG 2 false 53 rfl rfl (congrArg (fun b => some (AV.fl (Value.bool b))) (eq_false_of_ne_true hc29)) 54 rfl (by decide) ?_
                    refine AO.skipG 2 false 53 rfl rfl (congrArg (fun b => some (AV.fl (Value.bool b))) (eq_false_of_ne_true hc29)) 55 rfl (by decide) ?_
                    refine AO.skipG 2 false 53 rfl rfl (congrArg (fun b => some (AV.fl (Value.bool b))) (eq_false_of_ne_true hc29)) 56 rfl (by decide) ?_
                    refine AO.skipG 2 false 53 rfl rfl (congrArg (fun b => some (AV.fl (Value.bool b))) (eq_false_of_ne_true hc29)) 57 rfl (by decide) ?_
                    refine AO.skipG 2 false 53 rfl rfl (congrArg (fun b => some (AV.fl (Value.bool b))) (eq_false_of_ne_true hc29)) 58 rfl (by decide) ?_
                    refine AO.calm rfl 59 rfl (by decide) (eBool false) (Calm.pickF rfl (congrArg (fun b => some (AV.fl (Value.bool b))) (eq_false_of_ne_true hc29)) rfl) ?_
                    refine AO.calm rfl 60 rfl (by decide) (eBool false) (Calm.move rfl rfl) ?_
                    refine AO.skipG 9 false 60 rfl rfl rfl 61 rfl (by decide) ?_
                    refine AO.skipG 9 false 60 rfl rfl rfl 62 rfl (by decide) ?_
                    refine AO.skipG 9 false 60 rfl rfl rfl 63 rfl (by decide) ?_
                    refine AO.skipG 9 false 60 rfl rfl rfl 64 rfl (by decide) ?_
                    refine AO.skipG 9 false 60 rfl rfl rfl 65 rfl (by decide) ?_
                    refine AO.skipG 9 false 60 rfl rfl rfl 66 rfl (by decide) ?_
                    refine AO.calm rfl 67 rfl (by decide) (eBool false) (Calm.pickF rfl rfl rfl) ?_
                    cases hq28
                    refine AO.nilE ⟨rfl, rfl⟩ ?_ ?_
                    · exact ⟨rfl, rfl, rfl, rfl, rfl, rfl, rfl, trivial⟩
                    · exact (Sub.refl _)
                · by_cases hc33 : b27 = true
                  · have h := (if_pos hc33).symm.trans h
                    refine AW.condT' b27 rfl hc33 ?_
                    refine AW.seq ?_
                    refine AW.reg ?_
                    refine AO.calm rfl 68 rfl (by decide) (.own n4 0 x17.length) (Calm.move rfl rfl) ?_
                    refine AO.calm rfl 69 rfl (by decide) (.ptr n26 1) (Calm.fldPtr rfl rfl Try.underlying35 rfl sz3 _ rfl) ?_
                    refine AO.calm rfl 70 rfl (by decide) (eI64 ((lget p0.f1 x19).f1)) (Calm.load 2 rfl rfl rfl (At.cast (At.fldS (At.fld0 At.here)) rfl) ag3 sz3) ?_
                    obtain ⟨hg34, h⟩ := of_guard h
                    refine AO.calm rfl 71 rfl (by decide) (.ptr n4 (((lget p0.f1 x19).f1).toNat * 1 + 0)) (Calm.idxO 1 rfl rfl rfl rfl hg34 Try.underlying25 sz4) ?_
                    refine AO.store (X' := (.ar 1 ((lset x17 ((lget p0.f1 x19).f1) true).map eBool))) 1 rfl rfl rfl rfl rfl rfl (Put.cast (Put.lidx ((lget p0.f1 x19).f1) true hg34.1 hg34.2 Put.here) (by omega)) rfl rfl sz4 rfl ?_
                    refine AO.coe 5 (y' := (.own n4 0 (lset x17 ((lget p0.f1 x19).f1) true).length)) rfl (fun _ _ h => lset_own h) ?_
                    refine AO.coe 68 (y' := (.own n4 0 (lset x17 ((lget p0.f1 x19).f1) true).length)) rfl (fun _ _ h => lset_own h) ?_
                    refine AO.nil (ρ' := [(2, (.ptr n3 0)), (5, (.own n4 0 (lset x17 ((lget p0.f1 x19).f1) true).length)), (7, (eI64 x9)), (9, (eI64 x19))]) (H' := [(n3, (.mem (e24 p0))), (n4, (.mem (.ar 1 ((lset x17 ((lget p0.f1 x19).f1) true).map eBool))))]) ⟨rfl, rfl, rfl, rfl, trivial⟩ (Sub.cons 0 rfl (Sub.cons 0 rfl (Sub.nil _))) ?_
                    refine AW.reg ?_
                    refine AO.calm rfl 8 rfl (by decide) (eBool true) (Calm.assign rfl rfl) ?_
                    refine AO.nil (ρ' := [(2, (.ptr n3 0)), (5, (.own n4 0 (lset x17 ((lget p0.f1 x19).f1) true).length)), (7, (eI64 x9)), (8, (eBool true)), (9, (eI64 x19))]) (H' := [(n3, (.mem (e24 p0))), (n4, (.mem (.ar 1 ((lset x17 ((lget p0.f1 x19).f1) true).map eBool))))]) ⟨rfl, rfl, rfl, rfl, rfl, trivial⟩ (Sub.refl _) ?_
                    exact ⟨(lset x17 ((lget p0.f1 x19).f1) true), true, rfl, rfl, h⟩
                  · have h := (if_neg hc33).symm.trans h
                    refine AW.condF' b27 rfl hc33 ?_
                    refine AW.skip (ρ' := [(2, (.ptr n3 0)), (5, (.own n4 0 x17.length)), (7, (eI64 x9)), (8, (eBool b18)), (9, (eI64 x19))]) (H' := [(n3, (.mem (e24 p0))), (n4, (.mem (.ar 1 (x17.map eBool))))]) ⟨rfl, rfl, rfl, rfl, rfl, trivial⟩ (Sub.cons 0 rfl (Sub.cons 0 rfl (Sub.nil _))) ?_
                    exact ⟨x17, b18, rfl, rfl, h⟩
              · rintro _ _ ⟨x23, b24, rfl, rfl, h⟩
                rw [bosketref06_Close_c3.eq_1] at h
                refine AW.reg ?_
                refine AO.calm rfl 44 rfl (by decide) (eI64 x19) (Calm.move rfl rfl) ?_
                refine AO.calm rfl 45 rfl (by decide) (eI64 (w64 (x19 + (1 : Int)))) (Calm.int rfl rfl rfl rfl) ?_
                refine AO.calm rfl 9 rfl (by decide) (eI64 (w64 (x19 + (1 : Int)))) (Calm.assign rfl rfl) ?_
                refine AO.nil (ρ' := [(2, (.ptr n3 0)), (5, (.own n4 0 x23.length)), (7, (eI64 x9)), (8, (eBool b24)), (9, (eI64 (w64 (x19 + (1 : Int)))))]) (H' := [(n3, (.mem (e24 p0))), (n4, (.mem (.ar 1 (x23.map eBool))))]) ⟨rfl, rfl, rfl, rfl, rfl, trivial⟩ (Sub.refl _) ?_
                exact ⟨kq21, Nat.lt_succ_self _, x23, b24, (w64 (x19 + (1 : Int))), rfl, rfl, by rw [hrec20]; exact h⟩
            · have h := (if_neg hc22).symm.trans h
              refine AW.condN (x19 < (p0.f1.length : Int)) rfl hc22 ?_
              refine AW.exit (ρ' := [(2, (.ptr n3 0)), (5, (.own n4 0 x17.length)), (7, (eI64 x9)), (8, (eBool b18))]) (H' := [(n3, (.mem (e24 p0))), (n4, (.mem (.ar 1 (x17.map eBool))))]) ⟨rfl, rfl, rfl, rfl, trivial⟩ (Sub.refl _) ?_
              exact ⟨x17, b18, rfl, rfl, h⟩
          · rintro _ _ ⟨x14, b15, rfl, rfl, h⟩
            rw [bosketref06_Close_c2.eq_1] at h
            refine AW.seq ?_
            refine AW.reg ?_
            refine AO.calm rfl 72 rfl (by decide) (eBool b15) (Calm.move rfl rfl) ?_
            refine AO.calm rfl 73 rfl (by decide) (eBool (!b15)) (Calm.not rfl rfl) ?_
            refine AO.nil (ρ' := [(2, (.ptr n3 0)), (5, (.own n4 0 x14.length)), (7, (eI64 x9)), (73, (eBool (!b15)))]) (H' := [(n3, (.mem (e24 p0))), (n4, (.mem (.ar 1 (x14.map eBool))))]) ⟨rfl, rfl, rfl, rfl, trivial⟩ (Sub.refl _) ?_
            by_cases hc16 : (!b15) = true
            · have h := (if_pos hc16).symm.trans h
              refine AW.condT' (!b15) rfl hc16 ?_
              refine AW.seq ?_
              refine AW.reg ?_
              refine AO.calm rfl 74 rfl (by decide) (.own n4 0 x14.length) (Calm.move rfl rfl) ?_
              refine AO.calm rfl 4 rfl (by decide) (.own n4 0 x14.length) (Calm.assign rfl rfl) ?_
              refine AO.nil (ρ' := [(4, (.own n4 0 x14.length))]) (H' := [(n4, (.mem (.ar 1 (x14.map eBool))))]) ⟨rfl, trivial⟩ (Sub.cons 1 rfl (Sub.nil _)) ?_
              refine AW.freezeS 0 [(4, (.fz 1 (x14.map eBool)))] rfl ⟨fz_all rfl, trivial⟩ ?_
              refine AW.ret (ρ' := [(4, (.fz 1 (x14.map eBool)))]) (H' := []) ⟨rfl, trivial⟩ (Sub.refl _) ?_
              have hr := Option.some.inj h
              subst hr
              exact ⟨[(.fz 1 (x14.map eBool))], ⟨rfl, rfl, trivial⟩, rfl⟩
            · have h := (if_neg hc16).symm.trans h
              refine AW.condF' (!b15) rfl hc16 ?_
              refine AW.skip (ρ' := [(2, (.ptr n3 0)), (5, (.own n4 0 x14.length)), (7, (eI64 x9))]) (H' := [(n3, (.mem (e24 p0))), (n4, (.mem (.ar 1 (x14.map eBool))))]) ⟨rfl, rfl, rfl, trivial⟩ (Sub.refl _) ?_
              exact ⟨x14, rfl, rfl, h⟩
        · rintro _ _ ⟨x13, rfl, rfl, h⟩
          rw [bosketref06_Close_c1.eq_1] at h
          refine AW.reg ?_
          refine AO.calm rfl 37 rfl (by decide) (eI64 x9) (Calm.move rfl rfl) ?_
          refine AO.calm rfl 38 rfl (by decide) (eI64 (w64 (x9 + (1 : Int)))) (Calm.int rfl rfl rfl rfl) ?_
          refine AO.calm rfl 7 rfl (by decide) (eI64 (w64 (x9 + (1 : Int)))) (Calm.assign rfl rfl) ?_
          refine AO.nil (ρ' := [(2, (.ptr n3 0)), (5, (.own n4 0 x13.length)), (7, (eI64 (w64 (x9 + (1 : Int)))))]) (H' := [(n3, (.mem (e24 p0))), (n4, (.mem (.ar 1 (x13.map eBool))))]) ⟨rfl, rfl, rfl, trivial⟩ (Sub.refl _) ?_
          exact ⟨kq11, Nat.lt_succ_self _, x13, (w64 (x9 + (1 : Int))), rfl, rfl, by rw [hrec10]; exact h⟩
      · have h := (if_neg hc12).symm.trans h
        refine AW.condN (x9 < p0.f0) rfl hc12 ?_
        refine AW.exit (ρ' := [(5, (.own n4 0 x8.length))]) (H' := [(n4, (.mem (.ar 1 (x8.map eBool))))]) ⟨rfl, trivial⟩ (Sub.cons 1 rfl (Sub.nil _)) ?_
        exact ⟨x8, rfl, rfl, h⟩
    · rintro _ _ ⟨x7, rfl, rfl, h⟩
      rw [bosketref06_Close_c0.eq_1] at h
      refine AW.seq ?_
      refine AW.reg ?_
      refine AO.calm rfl 75 rfl (by decide) (.own n4 0 x7.length) (Calm.move rfl rfl) ?_
      refine AO.calm rfl 4 rfl (by decide) (.own n4 0 x7.length) (Calm.assign rfl rfl) ?_
      refine AO.nil (ρ' := [(4, (.own n4 0 x7.length))]) (H' := [(n4, (.mem (.ar 1 (x7.map eBool))))]) ⟨rfl, trivial⟩ (Sub.refl _) ?_
      refine AW.freezeS 0 [(4, (.fz 1 (x7.map eBool)))] rfl ⟨fz_all rfl, trivial⟩ ?_
      refine AW.ret (ρ' := [(4, (.fz 1 (x7.map eBool)))]) (H' := []) ⟨rfl, trivial⟩ (Sub.refl _) ?_
      have hr := Option.some.inj h
      subst hr
      exact ⟨[(.fz 1 (x7.map eBool))], ⟨rfl, rfl, trivial⟩, rfl⟩
end Go.Avl.T3
/- bosket/bosketref06.Move; printed by avmain.py. -/
namespace Go.Avl.T3
open Go Go.RowKit Go.Proofs Go.Avl
set_option linter.unusedVariables false
set_option maxRecDepth 100000
set_option maxHeartbeats 4000000
attribute [local irreducible] AW AO AQ Spec SpecH Calm

def bosketref06_Move_c0 (k : Nat) (x7 : (List Bool)) : Option (List Bool) :=
  some (x7)
def bosketref06_Move_c1 (k : Nat) (rec10 : ((List Bool) → Int → Option (List Bool))) (x9 : Int) (x13 : (List Bool)) : Option (List Bool) :=
  rec10 x13 (w64 (x9 + (1 : Int)))
def bosketref06_Move_l2 (k : Nat) (p0 : S24) (p1 : (List Bool)) (p2 : Int) : Nat → (List Bool) → Int → Option (List Bool)
  | 0, _, _ => none
  | j + 1, x8, x9 =>
    if x9 < (p0.f1.length : Int) then if 0 ≤ x9 ∧ x9 < (p0.f1.length : Int) then Option.bind (α := Bool) (if (!((lget p0.f1 x9).f3)) = true then if ((lget p0.f1 x9).f0) < (p1.length : Int) then if 0 ≤ ((lget p0.f1 x9).f0) ∧ ((lget p0.f1 x9).f0) < (p1.length : Int) then if (lget p1 ((lget p0.f1 x9).f0)) = true then (bosketref02_Has k ((lget p0.f1 x9).f2) p2).bind fun t22 =>
    some (t22)
    else some (false)
    else none
    else some (false)
    else some (false)) fun b16 =>
    if b16 = true then if 0 ≤ ((lget p0.f1 x9).f1) ∧ ((lget p0.f1 x9).f1) < (x8.length : Int) then bosketref06_Move_c1 k (bosketref06_Move_l2 k p0 p1 p2 j) x9 (lset x8 ((lget p0.f1 x9).f1) true)
    else none
    else bosketref06_Move_c1 k (bosketref06_Move_l2 k p0 p1 p2 j) x9 x8
    else none
    else bosketref06_Move_c0 k x8
def bosketref06_Move (k : Nat) (p0 : S24) (p1 : (List Bool)) (p2 : Int) : Option (List Bool) :=
  if 0 ≤ p0.f0 ∧ p0.f0 * (1 : Int) ≤ 140737488355328 ∧ p0.f0 ≤ 9223372036854775807 then bosketref06_Move_l2 k p0 p1 p2 k (List.replicate p0.f0.toNat false) (0 : Int)
  else none
theorem bosketref06_Move_spec {k : Nat} {p0 : S24} {p1 : (List Bool)} {p2 : Int} {r : (List Bool)} (h : bosketref06_Move k p0 p1 p2 = some r) : Spec Try.prog 18 [(e24 p0), (.fz 1 (p1.map eBool)), (eI64 p2)] (e25 r) := by
  rw [bosketref06_Move.eq_1] at h
  refine Spec.intro (res := [.tmp 6]) Try.func18 rfl rfl rfl (Nat.le_of_ble_eq_true rfl) ?_
  refine AW.seq ?_
  refine AW.reg ?_
  refine AO.box rfl 3 rfl (by decide) rfl rfl rfl fun n4 => ?_
  refine AO.calm rfl 6 rfl (by decide) (.fl (.slice none 0 0)) (Calm.assign rfl rfl) ?_
  refine AO.nil (ρ' := [(1, (.fz 1 (p1.map eBool))), (2, (eI64 p2)), (3, (.ptr n4 0))]) (H' := [(n4, (.mem (e24 p0)))]) ⟨rfl, rfl, rfl, trivial⟩ (Sub.refl _) ?_
  refine AW.seq ?_
  refine AW.reg ?_
  refine AO.calm rfl 10 rfl (by decide) (.ptr n4 0) (Calm.fldPtr rfl rfl Try.underlying24 rfl sz3 _ rfl) ?_
  refine AO.calm rfl 11 rfl (by decide) (eI64 p0.f0) (Calm.load 0 rfl rfl rfl (At.cast (At.fld0 At.here) rfl) ag3 sz3) ?_
  obtain ⟨hg6, h⟩ := of_guard h
  refine AO.makeL (f := eBool) false rfl 12 rfl (by decide) rfl rfl rfl Try.underlying25 sz4 by4 zr4 lay4 rfl hg6 fun n5 => ?_
  refine AO.calm rfl 7 rfl (by decide) (.own n5 0 (List.replicate p0.f0.toNat false).length) (Calm.assign rfl rfl) ?_
  refine AO.nil (ρ' := [(1, (.fz 1 (p1.map eBool))), (2, (eI64 p2)), (3, (.ptr n4 0)), (7, (.own n5 0 (List.replicate p0.f0.toNat false).length))]) (H' := [(n4, (.mem (e24 p0))), (n5, (.mem (.ar 1 ((List.replicate p0.f0.toNat false).map eBool))))]) ⟨rfl, rfl, rfl, rfl, trivial⟩ (Sub.cons 1 rfl (Sub.cons 0 rfl (Sub.nil _))) ?_
  refine AW.seq_mid (fun ρ H => ∃ (x7 : (List Bool)), ρ = [(7, (.own n5 0 x7.length))] ∧ H = [(n5, (.mem (.ar 1 (x7.map eBool))))] ∧ bosketref06_Move_c0 k x7 = some r) ?_ ?_
  · refine AW.seq ?_
    refine AW.reg ?_
    refine AO.calm rfl 8 rfl (by decide) (eI64 (0 : Int)) (Calm.assign rfl rfl) ?_
    refine AO.nil (ρ' := [(1, (.fz 1 (p1.map eBool))), (2, (eI64 p2)), (3, (.ptr n4 0)), (7, (.own n5 0 (List.replicate p0.f0.toNat false).length)), (8, (eI64 (0 : Int)))]) (H' := [(n4, (.mem (e24 p0))), (n5, (.mem (.ar 1 ((List.replicate p0.f0.toNat false).map eBool))))]) ⟨rfl, rfl, rfl, rfl, rfl, trivial⟩ (Sub.refl _) ?_
    refine AW.block ?_
    refine AW.weak (ρ' := [(1, (.fz 1 (p1.map eBool))), (2, (eI64 p2)), (3, (.ptr n4 0)), (7, (.own n5 0 (List.replicate p0.f0.toNat false).length)), (8, (eI64 (0 : Int)))]) (H' := [(n4, (.mem (e24 p0))), (n5, (.mem (.ar 1 ((List.replicate p0.f0.toNat false).map eBool))))]) ⟨rfl, rfl, rfl, rfl, rfl, trivial⟩ (Sub.refl _) ?_
    refine AW.loop (fun kq ρ H => ∃ (x8 : (List Bool)) (x9 : Int), ρ = [(1, (.fz 1 (p1.map eBool))), (2, (eI64 p2)), (3, (.ptr n4 0)), (7, (.own n5 0 x8.length)), (8, (eI64 x9))] ∧ H = [(n4, (.mem (e24 p0))), (n5, (.mem (.ar 1 (x8.map eBool))))] ∧ bosketref06_Move_l2 k p0 p1 p2 kq x8 x9 = some r) k ⟨(List.replicate p0.f0.toNat false), (0 : Int), rfl, rfl, h⟩ ?_
    rintro kq11 _ _ ⟨x8, x9, rfl, rfl, h⟩
    cases kq11 with
    | zero => rw [bosketref06_Move_l2.eq_1] at h; cases h
    | succ kq11 =>
    rw [bosketref06_Move_l2.eq_2] at h
    generalize hrec10 : bosketref06_Move_l2 k p0 p1 p2 kq11 = rec10 at h
    refine AW.seq ?_
    refine AW.seq ?_
    refine AW.reg ?_
    refine AO.calm rfl 13 rfl (by decide) (eI64 x9) (Calm.move rfl rfl) ?_
    refine AO.calm rfl 14 rfl (by decide) (.ptr n4 1) (Calm.fldPtr rfl rfl Try.underlying24 rfl sz22 _ rfl) ?_
    refine AO.calm rfl 15 rfl (by decide) (.fz 7 (p0.f1.map e35)) (Calm.load 0 rfl rfl rfl (At.cast (At.fldS (At.fld0 At.here)) rfl) ag22 sz22) ?_
    refine AO.calm rfl 16 rfl (by decide) (eI64 (p0.f1.length : Int)) (Calm.lenL rfl rfl Try.underlying22) ?_
    refine AO.calm rfl 17 rfl (by decide) (eBool (decide (x9 < (p0.f1.length : Int)))) (Calm.int rfl rfl rfl rfl) ?_
    refine AO.nil (ρ' := [(1, (.fz 1 (p1.map eBool))), (2, (eI64 p2)), (3, (.ptr n4 0)), (7, (.own n5 0 x8.length)), (8, (eI64 x9)), (17, (eBool (decide (x9 < (p0.f1.length : Int)))))]) (H' := [(n4, (.mem (e24 p0))), (n5, (.mem (.ar 1 (x8.map eBool))))]) ⟨rfl, rfl, rfl, rfl, rfl, rfl, trivial⟩ (Sub.refl _) ?_
    by_cases hc12 : x9 < (p0.f1.length : Int)
    · have h := (if_pos hc12).symm.trans h
      refine AW.condP (x9 < (p0.f1.length : Int)) rfl hc12 ?_
      refine AW.skip (ρ' := [(1, (.fz 1 (p1.map eBool))), (2, (eI64 p2)), (3, (.ptr n4 0)), (7, (.own n5 0 x8.length)), (8, (eI64 x9))]) (H' := [(n4, (.mem (e24 p0))), (n5, (.mem (.ar 1 (x8.map eBool))))]) ⟨rfl, rfl, rfl, rfl, rfl, trivial⟩ (Sub.refl _) ?_
      refine AW.seq_mid (fun ρ H => ∃ (x13 : (List Bool)), ρ = [(1, (.fz 1 (p1.map eBool))), (2, (eI64 p2)), (3, (.ptr n4 0)), (7, (.own n5 0 x13.length)), (8, (eI64 x9))] ∧ H = [(n4, (.mem (e24 p0))), (n5, (.mem (.ar 1 (x13.map eBool))))] ∧ bosketref06_Move_c1 k rec10 x9 x13 = some r) ?_ ?_
      · refine AW.block ?_
        refine AW.seq ?_
        refine AW.reg ?_
        refine AO.calm rfl 20 rfl (by decide) (.ptr n4 1) (Calm.fldPtr rfl rfl Try.underlying24 rfl sz22 _ rfl) ?_
        refine AO.calm rfl 21 rfl (by decide) (.fz 7 (p0.f1.map e35)) (Calm.load 0 rfl rfl rfl (At.cast (At.fldS (At.fld0 At.here)) rfl) ag22 sz22) ?_
        refine AO.calm rfl 22 rfl (by decide) (eI64 x9) (Calm.move rfl rfl) ?_
        obtain ⟨hg14, h⟩ := of_guard h
        refine AO.calm rfl 23 rfl (by decide) (.rp (e35 (lget p0.f1 x9))) (Calm.idxL (f := e35) rfl rfl rfl hg14 Try.underlying22 sz35) ?_
        refine AO.calm rfl 24 rfl (by decide) (e35 (lget p0.f1 x9)) (Calm.loadRp rfl rfl ag35 sz35) ?_
        refine AO.alloc rfl 9 rfl (by decide) rfl zr35 lay35 fun n15 => ?_
        refine AO.store (X' := (e35 (lget p0.f1 x9))) 0 rfl rfl rfl rfl rfl rfl (Put.cast Put.here rfl) rfl rfl sz35 rfl ?_
        refine AO.nil (ρ' := [(1, (.fz 1 (p1.map eBool))), (2, (eI64 p2)), (3, (.ptr n4 0)), (7, (.own n5 0 x8.length)), (8, (eI64 x9)), (9, (.ptr n15 0))]) (H' := [(n4, (.mem (e24 p0))), (n5, (.mem (.ar 1 (x8.map eBool)))), (n15, (.mem (e35 (lget p0.f1 x9))))]) ⟨rfl, rfl, rfl, rfl, rfl, rfl, trivial⟩ (Sub.cons 1 rfl (Sub.cons 1 rfl (Sub.cons 0 rfl (Sub.nil _)))) ?_
        refine AW.seq ?_
        obtain ⟨b16, hq17, h⟩ := of_bind h
        refine AW.regM [(1, (.fz 1 (p1.map eBool))), (2, (eI64 p2)), (3, (.ptr n4 0)), (7, (.own n5 0 x8.length)), (8, (eI64 x9)), (9, (.ptr n15 0)), (47, (eBool b16))] [(n4, (.mem (e24 p0))), (n5, (.mem (.ar 1 (x8.map eBool)))), (n15, (.mem (e35 (lget p0.f1 x9))))] ?_ ?_
        · refine AO.calm rfl 25 rfl (by decide) (.ptr n15 6) (Calm.fldPtr rfl rfl Try.underlying35 rfl sz4 _ rfl) ?_
          refine AO.calm rfl 26 rfl (by decide) (eBool ((lget p0.f1 x9).f3)) (Calm.load 2 rfl rfl rfl (At.cast (At.fldS (At.fldS (At.fldS (At.fld0 At.here)))) rfl) ag4 sz4) ?_
          refine AO.calm rfl 27 rfl (by decide) (eBool (!((lget p0.f1 x9).f3))) (Calm.not rfl rfl) ?_
          refine AO.calm rfl 28 rfl (by decide) (eBool (!((lget p0.f1 x9).f3))) (Calm.move rfl rfl) ?_
          by_cases hc18 : (!((lget p0.f1 x9).f3)) = true
          · have hq17 := (if_pos hc18).symm.trans hq17
            refine AO.calmG 3 true 28 rfl rfl (congrArg (fun b => some (AV.fl (Value.bool b))) hc18) 29 rfl (by decide) (.ptr n15 0) (Calm.fldPtr rfl rfl Try.underlying35 rfl sz3 _ rfl) ?_
            refine AO.calmG 3 true 28 rfl rfl (congrArg (fun b => some (AV.fl (Value.bool b))) hc18) 30 rfl (by decide) (eI64 ((lget p0.f1 x9).f0)) (Calm.load 2 rfl rfl rfl (At.cast (At.fld0 At.here) rfl) ag3 sz3) ?_
            refine AO.calmG 3 true 28 rfl rfl (congrArg (fun b => some (AV.fl (Value.bool b))) hc18) 31 rfl (by decide) (.fz 1 (p1.map eBool)) (Calm.move rfl rfl) ?_
            refine AO.calmG 3 true 28 rfl rfl (congrArg (fun b => some (AV.fl (Value.bool b))) hc18) 32 rfl (by decide) (eI64 (p1.length : Int)) (Calm.lenL rfl rfl Try.underlying25) ?_
            refine AO.calmG 3 true 28 rfl rfl (congrArg (fun b => some (AV.fl (Value.bool b))) hc18) 33 rfl (by decide) (eBool (decide (((lget p0.f1 x9).f0) < (p1.length : Int)))) (Calm.int rfl rfl rfl rfl) ?_
            refine AO.calm rfl 34 rfl (by decide) (eBool (decide (((lget p0.f1 x9).f0) < (p1.length : Int)))) (Calm.pickT rfl (congrArg (fun b => some (AV.fl (Value.bool b))) hc18) rfl) ?_
            refine AO.calm rfl 35 rfl (by decide) (eBool (decide (((lget p0.f1 x9).f0) < (p1.length : Int)))) (Calm.move rfl rfl) ?_
            by_cases hc19 : ((lget p0.f1 x9).f0) < (p1.length : Int)
            · have hq17 := (if_pos hc19).symm.trans hq17
              refine AO.calmG 10 true 35 rfl rfl (congrArg (fun b => some (AV.fl (Value.bool b))) (decide_eq_true hc19)) 36 rfl (by decide) (.fz 1 (p1.map eBool)) (Calm.move rfl rfl) ?_
              refine AO.calmG 10 true 35 rfl rfl (congrArg (fun b => some (AV.fl (Value.bool b))) (decide_eq_true hc19)) 37 rfl (by decide) (.ptr n15 0) (Calm.fldPtr rfl rfl Try.underlying35 rfl sz3 _ rfl) ?_
              refine AO.calmG 10 true 35 rfl rfl (congrArg (fun b => some (AV.fl (Value.bool b))) (decide_eq_true hc19)) 38 rfl (by decide) (eI64 ((lget p0.f1 x9).f0)) (Calm.load 2 rfl rfl rfl (At.cast (At.fld0 At.here) rfl) ag3 sz3) ?_
              obtain ⟨hg20, hq17⟩ := of_guard hq17
              refine AO.calmG 10 true 35 rfl rfl (congrArg (fun b => some (AV.fl (Value.bool b))) (decide_eq_true hc19)) 39 rfl (by decide) (.rp (eBool (lget p1 ((lget p0.f1 x9).f0)))) (Calm.idxL (f := eBool) rfl rfl rfl hg20 Try.underlying25 sz4) ?_
              refine AO.calmG 10 true 35 rfl rfl (congrArg (fun b => some (AV.fl (Value.bool b))) (decide_eq_true hc19)) 40 rfl (by decide) (eBool (lget p1 ((lget p0.f1 x9).f0))) (Calm.loadRp rfl rfl ag4 sz4) ?_
              refine AO.calm rfl 41 rfl (by decide) (eBool (lget p1 ((lget p0.f1 x9).f0))) (Calm.pickT rfl (congrArg (fun b => some (AV.fl (Value.bool b))) (decide_eq_true hc19)) rfl) ?_
              refine AO.calm rfl 42 rfl (by decide) (eBool (lget p1 ((lget p0.f1 x9).f0))) (Calm.move rfl rfl) ?_
              by_cases hc21 : (lget p1 ((lget p0.f1 x9).f0)) = true
              · have hq17 := (if_pos hc21).symm.trans hq17
                refine AO.calmG 17 true 42 rfl rfl (congrArg (fun b => some (AV.fl (Value.bool b))) hc21) 43 rfl (by decide) (.ptr n15 2) (Calm.fldPtr rfl rfl Try.underlying35 rfl sz33 _ rfl) ?_
                refine AO.calmG 17 true 42 rfl rfl (congrArg (fun b => some (AV.fl (Value.bool b))) hc21) 44 rfl (by decide) (.ar 1 (((lget p0.f1 x9).f2).toList.map eU64)) (Calm.load 2 rfl rfl rfl (At.cast (At.fldS (At.fldS (At.fld0 At.here))) rfl) ag33 (by rw [sz33]; simp [AV.size])) ?_
                refine AO.calmG 17 true 42 rfl rfl (congrArg (fun b => some (AV.fl (Value.bool b))) hc21) 45 rfl (by decide) (eI64 p2) (Calm.move rfl rfl) ?_
                obtain ⟨t22, et22, hq17⟩ := of_bind hq17
                refine AO.callG 17 true 42 [(.ar 1 (((lget p0.f1 x9).f2).toList.map eU64)), (eI64 p2)] (eBool t22) 46 rfl (by decide) ok44 rfl rfl (congrArg (fun b => some (AV.fl (Value.bool b))) hc21) rfl rfl ⟨rfl, rfl, rfl, rfl, trivial⟩ (bosketref02_Has_spec et22) ?_
                refine AO.calm rfl 47 rfl (by decide) (eBool t22) (Calm.pickT rfl (congrArg (fun b => some (AV.fl (Value.bool b))) hc21) rfl) ?_
                cases hq17
                refine AO.nilE ⟨rfl, rfl⟩ ?_ ?_
                · exact ⟨rfl, rfl, rfl, rfl, rfl, rfl, rfl, trivial⟩
                · exact (Sub.refl _)
              · have hq17 := (if_neg hc21).symm.trans hq17
                refine AO.skipG 17 false 42 rfl rfl (congrArg (fun b => some (AV.fl (Value.bool b))) (eq_false_of_ne_true hc21)) 43 rfl (by decide) ?_
                refine AO.skipG 17 false 42 rfl rfl (congrArg (fun b => some (AV.fl (Value.bool b))) (eq_false_of_ne_true hc21)) 44 rfl (by decide) ?_
                refine AO.skipG 17 false 42 rfl rfl (congrArg (fun b => some (AV.fl (Value.bool b))) (eq_false_of_ne_true hc21)) 45 rfl (by decide) ?_
                refine AO.skipG 17 false 42 rfl rfl (congrArg (fun b => some (AV.fl (Value.bool b))) (eq_false_of_ne_true hc21)) 46 rfl (by decide) ?_
                refine AO.calm rfl 47 rfl (by decide) (eBool false) (Calm.pickF rfl (congrArg (fun b => some (AV.fl (Value.bool b))) (eq_false_of_ne_true hc21)) rfl) ?_
                cases hq17
                refine AO.nilE ⟨rfl, rfl⟩ ?_ ?_
                · exact ⟨rfl, rfl, rfl, rfl, rfl, rfl, rfl, trivial⟩
                · exact (Sub.refl _)
            · have hq17 := (if_neg hc19).symm.trans hq17
              refine AO.skipG 10 false 35 rfl rfl (congrArg (fun b => some (AV.fl (Value.bool b))) (decide_eq_false hc19)) 36 rfl (by decide) ?_
              refine AO.skipG 10 false 35 rfl rfl (congrArg (fun b => some (AV.fl (Value.bool b))) (decide_eq_false hc19)) 37 rfl (by decide) ?_
              refine AO.skipG 10 false 35 rfl rfl (congrArg (fun b => some (AV.fl (Value.bool b))) (decide_eq_false hc19)) 38 rfl (by decide) ?_
              refine AO.skipG 10 false 35 rfl rfl (congrArg (fun b => some (AV.fl (Value.bool b))) (decide_eq_false hc19)) 39 rfl (by decide) ?_
              refine AO.skipG 10 false 35 rfl rfl (congrArg (fun b => some (AV.fl (Value.bool b))) (decide_eq_false hc19)) 40 rfl (by decide) ?_
              refine AO.calm rfl 41 rfl (by decide) (eBool false) (Calm.pickF rfl (congrArg (fun b => some (AV.fl (Value.bool b))) (decide_eq_false hc19)) rfl) ?_
              refine AO.calm rfl 42 rfl (by decide) (eBool false) (Calm.move rfl rfl) ?_
              refine AO.skipG 17 false 42 rfl rfl rfl 43 rfl (by decide) ?_
              refine AO.skipG 17 false 42 rfl rfl rfl 44 rfl (by decide) ?_
              refine AO.skipG 17 false 42 rfl rfl rfl 45 rfl (by decide) ?_
              refine AO.skipG 17 false 42 rfl rfl rfl 46 rfl (by decide) ?_
              refine AO.calm rfl 47 rfl (by decide) (eBool false) (Calm.pickF rfl rfl rfl) ?_
              cases hq17
              refine AO.nilE ⟨rfl, rfl⟩ ?_ ?_
              · exact ⟨rfl, rfl, rfl, rfl, rfl, rfl, rfl, trivial⟩
              · exact (Sub.refl _)
          · have hq17 := (if_neg hc18).symm.trans hq17
            refine AO.skipG 3 false 28 rfl rfl (congrArg (fun b => some (AV.fl (Value.bool b))) (eq_false_of_ne_true hc18)) 29 rfl (by decide) ?_
            refine AO.skipG 3 false 28 rfl rfl (congrArg (fun b => some (AV.fl (Value.bool b))) (eq_false_of_ne_true hc18)) 30 rfl (by decide) ?_
            refine AO.skipG 3 false 28 rfl rfl (congrArg (fun b => some (AV.fl (Value.bool b))) (eq_false_of_ne_true hc18)) 31 rfl (by decide) ?_
            refine AO.skipG 3 false 28 rfl rfl (congrArg (fun b => some (AV.fl (Value.bool b))) (eq_false_of_ne_true hc18)) 32 rfl (by decide) ?_
            refine AO.skipG 3 false 28 rfl rfl (congrArg (fun b => some (AV.fl (Value.bool b))) (eq_false_of_ne_true hc18)) 33 rfl (by decide) ?_
            refine AO.calm rfl 34 rfl (by decide) (eBool false) (Calm.pickF rfl (congrArg (fun b => some (AV.fl (Value.bool b))) (eq_false_of_ne_true hc18)) rfl) ?_
            refine AO.calm rfl 35 rfl (by decide) (eBool false) (Calm.move rfl rfl) ?_
            refine AO.skipG 10 false 35 rfl rfl rfl 36 rfl (by decide) ?_
            refine AO.skipG 10 false 35 rfl rfl rfl 37 rfl (by decide) ?_
            refine AO.skipG 10 false 35 rfl rfl rfl 38 rfl (by decide) ?_
            refine AO.skipG 10 false 35 rfl rfl rfl 39 rfl (by decide) ?_
            refine AO.skipG 10 false 35 rfl rfl rfl 40 rfl (by decide) ?_
            refine AO.calm rfl 41 rfl (by decide) (eBool false) (Calm.pickF rfl rfl rfl) ?_
            refine AO.calm rfl 42 rfl (by decide) (eBool false) (Calm.move rfl rfl) ?_
            refine AO.skipG 17 false 42 rfl rfl rfl 43 rfl (by decide) ?_
            refine AO.skipG 17 false 42 rfl rfl rfl 44 rfl (by decide) ?_
            refine AO.skipG 17 false 42 rfl rfl rfl 45 rfl (by decide) ?_
            refine AO.skipG 17 false 42 rfl rfl rfl 46 rfl (by decide) ?_
            refine AO.calm rfl 47 rfl (by decide) (eBool false) (Calm.pickF rfl rfl rfl) ?_
            cases hq17
            refine AO.nilE ⟨rfl, rfl⟩ ?_ ?_
            · exact ⟨rfl, rfl, rfl, rfl, rfl, rfl, rfl, trivial⟩
            · exact (Sub.refl _)
        · by_cases hc23 : b16 = true
          · have h := (if_pos hc23).symm.trans h
            refine AW.condT' b16 rfl hc23 ?_
            refine AW.reg ?_
            refine AO.calm rfl 48 rfl (by decide) (.own n5 0 x8.length) (Calm.move rfl rfl) ?_
            refine AO.calm rfl 49 rfl (by decide) (.ptr n15 1) (Calm.fldPtr rfl rfl Try.underlying35 rfl sz3 _ rfl) ?_
            refine AO.calm rfl 50 rfl (by decide) (eI64 ((lget p0.f1 x9).f1)) (Calm.load 2 rfl rfl rfl (At.cast (At.fldS (At.fld0 At.here)) rfl) ag3 sz3) ?_
            obtain ⟨hg24, h⟩ := of_guard h
            refine AO.calm rfl 51 rfl (by decide) (.ptr n5 (((lget p0.f1 x9).f1).toNat * 1 + 0)) (Calm.idxO 1 rfl rfl rfl rfl hg24 Try.underlying25 sz4) ?_
            refine AO.store (X' := (.ar 1 ((lset x8 ((lget p0.f1 x9).f1) true).map eBool))) 1 rfl rfl rfl rfl rfl rfl (Put.cast (Put.lidx ((lget p0.f1 x9).f1) true hg24.1 hg24.2 Put.here) (by omega)) rfl rfl sz4 rfl ?_
            refine AO.coe 7 (y' := (.own n5 0 (lset x8 ((lget p0.f1 x9).f1) true).length)) rfl (fun _ _ h => lset_own h) ?_
            refine AO.coe 48 (y' := (.own n5 0 (lset x8 ((lget p0.f1 x9).f1) true).length)) rfl (fun _ _ h => lset_own h) ?_
            refine AO.nil (ρ' := [(1, (.fz 1 (p1.map eBool))), (2, (eI64 p2)), (3, (.ptr n4 0)), (7, (.own n5 0 (lset x8 ((lget p0.f1 x9).f1) true).length)), (8, (eI64 x9))]) (H' := [(n4, (.mem (e24 p0))), (n5, (.mem (.ar 1 ((lset x8 ((lget p0.f1 x9).f1) true).map eBool))))]) ⟨rfl, rfl, rfl, rfl, rfl, trivial⟩ (Sub.cons 0 rfl (Sub.cons 0 rfl (Sub.nil _))) ?_
            exact ⟨(lset x8 ((lget p0.f1 x9).f1) true), rfl, rfl, h⟩
          · have h := (if_neg hc23).symm.trans h
            refine AW.condF' b16 rfl hc23 ?_
            refine AW.skip (ρ' := [(1, (.fz 1 (p1.map eBool))), (2, (eI64 p2)), (3, (.ptr n4 0)), (7, (.own n5 0 x8.length)), (8, (eI64 x9))]) (H' := [(n4, (.mem (e24 p0))), (n5, (.mem (.ar 1 (x8.map eBool))))]) ⟨rfl, rfl, rfl, rfl, rfl, trivial⟩ (Sub.cons 0 rfl (Sub.cons 0 rfl (Sub.nil _))) ?_
            exact ⟨x8, rfl, rfl, h⟩
      · rintro _ _ ⟨x13, rfl, rfl, h⟩
        rw [bosketref06_Move_c1.eq_1] at h
        refine AW.reg ?_
        refine AO.calm rfl 18 rfl (by decide) (eI64 x9) (Calm.move rfl rfl) ?_
        refine AO.calm rfl 19 rfl (by decide) (eI64 (w64 (x9 + (1 : Int)))) (Calm.int rfl rfl rfl rfl) ?_
        refine AO.calm rfl 8 rfl (by decide) (eI64 (w64 (x9 + (1 : Int)))) (Calm.assign rfl rfl) ?_
        refine AO.nil (ρ' := [(1, (.fz 1 (p1.map eBool))), (2, (eI64 p2)), (3, (.ptr n4 0)), (7, (.own n5 0 x13.length)), (8, (eI64 (w64 (x9 + (1 : Int)))))]) (H' := [(n4, (.mem (e24 p0))), (n5, (.mem (.ar 1 (x13.map eBool))))]) ⟨rfl, rfl, rfl, rfl, rfl, trivial⟩ (Sub.refl _) ?_
        exact ⟨kq11, Nat.lt_succ_self _, x13, (w64 (x9 + (1 : Int))), rfl, rfl, by rw [hrec10]; exact h⟩
    · have h := (if_neg hc12).symm.trans h
      refine AW.condN (x9 < (p0.f1.length : Int)) rfl hc12 ?_
      refine AW.exit (ρ' := [(7, (.own n5 0 x8.length))]) (H' := [(n5, (.mem (.ar 1 (x8.map eBool))))]) ⟨rfl, trivial⟩ (Sub.cons 1 rfl (Sub.nil _)) ?_
      exact ⟨x8, rfl, rfl, h⟩
  · rintro _ _ ⟨x7, rfl, rfl, h⟩
    rw [bosketref06_Move_c0.eq_1] at h
    refine AW.seq ?_
    refine AW.reg ?_
    refine AO.calm rfl 52 rfl (by decide) (.own n5 0 x7.length) (Calm.move rfl rfl) ?_
    refine AO.calm rfl 6 rfl (by decide) (.own n5 0 x7.length) (Calm.assign rfl rfl) ?_
    refine AO.nil (ρ' := [(6, (.own n5 0 x7.length))]) (H' := [(n5, (.mem (.ar 1 (x7.map eBool))))]) ⟨rfl, trivial⟩ (Sub.refl _) ?_
    refine AW.freezeS 0 [(6, (.fz 1 (x7.map eBool)))] rfl ⟨fz_all rfl, trivial⟩ ?_
    refine AW.ret (ρ' := [(6, (.fz 1 (x7.map eBool)))]) (H' := []) ⟨rfl, trivial⟩ (Sub.refl _) ?_
    have hr := Option.some.inj h
    subst hr
    exact ⟨[(.fz 1 (x7.map eBool))], ⟨rfl, rfl, trivial⟩, rfl⟩
end Go.Avl.T3
/- bosket/bosketref06.Run; printed by avmain.py. -/
namespace Go.Avl.T3
open Go Go.RowKit Go.Proofs Go.Avl
set_option linter.unusedVariables false
set_option maxRecDepth 100000
set_option maxHeartbeats 4000000
attribute [local irreducible] AW AO AQ Spec SpecH Calm

def bosketref06_Run_c0 (k : Nat) (x8 : (List Bool)) : Option (List Bool) :=
  some (x8)
def bosketref06_Run_l1 (k : Nat) (p0 : S24) (p1 : ByteArray) : Nat → (List Bool) → Int → Option (List Bool)
  | 0, _, _ => none
  | j + 1, x9, x10 =>
    if x10 < (p1.size : Int) then if 0 ≤ x10 ∧ x10 < (p1.size : Int) then (bosketref06_Move k p0 x9 (w64 (byteAt p1 x10))).bind fun t15 =>
    (bosketref06_Close k p0 t15).bind fun t16 =>
    (bosketref06_Run_l1 k p0 p1 j) t16 (w64 (x10 + (1 : Int)))
    else none
    else bosketref06_Run_c0 k x9
def bosketref06_Run (k : Nat) (p0 : S24) (p1 : ByteArray) : Option (List Bool) :=
  if 0 ≤ p0.f0 ∧ p0.f0 * (1 : Int) ≤ 140737488355328 ∧ p0.f0 ≤ 9223372036854775807 then if 0 ≤ p0.f2 ∧ p0.f2 < ((List.replicate p0.f0.toNat false).length : Int) then (bosketref06_Close k p0 (lset (List.replicate p0.f0.toNat false) p0.f2 true)).bind fun t7 =>
  bosketref06_Run_l1 k p0 p1 k t7 (0 : Int)
  else none
  else none
theorem bosketref06_Run_spec {k : Nat} {p0 : S24} {p1 : ByteArray} {r : (List Bool)} (h : bosketref06_Run k p0 p1 = some r) : Spec Try.prog 19 [(e24 p0), (eStr p1)] (e25 r) := by
  rw [bosketref06_Run.eq_1] at h
  refine Spec.intro (res := [.tmp 4]) Try.func19 rfl rfl rfl (Nat.le_of_ble_eq_true rfl) ?_
  refine AW.seq ?_
  refine AW.reg ?_
  refine AO.box rfl 2 rfl (by decide) rfl rfl rfl fun n3 => ?_
  refine AO.calm rfl 4 rfl (by decide) (.fl (.slice none 0 0)) (Calm.assign rfl rfl) ?_
  refine AO.nil (ρ' := [(1, (eStr p1)), (2, (.ptr n3 0))]) (H' := [(n3, (.mem (e24 p0)))]) ⟨rfl, rfl, trivial⟩ (Sub.refl _) ?_
  refine AW.seq ?_
  refine AW.reg ?_
  refine AO.calm rfl 7 rfl (by decide) (.ptr n3 0) (Calm.fldPtr rfl rfl Try.underlying24 rfl sz3 _ rfl) ?_
  refine AO.calm rfl 8 rfl (by decide) (eI64 p0.f0) (Calm.load 0 rfl rfl rfl (At.cast (At.fld0 At.here) rfl) ag3 sz3) ?_
  obtain ⟨hg5, h⟩ := of_guard h
  refine AO.makeL (f := eBool) false rfl 9 rfl (by decide) rfl rfl rfl Try.underlying25 sz4 by4 zr4 lay4 rfl hg5 fun n4 => ?_
  refine AO.calm rfl 5 rfl (by decide) (.own n4 0 (List.replicate p0.f0.toNat false).length) (Calm.assign rfl rfl) ?_
  refine AO.nil (ρ' := [(1, (eStr p1)), (2, (.ptr n3 0)), (5, (.own n4 0 (List.replicate p0.f0.toNat false).length))]) (H' := [(n3, (.mem (e24 p0))), (n4, (.mem (.ar 1 ((List.replicate p0.f0.toNat false).map eBool))))]) ⟨rfl, rfl, rfl, trivial⟩ (Sub.cons 1 rfl (Sub.cons 0 rfl (Sub.nil _))) ?_
  refine AW.seq ?_
  refine AW.reg ?_
  refine AO.calm rfl 10 rfl (by decide) (.own n4 0 (List.replicate p0.f0.toNat false).length) (Calm.move rfl rfl) ?_
  refine AO.calm rfl 11 rfl (by decide) (.ptr n3 2) (Calm.fldPtr rfl rfl Try.underlying24 rfl sz3 _ rfl) ?_
  refine AO.calm rfl 12 rfl (by decide) (eI64 p0.f2) (Calm.load 0 rfl rfl rfl (At.cast (At.fldS (At.fldS (At.fld0 At.here))) rfl) ag3 sz3) ?_
  obtain ⟨hg6, h⟩ := of_guard h
  refine AO.calm rfl 13 rfl (by decide) (.ptr n4 (p0.f2.toNat * 1 + 0)) (Calm.idxO 1 rfl rfl rfl rfl hg6 Try.underlying25 sz4) ?_
  refine AO.store (X' := (.ar 1 ((lset (List.replicate p0.f0.toNat false) p0.f2 true).map eBool))) 1 rfl rfl rfl rfl rfl rfl (Put.cast (Put.lidx p0.f2 true hg6.1 hg6.2 Put.here) (by omega)) rfl rfl sz4 rfl ?_
  refine AO.coe 5 (y' := (.own n4 0 (lset (List.replicate p0.f0.toNat false) p0.f2 true).length)) rfl (fun _ _ h => lset_own h) ?_
  refine AO.coe 10 (y' := (.own n4 0 (lset (List.replicate p0.f0.toNat false) p0.f2 true).length)) rfl (fun _ _ h => lset_own h) ?_
  refine AO.nil (ρ' := [(1, (eStr p1)), (2, (.ptr n3 0)), (5, (.own n4 0 (lset (List.replicate p0.f0.toNat false) p0.f2 true).length))]) (H' := [(n3, (.mem (e24 p0))), (n4, (.mem (.ar 1 ((lset (List.replicate p0.f0.toNat false) p0.f2 true).map eBool))))]) ⟨rfl, rfl, rfl, trivial⟩ (Sub.refl _) ?_
  refine AW.seq ?_
  refine AW.reg ?_
  refine AO.calm rfl 14 rfl (by decide) (e24 p0) (Calm.load 0 rfl rfl rfl (At.cast At.here rfl) ag24 sz24) ?_
  refine AO.calm rfl 15 rfl (by decide) (.own n4 0 (lset (List.replicate p0.f0.toNat false) p0.f2 true).length) (Calm.move rfl rfl) ?_
  obtain ⟨t7, et7, h⟩ := of_bind h
  refine AO.freezeS 1 [(5, (.fz 1 ((lset (List.replicate p0.f0.toNat false) p0.f2 true).map eBool))), (15, (.fz 1 ((lset (List.replicate p0.f0.toNat false) p0.f2 true).map eBool)))] rfl ⟨fz_all rfl, fz_all rfl, trivial⟩ ?_
  refine AO.callS [(e24 p0), (.fz 1 ((lset (List.replicate p0.f0.toNat false) p0.f2 true).map eBool))] (.fz 1 (t7.map eBool)) 16 rfl (by decide) ok16 rfl rfl rfl ⟨rfl, rfl, rfl, rfl, trivial⟩ (bosketref06_Close_spec et7) ?_
  refine AO.calm rfl 5 rfl (by decide) (.fz 1 (t7.map eBool)) (Calm.assign rfl rfl) ?_
  refine AO.nil (ρ' := [(1, (eStr p1)), (2, (.ptr n3 0)), (5, (.fz 1 (t7.map eBool)))]) (H' := [(n3, (.mem (e24 p0)))]) ⟨rfl, rfl, rfl, trivial⟩ (Sub.refl _) ?_
  refine AW.seq_mid (fun ρ H => ∃ (x8 : (List Bool)), ρ = [(5, (.fz 1 (x8.map eBool)))] ∧ H = [] ∧ bosketref06_Run_c0 k x8 = some r) ?_ ?_
  · refine AW.seq ?_
    refine AW.reg ?_
    refine AO.calm rfl 6 rfl (by decide) (eI64 (0 : Int)) (Calm.assign rfl rfl) ?_
    refine AO.nil (ρ' := [(1, (eStr p1)), (2, (.ptr n3 0)), (5, (.fz 1 (t7.map eBool))), (6, (eI64 (0 : Int)))]) (H' := [(n3, (.mem (e24 p0)))]) ⟨rfl, rfl, rfl, rfl, trivial⟩ (Sub.refl _) ?_
    refine AW.block ?_
    refine AW.weak (ρ' := [(1, (eStr p1)), (2, (.ptr n3 0)), (5, (.fz 1 (t7.map eBool))), (6, (eI64 (0 : Int)))]) (H' := [(n3, (.mem (e24 p0)))]) ⟨rfl, rfl, rfl, rfl, trivial⟩ (Sub.refl _) ?_
    refine AW.loop (fun kq ρ H => ∃ (x9 : (List Bool)) (x10 : Int), ρ = [(1, (eStr p1)), (2, (.ptr n3 0)), (5, (.fz 1 (x9.map eBool))), (6, (eI64 x10))] ∧ H = [(n3, (.mem (e24 p0)))] ∧ bosketref06_Run_l1 k p0 p1 kq x9 x10 = some r) k ⟨t7, (0 : Int), rfl, rfl, h⟩ ?_
    rintro kq12 _ _ ⟨x9, x10, rfl, rfl, h⟩
    cases kq12 with
    | zero => rw [bosketref06_Run_l1.eq_1] at h; cases h
    | succ kq12 =>
    rw [bosketref06_Run_l1.eq_2] at h
    generalize hrec11 : bosketref06_Run_l1 k p0 p1 kq12 = rec11 at h
    refine AW.seq ?_
    refine AW.seq ?_
    refine AW.reg ?_
    refine AO.calm rfl 17 rfl (by decide) (eI64 x10) (Calm.move rfl rfl) ?_
    refine AO.calm rfl 18 rfl (by decide) (eStr p1) (Calm.move rfl rfl) ?_
    refine AO.calm rfl 19 rfl (by decide) (eI64 (p1.size : Int)) (Calm.lenStr rfl rfl Try.underlying9) ?_
    refine AO.calm rfl 20 rfl (by decide) (eBool (decide (x10 < (p1.size : Int)))) (Calm.int rfl rfl rfl rfl) ?_
    refine AO.nil (ρ' := [(1, (eStr p1)), (2, (.ptr n3 0)), (5, (.fz 1 (x9.map eBool))), (6, (eI64 x10)), (20, (eBool (decide (x10 < (p1.size : Int)))))]) (H' := [(n3, (.mem (e24 p0)))]) ⟨rfl, rfl, rfl, rfl, rfl, trivial⟩ (Sub.refl _) ?_
    by_cases hc13 : x10 < (p1.size : Int)
    · have h := (if_pos hc13).symm.trans h
      refine AW.condP (x10 < (p1.size : Int)) rfl hc13 ?_
      refine AW.skip (ρ' := [(1, (eStr p1)), (2, (.ptr n3 0)), (5, (.fz 1 (x9.map eBool))), (6, (eI64 x10))]) (H' := [(n3, (.mem (e24 p0)))]) ⟨rfl, rfl, rfl, rfl, trivial⟩ (Sub.refl _) ?_
      refine AW.seq ?_
      refine AW.block ?_
      obtain ⟨hg14, h⟩ := of_guard h
      obtain ⟨t15, et15, h⟩ := of_bind h
      obtain ⟨t16, et16, h⟩ := of_bind h
      refine AW.regAny (by rfl) (by decide +kernel) [(e24 p0), (e24 p0), (.fz 1 (x9.map eBool)), (eStr p1), (eI64 x10), (eU8 (byteAt p1 x10)), (eI64 (w64 (byteAt p1 x10))), (.fz 1 (t15.map eBool)), (.fz 1 (t16.map eBool)), (.fz 1 (t16.map eBool))] [(1, (eStr p1)), (2, (.ptr n3 0)), (5, (.fz 1 (x9.map eBool))), (6, (eI64 x10))] ⟨rfl, rfl, rfl, rfl, trivial⟩ rfl ?_ [(1, (eStr p1)), (2, (.ptr n3 0)), (5, (.fz 1 (t16.map eBool))), (6, (eI64 x10))] [(n3, (.mem (e24 p0)))] ⟨rfl, rfl, rfl, rfl, trivial⟩ (Sub.refl _) ?_
      · refine ⟨?_, ?_, ?_, ?_, ?_, ?_, ?_, ?_, ?_, ?_, trivial⟩
        · refine AO.weak (ρ' := [(2, (.ptr n3 0))]) (H' := [(n3, (.mem (e24 p0)))]) ⟨rfl, trivial⟩ (Sub.refl _) ?_
          refine AO.calm rfl 23 rfl (by decide) (e24 p0) (Calm.load 0 rfl rfl rfl (At.cast At.here rfl) ag24 sz24) ?_
          exact AO.nilE (ρ' := [(23, (e24 p0))]) (H' := [(n3, (.mem (e24 p0)))]) ⟨⟨_, rfl, rfl⟩, Sub.refl _⟩ ⟨rfl, trivial⟩ (Sub.refl _)
        · refine AO.weak (ρ' := [(2, (.ptr n3 0))]) (H' := [(n3, (.mem (e24 p0)))]) ⟨rfl, trivial⟩ (Sub.refl _) ?_
          refine AO.calm rfl 24 rfl (by decide) (e24 p0) (Calm.load 0 rfl rfl rfl (At.cast At.here rfl) ag24 sz24) ?_
          exact AO.nilE (ρ' := [(24, (e24 p0))]) (H' := [(n3, (.mem (e24 p0)))]) ⟨⟨_, rfl, rfl⟩, Sub.refl _⟩ ⟨rfl, trivial⟩ (Sub.refl _)
        · refine AO.weak (ρ' := [(5, (.fz 1 (x9.map eBool)))]) (H' := [(n3, (.mem (e24 p0)))]) ⟨rfl, trivial⟩ (Sub.refl _) ?_
          refine AO.calm rfl 25 rfl (by decide) (.fz 1 (x9.map eBool)) (Calm.move rfl rfl) ?_
          exact AO.nilE (ρ' := [(25, (.fz 1 (x9.map eBool)))]) (H' := [(n3, (.mem (e24 p0)))]) ⟨⟨_, rfl, rfl⟩, Sub.refl _⟩ ⟨rfl, trivial⟩ (Sub.refl _)
        · refine AO.weak (ρ' := [(1, (eStr p1))]) (H' := [(n3, (.mem (e24 p0)))]) ⟨rfl, trivial⟩ (Sub.refl _) ?_
          refine AO.calm rfl 26 rfl (by decide) (eStr p1) (Calm.move rfl rfl) ?_
          exact AO.nilE (ρ' := [(26, (eStr p1))]) (H' := [(n3, (.mem (e24 p0)))]) ⟨⟨_, rfl, rfl⟩, Sub.refl _⟩ ⟨rfl, trivial⟩ (Sub.refl _)
        · refine AO.weak (ρ' := [(6, (eI64 x10))]) (H' := [(n3, (.mem (e24 p0)))]) ⟨rfl, trivial⟩ (Sub.refl _) ?_
          refine AO.calm rfl 27 rfl (by decide) (eI64 x10) (Calm.move rfl rfl) ?_
          exact AO.nilE (ρ' := [(27, (eI64 x10))]) (H' := [(n3, (.mem (e24 p0)))]) ⟨⟨_, rfl, rfl⟩, Sub.refl _⟩ ⟨rfl, trivial⟩ (Sub.refl _)
        · refine AO.weak (ρ' := [(26, (eStr p1)), (27, (eI64 x10))]) (H' := [(n3, (.mem (e24 p0)))]) ⟨rfl, rfl, trivial⟩ (Sub.refl _) ?_
          refine AO.calm rfl 28 rfl (by decide) (eU8 (byteAt p1 x10)) (Calm.idxS rfl rfl rfl hg14 Try.underlying9) ?_
          exact AO.nilE (ρ' := [(28, (eU8 (byteAt p1 x10)))]) (H' := [(n3, (.mem (e24 p0)))]) ⟨⟨_, rfl, rfl⟩, Sub.refl _⟩ ⟨rfl, trivial⟩ (Sub.refl _)
        · refine AO.weak (ρ' := [(28, (eU8 (byteAt p1 x10)))]) (H' := [(n3, (.mem (e24 p0)))]) ⟨rfl, trivial⟩ (Sub.refl _) ?_
          refine AO.calm rfl 29 rfl (by decide) (eI64 (w64 (byteAt p1 x10))) (Calm.conv rfl rfl Try.underlying5 Try.underlying3) ?_
          exact AO.nilE (ρ' := [(29, (eI64 (w64 (byteAt p1 x10))))]) (H' := [(n3, (.mem (e24 p0)))]) ⟨⟨_, rfl, rfl⟩, Sub.refl _⟩ ⟨rfl, trivial⟩ (Sub.refl _)
        · refine AO.weak (ρ' := [(24, (e24 p0)), (25, (.fz 1 (x9.map eBool))), (29, (eI64 (w64 (byteAt p1 x10))))]) (H' := [(n3, (.mem (e24 p0)))]) ⟨rfl, rfl, rfl, trivial⟩ (Sub.refl _) ?_
          refine AO.callS [(e24 p0), (.fz 1 (x9.map eBool)), (eI64 (w64 (byteAt p1 x10)))] (.fz 1 (t15.map eBool)) 30 rfl (by decide) ok18 rfl rfl rfl ⟨rfl, rfl, rfl, rfl, rfl, rfl, trivial⟩ (bosketref06_Move_spec et15) ?_
          exact AO.nilE (ρ' := [(30, (.fz 1 (t15.map eBool)))]) (H' := [(n3, (.mem (e24 p0)))]) ⟨⟨_, rfl, rfl⟩, Sub.refl _⟩ ⟨rfl, trivial⟩ (Sub.refl _)
        · refine AO.weak (ρ' := [(23, (e24 p0)), (30, (.fz 1 (t15.map eBool)))]) (H' := [(n3, (.mem (e24 p0)))]) ⟨rfl, rfl, trivial⟩ (Sub.refl _) ?_
          refine AO.callS [(e24 p0), (.fz 1 (t15.map eBool))] (.fz 1 (t16.map eBool)) 31 rfl (by decide) ok16 rfl rfl rfl ⟨rfl, rfl, rfl, rfl, trivial⟩ (bosketref06_Close_spec et16) ?_
          exact AO.nilE (ρ' := [(31, (.fz 1 (t16.map eBool)))]) (H' := [(n3, (.mem (e24 p0)))]) ⟨⟨_, rfl, rfl⟩, Sub.refl _⟩ ⟨rfl, trivial⟩ (Sub.refl _)
        · refine AO.weak (ρ' := [(31, (.fz 1 (t16.map eBool)))]) (H' := [(n3, (.mem (e24 p0)))]) ⟨rfl, trivial⟩ (Sub.refl _) ?_
          refine AO.calm rfl 5 rfl (by decide) (.fz 1 (t16.map eBool)) (Calm.assign rfl rfl) ?_
          exact AO.nilE (ρ' := [(5, (.fz 1 (t16.map eBool)))]) (H' := [(n3, (.mem (e24 p0)))]) ⟨⟨_, rfl, rfl⟩, Sub.refl _⟩ ⟨rfl, trivial⟩ (Sub.refl _)
      · refine AW.reg ?_
        refine AO.calm rfl 21 rfl (by decide) (eI64 x10) (Calm.move rfl rfl) ?_
        refine AO.calm rfl 22 rfl (by decide) (eI64 (w64 (x10 + (1 : Int)))) (Calm.int rfl rfl rfl rfl) ?_
        refine AO.calm rfl 6 rfl (by decide) (eI64 (w64 (x10 + (1 : Int)))) (Calm.assign rfl rfl) ?_
        refine AO.nil (ρ' := [(1, (eStr p1)), (2, (.ptr n3 0)), (5, (.fz 1 (t16.map eBool))), (6, (eI64 (w64 (x10 + (1 : Int)))))]) (H' := [(n3, (.mem (e24 p0)))]) ⟨rfl, rfl, rfl, rfl, trivial⟩ (Sub.refl _) ?_
        exact ⟨kq12, Nat.lt_succ_self _, t16, (w64 (x10 + (1 : Int))), rfl, rfl, by rw [hrec11]; exact h⟩
    · have h := (if_neg hc13).symm.trans h
      refine AW.condN (x10 < (p1.size : Int)) rfl hc13 ?_
      refine AW.exit (ρ' := [(5, (.fz 1 (x9.map eBool)))]) (H' := []) ⟨rfl, trivial⟩ (Sub.nil _) ?_
      exact ⟨x9, rfl, rfl, h⟩
  · rintro _ _ ⟨x8, rfl, rfl, h⟩
    rw [bosketref06_Run_c0.eq_1] at h
    refine AW.seq ?_
    refine AW.reg ?_
    refine AO.calm rfl 32 rfl (by decide) (.fz 1 (x8.map eBool)) (Calm.move rfl rfl) ?_
    refine AO.calm rfl 4 rfl (by decide) (.fz 1 (x8.map eBool)) (Calm.assign rfl rfl) ?_
    refine AO.nil (ρ' := [(4, (.fz 1 (x8.map eBool)))]) (H' := []) ⟨rfl, trivial⟩ (Sub.refl _) ?_
    refine AW.ret (ρ' := [(4, (.fz 1 (x8.map eBool)))]) (H' := []) ⟨rfl, trivial⟩ (Sub.refl _) ?_
    have hr := Option.some.inj h
    subst hr
    exact ⟨[(.fz 1 (x8.map eBool))], ⟨rfl, rfl, trivial⟩, rfl⟩
end Go.Avl.T3
