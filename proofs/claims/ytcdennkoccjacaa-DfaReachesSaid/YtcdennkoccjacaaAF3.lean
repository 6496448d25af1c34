/- Parts: T3f22, T3f50, T3f66, T3f49, T3f48, T3f23, T3f52, T3f53. -/
import Derived.Test.YtcdennkoccjacaaAF1
/- bosket/bosketlaw08.Small; printed by avmain.py. -/
namespace Go.Avl.T3
open Go Go.RowKit Go.Proofs Go.Avl
set_option linter.unusedVariables false
set_option maxRecDepth 100000
set_option maxHeartbeats 4000000
attribute [local irreducible] AW AO AQ Spec SpecH Calm

def bosketlaw08_Small_c0 (k : Nat) : Option Bool :=
  some (true)
def bosketlaw08_Small_l1 (k : Nat) (p0 : S50) : Nat → Int → Option Bool
  | 0, _ => none
  | j + 1, x7 =>
    if x7 < (p0.f1.length : Int) then if 0 ≤ x7 ∧ x7 < (p0.f1.length : Int) then if (256 : Int) < ((lget p0.f1 x7).length : Int) then some (false)
    else (bosketlaw08_Small_l1 k p0 j) (w64 (x7 + (1 : Int)))
    else none
    else bosketlaw08_Small_c0 k
def bosketlaw08_Small (k : Nat) (p0 : S50) : Option Bool :=
  Option.bind (α := Bool) (if (20 : Int) < (p0.f1.length : Int) then some (true)
  else some (decide ((30 : Int) < (p0.f2.length : Int)))) fun b3 =>
  if b3 = true then some (false)
  else bosketlaw08_Small_l1 k p0 k (0 : Int)
theorem bosketlaw08_Small_spec {k : Nat} {p0 : S50} {r : Bool} (h : bosketlaw08_Small k p0 = some r) : Spec Try.prog 22 [(e50 p0)] (eBool r) := by
  rw [bosketlaw08_Small.eq_1] at h
  refine Spec.intro (res := [.tmp 2]) Try.func22 rfl rfl rfl (Nat.le_of_ble_eq_true rfl) ?_
  refine AW.seq ?_
  refine AW.reg ?_
  refine AO.box rfl 1 rfl (by decide) rfl rfl rfl fun n2 => ?_
  refine AO.calm rfl 2 rfl (by decide) (eBool false) (Calm.assign rfl rfl) ?_
  refine AO.nil (ρ' := [(1, (.ptr n2 0))]) (H' := [(n2, (.mem (e50 p0)))]) ⟨rfl, trivial⟩ (Sub.refl _) ?_
  refine AW.seq ?_
  refine AW.seq ?_
  obtain ⟨b3, hq4, h⟩ := of_bind h
  refine AW.regM [(1, (.ptr n2 0)), (13, (eBool b3))] [(n2, (.mem (e50 p0)))] ?_ ?_
  · refine AO.calm rfl 4 rfl (by decide) (.ptr n2 256) (Calm.fldPtr rfl rfl Try.underlying50 rfl sz48 _ rfl) ?_
    refine AO.calm rfl 5 rfl (by decide) (.fz 1 (p0.f1.map e43)) (Calm.load 0 rfl rfl rfl (At.cast (At.fldS (At.fld0 At.here)) rfl) ag48 sz48) ?_
    refine AO.calm rfl 6 rfl (by decide) (eI64 (p0.f1.length : Int)) (Calm.lenL rfl rfl Try.underlying48) ?_
    refine AO.calm rfl 7 rfl (by decide) (eBool (decide ((20 : Int) < (p0.f1.length : Int)))) (Calm.int rfl rfl rfl rfl) ?_
    refine AO.calm rfl 8 rfl (by decide) (eBool (decide ((20 : Int) < (p0.f1.length : Int)))) (Calm.move rfl rfl) ?_
    by_cases hc5 : (20 : Int) < (p0.f1.length : Int)
    · have hq4 := (if_pos hc5).symm.trans hq4
      refine AO.skipG 4 true 8 rfl rfl (congrArg (fun b => some (AV.fl (Value.bool b))) (decide_eq_true hc5)) 9 rfl (by decide) ?_
      refine AO.skipG 4 true 8 rfl rfl (congrArg (fun b => some (AV.fl (Value.bool b))) (decide_eq_true hc5)) 10 rfl (by decide) ?_
      refine AO.skipG 4 true 8 rfl rfl (congrArg (fun b => some (AV.fl (Value.bool b))) (decide_eq_true hc5)) 11 rfl (by decide) ?_
      refine AO.skipG 4 true 8 rfl rfl (congrArg (fun b => some (AV.fl (Value.bool b))) (decide_eq_true hc5)) 12 rfl (by decide) ?_
      refine AO.calm rfl 13 rfl (by decide) (eBool true) (Calm.pickT rfl (congrArg (fun b => some (AV.fl (Value.bool b))) (decide_eq_true hc5)) rfl) ?_
      cases hq4
      refine AO.nilE ⟨rfl, rfl⟩ ?_ ?_
      · exact ⟨rfl, rfl, trivial⟩
      · exact (Sub.refl _)
    · have hq4 := (if_neg hc5).symm.trans hq4
      refine AO.calmG 4 false 8 rfl rfl (congrArg (fun b => some (AV.fl (Value.bool b))) (decide_eq_false hc5)) 9 rfl (by decide) (.ptr n2 257) (Calm.fldPtr rfl rfl Try.underlying50 rfl sz43 _ rfl) ?_
      refine AO.calmG 4 false 8 rfl rfl (congrArg (fun b => some (AV.fl (Value.bool b))) (decide_eq_false hc5)) 10 rfl (by decide) (.fz 1 (p0.f2.map eI64)) (Calm.load 0 rfl rfl rfl (At.cast (At.fldS (At.fldS (At.fld0 At.here))) rfl) ag43 sz43) ?_
      refine AO.calmG 4 false 8 rfl rfl (congrArg (fun b => some (AV.fl (Value.bool b))) (decide_eq_false hc5)) 11 rfl (by decide) (eI64 (p0.f2.length : Int)) (Calm.lenL rfl rfl Try.underlying43) ?_
      refine AO.calmG 4 false 8 rfl rfl (congrArg (fun b => some (AV.fl (Value.bool b))) (decide_eq_false hc5)) 12 rfl (by decide) (eBool (decide ((30 : Int) < (p0.f2.length : Int)))) (Calm.int rfl rfl rfl rfl) ?_
      refine AO.calm rfl 13 rfl (by decide) (eBool (decide ((30 : Int) < (p0.f2.length : Int)))) (Calm.pickF rfl (congrArg (fun b => some (AV.fl (Value.bool b))) (decide_eq_false hc5)) rfl) ?_
      cases hq4
      refine AO.nilE ⟨rfl, rfl⟩ ?_ ?_
      · exact ⟨rfl, rfl, trivial⟩
      · exact (Sub.refl _)
  · by_cases hc6 : b3 = true
    · have h := (if_pos hc6).symm.trans h
      refine AW.condT' b3 rfl hc6 ?_
      refine AW.seq ?_
      refine AW.reg ?_
      refine AO.calm rfl 2 rfl (by decide) (eBool false) (Calm.assign rfl rfl) ?_
      refine AO.nil (ρ' := [(2, (eBool false))]) (H' := []) ⟨rfl, trivial⟩ (Sub.nil _) ?_
      refine AW.ret (ρ' := [(2, (eBool false))]) (H' := []) ⟨rfl, trivial⟩ (Sub.refl _) ?_
      have hr := Option.some.inj h
      subst hr
      exact ⟨[(eBool false)], ⟨rfl, rfl, trivial⟩, rfl⟩
    · have h := (if_neg hc6).symm.trans h
      refine AW.condF' b3 rfl hc6 ?_
      refine AW.skip (ρ' := [(1, (.ptr n2 0))]) (H' := [(n2, (.mem (e50 p0)))]) ⟨rfl, trivial⟩ (Sub.refl _) ?_
      refine AW.seq_mid (fun ρ H => ρ = [] ∧ H = [] ∧ bosketlaw08_Small_c0 k = some r) ?_ ?_
      · refine AW.seq ?_
        refine AW.reg ?_
        refine AO.calm rfl 3 rfl (by decide) (eI64 (0 : Int)) (Calm.assign rfl rfl) ?_
        refine AO.nil (ρ' := [(1, (.ptr n2 0)), (3, (eI64 (0 : Int)))]) (H' := [(n2, (.mem (e50 p0)))]) ⟨rfl, rfl, trivial⟩ (Sub.refl _) ?_
        refine AW.block ?_
        refine AW.weak (ρ' := [(1, (.ptr n2 0)), (3, (eI64 (0 : Int)))]) (H' := [(n2, (.mem (e50 p0)))]) ⟨rfl, rfl, trivial⟩ (Sub.refl _) ?_
        refine AW.loop (fun kq ρ H => ∃ (x7 : Int), ρ = [(1, (.ptr n2 0)), (3, (eI64 x7))] ∧ H = [(n2, (.mem (e50 p0)))] ∧ bosketlaw08_Small_l1 k p0 kq x7 = some r) k ⟨(0 : Int), rfl, rfl, h⟩ ?_
        rintro kq9 _ _ ⟨x7, rfl, rfl, h⟩
        cases kq9 with
        | zero => rw [bosketlaw08_Small_l1.eq_1] at h; cases h
        | succ kq9 =>
        rw [bosketlaw08_Small_l1.eq_2] at h
        generalize hrec8 : bosketlaw08_Small_l1 k p0 kq9 = rec8 at h
        refine AW.seq ?_
        refine AW.seq ?_
        refine AW.reg ?_
        refine AO.calm rfl 14 rfl (by decide) (eI64 x7) (Calm.move rfl rfl) ?_
        refine AO.calm rfl 15 rfl (by decide) (.ptr n2 256) (Calm.fldPtr rfl rfl Try.underlying50 rfl sz48 _ rfl) ?_
        refine AO.calm rfl 16 rfl (by decide) (.fz 1 (p0.f1.map e43)) (Calm.load 0 rfl rfl rfl (At.cast (At.fldS (At.fld0 At.here)) rfl) ag48 sz48) ?_
        refine AO.calm rfl 17 rfl (by decide) (eI64 (p0.f1.length : Int)) (Calm.lenL rfl rfl Try.underlying48) ?_
        refine AO.calm rfl 18 rfl (by decide) (eBool (decide (x7 < (p0.f1.length : Int)))) (Calm.int rfl rfl rfl rfl) ?_
        refine AO.nil (ρ' := [(1, (.ptr n2 0)), (3, (eI64 x7)), (18, (eBool (decide (x7 < (p0.f1.length : Int)))))]) (H' := [(n2, (.mem (e50 p0)))]) ⟨rfl, rfl, rfl, trivial⟩ (Sub.refl _) ?_
        by_cases hc10 : x7 < (p0.f1.length : Int)
        · have h := (if_pos hc10).symm.trans h
          refine AW.condP (x7 < (p0.f1.length : Int)) rfl hc10 ?_
          refine AW.skip (ρ' := [(1, (.ptr n2 0)), (3, (eI64 x7))]) (H' := [(n2, (.mem (e50 p0)))]) ⟨rfl, rfl, trivial⟩ (Sub.refl _) ?_
          refine AW.seq ?_
          refine AW.block ?_
          refine AW.seq ?_
          refine AW.reg ?_
          refine AO.calm rfl 21 rfl (by decide) (.ptr n2 256) (Calm.fldPtr rfl rfl Try.underlying50 rfl sz48 _ rfl) ?_
          refine AO.calm rfl 22 rfl (by decide) (.fz 1 (p0.f1.map e43)) (Calm.load 0 rfl rfl rfl (At.cast (At.fldS (At.fld0 At.here)) rfl) ag48 sz48) ?_
          refine AO.calm rfl 23 rfl (by decide) (eI64 x7) (Calm.move rfl rfl) ?_
          obtain ⟨hg11, h⟩ := of_guard h
          refine AO.calm rfl 24 rfl (by decide) (.rp (.fz 1 ((lget p0.f1 x7).map eI64))) (Calm.idxL (f := e43) rfl rfl rfl hg11 Try.underlying48 sz43) ?_
          refine AO.calm rfl 25 rfl (by decide) (.fz 1 ((lget p0.f1 x7).map eI64)) (Calm.loadRp rfl rfl ag43 sz43) ?_
          refine AO.calm rfl 26 rfl (by decide) (eI64 ((lget p0.f1 x7).length : Int)) (Calm.lenL rfl rfl Try.underlying43) ?_
          refine AO.calm rfl 27 rfl (by decide) (eBool (decide ((256 : Int) < ((lget p0.f1 x7).length : Int)))) (Calm.int rfl rfl rfl rfl) ?_
          refine AO.nil (ρ' := [(1, (.ptr n2 0)), (3, (eI64 x7)), (27, (eBool (decide ((256 : Int) < ((lget p0.f1 x7).length : Int)))))]) (H' := [(n2, (.mem (e50 p0)))]) ⟨rfl, rfl, rfl, trivial⟩ (Sub.refl _) ?_
          by_cases hc12 : (256 : Int) < ((lget p0.f1 x7).length : Int)
          · have h := (if_pos hc12).symm.trans h
            refine AW.condP ((256 : Int) < ((lget p0.f1 x7).length : Int)) rfl hc12 ?_
            refine AW.seq ?_
            refine AW.reg ?_
            refine AO.calm rfl 2 rfl (by decide) (eBool false) (Calm.assign rfl rfl) ?_
            refine AO.nil (ρ' := [(2, (eBool false))]) (H' := []) ⟨rfl, trivial⟩ (Sub.nil _) ?_
            refine AW.ret (ρ' := [(2, (eBool false))]) (H' := []) ⟨rfl, trivial⟩ (Sub.refl _) ?_
            have hr := Option.some.inj h
            subst hr
            exact ⟨[(eBool false)], ⟨rfl, rfl, trivial⟩, rfl⟩
          · have h := (if_neg hc12).symm.trans h
            refine AW.condN ((256 : Int) < ((lget p0.f1 x7).length : Int)) rfl hc12 ?_
            refine AW.skip (ρ' := [(1, (.ptr n2 0)), (3, (eI64 x7))]) (H' := [(n2, (.mem (e50 p0)))]) ⟨rfl, rfl, trivial⟩ (Sub.refl _) ?_
            refine AW.reg ?_
            refine AO.calm rfl 19 rfl (by decide) (eI64 x7) (Calm.move rfl rfl) ?_
            refine AO.calm rfl 20 rfl (by decide) (eI64 (w64 (x7 + (1 : Int)))) (Calm.int rfl rfl rfl rfl) ?_
            refine AO.calm rfl 3 rfl (by decide) (eI64 (w64 (x7 + (1 : Int)))) (Calm.assign rfl rfl) ?_
            refine AO.nil (ρ' := [(1, (.ptr n2 0)), (3, (eI64 (w64 (x7 + (1 : Int)))))]) (H' := [(n2, (.mem (e50 p0)))]) ⟨rfl, rfl, trivial⟩ (Sub.refl _) ?_
            exact ⟨kq9, Nat.lt_succ_self _, (w64 (x7 + (1 : Int))), rfl, rfl, by rw [hrec8]; exact h⟩
        · have h := (if_neg hc10).symm.trans h
          refine AW.condN (x7 < (p0.f1.length : Int)) rfl hc10 ?_
          refine AW.exit (ρ' := []) (H' := []) trivial (Sub.nil _) ?_
          exact ⟨rfl, rfl, h⟩
      · rintro _ _ ⟨rfl, rfl, h⟩
        rw [bosketlaw08_Small_c0.eq_1] at h
        refine AW.seq ?_
        refine AW.reg ?_
        refine AO.calm rfl 2 rfl (by decide) (eBool true) (Calm.assign rfl rfl) ?_
        refine AO.nil (ρ' := [(2, (eBool true))]) (H' := []) ⟨rfl, trivial⟩ (Sub.refl _) ?_
        refine AW.ret (ρ' := [(2, (eBool true))]) (H' := []) ⟨rfl, trivial⟩ (Sub.refl _) ?_
        have hr := Option.some.inj h
        subst hr
        exact ⟨[(eBool true)], ⟨rfl, rfl, trivial⟩, rfl⟩
end Go.Avl.T3
/- bosket/dfa.Mark; printed by avmain.py. -/
namespace Go.Avl.T3
open Go Go.RowKit Go.Proofs Go.Avl
set_option linter.unusedVariables false
set_option maxRecDepth 100000
set_option maxHeartbeats 4000000
attribute [local irreducible] AW AO AQ Spec SpecH Calm

def dfa_Mark (k : Nat) (p0 : S50) (p1 : Int) : Option Int :=
  Option.bind (α := Bool) (if p1 < (0 : Int) then some (true)
  else some (decide ((p0.f2.length : Int) ≤ p1))) fun b4 =>
  if b4 = true then some ((-1 : Int))
  else if 0 ≤ p1 ∧ p1 < (p0.f2.length : Int) then some ((lget p0.f2 p1))
  else none
theorem dfa_Mark_spec {k : Nat} {p0 : S50} {p1 : Int} {r : Int} (h : dfa_Mark k p0 p1 = some r) : Spec Try.prog 50 [(e50 p0), (eI64 p1)] (eI64 r) := by
  rw [dfa_Mark.eq_1] at h
  refine Spec.intro (res := [.tmp 4]) Try.func50 rfl rfl rfl (Nat.le_of_ble_eq_true rfl) ?_
  refine AW.seq ?_
  refine AW.reg ?_
  refine AO.box rfl 2 rfl (by decide) rfl rfl rfl fun n3 => ?_
  refine AO.calm rfl 4 rfl (by decide) (eI64 (0 : Int)) (Calm.assign rfl rfl) ?_
  refine AO.nil (ρ' := [(1, (eI64 p1)), (2, (.ptr n3 0))]) (H' := [(n3, (.mem (e50 p0)))]) ⟨rfl, rfl, trivial⟩ (Sub.refl _) ?_
  refine AW.seq ?_
  refine AW.seq ?_
  obtain ⟨b4, hq5, h⟩ := of_bind h
  refine AW.regM [(1, (eI64 p1)), (2, (.ptr n3 0)), (13, (eBool b4))] [(n3, (.mem (e50 p0)))] ?_ ?_
  · refine AO.calm rfl 5 rfl (by decide) (eI64 p1) (Calm.move rfl rfl) ?_
    refine AO.calm rfl 6 rfl (by decide) (eBool (decide (p1 < (0 : Int)))) (Calm.int rfl rfl rfl rfl) ?_
    refine AO.calm rfl 7 rfl (by decide) (eBool (decide (p1 < (0 : Int)))) (Calm.move rfl rfl) ?_
    by_cases hc6 : p1 < (0 : Int)
    · have hq5 := (if_pos hc6).symm.trans hq5
      refine AO.skipG 2 true 7 rfl rfl (congrArg (fun b => some (AV.fl (Value.bool b))) (decide_eq_true hc6)) 8 rfl (by decide) ?_
      refine AO.skipG 2 true 7 rfl rfl (congrArg (fun b => some (AV.fl (Value.bool b))) (decide_eq_true hc6)) 9 rfl (by decide) ?_
      refine AO.skipG 2 true 7 rfl rfl (congrArg (fun b => some (AV.fl (Value.bool b))) (decide_eq_true hc6)) 10 rfl (by decide) ?_
      refine AO.skipG 2 true 7 rfl rfl (congrArg (fun b => some (AV.fl (Value.bool b))) (decide_eq_true hc6)) 11 rfl (by decide) ?_
      refine AO.skipG 2 true 7 rfl rfl (congrArg (fun b => some (AV.fl (Value.bool b))) (decide_eq_true hc6)) 12 rfl (by decide) ?_
      refine AO.calm rfl 13 rfl (by decide) (eBool true) (Calm.pickT rfl (congrArg (fun b => some (AV.fl (Value.bool b))) (decide_eq_true hc6)) rfl) ?_
      cases hq5
      refine AO.nilE ⟨rfl, rfl⟩ ?_ ?_
      · exact ⟨rfl, rfl, rfl, trivial⟩
      · exact (Sub.refl _)
    · have hq5 := (if_neg hc6).symm.trans hq5
      refine AO.calmG 2 false 7 rfl rfl (congrArg (fun b => some (AV.fl (Value.bool b))) (decide_eq_false hc6)) 8 rfl (by decide) (eI64 p1) (Calm.move rfl rfl) ?_
      refine AO.calmG 2 false 7 rfl rfl (congrArg (fun b => some (AV.fl (Value.bool b))) (decide_eq_false hc6)) 9 rfl (by decide) (.ptr n3 257) (Calm.fldPtr rfl rfl Try.underlying50 rfl sz43 _ rfl) ?_
      refine AO.calmG 2 false 7 rfl rfl (congrArg (fun b => some (AV.fl (Value.bool b))) (decide_eq_false hc6)) 10 rfl (by decide) (.fz 1 (p0.f2.map eI64)) (Calm.load 0 rfl rfl rfl (At.cast (At.fldS (At.fldS (At.fld0 At.here))) rfl) ag43 sz43) ?_
      refine AO.calmG 2 false 7 rfl rfl (congrArg (fun b => some (AV.fl (Value.bool b))) (decide_eq_false hc6)) 11 rfl (by decide) (eI64 (p0.f2.length : Int)) (Calm.lenL rfl rfl Try.underlying43) ?_
      refine AO.calmG 2 false 7 rfl rfl (congrArg (fun b => some (AV.fl (Value.bool b))) (decide_eq_false hc6)) 12 rfl (by decide) (eBool (decide ((p0.f2.length : Int) ≤ p1))) (Calm.int rfl rfl rfl rfl) ?_
      refine AO.calm rfl 13 rfl (by decide) (eBool (decide ((p0.f2.length : Int) ≤ p1))) (Calm.pickF rfl (congrArg (fun b => some (AV.fl (Value.bool b))) (decide_eq_false hc6)) rfl) ?_
      cases hq5
      refine AO.nilE ⟨rfl, rfl⟩ ?_ ?_
      · exact ⟨rfl, rfl, rfl, trivial⟩
      · exact (Sub.refl _)
  · by_cases hc7 : b4 = true
    · have h := (if_pos hc7).symm.trans h
      refine AW.condT' b4 rfl hc7 ?_
      refine AW.seq ?_
      refine AW.reg ?_
      refine AO.calm rfl 4 rfl (by decide) (eI64 (-1 : Int)) (Calm.assign rfl rfl) ?_
      refine AO.nil (ρ' := [(4, (eI64 (-1 : Int)))]) (H' := []) ⟨rfl, trivial⟩ (Sub.nil _) ?_
      refine AW.ret (ρ' := [(4, (eI64 (-1 : Int)))]) (H' := []) ⟨rfl, trivial⟩ (Sub.refl _) ?_
      have hr := Option.some.inj h
      subst hr
      exact ⟨[(eI64 (-1 : Int))], ⟨rfl, rfl, trivial⟩, rfl⟩
    · have h := (if_neg hc7).symm.trans h
      refine AW.condF' b4 rfl hc7 ?_
      refine AW.skip (ρ' := [(1, (eI64 p1)), (2, (.ptr n3 0))]) (H' := [(n3, (.mem (e50 p0)))]) ⟨rfl, rfl, trivial⟩ (Sub.refl _) ?_
      refine AW.seq ?_
      refine AW.reg ?_
      refine AO.calm rfl 14 rfl (by decide) (.ptr n3 257) (Calm.fldPtr rfl rfl Try.underlying50 rfl sz43 _ rfl) ?_
      refine AO.calm rfl 15 rfl (by decide) (.fz 1 (p0.f2.map eI64)) (Calm.load 0 rfl rfl rfl (At.cast (At.fldS (At.fldS (At.fld0 At.here))) rfl) ag43 sz43) ?_
      refine AO.calm rfl 16 rfl (by decide) (eI64 p1) (Calm.move rfl rfl) ?_
      obtain ⟨hg8, h⟩ := of_guard h
      refine AO.calm rfl 17 rfl (by decide) (.rp (eI64 (lget p0.f2 p1))) (Calm.idxL (f := eI64) rfl rfl rfl hg8 Try.underlying43 sz3) ?_
      refine AO.calm rfl 18 rfl (by decide) (eI64 (lget p0.f2 p1)) (Calm.loadRp rfl rfl ag3 sz3) ?_
      refine AO.calm rfl 4 rfl (by decide) (eI64 (lget p0.f2 p1)) (Calm.assign rfl rfl) ?_
      refine AO.nil (ρ' := [(4, (eI64 (lget p0.f2 p1)))]) (H' := []) ⟨rfl, trivial⟩ (Sub.nil _) ?_
      refine AW.ret (ρ' := [(4, (eI64 (lget p0.f2 p1)))]) (H' := []) ⟨rfl, trivial⟩ (Sub.refl _) ?_
      have hr := Option.some.inj h
      subst hr
      exact ⟨[(eI64 (lget p0.f2 p1))], ⟨rfl, rfl, trivial⟩, rfl⟩
end Go.Avl.T3
/- bosket/dfa.Step; printed by avmain.py. -/
namespace Go.Avl.T3
open Go Go.RowKit Go.Proofs Go.Avl
set_option linter.unusedVariables false
set_option maxRecDepth 100000
set_option maxHeartbeats 4000000
attribute [local irreducible] AW AO AQ Spec SpecH Calm

def dfa_Step (k : Nat) (p0 : S50) (p1 : Int) (p2 : Int) : Option Int :=
  Option.bind (α := Bool) (if p1 < (0 : Int) then some (true)
  else if (p0.f1.length : Int) ≤ p1 then some (true)
  else if 0 ≤ p2 ∧ p2 < (256 : Int) then if 0 ≤ p1 ∧ p1 < (p0.f1.length : Int) then some (decide (((lget p0.f1 p1).length : Int) ≤ (w64 (vget p0.f0 p2))))
  else none
  else none) fun b5 =>
  if b5 = true then some ((-1 : Int))
  else if 0 ≤ p1 ∧ p1 < (p0.f1.length : Int) then if 0 ≤ p2 ∧ p2 < (256 : Int) then if 0 ≤ (vget p0.f0 p2) ∧ (vget p0.f0 p2) < ((lget p0.f1 p1).length : Int) then some ((lget (lget p0.f1 p1) (vget p0.f0 p2)))
  else none
  else none
  else none
theorem dfa_Step_spec {k : Nat} {p0 : S50} {p1 : Int} {p2 : Int} {r : Int} (h : dfa_Step k p0 p1 p2 = some r) : Spec Try.prog 66 [(e50 p0), (eI64 p1), (eU8 p2)] (eI64 r) := by
  rw [dfa_Step.eq_1] at h
  refine Spec.intro (res := [.tmp 6]) Try.func66 rfl rfl rfl (Nat.le_of_ble_eq_true rfl) ?_
  refine AW.seq ?_
  refine AW.reg ?_
  refine AO.box rfl 3 rfl (by decide) rfl rfl rfl fun n4 => ?_
  refine AO.calm rfl 6 rfl (by decide) (eI64 (0 : Int)) (Calm.assign rfl rfl) ?_
  refine AO.nil (ρ' := [(1, (eI64 p1)), (2, (eU8 p2)), (3, (.ptr n4 0))]) (H' := [(n4, (.mem (e50 p0)))]) ⟨rfl, rfl, rfl, trivial⟩ (Sub.refl _) ?_
  refine AW.seq ?_
  refine AW.seq ?_
  obtain ⟨b5, hq6, h⟩ := of_bind h
  refine AW.regQM (by rfl) (by decide +kernel) [(1, (eI64 p1)), (2, (eU8 p2)), (3, (.ptr n4 0)), (29, (eBool b5))] ?_ ?_
  · refine AQ.calm rfl 7 rfl (by decide) (eI64 p1) (Calm.move rfl rfl) ?_
    refine AQ.calm rfl 8 rfl (by decide) (eBool (decide (p1 < (0 : Int)))) (Calm.int rfl rfl rfl rfl) ?_
    refine AQ.calm rfl 9 rfl (by decide) (eBool (decide (p1 < (0 : Int)))) (Calm.move rfl rfl) ?_
    by_cases hc7 : p1 < (0 : Int)
    · have hq6 := (if_pos hc7).symm.trans hq6
      refine AQ.skipG 2 true 9 rfl rfl (congrArg (fun b => some (AV.fl (Value.bool b))) (decide_eq_true hc7)) 10 rfl (by decide) ?_
      refine AQ.skipG 2 true 9 rfl rfl (congrArg (fun b => some (AV.fl (Value.bool b))) (decide_eq_true hc7)) 11 rfl (by decide) ?_
      refine AQ.skipG 2 true 9 rfl rfl (congrArg (fun b => some (AV.fl (Value.bool b))) (decide_eq_true hc7)) 12 rfl (by decide) ?_
      refine AQ.skipG 2 true 9 rfl rfl (congrArg (fun b => some (AV.fl (Value.bool b))) (decide_eq_true hc7)) 13 rfl (by decide) ?_
      refine AQ.skipG 2 true 9 rfl rfl (congrArg (fun b => some (AV.fl (Value.bool b))) (decide_eq_true hc7)) 14 rfl (by decide) ?_
      refine AQ.calm rfl 15 rfl (by decide) (eBool true) (Calm.pickT rfl (congrArg (fun b => some (AV.fl (Value.bool b))) (decide_eq_true hc7)) rfl) ?_
      refine AQ.calm rfl 16 rfl (by decide) (eBool true) (Calm.move rfl rfl) ?_
      refine AQ.skipG 9 true 16 rfl rfl rfl 17 rfl (by decide) ?_
      refine AQ.skipG 9 true 16 rfl rfl rfl 18 rfl (by decide) ?_
      refine AQ.skipG 9 true 16 rfl rfl rfl 19 rfl (by decide) ?_
      refine AQ.skipG 9 true 16 rfl rfl rfl 20 rfl (by decide) ?_
      refine AQ.skipG 9 true 16 rfl rfl rfl 21 rfl (by decide) ?_
      refine AQ.skipG 9 true 16 rfl rfl rfl 22 rfl (by decide) ?_
      refine AQ.skipG 9 true 16 rfl rfl rfl 23 rfl (by decide) ?_
      refine AQ.skipG 9 true 16 rfl rfl rfl 24 rfl (by decide) ?_
      refine AQ.skipG 9 true 16 rfl rfl rfl 25 rfl (by decide) ?_
      refine AQ.skipG 9 true 16 rfl rfl rfl 26 rfl (by decide) ?_
      refine AQ.skipG 9 true 16 rfl rfl rfl 27 rfl (by decide) ?_
      refine AQ.skipG 9 true 16 rfl rfl rfl 28 rfl (by decide) ?_
      refine AQ.calm rfl 29 rfl (by decide) (eBool true) (Calm.pickT rfl rfl rfl) ?_
      cases hq6
      refine AQ.nilE rfl ?_
      exact ⟨rfl, rfl, rfl, rfl, trivial⟩
    · have hq6 := (if_neg hc7).symm.trans hq6
      refine AQ.calmG 2 false 9 rfl rfl (congrArg (fun b => some (AV.fl (Value.bool b))) (decide_eq_false hc7)) 10 rfl (by decide) (eI64 p1) (Calm.move rfl rfl) ?_
      refine AQ.calmG 2 false 9 rfl rfl (congrArg (fun b => some (AV.fl (Value.bool b))) (decide_eq_false hc7)) 11 rfl (by decide) (.ptr n4 256) (Calm.fldPtr rfl rfl Try.underlying50 rfl sz48 _ rfl) ?_
      refine AQ.calmG 2 false 9 rfl rfl (congrArg (fun b => some (AV.fl (Value.bool b))) (decide_eq_false hc7)) 12 rfl (by decide) (.fz 1 (p0.f1.map e43)) (Calm.load 0 rfl rfl rfl (At.cast (At.fldS (At.fld0 At.here)) rfl) ag48 sz48) ?_
      refine AQ.calmG 2 false 9 rfl rfl (congrArg (fun b => some (AV.fl (Value.bool b))) (decide_eq_false hc7)) 13 rfl (by decide) (eI64 (p0.f1.length : Int)) (Calm.lenL rfl rfl Try.underlying48) ?_
      refine AQ.calmG 2 false 9 rfl rfl (congrArg (fun b => some (AV.fl (Value.bool b))) (decide_eq_false hc7)) 14 rfl (by decide) (eBool (decide ((p0.f1.length : Int) ≤ p1))) (Calm.int rfl rfl rfl rfl) ?_
      refine AQ.calm rfl 15 rfl (by decide) (eBool (decide ((p0.f1.length : Int) ≤ p1))) (Calm.pickF rfl (congrArg (fun b => some (AV.fl (Value.bool b))) (decide_eq_false hc7)) rfl) ?_
      refine AQ.calm rfl 16 rfl (by decide) (eBool (decide ((p0.f1.length : Int) ≤ p1))) (Calm.move rfl rfl) ?_
      by_cases hc8 : (p0.f1.length : Int) ≤ p1
      · have hq6 := (if_pos hc8).symm.trans hq6
        refine AQ.skipG 9 true 16 rfl rfl (congrArg (fun b => some (AV.fl (Value.bool b))) (decide_eq_true hc8)) 17 rfl (by decide) ?_
        refine AQ.skipG 9 true 16 rfl rfl (congrArg (fun b => some (AV.fl (Value.bool b))) (decide_eq_true hc8)) 18 rfl (by decide) ?_
        refine AQ.skipG 9 true 16 rfl rfl (congrArg (fun b => some (AV.fl (Value.bool b))) (decide_eq_true hc8)) 19 rfl (by decide) ?_
        refine AQ.skipG 9 true 16 rfl rfl (congrArg (fun b => some (AV.fl (Value.bool b))) (decide_eq_true hc8)) 20 rfl (by decide) ?_
        refine AQ.skipG 9 true 16 rfl rfl (congrArg (fun b => some (AV.fl (Value.bool b))) (decide_eq_true hc8)) 21 rfl (by decide) ?_
        refine AQ.skipG 9 true 16 rfl rfl (congrArg (fun b => some (AV.fl (Value.bool b))) (decide_eq_true hc8)) 22 rfl (by decide) ?_
        refine AQ.skipG 9 true 16 rfl rfl (congrArg (fun b => some (AV.fl (Value.bool b))) (decide_eq_true hc8)) 23 rfl (by decide) ?_
        refine AQ.skipG 9 true 16 rfl rfl (congrArg (fun b => some (AV.fl (Value.bool b))) (decide_eq_true hc8)) 24 rfl (by decide) ?_
        refine AQ.skipG 9 true 16 rfl rfl (congrArg (fun b => some (AV.fl (Value.bool b))) (decide_eq_true hc8)) 25 rfl (by decide) ?_
        refine AQ.skipG 9 true 16 rfl rfl (congrArg (fun b => some (AV.fl (Value.bool b))) (decide_eq_true hc8)) 26 rfl (by decide) ?_
        refine AQ.skipG 9 true 16 rfl rfl (congrArg (fun b => some (AV.fl (Value.bool b))) (decide_eq_true hc8)) 27 rfl (by decide) ?_
        refine AQ.skipG 9 true 16 rfl rfl (congrArg (fun b => some (AV.fl (Value.bool b))) (decide_eq_true hc8)) 28 rfl (by decide) ?_
        refine AQ.calm rfl 29 rfl (by decide) (eBool true) (Calm.pickT rfl (congrArg (fun b => some (AV.fl (Value.bool b))) (decide_eq_true hc8)) rfl) ?_
        cases hq6
        refine AQ.nilE rfl ?_
        exact ⟨rfl, rfl, rfl, rfl, trivial⟩
      · have hq6 := (if_neg hc8).symm.trans hq6
        refine AQ.calmG 9 false 16 rfl rfl (congrArg (fun b => some (AV.fl (Value.bool b))) (decide_eq_false hc8)) 17 rfl (by decide) (eU8 p2) (Calm.move rfl rfl) ?_
        refine AQ.calmG 9 false 16 rfl rfl (congrArg (fun b => some (AV.fl (Value.bool b))) (decide_eq_false hc8)) 18 rfl (by decide) (.ptr n4 0) (Calm.fldPtr rfl rfl Try.underlying50 rfl sz47 _ rfl) ?_
        obtain ⟨hg9, hq6⟩ := of_guard hq6
        refine AQ.calmG 9 false 16 rfl rfl (congrArg (fun b => some (AV.fl (Value.bool b))) (decide_eq_false hc8)) 19 rfl (by decide) (.ptr n4 (0 + p2.toNat * 1)) (Calm.idxP rfl rfl rfl hg9 Try.underlying47 sz5) ?_
        refine AQ.calmG 9 false 16 rfl rfl (congrArg (fun b => some (AV.fl (Value.bool b))) (decide_eq_false hc8)) 20 rfl (by decide) (eU8 (vget p0.f0 p2)) (Calm.load 0 rfl rfl rfl (At.cast (At.fld0 (At.vidx p2 hg9.1 hg9.2 At.here)) (by omega)) ag5 sz5) ?_
        refine AQ.calmG 9 false 16 rfl rfl (congrArg (fun b => some (AV.fl (Value.bool b))) (decide_eq_false hc8)) 21 rfl (by decide) (eI64 (w64 (vget p0.f0 p2))) (Calm.conv rfl rfl Try.underlying5 Try.underlying3) ?_
        refine AQ.calmG 9 false 16 rfl rfl (congrArg (fun b => some (AV.fl (Value.bool b))) (decide_eq_false hc8)) 22 rfl (by decide) (.ptr n4 256) (Calm.fldPtr rfl rfl Try.underlying50 rfl sz48 _ rfl) ?_
        refine AQ.calmG 9 false 16 rfl rfl (congrArg (fun b => some (AV.fl (Value.bool b))) (decide_eq_false hc8)) 23 rfl (by decide) (.fz 1 (p0.f1.map e43)) (Calm.load 0 rfl rfl rfl (At.cast (At.fldS (At.fld0 At.here)) rfl) ag48 sz48) ?_
        refine AQ.calmG 9 false 16 rfl rfl (congrArg (fun b => some (AV.fl (Value.bool b))) (decide_eq_false hc8)) 24 rfl (by decide) (eI64 p1) (Calm.move rfl rfl) ?_
        obtain ⟨hg10, hq6⟩ := of_guard hq6
        refine AQ.calmG 9 false 16 rfl rfl (congrArg (fun b => some (AV.fl (Value.bool b))) (decide_eq_false hc8)) 25 rfl (by decide) (.rp (.fz 1 ((lget p0.f1 p1).map eI64))) (Calm.idxL (f := e43) rfl rfl rfl hg10 Try.underlying48 sz43) ?_
        refine AQ.calmG 9 false 16 rfl rfl (congrArg (fun b => some (AV.fl (Value.bool b))) (decide_eq_false hc8)) 26 rfl (by decide) (.fz 1 ((lget p0.f1 p1).map eI64)) (Calm.loadRp rfl rfl ag43 sz43) ?_
        refine AQ.calmG 9 false 16 rfl rfl (congrArg (fun b => some (AV.fl (Value.bool b))) (decide_eq_false hc8)) 27 rfl (by decide) (eI64 ((lget p0.f1 p1).length : Int)) (Calm.lenL rfl rfl Try.underlying43) ?_
        refine AQ.calmG 9 false 16 rfl rfl (congrArg (fun b => some (AV.fl (Value.bool b))) (decide_eq_false hc8)) 28 rfl (by decide) (eBool (decide (((lget p0.f1 p1).length : Int) ≤ (w64 (vget p0.f0 p2))))) (Calm.int rfl rfl rfl rfl) ?_
        refine AQ.calm rfl 29 rfl (by decide) (eBool (decide (((lget p0.f1 p1).length : Int) ≤ (w64 (vget p0.f0 p2))))) (Calm.pickF rfl (congrArg (fun b => some (AV.fl (Value.bool b))) (decide_eq_false hc8)) rfl) ?_
        cases hq6
        refine AQ.nilE rfl ?_
        exact ⟨rfl, rfl, rfl, rfl, trivial⟩
  · by_cases hc11 : b5 = true
    · have h := (if_pos hc11).symm.trans h
      refine AW.condT' b5 rfl hc11 ?_
      refine AW.seq ?_
      refine AW.reg ?_
      refine AO.calm rfl 6 rfl (by decide) (eI64 (-1 : Int)) (Calm.assign rfl rfl) ?_
      refine AO.nil (ρ' := [(6, (eI64 (-1 : Int)))]) (H' := []) ⟨rfl, trivial⟩ (Sub.nil _) ?_
      refine AW.ret (ρ' := [(6, (eI64 (-1 : Int)))]) (H' := []) ⟨rfl, trivial⟩ (Sub.refl _) ?_
      have hr := Option.some.inj h
      subst hr
      exact ⟨[(eI64 (-1 : Int))], ⟨rfl, rfl, trivial⟩, rfl⟩
    · have h := (if_neg hc11).symm.trans h
      refine AW.condF' b5 rfl hc11 ?_
      refine AW.skip (ρ' := [(1, (eI64 p1)), (2, (eU8 p2)), (3, (.ptr n4 0))]) (H' := [(n4, (.mem (e50 p0)))]) ⟨rfl, rfl, rfl, trivial⟩ (Sub.refl _) ?_
      refine AW.seq ?_
      refine AW.regQ (by rfl) (by decide +kernel) ?_
      refine AQ.calm rfl 30 rfl (by decide) (.ptr n4 256) (Calm.fldPtr rfl rfl Try.underlying50 rfl sz48 _ rfl) ?_
      refine AQ.calm rfl 31 rfl (by decide) (.fz 1 (p0.f1.map e43)) (Calm.load 0 rfl rfl rfl (At.cast (At.fldS (At.fld0 At.here)) rfl) ag48 sz48) ?_
      refine AQ.calm rfl 32 rfl (by decide) (eI64 p1) (Calm.move rfl rfl) ?_
      obtain ⟨hg12, h⟩ := of_guard h
      refine AQ.calm rfl 33 rfl (by decide) (.rp (.fz 1 ((lget p0.f1 p1).map eI64))) (Calm.idxL (f := e43) rfl rfl rfl hg12 Try.underlying48 sz43) ?_
      refine AQ.calm rfl 34 rfl (by decide) (.fz 1 ((lget p0.f1 p1).map eI64)) (Calm.loadRp rfl rfl ag43 sz43) ?_
      refine AQ.calm rfl 35 rfl (by decide) (eU8 p2) (Calm.move rfl rfl) ?_
      refine AQ.calm rfl 36 rfl (by decide) (.ptr n4 0) (Calm.fldPtr rfl rfl Try.underlying50 rfl sz47 _ rfl) ?_
      obtain ⟨hg13, h⟩ := of_guard h
      refine AQ.calm rfl 37 rfl (by decide) (.ptr n4 (0 + p2.toNat * 1)) (Calm.idxP rfl rfl rfl hg13 Try.underlying47 sz5) ?_
      refine AQ.calm rfl 38 rfl (by decide) (eU8 (vget p0.f0 p2)) (Calm.load 0 rfl rfl rfl (At.cast (At.fld0 (At.vidx p2 hg13.1 hg13.2 At.here)) (by omega)) ag5 sz5) ?_
      obtain ⟨hg14, h⟩ := of_guard h
      refine AQ.calm rfl 39 rfl (by decide) (.rp (eI64 (lget (lget p0.f1 p1) (vget p0.f0 p2)))) (Calm.idxL (f := eI64) rfl rfl rfl hg14 Try.underlying43 sz3) ?_
      refine AQ.calm rfl 40 rfl (by decide) (eI64 (lget (lget p0.f1 p1) (vget p0.f0 p2))) (Calm.loadRp rfl rfl ag3 sz3) ?_
      refine AQ.calm rfl 6 rfl (by decide) (eI64 (lget (lget p0.f1 p1) (vget p0.f0 p2))) (Calm.assign rfl rfl) ?_
      refine AQ.nil (ρ' := [(6, (eI64 (lget (lget p0.f1 p1) (vget p0.f0 p2))))]) ⟨rfl, trivial⟩ ?_
      refine AW.ret (ρ' := [(6, (eI64 (lget (lget p0.f1 p1) (vget p0.f0 p2))))]) (H' := []) ⟨rfl, trivial⟩ (Sub.nil _) ?_
      have hr := Option.some.inj h
      subst hr
      exact ⟨[(eI64 (lget (lget p0.f1 p1) (vget p0.f0 p2)))], ⟨rfl, rfl, trivial⟩, rfl⟩
end Go.Avl.T3
/- bosket/bosketref08.classes; printed by avmain.py. -/
namespace Go.Avl.T3
open Go Go.RowKit Go.Proofs Go.Avl
set_option linter.unusedVariables false
set_option maxRecDepth 100000
set_option maxHeartbeats 4000000
attribute [local irreducible] AW AO AQ Spec SpecH Calm

def bosketref08_classes_c0 (k : Nat) (x3 : Int) : Option Int :=
  some (x3)
def bosketref08_classes_l1 (k : Nat) (p0 : S50) : Nat → Int → Int → Option Int
  | 0, _, _ => none
  | j + 1, x4, x5 =>
    if x5 < (256 : Int) then if 0 ≤ x5 ∧ x5 < (256 : Int) then (bosketref08_classes_l1 k p0 j) (max x4 (w64 ((w64 (vget p0.f0 x5)) + (1 : Int)))) (w64 (x5 + (1 : Int)))
    else none
    else bosketref08_classes_c0 k x4
def bosketref08_classes (k : Nat) (p0 : S50) : Option Int :=
  bosketref08_classes_l1 k p0 k (0 : Int) (0 : Int)
theorem bosketref08_classes_spec {k : Nat} {p0 : S50} {r : Int} (h : bosketref08_classes k p0 = some r) : Spec Try.prog 49 [(e50 p0)] (eI64 r) := by
  rw [bosketref08_classes.eq_1] at h
  refine Spec.intro (res := [.tmp 2]) Try.func49 rfl rfl rfl (Nat.le_of_ble_eq_true rfl) ?_
  refine AW.seq ?_
  refine AW.reg ?_
  refine AO.box rfl 1 rfl (by decide) rfl rfl rfl fun n2 => ?_
  refine AO.calm rfl 2 rfl (by decide) (eI64 (0 : Int)) (Calm.assign rfl rfl) ?_
  refine AO.nil (ρ' := [(1, (.ptr n2 0))]) (H' := [(n2, (.mem (e50 p0)))]) ⟨rfl, trivial⟩ (Sub.refl _) ?_
  refine AW.seq ?_
  refine AW.reg ?_
  refine AO.calm rfl 3 rfl (by decide) (eI64 (0 : Int)) (Calm.assign rfl rfl) ?_
  refine AO.nil (ρ' := [(1, (.ptr n2 0)), (3, (eI64 (0 : Int)))]) (H' := [(n2, (.mem (e50 p0)))]) ⟨rfl, rfl, trivial⟩ (Sub.refl _) ?_
  refine AW.seq_mid (fun ρ H => ∃ (x3 : Int), ρ = [(3, (eI64 x3))] ∧ H = [] ∧ bosketref08_classes_c0 k x3 = some r) ?_ ?_
  · refine AW.seq ?_
    refine AW.reg ?_
    refine AO.calm rfl 4 rfl (by decide) (eI64 (0 : Int)) (Calm.assign rfl rfl) ?_
    refine AO.nil (ρ' := [(1, (.ptr n2 0)), (3, (eI64 (0 : Int))), (4, (eI64 (0 : Int)))]) (H' := [(n2, (.mem (e50 p0)))]) ⟨rfl, rfl, rfl, trivial⟩ (Sub.refl _) ?_
    refine AW.block ?_
    refine AW.weak (ρ' := [(1, (.ptr n2 0)), (3, (eI64 (0 : Int))), (4, (eI64 (0 : Int)))]) (H' := [(n2, (.mem (e50 p0)))]) ⟨rfl, rfl, rfl, trivial⟩ (Sub.refl _) ?_
    refine AW.loop (fun kq ρ H => ∃ (x4 : Int) (x5 : Int), ρ = [(1, (.ptr n2 0)), (3, (eI64 x4)), (4, (eI64 x5))] ∧ H = [(n2, (.mem (e50 p0)))] ∧ bosketref08_classes_l1 k p0 kq x4 x5 = some r) k ⟨(0 : Int), (0 : Int), rfl, rfl, h⟩ ?_
    rintro kq7 _ _ ⟨x4, x5, rfl, rfl, h⟩
    cases kq7 with
    | zero => rw [bosketref08_classes_l1.eq_1] at h; cases h
    | succ kq7 =>
    rw [bosketref08_classes_l1.eq_2] at h
    generalize hrec6 : bosketref08_classes_l1 k p0 kq7 = rec6 at h
    refine AW.seq ?_
    refine AW.seq ?_
    refine AW.reg ?_
    refine AO.calm rfl 5 rfl (by decide) (eI64 x5) (Calm.move rfl rfl) ?_
    refine AO.calm rfl 6 rfl (by decide) (eBool (decide (x5 < (256 : Int)))) (Calm.int rfl rfl rfl rfl) ?_
    refine AO.nil (ρ' := [(1, (.ptr n2 0)), (3, (eI64 x4)), (4, (eI64 x5)), (6, (eBool (decide (x5 < (256 : Int)))))]) (H' := [(n2, (.mem (e50 p0)))]) ⟨rfl, rfl, rfl, rfl, trivial⟩ (Sub.refl _) ?_
    by_cases hc8 : x5 < (256 : Int)
    · have h := (if_pos hc8).symm.trans h
      refine AW.condP (x5 < (256 : Int)) rfl hc8 ?_
      refine AW.skip (ρ' := [(1, (.ptr n2 0)), (3, (eI64 x4)), (4, (eI64 x5))]) (H' := [(n2, (.mem (e50 p0)))]) ⟨rfl, rfl, rfl, trivial⟩ (Sub.refl _) ?_
      refine AW.seq ?_
      refine AW.block ?_
      refine AW.reg ?_
      refine AO.calm rfl 9 rfl (by decide) (eI64 x4) (Calm.move rfl rfl) ?_
      refine AO.calm rfl 10 rfl (by decide) (eI64 x5) (Calm.move rfl rfl) ?_
      refine AO.calm rfl 11 rfl (by decide) (.ptr n2 0) (Calm.fldPtr rfl rfl Try.underlying50 rfl sz47 _ rfl) ?_
      obtain ⟨hg9, h⟩ := of_guard h
      refine AO.calm rfl 12 rfl (by decide) (.ptr n2 (0 + x5.toNat * 1)) (Calm.idxP rfl rfl rfl hg9 Try.underlying47 sz5) ?_
      refine AO.calm rfl 13 rfl (by decide) (eU8 (vget p0.f0 x5)) (Calm.load 0 rfl rfl rfl (At.cast (At.fld0 (At.vidx x5 hg9.1 hg9.2 At.here)) (by omega)) ag5 sz5) ?_
      refine AO.calm rfl 14 rfl (by decide) (eI64 (w64 (vget p0.f0 x5))) (Calm.conv rfl rfl Try.underlying5 Try.underlying3) ?_
      refine AO.calm rfl 15 rfl (by decide) (eI64 (w64 ((w64 (vget p0.f0 x5)) + (1 : Int)))) (Calm.int rfl rfl rfl rfl) ?_
      refine AO.calm rfl 16 rfl (by decide) (eI64 (max x4 (w64 ((w64 (vget p0.f0 x5)) + (1 : Int))))) (Calm.max2 rfl rfl rfl) ?_
      refine AO.calm rfl 3 rfl (by decide) (eI64 (max x4 (w64 ((w64 (vget p0.f0 x5)) + (1 : Int))))) (Calm.assign rfl rfl) ?_
      refine AO.nil (ρ' := [(1, (.ptr n2 0)), (3, (eI64 (max x4 (w64 ((w64 (vget p0.f0 x5)) + (1 : Int)))))), (4, (eI64 x5))]) (H' := [(n2, (.mem (e50 p0)))]) ⟨rfl, rfl, rfl, trivial⟩ (Sub.refl _) ?_
      refine AW.reg ?_
      refine AO.calm rfl 7 rfl (by decide) (eI64 x5) (Calm.move rfl rfl) ?_
      refine AO.calm rfl 8 rfl (by decide) (eI64 (w64 (x5 + (1 : Int)))) (Calm.int rfl rfl rfl rfl) ?_
      refine AO.calm rfl 4 rfl (by decide) (eI64 (w64 (x5 + (1 : Int)))) (Calm.assign rfl rfl) ?_
      refine AO.nil (ρ' := [(1, (.ptr n2 0)), (3, (eI64 (max x4 (w64 ((w64 (vget p0.f0 x5)) + (1 : Int)))))), (4, (eI64 (w64 (x5 + (1 : Int)))))]) (H' := [(n2, (.mem (e50 p0)))]) ⟨rfl, rfl, rfl, trivial⟩ (Sub.refl _) ?_
      exact ⟨kq7, Nat.lt_succ_self _, (max x4 (w64 ((w64 (vget p0.f0 x5)) + (1 : Int)))), (w64 (x5 + (1 : Int))), rfl, rfl, by rw [hrec6]; exact h⟩
    · have h := (if_neg hc8).symm.trans h
      refine AW.condN (x5 < (256 : Int)) rfl hc8 ?_
      refine AW.exit (ρ' := [(3, (eI64 x4))]) (H' := []) ⟨rfl, trivial⟩ (Sub.nil _) ?_
      exact ⟨x4, rfl, rfl, h⟩
  · rintro _ _ ⟨x3, rfl, rfl, h⟩
    rw [bosketref08_classes_c0.eq_1] at h
    refine AW.seq ?_
    refine AW.reg ?_
    refine AO.calm rfl 17 rfl (by decide) (eI64 x3) (Calm.move rfl rfl) ?_
    refine AO.calm rfl 2 rfl (by decide) (eI64 x3) (Calm.assign rfl rfl) ?_
    refine AO.nil (ρ' := [(2, (eI64 x3))]) (H' := []) ⟨rfl, trivial⟩ (Sub.refl _) ?_
    refine AW.ret (ρ' := [(2, (eI64 x3))]) (H' := []) ⟨rfl, trivial⟩ (Sub.refl _) ?_
    have hr := Option.some.inj h
    subst hr
    exact ⟨[(eI64 x3)], ⟨rfl, rfl, trivial⟩, rfl⟩
end Go.Avl.T3
/- bosket/bosketref08.gapless; printed by avmain.py. -/
namespace Go.Avl.T3
open Go Go.RowKit Go.Proofs Go.Avl
set_option linter.unusedVariables false
set_option maxRecDepth 100000
set_option maxHeartbeats 4000000
attribute [local irreducible] AW AO AQ Spec SpecH Calm

def bosketref08_gapless_c0 (k : Nat) : Option Bool :=
  some (true)
def bosketref08_gapless_c1 (k : Nat) (rec4 : (Int → Option Bool)) (x3 : Int) : Option Bool :=
  rec4 (w64 (x3 + (1 : Int)))
def bosketref08_gapless_c2 (k : Nat) (rec4 : (Int → Option Bool)) (x3 : Int) (b8 : Bool) : Option Bool :=
  if (!b8) = true then some (false)
  else bosketref08_gapless_c1 k rec4 x3
def bosketref08_gapless_l3 (k : Nat) (rec4 : (Int → Option Bool)) (p0 : S50) (x3 : Int) : Nat → Bool → Int → Option Bool
  | 0, _, _ => none
  | j + 1, b10, x11 =>
    if x11 < (256 : Int) then Option.bind (α := Bool) (if b10 = true then some (true)
    else if 0 ≤ x11 ∧ x11 < (256 : Int) then some (decide ((w64 (vget p0.f0 x11)) = x3))
    else none) fun b15 =>
    (bosketref08_gapless_l3 k rec4 p0 x3 j) b15 (w64 (x11 + (1 : Int)))
    else bosketref08_gapless_c2 k rec4 x3 b10
def bosketref08_gapless_l4 (k : Nat) (p0 : S50) : Nat → Int → Option Bool
  | 0, _ => none
  | j + 1, x3 =>
    (bosketref08_classes k p0).bind fun t6 =>
    if x3 < t6 then bosketref08_gapless_l3 k (bosketref08_gapless_l4 k p0 j) p0 x3 k false (0 : Int)
    else bosketref08_gapless_c0 k
def bosketref08_gapless (k : Nat) (p0 : S50) : Option Bool :=
  bosketref08_gapless_l4 k p0 k (0 : Int)
theorem bosketref08_gapless_spec {k : Nat} {p0 : S50} {r : Bool} (h : bosketref08_gapless k p0 = some r) : Spec Try.prog 48 [(e50 p0)] (eBool r) := by
  rw [bosketref08_gapless.eq_1] at h
  refine Spec.intro (res := [.tmp 2]) Try.func48 rfl rfl rfl (Nat.le_of_ble_eq_true rfl) ?_
  refine AW.seq ?_
  refine AW.reg ?_
  refine AO.box rfl 1 rfl (by decide) rfl rfl rfl fun n2 => ?_
  refine AO.calm rfl 2 rfl (by decide) (eBool false) (Calm.assign rfl rfl) ?_
  refine AO.nil (ρ' := [(1, (.ptr n2 0))]) (H' := [(n2, (.mem (e50 p0)))]) ⟨rfl, trivial⟩ (Sub.refl _) ?_
  refine AW.seq_mid (fun ρ H => ρ = [] ∧ H = [] ∧ bosketref08_gapless_c0 k = some r) ?_ ?_
  · refine AW.seq ?_
    refine AW.reg ?_
    refine AO.calm rfl 3 rfl (by decide) (eI64 (0 : Int)) (Calm.assign rfl rfl) ?_
    refine AO.nil (ρ' := [(1, (.ptr n2 0)), (3, (eI64 (0 : Int)))]) (H' := [(n2, (.mem (e50 p0)))]) ⟨rfl, rfl, trivial⟩ (Sub.refl _) ?_
    refine AW.block ?_
    refine AW.weak (ρ' := [(1, (.ptr n2 0)), (3, (eI64 (0 : Int)))]) (H' := [(n2, (.mem (e50 p0)))]) ⟨rfl, rfl, trivial⟩ (Sub.refl _) ?_
    refine AW.loop (fun kq ρ H => ∃ (x3 : Int), ρ = [(1, (.ptr n2 0)), (3, (eI64 x3))] ∧ H = [(n2, (.mem (e50 p0)))] ∧ bosketref08_gapless_l4 k p0 kq x3 = some r) k ⟨(0 : Int), rfl, rfl, h⟩ ?_
    rintro kq5 _ _ ⟨x3, rfl, rfl, h⟩
    cases kq5 with
    | zero => rw [bosketref08_gapless_l4.eq_1] at h; cases h
    | succ kq5 =>
    rw [bosketref08_gapless_l4.eq_2] at h
    generalize hrec4 : bosketref08_gapless_l4 k p0 kq5 = rec4 at h
    refine AW.seq ?_
    refine AW.seq ?_
    refine AW.reg ?_
    refine AO.calm rfl 6 rfl (by decide) (eI64 x3) (Calm.move rfl rfl) ?_
    refine AO.calm rfl 7 rfl (by decide) (e50 p0) (Calm.load 0 rfl rfl rfl (At.cast At.here rfl) ag50 sz50) ?_
    obtain ⟨t6, et6, h⟩ := of_bind h
    refine AO.callS [(e50 p0)] (eI64 t6) 8 rfl (by decide) ok49 rfl rfl rfl ⟨rfl, rfl, trivial⟩ (bosketref08_classes_spec et6) ?_
    refine AO.calm rfl 9 rfl (by decide) (eBool (decide (x3 < t6))) (Calm.int rfl rfl rfl rfl) ?_
    refine AO.nil (ρ' := [(1, (.ptr n2 0)), (3, (eI64 x3)), (9, (eBool (decide (x3 < t6))))]) (H' := [(n2, (.mem (e50 p0)))]) ⟨rfl, rfl, rfl, trivial⟩ (Sub.refl _) ?_
    by_cases hc7 : x3 < t6
    · have h := (if_pos hc7).symm.trans h
      refine AW.condP (x3 < t6) rfl hc7 ?_
      refine AW.skip (ρ' := [(1, (.ptr n2 0)), (3, (eI64 x3))]) (H' := [(n2, (.mem (e50 p0)))]) ⟨rfl, rfl, trivial⟩ (Sub.refl _) ?_
      refine AW.seq_mid (fun ρ H => ρ = [(1, (.ptr n2 0)), (3, (eI64 x3))] ∧ H = [(n2, (.mem (e50 p0)))] ∧ bosketref08_gapless_c1 k rec4 x3 = some r) ?_ ?_
      · refine AW.block ?_
        refine AW.seq ?_
        refine AW.reg ?_
        refine AO.calm rfl 4 rfl (by decide) (eBool false) (Calm.assign rfl rfl) ?_
        refine AO.nil (ρ' := [(1, (.ptr n2 0)), (3, (eI64 x3)), (4, (eBool false))]) (H' := [(n2, (.mem (e50 p0)))]) ⟨rfl, rfl, rfl, trivial⟩ (Sub.refl _) ?_
        refine AW.seq_mid (fun ρ H => ∃ (b8 : Bool), ρ = [(1, (.ptr n2 0)), (3, (eI64 x3)), (4, (eBool b8))] ∧ H = [(n2, (.mem (e50 p0)))] ∧ bosketref08_gapless_c2 k rec4 x3 b8 = some r) ?_ ?_
        · refine AW.seq ?_
          refine AW.reg ?_
          refine AO.calm rfl 5 rfl (by decide) (eI64 (0 : Int)) (Calm.assign rfl rfl) ?_
          refine AO.nil (ρ' := [(1, (.ptr n2 0)), (3, (eI64 x3)), (4, (eBool false)), (5, (eI64 (0 : Int)))]) (H' := [(n2, (.mem (e50 p0)))]) ⟨rfl, rfl, rfl, rfl, trivial⟩ (Sub.refl _) ?_
          refine AW.block ?_
          refine AW.weak (ρ' := [(1, (.ptr n2 0)), (3, (eI64 x3)), (4, (eBool false)), (5, (eI64 (0 : Int)))]) (H' := [(n2, (.mem (e50 p0)))]) ⟨rfl, rfl, rfl, rfl, trivial⟩ (Sub.refl _) ?_
          refine AW.loop (fun kq ρ H => ∃ (b10 : Bool) (x11 : Int), ρ = [(1, (.ptr n2 0)), (3, (eI64 x3)), (4, (eBool b10)), (5, (eI64 x11))] ∧ H = [(n2, (.mem (e50 p0)))] ∧ bosketref08_gapless_l3 k rec4 p0 x3 kq b10 x11 = some r) k ⟨false, (0 : Int), rfl, rfl, h⟩ ?_
          rintro kq13 _ _ ⟨b10, x11, rfl, rfl, h⟩
          cases kq13 with
          | zero => rw [bosketref08_gapless_l3.eq_1] at h; cases h
          | succ kq13 =>
          rw [bosketref08_gapless_l3.eq_2] at h
          generalize hrec12 : bosketref08_gapless_l3 k rec4 p0 x3 kq13 = rec12 at h
          refine AW.seq ?_
          refine AW.seq ?_
          refine AW.reg ?_
          refine AO.calm rfl 12 rfl (by decide) (eI64 x11) (Calm.move rfl rfl) ?_
          refine AO.calm rfl 13 rfl (by decide) (eBool (decide (x11 < (256 : Int)))) (Calm.int rfl rfl rfl rfl) ?_
          refine AO.nil (ρ' := [(1, (.ptr n2 0)), (3, (eI64 x3)), (4, (eBool b10)), (5, (eI64 x11)), (13, (eBool (decide (x11 < (256 : Int)))))]) (H' := [(n2, (.mem (e50 p0)))]) ⟨rfl, rfl, rfl, rfl, rfl, trivial⟩ (Sub.refl _) ?_
          by_cases hc14 : x11 < (256 : Int)
          · have h := (if_pos hc14).symm.trans h
            refine AW.condP (x11 < (256 : Int)) rfl hc14 ?_
            refine AW.skip (ρ' := [(1, (.ptr n2 0)), (3, (eI64 x3)), (4, (eBool b10)), (5, (eI64 x11))]) (H' := [(n2, (.mem (e50 p0)))]) ⟨rfl, rfl, rfl, rfl, trivial⟩ (Sub.refl _) ?_
            refine AW.seq ?_
            refine AW.block ?_
            obtain ⟨b15, hq16, h⟩ := of_bind h
            refine AW.regM [(1, (.ptr n2 0)), (3, (eI64 x3)), (4, (eBool b15)), (5, (eI64 x11))] [(n2, (.mem (e50 p0)))] ?_ ?_
            · refine AO.calm rfl 16 rfl (by decide) (eBool b10) (Calm.move rfl rfl) ?_
              refine AO.calm rfl 17 rfl (by decide) (eBool b10) (Calm.move rfl rfl) ?_
              by_cases hc17 : b10 = true
              · have hq16 := (if_pos hc17).symm.trans hq16
                refine AO.skipG 1 true 17 rfl rfl (congrArg (fun b => some (AV.fl (Value.bool b))) hc17) 18 rfl (by decide) ?_
                refine AO.skipG 1 true 17 rfl rfl (congrArg (fun b => some (AV.fl (Value.bool b))) hc17) 19 rfl (by decide) ?_
                refine AO.skipG 1 true 17 rfl rfl (congrArg (fun b => some (AV.fl (Value.bool b))) hc17) 20 rfl (by decide) ?_
                refine AO.skipG 1 true 17 rfl rfl (congrArg (fun b => some (AV.fl (Value.bool b))) hc17) 21 rfl (by decide) ?_
                refine AO.skipG 1 true 17 rfl rfl (congrArg (fun b => some (AV.fl (Value.bool b))) hc17) 22 rfl (by decide) ?_
                refine AO.skipG 1 true 17 rfl rfl (congrArg (fun b => some (AV.fl (Value.bool b))) hc17) 23 rfl (by decide) ?_
                refine AO.skipG 1 true 17 rfl rfl (congrArg (fun b => some (AV.fl (Value.bool b))) hc17) 24 rfl (by decide) ?_
                refine AO.calm rfl 25 rfl (by decide) (eBool true) (Calm.pickT rfl (congrArg (fun b => some (AV.fl (Value.bool b))) hc17) rfl) ?_
                refine AO.calm rfl 4 rfl (by decide) (eBool true) (Calm.assign rfl rfl) ?_
                cases hq16
                refine AO.nilE ⟨rfl, rfl⟩ ?_ ?_
                · exact ⟨rfl, rfl, rfl, rfl, trivial⟩
                · exact (Sub.refl _)
              · have hq16 := (if_neg hc17).symm.trans hq16
                refine AO.calmG 1 false 17 rfl rfl (congrArg (fun b => some (AV.fl (Value.bool b))) (eq_false_of_ne_true hc17)) 18 rfl (by decide) (eI64 x11) (Calm.move rfl rfl) ?_
                refine AO.calmG 1 false 17 rfl rfl (congrArg (fun b => some (AV.fl (Value.bool b))) (eq_false_of_ne_true hc17)) 19 rfl (by decide) (.ptr n2 0) (Calm.fldPtr rfl rfl Try.underlying50 rfl sz47 _ rfl) ?_
                obtain ⟨hg18, hq16⟩ := of_guard hq16
                refine AO.calmG 1 false 17 rfl rfl (congrArg (fun b => some (AV.fl (Value.bool b))) (eq_false_of_ne_true hc17)) 20 rfl (by decide) (.ptr n2 (0 + x11.toNat * 1)) (Calm.idxP rfl rfl rfl hg18 Try.underlying47 sz5) ?_
                refine AO.calmG 1 false 17 rfl rfl (congrArg (fun b => some (AV.fl (Value.bool b))) (eq_false_of_ne_true hc17)) 21 rfl (by decide) (eU8 (vget p0.f0 x11)) (Calm.load 0 rfl rfl rfl (At.cast (At.fld0 (At.vidx x11 hg18.1 hg18.2 At.here)) (by omega)) ag5 sz5) ?_
                refine AO.calmG 1 false 17 rfl rfl (congrArg (fun b => some (AV.fl (Value.bool b))) (eq_false_of_ne_true hc17)) 22 rfl (by decide) (eI64 (w64 (vget p0.f0 x11))) (Calm.conv rfl rfl Try.underlying5 Try.underlying3) ?_
                refine AO.calmG 1 false 17 rfl rfl (congrArg (fun b => some (AV.fl (Value.bool b))) (eq_false_of_ne_true hc17)) 23 rfl (by decide) (eI64 x3) (Calm.move rfl rfl) ?_
                refine AO.calmG 1 false 17 rfl rfl (congrArg (fun b => some (AV.fl (Value.bool b))) (eq_false_of_ne_true hc17)) 24 rfl (by decide) (eBool (decide ((w64 (vget p0.f0 x11)) = x3))) (Calm.int rfl rfl rfl rfl) ?_
                refine AO.calm rfl 25 rfl (by decide) (eBool (decide ((w64 (vget p0.f0 x11)) = x3))) (Calm.pickF rfl (congrArg (fun b => some (AV.fl (Value.bool b))) (eq_false_of_ne_true hc17)) rfl) ?_
                refine AO.calm rfl 4 rfl (by decide) (eBool (decide ((w64 (vget p0.f0 x11)) = x3))) (Calm.assign rfl rfl) ?_
                cases hq16
                refine AO.nilE ⟨rfl, rfl⟩ ?_ ?_
                · exact ⟨rfl, rfl, rfl, rfl, trivial⟩
                · exact (Sub.refl _)
            · refine AW.reg ?_
              refine AO.calm rfl 14 rfl (by decide) (eI64 x11) (Calm.move rfl rfl) ?_
              refine AO.calm rfl 15 rfl (by decide) (eI64 (w64 (x11 + (1 : Int)))) (Calm.int rfl rfl rfl rfl) ?_
              refine AO.calm rfl 5 rfl (by decide) (eI64 (w64 (x11 + (1 : Int)))) (Calm.assign rfl rfl) ?_
              refine AO.nil (ρ' := [(1, (.ptr n2 0)), (3, (eI64 x3)), (4, (eBool b15)), (5, (eI64 (w64 (x11 + (1 : Int)))))]) (H' := [(n2, (.mem (e50 p0)))]) ⟨rfl, rfl, rfl, rfl, trivial⟩ (Sub.refl _) ?_
              exact ⟨kq13, Nat.lt_succ_self _, b15, (w64 (x11 + (1 : Int))), rfl, rfl, by rw [hrec12]; exact h⟩
          · have h := (if_neg hc14).symm.trans h
            refine AW.condN (x11 < (256 : Int)) rfl hc14 ?_
            refine AW.exit (ρ' := [(1, (.ptr n2 0)), (3, (eI64 x3)), (4, (eBool b10))]) (H' := [(n2, (.mem (e50 p0)))]) ⟨rfl, rfl, rfl, trivial⟩ (Sub.refl _) ?_
            exact ⟨b10, rfl, rfl, h⟩
        · rintro _ _ ⟨b8, rfl, rfl, h⟩
          rw [bosketref08_gapless_c2.eq_1] at h
          refine AW.seq ?_
          refine AW.reg ?_
          refine AO.calm rfl 26 rfl (by decide) (eBool b8) (Calm.move rfl rfl) ?_
          refine AO.calm rfl 27 rfl (by decide) (eBool (!b8)) (Calm.not rfl rfl) ?_
          refine AO.nil (ρ' := [(1, (.ptr n2 0)), (3, (eI64 x3)), (27, (eBool (!b8)))]) (H' := [(n2, (.mem (e50 p0)))]) ⟨rfl, rfl, rfl, trivial⟩ (Sub.refl _) ?_
          by_cases hc9 : (!b8) = true
          · have h := (if_pos hc9).symm.trans h
            refine AW.condT' (!b8) rfl hc9 ?_
            refine AW.seq ?_
            refine AW.reg ?_
            refine AO.calm rfl 2 rfl (by decide) (eBool false) (Calm.assign rfl rfl) ?_
            refine AO.nil (ρ' := [(2, (eBool false))]) (H' := []) ⟨rfl, trivial⟩ (Sub.nil _) ?_
            refine AW.ret (ρ' := [(2, (eBool false))]) (H' := []) ⟨rfl, trivial⟩ (Sub.refl _) ?_
            have hr := Option.some.inj h
            subst hr
            exact ⟨[(eBool false)], ⟨rfl, rfl, trivial⟩, rfl⟩
          · have h := (if_neg hc9).symm.trans h
            refine AW.condF' (!b8) rfl hc9 ?_
            refine AW.skip (ρ' := [(1, (.ptr n2 0)), (3, (eI64 x3))]) (H' := [(n2, (.mem (e50 p0)))]) ⟨rfl, rfl, trivial⟩ (Sub.refl _) ?_
            exact ⟨rfl, rfl, h⟩
      · rintro _ _ ⟨rfl, rfl, h⟩
        rw [bosketref08_gapless_c1.eq_1] at h
        refine AW.reg ?_
        refine AO.calm rfl 10 rfl (by decide) (eI64 x3) (Calm.move rfl rfl) ?_
        refine AO.calm rfl 11 rfl (by decide) (eI64 (w64 (x3 + (1 : Int)))) (Calm.int rfl rfl rfl rfl) ?_
        refine AO.calm rfl 3 rfl (by decide) (eI64 (w64 (x3 + (1 : Int)))) (Calm.assign rfl rfl) ?_
        refine AO.nil (ρ' := [(1, (.ptr n2 0)), (3, (eI64 (w64 (x3 + (1 : Int)))))]) (H' := [(n2, (.mem (e50 p0)))]) ⟨rfl, rfl, trivial⟩ (Sub.refl _) ?_
        exact ⟨kq5, Nat.lt_succ_self _, (w64 (x3 + (1 : Int))), rfl, rfl, by rw [hrec4]; exact h⟩
    · have h := (if_neg hc7).symm.trans h
      refine AW.condN (x3 < t6) rfl hc7 ?_
      refine AW.exit (ρ' := []) (H' := []) trivial (Sub.nil _) ?_
      exact ⟨rfl, rfl, h⟩
  · rintro _ _ ⟨rfl, rfl, h⟩
    rw [bosketref08_gapless_c0.eq_1] at h
    refine AW.seq ?_
    refine AW.reg ?_
    refine AO.calm rfl 2 rfl (by decide) (eBool true) (Calm.assign rfl rfl) ?_
    refine AO.nil (ρ' := [(2, (eBool true))]) (H' := []) ⟨rfl, trivial⟩ (Sub.refl _) ?_
    refine AW.ret (ρ' := [(2, (eBool true))]) (H' := []) ⟨rfl, trivial⟩ (Sub.refl _) ?_
    have hr := Option.some.inj h
    subst hr
    exact ⟨[(eBool true)], ⟨rfl, rfl, trivial⟩, rfl⟩
end Go.Avl.T3
/- bosket/bosketref08.Right; printed by avmain.py. -/
namespace Go.Avl.T3
open Go Go.RowKit Go.Proofs Go.Avl
set_option linter.unusedVariables false
set_option maxRecDepth 100000
set_option maxHeartbeats 4000000
attribute [local irreducible] AW AO AQ Spec SpecH Calm

def bosketref08_Right_c0 (k : Nat) : Option Bool :=
  some (true)
def bosketref08_Right_c1 (k : Nat) (rec11 : (Int → Option Bool)) (x10 : Int) : Option Bool :=
  rec11 (w64 (x10 + (1 : Int)))
def bosketref08_Right_l2 (k : Nat) (rec11 : (Int → Option Bool)) (p0 : S50) (x10 : Int) : Nat → Int → Option Bool
  | 0, _ => none
  | j + 1, x23 =>
    if 0 ≤ x10 ∧ x10 < (p0.f1.length : Int) then if x23 < ((lget p0.f1 x10).length : Int) then Option.bind (α := Bool) (if 0 ≤ x10 ∧ x10 < (p0.f1.length : Int) then if 0 ≤ x23 ∧ x23 < ((lget p0.f1 x10).length : Int) then if (lget (lget p0.f1 x10) x23) < (-1 : Int) then some (true)
    else if 0 ≤ x10 ∧ x10 < (p0.f1.length : Int) then if 0 ≤ x23 ∧ x23 < ((lget p0.f1 x10).length : Int) then some (decide ((p0.f1.length : Int) ≤ (lget (lget p0.f1 x10) x23)))
    else none
    else none
    else none
    else none) fun b28 =>
    if b28 = true then some (false)
    else (bosketref08_Right_l2 k rec11 p0 x10 j) (w64 (x23 + (1 : Int)))
    else bosketref08_Right_c1 k rec11 x10
    else none
def bosketref08_Right_l3 (k : Nat) (p0 : S50) : Nat → Int → Option Bool
  | 0, _ => none
  | j + 1, x10 =>
    if x10 < (p0.f1.length : Int) then Option.bind (α := Bool) (if 0 ≤ x10 ∧ x10 < (p0.f1.length : Int) then (bosketref08_classes k p0).bind fun t17 =>
    if ((lget p0.f1 x10).length : Int) ≠ t17 then some (true)
    else if 0 ≤ x10 ∧ x10 < (p0.f2.length : Int) then if (lget p0.f2 x10) < (-1 : Int) then some (true)
    else if 0 ≤ x10 ∧ x10 < (p0.f2.length : Int) then some (decide ((32768 : Int) ≤ (lget p0.f2 x10)))
    else none
    else none
    else none) fun b14 =>
    if b14 = true then some (false)
    else bosketref08_Right_l2 k (bosketref08_Right_l3 k p0 j) p0 x10 k (0 : Int)
    else bosketref08_Right_c0 k
def bosketref08_Right (k : Nat) (p0 : S50) : Option Bool :=
  Option.bind (α := Bool) (if (p0.f1.length : Int) < (1 : Int) then some (true)
  else if (32768 : Int) < (p0.f1.length : Int) then some (true)
  else if (p0.f2.length : Int) ≠ (p0.f1.length : Int) then some (true)
  else (bosketref08_gapless k p0).bind fun t8 =>
  some (!t8)) fun b3 =>
  if b3 = true then some (false)
  else bosketref08_Right_l3 k p0 k (0 : Int)
theorem bosketref08_Right_spec {k : Nat} {p0 : S50} {r : Bool} (h : bosketref08_Right k p0 = some r) : Spec Try.prog 23 [(e50 p0)] (eBool r) := by
  rw [bosketref08_Right.eq_1] at h
  refine Spec.intro (res := [.tmp 2]) Try.func23 rfl rfl rfl (Nat.le_of_ble_eq_true rfl) ?_
  refine AW.seq ?_
  refine AW.reg ?_
  refine AO.box rfl 1 rfl (by decide) rfl rfl rfl fun n2 => ?_
  refine AO.calm rfl 2 rfl (by decide) (eBool false) (Calm.assign rfl rfl) ?_
  refine AO.nil (ρ' := [(1, (.ptr n2 0))]) (H' := [(n2, (.mem (e50 p0)))]) ⟨rfl, trivial⟩ (Sub.refl _) ?_
  refine AW.seq ?_
  refine AW.reg ?_
  refine AO.calm rfl 6 rfl (by decide) (.ptr n2 256) (Calm.fldPtr rfl rfl Try.underlying50 rfl sz48 _ rfl) ?_
  refine AO.calm rfl 7 rfl (by decide) (.fz 1 (p0.f1.map e43)) (Calm.load 0 rfl rfl rfl (At.cast (At.fldS (At.fld0 At.here)) rfl) ag48 sz48) ?_
  refine AO.calm rfl 8 rfl (by decide) (eI64 (p0.f1.length : Int)) (Calm.lenL rfl rfl Try.underlying48) ?_
  refine AO.calm rfl 3 rfl (by decide) (eI64 (p0.f1.length : Int)) (Calm.assign rfl rfl) ?_
  refine AO.nil (ρ' := [(1, (.ptr n2 0)), (3, (eI64 (p0.f1.length : Int)))]) (H' := [(n2, (.mem (e50 p0)))]) ⟨rfl, rfl, trivial⟩ (Sub.refl _) ?_
  refine AW.seq ?_
  refine AW.seq ?_
  obtain ⟨b3, hq4, h⟩ := of_bind h
  refine AW.regM [(1, (.ptr n2 0)), (3, (eI64 (p0.f1.length : Int))), (26, (eBool b3))] [(n2, (.mem (e50 p0)))] ?_ ?_
  · refine AO.calm rfl 9 rfl (by decide) (eI64 (p0.f1.length : Int)) (Calm.move rfl rfl) ?_
    refine AO.calm rfl 10 rfl (by decide) (eBool (decide ((p0.f1.length : Int) < (1 : Int)))) (Calm.int rfl rfl rfl rfl) ?_
    refine AO.calm rfl 11 rfl (by decide) (eBool (decide ((p0.f1.length : Int) < (1 : Int)))) (Calm.move rfl rfl) ?_
    by_cases hc5 : (p0.f1.length : Int) < (1 : Int)
    · have hq4 := (if_pos hc5).symm.trans hq4
      refine AO.skipG 2 true 11 rfl rfl (congrArg (fun b => some (AV.fl (Value.bool b))) (decide_eq_true hc5)) 12 rfl (by decide) ?_
      refine AO.skipG 2 true 11 rfl rfl (congrArg (fun b => some (AV.fl (Value.bool b))) (decide_eq_true hc5)) 13 rfl (by decide) ?_
      refine AO.calm rfl 14 rfl (by decide) (eBool true) (Calm.pickT rfl (congrArg (fun b => some (AV.fl (Value.bool b))) (decide_eq_true hc5)) rfl) ?_
      refine AO.calm rfl 15 rfl (by decide) (eBool true) (Calm.move rfl rfl) ?_
      refine AO.skipG 6 true 15 rfl rfl rfl 16 rfl (by decide) ?_
      refine AO.skipG 6 true 15 rfl rfl rfl 17 rfl (by decide) ?_
      refine AO.skipG 6 true 15 rfl rfl rfl 18 rfl (by decide) ?_
      refine AO.skipG 6 true 15 rfl rfl rfl 19 rfl (by decide) ?_
      refine AO.skipG 6 true 15 rfl rfl rfl 20 rfl (by decide) ?_
      refine AO.calm rfl 21 rfl (by decide) (eBool true) (Calm.pickT rfl rfl rfl) ?_
      refine AO.calm rfl 22 rfl (by decide) (eBool true) (Calm.move rfl rfl) ?_
      refine AO.skipG 13 true 22 rfl rfl rfl 23 rfl (by decide) ?_
      refine AO.skipG 13 true 22 rfl rfl rfl 24 rfl (by decide) ?_
      refine AO.skipG 13 true 22 rfl rfl rfl 25 rfl (by decide) ?_
      refine AO.calm rfl 26 rfl (by decide) (eBool true) (Calm.pickT rfl rfl rfl) ?_
      cases hq4
      refine AO.nilE ⟨rfl, rfl⟩ ?_ ?_
      · exact ⟨rfl, rfl, rfl, trivial⟩
      · exact (Sub.refl _)
    · have hq4 := (if_neg hc5).symm.trans hq4
      refine AO.calmG 2 false 11 rfl rfl (congrArg (fun b => some (AV.fl (Value.bool b))) (decide_eq_false hc5)) 12 rfl (by decide) (eI64 (p0.f1.length : Int)) (Calm.move rfl rfl) ?_
      refine AO.calmG 2 false 11 rfl rfl (congrArg (fun b => some (AV.fl (Value.bool b))) (decide_eq_false hc5)) 13 rfl (by decide) (eBool (decide ((32768 : Int) < (p0.f1.length : Int)))) (Calm.int rfl rfl rfl rfl) ?_
      refine AO.calm rfl 14 rfl (by decide) (eBool (decide ((32768 : Int) < (p0.f1.length : Int)))) (Calm.pickF rfl (congrArg (fun b => some (AV.fl (Value.bool b))) (decide_eq_false hc5)) rfl) ?_
      refine AO.calm rfl 15 rfl (by decide) (eBool (decide ((32768 : Int) < (p0.f1.length : Int)))) (Calm.move rfl rfl) ?_
      by_cases hc6 : (32768 : Int) < (p0.f1.length : Int)
      · have hq4 := (if_pos hc6).symm.trans hq4
        refine AO.skipG 6 true 15 rfl rfl (congrArg (fun b => some (AV.fl (Value.bool b))) (decide_eq_true hc6)) 16 rfl (by decide) ?_
        refine AO.skipG 6 true 15 rfl rfl (congrArg (fun b => some (AV.fl (Value.bool b))) (decide_eq_true hc6)) 17 rfl (by decide) ?_
        refine AO.skipG 6 true 15 rfl rfl (congrArg (fun b => some (AV.fl (Value.bool b))) (decide_eq_true hc6)) 18 rfl (by decide) ?_
        refine AO.skipG 6 true 15 rfl rfl (congrArg (fun b => some (AV.fl (Value.bool b))) (decide_eq_true hc6)) 19 rfl (by decide) ?_
        refine AO.skipG 6 true 15 rfl rfl (congrArg (fun b => some (AV.fl (Value.bool b))) (decide_eq_true hc6)) 20 rfl (by decide) ?_
        refine AO.calm rfl 21 rfl (by decide) (eBool true) (Calm.pickT rfl (congrArg (fun b => some (AV.fl (Value.bool b))) (decide_eq_true hc6)) rfl) ?_
        refine AO.calm rfl 22 rfl (by decide) (eBool true) (Calm.move rfl rfl) ?_
        refine AO.skipG 13 true 22 rfl rfl rfl 23 rfl (by decide) ?_
        refine AO.skipG 13 true 22 rfl rfl rfl 24 rfl (by decide) ?_
        refine AO.skipG 13 true 22 rfl rfl rfl 25 rfl (by decide) ?_
        refine AO.calm rfl 26 rfl (by decide) (eBool true) (Calm.pickT rfl rfl rfl) ?_
        cases hq4
        refine AO.nilE ⟨rfl, rfl⟩ ?_ ?_
        · exact ⟨rfl, rfl, rfl, trivial⟩
        · exact (Sub.refl _)
      · have hq4 := (if_neg hc6).symm.trans hq4
        refine AO.calmG 6 false 15 rfl rfl (congrArg (fun b => some (AV.fl (Value.bool b))) (decide_eq_false hc6)) 16 rfl (by decide) (.ptr n2 257) (Calm.fldPtr rfl rfl Try.underlying50 rfl sz43 _ rfl) ?_
        refine AO.calmG 6 false 15 rfl rfl (congrArg (fun b => some (AV.fl (Value.bool b))) (decide_eq_false hc6)) 17 rfl (by decide) (.fz 1 (p0.f2.map eI64)) (Calm.load 0 rfl rfl rfl (At.cast (At.fldS (At.fldS (At.fld0 At.here))) rfl) ag43 sz43) ?_
        refine AO.calmG 6 false 15 rfl rfl (congrArg (fun b => some (AV.fl (Value.bool b))) (decide_eq_false hc6)) 18 rfl (by decide) (eI64 (p0.f2.length : Int)) (Calm.lenL rfl rfl Try.underlying43) ?_
        refine AO.calmG 6 false 15 rfl rfl (congrArg (fun b => some (AV.fl (Value.bool b))) (decide_eq_false hc6)) 19 rfl (by decide) (eI64 (p0.f1.length : Int)) (Calm.move rfl rfl) ?_
        refine AO.calmG 6 false 15 rfl rfl (congrArg (fun b => some (AV.fl (Value.bool b))) (decide_eq_false hc6)) 20 rfl (by decide) (eBool (decide ((p0.f2.length : Int) ≠ (p0.f1.length : Int)))) (Calm.int rfl rfl rfl rfl) ?_
        refine AO.calm rfl 21 rfl (by decide) (eBool (decide ((p0.f2.length : Int) ≠ (p0.f1.length : Int)))) (Calm.pickF rfl (congrArg (fun b => some (AV.fl (Value.bool b))) (decide_eq_false hc6)) rfl) ?_
        refine AO.calm rfl 22 rfl (by decide) (eBool (decide ((p0.f2.length : Int) ≠ (p0.f1.length : Int)))) (Calm.move rfl rfl) ?_
        by_cases hc7 : (p0.f2.length : Int) ≠ (p0.f1.length : Int)
        · have hq4 := (if_pos hc7).symm.trans hq4
          refine AO.skipG 13 true 22 rfl rfl (congrArg (fun b => some (AV.fl (Value.bool b))) (decide_eq_true hc7)) 23 rfl (by decide) ?_
          refine AO.skipG 13 true 22 rfl rfl (congrArg (fun b => some (AV.fl (Value.bool b))) (decide_eq_true hc7)) 24 rfl (by decide) ?_
          refine AO.skipG 13 true 22 rfl rfl (congrArg (fun b => some (AV.fl (Value.bool b))) (decide_eq_true hc7)) 25 rfl (by decide) ?_
          refine AO.calm rfl 26 rfl (by decide) (eBool true) (Calm.pickT rfl (congrArg (fun b => some (AV.fl (Value.bool b))) (decide_eq_true hc7)) rfl) ?_
          cases hq4
          refine AO.nilE ⟨rfl, rfl⟩ ?_ ?_
          · exact ⟨rfl, rfl, rfl, trivial⟩
          · exact (Sub.refl _)
        · have hq4 := (if_neg hc7).symm.trans hq4
          refine AO.calmG 13 false 22 rfl rfl (congrArg (fun b => some (AV.fl (Value.bool b))) (decide_eq_false hc7)) 23 rfl (by decide) (e50 p0) (Calm.load 0 rfl rfl rfl (At.cast At.here rfl) ag50 sz50) ?_
          obtain ⟨t8, et8, hq4⟩ := of_bind hq4
          refine AO.callG 13 false 22 [(e50 p0)] (eBool t8) 24 rfl (by decide) ok48 rfl rfl (congrArg (fun b => some (AV.fl (Value.bool b))) (decide_eq_false hc7)) rfl rfl ⟨rfl, rfl, trivial⟩ (bosketref08_gapless_spec et8) ?_
          refine AO.calmG 13 false 22 rfl rfl (congrArg (fun b => some (AV.fl (Value.bool b))) (decide_eq_false hc7)) 25 rfl (by decide) (eBool (!t8)) (Calm.not rfl rfl) ?_
          refine AO.calm rfl 26 rfl (by decide) (eBool (!t8)) (Calm.pickF rfl (congrArg (fun b => some (AV.fl (Value.bool b))) (decide_eq_false hc7)) rfl) ?_
          cases hq4
          refine AO.nilE ⟨rfl, rfl⟩ ?_ ?_
          · exact ⟨rfl, rfl, rfl, trivial⟩
          · exact (Sub.refl _)
  · by_cases hc9 : b3 = true
    · have h := (if_pos hc9).symm.trans h
      refine AW.condT' b3 rfl hc9 ?_
      refine AW.seq ?_
      refine AW.reg ?_
      refine AO.calm rfl 2 rfl (by decide) (eBool false) (Calm.assign rfl rfl) ?_
      refine AO.nil (ρ' := [(2, (eBool false))]) (H' := []) ⟨rfl, trivial⟩ (Sub.nil _) ?_
      refine AW.ret (ρ' := [(2, (eBool false))]) (H' := []) ⟨rfl, trivial⟩ (Sub.refl _) ?_
      have hr := Option.some.inj h
      subst hr
      exact ⟨[(eBool false)], ⟨rfl, rfl, trivial⟩, rfl⟩
    · have h := (if_neg hc9).symm.trans h
      refine AW.condF' b3 rfl hc9 ?_
      refine AW.skip (ρ' := [(1, (.ptr n2 0)), (3, (eI64 (p0.f1.length : Int)))]) (H' := [(n2, (.mem (e50 p0)))]) ⟨rfl, rfl, trivial⟩ (Sub.refl _) ?_
      refine AW.seq_mid (fun ρ H => ρ = [] ∧ H = [] ∧ bosketref08_Right_c0 k = some r) ?_ ?_
      · refine AW.seq ?_
        refine AW.reg ?_
        refine AO.calm rfl 4 rfl (by decide) (eI64 (0 : Int)) (Calm.assign rfl rfl) ?_
        refine AO.nil (ρ' := [(1, (.ptr n2 0)), (3, (eI64 (p0.f1.length : Int))), (4, (eI64 (0 : Int)))]) (H' := [(n2, (.mem (e50 p0)))]) ⟨rfl, rfl, rfl, trivial⟩ (Sub.refl _) ?_
        refine AW.block ?_
        refine AW.weak (ρ' := [(1, (.ptr n2 0)), (3, (eI64 (p0.f1.length : Int))), (4, (eI64 (0 : Int)))]) (H' := [(n2, (.mem (e50 p0)))]) ⟨rfl, rfl, rfl, trivial⟩ (Sub.refl _) ?_
        refine AW.loop (fun kq ρ H => ∃ (x10 : Int), ρ = [(1, (.ptr n2 0)), (3, (eI64 (p0.f1.length : Int))), (4, (eI64 x10))] ∧ H = [(n2, (.mem (e50 p0)))] ∧ bosketref08_Right_l3 k p0 kq x10 = some r) k ⟨(0 : Int), rfl, rfl, h⟩ ?_
        rintro kq12 _ _ ⟨x10, rfl, rfl, h⟩
        cases kq12 with
        | zero => rw [bosketref08_Right_l3.eq_1] at h; cases h
        | succ kq12 =>
        rw [bosketref08_Right_l3.eq_2] at h
        generalize hrec11 : bosketref08_Right_l3 k p0 kq12 = rec11 at h
        refine AW.seq ?_
        refine AW.seq ?_
        refine AW.reg ?_
        refine AO.calm rfl 27 rfl (by decide) (eI64 x10) (Calm.move rfl rfl) ?_
        refine AO.calm rfl 28 rfl (by decide) (eI64 (p0.f1.length : Int)) (Calm.move rfl rfl) ?_
        refine AO.calm rfl 29 rfl (by decide) (eBool (decide (x10 < (p0.f1.length : Int)))) (Calm.int rfl rfl rfl rfl) ?_
        refine AO.nil (ρ' := [(1, (.ptr n2 0)), (3, (eI64 (p0.f1.length : Int))), (4, (eI64 x10)), (29, (eBool (decide (x10 < (p0.f1.length : Int)))))]) (H' := [(n2, (.mem (e50 p0)))]) ⟨rfl, rfl, rfl, rfl, trivial⟩ (Sub.refl _) ?_
        by_cases hc13 : x10 < (p0.f1.length : Int)
        · have h := (if_pos hc13).symm.trans h
          refine AW.condP (x10 < (p0.f1.length : Int)) rfl hc13 ?_
          refine AW.skip (ρ' := [(1, (.ptr n2 0)), (3, (eI64 (p0.f1.length : Int))), (4, (eI64 x10))]) (H' := [(n2, (.mem (e50 p0)))]) ⟨rfl, rfl, rfl, trivial⟩ (Sub.refl _) ?_
          refine AW.seq_mid (fun ρ H => ρ = [(1, (.ptr n2 0)), (3, (eI64 (p0.f1.length : Int))), (4, (eI64 x10))] ∧ H = [(n2, (.mem (e50 p0)))] ∧ bosketref08_Right_c1 k rec11 x10 = some r) ?_ ?_
          · refine AW.block ?_
            refine AW.seq ?_
            refine AW.seq ?_
            obtain ⟨b14, hq15, h⟩ := of_bind h
            refine AW.regQM (by rfl) (by decide +kernel) [(1, (.ptr n2 0)), (3, (eI64 (p0.f1.length : Int))), (4, (eI64 x10)), (56, (eBool b14))] ?_ ?_
            · refine AQ.calm rfl 32 rfl (by decide) (.ptr n2 256) (Calm.fldPtr rfl rfl Try.underlying50 rfl sz48 _ rfl) ?_
              refine AQ.calm rfl 33 rfl (by decide) (.fz 1 (p0.f1.map e43)) (Calm.load 0 rfl rfl rfl (At.cast (At.fldS (At.fld0 At.here)) rfl) ag48 sz48) ?_
              refine AQ.calm rfl 34 rfl (by decide) (eI64 x10) (Calm.move rfl rfl) ?_
              obtain ⟨hg16, hq15⟩ := of_guard hq15
              refine AQ.calm rfl 35 rfl (by decide) (.rp (.fz 1 ((lget p0.f1 x10).map eI64))) (Calm.idxL (f := e43) rfl rfl rfl hg16 Try.underlying48 sz43) ?_
              refine AQ.calm rfl 36 rfl (by decide) (.fz 1 ((lget p0.f1 x10).map eI64)) (Calm.loadRp rfl rfl ag43 sz43) ?_
              refine AQ.calm rfl 37 rfl (by decide) (eI64 ((lget p0.f1 x10).length : Int)) (Calm.lenL rfl rfl Try.underlying43) ?_
              refine AQ.calm rfl 38 rfl (by decide) (e50 p0) (Calm.load 0 rfl rfl rfl (At.cast At.here rfl) ag50 sz50) ?_
              obtain ⟨t17, et17, hq15⟩ := of_bind hq15
              refine AQ.calm rfl 39 rfl (by decide) (eI64 t17) (Calm.call (args := [(e50 p0)]) rfl rfl ok49 ⟨rfl, rfl, trivial⟩ rfl (bosketref08_classes_spec et17)) ?_
              refine AQ.calm rfl 40 rfl (by decide) (eBool (decide (((lget p0.f1 x10).length : Int) ≠ t17))) (Calm.int rfl rfl rfl rfl) ?_
              refine AQ.calm rfl 41 rfl (by decide) (eBool (decide (((lget p0.f1 x10).length : Int) ≠ t17))) (Calm.move rfl rfl) ?_
              by_cases hc18 : ((lget p0.f1 x10).length : Int) ≠ t17
              · have hq15 := (if_pos hc18).symm.trans hq15
                refine AQ.skipG 9 true 41 rfl rfl (congrArg (fun b => some (AV.fl (Value.bool b))) (decide_eq_true hc18)) 42 rfl (by decide) ?_
                refine AQ.skipG 9 true 41 rfl rfl (congrArg (fun b => some (AV.fl (Value.bool b))) (decide_eq_true hc18)) 43 rfl (by decide) ?_
                refine AQ.skipG 9 true 41 rfl rfl (congrArg (fun b => some (AV.fl (Value.bool b))) (decide_eq_true hc18)) 44 rfl (by decide) ?_
                refine AQ.skipG 9 true 41 rfl rfl (congrArg (fun b => some (AV.fl (Value.bool b))) (decide_eq_true hc18)) 45 rfl (by decide) ?_
                refine AQ.skipG 9 true 41 rfl rfl (congrArg (fun b => some (AV.fl (Value.bool b))) (decide_eq_true hc18)) 46 rfl (by decide) ?_
                refine AQ.skipG 9 true 41 rfl rfl (congrArg (fun b => some (AV.fl (Value.bool b))) (decide_eq_true hc18)) 47 rfl (by decide) ?_
                refine AQ.calm rfl 48 rfl (by decide) (eBool true) (Calm.pickT rfl (congrArg (fun b => some (AV.fl (Value.bool b))) (decide_eq_true hc18)) rfl) ?_
                refine AQ.calm rfl 49 rfl (by decide) (eBool true) (Calm.move rfl rfl) ?_
                refine AQ.skipG 17 true 49 rfl rfl rfl 50 rfl (by decide) ?_
                refine AQ.skipG 17 true 49 rfl rfl rfl 51 rfl (by decide) ?_
                refine AQ.skipG 17 true 49 rfl rfl rfl 52 rfl (by decide) ?_
                refine AQ.skipG 17 true 49 rfl rfl rfl 53 rfl (by decide) ?_
                refine AQ.skipG 17 true 49 rfl rfl rfl 54 rfl (by decide) ?_
                refine AQ.skipG 17 true 49 rfl rfl rfl 55 rfl (by decide) ?_
                refine AQ.calm rfl 56 rfl (by decide) (eBool true) (Calm.pickT rfl rfl rfl) ?_
                cases hq15
                refine AQ.nilE rfl ?_
                exact ⟨rfl, rfl, rfl, rfl, trivial⟩
              · have hq15 := (if_neg hc18).symm.trans hq15
                refine AQ.calmG 9 false 41 rfl rfl (congrArg (fun b => some (AV.fl (Value.bool b))) (decide_eq_false hc18)) 42 rfl (by decide) (.ptr n2 257) (Calm.fldPtr rfl rfl Try.underlying50 rfl sz43 _ rfl) ?_
                refine AQ.calmG 9 false 41 rfl rfl (congrArg (fun b => some (AV.fl (Value.bool b))) (decide_eq_false hc18)) 43 rfl (by decide) (.fz 1 (p0.f2.map eI64)) (Calm.load 0 rfl rfl rfl (At.cast (At.fldS (At.fldS (At.fld0 At.here))) rfl) ag43 sz43) ?_
                refine AQ.calmG 9 false 41 rfl rfl (congrArg (fun b => some (AV.fl (Value.bool b))) (decide_eq_false hc18)) 44 rfl (by decide) (eI64 x10) (Calm.move rfl rfl) ?_
                obtain ⟨hg19, hq15⟩ := of_guard hq15
                refine AQ.calmG 9 false 41 rfl rfl (congrArg (fun b => some (AV.fl (Value.bool b))) (decide_eq_false hc18)) 45 rfl (by decide) (.rp (eI64 (lget p0.f2 x10))) (Calm.idxL (f := eI64) rfl rfl rfl hg19 Try.underlying43 sz3) ?_
                refine AQ.calmG 9 false 41 rfl rfl (congrArg (fun b => some (AV.fl (Value.bool b))) (decide_eq_false hc18)) 46 rfl (by decide) (eI64 (lget p0.f2 x10)) (Calm.loadRp rfl rfl ag3 sz3) ?_
                refine AQ.calmG 9 false 41 rfl rfl (congrArg (fun b => some (AV.fl (Value.bool b))) (decide_eq_false hc18)) 47 rfl (by decide) (eBool (decide ((lget p0.f2 x10) < (-1 : Int)))) (Calm.int rfl rfl rfl rfl) ?_
                refine AQ.calm rfl 48 rfl (by decide) (eBool (decide ((lget p0.f2 x10) < (-1 : Int)))) (Calm.pickF rfl (congrArg (fun b => some (AV.fl (Value.bool b))) (decide_eq_false hc18)) rfl) ?_
                refine AQ.calm rfl 49 rfl (by decide) (eBool (decide ((lget p0.f2 x10) < (-1 : Int)))) (Calm.move rfl rfl) ?_
                by_cases hc20 : (lget p0.f2 x10) < (-1 : Int)
                · have hq15 := (if_pos hc20).symm.trans hq15
                  refine AQ.skipG 17 true 49 rfl rfl (congrArg (fun b => some (AV.fl (Value.bool b))) (decide_eq_true hc20)) 50 rfl (by decide) ?_
                  refine AQ.skipG 17 true 49 rfl rfl (congrArg (fun b => some (AV.fl (Value.bool b))) (decide_eq_true hc20)) 51 rfl (by decide) ?_
                  refine AQ.skipG 17 true 49 rfl rfl (congrArg (fun b => some (AV.fl (Value.bool b))) (decide_eq_true hc20)) 52 rfl (by decide) ?_
                  refine AQ.skipG 17 true 49 rfl rfl (congrArg (fun b => some (AV.fl (Value.bool b))) (decide_eq_true hc20)) 53 rfl (by decide) ?_
                  refine AQ.skipG 17 true 49 rfl rfl (congrArg (fun b => some (AV.fl (Value.bool b))) (decide_eq_true hc20)) 54 rfl (by decide) ?_
                  refine AQ.skipG 17 true 49 rfl rfl (congrArg (fun b => some (AV.fl (Value.bool b))) (decide_eq_true hc20)) 55 rfl (by decide) ?_
                  refine AQ.calm rfl 56 rfl (by decide) (eBool true) (Calm.pickT rfl (congrArg (fun b => some (AV.fl (Value.bool b))) (decide_eq_true hc20)) rfl) ?_
                  cases hq15
                  refine AQ.nilE rfl ?_
                  exact ⟨rfl, rfl, rfl, rfl, trivial⟩
                · have hq15 := (if_neg hc20).symm.trans hq15
                  refine AQ.calmG 17 false 49 rfl rfl (congrArg (fun b => some (AV.fl (Value.bool b))) (decide_eq_false hc20)) 50 rfl (by decide) (.ptr n2 257) (Calm.fldPtr rfl rfl Try.underlying50 rfl sz43 _ rfl) ?_
                  refine AQ.calmG 17 false 49 rfl rfl (congrArg (fun b => some (AV.fl (Value.bool b))) (decide_eq_false hc20)) 51 rfl (by decide) (.fz 1 (p0.f2.map eI64)) (Calm.load 0 rfl rfl rfl (At.cast (At.fldS (At.fldS (At.fld0 At.here))) rfl) ag43 sz43) ?_
                  refine AQ.calmG 17 false 49 rfl rfl (congrArg (fun b => some (AV.fl (Value.bool b))) (decide_eq_false hc20)) 52 rfl (by decide) (eI64 x10) (Calm.move rfl rfl) ?_
                  obtain ⟨hg21, hq15⟩ := of_guard hq15
                  refine AQ.calmG 17 false 49 rfl rfl (congrArg (fun b => some (AV.fl (Value.bool b))) (decide_eq_false hc20)) 53 rfl (by decide) (.rp (eI64 (lget p0.f2 x10))) (Calm.idxL (f := eI64) rfl rfl rfl hg21 Try.underlying43 sz3) ?_
                  refine AQ.calmG 17 false 49 rfl rfl (congrArg (fun b => some (AV.fl (Value.bool b))) (decide_eq_false hc20)) 54 rfl (by decide) (eI64 (lget p0.f2 x10)) (Calm.loadRp rfl rfl ag3 sz3) ?_
                  refine AQ.calmG 17 false 49 rfl rfl (congrArg (fun b => some (AV.fl (Value.bool b))) (decide_eq_false hc20)) 55 rfl (by decide) (eBool (decide ((32768 : Int) ≤ (lget p0.f2 x10)))) (Calm.int rfl rfl rfl rfl) ?_
                  refine AQ.calm rfl 56 rfl (by decide) (eBool (decide ((32768 : Int) ≤ (lget p0.f2 x10)))) (Calm.pickF rfl (congrArg (fun b => some (AV.fl (Value.bool b))) (decide_eq_false hc20)) rfl) ?_
                  cases hq15
                  refine AQ.nilE rfl ?_
                  exact ⟨rfl, rfl, rfl, rfl, trivial⟩
            · by_cases hc22 : b14 = true
              · have h := (if_pos hc22).symm.trans h
                refine AW.condT' b14 rfl hc22 ?_
                refine AW.seq ?_
                refine AW.reg ?_
                refine AO.calm rfl 2 rfl (by decide) (eBool false) (Calm.assign rfl rfl) ?_
                refine AO.nil (ρ' := [(2, (eBool false))]) (H' := []) ⟨rfl, trivial⟩ (Sub.nil _) ?_
                refine AW.ret (ρ' := [(2, (eBool false))]) (H' := []) ⟨rfl, trivial⟩ (Sub.refl _) ?_
                have hr := Option.some.inj h
                subst hr
                exact ⟨[(eBool false)], ⟨rfl, rfl, trivial⟩, rfl⟩
              · have h := (if_neg hc22).symm.trans h
                refine AW.condF' b14 rfl hc22 ?_
                refine AW.skip (ρ' := [(1, (.ptr n2 0)), (3, (eI64 (p0.f1.length : Int))), (4, (eI64 x10))]) (H' := [(n2, (.mem (e50 p0)))]) ⟨rfl, rfl, rfl, trivial⟩ (Sub.refl _) ?_
                refine AW.seq ?_
                refine AW.reg ?_
                refine AO.calm rfl 5 rfl (by decide) (eI64 (0 : Int)) (Calm.assign rfl rfl) ?_
                refine AO.nil (ρ' := [(1, (.ptr n2 0)), (3, (eI64 (p0.f1.length : Int))), (4, (eI64 x10)), (5, (eI64 (0 : Int)))]) (H' := [(n2, (.mem (e50 p0)))]) ⟨rfl, rfl, rfl, rfl, trivial⟩ (Sub.refl _) ?_
                refine AW.block ?_
                refine AW.weak (ρ' := [(1, (.ptr n2 0)), (3, (eI64 (p0.f1.length : Int))), (4, (eI64 x10)), (5, (eI64 (0 : Int)))]) (H' := [(n2, (.mem (e50 p0)))]) ⟨rfl, rfl, rfl, rfl, trivial⟩ (Sub.refl _) ?_
                refine AW.loop (fun kq ρ H => ∃ (x23 : Int), ρ = [(1, (.ptr n2 0)), (3, (eI64 (p0.f1.length : Int))), (4, (eI64 x10)), (5, (eI64 x23))] ∧ H = [(n2, (.mem (e50 p0)))] ∧ bosketref08_Right_l2 k rec11 p0 x10 kq x23 = some r) k ⟨(0 : Int), rfl, rfl, h⟩ ?_
                rintro kq25 _ _ ⟨x23, rfl, rfl, h⟩
                cases kq25 with
                | zero => rw [bosketref08_Right_l2.eq_1] at h; cases h
                | succ kq25 =>
                rw [bosketref08_Right_l2.eq_2] at h
                generalize hrec24 : bosketref08_Right_l2 k rec11 p0 x10 kq25 = rec24 at h
                refine AW.seq ?_
                refine AW.seq ?_
                refine AW.reg ?_
                refine AO.calm rfl 57 rfl (by decide) (eI64 x23) (Calm.move rfl rfl) ?_
                refine AO.calm rfl 58 rfl (by decide) (.ptr n2 256) (Calm.fldPtr rfl rfl Try.underlying50 rfl sz48 _ rfl) ?_
                refine AO.calm rfl 59 rfl (by decide) (.fz 1 (p0.f1.map e43)) (Calm.load 0 rfl rfl rfl (At.cast (At.fldS (At.fld0 At.here)) rfl) ag48 sz48) ?_
                refine AO.calm rfl 60 rfl (by decide) (eI64 x10) (Calm.move rfl rfl) ?_
                obtain ⟨hg26, h⟩ := of_guard h
                refine AO.calm rfl 61 rfl (by decide) (.rp (.fz 1 ((lget p0.f1 x10).map eI64))) (Calm.idxL (f := e43) rfl rfl rfl hg26 Try.underlying48 sz43) ?_
                refine AO.calm rfl 62 rfl (by decide) (.fz 1 ((lget p0.f1 x10).map eI64)) (Calm.loadRp rfl rfl ag43 sz43) ?_
                refine AO.calm rfl 63 rfl (by decide) (eI64 ((lget p0.f1 x10).length : Int)) (Calm.lenL rfl rfl Try.underlying43) ?_
                refine AO.calm rfl 64 rfl (by decide) (eBool (decide (x23 < ((lget p0.f1 x10).length : Int)))) (Calm.int rfl rfl rfl rfl) ?_
                refine AO.nil (ρ' := [(1, (.ptr n2 0)), (3, (eI64 (p0.f1.length : Int))), (4, (eI64 x10)), (5, (eI64 x23)), (64, (eBool (decide (x23 < ((lget p0.f1 x10).length : Int)))))]) (H' := [(n2, (.mem (e50 p0)))]) ⟨rfl, rfl, rfl, rfl, rfl, trivial⟩ (Sub.refl _) ?_
                by_cases hc27 : x23 < ((lget p0.f1 x10).length : Int)
                · have h := (if_pos hc27).symm.trans h
                  refine AW.condP (x23 < ((lget p0.f1 x10).length : Int)) rfl hc27 ?_
                  refine AW.skip (ρ' := [(1, (.ptr n2 0)), (3, (eI64 (p0.f1.length : Int))), (4, (eI64 x10)), (5, (eI64 x23))]) (H' := [(n2, (.mem (e50 p0)))]) ⟨rfl, rfl, rfl, rfl, trivial⟩ (Sub.refl _) ?_
                  refine AW.seq ?_
                  refine AW.block ?_
                  refine AW.seq ?_
                  obtain ⟨b28, hq29, h⟩ := of_bind h
                  refine AW.regM [(1, (.ptr n2 0)), (3, (eI64 (p0.f1.length : Int))), (4, (eI64 x10)), (5, (eI64 x23)), (87, (eBool b28))] [(n2, (.mem (e50 p0)))] ?_ ?_
                  · refine AO.calm rfl 67 rfl (by decide) (.ptr n2 256) (Calm.fldPtr rfl rfl Try.underlying50 rfl sz48 _ rfl) ?_
                    refine AO.calm rfl 68 rfl (by decide) (.fz 1 (p0.f1.map e43)) (Calm.load 0 rfl rfl rfl (At.cast (At.fldS (At.fld0 At.here)) rfl) ag48 sz48) ?_
                    refine AO.calm rfl 69 rfl (by decide) (eI64 x10) (Calm.move rfl rfl) ?_
                    obtain ⟨hg30, hq29⟩ := of_guard hq29
                    refine AO.calm rfl 70 rfl (by decide) (.rp (.fz 1 ((lget p0.f1 x10).map eI64))) (Calm.idxL (f := e43) rfl rfl rfl hg30 Try.underlying48 sz43) ?_
                    refine AO.calm rfl 71 rfl (by decide) (.fz 1 ((lget p0.f1 x10).map eI64)) (Calm.loadRp rfl rfl ag43 sz43) ?_
                    refine AO.calm rfl 72 rfl (by decide) (eI64 x23) (Calm.move rfl rfl) ?_
                    obtain ⟨hg31, hq29⟩ := of_guard hq29
                    refine AO.calm rfl 73 rfl (by decide) (.rp (eI64 (lget (lget p0.f1 x10) x23))) (Calm.idxL (f := eI64) rfl rfl rfl hg31 Try.underlying43 sz3) ?_
                    refine AO.calm rfl 74 rfl (by decide) (eI64 (lget (lget p0.f1 x10) x23)) (Calm.loadRp rfl rfl ag3 sz3) ?_
                    refine AO.calm rfl 75 rfl (by decide) (eBool (decide ((lget (lget p0.f1 x10) x23) < (-1 : Int)))) (Calm.int rfl rfl rfl rfl) ?_
                    refine AO.calm rfl 76 rfl (by decide) (eBool (decide ((lget (lget p0.f1 x10) x23) < (-1 : Int)))) (Calm.move rfl rfl) ?_
                    by_cases hc32 : (lget (lget p0.f1 x10) x23) < (-1 : Int)
                    · have hq29 := (if_pos hc32).symm.trans hq29
                      refine AO.skipG 9 true 76 rfl rfl (congrArg (fun b => some (AV.fl (Value.bool b))) (decide_eq_true hc32)) 77 rfl (by decide) ?_
                      refine AO.skipG 9 true 76 rfl rfl (congrArg (fun b => some (AV.fl (Value.bool b))) (decide_eq_true hc32)) 78 rfl (by decide) ?_
                      refine AO.skipG 9 true 76 rfl rfl (congrArg (fun b => some (AV.fl (Value.bool b))) (decide_eq_true hc32)) 79 rfl (by decide) ?_
                      refine AO.skipG 9 true 76 rfl rfl (congrArg (fun b => some (AV.fl (Value.bool b))) (decide_eq_true hc32)) 80 rfl (by decide) ?_
                      refine AO.skipG 9 true 76 rfl rfl (congrArg (fun b => some (AV.fl (Value.bool b))) (decide_eq_true hc32)) 81 rfl (by decide) ?_
                      refine AO.skipG 9 true 76 rfl rfl (congrArg (fun b => some (AV.fl (Value.bool b))) (decide_eq_true hc32)) 82 rfl (by decide) ?_
                      refine AO.skipG 9 true 76 rfl rfl (congrArg (fun b => some (AV.fl (Value.bool b))) (decide_eq_true hc32)) 83 rfl (by decide) ?_
                      refine AO.skipG 9 true 76 rfl rfl (congrArg (fun b => some (AV.fl (Value.bool b))) (decide_eq_true hc32)) 84 rfl (by decide) ?_
                      refine AO.skipG 9 true 76 rfl rfl (congrArg (fun b => some (AV.fl (Value.bool b))) (decide_eq_true hc32)) 85 rfl (by decide) ?_
                      refine AO.skipG 9 true 76 rfl rfl (congrArg (fun b => some (AV.fl (Value.bool b))) (decide_eq_true hc32)) 86 rfl (by decide) ?_
                      refine AO.calm rfl 87 rfl (by decide) (eBool true) (Calm.pickT rfl (congrArg (fun b => some (AV.fl (Value.bool b))) (decide_eq_true hc32)) rfl) ?_
                      cases hq29
                      refine AO.nilE ⟨rfl, rfl⟩ ?_ ?_
                      · exact ⟨rfl, rfl, rfl, rfl, rfl, trivial⟩
                      · exact (Sub.refl _)
                    · have hq29 := (if_neg hc32).symm.trans hq29
                      refine AO.calmG 9 false 76 rfl rfl (congrArg (fun b => some (AV.fl (Value.bool b))) (decide_eq_false hc32)) 77 rfl (by decide) (.ptr n2 256) (Calm.fldPtr rfl rfl Try.underlying50 rfl sz48 _ rfl) ?_
                      refine AO.calmG 9 false 76 rfl rfl (congrArg (fun b => some (AV.fl (Value.bool b))) (decide_eq_false hc32)) 78 rfl (by decide) (.fz 1 (p0.f1.map e43)) (Calm.load 0 rfl rfl rfl (At.cast (At.fldS (At.fld0 At.here)) rfl) ag48 sz48) ?_
                      refine AO.calmG 9 false 76 rfl rfl (congrArg (fun b => some (AV.fl (Value.bool b))) (decide_eq_false hc32)) 79 rfl (by decide) (eI64 x10) (Calm.move rfl rfl) ?_
                      obtain ⟨hg33, hq29⟩ := of_guard hq29
                      refine AO.calmG 9 false 76 rfl rfl (congrArg (fun b => some (AV.fl (Value.bool b))) (decide_eq_false hc32)) 80 rfl (by decide) (.rp (.fz 1 ((lget p0.f1 x10).map eI64))) (Calm.idxL (f := e43) rfl rfl rfl hg33 Try.underlying48 sz43) ?_
                      refine AO.calmG 9 false 76 rfl rfl (congrArg (fun b => some (AV.fl (Value.bool b))) (decide_eq_false hc32)) 81 rfl (by decide) (.fz 1 ((lget p0.f1 x10).map eI64)) (Calm.loadRp rfl rfl ag43 sz43) ?_
                      refine AO.calmG 9 false 76 rfl rfl (congrArg (fun b => some (AV.fl (Value.bool b))) (decide_eq_false hc32)) 82 rfl (by decide) (eI64 x23) (Calm.move rfl rfl) ?_
                      obtain ⟨hg34, hq29⟩ := of_guard hq29
                      refine AO.calmG 9 false 76 rfl rfl (congrArg (fun b => some (AV.fl (Value.bool b))) (decide_eq_false hc32)) 83 rfl (by decide) (.rp (eI64 (lget (lget p0.f1 x10) x23))) (Calm.idxL (f := eI64) rfl rfl rfl hg34 Try.underlying43 sz3) ?_
                      refine AO.calmG 9 false 76 rfl rfl (congrArg (fun b => some (AV.fl (Value.bool b))) (decide_eq_false hc32)) 84 rfl (by decide) (eI64 (lget (lget p0.f1 x10) x23)) (Calm.loadRp rfl rfl ag3 sz3) ?_
                      refine AO.calmG 9 false 76 rfl rfl (congrArg (fun b => some (AV.fl (Value.bool b))) (decide_eq_false hc32)) 85 rfl (by decide) (eI64 (p0.f1.length : Int)) (Calm.move rfl rfl) ?_
                      refine AO.calmG 9 false 76 rfl rfl (congrArg (fun b => some (AV.fl (Value.bool b))) (decide_eq_false hc32)) 86 rfl (by decide) (eBool (decide ((p0.f1.length : Int) ≤ (lget (lget p0.f1 x10) x23)))) (Calm.int rfl rfl rfl rfl) ?_
                      refine AO.calm rfl 87 rfl (by decide) (eBool (decide ((p0.f1.length : Int) ≤ (lget (lget p0.f1 x10) x23)))) (Calm.pickF rfl (congrArg (fun b => some (AV.fl (Value.bool b))) (decide_eq_false hc32)) rfl) ?_
                      cases hq29
                      refine AO.nilE ⟨rfl, rfl⟩ ?_ ?_
                      · exact ⟨rfl, rfl, rfl, rfl, rfl, trivial⟩
                      · exact (Sub.refl _)
                  · by_cases hc35 : b28 = true
                    · have h := (if_pos hc35).symm.trans h
                      refine AW.condT' b28 rfl hc35 ?_
                      refine AW.seq ?_
                      refine AW.reg ?_
                      refine AO.calm rfl 2 rfl (by decide) (eBool false) (Calm.assign rfl rfl) ?_
                      refine AO.nil (ρ' := [(2, (eBool false))]) (H' := []) ⟨rfl, trivial⟩ (Sub.nil _) ?_
                      refine AW.ret (ρ' := [(2, (eBool false))]) (H' := []) ⟨rfl, trivial⟩ (Sub.refl _) ?_
                      have hr := Option.some.inj h
                      subst hr
                      exact ⟨[(eBool false)], ⟨rfl, rfl, trivial⟩, rfl⟩
                    · have h := (if_neg hc35).symm.trans h
                      refine AW.condF' b28 rfl hc35 ?_
                      refine AW.skip (ρ' := [(1, (.ptr n2 0)), (3, (eI64 (p0.f1.length : Int))), (4, (eI64 x10)), (5, (eI64 x23))]) (H' := [(n2, (.mem (e50 p0)))]) ⟨rfl, rfl, rfl, rfl, trivial⟩ (Sub.refl _) ?_
                      refine AW.reg ?_
                      refine AO.calm rfl 65 rfl (by decide) (eI64 x23) (Calm.move rfl rfl) ?_
                      refine AO.calm rfl 66 rfl (by decide) (eI64 (w64 (x23 + (1 : Int)))) (Calm.int rfl rfl rfl rfl) ?_
                      refine AO.calm rfl 5 rfl (by decide) (eI64 (w64 (x23 + (1 : Int)))) (Calm.assign rfl rfl) ?_
                      refine AO.nil (ρ' := [(1, (.ptr n2 0)), (3, (eI64 (p0.f1.length : Int))), (4, (eI64 x10)), (5, (eI64 (w64 (x23 + (1 : Int)))))]) (H' := [(n2, (.mem (e50 p0)))]) ⟨rfl, rfl, rfl, rfl, trivial⟩ (Sub.refl _) ?_
                      exact ⟨kq25, Nat.lt_succ_self _, (w64 (x23 + (1 : Int))), rfl, rfl, by rw [hrec24]; exact h⟩
                · have h := (if_neg hc27).symm.trans h
                  refine AW.condN (x23 < ((lget p0.f1 x10).length : Int)) rfl hc27 ?_
                  refine AW.exit (ρ' := [(1, (.ptr n2 0)), (3, (eI64 (p0.f1.length : Int))), (4, (eI64 x10))]) (H' := [(n2, (.mem (e50 p0)))]) ⟨rfl, rfl, rfl, trivial⟩ (Sub.refl _) ?_
                  exact ⟨rfl, rfl, h⟩
          · rintro _ _ ⟨rfl, rfl, h⟩
            rw [bosketref08_Right_c1.eq_1] at h
            refine AW.reg ?_
            refine AO.calm rfl 30 rfl (by decide) (eI64 x10) (Calm.move rfl rfl) ?_
            refine AO.calm rfl 31 rfl (by decide) (eI64 (w64 (x10 + (1 : Int)))) (Calm.int rfl rfl rfl rfl) ?_
            refine AO.calm rfl 4 rfl (by decide) (eI64 (w64 (x10 + (1 : Int)))) (Calm.assign rfl rfl) ?_
            refine AO.nil (ρ' := [(1, (.ptr n2 0)), (3, (eI64 (p0.f1.length : Int))), (4, (eI64 (w64 (x10 + (1 : Int)))))]) (H' := [(n2, (.mem (e50 p0)))]) ⟨rfl, rfl, rfl, trivial⟩ (Sub.refl _) ?_
            exact ⟨kq12, Nat.lt_succ_self _, (w64 (x10 + (1 : Int))), rfl, rfl, by rw [hrec11]; exact h⟩
        · have h := (if_neg hc13).symm.trans h
          refine AW.condN (x10 < (p0.f1.length : Int)) rfl hc13 ?_
          refine AW.exit (ρ' := []) (H' := []) trivial (Sub.nil _) ?_
          exact ⟨rfl, rfl, h⟩
      · rintro _ _ ⟨rfl, rfl, h⟩
        rw [bosketref08_Right_c0.eq_1] at h
        refine AW.seq ?_
        refine AW.reg ?_
        refine AO.calm rfl 2 rfl (by decide) (eBool true) (Calm.assign rfl rfl) ?_
        refine AO.nil (ρ' := [(2, (eBool true))]) (H' := []) ⟨rfl, trivial⟩ (Sub.refl _) ?_
        refine AW.ret (ρ' := [(2, (eBool true))]) (H' := []) ⟨rfl, trivial⟩ (Sub.refl _) ?_
        have hr := Option.some.inj h
        subst hr
        exact ⟨[(eBool true)], ⟨rfl, rfl, trivial⟩, rfl⟩
end Go.Avl.T3
/- bosket/byteset.Count; printed by avmain.py. -/
namespace Go.Avl.T3
open Go Go.RowKit Go.Proofs Go.Avl
set_option linter.unusedVariables false
set_option maxRecDepth 100000
set_option maxHeartbeats 4000000
attribute [local irreducible] AW AO AQ Spec SpecH Calm

def byteset_Count_c0 (k : Nat) (x3 : Int) : Option Int :=
  some (x3)
def byteset_Count_l1 (k : Nat) (p0 : (Vector Int 256)) : Nat → Int → Int → Option Int
  | 0, _, _ => none
  | j + 1, x4, x5 =>
    if x5 < (256 : Int) then if 0 ≤ x5 ∧ x5 < (256 : Int) then (byteset_Count_l1 k p0 j) (max x4 (w64 ((w64 (vget p0 x5)) + (1 : Int)))) (w64 (x5 + (1 : Int)))
    else none
    else byteset_Count_c0 k x4
def byteset_Count (k : Nat) (p0 : (Vector Int 256)) : Option Int :=
  byteset_Count_l1 k p0 k (0 : Int) (0 : Int)
theorem byteset_Count_spec {k : Nat} {p0 : (Vector Int 256)} {r : Int} (h : byteset_Count k p0 = some r) : Spec Try.prog 52 [(.ar 1 (p0.toList.map eU8))] (eI64 r) := by
  rw [byteset_Count.eq_1] at h
  refine Spec.intro (res := [.tmp 2]) Try.func52 rfl rfl rfl (Nat.le_of_ble_eq_true rfl) ?_
  refine AW.seq ?_
  refine AW.reg ?_
  refine AO.box rfl 1 rfl (by decide) rfl rfl rfl fun n2 => ?_
  refine AO.calm rfl 2 rfl (by decide) (eI64 (0 : Int)) (Calm.assign rfl rfl) ?_
  refine AO.nil (ρ' := [(1, (.ptr n2 0))]) (H' := [(n2, (.mem (.ar 1 (p0.toList.map eU8))))]) ⟨rfl, trivial⟩ (Sub.refl _) ?_
  refine AW.seq ?_
  refine AW.reg ?_
  refine AO.calm rfl 3 rfl (by decide) (eI64 (0 : Int)) (Calm.assign rfl rfl) ?_
  refine AO.nil (ρ' := [(1, (.ptr n2 0)), (3, (eI64 (0 : Int)))]) (H' := [(n2, (.mem (.ar 1 (p0.toList.map eU8))))]) ⟨rfl, rfl, trivial⟩ (Sub.refl _) ?_
  refine AW.seq_mid (fun ρ H => ∃ (x3 : Int), ρ = [(3, (eI64 x3))] ∧ H = [] ∧ byteset_Count_c0 k x3 = some r) ?_ ?_
  · refine AW.seq ?_
    refine AW.reg ?_
    refine AO.calm rfl 6 rfl (by decide) (.ar 1 (p0.toList.map eU8)) (Calm.load 0 rfl rfl rfl (At.cast At.here rfl) ag47 (by rw [sz47]; simp [AV.size])) ?_
    refine AO.calm rfl 7 rfl (by decide) (eI64 (0 : Int)) (Calm.move rfl rfl) ?_
    refine AO.nil (ρ' := [(3, (eI64 (0 : Int))), (6, (.ar 1 (p0.toList.map eU8))), (7, (eI64 (0 : Int)))]) (H' := []) ⟨rfl, rfl, rfl, trivial⟩ (Sub.nil _) ?_
    refine AW.block ?_
    refine AW.weak (ρ' := [(3, (eI64 (0 : Int))), (6, (.ar 1 (p0.toList.map eU8))), (7, (eI64 (0 : Int)))]) (H' := []) ⟨rfl, rfl, rfl, trivial⟩ (Sub.refl _) ?_
    refine AW.loop (fun kq ρ H => ∃ (x4 : Int) (x5 : Int), ρ = [(3, (eI64 x4)), (6, (.ar 1 (p0.toList.map eU8))), (7, (eI64 x5))] ∧ H = [] ∧ byteset_Count_l1 k p0 kq x4 x5 = some r) k ⟨(0 : Int), (0 : Int), rfl, rfl, h⟩ ?_
    rintro kq7 _ _ ⟨x4, x5, rfl, rfl, h⟩
    cases kq7 with
    | zero => rw [byteset_Count_l1.eq_1] at h; cases h
    | succ kq7 =>
    rw [byteset_Count_l1.eq_2] at h
    generalize hrec6 : byteset_Count_l1 k p0 kq7 = rec6 at h
    refine AW.seq ?_
    refine AW.reg ?_
    refine AO.calm rfl 8 rfl (by decide) (eBool (decide (x5 < (256 : Int)))) (Calm.int rfl rfl rfl rfl) ?_
    refine AO.nil (ρ' := [(3, (eI64 x4)), (6, (.ar 1 (p0.toList.map eU8))), (7, (eI64 x5)), (8, (eBool (decide (x5 < (256 : Int)))))]) (H' := []) ⟨rfl, rfl, rfl, rfl, trivial⟩ (Sub.refl _) ?_
    refine AW.seq ?_
    by_cases hc8 : x5 < (256 : Int)
    · have h := (if_pos hc8).symm.trans h
      refine AW.condP (x5 < (256 : Int)) rfl hc8 ?_
      refine AW.skip (ρ' := [(3, (eI64 x4)), (6, (.ar 1 (p0.toList.map eU8))), (7, (eI64 x5))]) (H' := []) ⟨rfl, rfl, rfl, trivial⟩ (Sub.refl _) ?_
      refine AW.seq ?_
      refine AW.block ?_
      refine AW.seq ?_
      refine AW.reg ?_
      obtain ⟨hg9, h⟩ := of_guard h
      refine AO.calm rfl 9 rfl (by decide) (eU8 (vget p0 x5)) (Calm.idxVv (f := eU8) rfl rfl rfl hg9 Try.underlying47 sz5 ag5 rfl) ?_
      refine AO.calm rfl 5 rfl (by decide) (eU8 (vget p0 x5)) (Calm.assign rfl rfl) ?_
      refine AO.nil (ρ' := [(3, (eI64 x4)), (5, (eU8 (vget p0 x5))), (6, (.ar 1 (p0.toList.map eU8))), (7, (eI64 x5))]) (H' := []) ⟨rfl, rfl, rfl, rfl, trivial⟩ (Sub.refl _) ?_
      refine AW.reg ?_
      refine AO.calm rfl 10 rfl (by decide) (eI64 x4) (Calm.move rfl rfl) ?_
      refine AO.calm rfl 11 rfl (by decide) (eU8 (vget p0 x5)) (Calm.move rfl rfl) ?_
      refine AO.calm rfl 12 rfl (by decide) (eI64 (w64 (vget p0 x5))) (Calm.conv rfl rfl Try.underlying5 Try.underlying3) ?_
      refine AO.calm rfl 13 rfl (by decide) (eI64 (w64 ((w64 (vget p0 x5)) + (1 : Int)))) (Calm.int rfl rfl rfl rfl) ?_
      refine AO.calm rfl 14 rfl (by decide) (eI64 (max x4 (w64 ((w64 (vget p0 x5)) + (1 : Int))))) (Calm.max2 rfl rfl rfl) ?_
      refine AO.calm rfl 3 rfl (by decide) (eI64 (max x4 (w64 ((w64 (vget p0 x5)) + (1 : Int))))) (Calm.assign rfl rfl) ?_
      refine AO.nil (ρ' := [(3, (eI64 (max x4 (w64 ((w64 (vget p0 x5)) + (1 : Int)))))), (6, (.ar 1 (p0.toList.map eU8))), (7, (eI64 x5))]) (H' := []) ⟨rfl, rfl, rfl, trivial⟩ (Sub.refl _) ?_
      refine AW.reg ?_
      refine AO.calm rfl 15 rfl (by decide) (eI64 (w64 (x5 + (1 : Int)))) (Calm.int rfl rfl rfl rfl) ?_
      refine AO.calm rfl 7 rfl (by decide) (eI64 (w64 (x5 + (1 : Int)))) (Calm.move rfl rfl) ?_
      refine AO.nil (ρ' := [(3, (eI64 (max x4 (w64 ((w64 (vget p0 x5)) + (1 : Int)))))), (6, (.ar 1 (p0.toList.map eU8))), (7, (eI64 (w64 (x5 + (1 : Int)))))]) (H' := []) ⟨rfl, rfl, rfl, trivial⟩ (Sub.refl _) ?_
      exact ⟨kq7, Nat.lt_succ_self _, (max x4 (w64 ((w64 (vget p0 x5)) + (1 : Int)))), (w64 (x5 + (1 : Int))), rfl, rfl, by rw [hrec6]; exact h⟩
    · have h := (if_neg hc8).symm.trans h
      refine AW.condN (x5 < (256 : Int)) rfl hc8 ?_
      refine AW.exit (ρ' := [(3, (eI64 x4))]) (H' := []) ⟨rfl, trivial⟩ (Sub.refl _) ?_
      exact ⟨x4, rfl, rfl, h⟩
  · rintro _ _ ⟨x3, rfl, rfl, h⟩
    rw [byteset_Count_c0.eq_1] at h
    refine AW.seq ?_
    refine AW.reg ?_
    refine AO.calm rfl 16 rfl (by decide) (eI64 x3) (Calm.move rfl rfl) ?_
    refine AO.calm rfl 2 rfl (by decide) (eI64 x3) (Calm.assign rfl rfl) ?_
    refine AO.nil (ρ' := [(2, (eI64 x3))]) (H' := []) ⟨rfl, trivial⟩ (Sub.refl _) ?_
    refine AW.ret (ρ' := [(2, (eI64 x3))]) (H' := []) ⟨rfl, trivial⟩ (Sub.refl _) ?_
    have hr := Option.some.inj h
    subst hr
    exact ⟨[(eI64 x3)], ⟨rfl, rfl, trivial⟩, rfl⟩
end Go.Avl.T3
/- bosket/dfa.gapless; printed by avmain.py. -/
namespace Go.Avl.T3
open Go Go.RowKit Go.Proofs Go.Avl
set_option linter.unusedVariables false
set_option maxRecDepth 100000
set_option maxHeartbeats 4000000
attribute [local irreducible] AW AO AQ Spec SpecH Calm

def dfa_gapless_c0 (k : Nat) : Option Bool :=
  some (true)
def dfa_gapless_l1 (k : Nat) (x6 : (List Bool)) : Nat → Int → Option Bool
  | 0, _ => none
  | j + 1, x7 =>
    if x7 < (x6.length : Int) then if 0 ≤ x7 ∧ x7 < (x6.length : Int) then if (!(lget x6 x7)) = true then some (false)
    else (dfa_gapless_l1 k x6 j) (w64 (x7 + (1 : Int)))
    else none
    else dfa_gapless_c0 k
def dfa_gapless_c2 (k : Nat) (x6 : (List Bool)) : Option Bool :=
  dfa_gapless_l1 k x6 k (0 : Int)
def dfa_gapless_l3 (k : Nat) (p0 : (Vector Int 256)) : Nat → (List Bool) → Int → Option Bool
  | 0, _, _ => none
  | j + 1, x13, x14 =>
    if x14 < (256 : Int) then if 0 ≤ x14 ∧ x14 < (256 : Int) then if 0 ≤ (vget p0 x14) ∧ (vget p0 x14) < (x13.length : Int) then (dfa_gapless_l3 k p0 j) (lset x13 (vget p0 x14) true) (w64 (x14 + (1 : Int)))
    else none
    else none
    else dfa_gapless_c2 k x13
def dfa_gapless (k : Nat) (p0 : (Vector Int 256)) (p1 : Int) : Option Bool :=
  if 0 ≤ p1 ∧ p1 * (1 : Int) ≤ 140737488355328 ∧ p1 ≤ 9223372036854775807 then dfa_gapless_l3 k p0 k (List.replicate p1.toNat false) (0 : Int)
  else none
theorem dfa_gapless_spec {k : Nat} {p0 : (Vector Int 256)} {p1 : Int} {r : Bool} (h : dfa_gapless k p0 p1 = some r) : Spec Try.prog 53 [(.ar 1 (p0.toList.map eU8)), (eI64 p1)] (eBool r) := by
  rw [dfa_gapless.eq_1] at h
  refine Spec.intro (res := [.tmp 4]) Try.func53 rfl rfl rfl (Nat.le_of_ble_eq_true rfl) ?_
  refine AW.seq ?_
  refine AW.reg ?_
  refine AO.box rfl 2 rfl (by decide) rfl rfl rfl fun n3 => ?_
  refine AO.calm rfl 4 rfl (by decide) (eBool false) (Calm.assign rfl rfl) ?_
  refine AO.nil (ρ' := [(1, (eI64 p1)), (2, (.ptr n3 0))]) (H' := [(n3, (.mem (.ar 1 (p0.toList.map eU8))))]) ⟨rfl, rfl, trivial⟩ (Sub.refl _) ?_
  refine AW.seq ?_
  refine AW.reg ?_
  refine AO.calm rfl 10 rfl (by decide) (eI64 p1) (Calm.move rfl rfl) ?_
  obtain ⟨hg5, h⟩ := of_guard h
  refine AO.makeL (f := eBool) false rfl 11 rfl (by decide) rfl rfl rfl Try.underlying25 sz4 by4 zr4 lay4 rfl hg5 fun n4 => ?_
  refine AO.calm rfl 5 rfl (by decide) (.own n4 0 (List.replicate p1.toNat false).length) (Calm.assign rfl rfl) ?_
  refine AO.nil (ρ' := [(2, (.ptr n3 0)), (5, (.own n4 0 (List.replicate p1.toNat false).length))]) (H' := [(n3, (.mem (.ar 1 (p0.toList.map eU8)))), (n4, (.mem (.ar 1 ((List.replicate p1.toNat false).map eBool))))]) ⟨rfl, rfl, trivial⟩ (Sub.cons 1 rfl (Sub.cons 0 rfl (Sub.nil _))) ?_
  refine AW.seq_mid (fun ρ H => ∃ (x6 : (List Bool)), ρ = [(5, (.own n4 0 x6.length))] ∧ H = [(n4, (.mem (.ar 1 (x6.map eBool))))] ∧ dfa_gapless_c2 k x6 = some r) ?_ ?_
  · refine AW.seq ?_
    refine AW.reg ?_
    refine AO.calm rfl 12 rfl (by decide) (.ar 1 (p0.toList.map eU8)) (Calm.load 0 rfl rfl rfl (At.cast At.here rfl) ag47 (by rw [sz47]; simp [AV.size])) ?_
    refine AO.calm rfl 13 rfl (by decide) (eI64 (0 : Int)) (Calm.move rfl rfl) ?_
    refine AO.nil (ρ' := [(5, (.own n4 0 (List.replicate p1.toNat false).length)), (12, (.ar 1 (p0.toList.map eU8))), (13, (eI64 (0 : Int)))]) (H' := [(n4, (.mem (.ar 1 ((List.replicate p1.toNat false).map eBool))))]) ⟨rfl, rfl, rfl, trivial⟩ (Sub.cons 1 rfl (Sub.nil _)) ?_
    refine AW.block ?_
    refine AW.weak (ρ' := [(5, (.own n4 0 (List.replicate p1.toNat false).length)), (12, (.ar 1 (p0.toList.map eU8))), (13, (eI64 (0 : Int)))]) (H' := [(n4, (.mem (.ar 1 ((List.replicate p1.toNat false).map eBool))))]) ⟨rfl, rfl, rfl, trivial⟩ (Sub.refl _) ?_
    refine AW.loop (fun kq ρ H => ∃ (x13 : (List Bool)) (x14 : Int), ρ = [(5, (.own n4 0 x13.length)), (12, (.ar 1 (p0.toList.map eU8))), (13, (eI64 x14))] ∧ H = [(n4, (.mem (.ar 1 (x13.map eBool))))] ∧ dfa_gapless_l3 k p0 kq x13 x14 = some r) k ⟨(List.replicate p1.toNat false), (0 : Int), rfl, rfl, h⟩ ?_
    rintro kq16 _ _ ⟨x13, x14, rfl, rfl, h⟩
    cases kq16 with
    | zero => rw [dfa_gapless_l3.eq_1] at h; cases h
    | succ kq16 =>
    rw [dfa_gapless_l3.eq_2] at h
    generalize hrec15 : dfa_gapless_l3 k p0 kq16 = rec15 at h
    refine AW.seq ?_
    refine AW.reg ?_
    refine AO.calm rfl 14 rfl (by decide) (eBool (decide (x14 < (256 : Int)))) (Calm.int rfl rfl rfl rfl) ?_
    refine AO.nil (ρ' := [(5, (.own n4 0 x13.length)), (12, (.ar 1 (p0.toList.map eU8))), (13, (eI64 x14)), (14, (eBool (decide (x14 < (256 : Int)))))]) (H' := [(n4, (.mem (.ar 1 (x13.map eBool))))]) ⟨rfl, rfl, rfl, rfl, trivial⟩ (Sub.refl _) ?_
    refine AW.seq ?_
    by_cases hc17 : x14 < (256 : Int)
    · have h := (if_pos hc17).symm.trans h
      refine AW.condP (x14 < (256 : Int)) rfl hc17 ?_
      refine AW.skip (ρ' := [(5, (.own n4 0 x13.length)), (12, (.ar 1 (p0.toList.map eU8))), (13, (eI64 x14))]) (H' := [(n4, (.mem (.ar 1 (x13.map eBool))))]) ⟨rfl, rfl, rfl, trivial⟩ (Sub.refl _) ?_
      refine AW.seq ?_
      refine AW.block ?_
      refine AW.seq ?_
      refine AW.reg ?_
      obtain ⟨hg18, h⟩ := of_guard h
      refine AO.calm rfl 15 rfl (by decide) (eU8 (vget p0 x14)) (Calm.idxVv (f := eU8) rfl rfl rfl hg18 Try.underlying47 sz5 ag5 rfl) ?_
      refine AO.calm rfl 7 rfl (by decide) (eU8 (vget p0 x14)) (Calm.assign rfl rfl) ?_
      refine AO.nil (ρ' := [(5, (.own n4 0 x13.length)), (7, (eU8 (vget p0 x14))), (12, (.ar 1 (p0.toList.map eU8))), (13, (eI64 x14))]) (H' := [(n4, (.mem (.ar 1 (x13.map eBool))))]) ⟨rfl, rfl, rfl, rfl, trivial⟩ (Sub.refl _) ?_
      refine AW.reg ?_
      refine AO.calm rfl 16 rfl (by decide) (.own n4 0 x13.length) (Calm.move rfl rfl) ?_
      refine AO.calm rfl 17 rfl (by decide) (eU8 (vget p0 x14)) (Calm.move rfl rfl) ?_
      obtain ⟨hg19, h⟩ := of_guard h
      refine AO.calm rfl 18 rfl (by decide) (.ptr n4 ((vget p0 x14).toNat * 1 + 0)) (Calm.idxO 0 rfl rfl rfl rfl hg19 Try.underlying25 sz4) ?_
      refine AO.store (X' := (.ar 1 ((lset x13 (vget p0 x14) true).map eBool))) 0 rfl rfl rfl rfl rfl rfl (Put.cast (Put.lidx (vget p0 x14) true hg19.1 hg19.2 Put.here) (by omega)) rfl rfl sz4 rfl ?_
      refine AO.coe 5 (y' := (.own n4 0 (lset x13 (vget p0 x14) true).length)) rfl (fun _ _ h => lset_own h) ?_
      refine AO.coe 16 (y' := (.own n4 0 (lset x13 (vget p0 x14) true).length)) rfl (fun _ _ h => lset_own h) ?_
      refine AO.nil (ρ' := [(5, (.own n4 0 (lset x13 (vget p0 x14) true).length)), (12, (.ar 1 (p0.toList.map eU8))), (13, (eI64 x14))]) (H' := [(n4, (.mem (.ar 1 ((lset x13 (vget p0 x14) true).map eBool))))]) ⟨rfl, rfl, rfl, trivial⟩ (Sub.refl _) ?_
      refine AW.reg ?_
      refine AO.calm rfl 19 rfl (by decide) (eI64 (w64 (x14 + (1 : Int)))) (Calm.int rfl rfl rfl rfl) ?_
      refine AO.calm rfl 13 rfl (by decide) (eI64 (w64 (x14 + (1 : Int)))) (Calm.move rfl rfl) ?_
      refine AO.nil (ρ' := [(5, (.own n4 0 (lset x13 (vget p0 x14) true).length)), (12, (.ar 1 (p0.toList.map eU8))), (13, (eI64 (w64 (x14 + (1 : Int)))))]) (H' := [(n4, (.mem (.ar 1 ((lset x13 (vget p0 x14) true).map eBool))))]) ⟨rfl, rfl, rfl, trivial⟩ (Sub.refl _) ?_
      exact ⟨kq16, Nat.lt_succ_self _, (lset x13 (vget p0 x14) true), (w64 (x14 + (1 : Int))), rfl, rfl, by rw [hrec15]; exact h⟩
    · have h := (if_neg hc17).symm.trans h
      refine AW.condN (x14 < (256 : Int)) rfl hc17 ?_
      refine AW.exit (ρ' := [(5, (.own n4 0 x13.length))]) (H' := [(n4, (.mem (.ar 1 (x13.map eBool))))]) ⟨rfl, trivial⟩ (Sub.refl _) ?_
      exact ⟨x13, rfl, rfl, h⟩
  · rintro _ _ ⟨x6, rfl, rfl, h⟩
    rw [dfa_gapless_c2.eq_1] at h
    refine AW.seq_mid (fun ρ H => ρ = [] ∧ H = [] ∧ dfa_gapless_c0 k = some r) ?_ ?_
    · refine AW.seq ?_
      refine AW.reg ?_
      refine AO.calm rfl 20 rfl (by decide) (.own n4 0 x6.length) (Calm.move rfl rfl) ?_
      refine AO.calm rfl 21 rfl (by decide) (eI64 (x6.length : Int)) (Calm.lenOwn rfl rfl Try.underlying25) ?_
      refine AO.calm rfl 22 rfl (by decide) (eI64 (0 : Int)) (Calm.move rfl rfl) ?_
      refine AO.nil (ρ' := [(20, (.own n4 0 x6.length)), (21, (eI64 (x6.length : Int))), (22, (eI64 (0 : Int)))]) (H' := [(n4, (.mem (.ar 1 (x6.map eBool))))]) ⟨rfl, rfl, rfl, trivial⟩ (Sub.refl _) ?_
      refine AW.block ?_
      refine AW.weak (ρ' := [(20, (.own n4 0 x6.length)), (21, (eI64 (x6.length : Int))), (22, (eI64 (0 : Int)))]) (H' := [(n4, (.mem (.ar 1 (x6.map eBool))))]) ⟨rfl, rfl, rfl, trivial⟩ (Sub.refl _) ?_
      refine AW.loop (fun kq ρ H => ∃ (x7 : Int), ρ = [(20, (.own n4 0 x6.length)), (21, (eI64 (x6.length : Int))), (22, (eI64 x7))] ∧ H = [(n4, (.mem (.ar 1 (x6.map eBool))))] ∧ dfa_gapless_l1 k x6 kq x7 = some r) k ⟨(0 : Int), rfl, rfl, h⟩ ?_
      rintro kq9 _ _ ⟨x7, rfl, rfl, h⟩
      cases kq9 with
      | zero => rw [dfa_gapless_l1.eq_1] at h; cases h
      | succ kq9 =>
      rw [dfa_gapless_l1.eq_2] at h
      generalize hrec8 : dfa_gapless_l1 k x6 kq9 = rec8 at h
      refine AW.seq ?_
      refine AW.reg ?_
      refine AO.calm rfl 23 rfl (by decide) (eBool (decide (x7 < (x6.length : Int)))) (Calm.int rfl rfl rfl rfl) ?_
      refine AO.nil (ρ' := [(20, (.own n4 0 x6.length)), (21, (eI64 (x6.length : Int))), (22, (eI64 x7)), (23, (eBool (decide (x7 < (x6.length : Int)))))]) (H' := [(n4, (.mem (.ar 1 (x6.map eBool))))]) ⟨rfl, rfl, rfl, rfl, trivial⟩ (Sub.refl _) ?_
      refine AW.seq ?_
      by_cases hc10 : x7 < (x6.length : Int)
      · have h := (if_pos hc10).symm.trans h
        refine AW.condP (x7 < (x6.length : Int)) rfl hc10 ?_
        refine AW.skip (ρ' := [(20, (.own n4 0 x6.length)), (21, (eI64 (x6.length : Int))), (22, (eI64 x7))]) (H' := [(n4, (.mem (.ar 1 (x6.map eBool))))]) ⟨rfl, rfl, rfl, trivial⟩ (Sub.refl _) ?_
        refine AW.seq ?_
        refine AW.block ?_
        refine AW.seq ?_
        refine AW.reg ?_
        obtain ⟨hg11, h⟩ := of_guard h
        refine AO.calm rfl 24 rfl (by decide) (.ptr n4 (x7.toNat * 1 + 0)) (Calm.idxO 0 rfl rfl rfl rfl hg11 Try.underlying25 sz4) ?_
        refine AO.calm rfl 25 rfl (by decide) (eBool (lget x6 x7)) (Calm.load 0 rfl rfl rfl (At.cast (At.lidx x7 hg11.1 hg11.2 At.here) (by omega)) ag4 sz4) ?_
        refine AO.calm rfl 9 rfl (by decide) (eBool (lget x6 x7)) (Calm.assign rfl rfl) ?_
        refine AO.nil (ρ' := [(9, (eBool (lget x6 x7))), (20, (.own n4 0 x6.length)), (21, (eI64 (x6.length : Int))), (22, (eI64 x7))]) (H' := [(n4, (.mem (.ar 1 (x6.map eBool))))]) ⟨rfl, rfl, rfl, rfl, trivial⟩ (Sub.refl _) ?_
        refine AW.seq ?_
        refine AW.reg ?_
        refine AO.calm rfl 26 rfl (by decide) (eBool (lget x6 x7)) (Calm.move rfl rfl) ?_
        refine AO.calm rfl 27 rfl (by decide) (eBool (!(lget x6 x7))) (Calm.not rfl rfl) ?_
        refine AO.nil (ρ' := [(20, (.own n4 0 x6.length)), (21, (eI64 (x6.length : Int))), (22, (eI64 x7)), (27, (eBool (!(lget x6 x7))))]) (H' := [(n4, (.mem (.ar 1 (x6.map eBool))))]) ⟨rfl, rfl, rfl, rfl, trivial⟩ (Sub.refl _) ?_
        by_cases hc12 : (!(lget x6 x7)) = true
        · have h := (if_pos hc12).symm.trans h
          refine AW.condT' (!(lget x6 x7)) rfl hc12 ?_
          refine AW.seq ?_
          refine AW.reg ?_
          refine AO.calm rfl 4 rfl (by decide) (eBool false) (Calm.assign rfl rfl) ?_
          refine AO.nil (ρ' := [(4, (eBool false))]) (H' := []) ⟨rfl, trivial⟩ (Sub.nil _) ?_
          refine AW.ret (ρ' := [(4, (eBool false))]) (H' := []) ⟨rfl, trivial⟩ (Sub.refl _) ?_
          have hr := Option.some.inj h
          subst hr
          exact ⟨[(eBool false)], ⟨rfl, rfl, trivial⟩, rfl⟩
        · have h := (if_neg hc12).symm.trans h
          refine AW.condF' (!(lget x6 x7)) rfl hc12 ?_
          refine AW.skip (ρ' := [(20, (.own n4 0 x6.length)), (21, (eI64 (x6.length : Int))), (22, (eI64 x7))]) (H' := [(n4, (.mem (.ar 1 (x6.map eBool))))]) ⟨rfl, rfl, rfl, trivial⟩ (Sub.refl _) ?_
          refine AW.reg ?_
          refine AO.calm rfl 28 rfl (by decide) (eI64 (w64 (x7 + (1 : Int)))) (Calm.int rfl rfl rfl rfl) ?_
          refine AO.calm rfl 22 rfl (by decide) (eI64 (w64 (x7 + (1 : Int)))) (Calm.move rfl rfl) ?_
          refine AO.nil (ρ' := [(20, (.own n4 0 x6.length)), (21, (eI64 (x6.length : Int))), (22, (eI64 (w64 (x7 + (1 : Int)))))]) (H' := [(n4, (.mem (.ar 1 (x6.map eBool))))]) ⟨rfl, rfl, rfl, trivial⟩ (Sub.refl _) ?_
          exact ⟨kq9, Nat.lt_succ_self _, (w64 (x7 + (1 : Int))), rfl, rfl, by rw [hrec8]; exact h⟩
      · have h := (if_neg hc10).symm.trans h
        refine AW.condN (x7 < (x6.length : Int)) rfl hc10 ?_
        refine AW.exit (ρ' := []) (H' := []) trivial (Sub.nil _) ?_
        exact ⟨rfl, rfl, h⟩
    · rintro _ _ ⟨rfl, rfl, h⟩
      rw [dfa_gapless_c0.eq_1] at h
      refine AW.seq ?_
      refine AW.reg ?_
      refine AO.calm rfl 4 rfl (by decide) (eBool true) (Calm.assign rfl rfl) ?_
      refine AO.nil (ρ' := [(4, (eBool true))]) (H' := []) ⟨rfl, trivial⟩ (Sub.refl _) ?_
      refine AW.ret (ρ' := [(4, (eBool true))]) (H' := []) ⟨rfl, trivial⟩ (Sub.refl _) ?_
      have hr := Option.some.inj h
      subst hr
      exact ⟨[(eBool true)], ⟨rfl, rfl, trivial⟩, rfl⟩
end Go.Avl.T3
