/- bosket/bosketlaw08.Small; printed by avmain.py. -/
import Derived.Test.YthfongdjcpmpfaaAB
namespace Go.Avl.T1
open Go Go.RowKit Go.Proofs Go.Avl
set_option linter.unusedVariables false
set_option maxRecDepth 100000
set_option maxHeartbeats 4000000
attribute [local irreducible] AW AO AQ Spec SpecH Calm

def bosketlaw08_Small_c0 (k : Nat) : Option Bool :=
  some (true)
def bosketlaw08_Small_l1 (k : Nat) (p0 : S26) : Nat → Int → Option Bool
  | 0, _ => none
  | j + 1, x7 =>
    if x7 < (p0.f1.length : Int) then if 0 ≤ x7 ∧ x7 < (p0.f1.length : Int) then if (256 : Int) < ((lget p0.f1 x7).length : Int) then some (false)
    else (bosketlaw08_Small_l1 k p0 j) (w64 (x7 + (1 : Int)))
    else none
    else bosketlaw08_Small_c0 k
def bosketlaw08_Small (k : Nat) (p0 : S26) : Option Bool :=
  Option.bind (α := Bool) (if (20 : Int) < (p0.f1.length : Int) then some (true)
  else some (decide ((30 : Int) < (p0.f2.length : Int)))) fun b3 =>
  if b3 = true then some (false)
  else bosketlaw08_Small_l1 k p0 k (0 : Int)
theorem bosketlaw08_Small_spec {k : Nat} {p0 : S26} {r : Bool} (h : bosketlaw08_Small k p0 = some r) : Spec Try.prog 13 [(e26 p0)] (eBool r) := by
  rw [bosketlaw08_Small.eq_1] at h
  refine Spec.intro (res := [.tmp 2]) Try.func13 rfl rfl rfl (Nat.le_of_ble_eq_true rfl) ?_
  refine AW.seq ?_
  refine AW.reg ?_
  refine AO.box rfl 1 rfl (by decide) rfl rfl rfl fun n2 => ?_
  refine AO.calm rfl 2 rfl (by decide) (eBool false) (Calm.assign rfl rfl) ?_
  refine AO.nil (ρ' := [(1, (.ptr n2 0))]) (H' := [(n2, .mem (e26 p0))]) ⟨rfl, trivial⟩ (Sub.refl _) ?_
  refine AW.seq ?_
  refine AW.seq ?_
  obtain ⟨b3, hq4, h⟩ := of_bind h
  refine AW.regM [(1, (.ptr n2 0)), (13, (eBool b3))] [(n2, .mem (e26 p0))] ?_ ?_
  · refine AO.calm rfl 4 rfl (by decide) (.ptr n2 256) (Calm.fldPtr rfl rfl Try.underlying26 rfl sz23 _ rfl) ?_
    refine AO.calm rfl 5 rfl (by decide) (.fz 1 (p0.f1.map e24)) (Calm.load 0 rfl rfl rfl (At.cast (At.fldS (At.fld0 At.here)) rfl) ag23 sz23) ?_
    refine AO.calm rfl 6 rfl (by decide) (eI64 (p0.f1.length : Int)) (Calm.lenL rfl rfl Try.underlying23) ?_
    refine AO.calm rfl 7 rfl (by decide) (eBool (decide ((20 : Int) < (p0.f1.length : Int)))) (Calm.int rfl rfl rfl rfl) ?_
    refine AO.calm rfl 8 rfl (by decide) (eBool (decide ((20 : Int) < (p0.f1.length : Int)))) (Calm.move rfl rfl) ?_
    by_cases hc5 : (20 : Int) < (p0.f1.length : Int)
    · have hq4 := (if_pos hc5).symm.trans hq4
      refine AO.skipG 4 true 8 rfl rfl (congrArg (fun b => some (AV.fl (Value.bool b))) (decide_eq_true hc5)) 9 rfl (by decide) ?_
      refine AO.skipG 4 true 8 rfl rfl (congrArg (fun b => some (AV.fl (Value.bool b))) (decide_eq_true hc5)) 10 rfl (by decide) ?_
      refine AO.skipG 4 true 8 rfl rfl (congrArg (fun b => some (AV.fl (Value.bool b))) (decide_eq_true hc5)) 11 rfl (by decide) ?_
      refine AO.skipG 4 true 8 rfl rfl (congrArg (fun b => some (AV.fl (Value.bool b))) (decide_eq_true hc5)) 12 rfl (by decide) ?_
      refine AO.calm rfl 13 rfl (by decide) (eBool true) (Calm.pickT rfl (congrArg (fun b => some (AV.fl (Value.bool b))) (decide_eq_true hc5)) rfl) ?_
      cases hq4
      refine AO.nilE ⟨rfl, rfl⟩ ?_ ?_
      · exact ⟨rfl, rfl, trivial⟩
      · exact (Sub.refl _)
    · have hq4 := (if_neg hc5).symm.trans hq4
      refine AO.calmG 4 false 8 rfl rfl (congrArg (fun b => some (AV.fl (Value.bool b))) (decide_eq_false hc5)) 9 rfl (by decide) (.ptr n2 257) (Calm.fldPtr rfl rfl Try.underlying26 rfl sz24 _ rfl) ?_
      refine AO.calmG 4 false 8 rfl rfl (congrArg (fun b => some (AV.fl (Value.bool b))) (decide_eq_false hc5)) 10 rfl (by decide) (.fz 1 (p0.f2.map eI64)) (Calm.load 0 rfl rfl rfl (At.cast (At.fldS (At.fldS (At.fld0 At.here))) rfl) ag24 sz24) ?_
      refine AO.calmG 4 false 8 rfl rfl (congrArg (fun b => some (AV.fl (Value.bool b))) (decide_eq_false hc5)) 11 rfl (by decide) (eI64 (p0.f2.length : Int)) (Calm.lenL rfl rfl Try.underlying24) ?_
      refine AO.calmG 4 false 8 rfl rfl (congrArg (fun b => some (AV.fl (Value.bool b))) (decide_eq_false hc5)) 12 rfl (by decide) (eBool (decide ((30 : Int) < (p0.f2.length : Int)))) (Calm.int rfl rfl rfl rfl) ?_
      refine AO.calm rfl 13 rfl (by decide) (eBool (decide ((30 : Int) < (p0.f2.length : Int)))) (Calm.pickF rfl (congrArg (fun b => some (AV.fl (Value.bool b))) (decide_eq_false hc5)) rfl) ?_
      cases hq4
      refine AO.nilE ⟨rfl, rfl⟩ ?_ ?_
      · exact ⟨rfl, rfl, trivial⟩
      · exact (Sub.refl _)
  · by_cases hc6 : b3 = true
    · have h := (if_pos hc6).symm.trans h
      refine AW.condT' b3 rfl hc6 ?_
      refine AW.seq ?_
      refine AW.reg ?_
      refine AO.calm rfl 2 rfl (by decide) (eBool false) (Calm.assign rfl rfl) ?_
      refine AO.nil (ρ' := [(2, (eBool false))]) (H' := []) ⟨rfl, trivial⟩ (Sub.nil _) ?_
      refine AW.ret (ρ' := [(2, (eBool false))]) (H' := []) ⟨rfl, trivial⟩ (Sub.refl _) ?_
      have hr := Option.some.inj h
      subst hr
      exact ⟨[(eBool false)], ⟨rfl, rfl, trivial⟩, rfl⟩
    · have h := (if_neg hc6).symm.trans h
      refine AW.condF' b3 rfl hc6 ?_
      refine AW.skip (ρ' := [(1, (.ptr n2 0))]) (H' := [(n2, .mem (e26 p0))]) ⟨rfl, trivial⟩ (Sub.refl _) ?_
      refine AW.seq_mid (fun ρ H => ρ = [] ∧ H = [] ∧ bosketlaw08_Small_c0 k = some r) ?_ ?_
      · refine AW.seq ?_
        refine AW.reg ?_
        refine AO.calm rfl 3 rfl (by decide) (eI64 (0 : Int)) (Calm.assign rfl rfl) ?_
        refine AO.nil (ρ' := [(1, (.ptr n2 0)), (3, (eI64 (0 : Int)))]) (H' := [(n2, .mem (e26 p0))]) ⟨rfl, rfl, trivial⟩ (Sub.refl _) ?_
        refine AW.block ?_
        refine AW.weak (ρ' := [(1, (.ptr n2 0)), (3, (eI64 (0 : Int)))]) (H' := [(n2, .mem (e26 p0))]) ⟨rfl, rfl, trivial⟩ (Sub.refl _) ?_
        refine AW.loop (fun kq ρ H => ∃ (x7 : Int), ρ = [(1, (.ptr n2 0)), (3, (eI64 x7))] ∧ H = [(n2, .mem (e26 p0))] ∧ bosketlaw08_Small_l1 k p0 kq x7 = some r) k ⟨(0 : Int), rfl, rfl, h⟩ ?_
        rintro kq9 _ _ ⟨x7, rfl, rfl, h⟩
        cases kq9 with
        | zero => rw [bosketlaw08_Small_l1.eq_1] at h; cases h
        | succ kq9 =>
        rw [bosketlaw08_Small_l1.eq_2] at h
        generalize hrec8 : bosketlaw08_Small_l1 k p0 kq9 = rec8 at h
        refine AW.seq ?_
        refine AW.seq ?_
        refine AW.reg ?_
        refine AO.calm rfl 14 rfl (by decide) (eI64 x7) (Calm.move rfl rfl) ?_
        refine AO.calm rfl 15 rfl (by decide) (.ptr n2 256) (Calm.fldPtr rfl rfl Try.underlying26 rfl sz23 _ rfl) ?_
        refine AO.calm rfl 16 rfl (by decide) (.fz 1 (p0.f1.map e24)) (Calm.load 0 rfl rfl rfl (At.cast (At.fldS (At.fld0 At.here)) rfl) ag23 sz23) ?_
        refine AO.calm rfl 17 rfl (by decide) (eI64 (p0.f1.length : Int)) (Calm.lenL rfl rfl Try.underlying23) ?_
        refine AO.calm rfl 18 rfl (by decide) (eBool (decide (x7 < (p0.f1.length : Int)))) (Calm.int rfl rfl rfl rfl) ?_
        refine AO.nil (ρ' := [(1, (.ptr n2 0)), (3, (eI64 x7)), (18, (eBool (decide (x7 < (p0.f1.length : Int)))))]) (H' := [(n2, .mem (e26 p0))]) ⟨rfl, rfl, rfl, trivial⟩ (Sub.refl _) ?_
        by_cases hc10 : x7 < (p0.f1.length : Int)
        · have h := (if_pos hc10).symm.trans h
          refine AW.condP (x7 < (p0.f1.length : Int)) rfl hc10 ?_
          refine AW.skip (ρ' := [(1, (.ptr n2 0)), (3, (eI64 x7))]) (H' := [(n2, .mem (e26 p0))]) ⟨rfl, rfl, trivial⟩ (Sub.refl _) ?_
          refine AW.seq ?_
          refine AW.block ?_
          refine AW.seq ?_
          refine AW.reg ?_
          refine AO.calm rfl 21 rfl (by decide) (.ptr n2 256) (Calm.fldPtr rfl rfl Try.underlying26 rfl sz23 _ rfl) ?_
          refine AO.calm rfl 22 rfl (by decide) (.fz 1 (p0.f1.map e24)) (Calm.load 0 rfl rfl rfl (At.cast (At.fldS (At.fld0 At.here)) rfl) ag23 sz23) ?_
          refine AO.calm rfl 23 rfl (by decide) (eI64 x7) (Calm.move rfl rfl) ?_
          obtain ⟨hg11, h⟩ := of_guard h
          refine AO.calm rfl 24 rfl (by decide) (.rp (.fz 1 ((lget p0.f1 x7).map eI64))) (Calm.idxL (f := e24) rfl rfl rfl hg11 Try.underlying23 sz24) ?_
          refine AO.calm rfl 25 rfl (by decide) (.fz 1 ((lget p0.f1 x7).map eI64)) (Calm.loadRp rfl rfl ag24 sz24) ?_
          refine AO.calm rfl 26 rfl (by decide) (eI64 ((lget p0.f1 x7).length : Int)) (Calm.lenL rfl rfl Try.underlying24) ?_
          refine AO.calm rfl 27 rfl (by decide) (eBool (decide ((256 : Int) < ((lget p0.f1 x7).length : Int)))) (Calm.int rfl rfl rfl rfl) ?_
          refine AO.nil (ρ' := [(1, (.ptr n2 0)), (3, (eI64 x7)), (27, (eBool (decide ((256 : Int) < ((lget p0.f1 x7).length : Int)))))]) (H' := [(n2, .mem (e26 p0))]) ⟨rfl, rfl, rfl, trivial⟩ (Sub.refl _) ?_
          by_cases hc12 : (256 : Int) < ((lget p0.f1 x7).length : Int)
          · have h := (if_pos hc12).symm.trans h
            refine AW.condP ((256 : Int) < ((lget p0.f1 x7).length : Int)) rfl hc12 ?_
            refine AW.seq ?_
            refine AW.reg ?_
            refine AO.calm rfl 2 rfl (by decide) (eBool false) (Calm.assign rfl rfl) ?_
            refine AO.nil (ρ' := [(2, (eBool false))]) (H' := []) ⟨rfl, trivial⟩ (Sub.nil _) ?_
            refine AW.ret (ρ' := [(2, (eBool false))]) (H' := []) ⟨rfl, trivial⟩ (Sub.refl _) ?_
            have hr := Option.some.inj h
            subst hr
            exact ⟨[(eBool false)], ⟨rfl, rfl, trivial⟩, rfl⟩
          · have h := (if_neg hc12).symm.trans h
            refine AW.condN ((256 : Int) < ((lget p0.f1 x7).length : Int)) rfl hc12 ?_
            refine AW.skip (ρ' := [(1, (.ptr n2 0)), (3, (eI64 x7))]) (H' := [(n2, .mem (e26 p0))]) ⟨rfl, rfl, trivial⟩ (Sub.refl _) ?_
            refine AW.reg ?_
            refine AO.calm rfl 19 rfl (by decide) (eI64 x7) (Calm.move rfl rfl) ?_
            refine AO.calm rfl 20 rfl (by decide) (eI64 (w64 (x7 + (1 : Int)))) (Calm.int rfl rfl rfl rfl) ?_
            refine AO.calm rfl 3 rfl (by decide) (eI64 (w64 (x7 + (1 : Int)))) (Calm.assign rfl rfl) ?_
            refine AO.nil (ρ' := [(1, (.ptr n2 0)), (3, (eI64 (w64 (x7 + (1 : Int)))))]) (H' := [(n2, .mem (e26 p0))]) ⟨rfl, rfl, trivial⟩ (Sub.refl _) ?_
            exact ⟨kq9, Nat.lt_succ_self _, (w64 (x7 + (1 : Int))), rfl, rfl, by rw [hrec8]; exact h⟩
        · have h := (if_neg hc10).symm.trans h
          refine AW.condN (x7 < (p0.f1.length : Int)) rfl hc10 ?_
          refine AW.exit (ρ' := []) (H' := []) trivial (Sub.nil _) ?_
          exact ⟨rfl, rfl, h⟩
      · rintro _ _ ⟨rfl, rfl, h⟩
        rw [bosketlaw08_Small_c0.eq_1] at h
        refine AW.seq ?_
        refine AW.reg ?_
        refine AO.calm rfl 2 rfl (by decide) (eBool true) (Calm.assign rfl rfl) ?_
        refine AO.nil (ρ' := [(2, (eBool true))]) (H' := []) ⟨rfl, trivial⟩ (Sub.refl _) ?_
        refine AW.ret (ρ' := [(2, (eBool true))]) (H' := []) ⟨rfl, trivial⟩ (Sub.refl _) ?_
        have hr := Option.some.inj h
        subst hr
        exact ⟨[(eBool true)], ⟨rfl, rfl, trivial⟩, rfl⟩
end Go.Avl.T1
