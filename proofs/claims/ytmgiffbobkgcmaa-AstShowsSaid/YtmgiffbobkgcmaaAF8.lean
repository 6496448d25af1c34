/- Parts: T2f5. -/
import Derived.Test.YtmgiffbobkgcmaaAF1
import Derived.Test.YtmgiffbobkgcmaaAF7
import Derived.Test.YtmgiffbobkgcmaaAF2
import Derived.Test.YtmgiffbobkgcmaaAF5
import Derived.Test.YtmgiffbobkgcmaaAF6
/- bosket/bosketlaw31.AstShows; printed by avmain.py. -/
namespace Go.Avl.T2
open Go Go.RowKit Go.Proofs Go.Avl
set_option linter.unusedVariables false
set_option maxRecDepth 100000
set_option maxHeartbeats 4000000
attribute [local irreducible] AW AO AQ Spec SpecH Calm

def bosketlaw31_AstShows_c0 (k : Nat) (t11 : ((List S43) × Bool)) (x13 : (List S43)) : Option Bool :=
  Option.bind (α := Bool) (if t11.2 = true then (bosketref31_Same k t11.1 x13).bind fun t17 =>
  some (t17)
  else some (false)) fun b14 =>
  some (b14)
def bosketlaw31_AstShows_c1 (k : Nat) (rec21 : ((List S43) → Int → Option Bool)) (p0 : (List S43)) (x19 : (List S43)) (x20 : Int) (x26 : ByteArray) : Option Bool :=
  if (x19 ++ ([(S43.mk ((lget p0 x20).f0) ((lget p0 x20).f1) ((lget p0 x20).f2) x26)] : List S43)).length * 40 ≤ 140737488355328 then rec21 (x19 ++ ([(S43.mk ((lget p0 x20).f0) ((lget p0 x20).f1) ((lget p0 x20).f2) x26)] : List S43)) (w64 (x20 + (1 : Int)))
  else none
def bosketlaw31_AstShows_l2 (k : Nat) (p0 : (List S43)) (t11 : ((List S43) × Bool)) : Nat → (List S43) → Int → Option Bool
  | 0, _, _ => none
  | j + 1, x19, x20 =>
    if x20 < (p0.length : Int) then if 0 ≤ x20 ∧ x20 < (p0.length : Int) then if (!((lget p0 x20).f0)) = true then bosketlaw31_AstShows_c1 k (bosketlaw31_AstShows_l2 k p0 t11 j) p0 x19 x20 (ByteArray.mk #[])
    else bosketlaw31_AstShows_c1 k (bosketlaw31_AstShows_l2 k p0 t11 j) p0 x19 x20 ((lget p0 x20).f3)
    else none
    else bosketlaw31_AstShows_c0 k t11 x19
def bosketlaw31_AstShows (k : Nat) (p0 : (List S43)) : Option Bool :=
  (bosketlaw31_awake k).bind fun t2 =>
  if (!t2) = true then some (false)
  else (bosketlaw31_Few k p0).bind fun t4 =>
  if (!t4) = true then some (true)
  else (ast_Show k p0).bind fun t6 =>
  (bosketref31_Right k p0).bind fun t7 =>
  if (!t7) = true then some (decide (t6 = (ByteArray.mk #[])))
  else (bosketref31_Show k p0).bind fun t9 =>
  if t6 ≠ t9 then some (false)
  else (ast_Read k t6).bind fun t11 =>
  bosketlaw31_AstShows_l2 k p0 t11 k [] (0 : Int)
theorem bosketlaw31_AstShows_spec {k : Nat} {p0 : (List S43)} {r : Bool} (h : bosketlaw31_AstShows k p0 = some r) : Spec Try.prog 5 [(.fz 4 (p0.map e43))] (eBool r) := by
  rw [bosketlaw31_AstShows.eq_1] at h
  refine Spec.intro (res := [.tmp 2]) Try.func5 rfl rfl rfl (Nat.le_of_ble_eq_true rfl) ?_
  refine AW.seq ?_
  refine AW.reg ?_
  refine AO.calm rfl 2 rfl (by decide) (eBool false) (Calm.assign rfl rfl) ?_
  refine AO.nil (ρ' := [(0, (.fz 4 (p0.map e43)))]) (H' := []) ⟨rfl, trivial⟩ (Sub.refl _) ?_
  refine AW.seq ?_
  refine AW.seq ?_
  refine AW.reg ?_
  obtain ⟨t2, et2, h⟩ := of_bind h
  refine AO.callS [] (eBool t2) 9 rfl (by decide) ok21 rfl rfl rfl trivial (bosketlaw31_awake_spec et2) ?_
  refine AO.calm rfl 10 rfl (by decide) (eBool (!t2)) (Calm.not rfl rfl) ?_
  refine AO.nil (ρ' := [(0, (.fz 4 (p0.map e43))), (10, (eBool (!t2)))]) (H' := []) ⟨rfl, rfl, trivial⟩ (Sub.refl _) ?_
  by_cases hc3 : (!t2) = true
  · have h := (if_pos hc3).symm.trans h
    refine AW.condT' (!t2) rfl hc3 ?_
    refine AW.seq ?_
    refine AW.reg ?_
    refine AO.calm rfl 2 rfl (by decide) (eBool false) (Calm.assign rfl rfl) ?_
    refine AO.nil (ρ' := [(2, (eBool false))]) (H' := []) ⟨rfl, trivial⟩ (Sub.refl _) ?_
    refine AW.ret (ρ' := [(2, (eBool false))]) (H' := []) ⟨rfl, trivial⟩ (Sub.refl _) ?_
    have hr := Option.some.inj h
    subst hr
    exact ⟨[(eBool false)], ⟨rfl, rfl, trivial⟩, rfl⟩
  · have h := (if_neg hc3).symm.trans h
    refine AW.condF' (!t2) rfl hc3 ?_
    refine AW.skip (ρ' := [(0, (.fz 4 (p0.map e43)))]) (H' := []) ⟨rfl, trivial⟩ (Sub.refl _) ?_
    refine AW.seq ?_
    refine AW.seq ?_
    refine AW.reg ?_
    refine AO.calm rfl 11 rfl (by decide) (.fz 4 (p0.map e43)) (Calm.move rfl rfl) ?_
    obtain ⟨t4, et4, h⟩ := of_bind h
    refine AO.callS [(.fz 4 (p0.map e43))] (eBool t4) 12 rfl (by decide) ok22 rfl rfl rfl ⟨rfl, rfl, trivial⟩ (bosketlaw31_Few_spec et4) ?_
    refine AO.calm rfl 13 rfl (by decide) (eBool (!t4)) (Calm.not rfl rfl) ?_
    refine AO.nil (ρ' := [(0, (.fz 4 (p0.map e43))), (13, (eBool (!t4)))]) (H' := []) ⟨rfl, rfl, trivial⟩ (Sub.refl _) ?_
    by_cases hc5 : (!t4) = true
    · have h := (if_pos hc5).symm.trans h
      refine AW.condT' (!t4) rfl hc5 ?_
      refine AW.seq ?_
      refine AW.reg ?_
      refine AO.calm rfl 2 rfl (by decide) (eBool true) (Calm.assign rfl rfl) ?_
      refine AO.nil (ρ' := [(2, (eBool true))]) (H' := []) ⟨rfl, trivial⟩ (Sub.refl _) ?_
      refine AW.ret (ρ' := [(2, (eBool true))]) (H' := []) ⟨rfl, trivial⟩ (Sub.refl _) ?_
      have hr := Option.some.inj h
      subst hr
      exact ⟨[(eBool true)], ⟨rfl, rfl, trivial⟩, rfl⟩
    · have h := (if_neg hc5).symm.trans h
      refine AW.condF' (!t4) rfl hc5 ?_
      refine AW.skip (ρ' := [(0, (.fz 4 (p0.map e43)))]) (H' := []) ⟨rfl, trivial⟩ (Sub.refl _) ?_
      refine AW.seq ?_
      refine AW.reg ?_
      refine AO.calm rfl 14 rfl (by decide) (.fz 4 (p0.map e43)) (Calm.move rfl rfl) ?_
      obtain ⟨t6, et6, h⟩ := of_bind h
      refine AO.callS [(.fz 4 (p0.map e43))] (eStr t6) 15 rfl (by decide) ok23 rfl rfl rfl ⟨rfl, rfl, trivial⟩ (ast_Show_spec et6) ?_
      refine AO.calm rfl 3 rfl (by decide) (eStr t6) (Calm.assign rfl rfl) ?_
      refine AO.nil (ρ' := [(0, (.fz 4 (p0.map e43))), (3, (eStr t6))]) (H' := []) ⟨rfl, rfl, trivial⟩ (Sub.refl _) ?_
      refine AW.seq ?_
      refine AW.seq ?_
      refine AW.reg ?_
      refine AO.calm rfl 16 rfl (by decide) (.fz 4 (p0.map e43)) (Calm.move rfl rfl) ?_
      obtain ⟨t7, et7, h⟩ := of_bind h
      refine AO.callS [(.fz 4 (p0.map e43))] (eBool t7) 17 rfl (by decide) ok24 rfl rfl rfl ⟨rfl, rfl, trivial⟩ (bosketref31_Right_spec et7) ?_
      refine AO.calm rfl 18 rfl (by decide) (eBool (!t7)) (Calm.not rfl rfl) ?_
      refine AO.nil (ρ' := [(0, (.fz 4 (p0.map e43))), (3, (eStr t6)), (18, (eBool (!t7)))]) (H' := []) ⟨rfl, rfl, rfl, trivial⟩ (Sub.refl _) ?_
      by_cases hc8 : (!t7) = true
      · have h := (if_pos hc8).symm.trans h
        refine AW.condT' (!t7) rfl hc8 ?_
        refine AW.seq ?_
        refine AW.reg ?_
        refine AO.calm rfl 19 rfl (by decide) (eStr t6) (Calm.move rfl rfl) ?_
        refine AO.calm rfl 20 rfl (by decide) (eBool (decide (t6 = (ByteArray.mk #[])))) (Calm.str rfl rfl rfl rfl) ?_
        refine AO.calm rfl 2 rfl (by decide) (eBool (decide (t6 = (ByteArray.mk #[])))) (Calm.assign rfl rfl) ?_
        refine AO.nil (ρ' := [(2, (eBool (decide (t6 = (ByteArray.mk #[])))))]) (H' := []) ⟨rfl, trivial⟩ (Sub.refl _) ?_
        refine AW.ret (ρ' := [(2, (eBool (decide (t6 = (ByteArray.mk #[])))))]) (H' := []) ⟨rfl, trivial⟩ (Sub.refl _) ?_
        have hr := Option.some.inj h
        subst hr
        exact ⟨[(eBool (decide (t6 = (ByteArray.mk #[]))))], ⟨rfl, rfl, trivial⟩, rfl⟩
      · have h := (if_neg hc8).symm.trans h
        refine AW.condF' (!t7) rfl hc8 ?_
        refine AW.skip (ρ' := [(0, (.fz 4 (p0.map e43))), (3, (eStr t6))]) (H' := []) ⟨rfl, rfl, trivial⟩ (Sub.refl _) ?_
        refine AW.seq ?_
        refine AW.seq ?_
        refine AW.reg ?_
        refine AO.calm rfl 21 rfl (by decide) (eStr t6) (Calm.move rfl rfl) ?_
        refine AO.calm rfl 22 rfl (by decide) (.fz 4 (p0.map e43)) (Calm.move rfl rfl) ?_
        obtain ⟨t9, et9, h⟩ := of_bind h
        refine AO.callS [(.fz 4 (p0.map e43))] (eStr t9) 23 rfl (by decide) ok25 rfl rfl rfl ⟨rfl, rfl, trivial⟩ (bosketref31_Show_spec et9) ?_
        refine AO.calm rfl 24 rfl (by decide) (eBool (decide (t6 ≠ t9))) (Calm.str rfl rfl rfl rfl) ?_
        refine AO.nil (ρ' := [(0, (.fz 4 (p0.map e43))), (3, (eStr t6)), (24, (eBool (decide (t6 ≠ t9))))]) (H' := []) ⟨rfl, rfl, rfl, trivial⟩ (Sub.refl _) ?_
        by_cases hc10 : t6 ≠ t9
        · have h := (if_pos hc10).symm.trans h
          refine AW.condP (t6 ≠ t9) rfl hc10 ?_
          refine AW.seq ?_
          refine AW.reg ?_
          refine AO.calm rfl 2 rfl (by decide) (eBool false) (Calm.assign rfl rfl) ?_
          refine AO.nil (ρ' := [(2, (eBool false))]) (H' := []) ⟨rfl, trivial⟩ (Sub.refl _) ?_
          refine AW.ret (ρ' := [(2, (eBool false))]) (H' := []) ⟨rfl, trivial⟩ (Sub.refl _) ?_
          have hr := Option.some.inj h
          subst hr
          exact ⟨[(eBool false)], ⟨rfl, rfl, trivial⟩, rfl⟩
        · have h := (if_neg hc10).symm.trans h
          refine AW.condN (t6 ≠ t9) rfl hc10 ?_
          refine AW.skip (ρ' := [(0, (.fz 4 (p0.map e43))), (3, (eStr t6))]) (H' := []) ⟨rfl, rfl, trivial⟩ (Sub.refl _) ?_
          refine AW.seq ?_
          refine AW.reg ?_
          refine AO.calm rfl 26 rfl (by decide) (eStr t6) (Calm.move rfl rfl) ?_
          obtain ⟨t11, et11, h⟩ := of_bind h
          refine AO.callS [(eStr t6)] (.tup [(.fz 4 (t11.1.map e43)), (eBool t11.2)]) 27 rfl (by decide) ok26 rfl rfl rfl ⟨rfl, rfl, trivial⟩ (ast_Read_spec et11) ?_
          refine AO.calm rfl 25 rfl (by decide) (.tup [(.fz 4 (t11.1.map e43)), (eBool t11.2)]) (Calm.move rfl rfl) ?_
          refine AO.calm rfl 28 rfl (by decide) (.fz 4 (t11.1.map e43)) (Calm.extract rfl rfl rfl) ?_
          refine AO.calm rfl 29 rfl (by decide) (eBool t11.2) (Calm.extract rfl rfl rfl) ?_
          refine AO.calm rfl 4 rfl (by decide) (.fz 4 (t11.1.map e43)) (Calm.assign rfl rfl) ?_
          refine AO.calm rfl 5 rfl (by decide) (eBool t11.2) (Calm.assign rfl rfl) ?_
          refine AO.nil (ρ' := [(0, (.fz 4 (p0.map e43))), (4, (.fz 4 (t11.1.map e43))), (5, (eBool t11.2))]) (H' := []) ⟨rfl, rfl, rfl, trivial⟩ (Sub.refl _) ?_
          refine AW.seq ?_
          refine AW.reg ?_
          refine AO.calm rfl 6 rfl (by decide) (.fl (.slice none 0 0)) (Calm.assign rfl rfl) ?_
          refine AO.nil (ρ' := [(0, (.fz 4 (p0.map e43))), (4, (.fz 4 (t11.1.map e43))), (5, (eBool t11.2)), (6, (.fl (.slice none 0 0)))]) (H' := []) ⟨rfl, rfl, rfl, rfl, trivial⟩ (Sub.refl _) ?_
          refine AW.seq_mid (fun ρ H => ∃ (n12 : Nat) (x13 : (List S43)), ρ = [(4, (.fz 4 (t11.1.map e43))), (5, (eBool t11.2)), (6, (.own n12 0 x13.length))] ∧ H = [(n12, .mem (.ar 4 (x13.map e43)))] ∧ bosketlaw31_AstShows_c0 k t11 x13 = some r) ?_ ?_
          · refine AW.seq ?_
            refine AW.reg ?_
            refine AO.calm rfl 7 rfl (by decide) (eI64 (0 : Int)) (Calm.assign rfl rfl) ?_
            refine AO.nil (ρ' := [(0, (.fz 4 (p0.map e43))), (4, (.fz 4 (t11.1.map e43))), (5, (eBool t11.2)), (6, (.fl (.slice none 0 0))), (7, (eI64 (0 : Int)))]) (H' := []) ⟨rfl, rfl, rfl, rfl, rfl, trivial⟩ (Sub.refl _) ?_
            refine AW.block ?_
            refine AW.nilOwn 6 4 rfl fun n31 => ?_
            refine AW.weak (ρ' := [(0, (.fz 4 (p0.map e43))), (4, (.fz 4 (t11.1.map e43))), (5, (eBool t11.2)), (6, (.own n31 0 ([] : List S43).length)), (7, (eI64 (0 : Int)))]) (H' := [(n31, .mem (.ar 4 (([] : List S43).map e43)))]) ⟨rfl, rfl, rfl, rfl, rfl, trivial⟩ (Sub.refl _) ?_
            refine AW.loop (fun kq ρ H => ∃ (n18 : Nat) (x19 : (List S43)) (x20 : Int), ρ = [(0, (.fz 4 (p0.map e43))), (4, (.fz 4 (t11.1.map e43))), (5, (eBool t11.2)), (6, (.own n18 0 x19.length)), (7, (eI64 x20))] ∧ H = [(n18, .mem (.ar 4 (x19.map e43)))] ∧ bosketlaw31_AstShows_l2 k p0 t11 kq x19 x20 = some r) k ⟨n31, [], (0 : Int), rfl, rfl, h⟩ ?_
            rintro kq22 _ _ ⟨n18, x19, x20, rfl, rfl, h⟩
            cases kq22 with
            | zero => rw [bosketlaw31_AstShows_l2.eq_1] at h; cases h
            | succ kq22 =>
            rw [bosketlaw31_AstShows_l2.eq_2] at h
            generalize hrec21 : bosketlaw31_AstShows_l2 k p0 t11 kq22 = rec21 at h
            refine AW.seq ?_
            refine AW.seq ?_
            refine AW.reg ?_
            refine AO.calm rfl 30 rfl (by decide) (eI64 x20) (Calm.move rfl rfl) ?_
            refine AO.calm rfl 31 rfl (by decide) (.fz 4 (p0.map e43)) (Calm.move rfl rfl) ?_
            refine AO.calm rfl 32 rfl (by decide) (eI64 (p0.length : Int)) (Calm.lenL rfl rfl Try.underlying37) ?_
            refine AO.calm rfl 33 rfl (by decide) (eBool (decide (x20 < (p0.length : Int)))) (Calm.int rfl rfl rfl rfl) ?_
            refine AO.nil (ρ' := [(0, (.fz 4 (p0.map e43))), (4, (.fz 4 (t11.1.map e43))), (5, (eBool t11.2)), (6, (.own n18 0 x19.length)), (7, (eI64 x20)), (33, (eBool (decide (x20 < (p0.length : Int)))))]) (H' := [(n18, .mem (.ar 4 (x19.map e43)))]) ⟨rfl, rfl, rfl, rfl, rfl, rfl, trivial⟩ (Sub.refl _) ?_
            by_cases hc23 : x20 < (p0.length : Int)
            · have h := (if_pos hc23).symm.trans h
              refine AW.condP (x20 < (p0.length : Int)) rfl hc23 ?_
              refine AW.skip (ρ' := [(0, (.fz 4 (p0.map e43))), (4, (.fz 4 (t11.1.map e43))), (5, (eBool t11.2)), (6, (.own n18 0 x19.length)), (7, (eI64 x20))]) (H' := [(n18, .mem (.ar 4 (x19.map e43)))]) ⟨rfl, rfl, rfl, rfl, rfl, trivial⟩ (Sub.refl _) ?_
              refine AW.seq ?_
              refine AW.block ?_
              refine AW.seq ?_
              refine AW.reg ?_
              refine AO.calm rfl 36 rfl (by decide) (.fz 4 (p0.map e43)) (Calm.move rfl rfl) ?_
              refine AO.calm rfl 37 rfl (by decide) (eI64 x20) (Calm.move rfl rfl) ?_
              obtain ⟨hg24, h⟩ := of_guard h
              refine AO.calm rfl 38 rfl (by decide) (.rp (e43 (lget p0 x20))) (Calm.idxL (f := e43) rfl rfl rfl hg24 Try.underlying37 sz43) ?_
              refine AO.calm rfl 39 rfl (by decide) (e43 (lget p0 x20)) (Calm.loadRp rfl rfl ag43 sz43) ?_
              refine AO.alloc rfl 8 rfl (by decide) rfl zr43 lay43 fun n25 => ?_
              refine AO.store (X' := (e43 (lget p0 x20))) 0 rfl rfl rfl rfl rfl rfl (Put.cast Put.here rfl) rfl rfl sz43 rfl ?_
              refine AO.nil (ρ' := [(0, (.fz 4 (p0.map e43))), (4, (.fz 4 (t11.1.map e43))), (5, (eBool t11.2)), (6, (.own n18 0 x19.length)), (7, (eI64 x20)), (8, (.ptr n25 0))]) (H' := [(n18, .mem (.ar 4 (x19.map e43))), (n25, .mem (e43 (lget p0 x20)))]) ⟨rfl, rfl, rfl, rfl, rfl, rfl, trivial⟩ (Sub.cons 1 rfl (Sub.cons 0 rfl (Sub.nil _))) ?_
              refine AW.seq_mid (fun ρ H => ∃ (x26 : ByteArray), ρ = [(0, (.fz 4 (p0.map e43))), (4, (.fz 4 (t11.1.map e43))), (5, (eBool t11.2)), (6, (.own n18 0 x19.length)), (7, (eI64 x20)), (8, (.ptr n25 0))] ∧ H = [(n18, .mem (.ar 4 (x19.map e43))), (n25, .mem (.st [(1, (eBool ((lget p0 x20).f0))), (1, (eI64 ((lget p0 x20).f1))), (1, (eI64 ((lget p0 x20).f2))), (1, (eStr x26))]))] ∧ bosketlaw31_AstShows_c1 k rec21 p0 x19 x20 x26 = some r) ?_ ?_
              · refine AW.seq ?_
                refine AW.reg ?_
                refine AO.calm rfl 40 rfl (by decide) (.ptr n25 0) (Calm.fldPtr rfl rfl Try.underlying43 rfl sz4 _ rfl) ?_
                refine AO.calm rfl 41 rfl (by decide) (eBool ((lget p0 x20).f0)) (Calm.load 1 rfl rfl rfl (At.cast (At.fld0 At.here) rfl) ag4 sz4) ?_
                refine AO.calm rfl 42 rfl (by decide) (eBool (!((lget p0 x20).f0))) (Calm.not rfl rfl) ?_
                refine AO.nil (ρ' := [(0, (.fz 4 (p0.map e43))), (4, (.fz 4 (t11.1.map e43))), (5, (eBool t11.2)), (6, (.own n18 0 x19.length)), (7, (eI64 x20)), (8, (.ptr n25 0)), (42, (eBool (!((lget p0 x20).f0))))]) (H' := [(n18, .mem (.ar 4 (x19.map e43))), (n25, .mem (e43 (lget p0 x20)))]) ⟨rfl, rfl, rfl, rfl, rfl, rfl, rfl, trivial⟩ (Sub.refl _) ?_
                by_cases hc30 : (!((lget p0 x20).f0)) = true
                · have h := (if_pos hc30).symm.trans h
                  refine AW.condT' (!((lget p0 x20).f0)) rfl hc30 ?_
                  refine AW.reg ?_
                  refine AO.calm rfl 43 rfl (by decide) (.ptr n25 3) (Calm.fldPtr rfl rfl Try.underlying43 rfl sz9 _ rfl) ?_
                  refine AO.store (X' := (.st [(1, (eBool ((lget p0 x20).f0))), (1, (eI64 ((lget p0 x20).f1))), (1, (eI64 ((lget p0 x20).f2))), (1, (eStr (ByteArray.mk #[])))])) 1 rfl rfl rfl rfl rfl rfl (Put.cast (Put.fldS (Put.fldS (Put.fldS (Put.fld0 Put.here)))) rfl) rfl rfl sz9 rfl ?_
                  refine AO.nil (ρ' := [(0, (.fz 4 (p0.map e43))), (4, (.fz 4 (t11.1.map e43))), (5, (eBool t11.2)), (6, (.own n18 0 x19.length)), (7, (eI64 x20)), (8, (.ptr n25 0))]) (H' := [(n18, .mem (.ar 4 (x19.map e43))), (n25, .mem (.st [(1, (eBool ((lget p0 x20).f0))), (1, (eI64 ((lget p0 x20).f1))), (1, (eI64 ((lget p0 x20).f2))), (1, (eStr (ByteArray.mk #[])))]))]) ⟨rfl, rfl, rfl, rfl, rfl, rfl, trivial⟩ (Sub.refl _) ?_
                  exact ⟨(ByteArray.mk #[]), rfl, rfl, h⟩
                · have h := (if_neg hc30).symm.trans h
                  refine AW.condF' (!((lget p0 x20).f0)) rfl hc30 ?_
                  refine AW.skip (ρ' := [(0, (.fz 4 (p0.map e43))), (4, (.fz 4 (t11.1.map e43))), (5, (eBool t11.2)), (6, (.own n18 0 x19.length)), (7, (eI64 x20)), (8, (.ptr n25 0))]) (H' := [(n18, .mem (.ar 4 (x19.map e43))), (n25, .mem (e43 (lget p0 x20)))]) ⟨rfl, rfl, rfl, rfl, rfl, rfl, trivial⟩ (Sub.refl _) ?_
                  exact ⟨(lget p0 x20).f3, rfl, rfl, h⟩
              · rintro _ _ ⟨x26, rfl, rfl, h⟩
                rw [bosketlaw31_AstShows_c1.eq_1] at h
                refine AW.reg ?_
                refine AO.calm rfl 44 rfl (by decide) (.own n18 0 x19.length) (Calm.move rfl rfl) ?_
                refine AO.calm rfl 45 rfl (by decide) (e43 (S43.mk ((lget p0 x20).f0) ((lget p0 x20).f1) ((lget p0 x20).f2) x26)) (Calm.load 1 rfl rfl rfl (At.cast At.here rfl) ag43 sz43) ?_
                refine AO.lit (Z := (.st [(1, (eBool false)), (1, (eI64 (0 : Int))), (1, (eI64 (0 : Int))), (1, (eStr ByteArray.empty))])) (xs := (([(S43.mk ((lget p0 x20).f0) ((lget p0 x20).f1) ((lget p0 x20).f2) x26)] : List S43).map e43)) (qs := [(0, (e43 (S43.mk ((lget p0 x20).f0) ((lget p0 x20).f1) ((lget p0 x20).f2) x26)))]) rfl 46 rfl (by decide) rfl ⟨rfl, rfl, rfl, trivial⟩ Try.underlying37 sz43 zr43 lay43 rfl (by decide) (litOK (z := 4) [(e43 (S43.mk ((lget p0 x20).f0) ((lget p0 x20).f1) ((lget p0 x20).f2) x26))] rfl ⟨⟨rfl, rfl⟩, trivial⟩) rfl fun n27 => ?_
                obtain ⟨hg29, h⟩ := of_guard h
                refine AO.appendL (l := x19) (m := ([(S43.mk ((lget p0 x20).f0) ((lget p0 x20).f1) ((lget p0 x20).f2) x26)] : List S43)) 1 47 rfl (by decide) rfl rfl rfl rfl rfl (Src.ownL (f := e43) (l := ([(S43.mk ((lget p0 x20).f0) ((lget p0 x20).f1) ((lget p0 x20).f2) x26)] : List S43)) 0 rfl) Try.underlying37 Try.underlying37 sz43 by43 zr43 rfl hg29 (by decide) fun n28 => ?_
                refine AO.calm rfl 6 rfl (by decide) (.own n28 0 (x19 ++ ([(S43.mk ((lget p0 x20).f0) ((lget p0 x20).f1) ((lget p0 x20).f2) x26)] : List S43)).length) (Calm.assign rfl rfl) ?_
                refine AO.nil (ρ' := [(0, (.fz 4 (p0.map e43))), (4, (.fz 4 (t11.1.map e43))), (5, (eBool t11.2)), (6, (.own n28 0 (x19 ++ ([(S43.mk ((lget p0 x20).f0) ((lget p0 x20).f1) ((lget p0 x20).f2) x26)] : List S43)).length)), (7, (eI64 x20))]) (H' := [(n28, .mem (.ar 4 ((x19 ++ ([(S43.mk ((lget p0 x20).f0) ((lget p0 x20).f1) ((lget p0 x20).f2) x26)] : List S43)).map e43)))]) ⟨rfl, rfl, rfl, rfl, rfl, trivial⟩ (Sub.cons 1 rfl (Sub.nil _)) ?_
                refine AW.reg ?_
                refine AO.calm rfl 34 rfl (by decide) (eI64 x20) (Calm.move rfl rfl) ?_
                refine AO.calm rfl 35 rfl (by decide) (eI64 (w64 (x20 + (1 : Int)))) (Calm.int rfl rfl rfl rfl) ?_
                refine AO.calm rfl 7 rfl (by decide) (eI64 (w64 (x20 + (1 : Int)))) (Calm.assign rfl rfl) ?_
                refine AO.nil (ρ' := [(0, (.fz 4 (p0.map e43))), (4, (.fz 4 (t11.1.map e43))), (5, (eBool t11.2)), (6, (.own n28 0 (x19 ++ ([(S43.mk ((lget p0 x20).f0) ((lget p0 x20).f1) ((lget p0 x20).f2) x26)] : List S43)).length)), (7, (eI64 (w64 (x20 + (1 : Int)))))]) (H' := [(n28, .mem (.ar 4 ((x19 ++ ([(S43.mk ((lget p0 x20).f0) ((lget p0 x20).f1) ((lget p0 x20).f2) x26)] : List S43)).map e43)))]) ⟨rfl, rfl, rfl, rfl, rfl, trivial⟩ (Sub.refl _) ?_
                exact ⟨kq22, Nat.lt_succ_self _, n28, (x19 ++ ([(S43.mk ((lget p0 x20).f0) ((lget p0 x20).f1) ((lget p0 x20).f2) x26)] : List S43)), (w64 (x20 + (1 : Int))), rfl, rfl, by rw [hrec21]; exact h⟩
            · have h := (if_neg hc23).symm.trans h
              refine AW.condN (x20 < (p0.length : Int)) rfl hc23 ?_
              refine AW.exit (ρ' := [(4, (.fz 4 (t11.1.map e43))), (5, (eBool t11.2)), (6, (.own n18 0 x19.length))]) (H' := [(n18, .mem (.ar 4 (x19.map e43)))]) ⟨rfl, rfl, rfl, trivial⟩ (Sub.refl _) ?_
              exact ⟨n18, x19, rfl, rfl, h⟩
          · rintro _ _ ⟨n12, x13, rfl, rfl, h⟩
            rw [bosketlaw31_AstShows_c0.eq_1] at h
            refine AW.seq ?_
            obtain ⟨b14, hq15, h⟩ := of_bind h
            refine AW.regM [(2, (eBool b14))] [] ?_ ?_
            · refine AO.calm rfl 48 rfl (by decide) (eBool t11.2) (Calm.move rfl rfl) ?_
              refine AO.calm rfl 49 rfl (by decide) (eBool t11.2) (Calm.move rfl rfl) ?_
              by_cases hc16 : t11.2 = true
              · have hq15 := (if_pos hc16).symm.trans hq15
                refine AO.calmG 1 true 49 rfl rfl (congrArg (fun b => some (AV.fl (Value.bool b))) hc16) 50 rfl (by decide) (.fz 4 (t11.1.map e43)) (Calm.move rfl rfl) ?_
                refine AO.calmG 1 true 49 rfl rfl (congrArg (fun b => some (AV.fl (Value.bool b))) hc16) 51 rfl (by decide) (.own n12 0 x13.length) (Calm.move rfl rfl) ?_
                obtain ⟨t17, et17, hq15⟩ := of_bind hq15
                refine AO.freezeS 0 [(6, (.fz 4 (x13.map e43))), (51, (.fz 4 (x13.map e43)))] rfl ⟨fz_all rfl, fz_all rfl, trivial⟩ ?_
                refine AO.callG 1 true 49 [(.fz 4 (t11.1.map e43)), (.fz 4 (x13.map e43))] (eBool t17) 52 rfl (by decide) ok27 rfl rfl (congrArg (fun b => some (AV.fl (Value.bool b))) hc16) rfl rfl ⟨rfl, rfl, rfl, rfl, trivial⟩ (bosketref31_Same_spec et17) ?_
                refine AO.calm rfl 53 rfl (by decide) (eBool t17) (Calm.pickT rfl (congrArg (fun b => some (AV.fl (Value.bool b))) hc16) rfl) ?_
                refine AO.calm rfl 2 rfl (by decide) (eBool t17) (Calm.assign rfl rfl) ?_
                cases hq15
                refine AO.nilE ⟨rfl, rfl⟩ ?_ ?_
                · exact ⟨rfl, trivial⟩
                · exact (Sub.refl _)
              · have hq15 := (if_neg hc16).symm.trans hq15
                refine AO.skipG 1 false 49 rfl rfl (congrArg (fun b => some (AV.fl (Value.bool b))) (eq_false_of_ne_true hc16)) 50 rfl (by decide) ?_
                refine AO.skipG 1 false 49 rfl rfl (congrArg (fun b => some (AV.fl (Value.bool b))) (eq_false_of_ne_true hc16)) 51 rfl (by decide) ?_
                refine AO.skipG 1 false 49 rfl rfl (congrArg (fun b => some (AV.fl (Value.bool b))) (eq_false_of_ne_true hc16)) 52 rfl (by decide) ?_
                refine AO.calm rfl 53 rfl (by decide) (eBool false) (Calm.pickF rfl (congrArg (fun b => some (AV.fl (Value.bool b))) (eq_false_of_ne_true hc16)) rfl) ?_
                refine AO.calm rfl 2 rfl (by decide) (eBool false) (Calm.assign rfl rfl) ?_
                cases hq15
                refine AO.nilE ⟨rfl, rfl⟩ ?_ ?_
                · exact ⟨rfl, trivial⟩
                · exact (Sub.nil _)
            · refine AW.ret (ρ' := [(2, (eBool b14))]) (H' := []) ⟨rfl, trivial⟩ (Sub.refl _) ?_
              have hr := Option.some.inj h
              subst hr
              exact ⟨[(eBool b14)], ⟨rfl, rfl, trivial⟩, rfl⟩
end Go.Avl.T2
