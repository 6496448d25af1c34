/- Parts: T2f29, T2f6. -/
import Derived.Test.YtmgiffbobkgcmaaAF1
import Derived.Test.YtmgiffbobkgcmaaAF7
import Derived.Test.YtmgiffbobkgcmaaAF2
/- bosket/ast.Leaves; printed by avmain.py. -/
namespace Go.Avl.T2
open Go Go.RowKit Go.Proofs Go.Avl
set_option linter.unusedVariables false
set_option maxRecDepth 100000
set_option maxHeartbeats 4000000
attribute [local irreducible] AW AO AQ Spec SpecH Calm

def ast_Leaves_c0 (k : Nat) (x3 : (List ByteArray)) : Option (List ByteArray) :=
  some (x3)
def ast_Leaves_c1 (k : Nat) (rec7 : ((List ByteArray) → Int → Option (List ByteArray))) (x6 : Int) (x11 : (List ByteArray)) : Option (List ByteArray) :=
  rec7 x11 (w64 (x6 + (1 : Int)))
def ast_Leaves_l2 (k : Nat) (p0 : (List S43)) : Nat → (List ByteArray) → Int → Option (List ByteArray)
  | 0, _, _ => none
  | j + 1, x5, x6 =>
    if x6 < (p0.length : Int) then if 0 ≤ x6 ∧ x6 < (p0.length : Int) then if ((lget p0 x6).f0) = true then if (x5 ++ ([(lget p0 x6).f3] : List ByteArray)).length * 16 ≤ 140737488355328 then ast_Leaves_c1 k (ast_Leaves_l2 k p0 j) x6 (x5 ++ ([(lget p0 x6).f3] : List ByteArray))
    else none
    else ast_Leaves_c1 k (ast_Leaves_l2 k p0 j) x6 x5
    else none
    else ast_Leaves_c0 k x5
def ast_Leaves (k : Nat) (p0 : (List S43)) : Option (List ByteArray) :=
  ast_Leaves_l2 k p0 k [] (0 : Int)
theorem ast_Leaves_spec {k : Nat} {p0 : (List S43)} {r : (List ByteArray)} (h : ast_Leaves k p0 = some r) : Spec Try.prog 29 [(.fz 4 (p0.map e43))] (e45 r) := by
  rw [ast_Leaves.eq_1] at h
  refine Spec.intro (res := [.tmp 2]) Try.func29 rfl rfl rfl (Nat.le_of_ble_eq_true rfl) ?_
  refine AW.seq ?_
  refine AW.reg ?_
  refine AO.calm rfl 2 rfl (by decide) (.fl (.slice none 0 0)) (Calm.assign rfl rfl) ?_
  refine AO.nil (ρ' := [(0, (.fz 4 (p0.map e43)))]) (H' := []) ⟨rfl, trivial⟩ (Sub.refl _) ?_
  refine AW.seq ?_
  refine AW.reg ?_
  refine AO.calm rfl 3 rfl (by decide) (.fl (.slice none 0 0)) (Calm.assign rfl rfl) ?_
  refine AO.nil (ρ' := [(0, (.fz 4 (p0.map e43))), (3, (.fl (.slice none 0 0)))]) (H' := []) ⟨rfl, rfl, trivial⟩ (Sub.refl _) ?_
  refine AW.seq_mid (fun ρ H => ∃ (n2 : Nat) (x3 : (List ByteArray)), ρ = [(3, (.own n2 0 x3.length))] ∧ H = [(n2, .mem (.ar 1 (x3.map eStr)))] ∧ ast_Leaves_c0 k x3 = some r) ?_ ?_
  · refine AW.seq ?_
    refine AW.reg ?_
    refine AO.calm rfl 6 rfl (by decide) (.fz 4 (p0.map e43)) (Calm.move rfl rfl) ?_
    refine AO.calm rfl 7 rfl (by decide) (eI64 (p0.length : Int)) (Calm.lenL rfl rfl Try.underlying37) ?_
    refine AO.calm rfl 8 rfl (by decide) (eI64 (0 : Int)) (Calm.move rfl rfl) ?_
    refine AO.nil (ρ' := [(3, (.fl (.slice none 0 0))), (6, (.fz 4 (p0.map e43))), (7, (eI64 (p0.length : Int))), (8, (eI64 (0 : Int)))]) (H' := []) ⟨rfl, rfl, rfl, rfl, trivial⟩ (Sub.refl _) ?_
    refine AW.block ?_
    refine AW.nilOwn 3 1 rfl fun n18 => ?_
    refine AW.weak (ρ' := [(3, (.own n18 0 ([] : List ByteArray).length)), (6, (.fz 4 (p0.map e43))), (7, (eI64 (p0.length : Int))), (8, (eI64 (0 : Int)))]) (H' := [(n18, .mem (.ar 1 (([] : List ByteArray).map eStr)))]) ⟨rfl, rfl, rfl, rfl, trivial⟩ (Sub.refl _) ?_
    refine AW.loop (fun kq ρ H => ∃ (n4 : Nat) (x5 : (List ByteArray)) (x6 : Int), ρ = [(3, (.own n4 0 x5.length)), (6, (.fz 4 (p0.map e43))), (7, (eI64 (p0.length : Int))), (8, (eI64 x6))] ∧ H = [(n4, .mem (.ar 1 (x5.map eStr)))] ∧ ast_Leaves_l2 k p0 kq x5 x6 = some r) k ⟨n18, [], (0 : Int), rfl, rfl, h⟩ ?_
    rintro kq8 _ _ ⟨n4, x5, x6, rfl, rfl, h⟩
    cases kq8 with
    | zero => rw [ast_Leaves_l2.eq_1] at h; cases h
    | succ kq8 =>
    rw [ast_Leaves_l2.eq_2] at h
    generalize hrec7 : ast_Leaves_l2 k p0 kq8 = rec7 at h
    refine AW.seq ?_
    refine AW.reg ?_
    refine AO.calm rfl 9 rfl (by decide) (eBool (decide (x6 < (p0.length : Int)))) (Calm.int rfl rfl rfl rfl) ?_
    refine AO.nil (ρ' := [(3, (.own n4 0 x5.length)), (6, (.fz 4 (p0.map e43))), (7, (eI64 (p0.length : Int))), (8, (eI64 x6)), (9, (eBool (decide (x6 < (p0.length : Int)))))]) (H' := [(n4, .mem (.ar 1 (x5.map eStr)))]) ⟨rfl, rfl, rfl, rfl, rfl, trivial⟩ (Sub.refl _) ?_
    refine AW.seq ?_
    by_cases hc9 : x6 < (p0.length : Int)
    · have h := (if_pos hc9).symm.trans h
      refine AW.condP (x6 < (p0.length : Int)) rfl hc9 ?_
      refine AW.skip (ρ' := [(3, (.own n4 0 x5.length)), (6, (.fz 4 (p0.map e43))), (7, (eI64 (p0.length : Int))), (8, (eI64 x6))]) (H' := [(n4, .mem (.ar 1 (x5.map eStr)))]) ⟨rfl, rfl, rfl, rfl, trivial⟩ (Sub.refl _) ?_
      refine AW.seq_mid (fun ρ H => ∃ (n10 : Nat) (x11 : (List ByteArray)), ρ = [(3, (.own n10 0 x11.length)), (6, (.fz 4 (p0.map e43))), (7, (eI64 (p0.length : Int))), (8, (eI64 x6))] ∧ H = [(n10, .mem (.ar 1 (x11.map eStr)))] ∧ ast_Leaves_c1 k rec7 x6 x11 = some r) ?_ ?_
      · refine AW.block ?_
        refine AW.seq ?_
        refine AW.reg ?_
        obtain ⟨hg12, h⟩ := of_guard h
        refine AO.calm rfl 10 rfl (by decide) (.rp (e43 (lget p0 x6))) (Calm.idxL (f := e43) rfl rfl rfl hg12 Try.underlying37 sz43) ?_
        refine AO.calm rfl 11 rfl (by decide) (e43 (lget p0 x6)) (Calm.loadRp rfl rfl ag43 sz43) ?_
        refine AO.alloc rfl 5 rfl (by decide) rfl zr43 lay43 fun n13 => ?_
        refine AO.store (X' := (e43 (lget p0 x6))) 0 rfl rfl rfl rfl rfl rfl (Put.cast Put.here rfl) rfl rfl sz43 rfl ?_
        refine AO.nil (ρ' := [(3, (.own n4 0 x5.length)), (5, (.ptr n13 0)), (6, (.fz 4 (p0.map e43))), (7, (eI64 (p0.length : Int))), (8, (eI64 x6))]) (H' := [(n4, .mem (.ar 1 (x5.map eStr))), (n13, .mem (e43 (lget p0 x6)))]) ⟨rfl, rfl, rfl, rfl, rfl, trivial⟩ (Sub.cons 1 rfl (Sub.cons 0 rfl (Sub.nil _))) ?_
        refine AW.seq ?_
        refine AW.reg ?_
        refine AO.calm rfl 12 rfl (by decide) (.ptr n13 0) (Calm.fldPtr rfl rfl Try.underlying43 rfl sz4 _ rfl) ?_
        refine AO.calm rfl 13 rfl (by decide) (eBool ((lget p0 x6).f0)) (Calm.load 1 rfl rfl rfl (At.cast (At.fld0 At.here) rfl) ag4 sz4) ?_
        refine AO.nil (ρ' := [(3, (.own n4 0 x5.length)), (5, (.ptr n13 0)), (6, (.fz 4 (p0.map e43))), (7, (eI64 (p0.length : Int))), (8, (eI64 x6)), (13, (eBool ((lget p0 x6).f0)))]) (H' := [(n4, .mem (.ar 1 (x5.map eStr))), (n13, .mem (e43 (lget p0 x6)))]) ⟨rfl, rfl, rfl, rfl, rfl, rfl, trivial⟩ (Sub.refl _) ?_
        by_cases hc14 : ((lget p0 x6).f0) = true
        · have h := (if_pos hc14).symm.trans h
          refine AW.condT' ((lget p0 x6).f0) rfl hc14 ?_
          refine AW.reg ?_
          refine AO.calm rfl 14 rfl (by decide) (.own n4 0 x5.length) (Calm.move rfl rfl) ?_
          refine AO.calm rfl 15 rfl (by decide) (.ptr n13 3) (Calm.fldPtr rfl rfl Try.underlying43 rfl sz9 _ rfl) ?_
          refine AO.calm rfl 16 rfl (by decide) (eStr ((lget p0 x6).f3)) (Calm.load 1 rfl rfl rfl (At.cast (At.fldS (At.fldS (At.fldS (At.fld0 At.here)))) rfl) ag9 sz9) ?_
          refine AO.lit (Z := (eStr ByteArray.empty)) (xs := (([(lget p0 x6).f3] : List ByteArray).map eStr)) (qs := [(0, (eStr ((lget p0 x6).f3)))]) rfl 17 rfl (by decide) rfl ⟨rfl, rfl, rfl, trivial⟩ Try.underlying45 sz9 zr9 lay9 rfl (by decide) (litOK (z := 1) [(eStr ((lget p0 x6).f3))] rfl ⟨⟨rfl, rfl⟩, trivial⟩) rfl fun n15 => ?_
          obtain ⟨hg17, h⟩ := of_guard h
          refine AO.appendL (l := x5) (m := ([(lget p0 x6).f3] : List ByteArray)) 1 18 rfl (by decide) rfl rfl rfl rfl rfl (Src.ownL (f := eStr) (l := ([(lget p0 x6).f3] : List ByteArray)) 0 rfl) Try.underlying45 Try.underlying45 sz9 by9 zr9 rfl hg17 (by decide) fun n16 => ?_
          refine AO.calm rfl 3 rfl (by decide) (.own n16 0 (x5 ++ ([(lget p0 x6).f3] : List ByteArray)).length) (Calm.assign rfl rfl) ?_
          refine AO.nil (ρ' := [(3, (.own n16 0 (x5 ++ ([(lget p0 x6).f3] : List ByteArray)).length)), (6, (.fz 4 (p0.map e43))), (7, (eI64 (p0.length : Int))), (8, (eI64 x6))]) (H' := [(n16, .mem (.ar 1 ((x5 ++ ([(lget p0 x6).f3] : List ByteArray)).map eStr)))]) ⟨rfl, rfl, rfl, rfl, trivial⟩ (Sub.cons 1 rfl (Sub.nil _)) ?_
          exact ⟨n16, (x5 ++ ([(lget p0 x6).f3] : List ByteArray)), rfl, rfl, h⟩
        · have h := (if_neg hc14).symm.trans h
          refine AW.condF' ((lget p0 x6).f0) rfl hc14 ?_
          refine AW.skip (ρ' := [(3, (.own n4 0 x5.length)), (6, (.fz 4 (p0.map e43))), (7, (eI64 (p0.length : Int))), (8, (eI64 x6))]) (H' := [(n4, .mem (.ar 1 (x5.map eStr)))]) ⟨rfl, rfl, rfl, rfl, trivial⟩ (Sub.cons 0 rfl (Sub.nil _)) ?_
          exact ⟨n4, x5, rfl, rfl, h⟩
      · rintro _ _ ⟨n10, x11, rfl, rfl, h⟩
        rw [ast_Leaves_c1.eq_1] at h
        refine AW.reg ?_
        refine AO.calm rfl 19 rfl (by decide) (eI64 (w64 (x6 + (1 : Int)))) (Calm.int rfl rfl rfl rfl) ?_
        refine AO.calm rfl 8 rfl (by decide) (eI64 (w64 (x6 + (1 : Int)))) (Calm.move rfl rfl) ?_
        refine AO.nil (ρ' := [(3, (.own n10 0 x11.length)), (6, (.fz 4 (p0.map e43))), (7, (eI64 (p0.length : Int))), (8, (eI64 (w64 (x6 + (1 : Int)))))]) (H' := [(n10, .mem (.ar 1 (x11.map eStr)))]) ⟨rfl, rfl, rfl, rfl, trivial⟩ (Sub.refl _) ?_
        exact ⟨kq8, Nat.lt_succ_self _, n10, x11, (w64 (x6 + (1 : Int))), rfl, rfl, by rw [hrec7]; exact h⟩
    · have h := (if_neg hc9).symm.trans h
      refine AW.condN (x6 < (p0.length : Int)) rfl hc9 ?_
      refine AW.exit (ρ' := [(3, (.own n4 0 x5.length))]) (H' := [(n4, .mem (.ar 1 (x5.map eStr)))]) ⟨rfl, trivial⟩ (Sub.refl _) ?_
      exact ⟨n4, x5, rfl, rfl, h⟩
  · rintro _ _ ⟨n2, x3, rfl, rfl, h⟩
    rw [ast_Leaves_c0.eq_1] at h
    refine AW.seq ?_
    refine AW.reg ?_
    refine AO.calm rfl 20 rfl (by decide) (.own n2 0 x3.length) (Calm.move rfl rfl) ?_
    refine AO.calm rfl 2 rfl (by decide) (.own n2 0 x3.length) (Calm.assign rfl rfl) ?_
    refine AO.nil (ρ' := [(2, (.own n2 0 x3.length))]) (H' := [(n2, .mem (.ar 1 (x3.map eStr)))]) ⟨rfl, trivial⟩ (Sub.refl _) ?_
    refine AW.freezeS 0 [(2, (.fz 1 (x3.map eStr)))] rfl ⟨fz_all rfl, trivial⟩ ?_
    refine AW.ret (ρ' := [(2, (.fz 1 (x3.map eStr)))]) (H' := []) ⟨rfl, trivial⟩ (Sub.refl _) ?_
    have hr := Option.some.inj h
    subst hr
    exact ⟨[(.fz 1 (x3.map eStr))], ⟨rfl, rfl, trivial⟩, rfl⟩
end Go.Avl.T2
/- bosket/bosketlaw31.AstReads; printed by avmain.py. -/
namespace Go.Avl.T2
open Go Go.RowKit Go.Proofs Go.Avl
set_option linter.unusedVariables false
set_option maxRecDepth 100000
set_option maxHeartbeats 4000000
attribute [local irreducible] AW AO AQ Spec SpecH Calm

def bosketlaw31_AstReads_c0 (k : Nat) (t5 : ((List S43) × Bool)) (t6 : ((List S43) × Bool)) (t7 : (List ByteArray)) (x8 : Int) : Option Bool :=
  Option.bind (α := Bool) (if (t5.2 == t6.2) = true then (bosketref31_Same k t5.1 t6.1).bind fun t12 =>
  if t12 = true then some (decide (x8 = (t7.length : Int)))
  else some (false)
  else some (false)) fun b9 =>
  some (b9)
def bosketlaw31_AstReads_c1 (k : Nat) (rec16 : (Int → Int → Option Bool)) (x15 : Int) (x19 : Int) : Option Bool :=
  rec16 x19 (w64 (x15 + (1 : Int)))
def bosketlaw31_AstReads_l2 (k : Nat) (t5 : ((List S43) × Bool)) (t6 : ((List S43) × Bool)) (t7 : (List ByteArray)) : Nat → Int → Int → Option Bool
  | 0, _, _ => none
  | j + 1, x14, x15 =>
    if x15 < (t6.1.length : Int) then if 0 ≤ x15 ∧ x15 < (t6.1.length : Int) then if (!((lget t6.1 x15).f0)) = true then bosketlaw31_AstReads_c1 k (bosketlaw31_AstReads_l2 k t5 t6 t7 j) x15 x14
    else Option.bind (α := Bool) (if (t7.length : Int) ≤ x14 then some (true)
    else if 0 ≤ x14 ∧ x14 < (t7.length : Int) then if 0 ≤ x15 ∧ x15 < (t6.1.length : Int) then some (decide ((lget t7 x14) ≠ ((lget t6.1 x15).f3)))
    else none
    else none) fun b22 =>
    if b22 = true then some (false)
    else bosketlaw31_AstReads_c1 k (bosketlaw31_AstReads_l2 k t5 t6 t7 j) x15 (w64 (x14 + (1 : Int)))
    else none
    else bosketlaw31_AstReads_c0 k t5 t6 t7 x14
def bosketlaw31_AstReads (k : Nat) (p0 : ByteArray) : Option Bool :=
  (bosketlaw31_awake k).bind fun t2 =>
  if (!t2) = true then some (false)
  else if (400 : Int) < (p0.size : Int) then some (true)
  else (ast_Read k p0).bind fun t5 =>
  (bosketref31_Read k p0).bind fun t6 =>
  (ast_Leaves k t5.1).bind fun t7 =>
  bosketlaw31_AstReads_l2 k t5 t6 t7 k (0 : Int) (0 : Int)
theorem bosketlaw31_AstReads_spec {k : Nat} {p0 : ByteArray} {r : Bool} (h : bosketlaw31_AstReads k p0 = some r) : Spec Try.prog 6 [(eStr p0)] (eBool r) := by
  rw [bosketlaw31_AstReads.eq_1] at h
  refine Spec.intro (res := [.tmp 2]) Try.func6 rfl rfl rfl (Nat.le_of_ble_eq_true rfl) ?_
  refine AW.seq ?_
  refine AW.reg ?_
  refine AO.calm rfl 2 rfl (by decide) (eBool false) (Calm.assign rfl rfl) ?_
  refine AO.nil (ρ' := [(0, (eStr p0))]) (H' := []) ⟨rfl, trivial⟩ (Sub.refl _) ?_
  refine AW.seq ?_
  refine AW.seq ?_
  refine AW.reg ?_
  obtain ⟨t2, et2, h⟩ := of_bind h
  refine AO.callS [] (eBool t2) 10 rfl (by decide) ok21 rfl rfl rfl trivial (bosketlaw31_awake_spec et2) ?_
  refine AO.calm rfl 11 rfl (by decide) (eBool (!t2)) (Calm.not rfl rfl) ?_
  refine AO.nil (ρ' := [(0, (eStr p0)), (11, (eBool (!t2)))]) (H' := []) ⟨rfl, rfl, trivial⟩ (Sub.refl _) ?_
  by_cases hc3 : (!t2) = true
  · have h := (if_pos hc3).symm.trans h
    refine AW.condT' (!t2) rfl hc3 ?_
    refine AW.seq ?_
    refine AW.reg ?_
    refine AO.calm rfl 2 rfl (by decide) (eBool false) (Calm.assign rfl rfl) ?_
    refine AO.nil (ρ' := [(2, (eBool false))]) (H' := []) ⟨rfl, trivial⟩ (Sub.refl _) ?_
    refine AW.ret (ρ' := [(2, (eBool false))]) (H' := []) ⟨rfl, trivial⟩ (Sub.refl _) ?_
    have hr := Option.some.inj h
    subst hr
    exact ⟨[(eBool false)], ⟨rfl, rfl, trivial⟩, rfl⟩
  · have h := (if_neg hc3).symm.trans h
    refine AW.condF' (!t2) rfl hc3 ?_
    refine AW.skip (ρ' := [(0, (eStr p0))]) (H' := []) ⟨rfl, trivial⟩ (Sub.refl _) ?_
    refine AW.seq ?_
    refine AW.seq ?_
    refine AW.reg ?_
    refine AO.calm rfl 12 rfl (by decide) (eStr p0) (Calm.move rfl rfl) ?_
    refine AO.calm rfl 13 rfl (by decide) (eI64 (p0.size : Int)) (Calm.lenStr rfl rfl Try.underlying9) ?_
    refine AO.calm rfl 14 rfl (by decide) (eBool (decide ((400 : Int) < (p0.size : Int)))) (Calm.int rfl rfl rfl rfl) ?_
    refine AO.nil (ρ' := [(0, (eStr p0)), (14, (eBool (decide ((400 : Int) < (p0.size : Int)))))]) (H' := []) ⟨rfl, rfl, trivial⟩ (Sub.refl _) ?_
    by_cases hc4 : (400 : Int) < (p0.size : Int)
    · have h := (if_pos hc4).symm.trans h
      refine AW.condP ((400 : Int) < (p0.size : Int)) rfl hc4 ?_
      refine AW.seq ?_
      refine AW.reg ?_
      refine AO.calm rfl 2 rfl (by decide) (eBool true) (Calm.assign rfl rfl) ?_
      refine AO.nil (ρ' := [(2, (eBool true))]) (H' := []) ⟨rfl, trivial⟩ (Sub.refl _) ?_
      refine AW.ret (ρ' := [(2, (eBool true))]) (H' := []) ⟨rfl, trivial⟩ (Sub.refl _) ?_
      have hr := Option.some.inj h
      subst hr
      exact ⟨[(eBool true)], ⟨rfl, rfl, trivial⟩, rfl⟩
    · have h := (if_neg hc4).symm.trans h
      refine AW.condN ((400 : Int) < (p0.size : Int)) rfl hc4 ?_
      refine AW.skip (ρ' := [(0, (eStr p0))]) (H' := []) ⟨rfl, trivial⟩ (Sub.refl _) ?_
      refine AW.seq ?_
      refine AW.reg ?_
      refine AO.calm rfl 16 rfl (by decide) (eStr p0) (Calm.move rfl rfl) ?_
      obtain ⟨t5, et5, h⟩ := of_bind h
      refine AO.callS [(eStr p0)] (.tup [(.fz 4 (t5.1.map e43)), (eBool t5.2)]) 17 rfl (by decide) ok26 rfl rfl rfl ⟨rfl, rfl, trivial⟩ (ast_Read_spec et5) ?_
      refine AO.calm rfl 15 rfl (by decide) (.tup [(.fz 4 (t5.1.map e43)), (eBool t5.2)]) (Calm.move rfl rfl) ?_
      refine AO.calm rfl 18 rfl (by decide) (.fz 4 (t5.1.map e43)) (Calm.extract rfl rfl rfl) ?_
      refine AO.calm rfl 19 rfl (by decide) (eBool t5.2) (Calm.extract rfl rfl rfl) ?_
      refine AO.calm rfl 3 rfl (by decide) (.fz 4 (t5.1.map e43)) (Calm.assign rfl rfl) ?_
      refine AO.calm rfl 4 rfl (by decide) (eBool t5.2) (Calm.assign rfl rfl) ?_
      refine AO.nil (ρ' := [(0, (eStr p0)), (3, (.fz 4 (t5.1.map e43))), (4, (eBool t5.2))]) (H' := []) ⟨rfl, rfl, rfl, trivial⟩ (Sub.refl _) ?_
      refine AW.seq ?_
      refine AW.reg ?_
      refine AO.calm rfl 21 rfl (by decide) (eStr p0) (Calm.move rfl rfl) ?_
      obtain ⟨t6, et6, h⟩ := of_bind h
      refine AO.callS [(eStr p0)] (.tup [(.fz 4 (t6.1.map e43)), (eBool t6.2)]) 22 rfl (by decide) ok28 rfl rfl rfl ⟨rfl, rfl, trivial⟩ (bosketref31_Read_spec et6) ?_
      refine AO.calm rfl 20 rfl (by decide) (.tup [(.fz 4 (t6.1.map e43)), (eBool t6.2)]) (Calm.move rfl rfl) ?_
      refine AO.calm rfl 23 rfl (by decide) (.fz 4 (t6.1.map e43)) (Calm.extract rfl rfl rfl) ?_
      refine AO.calm rfl 24 rfl (by decide) (eBool t6.2) (Calm.extract rfl rfl rfl) ?_
      refine AO.calm rfl 5 rfl (by decide) (.fz 4 (t6.1.map e43)) (Calm.assign rfl rfl) ?_
      refine AO.calm rfl 6 rfl (by decide) (eBool t6.2) (Calm.assign rfl rfl) ?_
      refine AO.nil (ρ' := [(3, (.fz 4 (t5.1.map e43))), (4, (eBool t5.2)), (5, (.fz 4 (t6.1.map e43))), (6, (eBool t6.2))]) (H' := []) ⟨rfl, rfl, rfl, rfl, trivial⟩ (Sub.refl _) ?_
      refine AW.seq ?_
      refine AW.reg ?_
      refine AO.calm rfl 25 rfl (by decide) (.fz 4 (t5.1.map e43)) (Calm.move rfl rfl) ?_
      obtain ⟨t7, et7, h⟩ := of_bind h
      refine AO.callS [(.fz 4 (t5.1.map e43))] (.fz 1 (t7.map eStr)) 26 rfl (by decide) ok29 rfl rfl rfl ⟨rfl, rfl, trivial⟩ (ast_Leaves_spec et7) ?_
      refine AO.calm rfl 7 rfl (by decide) (.fz 1 (t7.map eStr)) (Calm.assign rfl rfl) ?_
      refine AO.calm rfl 8 rfl (by decide) (eI64 (0 : Int)) (Calm.assign rfl rfl) ?_
      refine AO.nil (ρ' := [(3, (.fz 4 (t5.1.map e43))), (4, (eBool t5.2)), (5, (.fz 4 (t6.1.map e43))), (6, (eBool t6.2)), (7, (.fz 1 (t7.map eStr))), (8, (eI64 (0 : Int)))]) (H' := []) ⟨rfl, rfl, rfl, rfl, rfl, rfl, trivial⟩ (Sub.refl _) ?_
      refine AW.seq_mid (fun ρ H => ∃ (x8 : Int), ρ = [(3, (.fz 4 (t5.1.map e43))), (4, (eBool t5.2)), (5, (.fz 4 (t6.1.map e43))), (6, (eBool t6.2)), (7, (.fz 1 (t7.map eStr))), (8, (eI64 x8))] ∧ H = [] ∧ bosketlaw31_AstReads_c0 k t5 t6 t7 x8 = some r) ?_ ?_
      · refine AW.seq ?_
        refine AW.reg ?_
        refine AO.calm rfl 9 rfl (by decide) (eI64 (0 : Int)) (Calm.assign rfl rfl) ?_
        refine AO.nil (ρ' := [(3, (.fz 4 (t5.1.map e43))), (4, (eBool t5.2)), (5, (.fz 4 (t6.1.map e43))), (6, (eBool t6.2)), (7, (.fz 1 (t7.map eStr))), (8, (eI64 (0 : Int))), (9, (eI64 (0 : Int)))]) (H' := []) ⟨rfl, rfl, rfl, rfl, rfl, rfl, rfl, trivial⟩ (Sub.refl _) ?_
        refine AW.block ?_
        refine AW.weak (ρ' := [(3, (.fz 4 (t5.1.map e43))), (4, (eBool t5.2)), (5, (.fz 4 (t6.1.map e43))), (6, (eBool t6.2)), (7, (.fz 1 (t7.map eStr))), (8, (eI64 (0 : Int))), (9, (eI64 (0 : Int)))]) (H' := []) ⟨rfl, rfl, rfl, rfl, rfl, rfl, rfl, trivial⟩ (Sub.refl _) ?_
        refine AW.loop (fun kq ρ H => ∃ (x14 : Int) (x15 : Int), ρ = [(3, (.fz 4 (t5.1.map e43))), (4, (eBool t5.2)), (5, (.fz 4 (t6.1.map e43))), (6, (eBool t6.2)), (7, (.fz 1 (t7.map eStr))), (8, (eI64 x14)), (9, (eI64 x15))] ∧ H = [] ∧ bosketlaw31_AstReads_l2 k t5 t6 t7 kq x14 x15 = some r) k ⟨(0 : Int), (0 : Int), rfl, rfl, h⟩ ?_
        rintro kq17 _ _ ⟨x14, x15, rfl, rfl, h⟩
        cases kq17 with
        | zero => rw [bosketlaw31_AstReads_l2.eq_1] at h; cases h
        | succ kq17 =>
        rw [bosketlaw31_AstReads_l2.eq_2] at h
        generalize hrec16 : bosketlaw31_AstReads_l2 k t5 t6 t7 kq17 = rec16 at h
        refine AW.seq ?_
        refine AW.seq ?_
        refine AW.reg ?_
        refine AO.calm rfl 27 rfl (by decide) (eI64 x15) (Calm.move rfl rfl) ?_
        refine AO.calm rfl 28 rfl (by decide) (.fz 4 (t6.1.map e43)) (Calm.move rfl rfl) ?_
        refine AO.calm rfl 29 rfl (by decide) (eI64 (t6.1.length : Int)) (Calm.lenL rfl rfl Try.underlying37) ?_
        refine AO.calm rfl 30 rfl (by decide) (eBool (decide (x15 < (t6.1.length : Int)))) (Calm.int rfl rfl rfl rfl) ?_
        refine AO.nil (ρ' := [(3, (.fz 4 (t5.1.map e43))), (4, (eBool t5.2)), (5, (.fz 4 (t6.1.map e43))), (6, (eBool t6.2)), (7, (.fz 1 (t7.map eStr))), (8, (eI64 x14)), (9, (eI64 x15)), (30, (eBool (decide (x15 < (t6.1.length : Int)))))]) (H' := []) ⟨rfl, rfl, rfl, rfl, rfl, rfl, rfl, rfl, trivial⟩ (Sub.refl _) ?_
        by_cases hc18 : x15 < (t6.1.length : Int)
        · have h := (if_pos hc18).symm.trans h
          refine AW.condP (x15 < (t6.1.length : Int)) rfl hc18 ?_
          refine AW.skip (ρ' := [(3, (.fz 4 (t5.1.map e43))), (4, (eBool t5.2)), (5, (.fz 4 (t6.1.map e43))), (6, (eBool t6.2)), (7, (.fz 1 (t7.map eStr))), (8, (eI64 x14)), (9, (eI64 x15))]) (H' := []) ⟨rfl, rfl, rfl, rfl, rfl, rfl, rfl, trivial⟩ (Sub.refl _) ?_
          refine AW.seq_mid (fun ρ H => ∃ (x19 : Int), ρ = [(3, (.fz 4 (t5.1.map e43))), (4, (eBool t5.2)), (5, (.fz 4 (t6.1.map e43))), (6, (eBool t6.2)), (7, (.fz 1 (t7.map eStr))), (8, (eI64 x19)), (9, (eI64 x15))] ∧ H = [] ∧ bosketlaw31_AstReads_c1 k rec16 x15 x19 = some r) ?_ ?_
          · refine AW.block ?_
            refine AW.seq ?_
            refine AW.seq ?_
            refine AW.reg ?_
            refine AO.calm rfl 33 rfl (by decide) (.fz 4 (t6.1.map e43)) (Calm.move rfl rfl) ?_
            refine AO.calm rfl 34 rfl (by decide) (eI64 x15) (Calm.move rfl rfl) ?_
            obtain ⟨hg20, h⟩ := of_guard h
            refine AO.calm rfl 35 rfl (by decide) (.rp (e43 (lget t6.1 x15))) (Calm.idxL (f := e43) rfl rfl rfl hg20 Try.underlying37 sz43) ?_
            refine AO.calm rfl 36 rfl (by decide) (.rp (eBool ((lget t6.1 x15).f0))) (Calm.fldRp rfl rfl Try.underlying43 rfl sz4 (At.cast (At.fld0 At.here) rfl)) ?_
            refine AO.calm rfl 37 rfl (by decide) (eBool ((lget t6.1 x15).f0)) (Calm.loadRp rfl rfl ag4 sz4) ?_
            refine AO.calm rfl 38 rfl (by decide) (eBool (!((lget t6.1 x15).f0))) (Calm.not rfl rfl) ?_
            refine AO.nil (ρ' := [(3, (.fz 4 (t5.1.map e43))), (4, (eBool t5.2)), (5, (.fz 4 (t6.1.map e43))), (6, (eBool t6.2)), (7, (.fz 1 (t7.map eStr))), (8, (eI64 x14)), (9, (eI64 x15)), (38, (eBool (!((lget t6.1 x15).f0))))]) (H' := []) ⟨rfl, rfl, rfl, rfl, rfl, rfl, rfl, rfl, trivial⟩ (Sub.refl _) ?_
            by_cases hc21 : (!((lget t6.1 x15).f0)) = true
            · have h := (if_pos hc21).symm.trans h
              refine AW.condT' (!((lget t6.1 x15).f0)) rfl hc21 ?_
              refine AW.exit (ρ' := [(3, (.fz 4 (t5.1.map e43))), (4, (eBool t5.2)), (5, (.fz 4 (t6.1.map e43))), (6, (eBool t6.2)), (7, (.fz 1 (t7.map eStr))), (8, (eI64 x14)), (9, (eI64 x15))]) (H' := []) ⟨rfl, rfl, rfl, rfl, rfl, rfl, rfl, trivial⟩ (Sub.refl _) ?_
              exact ⟨x14, rfl, rfl, h⟩
            · have h := (if_neg hc21).symm.trans h
              refine AW.condF' (!((lget t6.1 x15).f0)) rfl hc21 ?_
              refine AW.skip (ρ' := [(3, (.fz 4 (t5.1.map e43))), (4, (eBool t5.2)), (5, (.fz 4 (t6.1.map e43))), (6, (eBool t6.2)), (7, (.fz 1 (t7.map eStr))), (8, (eI64 x14)), (9, (eI64 x15))]) (H' := []) ⟨rfl, rfl, rfl, rfl, rfl, rfl, rfl, trivial⟩ (Sub.refl _) ?_
              refine AW.seq ?_
              refine AW.seq ?_
              obtain ⟨b22, hq23, h⟩ := of_bind h
              refine AW.regQM (by rfl) (by decide +kernel) [(3, (.fz 4 (t5.1.map e43))), (4, (eBool t5.2)), (5, (.fz 4 (t6.1.map e43))), (6, (eBool t6.2)), (7, (.fz 1 (t7.map eStr))), (8, (eI64 x14)), (9, (eI64 x15)), (54, (eBool b22))] ?_ ?_
              · refine AQ.calm rfl 39 rfl (by decide) (eI64 x14) (Calm.move rfl rfl) ?_
                refine AQ.calm rfl 40 rfl (by decide) (.fz 1 (t7.map eStr)) (Calm.move rfl rfl) ?_
                refine AQ.calm rfl 41 rfl (by decide) (eI64 (t7.length : Int)) (Calm.lenL rfl rfl Try.underlying45) ?_
                refine AQ.calm rfl 42 rfl (by decide) (eBool (decide ((t7.length : Int) ≤ x14))) (Calm.int rfl rfl rfl rfl) ?_
                refine AQ.calm rfl 43 rfl (by decide) (eBool (decide ((t7.length : Int) ≤ x14))) (Calm.move rfl rfl) ?_
                by_cases hc24 : (t7.length : Int) ≤ x14
                · have hq23 := (if_pos hc24).symm.trans hq23
                  refine AQ.skipG 4 true 43 rfl rfl (congrArg (fun b => some (AV.fl (Value.bool b))) (decide_eq_true hc24)) 44 rfl (by decide) ?_
                  refine AQ.skipG 4 true 43 rfl rfl (congrArg (fun b => some (AV.fl (Value.bool b))) (decide_eq_true hc24)) 45 rfl (by decide) ?_
                  refine AQ.skipG 4 true 43 rfl rfl (congrArg (fun b => some (AV.fl (Value.bool b))) (decide_eq_true hc24)) 46 rfl (by decide) ?_
                  refine AQ.skipG 4 true 43 rfl rfl (congrArg (fun b => some (AV.fl (Value.bool b))) (decide_eq_true hc24)) 47 rfl (by decide) ?_
                  refine AQ.skipG 4 true 43 rfl rfl (congrArg (fun b => some (AV.fl (Value.bool b))) (decide_eq_true hc24)) 48 rfl (by decide) ?_
                  refine AQ.skipG 4 true 43 rfl rfl (congrArg (fun b => some (AV.fl (Value.bool b))) (decide_eq_true hc24)) 49 rfl (by decide) ?_
                  refine AQ.skipG 4 true 43 rfl rfl (congrArg (fun b => some (AV.fl (Value.bool b))) (decide_eq_true hc24)) 50 rfl (by decide) ?_
                  refine AQ.skipG 4 true 43 rfl rfl (congrArg (fun b => some (AV.fl (Value.bool b))) (decide_eq_true hc24)) 51 rfl (by decide) ?_
                  refine AQ.skipG 4 true 43 rfl rfl (congrArg (fun b => some (AV.fl (Value.bool b))) (decide_eq_true hc24)) 52 rfl (by decide) ?_
                  refine AQ.skipG 4 true 43 rfl rfl (congrArg (fun b => some (AV.fl (Value.bool b))) (decide_eq_true hc24)) 53 rfl (by decide) ?_
                  refine AQ.calm rfl 54 rfl (by decide) (eBool true) (Calm.pickT rfl (congrArg (fun b => some (AV.fl (Value.bool b))) (decide_eq_true hc24)) rfl) ?_
                  cases hq23
                  refine AQ.nilE rfl ?_
                  exact ⟨rfl, rfl, rfl, rfl, rfl, rfl, rfl, rfl, trivial⟩
                · have hq23 := (if_neg hc24).symm.trans hq23
                  refine AQ.calmG 4 false 43 rfl rfl (congrArg (fun b => some (AV.fl (Value.bool b))) (decide_eq_false hc24)) 44 rfl (by decide) (.fz 1 (t7.map eStr)) (Calm.move rfl rfl) ?_
                  refine AQ.calmG 4 false 43 rfl rfl (congrArg (fun b => some (AV.fl (Value.bool b))) (decide_eq_false hc24)) 45 rfl (by decide) (eI64 x14) (Calm.move rfl rfl) ?_
                  obtain ⟨hg25, hq23⟩ := of_guard hq23
                  refine AQ.calmG 4 false 43 rfl rfl (congrArg (fun b => some (AV.fl (Value.bool b))) (decide_eq_false hc24)) 46 rfl (by decide) (.rp (eStr (lget t7 x14))) (Calm.idxL (f := eStr) rfl rfl rfl hg25 Try.underlying45 sz9) ?_
                  refine AQ.calmG 4 false 43 rfl rfl (congrArg (fun b => some (AV.fl (Value.bool b))) (decide_eq_false hc24)) 47 rfl (by decide) (eStr (lget t7 x14)) (Calm.loadRp rfl rfl ag9 sz9) ?_
                  refine AQ.calmG 4 false 43 rfl rfl (congrArg (fun b => some (AV.fl (Value.bool b))) (decide_eq_false hc24)) 48 rfl (by decide) (.fz 4 (t6.1.map e43)) (Calm.move rfl rfl) ?_
                  refine AQ.calmG 4 false 43 rfl rfl (congrArg (fun b => some (AV.fl (Value.bool b))) (decide_eq_false hc24)) 49 rfl (by decide) (eI64 x15) (Calm.move rfl rfl) ?_
                  obtain ⟨hg26, hq23⟩ := of_guard hq23
                  refine AQ.calmG 4 false 43 rfl rfl (congrArg (fun b => some (AV.fl (Value.bool b))) (decide_eq_false hc24)) 50 rfl (by decide) (.rp (e43 (lget t6.1 x15))) (Calm.idxL (f := e43) rfl rfl rfl hg26 Try.underlying37 sz43) ?_
                  refine AQ.calmG 4 false 43 rfl rfl (congrArg (fun b => some (AV.fl (Value.bool b))) (decide_eq_false hc24)) 51 rfl (by decide) (.rp (eStr ((lget t6.1 x15).f3))) (Calm.fldRp rfl rfl Try.underlying43 rfl sz9 (At.cast (At.fldS (At.fldS (At.fldS (At.fld0 At.here)))) rfl)) ?_
                  refine AQ.calmG 4 false 43 rfl rfl (congrArg (fun b => some (AV.fl (Value.bool b))) (decide_eq_false hc24)) 52 rfl (by decide) (eStr ((lget t6.1 x15).f3)) (Calm.loadRp rfl rfl ag9 sz9) ?_
                  refine AQ.calmG 4 false 43 rfl rfl (congrArg (fun b => some (AV.fl (Value.bool b))) (decide_eq_false hc24)) 53 rfl (by decide) (eBool (decide ((lget t7 x14) ≠ ((lget t6.1 x15).f3)))) (Calm.str rfl rfl rfl rfl) ?_
                  refine AQ.calm rfl 54 rfl (by decide) (eBool (decide ((lget t7 x14) ≠ ((lget t6.1 x15).f3)))) (Calm.pickF rfl (congrArg (fun b => some (AV.fl (Value.bool b))) (decide_eq_false hc24)) rfl) ?_
                  cases hq23
                  refine AQ.nilE rfl ?_
                  exact ⟨rfl, rfl, rfl, rfl, rfl, rfl, rfl, rfl, trivial⟩
              · by_cases hc27 : b22 = true
                · have h := (if_pos hc27).symm.trans h
                  refine AW.condT' b22 rfl hc27 ?_
                  refine AW.seq ?_
                  refine AW.reg ?_
                  refine AO.calm rfl 2 rfl (by decide) (eBool false) (Calm.assign rfl rfl) ?_
                  refine AO.nil (ρ' := [(2, (eBool false))]) (H' := []) ⟨rfl, trivial⟩ (Sub.refl _) ?_
                  refine AW.ret (ρ' := [(2, (eBool false))]) (H' := []) ⟨rfl, trivial⟩ (Sub.refl _) ?_
                  have hr := Option.some.inj h
                  subst hr
                  exact ⟨[(eBool false)], ⟨rfl, rfl, trivial⟩, rfl⟩
                · have h := (if_neg hc27).symm.trans h
                  refine AW.condF' b22 rfl hc27 ?_
                  refine AW.skip (ρ' := [(3, (.fz 4 (t5.1.map e43))), (4, (eBool t5.2)), (5, (.fz 4 (t6.1.map e43))), (6, (eBool t6.2)), (7, (.fz 1 (t7.map eStr))), (8, (eI64 x14)), (9, (eI64 x15))]) (H' := []) ⟨rfl, rfl, rfl, rfl, rfl, rfl, rfl, trivial⟩ (Sub.refl _) ?_
                  refine AW.reg ?_
                  refine AO.calm rfl 55 rfl (by decide) (eI64 x14) (Calm.move rfl rfl) ?_
                  refine AO.calm rfl 56 rfl (by decide) (eI64 (w64 (x14 + (1 : Int)))) (Calm.int rfl rfl rfl rfl) ?_
                  refine AO.calm rfl 8 rfl (by decide) (eI64 (w64 (x14 + (1 : Int)))) (Calm.assign rfl rfl) ?_
                  refine AO.nil (ρ' := [(3, (.fz 4 (t5.1.map e43))), (4, (eBool t5.2)), (5, (.fz 4 (t6.1.map e43))), (6, (eBool t6.2)), (7, (.fz 1 (t7.map eStr))), (8, (eI64 (w64 (x14 + (1 : Int))))), (9, (eI64 x15))]) (H' := []) ⟨rfl, rfl, rfl, rfl, rfl, rfl, rfl, trivial⟩ (Sub.refl _) ?_
                  exact ⟨(w64 (x14 + (1 : Int))), rfl, rfl, h⟩
          · rintro _ _ ⟨x19, rfl, rfl, h⟩
            rw [bosketlaw31_AstReads_c1.eq_1] at h
            refine AW.reg ?_
            refine AO.calm rfl 31 rfl (by decide) (eI64 x15) (Calm.move rfl rfl) ?_
            refine AO.calm rfl 32 rfl (by decide) (eI64 (w64 (x15 + (1 : Int)))) (Calm.int rfl rfl rfl rfl) ?_
            refine AO.calm rfl 9 rfl (by decide) (eI64 (w64 (x15 + (1 : Int)))) (Calm.assign rfl rfl) ?_
            refine AO.nil (ρ' := [(3, (.fz 4 (t5.1.map e43))), (4, (eBool t5.2)), (5, (.fz 4 (t6.1.map e43))), (6, (eBool t6.2)), (7, (.fz 1 (t7.map eStr))), (8, (eI64 x19)), (9, (eI64 (w64 (x15 + (1 : Int)))))]) (H' := []) ⟨rfl, rfl, rfl, rfl, rfl, rfl, rfl, trivial⟩ (Sub.refl _) ?_
            exact ⟨kq17, Nat.lt_succ_self _, x19, (w64 (x15 + (1 : Int))), rfl, rfl, by rw [hrec16]; exact h⟩
        · have h := (if_neg hc18).symm.trans h
          refine AW.condN (x15 < (t6.1.length : Int)) rfl hc18 ?_
          refine AW.exit (ρ' := [(3, (.fz 4 (t5.1.map e43))), (4, (eBool t5.2)), (5, (.fz 4 (t6.1.map e43))), (6, (eBool t6.2)), (7, (.fz 1 (t7.map eStr))), (8, (eI64 x14))]) (H' := []) ⟨rfl, rfl, rfl, rfl, rfl, rfl, trivial⟩ (Sub.refl _) ?_
          exact ⟨x14, rfl, rfl, h⟩
      · rintro _ _ ⟨x8, rfl, rfl, h⟩
        rw [bosketlaw31_AstReads_c0.eq_1] at h
        refine AW.seq ?_
        obtain ⟨b9, hq10, h⟩ := of_bind h
        refine AW.regM [(2, (eBool b9))] [] ?_ ?_
        · refine AO.calm rfl 57 rfl (by decide) (eBool t5.2) (Calm.move rfl rfl) ?_
          refine AO.calm rfl 58 rfl (by decide) (eBool t6.2) (Calm.move rfl rfl) ?_
          refine AO.calm rfl 59 rfl (by decide) (eBool (t5.2 == t6.2)) (Calm.boolEq rfl rfl rfl Try.underlying4) ?_
          refine AO.calm rfl 60 rfl (by decide) (eBool (t5.2 == t6.2)) (Calm.move rfl rfl) ?_
          by_cases hc11 : (t5.2 == t6.2) = true
          · have hq10 := (if_pos hc11).symm.trans hq10
            refine AO.calmG 3 true 60 rfl rfl (congrArg (fun b => some (AV.fl (Value.bool b))) hc11) 61 rfl (by decide) (.fz 4 (t5.1.map e43)) (Calm.move rfl rfl) ?_
            refine AO.calmG 3 true 60 rfl rfl (congrArg (fun b => some (AV.fl (Value.bool b))) hc11) 62 rfl (by decide) (.fz 4 (t6.1.map e43)) (Calm.move rfl rfl) ?_
            obtain ⟨t12, et12, hq10⟩ := of_bind hq10
            refine AO.callG 3 true 60 [(.fz 4 (t5.1.map e43)), (.fz 4 (t6.1.map e43))] (eBool t12) 63 rfl (by decide) ok27 rfl rfl (congrArg (fun b => some (AV.fl (Value.bool b))) hc11) rfl rfl ⟨rfl, rfl, rfl, rfl, trivial⟩ (bosketref31_Same_spec et12) ?_
            refine AO.calm rfl 64 rfl (by decide) (eBool t12) (Calm.pickT rfl (congrArg (fun b => some (AV.fl (Value.bool b))) hc11) rfl) ?_
            refine AO.calm rfl 65 rfl (by decide) (eBool t12) (Calm.move rfl rfl) ?_
            by_cases hc13 : t12 = true
            · have hq10 := (if_pos hc13).symm.trans hq10
              refine AO.calmG 8 true 65 rfl rfl (congrArg (fun b => some (AV.fl (Value.bool b))) hc13) 66 rfl (by decide) (eI64 x8) (Calm.move rfl rfl) ?_
              refine AO.calmG 8 true 65 rfl rfl (congrArg (fun b => some (AV.fl (Value.bool b))) hc13) 67 rfl (by decide) (.fz 1 (t7.map eStr)) (Calm.move rfl rfl) ?_
              refine AO.calmG 8 true 65 rfl rfl (congrArg (fun b => some (AV.fl (Value.bool b))) hc13) 68 rfl (by decide) (eI64 (t7.length : Int)) (Calm.lenL rfl rfl Try.underlying45) ?_
              refine AO.calmG 8 true 65 rfl rfl (congrArg (fun b => some (AV.fl (Value.bool b))) hc13) 69 rfl (by decide) (eBool (decide (x8 = (t7.length : Int)))) (Calm.int rfl rfl rfl rfl) ?_
              refine AO.calm rfl 70 rfl (by decide) (eBool (decide (x8 = (t7.length : Int)))) (Calm.pickT rfl (congrArg (fun b => some (AV.fl (Value.bool b))) hc13) rfl) ?_
              refine AO.calm rfl 2 rfl (by decide) (eBool (decide (x8 = (t7.length : Int)))) (Calm.assign rfl rfl) ?_
              cases hq10
              refine AO.nilE ⟨rfl, rfl⟩ ?_ ?_
              · exact ⟨rfl, trivial⟩
              · exact (Sub.refl _)
            · have hq10 := (if_neg hc13).symm.trans hq10
              refine AO.skipG 8 false 65 rfl rfl (congrArg (fun b => some (AV.fl (Value.bool b))) (eq_false_of_ne_true hc13)) 66 rfl (by decide) ?_
              refine AO.skipG 8 false 65 rfl rfl (congrArg (fun b => some (AV.fl (Value.bool b))) (eq_false_of_ne_true hc13)) 67 rfl (by decide) ?_
              refine AO.skipG 8 false 65 rfl rfl (congrArg (fun b => some (AV.fl (Value.bool b))) (eq_false_of_ne_true hc13)) 68 rfl (by decide) ?_
              refine AO.skipG 8 false 65 rfl rfl (congrArg (fun b => some (AV.fl (Value.bool b))) (eq_false_of_ne_true hc13)) 69 rfl (by decide) ?_
              refine AO.calm rfl 70 rfl (by decide) (eBool false) (Calm.pickF rfl (congrArg (fun b => some (AV.fl (Value.bool b))) (eq_false_of_ne_true hc13)) rfl) ?_
              refine AO.calm rfl 2 rfl (by decide) (eBool false) (Calm.assign rfl rfl) ?_
              cases hq10
              refine AO.nilE ⟨rfl, rfl⟩ ?_ ?_
              · exact ⟨rfl, trivial⟩
              · exact (Sub.refl _)
          · have hq10 := (if_neg hc11).symm.trans hq10
            refine AO.skipG 3 false 60 rfl rfl (congrArg (fun b => some (AV.fl (Value.bool b))) (eq_false_of_ne_true hc11)) 61 rfl (by decide) ?_
            refine AO.skipG 3 false 60 rfl rfl (congrArg (fun b => some (AV.fl (Value.bool b))) (eq_false_of_ne_true hc11)) 62 rfl (by decide) ?_
            refine AO.skipG 3 false 60 rfl rfl (congrArg (fun b => some (AV.fl (Value.bool b))) (eq_false_of_ne_true hc11)) 63 rfl (by decide) ?_
            refine AO.calm rfl 64 rfl (by decide) (eBool false) (Calm.pickF rfl (congrArg (fun b => some (AV.fl (Value.bool b))) (eq_false_of_ne_true hc11)) rfl) ?_
            refine AO.calm rfl 65 rfl (by decide) (eBool false) (Calm.move rfl rfl) ?_
            refine AO.skipG 8 false 65 rfl rfl rfl 66 rfl (by decide) ?_
            refine AO.skipG 8 false 65 rfl rfl rfl 67 rfl (by decide) ?_
            refine AO.skipG 8 false 65 rfl rfl rfl 68 rfl (by decide) ?_
            refine AO.skipG 8 false 65 rfl rfl rfl 69 rfl (by decide) ?_
            refine AO.calm rfl 70 rfl (by decide) (eBool false) (Calm.pickF rfl rfl rfl) ?_
            refine AO.calm rfl 2 rfl (by decide) (eBool false) (Calm.assign rfl rfl) ?_
            cases hq10
            refine AO.nilE ⟨rfl, rfl⟩ ?_ ?_
            · exact ⟨rfl, trivial⟩
            · exact (Sub.refl _)
        · refine AW.ret (ρ' := [(2, (eBool b9))]) (H' := []) ⟨rfl, trivial⟩ (Sub.refl _) ?_
          have hr := Option.some.inj h
          subst hr
          exact ⟨[(eBool b9)], ⟨rfl, rfl, trivial⟩, rfl⟩
end Go.Avl.T2
