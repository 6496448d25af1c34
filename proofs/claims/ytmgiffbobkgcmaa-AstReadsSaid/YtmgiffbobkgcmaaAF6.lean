/- Parts: T2f25, T2f63, T2f84. -/
import Derived.Test.YtmgiffbobkgcmaaAF1
import Derived.Test.YtmgiffbobkgcmaaAF2
import Derived.Test.YtmgiffbobkgcmaaAF4
import Derived.Test.YtmgiffbobkgcmaaAF3
import Derived.Test.YtmgiffbobkgcmaaAF5
/- bosket/bosketref31.Show; printed by avmain.py. -/
namespace Go.Avl.T2
open Go Go.RowKit Go.Proofs Go.Avl
set_option linter.unusedVariables false
set_option maxRecDepth 100000
set_option maxHeartbeats 4000000
attribute [local irreducible] AW AO AQ Spec SpecH Calm

def bosketref31_Show_c0 (k : Nat) (x14 : ByteArray) : Option ByteArray :=
  if x14.size + (ByteArray.mk #[41]).size ≤ 9223372036854775807 then some ((x14 ++ (ByteArray.mk #[41])))
  else none
def bosketref31_Show_l1 (k : Nat) (self : ((List S43) → Option ByteArray)) (t13 : (List (List S43))) : Nat → ByteArray → Int → Option ByteArray
  | 0, _, _ => none
  | j + 1, x16, x17 =>
    if x17 < (t13.length : Int) then if x16.size + (ByteArray.mk #[32]).size ≤ 9223372036854775807 then if 0 ≤ x17 ∧ x17 < (t13.length : Int) then (self (lget t13 x17)).bind fun t23 =>
    if (x16 ++ (ByteArray.mk #[32])).size + t23.size ≤ 9223372036854775807 then (bosketref31_Show_l1 k self t13 j) ((x16 ++ (ByteArray.mk #[32])) ++ t23) (w64 (x17 + (1 : Int)))
    else none
    else none
    else none
    else bosketref31_Show_c0 k x16
def bosketref31_Show_r (k : Nat) : Nat → (List S43) → Option ByteArray
  | 0, _ => none
  | j + 1, p0 =>
    if 0 ≤ (0 : Int) ∧ (0 : Int) < (p0.length : Int) then if ((lget p0 (0 : Int)).f0) = true then if 0 ≤ (0 : Int) ∧ (0 : Int) < (p0.length : Int) then (bosketref13_Digits k ((lget p0 (0 : Int)).f1)).bind fun t5 =>
    if t5.size + (ByteArray.mk #[58]).size ≤ 9223372036854775807 then if 0 ≤ (0 : Int) ∧ (0 : Int) < (p0.length : Int) then (bosketref03_Quote k ((lget p0 (0 : Int)).f3) (34 : Int)).bind fun t8 =>
    if (t5 ++ (ByteArray.mk #[58])).size + t8.size ≤ 9223372036854775807 then some (((t5 ++ (ByteArray.mk #[58])) ++ t8))
    else none
    else none
    else none
    else none
    else if 0 ≤ (0 : Int) ∧ (0 : Int) < (p0.length : Int) then (bosketref13_Digits k ((lget p0 (0 : Int)).f1)).bind fun t11 =>
    if (ByteArray.mk #[40]).size + t11.size ≤ 9223372036854775807 then (bosketref31_Kids k p0).bind fun t13 =>
    bosketref31_Show_l1 k (bosketref31_Show_r k j) t13 k ((ByteArray.mk #[40]) ++ t11) (0 : Int)
    else none
    else none
    else none
def bosketref31_Show (k : Nat) (p0 : (List S43)) : Option ByteArray := bosketref31_Show_r k k p0
theorem bosketref31_Show_spec' (k : Nat) : ∀ (j : Nat) (p0 : (List S43)) (r : ByteArray), bosketref31_Show_r k j p0 = some r → Spec Try.prog 25 [(.fz 4 (p0.map e43))] (eStr r) := by
  intro j
  induction j with
  | zero => intro p0 r h; rw [bosketref31_Show_r.eq_1] at h; cases h
  | succ j hself =>
  intro p0 r h
  rw [bosketref31_Show_r.eq_2] at h
  generalize hs : bosketref31_Show_r k j = self at h hself
  refine Spec.intro (res := [.tmp 2]) Try.func25 rfl rfl rfl (Nat.le_of_ble_eq_true rfl) ?_
  refine AW.seq ?_
  refine AW.reg ?_
  refine AO.calm rfl 2 rfl (by decide) (eStr (ByteArray.mk #[])) (Calm.assign rfl rfl) ?_
  refine AO.nil (ρ' := [(0, (.fz 4 (p0.map e43)))]) (H' := []) ⟨rfl, trivial⟩ (Sub.refl _) ?_
  refine AW.seq ?_
  refine AW.seq ?_
  refine AW.reg ?_
  refine AO.calm rfl 6 rfl (by decide) (.fz 4 (p0.map e43)) (Calm.move rfl rfl) ?_
  obtain ⟨hg2, h⟩ := of_guard h
  refine AO.calm rfl 7 rfl (by decide) (.rp (e43 (lget p0 (0 : Int)))) (Calm.idxL (f := e43) rfl rfl rfl hg2 Try.underlying37 sz43) ?_
  refine AO.calm rfl 8 rfl (by decide) (.rp (eBool ((lget p0 (0 : Int)).f0))) (Calm.fldRp rfl rfl Try.underlying43 rfl sz4 (At.cast (At.fld0 At.here) rfl)) ?_
  refine AO.calm rfl 9 rfl (by decide) (eBool ((lget p0 (0 : Int)).f0)) (Calm.loadRp rfl rfl ag4 sz4) ?_
  refine AO.nil (ρ' := [(0, (.fz 4 (p0.map e43))), (9, (eBool ((lget p0 (0 : Int)).f0)))]) (H' := []) ⟨rfl, rfl, trivial⟩ (Sub.refl _) ?_
  by_cases hc3 : ((lget p0 (0 : Int)).f0) = true
  · have h := (if_pos hc3).symm.trans h
    refine AW.condT' ((lget p0 (0 : Int)).f0) rfl hc3 ?_
    refine AW.seq ?_
    refine AW.regQ (by rfl) (by decide +kernel) ?_
    refine AQ.calm rfl 10 rfl (by decide) (.fz 4 (p0.map e43)) (Calm.move rfl rfl) ?_
    obtain ⟨hg4, h⟩ := of_guard h
    refine AQ.calm rfl 11 rfl (by decide) (.rp (e43 (lget p0 (0 : Int)))) (Calm.idxL (f := e43) rfl rfl rfl hg4 Try.underlying37 sz43) ?_
    refine AQ.calm rfl 12 rfl (by decide) (.rp (eI64 ((lget p0 (0 : Int)).f1))) (Calm.fldRp rfl rfl Try.underlying43 rfl sz3 (At.cast (At.fldS (At.fld0 At.here)) rfl)) ?_
    refine AQ.calm rfl 13 rfl (by decide) (eI64 ((lget p0 (0 : Int)).f1)) (Calm.loadRp rfl rfl ag3 sz3) ?_
    obtain ⟨t5, et5, h⟩ := of_bind h
    refine AQ.calm rfl 14 rfl (by decide) (eStr t5) (Calm.call (args := [(eI64 ((lget p0 (0 : Int)).f1))]) rfl rfl ok19 ⟨rfl, rfl, trivial⟩ rfl (bosketref13_Digits_spec et5)) ?_
    obtain ⟨hg6, h⟩ := of_guard h
    refine AQ.calm rfl 15 rfl (by decide) (eStr (t5 ++ (ByteArray.mk #[58]))) (Calm.cat rfl rfl rfl hg6) ?_
    refine AQ.calm rfl 16 rfl (by decide) (.fz 4 (p0.map e43)) (Calm.move rfl rfl) ?_
    obtain ⟨hg7, h⟩ := of_guard h
    refine AQ.calm rfl 17 rfl (by decide) (.rp (e43 (lget p0 (0 : Int)))) (Calm.idxL (f := e43) rfl rfl rfl hg7 Try.underlying37 sz43) ?_
    refine AQ.calm rfl 18 rfl (by decide) (.rp (eStr ((lget p0 (0 : Int)).f3))) (Calm.fldRp rfl rfl Try.underlying43 rfl sz9 (At.cast (At.fldS (At.fldS (At.fldS (At.fld0 At.here)))) rfl)) ?_
    refine AQ.calm rfl 19 rfl (by decide) (eStr ((lget p0 (0 : Int)).f3)) (Calm.loadRp rfl rfl ag9 sz9) ?_
    obtain ⟨t8, et8, h⟩ := of_bind h
    refine AQ.calm rfl 20 rfl (by decide) (eStr t8) (Calm.call (args := [(eStr ((lget p0 (0 : Int)).f3)), (eU8 (34 : Int))]) rfl rfl ok61 ⟨rfl, rfl, rfl, rfl, trivial⟩ rfl (bosketref03_Quote_spec et8)) ?_
    obtain ⟨hg9, h⟩ := of_guard h
    refine AQ.calm rfl 21 rfl (by decide) (eStr ((t5 ++ (ByteArray.mk #[58])) ++ t8)) (Calm.cat rfl rfl rfl hg9) ?_
    refine AQ.calm rfl 2 rfl (by decide) (eStr ((t5 ++ (ByteArray.mk #[58])) ++ t8)) (Calm.assign rfl rfl) ?_
    refine AQ.nil (ρ' := [(2, (eStr ((t5 ++ (ByteArray.mk #[58])) ++ t8)))]) ⟨rfl, trivial⟩ ?_
    refine AW.ret (ρ' := [(2, (eStr ((t5 ++ (ByteArray.mk #[58])) ++ t8)))]) (H' := []) ⟨rfl, trivial⟩ (Sub.refl _) ?_
    have hr := Option.some.inj h
    subst hr
    exact ⟨[(eStr ((t5 ++ (ByteArray.mk #[58])) ++ t8))], ⟨rfl, rfl, trivial⟩, rfl⟩
  · have h := (if_neg hc3).symm.trans h
    refine AW.condF' ((lget p0 (0 : Int)).f0) rfl hc3 ?_
    refine AW.skip (ρ' := [(0, (.fz 4 (p0.map e43)))]) (H' := []) ⟨rfl, trivial⟩ (Sub.refl _) ?_
    refine AW.seq ?_
    refine AW.reg ?_
    refine AO.calm rfl 22 rfl (by decide) (.fz 4 (p0.map e43)) (Calm.move rfl rfl) ?_
    obtain ⟨hg10, h⟩ := of_guard h
    refine AO.calm rfl 23 rfl (by decide) (.rp (e43 (lget p0 (0 : Int)))) (Calm.idxL (f := e43) rfl rfl rfl hg10 Try.underlying37 sz43) ?_
    refine AO.calm rfl 24 rfl (by decide) (.rp (eI64 ((lget p0 (0 : Int)).f1))) (Calm.fldRp rfl rfl Try.underlying43 rfl sz3 (At.cast (At.fldS (At.fld0 At.here)) rfl)) ?_
    refine AO.calm rfl 25 rfl (by decide) (eI64 ((lget p0 (0 : Int)).f1)) (Calm.loadRp rfl rfl ag3 sz3) ?_
    obtain ⟨t11, et11, h⟩ := of_bind h
    refine AO.callS [(eI64 ((lget p0 (0 : Int)).f1))] (eStr t11) 26 rfl (by decide) ok19 rfl rfl rfl ⟨rfl, rfl, trivial⟩ (bosketref13_Digits_spec et11) ?_
    obtain ⟨hg12, h⟩ := of_guard h
    refine AO.calm rfl 27 rfl (by decide) (eStr ((ByteArray.mk #[40]) ++ t11)) (Calm.cat rfl rfl rfl hg12) ?_
    refine AO.calm rfl 3 rfl (by decide) (eStr ((ByteArray.mk #[40]) ++ t11)) (Calm.assign rfl rfl) ?_
    refine AO.nil (ρ' := [(0, (.fz 4 (p0.map e43))), (3, (eStr ((ByteArray.mk #[40]) ++ t11)))]) (H' := []) ⟨rfl, rfl, trivial⟩ (Sub.refl _) ?_
    refine AW.seq ?_
    refine AW.reg ?_
    refine AO.calm rfl 28 rfl (by decide) (.fz 4 (p0.map e43)) (Calm.move rfl rfl) ?_
    obtain ⟨t13, et13, h⟩ := of_bind h
    refine AO.callS [(.fz 4 (p0.map e43))] (.fz 1 (t13.map e37)) 29 rfl (by decide) ok35 rfl rfl rfl ⟨rfl, rfl, trivial⟩ (bosketref31_Kids_spec et13) ?_
    refine AO.calm rfl 4 rfl (by decide) (.fz 1 (t13.map e37)) (Calm.assign rfl rfl) ?_
    refine AO.nil (ρ' := [(3, (eStr ((ByteArray.mk #[40]) ++ t11))), (4, (.fz 1 (t13.map e37)))]) (H' := []) ⟨rfl, rfl, trivial⟩ (Sub.refl _) ?_
    refine AW.seq_mid (fun ρ H => ∃ (x14 : ByteArray), ρ = [(3, (eStr x14))] ∧ H = [] ∧ bosketref31_Show_c0 k x14 = some r) ?_ ?_
    · refine AW.seq ?_
      refine AW.reg ?_
      refine AO.calm rfl 5 rfl (by decide) (eI64 (0 : Int)) (Calm.assign rfl rfl) ?_
      refine AO.nil (ρ' := [(3, (eStr ((ByteArray.mk #[40]) ++ t11))), (4, (.fz 1 (t13.map e37))), (5, (eI64 (0 : Int)))]) (H' := []) ⟨rfl, rfl, rfl, trivial⟩ (Sub.refl _) ?_
      refine AW.block ?_
      refine AW.weak (ρ' := [(3, (eStr ((ByteArray.mk #[40]) ++ t11))), (4, (.fz 1 (t13.map e37))), (5, (eI64 (0 : Int)))]) (H' := []) ⟨rfl, rfl, rfl, trivial⟩ (Sub.refl _) ?_
      refine AW.loop (fun kq ρ H => ∃ (x16 : ByteArray) (x17 : Int), ρ = [(3, (eStr x16)), (4, (.fz 1 (t13.map e37))), (5, (eI64 x17))] ∧ H = [] ∧ bosketref31_Show_l1 k self t13 kq x16 x17 = some r) k ⟨((ByteArray.mk #[40]) ++ t11), (0 : Int), rfl, rfl, h⟩ ?_
      rintro kq19 _ _ ⟨x16, x17, rfl, rfl, h⟩
      cases kq19 with
      | zero => rw [bosketref31_Show_l1.eq_1] at h; cases h
      | succ kq19 =>
      rw [bosketref31_Show_l1.eq_2] at h
      generalize hrec18 : bosketref31_Show_l1 k self t13 kq19 = rec18 at h
      refine AW.seq ?_
      refine AW.seq ?_
      refine AW.reg ?_
      refine AO.calm rfl 30 rfl (by decide) (eI64 x17) (Calm.move rfl rfl) ?_
      refine AO.calm rfl 31 rfl (by decide) (.fz 1 (t13.map e37)) (Calm.move rfl rfl) ?_
      refine AO.calm rfl 32 rfl (by decide) (eI64 (t13.length : Int)) (Calm.lenL rfl rfl Try.underlying49) ?_
      refine AO.calm rfl 33 rfl (by decide) (eBool (decide (x17 < (t13.length : Int)))) (Calm.int rfl rfl rfl rfl) ?_
      refine AO.nil (ρ' := [(3, (eStr x16)), (4, (.fz 1 (t13.map e37))), (5, (eI64 x17)), (33, (eBool (decide (x17 < (t13.length : Int)))))]) (H' := []) ⟨rfl, rfl, rfl, rfl, trivial⟩ (Sub.refl _) ?_
      by_cases hc20 : x17 < (t13.length : Int)
      · have h := (if_pos hc20).symm.trans h
        refine AW.condP (x17 < (t13.length : Int)) rfl hc20 ?_
        refine AW.skip (ρ' := [(3, (eStr x16)), (4, (.fz 1 (t13.map e37))), (5, (eI64 x17))]) (H' := []) ⟨rfl, rfl, rfl, trivial⟩ (Sub.refl _) ?_
        refine AW.seq ?_
        refine AW.block ?_
        refine AW.reg ?_
        refine AO.calm rfl 36 rfl (by decide) (eStr x16) (Calm.move rfl rfl) ?_
        obtain ⟨hg21, h⟩ := of_guard h
        refine AO.calm rfl 37 rfl (by decide) (eStr (x16 ++ (ByteArray.mk #[32]))) (Calm.cat rfl rfl rfl hg21) ?_
        refine AO.calm rfl 38 rfl (by decide) (.fz 1 (t13.map e37)) (Calm.move rfl rfl) ?_
        refine AO.calm rfl 39 rfl (by decide) (eI64 x17) (Calm.move rfl rfl) ?_
        obtain ⟨hg22, h⟩ := of_guard h
        refine AO.calm rfl 40 rfl (by decide) (.rp (.fz 4 ((lget t13 x17).map e43))) (Calm.idxL (f := e37) rfl rfl rfl hg22 Try.underlying49 sz37) ?_
        refine AO.calm rfl 41 rfl (by decide) (.fz 4 ((lget t13 x17).map e43)) (Calm.loadRp rfl rfl ag37 sz37) ?_
        obtain ⟨t23, et23, h⟩ := of_bind h
        refine AO.callS [(.fz 4 ((lget t13 x17).map e43))] (eStr t23) 42 rfl (by decide) ok25 rfl rfl rfl ⟨rfl, rfl, trivial⟩ (hself _ _ et23) ?_
        obtain ⟨hg24, h⟩ := of_guard h
        refine AO.calm rfl 43 rfl (by decide) (eStr ((x16 ++ (ByteArray.mk #[32])) ++ t23)) (Calm.cat rfl rfl rfl hg24) ?_
        refine AO.calm rfl 3 rfl (by decide) (eStr ((x16 ++ (ByteArray.mk #[32])) ++ t23)) (Calm.assign rfl rfl) ?_
        refine AO.nil (ρ' := [(3, (eStr ((x16 ++ (ByteArray.mk #[32])) ++ t23))), (4, (.fz 1 (t13.map e37))), (5, (eI64 x17))]) (H' := []) ⟨rfl, rfl, rfl, trivial⟩ (Sub.refl _) ?_
        refine AW.reg ?_
        refine AO.calm rfl 34 rfl (by decide) (eI64 x17) (Calm.move rfl rfl) ?_
        refine AO.calm rfl 35 rfl (by decide) (eI64 (w64 (x17 + (1 : Int)))) (Calm.int rfl rfl rfl rfl) ?_
        refine AO.calm rfl 5 rfl (by decide) (eI64 (w64 (x17 + (1 : Int)))) (Calm.assign rfl rfl) ?_
        refine AO.nil (ρ' := [(3, (eStr ((x16 ++ (ByteArray.mk #[32])) ++ t23))), (4, (.fz 1 (t13.map e37))), (5, (eI64 (w64 (x17 + (1 : Int)))))]) (H' := []) ⟨rfl, rfl, rfl, trivial⟩ (Sub.refl _) ?_
        exact ⟨kq19, Nat.lt_succ_self _, ((x16 ++ (ByteArray.mk #[32])) ++ t23), (w64 (x17 + (1 : Int))), rfl, rfl, by rw [hrec18]; exact h⟩
      · have h := (if_neg hc20).symm.trans h
        refine AW.condN (x17 < (t13.length : Int)) rfl hc20 ?_
        refine AW.exit (ρ' := [(3, (eStr x16))]) (H' := []) ⟨rfl, trivial⟩ (Sub.refl _) ?_
        exact ⟨x16, rfl, rfl, h⟩
    · rintro _ _ ⟨x14, rfl, rfl, h⟩
      rw [bosketref31_Show_c0.eq_1] at h
      refine AW.seq ?_
      refine AW.reg ?_
      refine AO.calm rfl 44 rfl (by decide) (eStr x14) (Calm.move rfl rfl) ?_
      obtain ⟨hg15, h⟩ := of_guard h
      refine AO.calm rfl 45 rfl (by decide) (eStr (x14 ++ (ByteArray.mk #[41]))) (Calm.cat rfl rfl rfl hg15) ?_
      refine AO.calm rfl 2 rfl (by decide) (eStr (x14 ++ (ByteArray.mk #[41]))) (Calm.assign rfl rfl) ?_
      refine AO.nil (ρ' := [(2, (eStr (x14 ++ (ByteArray.mk #[41]))))]) (H' := []) ⟨rfl, trivial⟩ (Sub.refl _) ?_
      refine AW.ret (ρ' := [(2, (eStr (x14 ++ (ByteArray.mk #[41]))))]) (H' := []) ⟨rfl, trivial⟩ (Sub.refl _) ?_
      have hr := Option.some.inj h
      subst hr
      exact ⟨[(eStr (x14 ++ (ByteArray.mk #[41])))], ⟨rfl, rfl, trivial⟩, rfl⟩
theorem bosketref31_Show_spec {k : Nat} {p0 : (List S43)} {r : ByteArray} (h : bosketref31_Show k p0 = some r) : Spec Try.prog 25 [(.fz 4 (p0.map e43))] (eStr r) := bosketref31_Show_spec' k k p0 r h
end Go.Avl.T2
/- bosket/bosketref31.read; printed by avmain.py. -/
namespace Go.Avl.T2
open Go Go.RowKit Go.Proofs Go.Avl
set_option linter.unusedVariables false
set_option maxRecDepth 100000
set_option maxHeartbeats 4000000
attribute [local irreducible] AW AO AQ Spec SpecH Calm

def bosketref31_read_c0 (k : Nat) (p0 : ByteArray) (x27 : Int) (x29 : (List S43)) (x30 : Int) : Option ((List S43) × Int) :=
  Option.bind (α := Bool) (if (p0.size : Int) ≤ x27 then some (true)
  else if 0 ≤ x27 ∧ x27 < (p0.size : Int) then some (decide ((byteAt p0 x27) ≠ (41 : Int)))
  else none) fun b31 =>
  if b31 = true then some ([], (-1 : Int))
  else if 0 ≤ (0 : Int) ∧ (0 : Int) < (x29.length : Int) then some ((lset x29 (0 : Int) (S43.mk ((lget x29 (0 : Int)).f0) ((lget x29 (0 : Int)).f1) x30 ((lget x29 (0 : Int)).f3))), (w64 (x27 + (1 : Int))))
  else none
def bosketref31_read_l1 (k : Nat) (self : (ByteArray → Int → Int → Option ((List S43) × Int))) (p0 : ByteArray) (p2 : Int) : Nat → Int → (List S43) → Int → Option ((List S43) × Int)
  | 0, _, _, _ => none
  | j + 1, x37, x39, x40 =>
    Option.bind (α := Bool) (if x37 < (p0.size : Int) then if 0 ≤ x37 ∧ x37 < (p0.size : Int) then some (decide ((byteAt p0 x37) = (32 : Int)))
    else none
    else some (false)) fun b43 =>
    if b43 = true then (self p0 (w64 (x37 + (1 : Int))) (w64 (p2 + (1 : Int)))).bind fun t48 =>
    if t48.2 < (0 : Int) then some ([], (-1 : Int))
    else if (x39 ++ t48.1).length * 40 ≤ 140737488355328 then (bosketref31_read_l1 k self p0 p2 j) t48.2 (x39 ++ t48.1) (w64 (x40 + (1 : Int)))
    else none
    else bosketref31_read_c0 k p0 x37 x39 x40
def bosketref31_read_c2 (k : Nat) (self : (ByteArray → Int → Int → Option ((List S43) × Int))) (p0 : ByteArray) (p2 : Int) (b4 : Bool) (x8 : Int) (x9 : Int) : Option ((List S43) × Int) :=
  if 0 ≤ x8 ∧ x8 ≤ x9 ∧ x9 ≤ (p0.size : Int) then (bosketref13_Number k (p0.extract x8.toNat x9.toNat)).bind fun t11 =>
  Option.bind (α := Bool) (if (!t11.2) = true then some (true)
  else if (p0.size : Int) ≤ x9 then some (true)
  else some (decide ((2000 : Int) < p2))) fun b12 =>
  if b12 = true then some ([], (-1 : Int))
  else if (!b4) = true then if 0 ≤ (w64 (x9 + (1 : Int))) ∧ (w64 (x9 + (1 : Int))) ≤ (p0.size : Int) ∧ (p0.size : Int) ≤ (p0.size : Int) then (bosketref03_Unquote k (p0.extract (w64 (x9 + (1 : Int))).toNat (p0.size : Int).toNat) (34 : Int)).bind fun t19 =>
  Option.bind (α := Bool) (if 0 ≤ x9 ∧ x9 < (p0.size : Int) then if (byteAt p0 x9) ≠ (58 : Int) then some (true)
  else some (!t19.2.2)
  else none) fun b20 =>
  if b20 = true then some ([], (-1 : Int))
  else some ([(S43.mk true t11.1 (0 : Int) t19.1)], (w64 ((w64 (x9 + (1 : Int))) + t19.2.1)))
  else none
  else bosketref31_read_l1 k self p0 p2 k x9 [(S43.mk false t11.1 (0 : Int) ByteArray.empty)] (0 : Int)
  else none
def bosketref31_read_l3 (k : Nat) (self : (ByteArray → Int → Int → Option ((List S43) × Int))) (p0 : ByteArray) (p2 : Int) (b4 : Bool) (x8 : Int) : Nat → Int → Option ((List S43) × Int)
  | 0, _ => none
  | j + 1, x52 =>
    Option.bind (α := Bool) (if x52 < (p0.size : Int) then if 0 ≤ x52 ∧ x52 < (p0.size : Int) then if (byteAt p0 x52) = (45 : Int) then some (true)
    else if 0 ≤ x52 ∧ x52 < (p0.size : Int) then if (48 : Int) ≤ (byteAt p0 x52) then if 0 ≤ x52 ∧ x52 < (p0.size : Int) then some (decide ((byteAt p0 x52) ≤ (57 : Int)))
    else none
    else some (false)
    else none
    else none
    else some (false)) fun b55 =>
    if b55 = true then (bosketref31_read_l3 k self p0 p2 b4 x8 j) (w64 (x52 + (1 : Int)))
    else bosketref31_read_c2 k self p0 p2 b4 x8 x52
def bosketref31_read_c4 (k : Nat) (self : (ByteArray → Int → Int → Option ((List S43) × Int))) (p0 : ByteArray) (p2 : Int) (b4 : Bool) (x8 : Int) : Option ((List S43) × Int) :=
  bosketref31_read_l3 k self p0 p2 b4 x8 k x8
def bosketref31_read_r (k : Nat) : Nat → ByteArray → Int → Int → Option ((List S43) × Int)
  | 0, _, _, _ => none
  | j + 1, p0, p1, p2 =>
    Option.bind (α := Bool) (if p1 < (p0.size : Int) then if 0 ≤ p1 ∧ p1 < (p0.size : Int) then some (decide ((byteAt p0 p1) = (40 : Int)))
    else none
    else some (false)) fun b4 =>
    if b4 = true then bosketref31_read_c4 k (bosketref31_read_r k j) p0 p2 b4 (w64 (p1 + (1 : Int)))
    else bosketref31_read_c4 k (bosketref31_read_r k j) p0 p2 b4 p1
def bosketref31_read (k : Nat) (p0 : ByteArray) (p1 : Int) (p2 : Int) : Option ((List S43) × Int) := bosketref31_read_r k k p0 p1 p2
theorem bosketref31_read_spec' (k : Nat) : ∀ (j : Nat) (p0 : ByteArray) (p1 : Int) (p2 : Int) (r : ((List S43) × Int)), bosketref31_read_r k j p0 p1 p2 = some r → Spec Try.prog 63 [(eStr p0), (eI64 p1), (eI64 p2)] (.tup [(.fz 4 (r.1.map e43)), (eI64 r.2)]) := by
  intro j
  induction j with
  | zero => intro p0 p1 p2 r h; rw [bosketref31_read_r.eq_1] at h; cases h
  | succ j hself =>
  intro p0 p1 p2 r h
  rw [bosketref31_read_r.eq_2] at h
  generalize hs : bosketref31_read_r k j = self at h hself
  refine Spec.intro (res := [.tmp 6, .tmp 7]) Try.func63 rfl rfl rfl (Nat.le_of_ble_eq_true rfl) ?_
  refine AW.seq ?_
  refine AW.reg ?_
  refine AO.calm rfl 6 rfl (by decide) (.fl (.slice none 0 0)) (Calm.assign rfl rfl) ?_
  refine AO.calm rfl 7 rfl (by decide) (eI64 (0 : Int)) (Calm.assign rfl rfl) ?_
  refine AO.nil (ρ' := [(0, (eStr p0)), (1, (eI64 p1)), (2, (eI64 p2))]) (H' := []) ⟨rfl, rfl, rfl, trivial⟩ (Sub.refl _) ?_
  refine AW.seq ?_
  obtain ⟨b4, hq5, h⟩ := of_bind h
  refine AW.regM [(0, (eStr p0)), (1, (eI64 p1)), (2, (eI64 p2)), (8, (eBool b4))] [] ?_ ?_
  · refine AO.calm rfl 20 rfl (by decide) (eI64 p1) (Calm.move rfl rfl) ?_
    refine AO.calm rfl 21 rfl (by decide) (eStr p0) (Calm.move rfl rfl) ?_
    refine AO.calm rfl 22 rfl (by decide) (eI64 (p0.size : Int)) (Calm.lenStr rfl rfl Try.underlying9) ?_
    refine AO.calm rfl 23 rfl (by decide) (eBool (decide (p1 < (p0.size : Int)))) (Calm.int rfl rfl rfl rfl) ?_
    refine AO.calm rfl 24 rfl (by decide) (eBool (decide (p1 < (p0.size : Int)))) (Calm.move rfl rfl) ?_
    by_cases hc6 : p1 < (p0.size : Int)
    · have hq5 := (if_pos hc6).symm.trans hq5
      refine AO.calmG 4 true 24 rfl rfl (congrArg (fun b => some (AV.fl (Value.bool b))) (decide_eq_true hc6)) 25 rfl (by decide) (eStr p0) (Calm.move rfl rfl) ?_
      refine AO.calmG 4 true 24 rfl rfl (congrArg (fun b => some (AV.fl (Value.bool b))) (decide_eq_true hc6)) 26 rfl (by decide) (eI64 p1) (Calm.move rfl rfl) ?_
      obtain ⟨hg7, hq5⟩ := of_guard hq5
      refine AO.calmG 4 true 24 rfl rfl (congrArg (fun b => some (AV.fl (Value.bool b))) (decide_eq_true hc6)) 27 rfl (by decide) (eU8 (byteAt p0 p1)) (Calm.idxS rfl rfl rfl hg7 Try.underlying9) ?_
      refine AO.calmG 4 true 24 rfl rfl (congrArg (fun b => some (AV.fl (Value.bool b))) (decide_eq_true hc6)) 28 rfl (by decide) (eBool (decide ((byteAt p0 p1) = (40 : Int)))) (Calm.int rfl rfl rfl rfl) ?_
      refine AO.calm rfl 29 rfl (by decide) (eBool (decide ((byteAt p0 p1) = (40 : Int)))) (Calm.pickT rfl (congrArg (fun b => some (AV.fl (Value.bool b))) (decide_eq_true hc6)) rfl) ?_
      refine AO.calm rfl 8 rfl (by decide) (eBool (decide ((byteAt p0 p1) = (40 : Int)))) (Calm.assign rfl rfl) ?_
      cases hq5
      refine AO.nilE ⟨rfl, rfl⟩ ?_ ?_
      · exact ⟨rfl, rfl, rfl, rfl, trivial⟩
      · exact (Sub.refl _)
    · have hq5 := (if_neg hc6).symm.trans hq5
      refine AO.skipG 4 false 24 rfl rfl (congrArg (fun b => some (AV.fl (Value.bool b))) (decide_eq_false hc6)) 25 rfl (by decide) ?_
      refine AO.skipG 4 false 24 rfl rfl (congrArg (fun b => some (AV.fl (Value.bool b))) (decide_eq_false hc6)) 26 rfl (by decide) ?_
      refine AO.skipG 4 false 24 rfl rfl (congrArg (fun b => some (AV.fl (Value.bool b))) (decide_eq_false hc6)) 27 rfl (by decide) ?_
      refine AO.skipG 4 false 24 rfl rfl (congrArg (fun b => some (AV.fl (Value.bool b))) (decide_eq_false hc6)) 28 rfl (by decide) ?_
      refine AO.calm rfl 29 rfl (by decide) (eBool false) (Calm.pickF rfl (congrArg (fun b => some (AV.fl (Value.bool b))) (decide_eq_false hc6)) rfl) ?_
      refine AO.calm rfl 8 rfl (by decide) (eBool false) (Calm.assign rfl rfl) ?_
      cases hq5
      refine AO.nilE ⟨rfl, rfl⟩ ?_ ?_
      · exact ⟨rfl, rfl, rfl, rfl, trivial⟩
      · exact (Sub.refl _)
  · refine AW.seq ?_
    refine AW.reg ?_
    refine AO.calm rfl 30 rfl (by decide) (eI64 p1) (Calm.move rfl rfl) ?_
    refine AO.calm rfl 9 rfl (by decide) (eI64 p1) (Calm.assign rfl rfl) ?_
    refine AO.nil (ρ' := [(0, (eStr p0)), (2, (eI64 p2)), (8, (eBool b4)), (9, (eI64 p1))]) (H' := []) ⟨rfl, rfl, rfl, rfl, trivial⟩ (Sub.refl _) ?_
    refine AW.seq_mid (fun ρ H => ∃ (x8 : Int), ρ = [(0, (eStr p0)), (2, (eI64 p2)), (8, (eBool b4)), (9, (eI64 x8))] ∧ H = [] ∧ bosketref31_read_c4 k self p0 p2 b4 x8 = some r) ?_ ?_
    · refine AW.seq ?_
      refine AW.reg ?_
      refine AO.calm rfl 31 rfl (by decide) (eBool b4) (Calm.move rfl rfl) ?_
      refine AO.nil (ρ' := [(0, (eStr p0)), (2, (eI64 p2)), (8, (eBool b4)), (9, (eI64 p1)), (31, (eBool b4))]) (H' := []) ⟨rfl, rfl, rfl, rfl, rfl, trivial⟩ (Sub.refl _) ?_
      by_cases hc64 : b4 = true
      · have h := (if_pos hc64).symm.trans h
        refine AW.condT' b4 rfl hc64 ?_
        refine AW.reg ?_
        refine AO.calm rfl 32 rfl (by decide) (eI64 p1) (Calm.move rfl rfl) ?_
        refine AO.calm rfl 33 rfl (by decide) (eI64 (w64 (p1 + (1 : Int)))) (Calm.int rfl rfl rfl rfl) ?_
        refine AO.calm rfl 9 rfl (by decide) (eI64 (w64 (p1 + (1 : Int)))) (Calm.assign rfl rfl) ?_
        refine AO.nil (ρ' := [(0, (eStr p0)), (2, (eI64 p2)), (8, (eBool b4)), (9, (eI64 (w64 (p1 + (1 : Int)))))]) (H' := []) ⟨rfl, rfl, rfl, rfl, trivial⟩ (Sub.refl _) ?_
        exact ⟨(w64 (p1 + (1 : Int))), rfl, rfl, h⟩
      · have h := (if_neg hc64).symm.trans h
        refine AW.condF' b4 rfl hc64 ?_
        refine AW.skip (ρ' := [(0, (eStr p0)), (2, (eI64 p2)), (8, (eBool b4)), (9, (eI64 p1))]) (H' := []) ⟨rfl, rfl, rfl, rfl, trivial⟩ (Sub.refl _) ?_
        exact ⟨p1, rfl, rfl, h⟩
    · rintro _ _ ⟨x8, rfl, rfl, h⟩
      rw [bosketref31_read_c4.eq_1] at h
      refine AW.seq ?_
      refine AW.reg ?_
      refine AO.calm rfl 34 rfl (by decide) (eI64 x8) (Calm.move rfl rfl) ?_
      refine AO.calm rfl 10 rfl (by decide) (eI64 x8) (Calm.assign rfl rfl) ?_
      refine AO.nil (ρ' := [(0, (eStr p0)), (2, (eI64 p2)), (8, (eBool b4)), (9, (eI64 x8)), (10, (eI64 x8))]) (H' := []) ⟨rfl, rfl, rfl, rfl, rfl, trivial⟩ (Sub.refl _) ?_
      refine AW.seq_mid (fun ρ H => ∃ (x9 : Int), ρ = [(0, (eStr p0)), (2, (eI64 p2)), (8, (eBool b4)), (9, (eI64 x8)), (10, (eI64 x9))] ∧ H = [] ∧ bosketref31_read_c2 k self p0 p2 b4 x8 x9 = some r) ?_ ?_
      · refine AW.block ?_
        refine AW.weak (ρ' := [(0, (eStr p0)), (2, (eI64 p2)), (8, (eBool b4)), (9, (eI64 x8)), (10, (eI64 x8))]) (H' := []) ⟨rfl, rfl, rfl, rfl, rfl, trivial⟩ (Sub.refl _) ?_
        refine AW.loop (fun kq ρ H => ∃ (x52 : Int), ρ = [(0, (eStr p0)), (2, (eI64 p2)), (8, (eBool b4)), (9, (eI64 x8)), (10, (eI64 x52))] ∧ H = [] ∧ bosketref31_read_l3 k self p0 p2 b4 x8 kq x52 = some r) k ⟨x8, rfl, rfl, h⟩ ?_
        rintro kq54 _ _ ⟨x52, rfl, rfl, h⟩
        cases kq54 with
        | zero => rw [bosketref31_read_l3.eq_1] at h; cases h
        | succ kq54 =>
        rw [bosketref31_read_l3.eq_2] at h
        generalize hrec53 : bosketref31_read_l3 k self p0 p2 b4 x8 kq54 = rec53 at h
        refine AW.seq ?_
        refine AW.seq ?_
        obtain ⟨b55, hq56, h⟩ := of_bind h
        refine AW.regM [(0, (eStr p0)), (2, (eI64 p2)), (8, (eBool b4)), (9, (eI64 x8)), (10, (eI64 x52)), (56, (eBool b55))] [] ?_ ?_
        · refine AO.calm rfl 35 rfl (by decide) (eI64 x52) (Calm.move rfl rfl) ?_
          refine AO.calm rfl 36 rfl (by decide) (eStr p0) (Calm.move rfl rfl) ?_
          refine AO.calm rfl 37 rfl (by decide) (eI64 (p0.size : Int)) (Calm.lenStr rfl rfl Try.underlying9) ?_
          refine AO.calm rfl 38 rfl (by decide) (eBool (decide (x52 < (p0.size : Int)))) (Calm.int rfl rfl rfl rfl) ?_
          refine AO.calm rfl 39 rfl (by decide) (eBool (decide (x52 < (p0.size : Int)))) (Calm.move rfl rfl) ?_
          by_cases hc57 : x52 < (p0.size : Int)
          · have hq56 := (if_pos hc57).symm.trans hq56
            refine AO.calmG 4 true 39 rfl rfl (congrArg (fun b => some (AV.fl (Value.bool b))) (decide_eq_true hc57)) 40 rfl (by decide) (eStr p0) (Calm.move rfl rfl) ?_
            refine AO.calmG 4 true 39 rfl rfl (congrArg (fun b => some (AV.fl (Value.bool b))) (decide_eq_true hc57)) 41 rfl (by decide) (eI64 x52) (Calm.move rfl rfl) ?_
            obtain ⟨hg58, hq56⟩ := of_guard hq56
            refine AO.calmG 4 true 39 rfl rfl (congrArg (fun b => some (AV.fl (Value.bool b))) (decide_eq_true hc57)) 42 rfl (by decide) (eU8 (byteAt p0 x52)) (Calm.idxS rfl rfl rfl hg58 Try.underlying9) ?_
            refine AO.calmG 4 true 39 rfl rfl (congrArg (fun b => some (AV.fl (Value.bool b))) (decide_eq_true hc57)) 43 rfl (by decide) (eBool (decide ((byteAt p0 x52) = (45 : Int)))) (Calm.int rfl rfl rfl rfl) ?_
            refine AO.calmG 4 true 39 rfl rfl (congrArg (fun b => some (AV.fl (Value.bool b))) (decide_eq_true hc57)) 44 rfl (by decide) (eBool (decide ((byteAt p0 x52) = (45 : Int)))) (Calm.move rfl rfl) ?_
            by_cases hc59 : (byteAt p0 x52) = (45 : Int)
            · have hq56 := (if_pos hc59).symm.trans hq56
              refine AO.skipG 9 true 44 rfl rfl (congrArg (fun b => some (AV.fl (Value.bool b))) (decide_eq_true hc59)) 45 rfl (by decide) ?_
              refine AO.skipG 9 true 44 rfl rfl (congrArg (fun b => some (AV.fl (Value.bool b))) (decide_eq_true hc59)) 46 rfl (by decide) ?_
              refine AO.skipG 9 true 44 rfl rfl (congrArg (fun b => some (AV.fl (Value.bool b))) (decide_eq_true hc59)) 47 rfl (by decide) ?_
              refine AO.skipG 9 true 44 rfl rfl (congrArg (fun b => some (AV.fl (Value.bool b))) (decide_eq_true hc59)) 48 rfl (by decide) ?_
              refine AO.skipG 9 true 44 rfl rfl (congrArg (fun b => some (AV.fl (Value.bool b))) (decide_eq_true hc59)) 49 rfl (by decide) ?_
              refine AO.skipU 14 true 49 rfl rfl rfl 50 rfl (by decide) ?_
              refine AO.skipU 14 true 49 rfl rfl rfl 51 rfl (by decide) ?_
              refine AO.skipU 14 true 49 rfl rfl rfl 52 rfl (by decide) ?_
              refine AO.skipU 14 true 49 rfl rfl rfl 53 rfl (by decide) ?_
              refine AO.skipG 9 true 44 rfl rfl (congrArg (fun b => some (AV.fl (Value.bool b))) (decide_eq_true hc59)) 54 rfl (by decide) ?_
              refine AO.calmG 4 true 39 rfl rfl (congrArg (fun b => some (AV.fl (Value.bool b))) (decide_eq_true hc57)) 55 rfl (by decide) (eBool true) (Calm.pickT rfl (congrArg (fun b => some (AV.fl (Value.bool b))) (decide_eq_true hc59)) rfl) ?_
              refine AO.calm rfl 56 rfl (by decide) (eBool true) (Calm.pickT rfl (congrArg (fun b => some (AV.fl (Value.bool b))) (decide_eq_true hc57)) rfl) ?_
              cases hq56
              refine AO.nilE ⟨rfl, rfl⟩ ?_ ?_
              · exact ⟨rfl, rfl, rfl, rfl, rfl, rfl, trivial⟩
              · exact (Sub.refl _)
            · have hq56 := (if_neg hc59).symm.trans hq56
              refine AO.calmG 9 false 44 rfl rfl (congrArg (fun b => some (AV.fl (Value.bool b))) (decide_eq_false hc59)) 45 rfl (by decide) (eStr p0) (Calm.move rfl rfl) ?_
              refine AO.calmG 9 false 44 rfl rfl (congrArg (fun b => some (AV.fl (Value.bool b))) (decide_eq_false hc59)) 46 rfl (by decide) (eI64 x52) (Calm.move rfl rfl) ?_
              obtain ⟨hg60, hq56⟩ := of_guard hq56
              refine AO.calmG 9 false 44 rfl rfl (congrArg (fun b => some (AV.fl (Value.bool b))) (decide_eq_false hc59)) 47 rfl (by decide) (eU8 (byteAt p0 x52)) (Calm.idxS rfl rfl rfl hg60 Try.underlying9) ?_
              refine AO.calmG 9 false 44 rfl rfl (congrArg (fun b => some (AV.fl (Value.bool b))) (decide_eq_false hc59)) 48 rfl (by decide) (eBool (decide ((48 : Int) ≤ (byteAt p0 x52)))) (Calm.int rfl rfl rfl rfl) ?_
              refine AO.calmG 9 false 44 rfl rfl (congrArg (fun b => some (AV.fl (Value.bool b))) (decide_eq_false hc59)) 49 rfl (by decide) (eBool (decide ((48 : Int) ≤ (byteAt p0 x52)))) (Calm.move rfl rfl) ?_
              by_cases hc61 : (48 : Int) ≤ (byteAt p0 x52)
              · have hq56 := (if_pos hc61).symm.trans hq56
                refine AO.calmG 14 true 49 rfl rfl (congrArg (fun b => some (AV.fl (Value.bool b))) (decide_eq_true hc61)) 50 rfl (by decide) (eStr p0) (Calm.move rfl rfl) ?_
                refine AO.calmG 14 true 49 rfl rfl (congrArg (fun b => some (AV.fl (Value.bool b))) (decide_eq_true hc61)) 51 rfl (by decide) (eI64 x52) (Calm.move rfl rfl) ?_
                obtain ⟨hg62, hq56⟩ := of_guard hq56
                refine AO.calmG 14 true 49 rfl rfl (congrArg (fun b => some (AV.fl (Value.bool b))) (decide_eq_true hc61)) 52 rfl (by decide) (eU8 (byteAt p0 x52)) (Calm.idxS rfl rfl rfl hg62 Try.underlying9) ?_
                refine AO.calmG 14 true 49 rfl rfl (congrArg (fun b => some (AV.fl (Value.bool b))) (decide_eq_true hc61)) 53 rfl (by decide) (eBool (decide ((byteAt p0 x52) ≤ (57 : Int)))) (Calm.int rfl rfl rfl rfl) ?_
                refine AO.calmG 9 false 44 rfl rfl (congrArg (fun b => some (AV.fl (Value.bool b))) (decide_eq_false hc59)) 54 rfl (by decide) (eBool (decide ((byteAt p0 x52) ≤ (57 : Int)))) (Calm.pickT rfl (congrArg (fun b => some (AV.fl (Value.bool b))) (decide_eq_true hc61)) rfl) ?_
                refine AO.calmG 4 true 39 rfl rfl (congrArg (fun b => some (AV.fl (Value.bool b))) (decide_eq_true hc57)) 55 rfl (by decide) (eBool (decide ((byteAt p0 x52) ≤ (57 : Int)))) (Calm.pickF rfl (congrArg (fun b => some (AV.fl (Value.bool b))) (decide_eq_false hc59)) rfl) ?_
                refine AO.calm rfl 56 rfl (by decide) (eBool (decide ((byteAt p0 x52) ≤ (57 : Int)))) (Calm.pickT rfl (congrArg (fun b => some (AV.fl (Value.bool b))) (decide_eq_true hc57)) rfl) ?_
                cases hq56
                refine AO.nilE ⟨rfl, rfl⟩ ?_ ?_
                · exact ⟨rfl, rfl, rfl, rfl, rfl, rfl, trivial⟩
                · exact (Sub.refl _)
              · have hq56 := (if_neg hc61).symm.trans hq56
                refine AO.skipG 14 false 49 rfl rfl (congrArg (fun b => some (AV.fl (Value.bool b))) (decide_eq_false hc61)) 50 rfl (by decide) ?_
                refine AO.skipG 14 false 49 rfl rfl (congrArg (fun b => some (AV.fl (Value.bool b))) (decide_eq_false hc61)) 51 rfl (by decide) ?_
                refine AO.skipG 14 false 49 rfl rfl (congrArg (fun b => some (AV.fl (Value.bool b))) (decide_eq_false hc61)) 52 rfl (by decide) ?_
                refine AO.skipG 14 false 49 rfl rfl (congrArg (fun b => some (AV.fl (Value.bool b))) (decide_eq_false hc61)) 53 rfl (by decide) ?_
                refine AO.calmG 9 false 44 rfl rfl (congrArg (fun b => some (AV.fl (Value.bool b))) (decide_eq_false hc59)) 54 rfl (by decide) (eBool false) (Calm.pickF rfl (congrArg (fun b => some (AV.fl (Value.bool b))) (decide_eq_false hc61)) rfl) ?_
                refine AO.calmG 4 true 39 rfl rfl (congrArg (fun b => some (AV.fl (Value.bool b))) (decide_eq_true hc57)) 55 rfl (by decide) (eBool false) (Calm.pickF rfl (congrArg (fun b => some (AV.fl (Value.bool b))) (decide_eq_false hc59)) rfl) ?_
                refine AO.calm rfl 56 rfl (by decide) (eBool false) (Calm.pickT rfl (congrArg (fun b => some (AV.fl (Value.bool b))) (decide_eq_true hc57)) rfl) ?_
                cases hq56
                refine AO.nilE ⟨rfl, rfl⟩ ?_ ?_
                · exact ⟨rfl, rfl, rfl, rfl, rfl, rfl, trivial⟩
                · exact (Sub.refl _)
          · have hq56 := (if_neg hc57).symm.trans hq56
            refine AO.skipG 4 false 39 rfl rfl (congrArg (fun b => some (AV.fl (Value.bool b))) (decide_eq_false hc57)) 40 rfl (by decide) ?_
            refine AO.skipG 4 false 39 rfl rfl (congrArg (fun b => some (AV.fl (Value.bool b))) (decide_eq_false hc57)) 41 rfl (by decide) ?_
            refine AO.skipG 4 false 39 rfl rfl (congrArg (fun b => some (AV.fl (Value.bool b))) (decide_eq_false hc57)) 42 rfl (by decide) ?_
            refine AO.skipG 4 false 39 rfl rfl (congrArg (fun b => some (AV.fl (Value.bool b))) (decide_eq_false hc57)) 43 rfl (by decide) ?_
            refine AO.skipG 4 false 39 rfl rfl (congrArg (fun b => some (AV.fl (Value.bool b))) (decide_eq_false hc57)) 44 rfl (by decide) ?_
            refine AO.skipU 9 false 44 rfl rfl rfl 45 rfl (by decide) ?_
            refine AO.skipU 9 false 44 rfl rfl rfl 46 rfl (by decide) ?_
            refine AO.skipU 9 false 44 rfl rfl rfl 47 rfl (by decide) ?_
            refine AO.skipU 9 false 44 rfl rfl rfl 48 rfl (by decide) ?_
            refine AO.skipU 9 false 44 rfl rfl rfl 49 rfl (by decide) ?_
            refine AO.skipU 14 true 49 rfl rfl rfl 50 rfl (by decide) ?_
            refine AO.skipU 14 true 49 rfl rfl rfl 51 rfl (by decide) ?_
            refine AO.skipU 14 true 49 rfl rfl rfl 52 rfl (by decide) ?_
            refine AO.skipU 14 true 49 rfl rfl rfl 53 rfl (by decide) ?_
            refine AO.skipU 9 false 44 rfl rfl rfl 54 rfl (by decide) ?_
            refine AO.skipG 4 false 39 rfl rfl (congrArg (fun b => some (AV.fl (Value.bool b))) (decide_eq_false hc57)) 55 rfl (by decide) ?_
            refine AO.calm rfl 56 rfl (by decide) (eBool false) (Calm.pickF rfl (congrArg (fun b => some (AV.fl (Value.bool b))) (decide_eq_false hc57)) rfl) ?_
            cases hq56
            refine AO.nilE ⟨rfl, rfl⟩ ?_ ?_
            · exact ⟨rfl, rfl, rfl, rfl, rfl, rfl, trivial⟩
            · exact (Sub.refl _)
        · by_cases hc63 : b55 = true
          · have h := (if_pos hc63).symm.trans h
            refine AW.condT' b55 rfl hc63 ?_
            refine AW.skip (ρ' := [(0, (eStr p0)), (2, (eI64 p2)), (8, (eBool b4)), (9, (eI64 x8)), (10, (eI64 x52))]) (H' := []) ⟨rfl, rfl, rfl, rfl, rfl, trivial⟩ (Sub.refl _) ?_
            refine AW.block ?_
            refine AW.reg ?_
            refine AO.calm rfl 57 rfl (by decide) (eI64 x52) (Calm.move rfl rfl) ?_
            refine AO.calm rfl 58 rfl (by decide) (eI64 (w64 (x52 + (1 : Int)))) (Calm.int rfl rfl rfl rfl) ?_
            refine AO.calm rfl 10 rfl (by decide) (eI64 (w64 (x52 + (1 : Int)))) (Calm.assign rfl rfl) ?_
            refine AO.nil (ρ' := [(0, (eStr p0)), (2, (eI64 p2)), (8, (eBool b4)), (9, (eI64 x8)), (10, (eI64 (w64 (x52 + (1 : Int)))))]) (H' := []) ⟨rfl, rfl, rfl, rfl, rfl, trivial⟩ (Sub.refl _) ?_
            exact ⟨kq54, Nat.lt_succ_self _, (w64 (x52 + (1 : Int))), rfl, rfl, by rw [hrec53]; exact h⟩
          · have h := (if_neg hc63).symm.trans h
            refine AW.condF' b55 rfl hc63 ?_
            refine AW.exit (ρ' := [(0, (eStr p0)), (2, (eI64 p2)), (8, (eBool b4)), (9, (eI64 x8)), (10, (eI64 x52))]) (H' := []) ⟨rfl, rfl, rfl, rfl, rfl, trivial⟩ (Sub.refl _) ?_
            exact ⟨x52, rfl, rfl, h⟩
      · rintro _ _ ⟨x9, rfl, rfl, h⟩
        rw [bosketref31_read_c2.eq_1] at h
        refine AW.seq ?_
        refine AW.reg ?_
        refine AO.calm rfl 60 rfl (by decide) (eStr p0) (Calm.move rfl rfl) ?_
        refine AO.calm rfl 61 rfl (by decide) (eI64 x8) (Calm.move rfl rfl) ?_
        refine AO.calm rfl 62 rfl (by decide) (eI64 x9) (Calm.move rfl rfl) ?_
        obtain ⟨hg10, h⟩ := of_guard h
        refine AO.calm rfl 63 rfl (by decide) (eStr (p0.extract x8.toNat x9.toNat)) (Calm.sliceS rfl rfl rfl rfl hg10 Try.underlying9) ?_
        obtain ⟨t11, et11, h⟩ := of_bind h
        refine AO.callS [(eStr (p0.extract x8.toNat x9.toNat))] (.tup [(eI64 t11.1), (eBool t11.2)]) 64 rfl (by decide) ok17 rfl rfl rfl ⟨rfl, rfl, trivial⟩ (bosketref13_Number_spec et11) ?_
        refine AO.calm rfl 59 rfl (by decide) (.tup [(eI64 t11.1), (eBool t11.2)]) (Calm.move rfl rfl) ?_
        refine AO.calm rfl 65 rfl (by decide) (eI64 t11.1) (Calm.extract rfl rfl rfl) ?_
        refine AO.calm rfl 66 rfl (by decide) (eBool t11.2) (Calm.extract rfl rfl rfl) ?_
        refine AO.calm rfl 11 rfl (by decide) (eI64 t11.1) (Calm.assign rfl rfl) ?_
        refine AO.calm rfl 12 rfl (by decide) (eBool t11.2) (Calm.assign rfl rfl) ?_
        refine AO.nil (ρ' := [(0, (eStr p0)), (2, (eI64 p2)), (8, (eBool b4)), (10, (eI64 x9)), (11, (eI64 t11.1)), (12, (eBool t11.2))]) (H' := []) ⟨rfl, rfl, rfl, rfl, rfl, rfl, trivial⟩ (Sub.refl _) ?_
        refine AW.seq ?_
        refine AW.seq ?_
        obtain ⟨b12, hq13, h⟩ := of_bind h
        refine AW.regM [(0, (eStr p0)), (2, (eI64 p2)), (8, (eBool b4)), (10, (eI64 x9)), (11, (eI64 t11.1)), (78, (eBool b12))] [] ?_ ?_
        · refine AO.calm rfl 67 rfl (by decide) (eBool t11.2) (Calm.move rfl rfl) ?_
          refine AO.calm rfl 68 rfl (by decide) (eBool (!t11.2)) (Calm.not rfl rfl) ?_
          refine AO.calm rfl 69 rfl (by decide) (eBool (!t11.2)) (Calm.move rfl rfl) ?_
          by_cases hc14 : (!t11.2) = true
          · have hq13 := (if_pos hc14).symm.trans hq13
            refine AO.skipG 2 true 69 rfl rfl (congrArg (fun b => some (AV.fl (Value.bool b))) hc14) 70 rfl (by decide) ?_
            refine AO.skipG 2 true 69 rfl rfl (congrArg (fun b => some (AV.fl (Value.bool b))) hc14) 71 rfl (by decide) ?_
            refine AO.skipG 2 true 69 rfl rfl (congrArg (fun b => some (AV.fl (Value.bool b))) hc14) 72 rfl (by decide) ?_
            refine AO.skipG 2 true 69 rfl rfl (congrArg (fun b => some (AV.fl (Value.bool b))) hc14) 73 rfl (by decide) ?_
            refine AO.calm rfl 74 rfl (by decide) (eBool true) (Calm.pickT rfl (congrArg (fun b => some (AV.fl (Value.bool b))) hc14) rfl) ?_
            refine AO.calm rfl 75 rfl (by decide) (eBool true) (Calm.move rfl rfl) ?_
            refine AO.skipG 8 true 75 rfl rfl rfl 76 rfl (by decide) ?_
            refine AO.skipG 8 true 75 rfl rfl rfl 77 rfl (by decide) ?_
            refine AO.calm rfl 78 rfl (by decide) (eBool true) (Calm.pickT rfl rfl rfl) ?_
            cases hq13
            refine AO.nilE ⟨rfl, rfl⟩ ?_ ?_
            · exact ⟨rfl, rfl, rfl, rfl, rfl, rfl, trivial⟩
            · exact (Sub.refl _)
          · have hq13 := (if_neg hc14).symm.trans hq13
            refine AO.calmG 2 false 69 rfl rfl (congrArg (fun b => some (AV.fl (Value.bool b))) (eq_false_of_ne_true hc14)) 70 rfl (by decide) (eI64 x9) (Calm.move rfl rfl) ?_
            refine AO.calmG 2 false 69 rfl rfl (congrArg (fun b => some (AV.fl (Value.bool b))) (eq_false_of_ne_true hc14)) 71 rfl (by decide) (eStr p0) (Calm.move rfl rfl) ?_
            refine AO.calmG 2 false 69 rfl rfl (congrArg (fun b => some (AV.fl (Value.bool b))) (eq_false_of_ne_true hc14)) 72 rfl (by decide) (eI64 (p0.size : Int)) (Calm.lenStr rfl rfl Try.underlying9) ?_
            refine AO.calmG 2 false 69 rfl rfl (congrArg (fun b => some (AV.fl (Value.bool b))) (eq_false_of_ne_true hc14)) 73 rfl (by decide) (eBool (decide ((p0.size : Int) ≤ x9))) (Calm.int rfl rfl rfl rfl) ?_
            refine AO.calm rfl 74 rfl (by decide) (eBool (decide ((p0.size : Int) ≤ x9))) (Calm.pickF rfl (congrArg (fun b => some (AV.fl (Value.bool b))) (eq_false_of_ne_true hc14)) rfl) ?_
            refine AO.calm rfl 75 rfl (by decide) (eBool (decide ((p0.size : Int) ≤ x9))) (Calm.move rfl rfl) ?_
            by_cases hc15 : (p0.size : Int) ≤ x9
            · have hq13 := (if_pos hc15).symm.trans hq13
              refine AO.skipG 8 true 75 rfl rfl (congrArg (fun b => some (AV.fl (Value.bool b))) (decide_eq_true hc15)) 76 rfl (by decide) ?_
              refine AO.skipG 8 true 75 rfl rfl (congrArg (fun b => some (AV.fl (Value.bool b))) (decide_eq_true hc15)) 77 rfl (by decide) ?_
              refine AO.calm rfl 78 rfl (by decide) (eBool true) (Calm.pickT rfl (congrArg (fun b => some (AV.fl (Value.bool b))) (decide_eq_true hc15)) rfl) ?_
              cases hq13
              refine AO.nilE ⟨rfl, rfl⟩ ?_ ?_
              · exact ⟨rfl, rfl, rfl, rfl, rfl, rfl, trivial⟩
              · exact (Sub.refl _)
            · have hq13 := (if_neg hc15).symm.trans hq13
              refine AO.calmG 8 false 75 rfl rfl (congrArg (fun b => some (AV.fl (Value.bool b))) (decide_eq_false hc15)) 76 rfl (by decide) (eI64 p2) (Calm.move rfl rfl) ?_
              refine AO.calmG 8 false 75 rfl rfl (congrArg (fun b => some (AV.fl (Value.bool b))) (decide_eq_false hc15)) 77 rfl (by decide) (eBool (decide ((2000 : Int) < p2))) (Calm.int rfl rfl rfl rfl) ?_
              refine AO.calm rfl 78 rfl (by decide) (eBool (decide ((2000 : Int) < p2))) (Calm.pickF rfl (congrArg (fun b => some (AV.fl (Value.bool b))) (decide_eq_false hc15)) rfl) ?_
              cases hq13
              refine AO.nilE ⟨rfl, rfl⟩ ?_ ?_
              · exact ⟨rfl, rfl, rfl, rfl, rfl, rfl, trivial⟩
              · exact (Sub.refl _)
        · by_cases hc16 : b12 = true
          · have h := (if_pos hc16).symm.trans h
            refine AW.condT' b12 rfl hc16 ?_
            refine AW.seq ?_
            refine AW.reg ?_
            refine AO.calm rfl 6 rfl (by decide) (.fl (.slice none 0 0)) (Calm.assign rfl rfl) ?_
            refine AO.calm rfl 7 rfl (by decide) (eI64 (-1 : Int)) (Calm.assign rfl rfl) ?_
            refine AO.nil (ρ' := [(6, (.fl (.slice none 0 0))), (7, (eI64 (-1 : Int)))]) (H' := []) ⟨rfl, rfl, trivial⟩ (Sub.refl _) ?_
            refine AW.coeC 6 (y' := (.fz 4 (([] : List S43).map e43))) rfl Coe.nil ?_
            refine AW.ret (ρ' := [(6, (.fz 4 (([] : List S43).map e43))), (7, (eI64 (-1 : Int)))]) (H' := []) ⟨rfl, rfl, trivial⟩ (Sub.refl _) ?_
            have hr := Option.some.inj h
            subst hr
            exact ⟨[(.fz 4 (([] : List S43).map e43)), (eI64 (-1 : Int))], ⟨rfl, rfl, rfl, rfl, trivial⟩, rfl⟩
          · have h := (if_neg hc16).symm.trans h
            refine AW.condF' b12 rfl hc16 ?_
            refine AW.skip (ρ' := [(0, (eStr p0)), (2, (eI64 p2)), (8, (eBool b4)), (10, (eI64 x9)), (11, (eI64 t11.1))]) (H' := []) ⟨rfl, rfl, rfl, rfl, rfl, trivial⟩ (Sub.refl _) ?_
            refine AW.seq ?_
            refine AW.seq ?_
            refine AW.reg ?_
            refine AO.calm rfl 79 rfl (by decide) (eBool b4) (Calm.move rfl rfl) ?_
            refine AO.calm rfl 80 rfl (by decide) (eBool (!b4)) (Calm.not rfl rfl) ?_
            refine AO.nil (ρ' := [(0, (eStr p0)), (2, (eI64 p2)), (10, (eI64 x9)), (11, (eI64 t11.1)), (80, (eBool (!b4)))]) (H' := []) ⟨rfl, rfl, rfl, rfl, rfl, trivial⟩ (Sub.refl _) ?_
            by_cases hc17 : (!b4) = true
            · have h := (if_pos hc17).symm.trans h
              refine AW.condT' (!b4) rfl hc17 ?_
              refine AW.seq ?_
              refine AW.reg ?_
              refine AO.calm rfl 82 rfl (by decide) (eStr p0) (Calm.move rfl rfl) ?_
              refine AO.calm rfl 83 rfl (by decide) (eI64 x9) (Calm.move rfl rfl) ?_
              refine AO.calm rfl 84 rfl (by decide) (eI64 (w64 (x9 + (1 : Int)))) (Calm.int rfl rfl rfl rfl) ?_
              obtain ⟨hg18, h⟩ := of_guard h
              refine AO.calm rfl 85 rfl (by decide) (eStr (p0.extract (w64 (x9 + (1 : Int))).toNat (p0.size : Int).toNat)) (Calm.sliceS rfl rfl rfl rfl hg18 Try.underlying9) ?_
              obtain ⟨t19, et19, h⟩ := of_bind h
              refine AO.callS [(eStr (p0.extract (w64 (x9 + (1 : Int))).toNat (p0.size : Int).toNat)), (eU8 (34 : Int))] (.tup [(eStr t19.1), (eI64 t19.2.1), (eBool t19.2.2)]) 86 rfl (by decide) ok70 rfl rfl rfl ⟨rfl, rfl, rfl, rfl, trivial⟩ (bosketref03_Unquote_spec et19) ?_
              refine AO.calm rfl 81 rfl (by decide) (.tup [(eStr t19.1), (eI64 t19.2.1), (eBool t19.2.2)]) (Calm.move rfl rfl) ?_
              refine AO.calm rfl 87 rfl (by decide) (eStr t19.1) (Calm.extract rfl rfl rfl) ?_
              refine AO.calm rfl 88 rfl (by decide) (eI64 t19.2.1) (Calm.extract rfl rfl rfl) ?_
              refine AO.calm rfl 89 rfl (by decide) (eBool t19.2.2) (Calm.extract rfl rfl rfl) ?_
              refine AO.calm rfl 13 rfl (by decide) (eStr t19.1) (Calm.assign rfl rfl) ?_
              refine AO.calm rfl 14 rfl (by decide) (eI64 t19.2.1) (Calm.assign rfl rfl) ?_
              refine AO.calm rfl 15 rfl (by decide) (eBool t19.2.2) (Calm.assign rfl rfl) ?_
              refine AO.nil (ρ' := [(0, (eStr p0)), (10, (eI64 x9)), (11, (eI64 t11.1)), (13, (eStr t19.1)), (14, (eI64 t19.2.1)), (15, (eBool t19.2.2))]) (H' := []) ⟨rfl, rfl, rfl, rfl, rfl, rfl, trivial⟩ (Sub.refl _) ?_
              refine AW.seq ?_
              refine AW.seq ?_
              obtain ⟨b20, hq21, h⟩ := of_bind h
              refine AW.regM [(10, (eI64 x9)), (11, (eI64 t11.1)), (13, (eStr t19.1)), (14, (eI64 t19.2.1)), (97, (eBool b20))] [] ?_ ?_
              · refine AO.calm rfl 90 rfl (by decide) (eStr p0) (Calm.move rfl rfl) ?_
                refine AO.calm rfl 91 rfl (by decide) (eI64 x9) (Calm.move rfl rfl) ?_
                obtain ⟨hg22, hq21⟩ := of_guard hq21
                refine AO.calm rfl 92 rfl (by decide) (eU8 (byteAt p0 x9)) (Calm.idxS rfl rfl rfl hg22 Try.underlying9) ?_
                refine AO.calm rfl 93 rfl (by decide) (eBool (decide ((byteAt p0 x9) ≠ (58 : Int)))) (Calm.int rfl rfl rfl rfl) ?_
                refine AO.calm rfl 94 rfl (by decide) (eBool (decide ((byteAt p0 x9) ≠ (58 : Int)))) (Calm.move rfl rfl) ?_
                by_cases hc23 : (byteAt p0 x9) ≠ (58 : Int)
                · have hq21 := (if_pos hc23).symm.trans hq21
                  refine AO.skipG 4 true 94 rfl rfl (congrArg (fun b => some (AV.fl (Value.bool b))) (decide_eq_true hc23)) 95 rfl (by decide) ?_
                  refine AO.skipG 4 true 94 rfl rfl (congrArg (fun b => some (AV.fl (Value.bool b))) (decide_eq_true hc23)) 96 rfl (by decide) ?_
                  refine AO.calm rfl 97 rfl (by decide) (eBool true) (Calm.pickT rfl (congrArg (fun b => some (AV.fl (Value.bool b))) (decide_eq_true hc23)) rfl) ?_
                  cases hq21
                  refine AO.nilE ⟨rfl, rfl⟩ ?_ ?_
                  · exact ⟨rfl, rfl, rfl, rfl, rfl, trivial⟩
                  · exact (Sub.refl _)
                · have hq21 := (if_neg hc23).symm.trans hq21
                  refine AO.calmG 4 false 94 rfl rfl (congrArg (fun b => some (AV.fl (Value.bool b))) (decide_eq_false hc23)) 95 rfl (by decide) (eBool t19.2.2) (Calm.move rfl rfl) ?_
                  refine AO.calmG 4 false 94 rfl rfl (congrArg (fun b => some (AV.fl (Value.bool b))) (decide_eq_false hc23)) 96 rfl (by decide) (eBool (!t19.2.2)) (Calm.not rfl rfl) ?_
                  refine AO.calm rfl 97 rfl (by decide) (eBool (!t19.2.2)) (Calm.pickF rfl (congrArg (fun b => some (AV.fl (Value.bool b))) (decide_eq_false hc23)) rfl) ?_
                  cases hq21
                  refine AO.nilE ⟨rfl, rfl⟩ ?_ ?_
                  · exact ⟨rfl, rfl, rfl, rfl, rfl, trivial⟩
                  · exact (Sub.refl _)
              · by_cases hc24 : b20 = true
                · have h := (if_pos hc24).symm.trans h
                  refine AW.condT' b20 rfl hc24 ?_
                  refine AW.seq ?_
                  refine AW.reg ?_
                  refine AO.calm rfl 6 rfl (by decide) (.fl (.slice none 0 0)) (Calm.assign rfl rfl) ?_
                  refine AO.calm rfl 7 rfl (by decide) (eI64 (-1 : Int)) (Calm.assign rfl rfl) ?_
                  refine AO.nil (ρ' := [(6, (.fl (.slice none 0 0))), (7, (eI64 (-1 : Int)))]) (H' := []) ⟨rfl, rfl, trivial⟩ (Sub.refl _) ?_
                  refine AW.coeC 6 (y' := (.fz 4 (([] : List S43).map e43))) rfl Coe.nil ?_
                  refine AW.ret (ρ' := [(6, (.fz 4 (([] : List S43).map e43))), (7, (eI64 (-1 : Int)))]) (H' := []) ⟨rfl, rfl, trivial⟩ (Sub.refl _) ?_
                  have hr := Option.some.inj h
                  subst hr
                  exact ⟨[(.fz 4 (([] : List S43).map e43)), (eI64 (-1 : Int))], ⟨rfl, rfl, rfl, rfl, trivial⟩, rfl⟩
                · have h := (if_neg hc24).symm.trans h
                  refine AW.condF' b20 rfl hc24 ?_
                  refine AW.skip (ρ' := [(10, (eI64 x9)), (11, (eI64 t11.1)), (13, (eStr t19.1)), (14, (eI64 t19.2.1))]) (H' := []) ⟨rfl, rfl, rfl, rfl, trivial⟩ (Sub.refl _) ?_
                  refine AW.seq ?_
                  refine AW.reg ?_
                  refine AO.calm rfl 98 rfl (by decide) (eI64 t11.1) (Calm.move rfl rfl) ?_
                  refine AO.calm rfl 99 rfl (by decide) (eStr t19.1) (Calm.move rfl rfl) ?_
                  refine AO.calm rfl 100 rfl (by decide) (.st [(1, (eBool true)), (1, (eI64 t11.1)), (1, (eI64 (0 : Int))), (1, (eStr t19.1))]) (Calm.build (qs := [(0, (eBool true)), (1, (eI64 t11.1)), (3, (eStr t19.1))]) rfl ⟨rfl, rfl, rfl, rfl, rfl, rfl, rfl, rfl, rfl, trivial⟩ Try.underlying43 rfl zr43 lay43 (.cons rfl rfl rfl rfl (Put.cast (Put.fld0 Put.here) rfl) (.cons rfl rfl rfl rfl (Put.cast (Put.fldS (Put.fld0 Put.here)) rfl) (.cons rfl rfl rfl rfl (Put.cast (Put.fldS (Put.fldS (Put.fldS (Put.fld0 Put.here)))) rfl) .nil))) rfl) ?_
                  refine AO.lit (Z := (.st [(1, (eBool false)), (1, (eI64 (0 : Int))), (1, (eI64 (0 : Int))), (1, (eStr ByteArray.empty))])) (xs := (([(S43.mk true t11.1 (0 : Int) t19.1)] : List S43).map e43)) (qs := [(0, (e43 (S43.mk true t11.1 (0 : Int) t19.1)))]) rfl 101 rfl (by decide) rfl ⟨rfl, rfl, rfl, trivial⟩ Try.underlying37 sz43 zr43 lay43 rfl (by decide) (litOK (z := 4) [(e43 (S43.mk true t11.1 (0 : Int) t19.1))] rfl ⟨⟨rfl, rfl⟩, trivial⟩) rfl fun n25 => ?_
                  refine AO.calm rfl 102 rfl (by decide) (eI64 x9) (Calm.move rfl rfl) ?_
                  refine AO.calm rfl 103 rfl (by decide) (eI64 (w64 (x9 + (1 : Int)))) (Calm.int rfl rfl rfl rfl) ?_
                  refine AO.calm rfl 104 rfl (by decide) (eI64 t19.2.1) (Calm.move rfl rfl) ?_
                  refine AO.calm rfl 105 rfl (by decide) (eI64 (w64 ((w64 (x9 + (1 : Int))) + t19.2.1))) (Calm.int rfl rfl rfl rfl) ?_
                  refine AO.calm rfl 6 rfl (by decide) (.own n25 0 ([(S43.mk true t11.1 (0 : Int) t19.1)] : List S43).length) (Calm.assign rfl rfl) ?_
                  refine AO.calm rfl 7 rfl (by decide) (eI64 (w64 ((w64 (x9 + (1 : Int))) + t19.2.1))) (Calm.assign rfl rfl) ?_
                  refine AO.nil (ρ' := [(6, (.own n25 0 ([(S43.mk true t11.1 (0 : Int) t19.1)] : List S43).length)), (7, (eI64 (w64 ((w64 (x9 + (1 : Int))) + t19.2.1))))]) (H' := [(n25, .mem (.ar 4 (([(S43.mk true t11.1 (0 : Int) t19.1)] : List S43).map e43)))]) ⟨rfl, rfl, trivial⟩ (Sub.refl _) ?_
                  refine AW.freezeS 0 [(6, (.fz 4 (([(S43.mk true t11.1 (0 : Int) t19.1)] : List S43).map e43)))] rfl ⟨fz_all rfl, trivial⟩ ?_
                  refine AW.ret (ρ' := [(6, (.fz 4 (([(S43.mk true t11.1 (0 : Int) t19.1)] : List S43).map e43))), (7, (eI64 (w64 ((w64 (x9 + (1 : Int))) + t19.2.1))))]) (H' := []) ⟨rfl, rfl, trivial⟩ (Sub.refl _) ?_
                  have hr := Option.some.inj h
                  subst hr
                  exact ⟨[(.fz 4 (([(S43.mk true t11.1 (0 : Int) t19.1)] : List S43).map e43)), (eI64 (w64 ((w64 (x9 + (1 : Int))) + t19.2.1)))], ⟨rfl, rfl, rfl, rfl, trivial⟩, rfl⟩
            · have h := (if_neg hc17).symm.trans h
              refine AW.condF' (!b4) rfl hc17 ?_
              refine AW.skip (ρ' := [(0, (eStr p0)), (2, (eI64 p2)), (10, (eI64 x9)), (11, (eI64 t11.1))]) (H' := []) ⟨rfl, rfl, rfl, rfl, trivial⟩ (Sub.refl _) ?_
              refine AW.seq ?_
              refine AW.reg ?_
              refine AO.calm rfl 106 rfl (by decide) (eI64 t11.1) (Calm.move rfl rfl) ?_
              refine AO.calm rfl 107 rfl (by decide) (.st [(1, (eBool false)), (1, (eI64 t11.1)), (1, (eI64 (0 : Int))), (1, (eStr ByteArray.empty))]) (Calm.build (qs := [(1, (eI64 t11.1))]) rfl ⟨rfl, rfl, rfl, trivial⟩ Try.underlying43 rfl zr43 lay43 (.cons rfl rfl rfl rfl (Put.cast (Put.fldS (Put.fld0 Put.here)) rfl) .nil) rfl) ?_
              refine AO.lit (Z := (.st [(1, (eBool false)), (1, (eI64 (0 : Int))), (1, (eI64 (0 : Int))), (1, (eStr ByteArray.empty))])) (xs := (([(S43.mk false t11.1 (0 : Int) ByteArray.empty)] : List S43).map e43)) (qs := [(0, (e43 (S43.mk false t11.1 (0 : Int) ByteArray.empty)))]) rfl 108 rfl (by decide) rfl ⟨rfl, rfl, rfl, trivial⟩ Try.underlying37 sz43 zr43 lay43 rfl (by decide) (litOK (z := 4) [(e43 (S43.mk false t11.1 (0 : Int) ByteArray.empty))] rfl ⟨⟨rfl, rfl⟩, trivial⟩) rfl fun n26 => ?_
              refine AO.calm rfl 16 rfl (by decide) (.own n26 0 ([(S43.mk false t11.1 (0 : Int) ByteArray.empty)] : List S43).length) (Calm.assign rfl rfl) ?_
              refine AO.calm rfl 17 rfl (by decide) (eI64 (0 : Int)) (Calm.assign rfl rfl) ?_
              refine AO.nil (ρ' := [(0, (eStr p0)), (2, (eI64 p2)), (10, (eI64 x9)), (16, (.own n26 0 ([(S43.mk false t11.1 (0 : Int) ByteArray.empty)] : List S43).length)), (17, (eI64 (0 : Int)))]) (H' := [(n26, .mem (.ar 4 (([(S43.mk false t11.1 (0 : Int) ByteArray.empty)] : List S43).map e43)))]) ⟨rfl, rfl, rfl, rfl, rfl, trivial⟩ (Sub.refl _) ?_
              refine AW.seq_mid (fun ρ H => ∃ (n28 : Nat) (x27 : Int) (x29 : (List S43)) (x30 : Int), ρ = [(0, (eStr p0)), (10, (eI64 x27)), (16, (.own n28 0 x29.length)), (17, (eI64 x30))] ∧ H = [(n28, .mem (.ar 4 (x29.map e43)))] ∧ bosketref31_read_c0 k p0 x27 x29 x30 = some r) ?_ ?_
              · refine AW.block ?_
                refine AW.weak (ρ' := [(0, (eStr p0)), (2, (eI64 p2)), (10, (eI64 x9)), (16, (.own n26 0 ([(S43.mk false t11.1 (0 : Int) ByteArray.empty)] : List S43).length)), (17, (eI64 (0 : Int)))]) (H' := [(n26, .mem (.ar 4 (([(S43.mk false t11.1 (0 : Int) ByteArray.empty)] : List S43).map e43)))]) ⟨rfl, rfl, rfl, rfl, rfl, trivial⟩ (Sub.refl _) ?_
                refine AW.loop (fun kq ρ H => ∃ (n38 : Nat) (x37 : Int) (x39 : (List S43)) (x40 : Int), ρ = [(0, (eStr p0)), (2, (eI64 p2)), (10, (eI64 x37)), (16, (.own n38 0 x39.length)), (17, (eI64 x40))] ∧ H = [(n38, .mem (.ar 4 (x39.map e43)))] ∧ bosketref31_read_l1 k self p0 p2 kq x37 x39 x40 = some r) k ⟨n26, x9, [(S43.mk false t11.1 (0 : Int) ByteArray.empty)], (0 : Int), rfl, rfl, h⟩ ?_
                rintro kq42 _ _ ⟨n38, x37, x39, x40, rfl, rfl, h⟩
                cases kq42 with
                | zero => rw [bosketref31_read_l1.eq_1] at h; cases h
                | succ kq42 =>
                rw [bosketref31_read_l1.eq_2] at h
                generalize hrec41 : bosketref31_read_l1 k self p0 p2 kq42 = rec41 at h
                refine AW.seq ?_
                refine AW.seq ?_
                obtain ⟨b43, hq44, h⟩ := of_bind h
                refine AW.regM [(0, (eStr p0)), (2, (eI64 p2)), (10, (eI64 x37)), (16, (.own n38 0 x39.length)), (17, (eI64 x40)), (118, (eBool b43))] [(n38, .mem (.ar 4 (x39.map e43)))] ?_ ?_
                · refine AO.calm rfl 109 rfl (by decide) (eI64 x37) (Calm.move rfl rfl) ?_
                  refine AO.calm rfl 110 rfl (by decide) (eStr p0) (Calm.move rfl rfl) ?_
                  refine AO.calm rfl 111 rfl (by decide) (eI64 (p0.size : Int)) (Calm.lenStr rfl rfl Try.underlying9) ?_
                  refine AO.calm rfl 112 rfl (by decide) (eBool (decide (x37 < (p0.size : Int)))) (Calm.int rfl rfl rfl rfl) ?_
                  refine AO.calm rfl 113 rfl (by decide) (eBool (decide (x37 < (p0.size : Int)))) (Calm.move rfl rfl) ?_
                  by_cases hc45 : x37 < (p0.size : Int)
                  · have hq44 := (if_pos hc45).symm.trans hq44
                    refine AO.calmG 4 true 113 rfl rfl (congrArg (fun b => some (AV.fl (Value.bool b))) (decide_eq_true hc45)) 114 rfl (by decide) (eStr p0) (Calm.move rfl rfl) ?_
                    refine AO.calmG 4 true 113 rfl rfl (congrArg (fun b => some (AV.fl (Value.bool b))) (decide_eq_true hc45)) 115 rfl (by decide) (eI64 x37) (Calm.move rfl rfl) ?_
                    obtain ⟨hg46, hq44⟩ := of_guard hq44
                    refine AO.calmG 4 true 113 rfl rfl (congrArg (fun b => some (AV.fl (Value.bool b))) (decide_eq_true hc45)) 116 rfl (by decide) (eU8 (byteAt p0 x37)) (Calm.idxS rfl rfl rfl hg46 Try.underlying9) ?_
                    refine AO.calmG 4 true 113 rfl rfl (congrArg (fun b => some (AV.fl (Value.bool b))) (decide_eq_true hc45)) 117 rfl (by decide) (eBool (decide ((byteAt p0 x37) = (32 : Int)))) (Calm.int rfl rfl rfl rfl) ?_
                    refine AO.calm rfl 118 rfl (by decide) (eBool (decide ((byteAt p0 x37) = (32 : Int)))) (Calm.pickT rfl (congrArg (fun b => some (AV.fl (Value.bool b))) (decide_eq_true hc45)) rfl) ?_
                    cases hq44
                    refine AO.nilE ⟨rfl, rfl⟩ ?_ ?_
                    · exact ⟨rfl, rfl, rfl, rfl, rfl, rfl, trivial⟩
                    · exact (Sub.refl _)
                  · have hq44 := (if_neg hc45).symm.trans hq44
                    refine AO.skipG 4 false 113 rfl rfl (congrArg (fun b => some (AV.fl (Value.bool b))) (decide_eq_false hc45)) 114 rfl (by decide) ?_
                    refine AO.skipG 4 false 113 rfl rfl (congrArg (fun b => some (AV.fl (Value.bool b))) (decide_eq_false hc45)) 115 rfl (by decide) ?_
                    refine AO.skipG 4 false 113 rfl rfl (congrArg (fun b => some (AV.fl (Value.bool b))) (decide_eq_false hc45)) 116 rfl (by decide) ?_
                    refine AO.skipG 4 false 113 rfl rfl (congrArg (fun b => some (AV.fl (Value.bool b))) (decide_eq_false hc45)) 117 rfl (by decide) ?_
                    refine AO.calm rfl 118 rfl (by decide) (eBool false) (Calm.pickF rfl (congrArg (fun b => some (AV.fl (Value.bool b))) (decide_eq_false hc45)) rfl) ?_
                    cases hq44
                    refine AO.nilE ⟨rfl, rfl⟩ ?_ ?_
                    · exact ⟨rfl, rfl, rfl, rfl, rfl, rfl, trivial⟩
                    · exact (Sub.refl _)
                · by_cases hc47 : b43 = true
                  · have h := (if_pos hc47).symm.trans h
                    refine AW.condT' b43 rfl hc47 ?_
                    refine AW.skip (ρ' := [(0, (eStr p0)), (2, (eI64 p2)), (10, (eI64 x37)), (16, (.own n38 0 x39.length)), (17, (eI64 x40))]) (H' := [(n38, .mem (.ar 4 (x39.map e43)))]) ⟨rfl, rfl, rfl, rfl, rfl, trivial⟩ (Sub.refl _) ?_
                    refine AW.block ?_
                    refine AW.seq ?_
                    refine AW.reg ?_
                    refine AO.calm rfl 120 rfl (by decide) (eStr p0) (Calm.move rfl rfl) ?_
                    refine AO.calm rfl 121 rfl (by decide) (eI64 x37) (Calm.move rfl rfl) ?_
                    refine AO.calm rfl 122 rfl (by decide) (eI64 (w64 (x37 + (1 : Int)))) (Calm.int rfl rfl rfl rfl) ?_
                    refine AO.calm rfl 123 rfl (by decide) (eI64 p2) (Calm.move rfl rfl) ?_
                    refine AO.calm rfl 124 rfl (by decide) (eI64 (w64 (p2 + (1 : Int)))) (Calm.int rfl rfl rfl rfl) ?_
                    obtain ⟨t48, et48, h⟩ := of_bind h
                    refine AO.callS [(eStr p0), (eI64 (w64 (x37 + (1 : Int)))), (eI64 (w64 (p2 + (1 : Int))))] (.tup [(.fz 4 (t48.1.map e43)), (eI64 t48.2)]) 125 rfl (by decide) ok63 rfl rfl rfl ⟨rfl, rfl, rfl, rfl, rfl, rfl, trivial⟩ (hself _ _ _ _ et48) ?_
                    refine AO.calm rfl 119 rfl (by decide) (.tup [(.fz 4 (t48.1.map e43)), (eI64 t48.2)]) (Calm.move rfl rfl) ?_
                    refine AO.calm rfl 126 rfl (by decide) (.fz 4 (t48.1.map e43)) (Calm.extract rfl rfl rfl) ?_
                    refine AO.calm rfl 127 rfl (by decide) (eI64 t48.2) (Calm.extract rfl rfl rfl) ?_
                    refine AO.calm rfl 18 rfl (by decide) (.fz 4 (t48.1.map e43)) (Calm.assign rfl rfl) ?_
                    refine AO.calm rfl 19 rfl (by decide) (eI64 t48.2) (Calm.assign rfl rfl) ?_
                    refine AO.nil (ρ' := [(0, (eStr p0)), (2, (eI64 p2)), (16, (.own n38 0 x39.length)), (17, (eI64 x40)), (18, (.fz 4 (t48.1.map e43))), (19, (eI64 t48.2))]) (H' := [(n38, .mem (.ar 4 (x39.map e43)))]) ⟨rfl, rfl, rfl, rfl, rfl, rfl, trivial⟩ (Sub.refl _) ?_
                    refine AW.seq ?_
                    refine AW.seq ?_
                    refine AW.reg ?_
                    refine AO.calm rfl 128 rfl (by decide) (eI64 t48.2) (Calm.move rfl rfl) ?_
                    refine AO.calm rfl 129 rfl (by decide) (eBool (decide (t48.2 < (0 : Int)))) (Calm.int rfl rfl rfl rfl) ?_
                    refine AO.nil (ρ' := [(0, (eStr p0)), (2, (eI64 p2)), (16, (.own n38 0 x39.length)), (17, (eI64 x40)), (18, (.fz 4 (t48.1.map e43))), (19, (eI64 t48.2)), (129, (eBool (decide (t48.2 < (0 : Int)))))]) (H' := [(n38, .mem (.ar 4 (x39.map e43)))]) ⟨rfl, rfl, rfl, rfl, rfl, rfl, rfl, trivial⟩ (Sub.refl _) ?_
                    by_cases hc49 : t48.2 < (0 : Int)
                    · have h := (if_pos hc49).symm.trans h
                      refine AW.condP (t48.2 < (0 : Int)) rfl hc49 ?_
                      refine AW.seq ?_
                      refine AW.reg ?_
                      refine AO.calm rfl 6 rfl (by decide) (.fl (.slice none 0 0)) (Calm.assign rfl rfl) ?_
                      refine AO.calm rfl 7 rfl (by decide) (eI64 (-1 : Int)) (Calm.assign rfl rfl) ?_
                      refine AO.nil (ρ' := [(6, (.fl (.slice none 0 0))), (7, (eI64 (-1 : Int)))]) (H' := []) ⟨rfl, rfl, trivial⟩ (Sub.nil _) ?_
                      refine AW.coeC 6 (y' := (.fz 4 (([] : List S43).map e43))) rfl Coe.nil ?_
                      refine AW.ret (ρ' := [(6, (.fz 4 (([] : List S43).map e43))), (7, (eI64 (-1 : Int)))]) (H' := []) ⟨rfl, rfl, trivial⟩ (Sub.refl _) ?_
                      have hr := Option.some.inj h
                      subst hr
                      exact ⟨[(.fz 4 (([] : List S43).map e43)), (eI64 (-1 : Int))], ⟨rfl, rfl, rfl, rfl, trivial⟩, rfl⟩
                    · have h := (if_neg hc49).symm.trans h
                      refine AW.condN (t48.2 < (0 : Int)) rfl hc49 ?_
                      refine AW.skip (ρ' := [(0, (eStr p0)), (2, (eI64 p2)), (16, (.own n38 0 x39.length)), (17, (eI64 x40)), (18, (.fz 4 (t48.1.map e43))), (19, (eI64 t48.2))]) (H' := [(n38, .mem (.ar 4 (x39.map e43)))]) ⟨rfl, rfl, rfl, rfl, rfl, rfl, trivial⟩ (Sub.refl _) ?_
                      refine AW.seq ?_
                      refine AW.reg ?_
                      refine AO.calm rfl 130 rfl (by decide) (.own n38 0 x39.length) (Calm.move rfl rfl) ?_
                      refine AO.calm rfl 131 rfl (by decide) (.fz 4 (t48.1.map e43)) (Calm.move rfl rfl) ?_
                      obtain ⟨hg51, h⟩ := of_guard h
                      refine AO.appendL (l := x39) (m := t48.1) 0 132 rfl (by decide) rfl rfl rfl rfl rfl Src.fz Try.underlying37 Try.underlying37 sz43 by43 zr43 rfl hg51 (by decide) fun n50 => ?_
                      refine AO.calm rfl 16 rfl (by decide) (.own n50 0 (x39 ++ t48.1).length) (Calm.assign rfl rfl) ?_
                      refine AO.nil (ρ' := [(0, (eStr p0)), (2, (eI64 p2)), (16, (.own n50 0 (x39 ++ t48.1).length)), (17, (eI64 x40)), (19, (eI64 t48.2))]) (H' := [(n50, .mem (.ar 4 ((x39 ++ t48.1).map e43)))]) ⟨rfl, rfl, rfl, rfl, rfl, trivial⟩ (Sub.refl _) ?_
                      refine AW.seq ?_
                      refine AW.reg ?_
                      refine AO.calm rfl 133 rfl (by decide) (eI64 x40) (Calm.move rfl rfl) ?_
                      refine AO.calm rfl 134 rfl (by decide) (eI64 (w64 (x40 + (1 : Int)))) (Calm.int rfl rfl rfl rfl) ?_
                      refine AO.calm rfl 17 rfl (by decide) (eI64 (w64 (x40 + (1 : Int)))) (Calm.assign rfl rfl) ?_
                      refine AO.nil (ρ' := [(0, (eStr p0)), (2, (eI64 p2)), (16, (.own n50 0 (x39 ++ t48.1).length)), (17, (eI64 (w64 (x40 + (1 : Int))))), (19, (eI64 t48.2))]) (H' := [(n50, .mem (.ar 4 ((x39 ++ t48.1).map e43)))]) ⟨rfl, rfl, rfl, rfl, rfl, trivial⟩ (Sub.refl _) ?_
                      refine AW.reg ?_
                      refine AO.calm rfl 135 rfl (by decide) (eI64 t48.2) (Calm.move rfl rfl) ?_
                      refine AO.calm rfl 10 rfl (by decide) (eI64 t48.2) (Calm.assign rfl rfl) ?_
                      refine AO.nil (ρ' := [(0, (eStr p0)), (2, (eI64 p2)), (10, (eI64 t48.2)), (16, (.own n50 0 (x39 ++ t48.1).length)), (17, (eI64 (w64 (x40 + (1 : Int)))))]) (H' := [(n50, .mem (.ar 4 ((x39 ++ t48.1).map e43)))]) ⟨rfl, rfl, rfl, rfl, rfl, trivial⟩ (Sub.refl _) ?_
                      exact ⟨kq42, Nat.lt_succ_self _, n50, t48.2, (x39 ++ t48.1), (w64 (x40 + (1 : Int))), rfl, rfl, by rw [hrec41]; exact h⟩
                  · have h := (if_neg hc47).symm.trans h
                    refine AW.condF' b43 rfl hc47 ?_
                    refine AW.exit (ρ' := [(0, (eStr p0)), (10, (eI64 x37)), (16, (.own n38 0 x39.length)), (17, (eI64 x40))]) (H' := [(n38, .mem (.ar 4 (x39.map e43)))]) ⟨rfl, rfl, rfl, rfl, trivial⟩ (Sub.refl _) ?_
                    exact ⟨n38, x37, x39, x40, rfl, rfl, h⟩
              · rintro _ _ ⟨n28, x27, x29, x30, rfl, rfl, h⟩
                rw [bosketref31_read_c0.eq_1] at h
                refine AW.seq ?_
                refine AW.seq ?_
                obtain ⟨b31, hq32, h⟩ := of_bind h
                refine AW.regM [(10, (eI64 x27)), (16, (.own n28 0 x29.length)), (17, (eI64 x30)), (145, (eBool b31))] [(n28, .mem (.ar 4 (x29.map e43)))] ?_ ?_
                · refine AO.calm rfl 136 rfl (by decide) (eI64 x27) (Calm.move rfl rfl) ?_
                  refine AO.calm rfl 137 rfl (by decide) (eStr p0) (Calm.move rfl rfl) ?_
                  refine AO.calm rfl 138 rfl (by decide) (eI64 (p0.size : Int)) (Calm.lenStr rfl rfl Try.underlying9) ?_
                  refine AO.calm rfl 139 rfl (by decide) (eBool (decide ((p0.size : Int) ≤ x27))) (Calm.int rfl rfl rfl rfl) ?_
                  refine AO.calm rfl 140 rfl (by decide) (eBool (decide ((p0.size : Int) ≤ x27))) (Calm.move rfl rfl) ?_
                  by_cases hc33 : (p0.size : Int) ≤ x27
                  · have hq32 := (if_pos hc33).symm.trans hq32
                    refine AO.skipG 4 true 140 rfl rfl (congrArg (fun b => some (AV.fl (Value.bool b))) (decide_eq_true hc33)) 141 rfl (by decide) ?_
                    refine AO.skipG 4 true 140 rfl rfl (congrArg (fun b => some (AV.fl (Value.bool b))) (decide_eq_true hc33)) 142 rfl (by decide) ?_
                    refine AO.skipG 4 true 140 rfl rfl (congrArg (fun b => some (AV.fl (Value.bool b))) (decide_eq_true hc33)) 143 rfl (by decide) ?_
                    refine AO.skipG 4 true 140 rfl rfl (congrArg (fun b => some (AV.fl (Value.bool b))) (decide_eq_true hc33)) 144 rfl (by decide) ?_
                    refine AO.calm rfl 145 rfl (by decide) (eBool true) (Calm.pickT rfl (congrArg (fun b => some (AV.fl (Value.bool b))) (decide_eq_true hc33)) rfl) ?_
                    cases hq32
                    refine AO.nilE ⟨rfl, rfl⟩ ?_ ?_
                    · exact ⟨rfl, rfl, rfl, rfl, trivial⟩
                    · exact (Sub.refl _)
                  · have hq32 := (if_neg hc33).symm.trans hq32
                    refine AO.calmG 4 false 140 rfl rfl (congrArg (fun b => some (AV.fl (Value.bool b))) (decide_eq_false hc33)) 141 rfl (by decide) (eStr p0) (Calm.move rfl rfl) ?_
                    refine AO.calmG 4 false 140 rfl rfl (congrArg (fun b => some (AV.fl (Value.bool b))) (decide_eq_false hc33)) 142 rfl (by decide) (eI64 x27) (Calm.move rfl rfl) ?_
                    obtain ⟨hg34, hq32⟩ := of_guard hq32
                    refine AO.calmG 4 false 140 rfl rfl (congrArg (fun b => some (AV.fl (Value.bool b))) (decide_eq_false hc33)) 143 rfl (by decide) (eU8 (byteAt p0 x27)) (Calm.idxS rfl rfl rfl hg34 Try.underlying9) ?_
                    refine AO.calmG 4 false 140 rfl rfl (congrArg (fun b => some (AV.fl (Value.bool b))) (decide_eq_false hc33)) 144 rfl (by decide) (eBool (decide ((byteAt p0 x27) ≠ (41 : Int)))) (Calm.int rfl rfl rfl rfl) ?_
                    refine AO.calm rfl 145 rfl (by decide) (eBool (decide ((byteAt p0 x27) ≠ (41 : Int)))) (Calm.pickF rfl (congrArg (fun b => some (AV.fl (Value.bool b))) (decide_eq_false hc33)) rfl) ?_
                    cases hq32
                    refine AO.nilE ⟨rfl, rfl⟩ ?_ ?_
                    · exact ⟨rfl, rfl, rfl, rfl, trivial⟩
                    · exact (Sub.refl _)
                · by_cases hc35 : b31 = true
                  · have h := (if_pos hc35).symm.trans h
                    refine AW.condT' b31 rfl hc35 ?_
                    refine AW.seq ?_
                    refine AW.reg ?_
                    refine AO.calm rfl 6 rfl (by decide) (.fl (.slice none 0 0)) (Calm.assign rfl rfl) ?_
                    refine AO.calm rfl 7 rfl (by decide) (eI64 (-1 : Int)) (Calm.assign rfl rfl) ?_
                    refine AO.nil (ρ' := [(6, (.fl (.slice none 0 0))), (7, (eI64 (-1 : Int)))]) (H' := []) ⟨rfl, rfl, trivial⟩ (Sub.nil _) ?_
                    refine AW.coeC 6 (y' := (.fz 4 (([] : List S43).map e43))) rfl Coe.nil ?_
                    refine AW.ret (ρ' := [(6, (.fz 4 (([] : List S43).map e43))), (7, (eI64 (-1 : Int)))]) (H' := []) ⟨rfl, rfl, trivial⟩ (Sub.refl _) ?_
                    have hr := Option.some.inj h
                    subst hr
                    exact ⟨[(.fz 4 (([] : List S43).map e43)), (eI64 (-1 : Int))], ⟨rfl, rfl, rfl, rfl, trivial⟩, rfl⟩
                  · have h := (if_neg hc35).symm.trans h
                    refine AW.condF' b31 rfl hc35 ?_
                    refine AW.skip (ρ' := [(10, (eI64 x27)), (16, (.own n28 0 x29.length)), (17, (eI64 x30))]) (H' := [(n28, .mem (.ar 4 (x29.map e43)))]) ⟨rfl, rfl, rfl, trivial⟩ (Sub.refl _) ?_
                    refine AW.seq ?_
                    refine AW.reg ?_
                    refine AO.calm rfl 146 rfl (by decide) (.own n28 0 x29.length) (Calm.move rfl rfl) ?_
                    refine AO.calm rfl 147 rfl (by decide) (eI64 x30) (Calm.move rfl rfl) ?_
                    obtain ⟨hg36, h⟩ := of_guard h
                    refine AO.calm rfl 148 rfl (by decide) (.ptr n28 ((0 : Int).toNat * 4 + 0)) (Calm.idxO 0 rfl rfl rfl rfl hg36 Try.underlying37 sz43) ?_
                    refine AO.calm rfl 149 rfl (by decide) (.ptr n28 ((0 : Int).toNat * 4 + 0 + 2)) (Calm.fldPtr rfl rfl Try.underlying43 rfl sz3 _ rfl) ?_
                    refine AO.store (X' := (.ar 4 ((lset x29 (0 : Int) (S43.mk ((lget x29 (0 : Int)).f0) ((lget x29 (0 : Int)).f1) x30 ((lget x29 (0 : Int)).f3))).map e43))) 0 rfl rfl rfl rfl rfl rfl (Put.cast (Put.lidx (0 : Int) (S43.mk ((lget x29 (0 : Int)).f0) ((lget x29 (0 : Int)).f1) x30 ((lget x29 (0 : Int)).f3)) hg36.1 hg36.2 (Put.fldS (Put.fldS (Put.fld0 Put.here)))) (by omega)) rfl rfl sz3 rfl ?_
                    refine AO.coe 16 (y' := (.own n28 0 (lset x29 (0 : Int) (S43.mk ((lget x29 (0 : Int)).f0) ((lget x29 (0 : Int)).f1) x30 ((lget x29 (0 : Int)).f3))).length)) rfl (fun _ _ h => lset_own h) ?_
                    refine AO.coe 146 (y' := (.own n28 0 (lset x29 (0 : Int) (S43.mk ((lget x29 (0 : Int)).f0) ((lget x29 (0 : Int)).f1) x30 ((lget x29 (0 : Int)).f3))).length)) rfl (fun _ _ h => lset_own h) ?_
                    refine AO.nil (ρ' := [(10, (eI64 x27)), (16, (.own n28 0 (lset x29 (0 : Int) (S43.mk ((lget x29 (0 : Int)).f0) ((lget x29 (0 : Int)).f1) x30 ((lget x29 (0 : Int)).f3))).length))]) (H' := [(n28, .mem (.ar 4 ((lset x29 (0 : Int) (S43.mk ((lget x29 (0 : Int)).f0) ((lget x29 (0 : Int)).f1) x30 ((lget x29 (0 : Int)).f3))).map e43)))]) ⟨rfl, rfl, trivial⟩ (Sub.refl _) ?_
                    refine AW.seq ?_
                    refine AW.reg ?_
                    refine AO.calm rfl 150 rfl (by decide) (.own n28 0 (lset x29 (0 : Int) (S43.mk ((lget x29 (0 : Int)).f0) ((lget x29 (0 : Int)).f1) x30 ((lget x29 (0 : Int)).f3))).length) (Calm.move rfl rfl) ?_
                    refine AO.calm rfl 151 rfl (by decide) (eI64 x27) (Calm.move rfl rfl) ?_
                    refine AO.calm rfl 152 rfl (by decide) (eI64 (w64 (x27 + (1 : Int)))) (Calm.int rfl rfl rfl rfl) ?_
                    refine AO.calm rfl 6 rfl (by decide) (.own n28 0 (lset x29 (0 : Int) (S43.mk ((lget x29 (0 : Int)).f0) ((lget x29 (0 : Int)).f1) x30 ((lget x29 (0 : Int)).f3))).length) (Calm.assign rfl rfl) ?_
                    refine AO.calm rfl 7 rfl (by decide) (eI64 (w64 (x27 + (1 : Int)))) (Calm.assign rfl rfl) ?_
                    refine AO.nil (ρ' := [(6, (.own n28 0 (lset x29 (0 : Int) (S43.mk ((lget x29 (0 : Int)).f0) ((lget x29 (0 : Int)).f1) x30 ((lget x29 (0 : Int)).f3))).length)), (7, (eI64 (w64 (x27 + (1 : Int)))))]) (H' := [(n28, .mem (.ar 4 ((lset x29 (0 : Int) (S43.mk ((lget x29 (0 : Int)).f0) ((lget x29 (0 : Int)).f1) x30 ((lget x29 (0 : Int)).f3))).map e43)))]) ⟨rfl, rfl, trivial⟩ (Sub.refl _) ?_
                    refine AW.freezeS 0 [(6, (.fz 4 ((lset x29 (0 : Int) (S43.mk ((lget x29 (0 : Int)).f0) ((lget x29 (0 : Int)).f1) x30 ((lget x29 (0 : Int)).f3))).map e43)))] rfl ⟨fz_all rfl, trivial⟩ ?_
                    refine AW.ret (ρ' := [(6, (.fz 4 ((lset x29 (0 : Int) (S43.mk ((lget x29 (0 : Int)).f0) ((lget x29 (0 : Int)).f1) x30 ((lget x29 (0 : Int)).f3))).map e43))), (7, (eI64 (w64 (x27 + (1 : Int)))))]) (H' := []) ⟨rfl, rfl, trivial⟩ (Sub.refl _) ?_
                    have hr := Option.some.inj h
                    subst hr
                    exact ⟨[(.fz 4 ((lset x29 (0 : Int) (S43.mk ((lget x29 (0 : Int)).f0) ((lget x29 (0 : Int)).f1) x30 ((lget x29 (0 : Int)).f3))).map e43)), (eI64 (w64 (x27 + (1 : Int))))], ⟨rfl, rfl, rfl, rfl, trivial⟩, rfl⟩
theorem bosketref31_read_spec {k : Nat} {p0 : ByteArray} {p1 : Int} {p2 : Int} {r : ((List S43) × Int)} (h : bosketref31_read k p0 p1 p2 = some r) : Spec Try.prog 63 [(eStr p0), (eI64 p1), (eI64 p2)] (.tup [(.fz 4 (r.1.map e43)), (eI64 r.2)]) := bosketref31_read_spec' k k p0 p1 p2 r h
end Go.Avl.T2
/- (*bosket/ast.reader).number; printed by avmain.py. -/
namespace Go.Avl.T2
open Go Go.RowKit Go.Proofs Go.Avl
set_option linter.unusedVariables false
set_option maxRecDepth 100000
set_option maxHeartbeats 4000000
attribute [local irreducible] AW AO AQ Spec SpecH Calm

def ast_reader_number_c0 (k : Nat) (p0 : S88) (x2 : Int) : Option (Int × Bool × S88) :=
  if 0 ≤ p0.f1 ∧ p0.f1 ≤ x2 ∧ x2 ≤ (p0.f0.size : Int) then (spot_Number k (p0.f0.extract p0.f1.toNat x2.toNat)).bind fun t4 =>
  some (t4.1, t4.2, (S88.mk p0.f0 x2 p0.f2))
  else none
def ast_reader_number_l1 (k : Nat) (p0 : S88) : Nat → Int → Option (Int × Bool × S88)
  | 0, _ => none
  | j + 1, x5 =>
    Option.bind (α := Bool) (if x5 < (p0.f0.size : Int) then if 0 ≤ x5 ∧ x5 < (p0.f0.size : Int) then if (byteAt p0.f0 x5) = (45 : Int) then some (true)
    else if 0 ≤ x5 ∧ x5 < (p0.f0.size : Int) then if (48 : Int) ≤ (byteAt p0.f0 x5) then if 0 ≤ x5 ∧ x5 < (p0.f0.size : Int) then some (decide ((byteAt p0.f0 x5) ≤ (57 : Int)))
    else none
    else some (false)
    else none
    else none
    else some (false)) fun b8 =>
    if b8 = true then (ast_reader_number_l1 k p0 j) (w64 (x5 + (1 : Int)))
    else ast_reader_number_c0 k p0 x5
def ast_reader_number (k : Nat) (p0 : S88) : Option (Int × Bool × S88) :=
  ast_reader_number_l1 k p0 k p0.f1
theorem ast_reader_number_spec {k : Nat} {p0 : S88} {r : (Int × Bool × S88)} (h : ast_reader_number k p0 = some r) {q0 : Nat} {T0 : Heap} : SpecH Try.prog 84 [(.ptr q0 0)] ((q0, .mem (e88 p0)) :: T0) (fun x H' => x = .tup [(eI64 r.1), (eBool r.2.1)] ∧ Sub ((q0, .mem (e88 r.2.2)) :: T0) H') := by
  rw [ast_reader_number.eq_1] at h
  refine SpecH.intro (res := [.tmp 2, .tmp 3]) Try.func84 rfl rfl rfl (Nat.le_of_ble_eq_true rfl) ?_
  refine AW.seq ?_
  refine AW.reg ?_
  refine AO.calm rfl 2 rfl (by decide) (eI64 (0 : Int)) (Calm.assign rfl rfl) ?_
  refine AO.calm rfl 3 rfl (by decide) (eBool false) (Calm.assign rfl rfl) ?_
  refine AO.nil (ρ' := [(0, (.ptr q0 0))]) (H' := ((q0, .mem (e88 p0)) :: T0)) ⟨rfl, trivial⟩ (Sub.refl _) ?_
  refine AW.seq ?_
  refine AW.reg ?_
  refine AO.calm rfl 5 rfl (by decide) (.ptr q0 0) (Calm.move rfl rfl) ?_
  refine AO.calm rfl 6 rfl (by decide) (.ptr q0 0) (Calm.nilCheck rfl rfl) ?_
  refine AO.calm rfl 7 rfl (by decide) (.ptr q0 1) (Calm.fldPtr rfl rfl Try.underlying88 rfl sz3 _ rfl) ?_
  refine AO.calm rfl 8 rfl (by decide) (eI64 p0.f1) (Calm.load 0 rfl rfl rfl (At.cast (At.fldS (At.fld0 At.here)) rfl) ag3 sz3) ?_
  refine AO.calm rfl 4 rfl (by decide) (eI64 p0.f1) (Calm.assign rfl rfl) ?_
  refine AO.nil (ρ' := [(0, (.ptr q0 0)), (4, (eI64 p0.f1))]) (H' := ((q0, .mem (e88 p0)) :: T0)) ⟨rfl, rfl, trivial⟩ (Sub.refl _) ?_
  refine AW.seq_mid (fun ρ H => ∃ (x2 : Int), ρ = [(0, (.ptr q0 0)), (4, (eI64 p0.f1))] ∧ H = ((q0, .mem (.st [(1, (eStr p0.f0)), (1, (eI64 x2)), (1, (eI64 p0.f2))])) :: T0) ∧ ast_reader_number_c0 k p0 x2 = some r) ?_ ?_
  · refine AW.block ?_
    refine AW.weak (ρ' := [(0, (.ptr q0 0)), (4, (eI64 p0.f1))]) (H' := ((q0, .mem (e88 p0)) :: T0)) ⟨rfl, rfl, trivial⟩ (Sub.refl _) ?_
    refine AW.loop (fun kq ρ H => ∃ (x5 : Int), ρ = [(0, (.ptr q0 0)), (4, (eI64 p0.f1))] ∧ H = ((q0, .mem (.st [(1, (eStr p0.f0)), (1, (eI64 x5)), (1, (eI64 p0.f2))])) :: T0) ∧ ast_reader_number_l1 k p0 kq x5 = some r) k ⟨p0.f1, rfl, rfl, h⟩ ?_
    rintro kq7 _ _ ⟨x5, rfl, rfl, h⟩
    cases kq7 with
    | zero => rw [ast_reader_number_l1.eq_1] at h; cases h
    | succ kq7 =>
    rw [ast_reader_number_l1.eq_2] at h
    generalize hrec6 : ast_reader_number_l1 k p0 kq7 = rec6 at h
    refine AW.seq ?_
    refine AW.seq ?_
    obtain ⟨b8, hq9, h⟩ := of_bind h
    refine AW.regQM (by rfl) (by decide +kernel) [(0, (.ptr q0 0)), (4, (eI64 p0.f1)), (54, (eBool b8))] ?_ ?_
    · refine AQ.calm rfl 9 rfl (by decide) (.ptr q0 0) (Calm.move rfl rfl) ?_
      refine AQ.calm rfl 10 rfl (by decide) (.ptr q0 0) (Calm.nilCheck rfl rfl) ?_
      refine AQ.calm rfl 11 rfl (by decide) (.ptr q0 1) (Calm.fldPtr rfl rfl Try.underlying88 rfl sz3 _ rfl) ?_
      refine AQ.calm rfl 12 rfl (by decide) (eI64 x5) (Calm.load 0 rfl rfl rfl (At.cast (At.fldS (At.fld0 At.here)) rfl) ag3 sz3) ?_
      refine AQ.calm rfl 13 rfl (by decide) (.ptr q0 0) (Calm.move rfl rfl) ?_
      refine AQ.calm rfl 14 rfl (by decide) (.ptr q0 0) (Calm.nilCheck rfl rfl) ?_
      refine AQ.calm rfl 15 rfl (by decide) (.ptr q0 0) (Calm.fldPtr rfl rfl Try.underlying88 rfl sz9 _ rfl) ?_
      refine AQ.calm rfl 16 rfl (by decide) (eStr p0.f0) (Calm.load 0 rfl rfl rfl (At.cast (At.fld0 At.here) rfl) ag9 sz9) ?_
      refine AQ.calm rfl 17 rfl (by decide) (eI64 (p0.f0.size : Int)) (Calm.lenStr rfl rfl Try.underlying9) ?_
      refine AQ.calm rfl 18 rfl (by decide) (eBool (decide (x5 < (p0.f0.size : Int)))) (Calm.int rfl rfl rfl rfl) ?_
      refine AQ.calm rfl 19 rfl (by decide) (eBool (decide (x5 < (p0.f0.size : Int)))) (Calm.move rfl rfl) ?_
      by_cases hc10 : x5 < (p0.f0.size : Int)
      · have hq9 := (if_pos hc10).symm.trans hq9
        refine AQ.calmG 10 true 19 rfl rfl (congrArg (fun b => some (AV.fl (Value.bool b))) (decide_eq_true hc10)) 20 rfl (by decide) (.ptr q0 0) (Calm.move rfl rfl) ?_
        refine AQ.calmG 10 true 19 rfl rfl (congrArg (fun b => some (AV.fl (Value.bool b))) (decide_eq_true hc10)) 21 rfl (by decide) (.ptr q0 0) (Calm.nilCheck rfl rfl) ?_
        refine AQ.calmG 10 true 19 rfl rfl (congrArg (fun b => some (AV.fl (Value.bool b))) (decide_eq_true hc10)) 22 rfl (by decide) (.ptr q0 0) (Calm.fldPtr rfl rfl Try.underlying88 rfl sz9 _ rfl) ?_
        refine AQ.calmG 10 true 19 rfl rfl (congrArg (fun b => some (AV.fl (Value.bool b))) (decide_eq_true hc10)) 23 rfl (by decide) (eStr p0.f0) (Calm.load 0 rfl rfl rfl (At.cast (At.fld0 At.here) rfl) ag9 sz9) ?_
        refine AQ.calmG 10 true 19 rfl rfl (congrArg (fun b => some (AV.fl (Value.bool b))) (decide_eq_true hc10)) 24 rfl (by decide) (.ptr q0 0) (Calm.move rfl rfl) ?_
        refine AQ.calmG 10 true 19 rfl rfl (congrArg (fun b => some (AV.fl (Value.bool b))) (decide_eq_true hc10)) 25 rfl (by decide) (.ptr q0 0) (Calm.nilCheck rfl rfl) ?_
        refine AQ.calmG 10 true 19 rfl rfl (congrArg (fun b => some (AV.fl (Value.bool b))) (decide_eq_true hc10)) 26 rfl (by decide) (.ptr q0 1) (Calm.fldPtr rfl rfl Try.underlying88 rfl sz3 _ rfl) ?_
        refine AQ.calmG 10 true 19 rfl rfl (congrArg (fun b => some (AV.fl (Value.bool b))) (decide_eq_true hc10)) 27 rfl (by decide) (eI64 x5) (Calm.load 0 rfl rfl rfl (At.cast (At.fldS (At.fld0 At.here)) rfl) ag3 sz3) ?_
        obtain ⟨hg11, hq9⟩ := of_guard hq9
        refine AQ.calmG 10 true 19 rfl rfl (congrArg (fun b => some (AV.fl (Value.bool b))) (decide_eq_true hc10)) 28 rfl (by decide) (eU8 (byteAt p0.f0 x5)) (Calm.idxS rfl rfl rfl hg11 Try.underlying9) ?_
        refine AQ.calmG 10 true 19 rfl rfl (congrArg (fun b => some (AV.fl (Value.bool b))) (decide_eq_true hc10)) 29 rfl (by decide) (eBool (decide ((byteAt p0.f0 x5) = (45 : Int)))) (Calm.int rfl rfl rfl rfl) ?_
        refine AQ.calmG 10 true 19 rfl rfl (congrArg (fun b => some (AV.fl (Value.bool b))) (decide_eq_true hc10)) 30 rfl (by decide) (eBool (decide ((byteAt p0.f0 x5) = (45 : Int)))) (Calm.move rfl rfl) ?_
        by_cases hc12 : (byteAt p0.f0 x5) = (45 : Int)
        · have hq9 := (if_pos hc12).symm.trans hq9
          refine AQ.skipG 21 true 30 rfl rfl (congrArg (fun b => some (AV.fl (Value.bool b))) (decide_eq_true hc12)) 31 rfl (by decide) ?_
          refine AQ.skipG 21 true 30 rfl rfl (congrArg (fun b => some (AV.fl (Value.bool b))) (decide_eq_true hc12)) 32 rfl (by decide) ?_
          refine AQ.skipG 21 true 30 rfl rfl (congrArg (fun b => some (AV.fl (Value.bool b))) (decide_eq_true hc12)) 33 rfl (by decide) ?_
          refine AQ.skipG 21 true 30 rfl rfl (congrArg (fun b => some (AV.fl (Value.bool b))) (decide_eq_true hc12)) 34 rfl (by decide) ?_
          refine AQ.skipG 21 true 30 rfl rfl (congrArg (fun b => some (AV.fl (Value.bool b))) (decide_eq_true hc12)) 35 rfl (by decide) ?_
          refine AQ.skipG 21 true 30 rfl rfl (congrArg (fun b => some (AV.fl (Value.bool b))) (decide_eq_true hc12)) 36 rfl (by decide) ?_
          refine AQ.skipG 21 true 30 rfl rfl (congrArg (fun b => some (AV.fl (Value.bool b))) (decide_eq_true hc12)) 37 rfl (by decide) ?_
          refine AQ.skipG 21 true 30 rfl rfl (congrArg (fun b => some (AV.fl (Value.bool b))) (decide_eq_true hc12)) 38 rfl (by decide) ?_
          refine AQ.skipG 21 true 30 rfl rfl (congrArg (fun b => some (AV.fl (Value.bool b))) (decide_eq_true hc12)) 39 rfl (by decide) ?_
          refine AQ.skipG 21 true 30 rfl rfl (congrArg (fun b => some (AV.fl (Value.bool b))) (decide_eq_true hc12)) 40 rfl (by decide) ?_
          refine AQ.skipG 21 true 30 rfl rfl (congrArg (fun b => some (AV.fl (Value.bool b))) (decide_eq_true hc12)) 41 rfl (by decide) ?_
          refine AQ.skipU 32 true 41 rfl rfl rfl 42 rfl (by decide) ?_
          refine AQ.skipU 32 true 41 rfl rfl rfl 43 rfl (by decide) ?_
          refine AQ.skipU 32 true 41 rfl rfl rfl 44 rfl (by decide) ?_
          refine AQ.skipU 32 true 41 rfl rfl rfl 45 rfl (by decide) ?_
          refine AQ.skipU 32 true 41 rfl rfl rfl 46 rfl (by decide) ?_
          refine AQ.skipU 32 true 41 rfl rfl rfl 47 rfl (by decide) ?_
          refine AQ.skipU 32 true 41 rfl rfl rfl 48 rfl (by decide) ?_
          refine AQ.skipU 32 true 41 rfl rfl rfl 49 rfl (by decide) ?_
          refine AQ.skipU 32 true 41 rfl rfl rfl 50 rfl (by decide) ?_
          refine AQ.skipU 32 true 41 rfl rfl rfl 51 rfl (by decide) ?_
          refine AQ.skipG 21 true 30 rfl rfl (congrArg (fun b => some (AV.fl (Value.bool b))) (decide_eq_true hc12)) 52 rfl (by decide) ?_
          refine AQ.calmG 10 true 19 rfl rfl (congrArg (fun b => some (AV.fl (Value.bool b))) (decide_eq_true hc10)) 53 rfl (by decide) (eBool true) (Calm.pickT rfl (congrArg (fun b => some (AV.fl (Value.bool b))) (decide_eq_true hc12)) rfl) ?_
          refine AQ.calm rfl 54 rfl (by decide) (eBool true) (Calm.pickT rfl (congrArg (fun b => some (AV.fl (Value.bool b))) (decide_eq_true hc10)) rfl) ?_
          cases hq9
          refine AQ.nilE rfl ?_
          exact ⟨rfl, rfl, rfl, trivial⟩
        · have hq9 := (if_neg hc12).symm.trans hq9
          refine AQ.calmG 21 false 30 rfl rfl (congrArg (fun b => some (AV.fl (Value.bool b))) (decide_eq_false hc12)) 31 rfl (by decide) (.ptr q0 0) (Calm.move rfl rfl) ?_
          refine AQ.calmG 21 false 30 rfl rfl (congrArg (fun b => some (AV.fl (Value.bool b))) (decide_eq_false hc12)) 32 rfl (by decide) (.ptr q0 0) (Calm.nilCheck rfl rfl) ?_
          refine AQ.calmG 21 false 30 rfl rfl (congrArg (fun b => some (AV.fl (Value.bool b))) (decide_eq_false hc12)) 33 rfl (by decide) (.ptr q0 0) (Calm.fldPtr rfl rfl Try.underlying88 rfl sz9 _ rfl) ?_
          refine AQ.calmG 21 false 30 rfl rfl (congrArg (fun b => some (AV.fl (Value.bool b))) (decide_eq_false hc12)) 34 rfl (by decide) (eStr p0.f0) (Calm.load 0 rfl rfl rfl (At.cast (At.fld0 At.here) rfl) ag9 sz9) ?_
          refine AQ.calmG 21 false 30 rfl rfl (congrArg (fun b => some (AV.fl (Value.bool b))) (decide_eq_false hc12)) 35 rfl (by decide) (.ptr q0 0) (Calm.move rfl rfl) ?_
          refine AQ.calmG 21 false 30 rfl rfl (congrArg (fun b => some (AV.fl (Value.bool b))) (decide_eq_false hc12)) 36 rfl (by decide) (.ptr q0 0) (Calm.nilCheck rfl rfl) ?_
          refine AQ.calmG 21 false 30 rfl rfl (congrArg (fun b => some (AV.fl (Value.bool b))) (decide_eq_false hc12)) 37 rfl (by decide) (.ptr q0 1) (Calm.fldPtr rfl rfl Try.underlying88 rfl sz3 _ rfl) ?_
          refine AQ.calmG 21 false 30 rfl rfl (congrArg (fun b => some (AV.fl (Value.bool b))) (decide_eq_false hc12)) 38 rfl (by decide) (eI64 x5) (Calm.load 0 rfl rfl rfl (At.cast (At.fldS (At.fld0 At.here)) rfl) ag3 sz3) ?_
          obtain ⟨hg13, hq9⟩ := of_guard hq9
          refine AQ.calmG 21 false 30 rfl rfl (congrArg (fun b => some (AV.fl (Value.bool b))) (decide_eq_false hc12)) 39 rfl (by decide) (eU8 (byteAt p0.f0 x5)) (Calm.idxS rfl rfl rfl hg13 Try.underlying9) ?_
          refine AQ.calmG 21 false 30 rfl rfl (congrArg (fun b => some (AV.fl (Value.bool b))) (decide_eq_false hc12)) 40 rfl (by decide) (eBool (decide ((48 : Int) ≤ (byteAt p0.f0 x5)))) (Calm.int rfl rfl rfl rfl) ?_
          refine AQ.calmG 21 false 30 rfl rfl (congrArg (fun b => some (AV.fl (Value.bool b))) (decide_eq_false hc12)) 41 rfl (by decide) (eBool (decide ((48 : Int) ≤ (byteAt p0.f0 x5)))) (Calm.move rfl rfl) ?_
          by_cases hc14 : (48 : Int) ≤ (byteAt p0.f0 x5)
          · have hq9 := (if_pos hc14).symm.trans hq9
            refine AQ.calmG 32 true 41 rfl rfl (congrArg (fun b => some (AV.fl (Value.bool b))) (decide_eq_true hc14)) 42 rfl (by decide) (.ptr q0 0) (Calm.move rfl rfl) ?_
            refine AQ.calmG 32 true 41 rfl rfl (congrArg (fun b => some (AV.fl (Value.bool b))) (decide_eq_true hc14)) 43 rfl (by decide) (.ptr q0 0) (Calm.nilCheck rfl rfl) ?_
            refine AQ.calmG 32 true 41 rfl rfl (congrArg (fun b => some (AV.fl (Value.bool b))) (decide_eq_true hc14)) 44 rfl (by decide) (.ptr q0 0) (Calm.fldPtr rfl rfl Try.underlying88 rfl sz9 _ rfl) ?_
            refine AQ.calmG 32 true 41 rfl rfl (congrArg (fun b => some (AV.fl (Value.bool b))) (decide_eq_true hc14)) 45 rfl (by decide) (eStr p0.f0) (Calm.load 0 rfl rfl rfl (At.cast (At.fld0 At.here) rfl) ag9 sz9) ?_
            refine AQ.calmG 32 true 41 rfl rfl (congrArg (fun b => some (AV.fl (Value.bool b))) (decide_eq_true hc14)) 46 rfl (by decide) (.ptr q0 0) (Calm.move rfl rfl) ?_
            refine AQ.calmG 32 true 41 rfl rfl (congrArg (fun b => some (AV.fl (Value.bool b))) (decide_eq_true hc14)) 47 rfl (by decide) (.ptr q0 0) (Calm.nilCheck rfl rfl) ?_
            refine AQ.calmG 32 true 41 rfl rfl (congrArg (fun b => some (AV.fl (Value.bool b))) (decide_eq_true hc14)) 48 rfl (by decide) (.ptr q0 1) (Calm.fldPtr rfl rfl Try.underlying88 rfl sz3 _ rfl) ?_
            refine AQ.calmG 32 true 41 rfl rfl (congrArg (fun b => some (AV.fl (Value.bool b))) (decide_eq_true hc14)) 49 rfl (by decide) (eI64 x5) (Calm.load 0 rfl rfl rfl (At.cast (At.fldS (At.fld0 At.here)) rfl) ag3 sz3) ?_
            obtain ⟨hg15, hq9⟩ := of_guard hq9
            refine AQ.calmG 32 true 41 rfl rfl (congrArg (fun b => some (AV.fl (Value.bool b))) (decide_eq_true hc14)) 50 rfl (by decide) (eU8 (byteAt p0.f0 x5)) (Calm.idxS rfl rfl rfl hg15 Try.underlying9) ?_
            refine AQ.calmG 32 true 41 rfl rfl (congrArg (fun b => some (AV.fl (Value.bool b))) (decide_eq_true hc14)) 51 rfl (by decide) (eBool (decide ((byteAt p0.f0 x5) ≤ (57 : Int)))) (Calm.int rfl rfl rfl rfl) ?_
            refine AQ.calmG 21 false 30 rfl rfl (congrArg (fun b => some (AV.fl (Value.bool b))) (decide_eq_false hc12)) 52 rfl (by decide) (eBool (decide ((byteAt p0.f0 x5) ≤ (57 : Int)))) (Calm.pickT rfl (congrArg (fun b => some (AV.fl (Value.bool b))) (decide_eq_true hc14)) rfl) ?_
            refine AQ.calmG 10 true 19 rfl rfl (congrArg (fun b => some (AV.fl (Value.bool b))) (decide_eq_true hc10)) 53 rfl (by decide) (eBool (decide ((byteAt p0.f0 x5) ≤ (57 : Int)))) (Calm.pickF rfl (congrArg (fun b => some (AV.fl (Value.bool b))) (decide_eq_false hc12)) rfl) ?_
            refine AQ.calm rfl 54 rfl (by decide) (eBool (decide ((byteAt p0.f0 x5) ≤ (57 : Int)))) (Calm.pickT rfl (congrArg (fun b => some (AV.fl (Value.bool b))) (decide_eq_true hc10)) rfl) ?_
            cases hq9
            refine AQ.nilE rfl ?_
            exact ⟨rfl, rfl, rfl, trivial⟩
          · have hq9 := (if_neg hc14).symm.trans hq9
            refine AQ.skipG 32 false 41 rfl rfl (congrArg (fun b => some (AV.fl (Value.bool b))) (decide_eq_false hc14)) 42 rfl (by decide) ?_
            refine AQ.skipG 32 false 41 rfl rfl (congrArg (fun b => some (AV.fl (Value.bool b))) (decide_eq_false hc14)) 43 rfl (by decide) ?_
            refine AQ.skipG 32 false 41 rfl rfl (congrArg (fun b => some (AV.fl (Value.bool b))) (decide_eq_false hc14)) 44 rfl (by decide) ?_
            refine AQ.skipG 32 false 41 rfl rfl (congrArg (fun b => some (AV.fl (Value.bool b))) (decide_eq_false hc14)) 45 rfl (by decide) ?_
            refine AQ.skipG 32 false 41 rfl rfl (congrArg (fun b => some (AV.fl (Value.bool b))) (decide_eq_false hc14)) 46 rfl (by decide) ?_
            refine AQ.skipG 32 false 41 rfl rfl (congrArg (fun b => some (AV.fl (Value.bool b))) (decide_eq_false hc14)) 47 rfl (by decide) ?_
            refine AQ.skipG 32 false 41 rfl rfl (congrArg (fun b => some (AV.fl (Value.bool b))) (decide_eq_false hc14)) 48 rfl (by decide) ?_
            refine AQ.skipG 32 false 41 rfl rfl (congrArg (fun b => some (AV.fl (Value.bool b))) (decide_eq_false hc14)) 49 rfl (by decide) ?_
            refine AQ.skipG 32 false 41 rfl rfl (congrArg (fun b => some (AV.fl (Value.bool b))) (decide_eq_false hc14)) 50 rfl (by decide) ?_
            refine AQ.skipG 32 false 41 rfl rfl (congrArg (fun b => some (AV.fl (Value.bool b))) (decide_eq_false hc14)) 51 rfl (by decide) ?_
            refine AQ.calmG 21 false 30 rfl rfl (congrArg (fun b => some (AV.fl (Value.bool b))) (decide_eq_false hc12)) 52 rfl (by decide) (eBool false) (Calm.pickF rfl (congrArg (fun b => some (AV.fl (Value.bool b))) (decide_eq_false hc14)) rfl) ?_
            refine AQ.calmG 10 true 19 rfl rfl (congrArg (fun b => some (AV.fl (Value.bool b))) (decide_eq_true hc10)) 53 rfl (by decide) (eBool false) (Calm.pickF rfl (congrArg (fun b => some (AV.fl (Value.bool b))) (decide_eq_false hc12)) rfl) ?_
            refine AQ.calm rfl 54 rfl (by decide) (eBool false) (Calm.pickT rfl (congrArg (fun b => some (AV.fl (Value.bool b))) (decide_eq_true hc10)) rfl) ?_
            cases hq9
            refine AQ.nilE rfl ?_
            exact ⟨rfl, rfl, rfl, trivial⟩
      · have hq9 := (if_neg hc10).symm.trans hq9
        refine AQ.skipG 10 false 19 rfl rfl (congrArg (fun b => some (AV.fl (Value.bool b))) (decide_eq_false hc10)) 20 rfl (by decide) ?_
        refine AQ.skipG 10 false 19 rfl rfl (congrArg (fun b => some (AV.fl (Value.bool b))) (decide_eq_false hc10)) 21 rfl (by decide) ?_
        refine AQ.skipG 10 false 19 rfl rfl (congrArg (fun b => some (AV.fl (Value.bool b))) (decide_eq_false hc10)) 22 rfl (by decide) ?_
        refine AQ.skipG 10 false 19 rfl rfl (congrArg (fun b => some (AV.fl (Value.bool b))) (decide_eq_false hc10)) 23 rfl (by decide) ?_
        refine AQ.skipG 10 false 19 rfl rfl (congrArg (fun b => some (AV.fl (Value.bool b))) (decide_eq_false hc10)) 24 rfl (by decide) ?_
        refine AQ.skipG 10 false 19 rfl rfl (congrArg (fun b => some (AV.fl (Value.bool b))) (decide_eq_false hc10)) 25 rfl (by decide) ?_
        refine AQ.skipG 10 false 19 rfl rfl (congrArg (fun b => some (AV.fl (Value.bool b))) (decide_eq_false hc10)) 26 rfl (by decide) ?_
        refine AQ.skipG 10 false 19 rfl rfl (congrArg (fun b => some (AV.fl (Value.bool b))) (decide_eq_false hc10)) 27 rfl (by decide) ?_
        refine AQ.skipG 10 false 19 rfl rfl (congrArg (fun b => some (AV.fl (Value.bool b))) (decide_eq_false hc10)) 28 rfl (by decide) ?_
        refine AQ.skipG 10 false 19 rfl rfl (congrArg (fun b => some (AV.fl (Value.bool b))) (decide_eq_false hc10)) 29 rfl (by decide) ?_
        refine AQ.skipG 10 false 19 rfl rfl (congrArg (fun b => some (AV.fl (Value.bool b))) (decide_eq_false hc10)) 30 rfl (by decide) ?_
        refine AQ.skipU 21 false 30 rfl rfl rfl 31 rfl (by decide) ?_
        refine AQ.skipU 21 false 30 rfl rfl rfl 32 rfl (by decide) ?_
        refine AQ.skipU 21 false 30 rfl rfl rfl 33 rfl (by decide) ?_
        refine AQ.skipU 21 false 30 rfl rfl rfl 34 rfl (by decide) ?_
        refine AQ.skipU 21 false 30 rfl rfl rfl 35 rfl (by decide) ?_
        refine AQ.skipU 21 false 30 rfl rfl rfl 36 rfl (by decide) ?_
        refine AQ.skipU 21 false 30 rfl rfl rfl 37 rfl (by decide) ?_
        refine AQ.skipU 21 false 30 rfl rfl rfl 38 rfl (by decide) ?_
        refine AQ.skipU 21 false 30 rfl rfl rfl 39 rfl (by decide) ?_
        refine AQ.skipU 21 false 30 rfl rfl rfl 40 rfl (by decide) ?_
        refine AQ.skipU 21 false 30 rfl rfl rfl 41 rfl (by decide) ?_
        refine AQ.skipU 32 true 41 rfl rfl rfl 42 rfl (by decide) ?_
        refine AQ.skipU 32 true 41 rfl rfl rfl 43 rfl (by decide) ?_
        refine AQ.skipU 32 true 41 rfl rfl rfl 44 rfl (by decide) ?_
        refine AQ.skipU 32 true 41 rfl rfl rfl 45 rfl (by decide) ?_
        refine AQ.skipU 32 true 41 rfl rfl rfl 46 rfl (by decide) ?_
        refine AQ.skipU 32 true 41 rfl rfl rfl 47 rfl (by decide) ?_
        refine AQ.skipU 32 true 41 rfl rfl rfl 48 rfl (by decide) ?_
        refine AQ.skipU 32 true 41 rfl rfl rfl 49 rfl (by decide) ?_
        refine AQ.skipU 32 true 41 rfl rfl rfl 50 rfl (by decide) ?_
        refine AQ.skipU 32 true 41 rfl rfl rfl 51 rfl (by decide) ?_
        refine AQ.skipU 21 false 30 rfl rfl rfl 52 rfl (by decide) ?_
        refine AQ.skipG 10 false 19 rfl rfl (congrArg (fun b => some (AV.fl (Value.bool b))) (decide_eq_false hc10)) 53 rfl (by decide) ?_
        refine AQ.calm rfl 54 rfl (by decide) (eBool false) (Calm.pickF rfl (congrArg (fun b => some (AV.fl (Value.bool b))) (decide_eq_false hc10)) rfl) ?_
        cases hq9
        refine AQ.nilE rfl ?_
        exact ⟨rfl, rfl, rfl, trivial⟩
    · by_cases hc16 : b8 = true
      · have h := (if_pos hc16).symm.trans h
        refine AW.condT' b8 rfl hc16 ?_
        refine AW.skip (ρ' := [(0, (.ptr q0 0)), (4, (eI64 p0.f1))]) (H' := ((q0, .mem (.st [(1, (eStr p0.f0)), (1, (eI64 x5)), (1, (eI64 p0.f2))])) :: T0)) ⟨rfl, rfl, trivial⟩ (Sub.refl _) ?_
        refine AW.block ?_
        refine AW.reg ?_
        refine AO.calm rfl 55 rfl (by decide) (.ptr q0 0) (Calm.move rfl rfl) ?_
        refine AO.calm rfl 56 rfl (by decide) (.ptr q0 0) (Calm.nilCheck rfl rfl) ?_
        refine AO.calm rfl 57 rfl (by decide) (.ptr q0 1) (Calm.fldPtr rfl rfl Try.underlying88 rfl sz3 _ rfl) ?_
        refine AO.calm rfl 58 rfl (by decide) (eI64 x5) (Calm.load 0 rfl rfl rfl (At.cast (At.fldS (At.fld0 At.here)) rfl) ag3 sz3) ?_
        refine AO.calm rfl 59 rfl (by decide) (eI64 (w64 (x5 + (1 : Int)))) (Calm.int rfl rfl rfl rfl) ?_
        refine AO.calm rfl 60 rfl (by decide) (.ptr q0 0) (Calm.nilCheck rfl rfl) ?_
        refine AO.calm rfl 61 rfl (by decide) (.ptr q0 1) (Calm.fldPtr rfl rfl Try.underlying88 rfl sz3 _ rfl) ?_
        refine AO.store (X' := (.st [(1, (eStr p0.f0)), (1, (eI64 (w64 (x5 + (1 : Int))))), (1, (eI64 p0.f2))])) 0 rfl rfl rfl rfl rfl rfl (Put.cast (Put.fldS (Put.fld0 Put.here)) rfl) rfl rfl sz3 rfl ?_
        refine AO.nil (ρ' := [(0, (.ptr q0 0)), (4, (eI64 p0.f1))]) (H' := ((q0, .mem (.st [(1, (eStr p0.f0)), (1, (eI64 (w64 (x5 + (1 : Int))))), (1, (eI64 p0.f2))])) :: T0)) ⟨rfl, rfl, trivial⟩ (Sub.refl _) ?_
        exact ⟨kq7, Nat.lt_succ_self _, (w64 (x5 + (1 : Int))), rfl, rfl, by rw [hrec6]; exact h⟩
      · have h := (if_neg hc16).symm.trans h
        refine AW.condF' b8 rfl hc16 ?_
        refine AW.exit (ρ' := [(0, (.ptr q0 0)), (4, (eI64 p0.f1))]) (H' := ((q0, .mem (.st [(1, (eStr p0.f0)), (1, (eI64 x5)), (1, (eI64 p0.f2))])) :: T0)) ⟨rfl, rfl, trivial⟩ (Sub.refl _) ?_
        exact ⟨x5, rfl, rfl, h⟩
  · rintro _ _ ⟨x2, rfl, rfl, h⟩
    rw [ast_reader_number_c0.eq_1] at h
    refine AW.seq ?_
    refine AW.regQ (by rfl) (by decide +kernel) ?_
    refine AQ.calm rfl 62 rfl (by decide) (.ptr q0 0) (Calm.move rfl rfl) ?_
    refine AQ.calm rfl 63 rfl (by decide) (.ptr q0 0) (Calm.nilCheck rfl rfl) ?_
    refine AQ.calm rfl 64 rfl (by decide) (.ptr q0 0) (Calm.fldPtr rfl rfl Try.underlying88 rfl sz9 _ rfl) ?_
    refine AQ.calm rfl 65 rfl (by decide) (eStr p0.f0) (Calm.load 0 rfl rfl rfl (At.cast (At.fld0 At.here) rfl) ag9 sz9) ?_
    refine AQ.calm rfl 66 rfl (by decide) (eI64 p0.f1) (Calm.move rfl rfl) ?_
    refine AQ.calm rfl 67 rfl (by decide) (.ptr q0 0) (Calm.move rfl rfl) ?_
    refine AQ.calm rfl 68 rfl (by decide) (.ptr q0 0) (Calm.nilCheck rfl rfl) ?_
    refine AQ.calm rfl 69 rfl (by decide) (.ptr q0 1) (Calm.fldPtr rfl rfl Try.underlying88 rfl sz3 _ rfl) ?_
    refine AQ.calm rfl 70 rfl (by decide) (eI64 x2) (Calm.load 0 rfl rfl rfl (At.cast (At.fldS (At.fld0 At.here)) rfl) ag3 sz3) ?_
    obtain ⟨hg3, h⟩ := of_guard h
    refine AQ.calm rfl 71 rfl (by decide) (eStr (p0.f0.extract p0.f1.toNat x2.toNat)) (Calm.sliceS rfl rfl rfl rfl hg3 Try.underlying9) ?_
    obtain ⟨t4, et4, h⟩ := of_bind h
    refine AQ.calm rfl 72 rfl (by decide) (.tup [(eI64 t4.1), (eBool t4.2)]) (Calm.call (args := [(eStr (p0.f0.extract p0.f1.toNat x2.toNat))]) rfl rfl ok16 ⟨rfl, rfl, trivial⟩ rfl (spot_Number_spec et4)) ?_
    refine AQ.calm rfl 73 rfl (by decide) (eI64 t4.1) (Calm.extract rfl rfl rfl) ?_
    refine AQ.calm rfl 74 rfl (by decide) (eBool t4.2) (Calm.extract rfl rfl rfl) ?_
    refine AQ.calm rfl 2 rfl (by decide) (eI64 t4.1) (Calm.assign rfl rfl) ?_
    refine AQ.calm rfl 3 rfl (by decide) (eBool t4.2) (Calm.assign rfl rfl) ?_
    refine AQ.nil (ρ' := [(2, (eI64 t4.1)), (3, (eBool t4.2))]) ⟨rfl, rfl, trivial⟩ ?_
    refine AW.ret (ρ' := [(2, (eI64 t4.1)), (3, (eBool t4.2))]) (H' := ((q0, .mem (.st [(1, (eStr p0.f0)), (1, (eI64 x2)), (1, (eI64 p0.f2))])) :: T0)) ⟨rfl, rfl, trivial⟩ (Sub.refl _) ?_
    have hr := Option.some.inj h
    subst hr
    exact ⟨[(eI64 t4.1), (eBool t4.2)], ⟨rfl, rfl, rfl, rfl, trivial⟩, rfl, (Sub.cons 0 rfl (Sub.refl _))⟩
end Go.Avl.T2
