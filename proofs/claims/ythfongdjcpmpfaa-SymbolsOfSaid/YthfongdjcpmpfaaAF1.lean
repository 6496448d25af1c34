/- Parts: T4B, T4f59, T4f60, T4f41, T4f38, T4f40, T4f42, T4f26, T4f27, T4f20, T4f21. -/
import Derived.Test.YthfongdjcpmpfaaAv3
import Derived.Test.YthfongdjcpmpfaaProg
/- Types and facts; printed by avmain.py. -/
namespace Go.Avl.T4
open Go Go.RowKit Go.Proofs Go.Avl
set_option linter.unusedVariables false
set_option maxRecDepth 100000
set_option maxHeartbeats 4000000
structure S85 where
  f0 : (List ByteArray)
  f1 : (List (ByteArray × Int))
deriving Inhabited, DecidableEq
abbrev e37 (l : List ByteArray) : AV := .fz 1 (l.map eStr)
theorem zr85 : tyZero Try.prog 85 = some (([.slice none 0 0] ++ ([.map none] ++ []))) := by rfl
theorem lay85 : ∀ g, Sim g (.st [(1, (.fl (.slice none 0 0))), (1, (.fl (.map none)))]) (([.slice none 0 0] ++ ([.map none] ++ []))) := fun g => (Sim.stCons (lay_fl rfl) rfl (Sim.stCons (lay_fl rfl) rfl Sim.stNil))
theorem ok40 : FnOK Try.prog 40 := FnOK.mk Try.func40 rfl rfl
theorem ok42 : FnOK Try.prog 42 := FnOK.mk Try.func42 rfl rfl
theorem sz83 : tySize Try.prog 83 = some 1 := by rfl
theorem ag83 : tyAgg Try.prog 83 = some false := by rfl
theorem zr3 : tyZero Try.prog 3 = some ([.int .i64 0]) := by rfl
theorem mz3 : ∀ g, ∃ zv, ((Try.prog.info? 3).bind (·.zero)) = some zv ∧ V1 g (eI64 (0 : Int)) zv := fun g => ⟨_, rfl, rfl⟩
theorem sz37 : tySize Try.prog 37 = some 1 := by rfl
theorem ag37 : tyAgg Try.prog 37 = some false := by rfl
theorem sz9 : tySize Try.prog 9 = some 1 := by rfl
theorem zr9 : tyZero Try.prog 9 = some ([.string ByteArray.empty]) := by rfl
theorem lay9 : ∀ g, Sim g (eStr ByteArray.empty) ([.string ByteArray.empty]) := fun g => (lay_fl rfl)
theorem by9 : tyBytes Try.prog 9 = some 16 := by rfl
theorem ok26 : FnOK Try.prog 26 := FnOK.mk Try.func26 rfl rfl
theorem ok27 : FnOK Try.prog 27 := FnOK.mk Try.func27 rfl rfl
theorem ag9 : tyAgg Try.prog 9 = some false := by rfl
theorem ok59 : FnOK Try.prog 59 := FnOK.mk Try.func59 rfl rfl
theorem ok60 : FnOK Try.prog 60 := FnOK.mk Try.func60 rfl rfl
theorem ok41 : FnOK Try.prog 41 := FnOK.mk Try.func41 rfl rfl
theorem ok38 : FnOK Try.prog 38 := FnOK.mk Try.func38 rfl rfl
theorem ok30 : FnOK Try.prog 30 := FnOK.mk Try.func30 rfl rfl
theorem ok20 : FnOK Try.prog 20 := FnOK.mk Try.func20 rfl rfl
theorem ok21 : FnOK Try.prog 21 := FnOK.mk Try.func21 rfl rfl
theorem ok22 : FnOK Try.prog 22 := FnOK.mk Try.func22 rfl rfl
theorem ok23 : FnOK Try.prog 23 := FnOK.mk Try.func23 rfl rfl
theorem ok24 : FnOK Try.prog 24 := FnOK.mk Try.func24 rfl rfl
theorem ok25 : FnOK Try.prog 25 := FnOK.mk Try.func25 rfl rfl
theorem ok28 : FnOK Try.prog 28 := FnOK.mk Try.func28 rfl rfl
theorem ok29 : FnOK Try.prog 29 := FnOK.mk Try.func29 rfl rfl
theorem ok31 : FnOK Try.prog 31 := FnOK.mk Try.func31 rfl rfl
end Go.Avl.T4
/- bosket/bosketref03.in; printed by avmain.py. -/
namespace Go.Avl.T4
open Go Go.RowKit Go.Proofs Go.Avl
set_option linter.unusedVariables false
set_option maxRecDepth 100000
set_option maxHeartbeats 4000000
attribute [local irreducible] AW AO AQ Spec SpecH Calm

def bosketref03_in_c0 (k : Nat) : Option Bool :=
  some (false)
def bosketref03_in_l1 (k : Nat) (p0 : ByteArray) (p1 : Int) : Nat → Int → Option Bool
  | 0, _ => none
  | j + 1, x3 =>
    if x3 < (p0.size : Int) then if 0 ≤ x3 ∧ x3 < (p0.size : Int) then if (byteAt p0 x3) = p1 then some (true)
    else (bosketref03_in_l1 k p0 p1 j) (w64 (x3 + (1 : Int)))
    else none
    else bosketref03_in_c0 k
def bosketref03_in (k : Nat) (p0 : ByteArray) (p1 : Int) : Option Bool :=
  bosketref03_in_l1 k p0 p1 k (0 : Int)
theorem bosketref03_in_spec {k : Nat} {p0 : ByteArray} {p1 : Int} {r : Bool} (h : bosketref03_in k p0 p1 = some r) : Spec Try.prog 59 [(eStr p0), (eU8 p1)] (eBool r) := by
  rw [bosketref03_in.eq_1] at h
  refine Spec.intro (res := [.tmp 4]) Try.func59 rfl rfl rfl (Nat.le_of_ble_eq_true rfl) ?_
  refine AW.seq ?_
  refine AW.reg ?_
  refine AO.calm rfl 4 rfl (by decide) (eBool false) (Calm.assign rfl rfl) ?_
  refine AO.nil (ρ' := [(0, (eStr p0)), (1, (eU8 p1))]) (H' := []) ⟨rfl, rfl, trivial⟩ (Sub.refl _) ?_
  refine AW.seq_mid (fun ρ H => ρ = [] ∧ H = [] ∧ bosketref03_in_c0 k = some r) ?_ ?_
  · refine AW.seq ?_
    refine AW.reg ?_
    refine AO.calm rfl 5 rfl (by decide) (eI64 (0 : Int)) (Calm.assign rfl rfl) ?_
    refine AO.nil (ρ' := [(0, (eStr p0)), (1, (eU8 p1)), (5, (eI64 (0 : Int)))]) (H' := []) ⟨rfl, rfl, rfl, trivial⟩ (Sub.refl _) ?_
    refine AW.block ?_
    refine AW.weak (ρ' := [(0, (eStr p0)), (1, (eU8 p1)), (5, (eI64 (0 : Int)))]) (H' := []) ⟨rfl, rfl, rfl, trivial⟩ (Sub.refl _) ?_
    refine AW.loop (fun kq ρ H => ∃ (x3 : Int), ρ = [(0, (eStr p0)), (1, (eU8 p1)), (5, (eI64 x3))] ∧ H = [] ∧ bosketref03_in_l1 k p0 p1 kq x3 = some r) k ⟨(0 : Int), rfl, rfl, h⟩ ?_
    rintro kq5 _ _ ⟨x3, rfl, rfl, h⟩
    cases kq5 with
    | zero => rw [bosketref03_in_l1.eq_1] at h; cases h
    | succ kq5 =>
    rw [bosketref03_in_l1.eq_2] at h
    generalize hrec4 : bosketref03_in_l1 k p0 p1 kq5 = rec4 at h
    refine AW.seq ?_
    refine AW.seq ?_
    refine AW.reg ?_
    refine AO.calm rfl 6 rfl (by decide) (eI64 x3) (Calm.move rfl rfl) ?_
    refine AO.calm rfl 7 rfl (by decide) (eStr p0) (Calm.move rfl rfl) ?_
    refine AO.calm rfl 8 rfl (by decide) (eI64 (p0.size : Int)) (Calm.lenStr rfl rfl Try.underlying9) ?_
    refine AO.calm rfl 9 rfl (by decide) (eBool (decide (x3 < (p0.size : Int)))) (Calm.int rfl rfl rfl rfl) ?_
    refine AO.nil (ρ' := [(0, (eStr p0)), (1, (eU8 p1)), (5, (eI64 x3)), (9, (eBool (decide (x3 < (p0.size : Int)))))]) (H' := []) ⟨rfl, rfl, rfl, rfl, trivial⟩ (Sub.refl _) ?_
    by_cases hc6 : x3 < (p0.size : Int)
    · have h := (if_pos hc6).symm.trans h
      refine AW.condP (x3 < (p0.size : Int)) rfl hc6 ?_
      refine AW.skip (ρ' := [(0, (eStr p0)), (1, (eU8 p1)), (5, (eI64 x3))]) (H' := []) ⟨rfl, rfl, rfl, trivial⟩ (Sub.refl _) ?_
      refine AW.seq ?_
      refine AW.block ?_
      refine AW.seq ?_
      refine AW.reg ?_
      refine AO.calm rfl 12 rfl (by decide) (eStr p0) (Calm.move rfl rfl) ?_
      refine AO.calm rfl 13 rfl (by decide) (eI64 x3) (Calm.move rfl rfl) ?_
      obtain ⟨hg7, h⟩ := of_guard h
      refine AO.calm rfl 14 rfl (by decide) (eU8 (byteAt p0 x3)) (Calm.idxS rfl rfl rfl hg7 Try.underlying9) ?_
      refine AO.calm rfl 15 rfl (by decide) (eU8 p1) (Calm.move rfl rfl) ?_
      refine AO.calm rfl 16 rfl (by decide) (eBool (decide ((byteAt p0 x3) = p1))) (Calm.int rfl rfl rfl rfl) ?_
      refine AO.nil (ρ' := [(0, (eStr p0)), (1, (eU8 p1)), (5, (eI64 x3)), (16, (eBool (decide ((byteAt p0 x3) = p1))))]) (H' := []) ⟨rfl, rfl, rfl, rfl, trivial⟩ (Sub.refl _) ?_
      by_cases hc8 : (byteAt p0 x3) = p1
      · have h := (if_pos hc8).symm.trans h
        refine AW.condP ((byteAt p0 x3) = p1) rfl hc8 ?_
        refine AW.seq ?_
        refine AW.reg ?_
        refine AO.calm rfl 4 rfl (by decide) (eBool true) (Calm.assign rfl rfl) ?_
        refine AO.nil (ρ' := [(4, (eBool true))]) (H' := []) ⟨rfl, trivial⟩ (Sub.refl _) ?_
        refine AW.ret (ρ' := [(4, (eBool true))]) (H' := []) ⟨rfl, trivial⟩ (Sub.refl _) ?_
        have hr := Option.some.inj h
        subst hr
        exact ⟨[(eBool true)], ⟨rfl, rfl, trivial⟩, rfl⟩
      · have h := (if_neg hc8).symm.trans h
        refine AW.condN ((byteAt p0 x3) = p1) rfl hc8 ?_
        refine AW.skip (ρ' := [(0, (eStr p0)), (1, (eU8 p1)), (5, (eI64 x3))]) (H' := []) ⟨rfl, rfl, rfl, trivial⟩ (Sub.refl _) ?_
        refine AW.reg ?_
        refine AO.calm rfl 10 rfl (by decide) (eI64 x3) (Calm.move rfl rfl) ?_
        refine AO.calm rfl 11 rfl (by decide) (eI64 (w64 (x3 + (1 : Int)))) (Calm.int rfl rfl rfl rfl) ?_
        refine AO.calm rfl 5 rfl (by decide) (eI64 (w64 (x3 + (1 : Int)))) (Calm.assign rfl rfl) ?_
        refine AO.nil (ρ' := [(0, (eStr p0)), (1, (eU8 p1)), (5, (eI64 (w64 (x3 + (1 : Int)))))]) (H' := []) ⟨rfl, rfl, rfl, trivial⟩ (Sub.refl _) ?_
        exact ⟨kq5, Nat.lt_succ_self _, (w64 (x3 + (1 : Int))), rfl, rfl, by rw [hrec4]; exact h⟩
    · have h := (if_neg hc6).symm.trans h
      refine AW.condN (x3 < (p0.size : Int)) rfl hc6 ?_
      refine AW.exit (ρ' := []) (H' := []) trivial (Sub.refl _) ?_
      exact ⟨rfl, rfl, h⟩
  · rintro _ _ ⟨rfl, rfl, h⟩
    rw [bosketref03_in_c0.eq_1] at h
    refine AW.seq ?_
    refine AW.reg ?_
    refine AO.calm rfl 4 rfl (by decide) (eBool false) (Calm.assign rfl rfl) ?_
    refine AO.nil (ρ' := [(4, (eBool false))]) (H' := []) ⟨rfl, trivial⟩ (Sub.refl _) ?_
    refine AW.ret (ρ' := [(4, (eBool false))]) (H' := []) ⟨rfl, trivial⟩ (Sub.refl _) ?_
    have hr := Option.some.inj h
    subst hr
    exact ⟨[(eBool false)], ⟨rfl, rfl, trivial⟩, rfl⟩
end Go.Avl.T4
/- bosket/bosketref03.word; printed by avmain.py. -/
namespace Go.Avl.T4
open Go Go.RowKit Go.Proofs Go.Avl
set_option linter.unusedVariables false
set_option maxRecDepth 100000
set_option maxHeartbeats 4000000
attribute [local irreducible] AW AO AQ Spec SpecH Calm

def bosketref03_word (k : Nat) (p0 : Int) : Option Bool :=
  (bosketref03_in k (ByteArray.mk #[48, 49, 50, 51, 52, 53, 54, 55, 56, 57, 97, 98, 99, 100, 101, 102, 103, 104, 105, 106, 107, 108, 109, 110, 111, 112, 113, 114, 115, 116, 117, 118, 119, 120, 121, 122, 65, 66, 67, 68, 69, 70, 71, 72, 73, 74, 75, 76, 77, 78, 79, 80, 81, 82, 83, 84, 85, 86, 87, 88, 89, 90]) p0).bind fun t2 =>
  some (t2)
theorem bosketref03_word_spec {k : Nat} {p0 : Int} {r : Bool} (h : bosketref03_word k p0 = some r) : Spec Try.prog 60 [(eU8 p0)] (eBool r) := by
  rw [bosketref03_word.eq_1] at h
  refine Spec.intro (res := [.tmp 2]) Try.func60 rfl rfl rfl (Nat.le_of_ble_eq_true rfl) ?_
  refine AW.seq ?_
  refine AW.reg ?_
  refine AO.calm rfl 2 rfl (by decide) (eBool false) (Calm.assign rfl rfl) ?_
  refine AO.nil (ρ' := [(0, (eU8 p0))]) (H' := []) ⟨rfl, trivial⟩ (Sub.refl _) ?_
  refine AW.seq ?_
  refine AW.reg ?_
  refine AO.calm rfl 3 rfl (by decide) (eU8 p0) (Calm.move rfl rfl) ?_
  obtain ⟨t2, et2, h⟩ := of_bind h
  refine AO.callS [(eStr (ByteArray.mk #[48, 49, 50, 51, 52, 53, 54, 55, 56, 57, 97, 98, 99, 100, 101, 102, 103, 104, 105, 106, 107, 108, 109, 110, 111, 112, 113, 114, 115, 116, 117, 118, 119, 120, 121, 122, 65, 66, 67, 68, 69, 70, 71, 72, 73, 74, 75, 76, 77, 78, 79, 80, 81, 82, 83, 84, 85, 86, 87, 88, 89, 90])), (eU8 p0)] (eBool t2) 4 rfl (by decide) ok59 rfl rfl rfl ⟨rfl, rfl, rfl, rfl, trivial⟩ (bosketref03_in_spec et2) ?_
  refine AO.calm rfl 2 rfl (by decide) (eBool t2) (Calm.assign rfl rfl) ?_
  refine AO.nil (ρ' := [(2, (eBool t2))]) (H' := []) ⟨rfl, trivial⟩ (Sub.refl _) ?_
  refine AW.ret (ρ' := [(2, (eBool t2))]) (H' := []) ⟨rfl, trivial⟩ (Sub.refl _) ?_
  have hr := Option.some.inj h
  subst hr
  exact ⟨[(eBool t2)], ⟨rfl, rfl, trivial⟩, rfl⟩
end Go.Avl.T4
/- bosket/bosketref03.Class; printed by avmain.py. -/
namespace Go.Avl.T4
open Go Go.RowKit Go.Proofs Go.Avl
set_option linter.unusedVariables false
set_option maxRecDepth 100000
set_option maxHeartbeats 4000000
attribute [local irreducible] AW AO AQ Spec SpecH Calm

def bosketref03_Class (k : Nat) (p0 : Int) : Option Int :=
  (bosketref03_in k (ByteArray.mk #[32, 9, 10, 13]) p0).bind fun t2 =>
  if t2 = true then some ((1 : Int))
  else (bosketref03_in k (ByteArray.mk #[48, 49, 50, 51, 52, 53, 54, 55, 56, 57]) p0).bind fun t4 =>
  if t4 = true then some ((2 : Int))
  else Option.bind (α := Bool) ((bosketref03_word k p0).bind fun t8 =>
  if t8 = true then some (true)
  else some (decide (p0 = (95 : Int)))) fun b6 =>
  if b6 = true then some ((3 : Int))
  else Option.bind (α := Bool) (if (32 : Int) < p0 then some (decide (p0 < (127 : Int)))
  else some (false)) fun b11 =>
  if b11 = true then some ((4 : Int))
  else some ((0 : Int))
theorem bosketref03_Class_spec {k : Nat} {p0 : Int} {r : Int} (h : bosketref03_Class k p0 = some r) : Spec Try.prog 41 [(eU8 p0)] (eI64 r) := by
  rw [bosketref03_Class.eq_1] at h
  refine Spec.intro (res := [.tmp 2]) Try.func41 rfl rfl rfl (Nat.le_of_ble_eq_true rfl) ?_
  refine AW.seq ?_
  refine AW.reg ?_
  refine AO.calm rfl 2 rfl (by decide) (eI64 (0 : Int)) (Calm.assign rfl rfl) ?_
  refine AO.nil (ρ' := [(0, (eU8 p0))]) (H' := []) ⟨rfl, trivial⟩ (Sub.refl _) ?_
  refine AW.seq ?_
  refine AW.block ?_
  refine AW.seq ?_
  refine AW.reg ?_
  refine AO.calm rfl 4 rfl (by decide) (eU8 p0) (Calm.move rfl rfl) ?_
  obtain ⟨t2, et2, h⟩ := of_bind h
  refine AO.callS [(eStr (ByteArray.mk #[32, 9, 10, 13])), (eU8 p0)] (eBool t2) 5 rfl (by decide) ok59 rfl rfl rfl ⟨rfl, rfl, rfl, rfl, trivial⟩ (bosketref03_in_spec et2) ?_
  refine AO.calm rfl 3 rfl (by decide) (eBool t2) (Calm.assign rfl rfl) ?_
  refine AO.nil (ρ' := [(0, (eU8 p0)), (3, (eBool t2))]) (H' := []) ⟨rfl, rfl, trivial⟩ (Sub.refl _) ?_
  by_cases hc3 : t2 = true
  · have h := (if_pos hc3).symm.trans h
    refine AW.condT' t2 rfl hc3 ?_
    refine AW.seq ?_
    refine AW.reg ?_
    refine AO.calm rfl 2 rfl (by decide) (eI64 (1 : Int)) (Calm.assign rfl rfl) ?_
    refine AO.nil (ρ' := [(2, (eI64 (1 : Int)))]) (H' := []) ⟨rfl, trivial⟩ (Sub.refl _) ?_
    refine AW.ret (ρ' := [(2, (eI64 (1 : Int)))]) (H' := []) ⟨rfl, trivial⟩ (Sub.refl _) ?_
    have hr := Option.some.inj h
    subst hr
    exact ⟨[(eI64 (1 : Int))], ⟨rfl, rfl, trivial⟩, rfl⟩
  · have h := (if_neg hc3).symm.trans h
    refine AW.condF' t2 rfl hc3 ?_
    refine AW.seq ?_
    refine AW.reg ?_
    refine AO.calm rfl 7 rfl (by decide) (eU8 p0) (Calm.move rfl rfl) ?_
    obtain ⟨t4, et4, h⟩ := of_bind h
    refine AO.callS [(eStr (ByteArray.mk #[48, 49, 50, 51, 52, 53, 54, 55, 56, 57])), (eU8 p0)] (eBool t4) 8 rfl (by decide) ok59 rfl rfl rfl ⟨rfl, rfl, rfl, rfl, trivial⟩ (bosketref03_in_spec et4) ?_
    refine AO.calm rfl 6 rfl (by decide) (eBool t4) (Calm.assign rfl rfl) ?_
    refine AO.nil (ρ' := [(0, (eU8 p0)), (6, (eBool t4))]) (H' := []) ⟨rfl, rfl, trivial⟩ (Sub.refl _) ?_
    by_cases hc5 : t4 = true
    · have h := (if_pos hc5).symm.trans h
      refine AW.condT' t4 rfl hc5 ?_
      refine AW.seq ?_
      refine AW.reg ?_
      refine AO.calm rfl 2 rfl (by decide) (eI64 (2 : Int)) (Calm.assign rfl rfl) ?_
      refine AO.nil (ρ' := [(2, (eI64 (2 : Int)))]) (H' := []) ⟨rfl, trivial⟩ (Sub.refl _) ?_
      refine AW.ret (ρ' := [(2, (eI64 (2 : Int)))]) (H' := []) ⟨rfl, trivial⟩ (Sub.refl _) ?_
      have hr := Option.some.inj h
      subst hr
      exact ⟨[(eI64 (2 : Int))], ⟨rfl, rfl, trivial⟩, rfl⟩
    · have h := (if_neg hc5).symm.trans h
      refine AW.condF' t4 rfl hc5 ?_
      refine AW.seq ?_
      obtain ⟨b6, hq7, h⟩ := of_bind h
      refine AW.regM [(0, (eU8 p0)), (9, (eBool b6))] [] ?_ ?_
      · refine AO.calm rfl 10 rfl (by decide) (eU8 p0) (Calm.move rfl rfl) ?_
        obtain ⟨t8, et8, hq7⟩ := of_bind hq7
        refine AO.callS [(eU8 p0)] (eBool t8) 11 rfl (by decide) ok60 rfl rfl rfl ⟨rfl, rfl, trivial⟩ (bosketref03_word_spec et8) ?_
        refine AO.calm rfl 12 rfl (by decide) (eBool t8) (Calm.move rfl rfl) ?_
        by_cases hc9 : t8 = true
        · have hq7 := (if_pos hc9).symm.trans hq7
          refine AO.skipG 2 true 12 rfl rfl (congrArg (fun b => some (AV.fl (Value.bool b))) hc9) 13 rfl (by decide) ?_
          refine AO.skipG 2 true 12 rfl rfl (congrArg (fun b => some (AV.fl (Value.bool b))) hc9) 14 rfl (by decide) ?_
          refine AO.calm rfl 15 rfl (by decide) (eBool true) (Calm.pickT rfl (congrArg (fun b => some (AV.fl (Value.bool b))) hc9) rfl) ?_
          refine AO.calm rfl 9 rfl (by decide) (eBool true) (Calm.assign rfl rfl) ?_
          cases hq7
          refine AO.nilE ⟨rfl, rfl⟩ ?_ ?_
          · exact ⟨rfl, rfl, trivial⟩
          · exact (Sub.refl _)
        · have hq7 := (if_neg hc9).symm.trans hq7
          refine AO.calmG 2 false 12 rfl rfl (congrArg (fun b => some (AV.fl (Value.bool b))) (eq_false_of_ne_true hc9)) 13 rfl (by decide) (eU8 p0) (Calm.move rfl rfl) ?_
          refine AO.calmG 2 false 12 rfl rfl (congrArg (fun b => some (AV.fl (Value.bool b))) (eq_false_of_ne_true hc9)) 14 rfl (by decide) (eBool (decide (p0 = (95 : Int)))) (Calm.int rfl rfl rfl rfl) ?_
          refine AO.calm rfl 15 rfl (by decide) (eBool (decide (p0 = (95 : Int)))) (Calm.pickF rfl (congrArg (fun b => some (AV.fl (Value.bool b))) (eq_false_of_ne_true hc9)) rfl) ?_
          refine AO.calm rfl 9 rfl (by decide) (eBool (decide (p0 = (95 : Int)))) (Calm.assign rfl rfl) ?_
          cases hq7
          refine AO.nilE ⟨rfl, rfl⟩ ?_ ?_
          · exact ⟨rfl, rfl, trivial⟩
          · exact (Sub.refl _)
      · by_cases hc10 : b6 = true
        · have h := (if_pos hc10).symm.trans h
          refine AW.condT' b6 rfl hc10 ?_
          refine AW.seq ?_
          refine AW.reg ?_
          refine AO.calm rfl 2 rfl (by decide) (eI64 (3 : Int)) (Calm.assign rfl rfl) ?_
          refine AO.nil (ρ' := [(2, (eI64 (3 : Int)))]) (H' := []) ⟨rfl, trivial⟩ (Sub.refl _) ?_
          refine AW.ret (ρ' := [(2, (eI64 (3 : Int)))]) (H' := []) ⟨rfl, trivial⟩ (Sub.refl _) ?_
          have hr := Option.some.inj h
          subst hr
          exact ⟨[(eI64 (3 : Int))], ⟨rfl, rfl, trivial⟩, rfl⟩
        · have h := (if_neg hc10).symm.trans h
          refine AW.condF' b6 rfl hc10 ?_
          refine AW.seq ?_
          obtain ⟨b11, hq12, h⟩ := of_bind h
          refine AW.regM [(16, (eBool b11))] [] ?_ ?_
          · refine AO.calm rfl 17 rfl (by decide) (eU8 p0) (Calm.move rfl rfl) ?_
            refine AO.calm rfl 18 rfl (by decide) (eBool (decide ((32 : Int) < p0))) (Calm.int rfl rfl rfl rfl) ?_
            refine AO.calm rfl 19 rfl (by decide) (eBool (decide ((32 : Int) < p0))) (Calm.move rfl rfl) ?_
            by_cases hc13 : (32 : Int) < p0
            · have hq12 := (if_pos hc13).symm.trans hq12
              refine AO.calmG 2 true 19 rfl rfl (congrArg (fun b => some (AV.fl (Value.bool b))) (decide_eq_true hc13)) 20 rfl (by decide) (eU8 p0) (Calm.move rfl rfl) ?_
              refine AO.calmG 2 true 19 rfl rfl (congrArg (fun b => some (AV.fl (Value.bool b))) (decide_eq_true hc13)) 21 rfl (by decide) (eBool (decide (p0 < (127 : Int)))) (Calm.int rfl rfl rfl rfl) ?_
              refine AO.calm rfl 22 rfl (by decide) (eBool (decide (p0 < (127 : Int)))) (Calm.pickT rfl (congrArg (fun b => some (AV.fl (Value.bool b))) (decide_eq_true hc13)) rfl) ?_
              refine AO.calm rfl 16 rfl (by decide) (eBool (decide (p0 < (127 : Int)))) (Calm.assign rfl rfl) ?_
              cases hq12
              refine AO.nilE ⟨rfl, rfl⟩ ?_ ?_
              · exact ⟨rfl, trivial⟩
              · exact (Sub.refl _)
            · have hq12 := (if_neg hc13).symm.trans hq12
              refine AO.skipG 2 false 19 rfl rfl (congrArg (fun b => some (AV.fl (Value.bool b))) (decide_eq_false hc13)) 20 rfl (by decide) ?_
              refine AO.skipG 2 false 19 rfl rfl (congrArg (fun b => some (AV.fl (Value.bool b))) (decide_eq_false hc13)) 21 rfl (by decide) ?_
              refine AO.calm rfl 22 rfl (by decide) (eBool false) (Calm.pickF rfl (congrArg (fun b => some (AV.fl (Value.bool b))) (decide_eq_false hc13)) rfl) ?_
              refine AO.calm rfl 16 rfl (by decide) (eBool false) (Calm.assign rfl rfl) ?_
              cases hq12
              refine AO.nilE ⟨rfl, rfl⟩ ?_ ?_
              · exact ⟨rfl, trivial⟩
              · exact (Sub.refl _)
          · by_cases hc14 : b11 = true
            · have h := (if_pos hc14).symm.trans h
              refine AW.condT' b11 rfl hc14 ?_
              refine AW.seq ?_
              refine AW.reg ?_
              refine AO.calm rfl 2 rfl (by decide) (eI64 (4 : Int)) (Calm.assign rfl rfl) ?_
              refine AO.nil (ρ' := [(2, (eI64 (4 : Int)))]) (H' := []) ⟨rfl, trivial⟩ (Sub.refl _) ?_
              refine AW.ret (ρ' := [(2, (eI64 (4 : Int)))]) (H' := []) ⟨rfl, trivial⟩ (Sub.refl _) ?_
              have hr := Option.some.inj h
              subst hr
              exact ⟨[(eI64 (4 : Int))], ⟨rfl, rfl, trivial⟩, rfl⟩
            · have h := (if_neg hc14).symm.trans h
              refine AW.condF' b11 rfl hc14 ?_
              refine AW.skip (ρ' := []) (H' := []) trivial (Sub.refl _) ?_
              refine AW.seq ?_
              refine AW.reg ?_
              refine AO.calm rfl 2 rfl (by decide) (eI64 (0 : Int)) (Calm.assign rfl rfl) ?_
              refine AO.nil (ρ' := [(2, (eI64 (0 : Int)))]) (H' := []) ⟨rfl, trivial⟩ (Sub.refl _) ?_
              refine AW.ret (ρ' := [(2, (eI64 (0 : Int)))]) (H' := []) ⟨rfl, trivial⟩ (Sub.refl _) ?_
              have hr := Option.some.inj h
              subst hr
              exact ⟨[(eI64 (0 : Int))], ⟨rfl, rfl, trivial⟩, rfl⟩
end Go.Avl.T4
/- bosket/bosketref03.Name; printed by avmain.py. -/
namespace Go.Avl.T4
open Go Go.RowKit Go.Proofs Go.Avl
set_option linter.unusedVariables false
set_option maxRecDepth 100000
set_option maxHeartbeats 4000000
attribute [local irreducible] AW AO AQ Spec SpecH Calm

def bosketref03_Name_c0 (k : Nat) (p0 : ByteArray) : Option Bool :=
  Option.bind (α := Bool) (if (1 : Int) ≤ (p0.size : Int) then some (decide ((p0.size : Int) ≤ (40 : Int)))
  else some (false)) fun b2 =>
  some (b2)
def bosketref03_Name_l1 (k : Nat) (p0 : ByteArray) : Nat → Int → Option Bool
  | 0, _ => none
  | j + 1, x5 =>
    if x5 < (p0.size : Int) then if 0 ≤ x5 ∧ x5 < (p0.size : Int) then (bosketref03_Class k (byteAt p0 x5)).bind fun t10 =>
    Option.bind (α := Bool) (if t10 ≠ (3 : Int) then if t10 ≠ (2 : Int) then some (true)
    else some (decide (x5 = (0 : Int)))
    else some (false)) fun b11 =>
    if b11 = true then some (false)
    else (bosketref03_Name_l1 k p0 j) (w64 (x5 + (1 : Int)))
    else none
    else bosketref03_Name_c0 k p0
def bosketref03_Name (k : Nat) (p0 : ByteArray) : Option Bool :=
  bosketref03_Name_l1 k p0 k (0 : Int)
theorem bosketref03_Name_spec {k : Nat} {p0 : ByteArray} {r : Bool} (h : bosketref03_Name k p0 = some r) : Spec Try.prog 38 [(eStr p0)] (eBool r) := by
  rw [bosketref03_Name.eq_1] at h
  refine Spec.intro (res := [.tmp 2]) Try.func38 rfl rfl rfl (Nat.le_of_ble_eq_true rfl) ?_
  refine AW.seq ?_
  refine AW.reg ?_
  refine AO.calm rfl 2 rfl (by decide) (eBool false) (Calm.assign rfl rfl) ?_
  refine AO.nil (ρ' := [(0, (eStr p0))]) (H' := []) ⟨rfl, trivial⟩ (Sub.refl _) ?_
  refine AW.seq_mid (fun ρ H => ρ = [(0, (eStr p0))] ∧ H = [] ∧ bosketref03_Name_c0 k p0 = some r) ?_ ?_
  · refine AW.seq ?_
    refine AW.reg ?_
    refine AO.calm rfl 3 rfl (by decide) (eI64 (0 : Int)) (Calm.assign rfl rfl) ?_
    refine AO.nil (ρ' := [(0, (eStr p0)), (3, (eI64 (0 : Int)))]) (H' := []) ⟨rfl, rfl, trivial⟩ (Sub.refl _) ?_
    refine AW.block ?_
    refine AW.weak (ρ' := [(0, (eStr p0)), (3, (eI64 (0 : Int)))]) (H' := []) ⟨rfl, rfl, trivial⟩ (Sub.refl _) ?_
    refine AW.loop (fun kq ρ H => ∃ (x5 : Int), ρ = [(0, (eStr p0)), (3, (eI64 x5))] ∧ H = [] ∧ bosketref03_Name_l1 k p0 kq x5 = some r) k ⟨(0 : Int), rfl, rfl, h⟩ ?_
    rintro kq7 _ _ ⟨x5, rfl, rfl, h⟩
    cases kq7 with
    | zero => rw [bosketref03_Name_l1.eq_1] at h; cases h
    | succ kq7 =>
    rw [bosketref03_Name_l1.eq_2] at h
    generalize hrec6 : bosketref03_Name_l1 k p0 kq7 = rec6 at h
    refine AW.seq ?_
    refine AW.seq ?_
    refine AW.reg ?_
    refine AO.calm rfl 5 rfl (by decide) (eI64 x5) (Calm.move rfl rfl) ?_
    refine AO.calm rfl 6 rfl (by decide) (eStr p0) (Calm.move rfl rfl) ?_
    refine AO.calm rfl 7 rfl (by decide) (eI64 (p0.size : Int)) (Calm.lenStr rfl rfl Try.underlying9) ?_
    refine AO.calm rfl 8 rfl (by decide) (eBool (decide (x5 < (p0.size : Int)))) (Calm.int rfl rfl rfl rfl) ?_
    refine AO.nil (ρ' := [(0, (eStr p0)), (3, (eI64 x5)), (8, (eBool (decide (x5 < (p0.size : Int)))))]) (H' := []) ⟨rfl, rfl, rfl, trivial⟩ (Sub.refl _) ?_
    by_cases hc8 : x5 < (p0.size : Int)
    · have h := (if_pos hc8).symm.trans h
      refine AW.condP (x5 < (p0.size : Int)) rfl hc8 ?_
      refine AW.skip (ρ' := [(0, (eStr p0)), (3, (eI64 x5))]) (H' := []) ⟨rfl, rfl, trivial⟩ (Sub.refl _) ?_
      refine AW.seq ?_
      refine AW.block ?_
      refine AW.seq ?_
      refine AW.reg ?_
      refine AO.calm rfl 11 rfl (by decide) (eStr p0) (Calm.move rfl rfl) ?_
      refine AO.calm rfl 12 rfl (by decide) (eI64 x5) (Calm.move rfl rfl) ?_
      obtain ⟨hg9, h⟩ := of_guard h
      refine AO.calm rfl 13 rfl (by decide) (eU8 (byteAt p0 x5)) (Calm.idxS rfl rfl rfl hg9 Try.underlying9) ?_
      obtain ⟨t10, et10, h⟩ := of_bind h
      refine AO.callS [(eU8 (byteAt p0 x5))] (eI64 t10) 14 rfl (by decide) ok41 rfl rfl rfl ⟨rfl, rfl, trivial⟩ (bosketref03_Class_spec et10) ?_
      refine AO.calm rfl 4 rfl (by decide) (eI64 t10) (Calm.assign rfl rfl) ?_
      refine AO.nil (ρ' := [(0, (eStr p0)), (3, (eI64 x5)), (4, (eI64 t10))]) (H' := []) ⟨rfl, rfl, rfl, trivial⟩ (Sub.refl _) ?_
      refine AW.seq ?_
      obtain ⟨b11, hq12, h⟩ := of_bind h
      refine AW.regM [(0, (eStr p0)), (3, (eI64 x5)), (24, (eBool b11))] [] ?_ ?_
      · refine AO.calm rfl 15 rfl (by decide) (eI64 t10) (Calm.move rfl rfl) ?_
        refine AO.calm rfl 16 rfl (by decide) (eBool (decide (t10 ≠ (3 : Int)))) (Calm.int rfl rfl rfl rfl) ?_
        refine AO.calm rfl 17 rfl (by decide) (eBool (decide (t10 ≠ (3 : Int)))) (Calm.move rfl rfl) ?_
        by_cases hc13 : t10 ≠ (3 : Int)
        · have hq12 := (if_pos hc13).symm.trans hq12
          refine AO.calmG 2 true 17 rfl rfl (congrArg (fun b => some (AV.fl (Value.bool b))) (decide_eq_true hc13)) 18 rfl (by decide) (eI64 t10) (Calm.move rfl rfl) ?_
          refine AO.calmG 2 true 17 rfl rfl (congrArg (fun b => some (AV.fl (Value.bool b))) (decide_eq_true hc13)) 19 rfl (by decide) (eBool (decide (t10 ≠ (2 : Int)))) (Calm.int rfl rfl rfl rfl) ?_
          refine AO.calmG 2 true 17 rfl rfl (congrArg (fun b => some (AV.fl (Value.bool b))) (decide_eq_true hc13)) 20 rfl (by decide) (eBool (decide (t10 ≠ (2 : Int)))) (Calm.move rfl rfl) ?_
          by_cases hc14 : t10 ≠ (2 : Int)
          · have hq12 := (if_pos hc14).symm.trans hq12
            refine AO.skipG 5 true 20 rfl rfl (congrArg (fun b => some (AV.fl (Value.bool b))) (decide_eq_true hc14)) 21 rfl (by decide) ?_
            refine AO.skipG 5 true 20 rfl rfl (congrArg (fun b => some (AV.fl (Value.bool b))) (decide_eq_true hc14)) 22 rfl (by decide) ?_
            refine AO.calmG 2 true 17 rfl rfl (congrArg (fun b => some (AV.fl (Value.bool b))) (decide_eq_true hc13)) 23 rfl (by decide) (eBool true) (Calm.pickT rfl (congrArg (fun b => some (AV.fl (Value.bool b))) (decide_eq_true hc14)) rfl) ?_
            refine AO.calm rfl 24 rfl (by decide) (eBool true) (Calm.pickT rfl (congrArg (fun b => some (AV.fl (Value.bool b))) (decide_eq_true hc13)) rfl) ?_
            cases hq12
            refine AO.nilE ⟨rfl, rfl⟩ ?_ ?_
            · exact ⟨rfl, rfl, rfl, trivial⟩
            · exact (Sub.refl _)
          · have hq12 := (if_neg hc14).symm.trans hq12
            refine AO.calmG 5 false 20 rfl rfl (congrArg (fun b => some (AV.fl (Value.bool b))) (decide_eq_false hc14)) 21 rfl (by decide) (eI64 x5) (Calm.move rfl rfl) ?_
            refine AO.calmG 5 false 20 rfl rfl (congrArg (fun b => some (AV.fl (Value.bool b))) (decide_eq_false hc14)) 22 rfl (by decide) (eBool (decide (x5 = (0 : Int)))) (Calm.int rfl rfl rfl rfl) ?_
            refine AO.calmG 2 true 17 rfl rfl (congrArg (fun b => some (AV.fl (Value.bool b))) (decide_eq_true hc13)) 23 rfl (by decide) (eBool (decide (x5 = (0 : Int)))) (Calm.pickF rfl (congrArg (fun b => some (AV.fl (Value.bool b))) (decide_eq_false hc14)) rfl) ?_
            refine AO.calm rfl 24 rfl (by decide) (eBool (decide (x5 = (0 : Int)))) (Calm.pickT rfl (congrArg (fun b => some (AV.fl (Value.bool b))) (decide_eq_true hc13)) rfl) ?_
            cases hq12
            refine AO.nilE ⟨rfl, rfl⟩ ?_ ?_
            · exact ⟨rfl, rfl, rfl, trivial⟩
            · exact (Sub.refl _)
        · have hq12 := (if_neg hc13).symm.trans hq12
          refine AO.skipG 2 false 17 rfl rfl (congrArg (fun b => some (AV.fl (Value.bool b))) (decide_eq_false hc13)) 18 rfl (by decide) ?_
          refine AO.skipG 2 false 17 rfl rfl (congrArg (fun b => some (AV.fl (Value.bool b))) (decide_eq_false hc13)) 19 rfl (by decide) ?_
          refine AO.skipG 2 false 17 rfl rfl (congrArg (fun b => some (AV.fl (Value.bool b))) (decide_eq_false hc13)) 20 rfl (by decide) ?_
          refine AO.skipU 5 false 20 rfl rfl rfl 21 rfl (by decide) ?_
          refine AO.skipU 5 false 20 rfl rfl rfl 22 rfl (by decide) ?_
          refine AO.skipG 2 false 17 rfl rfl (congrArg (fun b => some (AV.fl (Value.bool b))) (decide_eq_false hc13)) 23 rfl (by decide) ?_
          refine AO.calm rfl 24 rfl (by decide) (eBool false) (Calm.pickF rfl (congrArg (fun b => some (AV.fl (Value.bool b))) (decide_eq_false hc13)) rfl) ?_
          cases hq12
          refine AO.nilE ⟨rfl, rfl⟩ ?_ ?_
          · exact ⟨rfl, rfl, rfl, trivial⟩
          · exact (Sub.refl _)
      · by_cases hc15 : b11 = true
        · have h := (if_pos hc15).symm.trans h
          refine AW.condT' b11 rfl hc15 ?_
          refine AW.seq ?_
          refine AW.reg ?_
          refine AO.calm rfl 2 rfl (by decide) (eBool false) (Calm.assign rfl rfl) ?_
          refine AO.nil (ρ' := [(2, (eBool false))]) (H' := []) ⟨rfl, trivial⟩ (Sub.refl _) ?_
          refine AW.ret (ρ' := [(2, (eBool false))]) (H' := []) ⟨rfl, trivial⟩ (Sub.refl _) ?_
          have hr := Option.some.inj h
          subst hr
          exact ⟨[(eBool false)], ⟨rfl, rfl, trivial⟩, rfl⟩
        · have h := (if_neg hc15).symm.trans h
          refine AW.condF' b11 rfl hc15 ?_
          refine AW.skip (ρ' := [(0, (eStr p0)), (3, (eI64 x5))]) (H' := []) ⟨rfl, rfl, trivial⟩ (Sub.refl _) ?_
          refine AW.reg ?_
          refine AO.calm rfl 9 rfl (by decide) (eI64 x5) (Calm.move rfl rfl) ?_
          refine AO.calm rfl 10 rfl (by decide) (eI64 (w64 (x5 + (1 : Int)))) (Calm.int rfl rfl rfl rfl) ?_
          refine AO.calm rfl 3 rfl (by decide) (eI64 (w64 (x5 + (1 : Int)))) (Calm.assign rfl rfl) ?_
          refine AO.nil (ρ' := [(0, (eStr p0)), (3, (eI64 (w64 (x5 + (1 : Int)))))]) (H' := []) ⟨rfl, rfl, trivial⟩ (Sub.refl _) ?_
          exact ⟨kq7, Nat.lt_succ_self _, (w64 (x5 + (1 : Int))), rfl, rfl, by rw [hrec6]; exact h⟩
    · have h := (if_neg hc8).symm.trans h
      refine AW.condN (x5 < (p0.size : Int)) rfl hc8 ?_
      refine AW.exit (ρ' := [(0, (eStr p0))]) (H' := []) ⟨rfl, trivial⟩ (Sub.refl _) ?_
      exact ⟨rfl, rfl, h⟩
  · rintro _ _ ⟨rfl, rfl, h⟩
    rw [bosketref03_Name_c0.eq_1] at h
    refine AW.seq ?_
    obtain ⟨b2, hq3, h⟩ := of_bind h
    refine AW.regM [(2, (eBool b2))] [] ?_ ?_
    · refine AO.calm rfl 25 rfl (by decide) (eStr p0) (Calm.move rfl rfl) ?_
      refine AO.calm rfl 26 rfl (by decide) (eI64 (p0.size : Int)) (Calm.lenStr rfl rfl Try.underlying9) ?_
      refine AO.calm rfl 27 rfl (by decide) (eBool (decide ((1 : Int) ≤ (p0.size : Int)))) (Calm.int rfl rfl rfl rfl) ?_
      refine AO.calm rfl 28 rfl (by decide) (eBool (decide ((1 : Int) ≤ (p0.size : Int)))) (Calm.move rfl rfl) ?_
      by_cases hc4 : (1 : Int) ≤ (p0.size : Int)
      · have hq3 := (if_pos hc4).symm.trans hq3
        refine AO.calmG 3 true 28 rfl rfl (congrArg (fun b => some (AV.fl (Value.bool b))) (decide_eq_true hc4)) 29 rfl (by decide) (eStr p0) (Calm.move rfl rfl) ?_
        refine AO.calmG 3 true 28 rfl rfl (congrArg (fun b => some (AV.fl (Value.bool b))) (decide_eq_true hc4)) 30 rfl (by decide) (eI64 (p0.size : Int)) (Calm.lenStr rfl rfl Try.underlying9) ?_
        refine AO.calmG 3 true 28 rfl rfl (congrArg (fun b => some (AV.fl (Value.bool b))) (decide_eq_true hc4)) 31 rfl (by decide) (eBool (decide ((p0.size : Int) ≤ (40 : Int)))) (Calm.int rfl rfl rfl rfl) ?_
        refine AO.calm rfl 32 rfl (by decide) (eBool (decide ((p0.size : Int) ≤ (40 : Int)))) (Calm.pickT rfl (congrArg (fun b => some (AV.fl (Value.bool b))) (decide_eq_true hc4)) rfl) ?_
        refine AO.calm rfl 2 rfl (by decide) (eBool (decide ((p0.size : Int) ≤ (40 : Int)))) (Calm.assign rfl rfl) ?_
        cases hq3
        refine AO.nilE ⟨rfl, rfl⟩ ?_ ?_
        · exact ⟨rfl, trivial⟩
        · exact (Sub.refl _)
      · have hq3 := (if_neg hc4).symm.trans hq3
        refine AO.skipG 3 false 28 rfl rfl (congrArg (fun b => some (AV.fl (Value.bool b))) (decide_eq_false hc4)) 29 rfl (by decide) ?_
        refine AO.skipG 3 false 28 rfl rfl (congrArg (fun b => some (AV.fl (Value.bool b))) (decide_eq_false hc4)) 30 rfl (by decide) ?_
        refine AO.skipG 3 false 28 rfl rfl (congrArg (fun b => some (AV.fl (Value.bool b))) (decide_eq_false hc4)) 31 rfl (by decide) ?_
        refine AO.calm rfl 32 rfl (by decide) (eBool false) (Calm.pickF rfl (congrArg (fun b => some (AV.fl (Value.bool b))) (decide_eq_false hc4)) rfl) ?_
        refine AO.calm rfl 2 rfl (by decide) (eBool false) (Calm.assign rfl rfl) ?_
        cases hq3
        refine AO.nilE ⟨rfl, rfl⟩ ?_ ?_
        · exact ⟨rfl, trivial⟩
        · exact (Sub.refl _)
    · refine AW.ret (ρ' := [(2, (eBool b2))]) (H' := []) ⟨rfl, trivial⟩ (Sub.refl _) ?_
      have hr := Option.some.inj h
      subst hr
      exact ⟨[(eBool b2)], ⟨rfl, rfl, trivial⟩, rfl⟩
end Go.Avl.T4
/- bosket/escape.Class; printed by avmain.py. -/
namespace Go.Avl.T4
open Go Go.RowKit Go.Proofs Go.Avl
set_option linter.unusedVariables false
set_option maxRecDepth 100000
set_option maxHeartbeats 4000000
attribute [local irreducible] AW AO AQ Spec SpecH Calm

def escape_Class_c0 (k : Nat) : Option Int :=
  some ((0 : Int))
def escape_Class_c1 (k : Nat) : Option Int :=
  some ((4 : Int))
def escape_Class_c2 (k : Nat) : Option Int :=
  some ((3 : Int))
def escape_Class_c3 (k : Nat) : Option Int :=
  some ((2 : Int))
def escape_Class_c4 (k : Nat) : Option Int :=
  some ((1 : Int))
def escape_Class_c5 (k : Nat) (p0 : Int) (b2 : Bool) : Option Int :=
  if b2 = true then escape_Class_c4 k
  else Option.bind (α := Bool) (if (48 : Int) ≤ p0 then some (decide (p0 ≤ (57 : Int)))
  else some (false)) fun b4 =>
  if b4 = true then escape_Class_c3 k
  else Option.bind (α := Bool) (if (97 : Int) ≤ p0 then some (decide (p0 ≤ (122 : Int)))
  else some (false)) fun b8 =>
  if b8 = true then escape_Class_c2 k
  else Option.bind (α := Bool) (if (65 : Int) ≤ p0 then some (decide (p0 ≤ (90 : Int)))
  else some (false)) fun b12 =>
  if b12 = true then escape_Class_c2 k
  else if p0 = (95 : Int) then escape_Class_c2 k
  else Option.bind (α := Bool) (if (32 : Int) < p0 then some (decide (p0 ≤ (126 : Int)))
  else some (false)) fun b17 =>
  if b17 = true then escape_Class_c1 k
  else escape_Class_c0 k
def escape_Class (k : Nat) (p0 : Int) : Option Int :=
  if p0 = (32 : Int) then escape_Class_c5 k p0 (decide (p0 = (32 : Int)))
  else if p0 = (9 : Int) then escape_Class_c5 k p0 (decide (p0 = (9 : Int)))
  else if p0 = (10 : Int) then escape_Class_c5 k p0 (decide (p0 = (10 : Int)))
  else escape_Class_c5 k p0 (decide (p0 = (13 : Int)))
theorem escape_Class_spec {k : Nat} {p0 : Int} {r : Int} (h : escape_Class k p0 = some r) : Spec Try.prog 40 [(eU8 p0)] (eI64 r) := by
  rw [escape_Class.eq_1] at h
  refine Spec.intro (res := [.tmp 2]) Try.func40 rfl rfl rfl (Nat.le_of_ble_eq_true rfl) ?_
  refine AW.seq ?_
  refine AW.reg ?_
  refine AO.calm rfl 2 rfl (by decide) (eI64 (0 : Int)) (Calm.assign rfl rfl) ?_
  refine AO.nil (ρ' := [(0, (eU8 p0))]) (H' := []) ⟨rfl, trivial⟩ (Sub.refl _) ?_
  refine AW.seq_mid (fun ρ H => ρ = [] ∧ H = [] ∧ escape_Class_c0 k = some r) ?_ ?_
  · refine AW.block ?_
    refine AW.seq_mid (fun ρ H => ρ = [] ∧ H = [] ∧ escape_Class_c1 k = some r) ?_ ?_
    · refine AW.block ?_
      refine AW.seq_mid (fun ρ H => ρ = [] ∧ H = [] ∧ escape_Class_c2 k = some r) ?_ ?_
      · refine AW.block ?_
        refine AW.block ?_
        refine AW.block ?_
        refine AW.seq_mid (fun ρ H => ρ = [] ∧ H = [] ∧ escape_Class_c3 k = some r) ?_ ?_
        · refine AW.block ?_
          refine AW.seq_mid (fun ρ H => ρ = [] ∧ H = [] ∧ escape_Class_c4 k = some r) ?_ ?_
          · refine AW.block ?_
            refine AW.seq ?_
            refine AW.seq ?_
            refine AW.seq_mid (fun ρ H => ∃ (b2 : Bool), ρ = [(0, (eU8 p0)), (3, (eBool b2))] ∧ H = [] ∧ escape_Class_c5 k p0 b2 = some r) ?_ ?_
            · refine AW.seq ?_
              refine AW.reg ?_
              refine AO.calm rfl 4 rfl (by decide) (eU8 p0) (Calm.move rfl rfl) ?_
              refine AO.calm rfl 5 rfl (by decide) (eBool (decide (p0 = (32 : Int)))) (Calm.int rfl rfl rfl rfl) ?_
              refine AO.calm rfl 3 rfl (by decide) (eBool (decide (p0 = (32 : Int)))) (Calm.assign rfl rfl) ?_
              refine AO.nil (ρ' := [(0, (eU8 p0)), (3, (eBool (decide (p0 = (32 : Int)))))]) (H' := []) ⟨rfl, rfl, trivial⟩ (Sub.refl _) ?_
              by_cases hc21 : p0 = (32 : Int)
              · have h := (if_pos hc21).symm.trans h
                refine AW.condP (p0 = (32 : Int)) rfl hc21 ?_
                refine AW.skip (ρ' := [(0, (eU8 p0)), (3, (eBool (decide (p0 = (32 : Int)))))]) (H' := []) ⟨rfl, rfl, trivial⟩ (Sub.refl _) ?_
                exact ⟨decide (p0 = (32 : Int)), rfl, rfl, h⟩
              · have h := (if_neg hc21).symm.trans h
                refine AW.condN (p0 = (32 : Int)) rfl hc21 ?_
                refine AW.seq ?_
                refine AW.reg ?_
                refine AO.calm rfl 6 rfl (by decide) (eU8 p0) (Calm.move rfl rfl) ?_
                refine AO.calm rfl 7 rfl (by decide) (eBool (decide (p0 = (9 : Int)))) (Calm.int rfl rfl rfl rfl) ?_
                refine AO.calm rfl 3 rfl (by decide) (eBool (decide (p0 = (9 : Int)))) (Calm.assign rfl rfl) ?_
                refine AO.nil (ρ' := [(0, (eU8 p0)), (3, (eBool (decide (p0 = (9 : Int)))))]) (H' := []) ⟨rfl, rfl, trivial⟩ (Sub.refl _) ?_
                by_cases hc22 : p0 = (9 : Int)
                · have h := (if_pos hc22).symm.trans h
                  refine AW.condP (p0 = (9 : Int)) rfl hc22 ?_
                  refine AW.skip (ρ' := [(0, (eU8 p0)), (3, (eBool (decide (p0 = (9 : Int)))))]) (H' := []) ⟨rfl, rfl, trivial⟩ (Sub.refl _) ?_
                  exact ⟨decide (p0 = (9 : Int)), rfl, rfl, h⟩
                · have h := (if_neg hc22).symm.trans h
                  refine AW.condN (p0 = (9 : Int)) rfl hc22 ?_
                  refine AW.seq ?_
                  refine AW.reg ?_
                  refine AO.calm rfl 8 rfl (by decide) (eU8 p0) (Calm.move rfl rfl) ?_
                  refine AO.calm rfl 9 rfl (by decide) (eBool (decide (p0 = (10 : Int)))) (Calm.int rfl rfl rfl rfl) ?_
                  refine AO.calm rfl 3 rfl (by decide) (eBool (decide (p0 = (10 : Int)))) (Calm.assign rfl rfl) ?_
                  refine AO.nil (ρ' := [(0, (eU8 p0)), (3, (eBool (decide (p0 = (10 : Int)))))]) (H' := []) ⟨rfl, rfl, trivial⟩ (Sub.refl _) ?_
                  by_cases hc23 : p0 = (10 : Int)
                  · have h := (if_pos hc23).symm.trans h
                    refine AW.condP (p0 = (10 : Int)) rfl hc23 ?_
                    refine AW.skip (ρ' := [(0, (eU8 p0)), (3, (eBool (decide (p0 = (10 : Int)))))]) (H' := []) ⟨rfl, rfl, trivial⟩ (Sub.refl _) ?_
                    exact ⟨decide (p0 = (10 : Int)), rfl, rfl, h⟩
                  · have h := (if_neg hc23).symm.trans h
                    refine AW.condN (p0 = (10 : Int)) rfl hc23 ?_
                    refine AW.reg ?_
                    refine AO.calm rfl 10 rfl (by decide) (eU8 p0) (Calm.move rfl rfl) ?_
                    refine AO.calm rfl 11 rfl (by decide) (eBool (decide (p0 = (13 : Int)))) (Calm.int rfl rfl rfl rfl) ?_
                    refine AO.calm rfl 3 rfl (by decide) (eBool (decide (p0 = (13 : Int)))) (Calm.assign rfl rfl) ?_
                    refine AO.nil (ρ' := [(0, (eU8 p0)), (3, (eBool (decide (p0 = (13 : Int)))))]) (H' := []) ⟨rfl, rfl, trivial⟩ (Sub.refl _) ?_
                    exact ⟨decide (p0 = (13 : Int)), rfl, rfl, h⟩
            · rintro _ _ ⟨b2, rfl, rfl, h⟩
              rw [escape_Class_c5.eq_1] at h
              by_cases hc3 : b2 = true
              · have h := (if_pos hc3).symm.trans h
                refine AW.condT' b2 rfl hc3 ?_
                refine AW.exit (ρ' := []) (H' := []) trivial (Sub.refl _) ?_
                exact ⟨rfl, rfl, h⟩
              · have h := (if_neg hc3).symm.trans h
                refine AW.condF' b2 rfl hc3 ?_
                refine AW.skip (ρ' := [(0, (eU8 p0))]) (H' := []) ⟨rfl, trivial⟩ (Sub.refl _) ?_
                refine AW.seq ?_
                refine AW.seq ?_
                obtain ⟨b4, hq5, h⟩ := of_bind h
                refine AW.regM [(0, (eU8 p0)), (12, (eBool b4))] [] ?_ ?_
                · refine AO.calm rfl 13 rfl (by decide) (eU8 p0) (Calm.move rfl rfl) ?_
                  refine AO.calm rfl 14 rfl (by decide) (eBool (decide ((48 : Int) ≤ p0))) (Calm.int rfl rfl rfl rfl) ?_
                  refine AO.calm rfl 15 rfl (by decide) (eBool (decide ((48 : Int) ≤ p0))) (Calm.move rfl rfl) ?_
                  by_cases hc6 : (48 : Int) ≤ p0
                  · have hq5 := (if_pos hc6).symm.trans hq5
                    refine AO.calmG 2 true 15 rfl rfl (congrArg (fun b => some (AV.fl (Value.bool b))) (decide_eq_true hc6)) 16 rfl (by decide) (eU8 p0) (Calm.move rfl rfl) ?_
                    refine AO.calmG 2 true 15 rfl rfl (congrArg (fun b => some (AV.fl (Value.bool b))) (decide_eq_true hc6)) 17 rfl (by decide) (eBool (decide (p0 ≤ (57 : Int)))) (Calm.int rfl rfl rfl rfl) ?_
                    refine AO.calm rfl 18 rfl (by decide) (eBool (decide (p0 ≤ (57 : Int)))) (Calm.pickT rfl (congrArg (fun b => some (AV.fl (Value.bool b))) (decide_eq_true hc6)) rfl) ?_
                    refine AO.calm rfl 12 rfl (by decide) (eBool (decide (p0 ≤ (57 : Int)))) (Calm.assign rfl rfl) ?_
                    cases hq5
                    refine AO.nilE ⟨rfl, rfl⟩ ?_ ?_
                    · exact ⟨rfl, rfl, trivial⟩
                    · exact (Sub.refl _)
                  · have hq5 := (if_neg hc6).symm.trans hq5
                    refine AO.skipG 2 false 15 rfl rfl (congrArg (fun b => some (AV.fl (Value.bool b))) (decide_eq_false hc6)) 16 rfl (by decide) ?_
                    refine AO.skipG 2 false 15 rfl rfl (congrArg (fun b => some (AV.fl (Value.bool b))) (decide_eq_false hc6)) 17 rfl (by decide) ?_
                    refine AO.calm rfl 18 rfl (by decide) (eBool false) (Calm.pickF rfl (congrArg (fun b => some (AV.fl (Value.bool b))) (decide_eq_false hc6)) rfl) ?_
                    refine AO.calm rfl 12 rfl (by decide) (eBool false) (Calm.assign rfl rfl) ?_
                    cases hq5
                    refine AO.nilE ⟨rfl, rfl⟩ ?_ ?_
                    · exact ⟨rfl, rfl, trivial⟩
                    · exact (Sub.refl _)
                · by_cases hc7 : b4 = true
                  · have h := (if_pos hc7).symm.trans h
                    refine AW.condT' b4 rfl hc7 ?_
                    refine AW.exit (ρ' := []) (H' := []) trivial (Sub.refl _) ?_
                    exact ⟨rfl, rfl, h⟩
                  · have h := (if_neg hc7).symm.trans h
                    refine AW.condF' b4 rfl hc7 ?_
                    refine AW.skip (ρ' := [(0, (eU8 p0))]) (H' := []) ⟨rfl, trivial⟩ (Sub.refl _) ?_
                    refine AW.seq ?_
                    refine AW.seq ?_
                    obtain ⟨b8, hq9, h⟩ := of_bind h
                    refine AW.regM [(0, (eU8 p0)), (19, (eBool b8))] [] ?_ ?_
                    · refine AO.calm rfl 20 rfl (by decide) (eU8 p0) (Calm.move rfl rfl) ?_
                      refine AO.calm rfl 21 rfl (by decide) (eBool (decide ((97 : Int) ≤ p0))) (Calm.int rfl rfl rfl rfl) ?_
                      refine AO.calm rfl 22 rfl (by decide) (eBool (decide ((97 : Int) ≤ p0))) (Calm.move rfl rfl) ?_
                      by_cases hc10 : (97 : Int) ≤ p0
                      · have hq9 := (if_pos hc10).symm.trans hq9
                        refine AO.calmG 2 true 22 rfl rfl (congrArg (fun b => some (AV.fl (Value.bool b))) (decide_eq_true hc10)) 23 rfl (by decide) (eU8 p0) (Calm.move rfl rfl) ?_
                        refine AO.calmG 2 true 22 rfl rfl (congrArg (fun b => some (AV.fl (Value.bool b))) (decide_eq_true hc10)) 24 rfl (by decide) (eBool (decide (p0 ≤ (122 : Int)))) (Calm.int rfl rfl rfl rfl) ?_
                        refine AO.calm rfl 25 rfl (by decide) (eBool (decide (p0 ≤ (122 : Int)))) (Calm.pickT rfl (congrArg (fun b => some (AV.fl (Value.bool b))) (decide_eq_true hc10)) rfl) ?_
                        refine AO.calm rfl 19 rfl (by decide) (eBool (decide (p0 ≤ (122 : Int)))) (Calm.assign rfl rfl) ?_
                        cases hq9
                        refine AO.nilE ⟨rfl, rfl⟩ ?_ ?_
                        · exact ⟨rfl, rfl, trivial⟩
                        · exact (Sub.refl _)
                      · have hq9 := (if_neg hc10).symm.trans hq9
                        refine AO.skipG 2 false 22 rfl rfl (congrArg (fun b => some (AV.fl (Value.bool b))) (decide_eq_false hc10)) 23 rfl (by decide) ?_
                        refine AO.skipG 2 false 22 rfl rfl (congrArg (fun b => some (AV.fl (Value.bool b))) (decide_eq_false hc10)) 24 rfl (by decide) ?_
                        refine AO.calm rfl 25 rfl (by decide) (eBool false) (Calm.pickF rfl (congrArg (fun b => some (AV.fl (Value.bool b))) (decide_eq_false hc10)) rfl) ?_
                        refine AO.calm rfl 19 rfl (by decide) (eBool false) (Calm.assign rfl rfl) ?_
                        cases hq9
                        refine AO.nilE ⟨rfl, rfl⟩ ?_ ?_
                        · exact ⟨rfl, rfl, trivial⟩
                        · exact (Sub.refl _)
                    · by_cases hc11 : b8 = true
                      · have h := (if_pos hc11).symm.trans h
                        refine AW.condT' b8 rfl hc11 ?_
                        refine AW.exit (ρ' := []) (H' := []) trivial (Sub.refl _) ?_
                        exact ⟨rfl, rfl, h⟩
                      · have h := (if_neg hc11).symm.trans h
                        refine AW.condF' b8 rfl hc11 ?_
                        refine AW.skip (ρ' := [(0, (eU8 p0))]) (H' := []) ⟨rfl, trivial⟩ (Sub.refl _) ?_
                        refine AW.seq ?_
                        refine AW.seq ?_
                        obtain ⟨b12, hq13, h⟩ := of_bind h
                        refine AW.regM [(0, (eU8 p0)), (26, (eBool b12))] [] ?_ ?_
                        · refine AO.calm rfl 27 rfl (by decide) (eU8 p0) (Calm.move rfl rfl) ?_
                          refine AO.calm rfl 28 rfl (by decide) (eBool (decide ((65 : Int) ≤ p0))) (Calm.int rfl rfl rfl rfl) ?_
                          refine AO.calm rfl 29 rfl (by decide) (eBool (decide ((65 : Int) ≤ p0))) (Calm.move rfl rfl) ?_
                          by_cases hc14 : (65 : Int) ≤ p0
                          · have hq13 := (if_pos hc14).symm.trans hq13
                            refine AO.calmG 2 true 29 rfl rfl (congrArg (fun b => some (AV.fl (Value.bool b))) (decide_eq_true hc14)) 30 rfl (by decide) (eU8 p0) (Calm.move rfl rfl) ?_
                            refine AO.calmG 2 true 29 rfl rfl (congrArg (fun b => some (AV.fl (Value.bool b))) (decide_eq_true hc14)) 31 rfl (by decide) (eBool (decide (p0 ≤ (90 : Int)))) (Calm.int rfl rfl rfl rfl) ?_
                            refine AO.calm rfl 32 rfl (by decide) (eBool (decide (p0 ≤ (90 : Int)))) (Calm.pickT rfl (congrArg (fun b => some (AV.fl (Value.bool b))) (decide_eq_true hc14)) rfl) ?_
                            refine AO.calm rfl 26 rfl (by decide) (eBool (decide (p0 ≤ (90 : Int)))) (Calm.assign rfl rfl) ?_
                            cases hq13
                            refine AO.nilE ⟨rfl, rfl⟩ ?_ ?_
                            · exact ⟨rfl, rfl, trivial⟩
                            · exact (Sub.refl _)
                          · have hq13 := (if_neg hc14).symm.trans hq13
                            refine AO.skipG 2 false 29 rfl rfl (congrArg (fun b => some (AV.fl (Value.bool b))) (decide_eq_false hc14)) 30 rfl (by decide) ?_
                            refine AO.skipG 2 false 29 rfl rfl (congrArg (fun b => some (AV.fl (Value.bool b))) (decide_eq_false hc14)) 31 rfl (by decide) ?_
                            refine AO.calm rfl 32 rfl (by decide) (eBool false) (Calm.pickF rfl (congrArg (fun b => some (AV.fl (Value.bool b))) (decide_eq_false hc14)) rfl) ?_
                            refine AO.calm rfl 26 rfl (by decide) (eBool false) (Calm.assign rfl rfl) ?_
                            cases hq13
                            refine AO.nilE ⟨rfl, rfl⟩ ?_ ?_
                            · exact ⟨rfl, rfl, trivial⟩
                            · exact (Sub.refl _)
                        · by_cases hc15 : b12 = true
                          · have h := (if_pos hc15).symm.trans h
                            refine AW.condT' b12 rfl hc15 ?_
                            refine AW.exit (ρ' := []) (H' := []) trivial (Sub.refl _) ?_
                            exact ⟨rfl, rfl, h⟩
                          · have h := (if_neg hc15).symm.trans h
                            refine AW.condF' b12 rfl hc15 ?_
                            refine AW.skip (ρ' := [(0, (eU8 p0))]) (H' := []) ⟨rfl, trivial⟩ (Sub.refl _) ?_
                            refine AW.seq ?_
                            refine AW.seq ?_
                            refine AW.reg ?_
                            refine AO.calm rfl 34 rfl (by decide) (eU8 p0) (Calm.move rfl rfl) ?_
                            refine AO.calm rfl 35 rfl (by decide) (eBool (decide (p0 = (95 : Int)))) (Calm.int rfl rfl rfl rfl) ?_
                            refine AO.calm rfl 33 rfl (by decide) (eBool (decide (p0 = (95 : Int)))) (Calm.assign rfl rfl) ?_
                            refine AO.nil (ρ' := [(0, (eU8 p0)), (33, (eBool (decide (p0 = (95 : Int)))))]) (H' := []) ⟨rfl, rfl, trivial⟩ (Sub.refl _) ?_
                            by_cases hc16 : p0 = (95 : Int)
                            · have h := (if_pos hc16).symm.trans h
                              refine AW.condP (p0 = (95 : Int)) rfl hc16 ?_
                              refine AW.exit (ρ' := []) (H' := []) trivial (Sub.refl _) ?_
                              exact ⟨rfl, rfl, h⟩
                            · have h := (if_neg hc16).symm.trans h
                              refine AW.condN (p0 = (95 : Int)) rfl hc16 ?_
                              refine AW.skip (ρ' := [(0, (eU8 p0))]) (H' := []) ⟨rfl, trivial⟩ (Sub.refl _) ?_
                              refine AW.seq ?_
                              obtain ⟨b17, hq18, h⟩ := of_bind h
                              refine AW.regM [(36, (eBool b17))] [] ?_ ?_
                              · refine AO.calm rfl 37 rfl (by decide) (eU8 p0) (Calm.move rfl rfl) ?_
                                refine AO.calm rfl 38 rfl (by decide) (eBool (decide ((32 : Int) < p0))) (Calm.int rfl rfl rfl rfl) ?_
                                refine AO.calm rfl 39 rfl (by decide) (eBool (decide ((32 : Int) < p0))) (Calm.move rfl rfl) ?_
                                by_cases hc19 : (32 : Int) < p0
                                · have hq18 := (if_pos hc19).symm.trans hq18
                                  refine AO.calmG 2 true 39 rfl rfl (congrArg (fun b => some (AV.fl (Value.bool b))) (decide_eq_true hc19)) 40 rfl (by decide) (eU8 p0) (Calm.move rfl rfl) ?_
                                  refine AO.calmG 2 true 39 rfl rfl (congrArg (fun b => some (AV.fl (Value.bool b))) (decide_eq_true hc19)) 41 rfl (by decide) (eBool (decide (p0 ≤ (126 : Int)))) (Calm.int rfl rfl rfl rfl) ?_
                                  refine AO.calm rfl 42 rfl (by decide) (eBool (decide (p0 ≤ (126 : Int)))) (Calm.pickT rfl (congrArg (fun b => some (AV.fl (Value.bool b))) (decide_eq_true hc19)) rfl) ?_
                                  refine AO.calm rfl 36 rfl (by decide) (eBool (decide (p0 ≤ (126 : Int)))) (Calm.assign rfl rfl) ?_
                                  cases hq18
                                  refine AO.nilE ⟨rfl, rfl⟩ ?_ ?_
                                  · exact ⟨rfl, trivial⟩
                                  · exact (Sub.refl _)
                                · have hq18 := (if_neg hc19).symm.trans hq18
                                  refine AO.skipG 2 false 39 rfl rfl (congrArg (fun b => some (AV.fl (Value.bool b))) (decide_eq_false hc19)) 40 rfl (by decide) ?_
                                  refine AO.skipG 2 false 39 rfl rfl (congrArg (fun b => some (AV.fl (Value.bool b))) (decide_eq_false hc19)) 41 rfl (by decide) ?_
                                  refine AO.calm rfl 42 rfl (by decide) (eBool false) (Calm.pickF rfl (congrArg (fun b => some (AV.fl (Value.bool b))) (decide_eq_false hc19)) rfl) ?_
                                  refine AO.calm rfl 36 rfl (by decide) (eBool false) (Calm.assign rfl rfl) ?_
                                  cases hq18
                                  refine AO.nilE ⟨rfl, rfl⟩ ?_ ?_
                                  · exact ⟨rfl, trivial⟩
                                  · exact (Sub.refl _)
                              · by_cases hc20 : b17 = true
                                · have h := (if_pos hc20).symm.trans h
                                  refine AW.condT' b17 rfl hc20 ?_
                                  refine AW.exit (ρ' := []) (H' := []) trivial (Sub.refl _) ?_
                                  exact ⟨rfl, rfl, h⟩
                                · have h := (if_neg hc20).symm.trans h
                                  refine AW.condF' b17 rfl hc20 ?_
                                  refine AW.skip (ρ' := []) (H' := []) trivial (Sub.refl _) ?_
                                  refine AW.exit (ρ' := []) (H' := []) trivial (Sub.refl _) ?_
                                  exact ⟨rfl, rfl, h⟩
          · rintro _ _ ⟨rfl, rfl, h⟩
            rw [escape_Class_c4.eq_1] at h
            refine AW.seq ?_
            refine AW.seq ?_
            refine AW.reg ?_
            refine AO.calm rfl 2 rfl (by decide) (eI64 (1 : Int)) (Calm.assign rfl rfl) ?_
            refine AO.nil (ρ' := [(2, (eI64 (1 : Int)))]) (H' := []) ⟨rfl, trivial⟩ (Sub.refl _) ?_
            refine AW.ret (ρ' := [(2, (eI64 (1 : Int)))]) (H' := []) ⟨rfl, trivial⟩ (Sub.refl _) ?_
            have hr := Option.some.inj h
            subst hr
            exact ⟨[(eI64 (1 : Int))], ⟨rfl, rfl, trivial⟩, rfl⟩
        · rintro _ _ ⟨rfl, rfl, h⟩
          rw [escape_Class_c3.eq_1] at h
          refine AW.seq ?_
          refine AW.seq ?_
          refine AW.reg ?_
          refine AO.calm rfl 2 rfl (by decide) (eI64 (2 : Int)) (Calm.assign rfl rfl) ?_
          refine AO.nil (ρ' := [(2, (eI64 (2 : Int)))]) (H' := []) ⟨rfl, trivial⟩ (Sub.refl _) ?_
          refine AW.ret (ρ' := [(2, (eI64 (2 : Int)))]) (H' := []) ⟨rfl, trivial⟩ (Sub.refl _) ?_
          have hr := Option.some.inj h
          subst hr
          exact ⟨[(eI64 (2 : Int))], ⟨rfl, rfl, trivial⟩, rfl⟩
      · rintro _ _ ⟨rfl, rfl, h⟩
        rw [escape_Class_c2.eq_1] at h
        refine AW.seq ?_
        refine AW.seq ?_
        refine AW.reg ?_
        refine AO.calm rfl 2 rfl (by decide) (eI64 (3 : Int)) (Calm.assign rfl rfl) ?_
        refine AO.nil (ρ' := [(2, (eI64 (3 : Int)))]) (H' := []) ⟨rfl, trivial⟩ (Sub.refl _) ?_
        refine AW.ret (ρ' := [(2, (eI64 (3 : Int)))]) (H' := []) ⟨rfl, trivial⟩ (Sub.refl _) ?_
        have hr := Option.some.inj h
        subst hr
        exact ⟨[(eI64 (3 : Int))], ⟨rfl, rfl, trivial⟩, rfl⟩
    · rintro _ _ ⟨rfl, rfl, h⟩
      rw [escape_Class_c1.eq_1] at h
      refine AW.seq ?_
      refine AW.seq ?_
      refine AW.reg ?_
      refine AO.calm rfl 2 rfl (by decide) (eI64 (4 : Int)) (Calm.assign rfl rfl) ?_
      refine AO.nil (ρ' := [(2, (eI64 (4 : Int)))]) (H' := []) ⟨rfl, trivial⟩ (Sub.refl _) ?_
      refine AW.ret (ρ' := [(2, (eI64 (4 : Int)))]) (H' := []) ⟨rfl, trivial⟩ (Sub.refl _) ?_
      have hr := Option.some.inj h
      subst hr
      exact ⟨[(eI64 (4 : Int))], ⟨rfl, rfl, trivial⟩, rfl⟩
  · rintro _ _ ⟨rfl, rfl, h⟩
    rw [escape_Class_c0.eq_1] at h
    refine AW.seq ?_
    refine AW.reg ?_
    refine AO.calm rfl 2 rfl (by decide) (eI64 (0 : Int)) (Calm.assign rfl rfl) ?_
    refine AO.nil (ρ' := [(2, (eI64 (0 : Int)))]) (H' := []) ⟨rfl, trivial⟩ (Sub.refl _) ?_
    refine AW.ret (ρ' := [(2, (eI64 (0 : Int)))]) (H' := []) ⟨rfl, trivial⟩ (Sub.refl _) ?_
    have hr := Option.some.inj h
    subst hr
    exact ⟨[(eI64 (0 : Int))], ⟨rfl, rfl, trivial⟩, rfl⟩
end Go.Avl.T4
/- bosket/escape.Name; printed by avmain.py. -/
namespace Go.Avl.T4
open Go Go.RowKit Go.Proofs Go.Avl
set_option linter.unusedVariables false
set_option maxRecDepth 100000
set_option maxHeartbeats 4000000
attribute [local irreducible] AW AO AQ Spec SpecH Calm

def escape_Name_c0 (k : Nat) : Option Bool :=
  some (true)
def escape_Name_l1 (k : Nat) (p0 : ByteArray) : Nat → Int → Option Bool
  | 0, _ => none
  | j + 1, x9 =>
    if x9 < (p0.size : Int) then if 0 ≤ x9 ∧ x9 < (p0.size : Int) then (escape_Class k (byteAt p0 x9)).bind fun t14 =>
    Option.bind (α := Bool) (if t14 ≠ (2 : Int) then some (decide (t14 ≠ (3 : Int)))
    else some (false)) fun b15 =>
    if b15 = true then some (false)
    else (escape_Name_l1 k p0 j) (w64 (x9 + (1 : Int)))
    else none
    else escape_Name_c0 k
def escape_Name (k : Nat) (p0 : ByteArray) : Option Bool :=
  Option.bind (α := Bool) (if (40 : Int) < (p0.size : Int) then some (true)
  else if p0 = (ByteArray.mk #[]) then some (true)
  else if 0 ≤ (0 : Int) ∧ (0 : Int) < (p0.size : Int) then (escape_Class k (byteAt p0 (0 : Int))).bind fun t7 =>
  some (decide (t7 ≠ (3 : Int)))
  else none) fun b2 =>
  if b2 = true then some (false)
  else escape_Name_l1 k p0 k (0 : Int)
theorem escape_Name_spec {k : Nat} {p0 : ByteArray} {r : Bool} (h : escape_Name k p0 = some r) : Spec Try.prog 42 [(eStr p0)] (eBool r) := by
  rw [escape_Name.eq_1] at h
  refine Spec.intro (res := [.tmp 2]) Try.func42 rfl rfl rfl (Nat.le_of_ble_eq_true rfl) ?_
  refine AW.seq ?_
  refine AW.reg ?_
  refine AO.calm rfl 2 rfl (by decide) (eBool false) (Calm.assign rfl rfl) ?_
  refine AO.nil (ρ' := [(0, (eStr p0))]) (H' := []) ⟨rfl, trivial⟩ (Sub.refl _) ?_
  refine AW.seq ?_
  refine AW.seq ?_
  obtain ⟨b2, hq3, h⟩ := of_bind h
  refine AW.regM [(0, (eStr p0)), (17, (eBool b2))] [] ?_ ?_
  · refine AO.calm rfl 5 rfl (by decide) (eStr p0) (Calm.move rfl rfl) ?_
    refine AO.calm rfl 6 rfl (by decide) (eI64 (p0.size : Int)) (Calm.lenStr rfl rfl Try.underlying9) ?_
    refine AO.calm rfl 7 rfl (by decide) (eBool (decide ((40 : Int) < (p0.size : Int)))) (Calm.int rfl rfl rfl rfl) ?_
    refine AO.calm rfl 8 rfl (by decide) (eBool (decide ((40 : Int) < (p0.size : Int)))) (Calm.move rfl rfl) ?_
    by_cases hc4 : (40 : Int) < (p0.size : Int)
    · have hq3 := (if_pos hc4).symm.trans hq3
      refine AO.skipG 3 true 8 rfl rfl (congrArg (fun b => some (AV.fl (Value.bool b))) (decide_eq_true hc4)) 9 rfl (by decide) ?_
      refine AO.skipG 3 true 8 rfl rfl (congrArg (fun b => some (AV.fl (Value.bool b))) (decide_eq_true hc4)) 10 rfl (by decide) ?_
      refine AO.calm rfl 11 rfl (by decide) (eBool true) (Calm.pickT rfl (congrArg (fun b => some (AV.fl (Value.bool b))) (decide_eq_true hc4)) rfl) ?_
      refine AO.calm rfl 12 rfl (by decide) (eBool true) (Calm.move rfl rfl) ?_
      refine AO.skipG 7 true 12 rfl rfl rfl 13 rfl (by decide) ?_
      refine AO.skipG 7 true 12 rfl rfl rfl 14 rfl (by decide) ?_
      refine AO.skipG 7 true 12 rfl rfl rfl 15 rfl (by decide) ?_
      refine AO.skipG 7 true 12 rfl rfl rfl 16 rfl (by decide) ?_
      refine AO.calm rfl 17 rfl (by decide) (eBool true) (Calm.pickT rfl rfl rfl) ?_
      cases hq3
      refine AO.nilE ⟨rfl, rfl⟩ ?_ ?_
      · exact ⟨rfl, rfl, trivial⟩
      · exact (Sub.refl _)
    · have hq3 := (if_neg hc4).symm.trans hq3
      refine AO.calmG 3 false 8 rfl rfl (congrArg (fun b => some (AV.fl (Value.bool b))) (decide_eq_false hc4)) 9 rfl (by decide) (eStr p0) (Calm.move rfl rfl) ?_
      refine AO.calmG 3 false 8 rfl rfl (congrArg (fun b => some (AV.fl (Value.bool b))) (decide_eq_false hc4)) 10 rfl (by decide) (eBool (decide (p0 = (ByteArray.mk #[])))) (Calm.str rfl rfl rfl rfl) ?_
      refine AO.calm rfl 11 rfl (by decide) (eBool (decide (p0 = (ByteArray.mk #[])))) (Calm.pickF rfl (congrArg (fun b => some (AV.fl (Value.bool b))) (decide_eq_false hc4)) rfl) ?_
      refine AO.calm rfl 12 rfl (by decide) (eBool (decide (p0 = (ByteArray.mk #[])))) (Calm.move rfl rfl) ?_
      by_cases hc5 : p0 = (ByteArray.mk #[])
      · have hq3 := (if_pos hc5).symm.trans hq3
        refine AO.skipG 7 true 12 rfl rfl (congrArg (fun b => some (AV.fl (Value.bool b))) (decide_eq_true hc5)) 13 rfl (by decide) ?_
        refine AO.skipG 7 true 12 rfl rfl (congrArg (fun b => some (AV.fl (Value.bool b))) (decide_eq_true hc5)) 14 rfl (by decide) ?_
        refine AO.skipG 7 true 12 rfl rfl (congrArg (fun b => some (AV.fl (Value.bool b))) (decide_eq_true hc5)) 15 rfl (by decide) ?_
        refine AO.skipG 7 true 12 rfl rfl (congrArg (fun b => some (AV.fl (Value.bool b))) (decide_eq_true hc5)) 16 rfl (by decide) ?_
        refine AO.calm rfl 17 rfl (by decide) (eBool true) (Calm.pickT rfl (congrArg (fun b => some (AV.fl (Value.bool b))) (decide_eq_true hc5)) rfl) ?_
        cases hq3
        refine AO.nilE ⟨rfl, rfl⟩ ?_ ?_
        · exact ⟨rfl, rfl, trivial⟩
        · exact (Sub.refl _)
      · have hq3 := (if_neg hc5).symm.trans hq3
        refine AO.calmG 7 false 12 rfl rfl (congrArg (fun b => some (AV.fl (Value.bool b))) (decide_eq_false hc5)) 13 rfl (by decide) (eStr p0) (Calm.move rfl rfl) ?_
        obtain ⟨hg6, hq3⟩ := of_guard hq3
        refine AO.calmG 7 false 12 rfl rfl (congrArg (fun b => some (AV.fl (Value.bool b))) (decide_eq_false hc5)) 14 rfl (by decide) (eU8 (byteAt p0 (0 : Int))) (Calm.idxS rfl rfl rfl hg6 Try.underlying9) ?_
        obtain ⟨t7, et7, hq3⟩ := of_bind hq3
        refine AO.callG 7 false 12 [(eU8 (byteAt p0 (0 : Int)))] (eI64 t7) 15 rfl (by decide) ok40 rfl rfl (congrArg (fun b => some (AV.fl (Value.bool b))) (decide_eq_false hc5)) rfl rfl ⟨rfl, rfl, trivial⟩ (escape_Class_spec et7) ?_
        refine AO.calmG 7 false 12 rfl rfl (congrArg (fun b => some (AV.fl (Value.bool b))) (decide_eq_false hc5)) 16 rfl (by decide) (eBool (decide (t7 ≠ (3 : Int)))) (Calm.int rfl rfl rfl rfl) ?_
        refine AO.calm rfl 17 rfl (by decide) (eBool (decide (t7 ≠ (3 : Int)))) (Calm.pickF rfl (congrArg (fun b => some (AV.fl (Value.bool b))) (decide_eq_false hc5)) rfl) ?_
        cases hq3
        refine AO.nilE ⟨rfl, rfl⟩ ?_ ?_
        · exact ⟨rfl, rfl, trivial⟩
        · exact (Sub.refl _)
  · by_cases hc8 : b2 = true
    · have h := (if_pos hc8).symm.trans h
      refine AW.condT' b2 rfl hc8 ?_
      refine AW.seq ?_
      refine AW.reg ?_
      refine AO.calm rfl 2 rfl (by decide) (eBool false) (Calm.assign rfl rfl) ?_
      refine AO.nil (ρ' := [(2, (eBool false))]) (H' := []) ⟨rfl, trivial⟩ (Sub.refl _) ?_
      refine AW.ret (ρ' := [(2, (eBool false))]) (H' := []) ⟨rfl, trivial⟩ (Sub.refl _) ?_
      have hr := Option.some.inj h
      subst hr
      exact ⟨[(eBool false)], ⟨rfl, rfl, trivial⟩, rfl⟩
    · have h := (if_neg hc8).symm.trans h
      refine AW.condF' b2 rfl hc8 ?_
      refine AW.skip (ρ' := [(0, (eStr p0))]) (H' := []) ⟨rfl, trivial⟩ (Sub.refl _) ?_
      refine AW.seq_mid (fun ρ H => ρ = [] ∧ H = [] ∧ escape_Name_c0 k = some r) ?_ ?_
      · refine AW.seq ?_
        refine AW.reg ?_
        refine AO.calm rfl 18 rfl (by decide) (eStr p0) (Calm.move rfl rfl) ?_
        refine AO.calm rfl 19 rfl (by decide) (eI64 (p0.size : Int)) (Calm.lenStr rfl rfl Try.underlying9) ?_
        refine AO.calm rfl 20 rfl (by decide) (eI64 (0 : Int)) (Calm.move rfl rfl) ?_
        refine AO.nil (ρ' := [(0, (eStr p0)), (19, (eI64 (p0.size : Int))), (20, (eI64 (0 : Int)))]) (H' := []) ⟨rfl, rfl, rfl, trivial⟩ (Sub.refl _) ?_
        refine AW.block ?_
        refine AW.weak (ρ' := [(0, (eStr p0)), (19, (eI64 (p0.size : Int))), (20, (eI64 (0 : Int)))]) (H' := []) ⟨rfl, rfl, rfl, trivial⟩ (Sub.refl _) ?_
        refine AW.loop (fun kq ρ H => ∃ (x9 : Int), ρ = [(0, (eStr p0)), (19, (eI64 (p0.size : Int))), (20, (eI64 x9))] ∧ H = [] ∧ escape_Name_l1 k p0 kq x9 = some r) k ⟨(0 : Int), rfl, rfl, h⟩ ?_
        rintro kq11 _ _ ⟨x9, rfl, rfl, h⟩
        cases kq11 with
        | zero => rw [escape_Name_l1.eq_1] at h; cases h
        | succ kq11 =>
        rw [escape_Name_l1.eq_2] at h
        generalize hrec10 : escape_Name_l1 k p0 kq11 = rec10 at h
        refine AW.seq ?_
        refine AW.reg ?_
        refine AO.calm rfl 21 rfl (by decide) (eBool (decide (x9 < (p0.size : Int)))) (Calm.int rfl rfl rfl rfl) ?_
        refine AO.nil (ρ' := [(0, (eStr p0)), (19, (eI64 (p0.size : Int))), (20, (eI64 x9)), (21, (eBool (decide (x9 < (p0.size : Int)))))]) (H' := []) ⟨rfl, rfl, rfl, rfl, trivial⟩ (Sub.refl _) ?_
        refine AW.seq ?_
        by_cases hc12 : x9 < (p0.size : Int)
        · have h := (if_pos hc12).symm.trans h
          refine AW.condP (x9 < (p0.size : Int)) rfl hc12 ?_
          refine AW.skip (ρ' := [(0, (eStr p0)), (19, (eI64 (p0.size : Int))), (20, (eI64 x9))]) (H' := []) ⟨rfl, rfl, rfl, trivial⟩ (Sub.refl _) ?_
          refine AW.seq ?_
          refine AW.block ?_
          refine AW.seq ?_
          refine AW.reg ?_
          refine AO.calm rfl 22 rfl (by decide) (eI64 x9) (Calm.move rfl rfl) ?_
          refine AO.calm rfl 3 rfl (by decide) (eI64 x9) (Calm.assign rfl rfl) ?_
          refine AO.nil (ρ' := [(0, (eStr p0)), (3, (eI64 x9)), (19, (eI64 (p0.size : Int))), (20, (eI64 x9))]) (H' := []) ⟨rfl, rfl, rfl, rfl, trivial⟩ (Sub.refl _) ?_
          refine AW.seq ?_
          refine AW.reg ?_
          refine AO.calm rfl 23 rfl (by decide) (eStr p0) (Calm.move rfl rfl) ?_
          refine AO.calm rfl 24 rfl (by decide) (eI64 x9) (Calm.move rfl rfl) ?_
          obtain ⟨hg13, h⟩ := of_guard h
          refine AO.calm rfl 25 rfl (by decide) (eU8 (byteAt p0 x9)) (Calm.idxS rfl rfl rfl hg13 Try.underlying9) ?_
          obtain ⟨t14, et14, h⟩ := of_bind h
          refine AO.callS [(eU8 (byteAt p0 x9))] (eI64 t14) 26 rfl (by decide) ok40 rfl rfl rfl ⟨rfl, rfl, trivial⟩ (escape_Class_spec et14) ?_
          refine AO.calm rfl 4 rfl (by decide) (eI64 t14) (Calm.assign rfl rfl) ?_
          refine AO.nil (ρ' := [(0, (eStr p0)), (4, (eI64 t14)), (19, (eI64 (p0.size : Int))), (20, (eI64 x9))]) (H' := []) ⟨rfl, rfl, rfl, rfl, trivial⟩ (Sub.refl _) ?_
          refine AW.seq ?_
          obtain ⟨b15, hq16, h⟩ := of_bind h
          refine AW.regM [(0, (eStr p0)), (19, (eI64 (p0.size : Int))), (20, (eI64 x9)), (32, (eBool b15))] [] ?_ ?_
          · refine AO.calm rfl 27 rfl (by decide) (eI64 t14) (Calm.move rfl rfl) ?_
            refine AO.calm rfl 28 rfl (by decide) (eBool (decide (t14 ≠ (2 : Int)))) (Calm.int rfl rfl rfl rfl) ?_
            refine AO.calm rfl 29 rfl (by decide) (eBool (decide (t14 ≠ (2 : Int)))) (Calm.move rfl rfl) ?_
            by_cases hc17 : t14 ≠ (2 : Int)
            · have hq16 := (if_pos hc17).symm.trans hq16
              refine AO.calmG 2 true 29 rfl rfl (congrArg (fun b => some (AV.fl (Value.bool b))) (decide_eq_true hc17)) 30 rfl (by decide) (eI64 t14) (Calm.move rfl rfl) ?_
              refine AO.calmG 2 true 29 rfl rfl (congrArg (fun b => some (AV.fl (Value.bool b))) (decide_eq_true hc17)) 31 rfl (by decide) (eBool (decide (t14 ≠ (3 : Int)))) (Calm.int rfl rfl rfl rfl) ?_
              refine AO.calm rfl 32 rfl (by decide) (eBool (decide (t14 ≠ (3 : Int)))) (Calm.pickT rfl (congrArg (fun b => some (AV.fl (Value.bool b))) (decide_eq_true hc17)) rfl) ?_
              cases hq16
              refine AO.nilE ⟨rfl, rfl⟩ ?_ ?_
              · exact ⟨rfl, rfl, rfl, rfl, trivial⟩
              · exact (Sub.refl _)
            · have hq16 := (if_neg hc17).symm.trans hq16
              refine AO.skipG 2 false 29 rfl rfl (congrArg (fun b => some (AV.fl (Value.bool b))) (decide_eq_false hc17)) 30 rfl (by decide) ?_
              refine AO.skipG 2 false 29 rfl rfl (congrArg (fun b => some (AV.fl (Value.bool b))) (decide_eq_false hc17)) 31 rfl (by decide) ?_
              refine AO.calm rfl 32 rfl (by decide) (eBool false) (Calm.pickF rfl (congrArg (fun b => some (AV.fl (Value.bool b))) (decide_eq_false hc17)) rfl) ?_
              cases hq16
              refine AO.nilE ⟨rfl, rfl⟩ ?_ ?_
              · exact ⟨rfl, rfl, rfl, rfl, trivial⟩
              · exact (Sub.refl _)
          · by_cases hc18 : b15 = true
            · have h := (if_pos hc18).symm.trans h
              refine AW.condT' b15 rfl hc18 ?_
              refine AW.seq ?_
              refine AW.reg ?_
              refine AO.calm rfl 2 rfl (by decide) (eBool false) (Calm.assign rfl rfl) ?_
              refine AO.nil (ρ' := [(2, (eBool false))]) (H' := []) ⟨rfl, trivial⟩ (Sub.refl _) ?_
              refine AW.ret (ρ' := [(2, (eBool false))]) (H' := []) ⟨rfl, trivial⟩ (Sub.refl _) ?_
              have hr := Option.some.inj h
              subst hr
              exact ⟨[(eBool false)], ⟨rfl, rfl, trivial⟩, rfl⟩
            · have h := (if_neg hc18).symm.trans h
              refine AW.condF' b15 rfl hc18 ?_
              refine AW.skip (ρ' := [(0, (eStr p0)), (19, (eI64 (p0.size : Int))), (20, (eI64 x9))]) (H' := []) ⟨rfl, rfl, rfl, trivial⟩ (Sub.refl _) ?_
              refine AW.reg ?_
              refine AO.calm rfl 33 rfl (by decide) (eI64 (w64 (x9 + (1 : Int)))) (Calm.int rfl rfl rfl rfl) ?_
              refine AO.calm rfl 20 rfl (by decide) (eI64 (w64 (x9 + (1 : Int)))) (Calm.move rfl rfl) ?_
              refine AO.nil (ρ' := [(0, (eStr p0)), (19, (eI64 (p0.size : Int))), (20, (eI64 (w64 (x9 + (1 : Int)))))]) (H' := []) ⟨rfl, rfl, rfl, trivial⟩ (Sub.refl _) ?_
              exact ⟨kq11, Nat.lt_succ_self _, (w64 (x9 + (1 : Int))), rfl, rfl, by rw [hrec10]; exact h⟩
        · have h := (if_neg hc12).symm.trans h
          refine AW.condN (x9 < (p0.size : Int)) rfl hc12 ?_
          refine AW.exit (ρ' := []) (H' := []) trivial (Sub.refl _) ?_
          exact ⟨rfl, rfl, h⟩
      · rintro _ _ ⟨rfl, rfl, h⟩
        rw [escape_Name_c0.eq_1] at h
        refine AW.seq ?_
        refine AW.reg ?_
        refine AO.calm rfl 2 rfl (by decide) (eBool true) (Calm.assign rfl rfl) ?_
        refine AO.nil (ρ' := [(2, (eBool true))]) (H' := []) ⟨rfl, trivial⟩ (Sub.refl _) ?_
        refine AW.ret (ρ' := [(2, (eBool true))]) (H' := []) ⟨rfl, trivial⟩ (Sub.refl _) ?_
        have hr := Option.some.inj h
        subst hr
        exact ⟨[(eBool true)], ⟨rfl, rfl, trivial⟩, rfl⟩
end Go.Avl.T4
/- bosket/symbols.New; printed by avmain.py. -/
namespace Go.Avl.T4
open Go Go.RowKit Go.Proofs Go.Avl
set_option linter.unusedVariables false
set_option maxRecDepth 100000
set_option maxHeartbeats 4000000
attribute [local irreducible] AW AO AQ Spec SpecH Calm

def symbols_New (k : Nat) : Option S85 :=
  some ((S85.mk ([] : List ByteArray) ([] : List (ByteArray × Int))))
theorem symbols_New_spec {k : Nat}  {r : S85} (h : symbols_New k = some r) {T0 : Heap} : SpecH Try.prog 26 [] (T0) (fun x H' => ∃ m m_0 m_1, x = .ptr m 0 ∧ Sub ((m, (.mem (.st [(1, (.own m_0 0 r.f0.length)), (1, (.mp m_1))]))) :: (m_0, (.mem (.ar 1 (r.f0.map eStr)))) :: (m_1, (.map (encM Value.string eI64 r.f1))) :: T0) H') := by
  rw [symbols_New.eq_1] at h
  refine SpecH.intro (res := [.tmp 0]) Try.func26 rfl rfl rfl (Nat.le_of_ble_eq_true rfl) ?_
  refine AW.seq ?_
  refine AW.reg ?_
  refine AO.calm rfl 0 rfl (by decide) (.fl (.pointer none)) (Calm.assign rfl rfl) ?_
  refine AO.nil (ρ' := []) (H' := (T0)) trivial (Sub.refl _) ?_
  refine AW.seq ?_
  refine AW.reg ?_
  refine AO.makeMap rfl 1 rfl (by decide) rfl fun n1 => ?_
  refine AO.calm rfl 2 rfl (by decide) (.st [(1, (.fl (.slice none 0 0))), (1, (.mp n1))]) (Calm.build (qs := [(1, (.mp n1))]) rfl ⟨rfl, rfl, rfl, trivial⟩ Try.underlying85 rfl zr85 lay85 (.cons rfl rfl rfl rfl (Put.cast (Put.fldS (Put.fld0 Put.here)) rfl) .nil) rfl) ?_
  refine AO.box rfl 3 rfl (by decide) rfl rfl rfl fun n2 => ?_
  refine AO.calm rfl 0 rfl (by decide) (.ptr n2 0) (Calm.assign rfl rfl) ?_
  refine AO.nil (ρ' := [(0, (.ptr n2 0))]) (H' := ((n2, (.mem (.st [(1, (.fl (.slice none 0 0))), (1, (.mp n1))]))) :: (n1, (.map (encM Value.string eI64 ([] : List (ByteArray × Int))))) :: T0)) ⟨rfl, trivial⟩ (Sub.refl _) ?_
  refine AW.nilOwnFld 0 1 (fun n3 => (.st [(1, (.own n3 0 0)), (1, (.mp n1))])) rfl (fun _ => (Put.cast (Put.fld0 Put.here) rfl)) (fun _ => rfl) (fun _ => rfl) fun n3 => ?_
  refine AW.ret (ρ' := [(0, (.ptr n2 0))]) (H' := ((n2, (.mem (.st [(1, (.own n3 0 ([] : List ByteArray).length)), (1, (.mp n1))]))) :: (n3, (.mem (.ar 1 (([] : List ByteArray).map eStr)))) :: (n1, (.map (encM Value.string eI64 ([] : List (ByteArray × Int))))) :: T0)) ⟨rfl, trivial⟩ (Sub.cons 1 rfl (Sub.cons 0 rfl (Sub.cons 0 rfl (Sub.refl _)))) ?_
  have hr := Option.some.inj h
  subst hr
  exact ⟨[(.ptr n2 0)], ⟨rfl, rfl, trivial⟩, n2, n3, n1, rfl, (Sub.cons 0 rfl (Sub.cons 0 rfl (Sub.cons 0 rfl (Sub.refl _))))⟩
end Go.Avl.T4
/- (*bosket/symbols.Table).Add; printed by avmain.py. -/
namespace Go.Avl.T4
open Go Go.RowKit Go.Proofs Go.Avl
set_option linter.unusedVariables false
set_option maxRecDepth 100000
set_option maxHeartbeats 4000000
set_option linter.unusedSimpArgs false
attribute [local irreducible] AW AO AQ Spec SpecH Calm

def symbols_Table_Add (k : Nat) (p0 : S85) (p1 : ByteArray) : Option (Int × Int × S85) :=
  (escape_Name k p1).bind fun t3 =>
  if (!t3) = true then some ((0 : Int), (8 : Int), (S85.mk p0.f0 p0.f1))
  else if ((mget p0.f1 p1).isSome) = true then some (((mget p0.f1 p1).getD (0 : Int)), (9 : Int), (S85.mk p0.f0 p0.f1))
  else if (300 : Int) ≤ (p0.f0.length : Int) then some ((0 : Int), (6 : Int), (S85.mk p0.f0 p0.f1))
  else if (p0.f0 ++ ([p1] : List ByteArray)).length * 16 ≤ 140737488355328 then (some (w64 (((p0.f0 ++ ([p1] : List ByteArray)).length : Int) - (1 : Int)))).bind fun x10 =>
  some (x10, (0 : Int), (S85.mk (p0.f0 ++ ([p1] : List ByteArray)) (mput p0.f1 p1 (p0.f0.length : Int))))
  else none
theorem symbols_Table_Add_spec {k : Nat} {p0 : S85} {p1 : ByteArray} {r : (Int × Int × S85)} (h : symbols_Table_Add k p0 p1 = some r) {q0 : Nat} {q0_0 : Nat} {q0_1 : Nat} {T0 : Heap} : SpecH Try.prog 27 [(.ptr q0 0), (eStr p1)] ((q0, (.mem (.st [(1, (.own q0_0 0 p0.f0.length)), (1, (.mp q0_1))]))) :: (q0_0, (.mem (.ar 1 (p0.f0.map eStr)))) :: (q0_1, (.map (encM Value.string eI64 p0.f1))) :: T0) (fun x H' => ∃ m0_0 m0_1, x = .tup [(eI64 r.1), (eI64 r.2.1)] ∧ Sub ((q0, (.mem (.st [(1, (.own m0_0 0 r.2.2.f0.length)), (1, (.mp m0_1))]))) :: (m0_0, (.mem (.ar 1 (r.2.2.f0.map eStr)))) :: (m0_1, (.map (encM Value.string eI64 r.2.2.f1))) :: T0) H') := by
  rw [symbols_Table_Add.eq_1] at h
  refine SpecH.intro (res := [.tmp 4, .tmp 5]) Try.func27 rfl rfl rfl (Nat.le_of_ble_eq_true rfl) ?_
  refine AW.seq ?_
  refine AW.reg ?_
  refine AO.calm rfl 4 rfl (by decide) (eI64 (0 : Int)) (Calm.assign rfl rfl) ?_
  refine AO.calm rfl 5 rfl (by decide) (eI64 (0 : Int)) (Calm.assign rfl rfl) ?_
  refine AO.nil (ρ' := [(0, (.ptr q0 0)), (1, (eStr p1))]) (H' := ((q0, (.mem (.st [(1, (.own q0_0 0 p0.f0.length)), (1, (.mp q0_1))]))) :: (q0_0, (.mem (.ar 1 (p0.f0.map eStr)))) :: (q0_1, (.map (encM Value.string eI64 p0.f1))) :: T0)) ⟨rfl, rfl, trivial⟩ (Sub.refl _) ?_
  refine AW.seq ?_
  refine AW.seq ?_
  refine AW.reg ?_
  refine AO.calm rfl 8 rfl (by decide) (eStr p1) (Calm.move rfl rfl) ?_
  obtain ⟨t3, et3, h⟩ := of_bind h
  refine AO.callS [(eStr p1)] (eBool t3) 9 rfl (by decide) ok42 rfl rfl rfl ⟨rfl, rfl, trivial⟩ (escape_Name_spec et3) ?_
  refine AO.calm rfl 10 rfl (by decide) (eBool (!t3)) (Calm.not rfl rfl) ?_
  refine AO.nil (ρ' := [(0, (.ptr q0 0)), (1, (eStr p1)), (10, (eBool (!t3)))]) (H' := ((q0, (.mem (.st [(1, (.own q0_0 0 p0.f0.length)), (1, (.mp q0_1))]))) :: (q0_0, (.mem (.ar 1 (p0.f0.map eStr)))) :: (q0_1, (.map (encM Value.string eI64 p0.f1))) :: T0)) ⟨rfl, rfl, rfl, trivial⟩ (Sub.refl _) ?_
  by_cases hc4 : (!t3) = true
  · have h := (if_pos hc4).symm.trans h
    refine AW.condT' (!t3) rfl hc4 ?_
    refine AW.seq ?_
    refine AW.reg ?_
    refine AO.calm rfl 4 rfl (by decide) (eI64 (0 : Int)) (Calm.assign rfl rfl) ?_
    refine AO.calm rfl 5 rfl (by decide) (eI64 (8 : Int)) (Calm.assign rfl rfl) ?_
    refine AO.nil (ρ' := [(4, (eI64 (0 : Int))), (5, (eI64 (8 : Int)))]) (H' := ((q0, (.mem (.st [(1, (.own q0_0 0 p0.f0.length)), (1, (.mp q0_1))]))) :: (q0_0, (.mem (.ar 1 (p0.f0.map eStr)))) :: (q0_1, (.map (encM Value.string eI64 p0.f1))) :: T0)) ⟨rfl, rfl, trivial⟩ (Sub.refl _) ?_
    refine AW.ret (ρ' := [(4, (eI64 (0 : Int))), (5, (eI64 (8 : Int)))]) (H' := ((q0, (.mem (.st [(1, (.own q0_0 0 p0.f0.length)), (1, (.mp q0_1))]))) :: (q0_0, (.mem (.ar 1 (p0.f0.map eStr)))) :: (q0_1, (.map (encM Value.string eI64 p0.f1))) :: T0)) ⟨rfl, rfl, trivial⟩ (Sub.refl _) ?_
    have hr := Option.some.inj h
    subst hr
    exact ⟨[(eI64 (0 : Int)), (eI64 (8 : Int))], ⟨rfl, rfl, rfl, rfl, trivial⟩, q0_0, q0_1, rfl, (Sub.cons 0 rfl (Sub.cons 0 rfl (Sub.cons 0 rfl (Sub.refl _))))⟩
  · have h := (if_neg hc4).symm.trans h
    refine AW.condF' (!t3) rfl hc4 ?_
    refine AW.skip (ρ' := [(0, (.ptr q0 0)), (1, (eStr p1))]) (H' := ((q0, (.mem (.st [(1, (.own q0_0 0 p0.f0.length)), (1, (.mp q0_1))]))) :: (q0_0, (.mem (.ar 1 (p0.f0.map eStr)))) :: (q0_1, (.map (encM Value.string eI64 p0.f1))) :: T0)) ⟨rfl, rfl, trivial⟩ (Sub.refl _) ?_
    refine AW.seq ?_
    refine AW.seq ?_
    refine AW.reg ?_
    refine AO.calm rfl 12 rfl (by decide) (.ptr q0 0) (Calm.move rfl rfl) ?_
    refine AO.calm rfl 13 rfl (by decide) (.ptr q0 0) (Calm.nilCheck rfl rfl) ?_
    refine AO.calm rfl 14 rfl (by decide) (.ptr q0 1) (Calm.fldPtr rfl rfl Try.underlying85 rfl sz83 _ rfl) ?_
    refine AO.calm rfl 15 rfl (by decide) (.mp q0_1) (Calm.load 0 rfl rfl rfl (At.cast (At.fldS (At.fld0 At.here)) rfl) ag83 sz83) ?_
    refine AO.calm rfl 16 rfl (by decide) (eStr p1) (Calm.move rfl rfl) ?_
    refine AO.calm rfl 17 rfl (by decide) (.tup [(eI64 ((mget p0.f1 p1).getD (0 : Int))), (eBool ((mget p0.f1 p1).isSome))]) (Calm.look2 (f := eI64) string_inj string_key (0 : Int) 2 rfl rfl rfl rfl Try.underlying83 Try.underlying9 mz3) ?_
    refine AO.calm rfl 11 rfl (by decide) (.tup [(eI64 ((mget p0.f1 p1).getD (0 : Int))), (eBool ((mget p0.f1 p1).isSome))]) (Calm.move rfl rfl) ?_
    refine AO.calm rfl 18 rfl (by decide) (eI64 ((mget p0.f1 p1).getD (0 : Int))) (Calm.extract rfl rfl rfl) ?_
    refine AO.calm rfl 19 rfl (by decide) (eBool ((mget p0.f1 p1).isSome)) (Calm.extract rfl rfl rfl) ?_
    refine AO.calm rfl 6 rfl (by decide) (eI64 ((mget p0.f1 p1).getD (0 : Int))) (Calm.assign rfl rfl) ?_
    refine AO.calm rfl 7 rfl (by decide) (eBool ((mget p0.f1 p1).isSome)) (Calm.assign rfl rfl) ?_
    refine AO.nil (ρ' := [(0, (.ptr q0 0)), (1, (eStr p1)), (6, (eI64 ((mget p0.f1 p1).getD (0 : Int)))), (7, (eBool ((mget p0.f1 p1).isSome)))]) (H' := ((q0, (.mem (.st [(1, (.own q0_0 0 p0.f0.length)), (1, (.mp q0_1))]))) :: (q0_0, (.mem (.ar 1 (p0.f0.map eStr)))) :: (q0_1, (.map (encM Value.string eI64 p0.f1))) :: T0)) ⟨rfl, rfl, rfl, rfl, trivial⟩ (Sub.refl _) ?_
    refine AW.seq ?_
    refine AW.reg ?_
    refine AO.calm rfl 20 rfl (by decide) (eBool ((mget p0.f1 p1).isSome)) (Calm.move rfl rfl) ?_
    refine AO.nil (ρ' := [(0, (.ptr q0 0)), (1, (eStr p1)), (6, (eI64 ((mget p0.f1 p1).getD (0 : Int)))), (20, (eBool ((mget p0.f1 p1).isSome)))]) (H' := ((q0, (.mem (.st [(1, (.own q0_0 0 p0.f0.length)), (1, (.mp q0_1))]))) :: (q0_0, (.mem (.ar 1 (p0.f0.map eStr)))) :: (q0_1, (.map (encM Value.string eI64 p0.f1))) :: T0)) ⟨rfl, rfl, rfl, rfl, trivial⟩ (Sub.refl _) ?_
    by_cases hc5 : ((mget p0.f1 p1).isSome) = true
    · have h := (if_pos hc5).symm.trans h
      refine AW.condT' ((mget p0.f1 p1).isSome) rfl hc5 ?_
      refine AW.seq ?_
      refine AW.reg ?_
      refine AO.calm rfl 21 rfl (by decide) (eI64 ((mget p0.f1 p1).getD (0 : Int))) (Calm.move rfl rfl) ?_
      refine AO.calm rfl 4 rfl (by decide) (eI64 ((mget p0.f1 p1).getD (0 : Int))) (Calm.assign rfl rfl) ?_
      refine AO.calm rfl 5 rfl (by decide) (eI64 (9 : Int)) (Calm.assign rfl rfl) ?_
      refine AO.nil (ρ' := [(4, (eI64 ((mget p0.f1 p1).getD (0 : Int)))), (5, (eI64 (9 : Int)))]) (H' := ((q0, (.mem (.st [(1, (.own q0_0 0 p0.f0.length)), (1, (.mp q0_1))]))) :: (q0_0, (.mem (.ar 1 (p0.f0.map eStr)))) :: (q0_1, (.map (encM Value.string eI64 p0.f1))) :: T0)) ⟨rfl, rfl, trivial⟩ (Sub.refl _) ?_
      refine AW.ret (ρ' := [(4, (eI64 ((mget p0.f1 p1).getD (0 : Int)))), (5, (eI64 (9 : Int)))]) (H' := ((q0, (.mem (.st [(1, (.own q0_0 0 p0.f0.length)), (1, (.mp q0_1))]))) :: (q0_0, (.mem (.ar 1 (p0.f0.map eStr)))) :: (q0_1, (.map (encM Value.string eI64 p0.f1))) :: T0)) ⟨rfl, rfl, trivial⟩ (Sub.refl _) ?_
      have hr := Option.some.inj h
      subst hr
      exact ⟨[(eI64 ((mget p0.f1 p1).getD (0 : Int))), (eI64 (9 : Int))], ⟨rfl, rfl, rfl, rfl, trivial⟩, q0_0, q0_1, rfl, (Sub.cons 0 rfl (Sub.cons 0 rfl (Sub.cons 0 rfl (Sub.refl _))))⟩
    · have h := (if_neg hc5).symm.trans h
      refine AW.condF' ((mget p0.f1 p1).isSome) rfl hc5 ?_
      refine AW.skip (ρ' := [(0, (.ptr q0 0)), (1, (eStr p1))]) (H' := ((q0, (.mem (.st [(1, (.own q0_0 0 p0.f0.length)), (1, (.mp q0_1))]))) :: (q0_0, (.mem (.ar 1 (p0.f0.map eStr)))) :: (q0_1, (.map (encM Value.string eI64 p0.f1))) :: T0)) ⟨rfl, rfl, trivial⟩ (Sub.refl _) ?_
      refine AW.seq ?_
      refine AW.seq ?_
      refine AW.reg ?_
      refine AO.calm rfl 22 rfl (by decide) (.ptr q0 0) (Calm.move rfl rfl) ?_
      refine AO.calm rfl 23 rfl (by decide) (.ptr q0 0) (Calm.nilCheck rfl rfl) ?_
      refine AO.calm rfl 24 rfl (by decide) (.ptr q0 0) (Calm.fldPtr rfl rfl Try.underlying85 rfl sz37 _ rfl) ?_
      refine AO.calm rfl 25 rfl (by decide) (.own q0_0 0 p0.f0.length) (Calm.load 0 rfl rfl rfl (At.cast (At.fld0 At.here) rfl) ag37 sz37) ?_
      refine AO.calm rfl 26 rfl (by decide) (eI64 (p0.f0.length : Int)) (Calm.lenOwn rfl rfl Try.underlying37) ?_
      refine AO.calm rfl 27 rfl (by decide) (eBool (decide ((300 : Int) ≤ (p0.f0.length : Int)))) (Calm.int rfl rfl rfl rfl) ?_
      refine AO.nil (ρ' := [(0, (.ptr q0 0)), (1, (eStr p1)), (27, (eBool (decide ((300 : Int) ≤ (p0.f0.length : Int)))))]) (H' := ((q0, (.mem (.st [(1, (.own q0_0 0 p0.f0.length)), (1, (.mp q0_1))]))) :: (q0_0, (.mem (.ar 1 (p0.f0.map eStr)))) :: (q0_1, (.map (encM Value.string eI64 p0.f1))) :: T0)) ⟨rfl, rfl, rfl, trivial⟩ (Sub.refl _) ?_
      by_cases hc6 : (300 : Int) ≤ (p0.f0.length : Int)
      · have h := (if_pos hc6).symm.trans h
        refine AW.condP ((300 : Int) ≤ (p0.f0.length : Int)) rfl hc6 ?_
        refine AW.seq ?_
        refine AW.reg ?_
        refine AO.calm rfl 4 rfl (by decide) (eI64 (0 : Int)) (Calm.assign rfl rfl) ?_
        refine AO.calm rfl 5 rfl (by decide) (eI64 (6 : Int)) (Calm.assign rfl rfl) ?_
        refine AO.nil (ρ' := [(4, (eI64 (0 : Int))), (5, (eI64 (6 : Int)))]) (H' := ((q0, (.mem (.st [(1, (.own q0_0 0 p0.f0.length)), (1, (.mp q0_1))]))) :: (q0_0, (.mem (.ar 1 (p0.f0.map eStr)))) :: (q0_1, (.map (encM Value.string eI64 p0.f1))) :: T0)) ⟨rfl, rfl, trivial⟩ (Sub.refl _) ?_
        refine AW.ret (ρ' := [(4, (eI64 (0 : Int))), (5, (eI64 (6 : Int)))]) (H' := ((q0, (.mem (.st [(1, (.own q0_0 0 p0.f0.length)), (1, (.mp q0_1))]))) :: (q0_0, (.mem (.ar 1 (p0.f0.map eStr)))) :: (q0_1, (.map (encM Value.string eI64 p0.f1))) :: T0)) ⟨rfl, rfl, trivial⟩ (Sub.refl _) ?_
        have hr := Option.some.inj h
        subst hr
        exact ⟨[(eI64 (0 : Int)), (eI64 (6 : Int))], ⟨rfl, rfl, rfl, rfl, trivial⟩, q0_0, q0_1, rfl, (Sub.cons 0 rfl (Sub.cons 0 rfl (Sub.cons 0 rfl (Sub.refl _))))⟩
      · have h := (if_neg hc6).symm.trans h
        refine AW.condN ((300 : Int) ≤ (p0.f0.length : Int)) rfl hc6 ?_
        refine AW.skip (ρ' := [(0, (.ptr q0 0)), (1, (eStr p1))]) (H' := ((q0, (.mem (.st [(1, (.own q0_0 0 p0.f0.length)), (1, (.mp q0_1))]))) :: (q0_0, (.mem (.ar 1 (p0.f0.map eStr)))) :: (q0_1, (.map (encM Value.string eI64 p0.f1))) :: T0)) ⟨rfl, rfl, trivial⟩ (Sub.refl _) ?_
        refine AW.seq ?_
        refine AW.regEff (by rfl) (by decide +kernel) (fun (σ : Nat → Nat) => ([(.ptr q0 0), (.ptr q0 0), (.ptr q0 1), (.mp q0_1), (eStr p1), (.ptr q0 0), (.ptr q0 0), (.ptr q0 0), (.own q0_0 0 p0.f0.length), (eI64 (p0.f0.length : Int)), (.fl undef)] : List AV)) (fun (L : Nat → Bool) (σ : Nat → Nat) => ((q0, (.mem (.st [(1, (.own q0_0 0 p0.f0.length)), (1, (.mp q0_1))]))) :: (q0_0, (.mem (.ar 1 (p0.f0.map eStr)))) :: (bif L 10 then ((q0_1, (.map (encM Value.string eI64 (mput p0.f1 p1 (p0.f0.length : Int))))) :: T0) else ((q0_1, (.map (encM Value.string eI64 p0.f1))) :: T0)) : Heap)) [(0, (.ptr q0 0)), (1, (eStr p1))] ⟨rfl, rfl, trivial⟩ (fun _ => rfl) (fun σ => (Sub.refl _)) ⟨?_, ?_, ?_, ?_, ?_, ?_, ?_, ?_, ?_, ?_, ?_, trivial⟩ (fun σ => [(0, (.ptr q0 0)), (1, (eStr p1))]) (fun σ => ((q0, (.mem (.st [(1, (.own q0_0 0 p0.f0.length)), (1, (.mp q0_1))]))) :: (q0_0, (.mem (.ar 1 (p0.f0.map eStr)))) :: (q0_1, (.map (encM Value.string eI64 (mput p0.f1 p1 (p0.f0.length : Int))))) :: T0)) (fun σ => ⟨rfl, rfl, trivial⟩) (fun σ => Sub.refl _) (fun σ => ?_)
        · refine StepE.calm (fun _ _ => rfl) fun L σ hc hi hd => ?_
          refine AO.weak (ρ' := [(0, (.ptr q0 0))]) ⟨rfl, trivial⟩ (Sub.refl _) ?_
          refine AO.calm rfl 28 rfl (by decide) (.ptr q0 0) (Calm.move rfl rfl) ?_
          exact AO.nilE (ρ' := [(28, (.ptr q0 0))]) ⟨⟨28, _, rfl, rfl, rfl⟩, Sub.refl _⟩ ⟨rfl, trivial⟩ (Sub.refl _)
        · refine StepE.calm (fun _ _ => rfl) fun L σ hc hi hd => ?_
          refine AO.weak (ρ' := [(28, (.ptr q0 0))]) ⟨rfl, trivial⟩ (Sub.refl _) ?_
          refine AO.calm rfl 29 rfl (by decide) (.ptr q0 0) (Calm.nilCheck rfl rfl) ?_
          exact AO.nilE (ρ' := [(29, (.ptr q0 0))]) ⟨⟨29, _, rfl, rfl, rfl⟩, Sub.refl _⟩ ⟨rfl, trivial⟩ (Sub.refl _)
        · refine StepE.calm (fun _ _ => rfl) fun L σ hc hi hd => ?_
          refine AO.weak (ρ' := [(29, (.ptr q0 0))]) ⟨rfl, trivial⟩ (Sub.refl _) ?_
          refine AO.calm rfl 30 rfl (by decide) (.ptr q0 1) (Calm.fldPtr rfl rfl Try.underlying85 rfl sz83 _ rfl) ?_
          exact AO.nilE (ρ' := [(30, (.ptr q0 1))]) ⟨⟨30, _, rfl, rfl, rfl⟩, Sub.refl _⟩ ⟨rfl, trivial⟩ (Sub.refl _)
        · refine StepE.calm (fun _ _ => rfl) fun L σ hc hi hd => ?_
          refine AO.weak (ρ' := [(30, (.ptr q0 1))]) ⟨rfl, trivial⟩ (Sub.refl _) ?_
          refine AO.calm rfl 31 rfl (by decide) (.mp q0_1) (Calm.load 0 rfl rfl rfl (At.cast (At.fldS (At.fld0 At.here)) rfl) ag83 sz83) ?_
          exact AO.nilE (ρ' := [(31, (.mp q0_1))]) ⟨⟨31, _, rfl, rfl, rfl⟩, Sub.refl _⟩ ⟨rfl, trivial⟩ (Sub.refl _)
        · refine StepE.calm (fun _ _ => rfl) fun L σ hc hi hd => ?_
          refine AO.weak (ρ' := [(1, (eStr p1))]) ⟨rfl, trivial⟩ (Sub.refl _) ?_
          refine AO.calm rfl 32 rfl (by decide) (eStr p1) (Calm.move rfl rfl) ?_
          exact AO.nilE (ρ' := [(32, (eStr p1))]) ⟨⟨32, _, rfl, rfl, rfl⟩, Sub.refl _⟩ ⟨rfl, trivial⟩ (Sub.refl _)
        · refine StepE.calm (fun _ _ => rfl) fun L σ hc hi hd => ?_
          refine AO.weak (ρ' := [(0, (.ptr q0 0))]) ⟨rfl, trivial⟩ (Sub.refl _) ?_
          refine AO.calm rfl 33 rfl (by decide) (.ptr q0 0) (Calm.move rfl rfl) ?_
          exact AO.nilE (ρ' := [(33, (.ptr q0 0))]) ⟨⟨33, _, rfl, rfl, rfl⟩, Sub.refl _⟩ ⟨rfl, trivial⟩ (Sub.refl _)
        · refine StepE.calm (fun _ _ => rfl) fun L σ hc hi hd => ?_
          refine AO.weak (ρ' := [(33, (.ptr q0 0))]) ⟨rfl, trivial⟩ (Sub.refl _) ?_
          refine AO.calm rfl 34 rfl (by decide) (.ptr q0 0) (Calm.nilCheck rfl rfl) ?_
          exact AO.nilE (ρ' := [(34, (.ptr q0 0))]) ⟨⟨34, _, rfl, rfl, rfl⟩, Sub.refl _⟩ ⟨rfl, trivial⟩ (Sub.refl _)
        · refine StepE.calm (fun _ _ => rfl) fun L σ hc hi hd => ?_
          refine AO.weak (ρ' := [(34, (.ptr q0 0))]) ⟨rfl, trivial⟩ (Sub.refl _) ?_
          refine AO.calm rfl 35 rfl (by decide) (.ptr q0 0) (Calm.fldPtr rfl rfl Try.underlying85 rfl sz37 _ rfl) ?_
          exact AO.nilE (ρ' := [(35, (.ptr q0 0))]) ⟨⟨35, _, rfl, rfl, rfl⟩, Sub.refl _⟩ ⟨rfl, trivial⟩ (Sub.refl _)
        · refine StepE.calm (fun _ _ => rfl) fun L σ hc hi hd => ?_
          refine AO.weak (ρ' := [(35, (.ptr q0 0))]) ⟨rfl, trivial⟩ (Sub.refl _) ?_
          refine AO.calm rfl 36 rfl (by decide) (.own q0_0 0 p0.f0.length) (Calm.load 0 rfl rfl rfl (At.cast (At.fld0 At.here) rfl) ag37 sz37) ?_
          exact AO.nilE (ρ' := [(36, (.own q0_0 0 p0.f0.length))]) ⟨⟨36, _, rfl, rfl, rfl⟩, Sub.refl _⟩ ⟨rfl, trivial⟩ (Sub.refl _)
        · refine StepE.calm (fun _ _ => rfl) fun L σ hc hi hd => ?_
          refine AO.weak (ρ' := [(36, (.own q0_0 0 p0.f0.length))]) ⟨rfl, trivial⟩ (Sub.refl _) ?_
          refine AO.calm rfl 37 rfl (by decide) (eI64 (p0.f0.length : Int)) (Calm.lenOwn rfl rfl Try.underlying37) ?_
          exact AO.nilE (ρ' := [(37, (eI64 (p0.f0.length : Int)))]) ⟨⟨37, _, rfl, rfl, rfl⟩, Sub.refl _⟩ ⟨rfl, trivial⟩ (Sub.refl _)
        · intro L σ hc hi hd
          refine AO.heq (H' := ((q0, (.mem (.st [(1, (.own q0_0 0 p0.f0.length)), (1, (.mp q0_1))]))) :: (q0_0, (.mem (.ar 1 (p0.f0.map eStr)))) :: (q0_1, (.map (encM Value.string eI64 p0.f1))) :: T0)) (by first | rfl | simp only [hi, cond_true, cond_false]) ?_
          refine AO.weak (ρ' := [(31, (.mp q0_1)), (32, (eStr p1)), (37, (eI64 (p0.f0.length : Int)))]) (H' := ((q0, (.mem (.st [(1, (.own q0_0 0 p0.f0.length)), (1, (.mp q0_1))]))) :: (q0_0, (.mem (.ar 1 (p0.f0.map eStr)))) :: (q0_1, (.map (encM Value.string eI64 p0.f1))) :: T0)) ⟨rfl, rfl, rfl, trivial⟩ (Sub.refl _) ?_
          refine AO.mapPut (f := eI64) string_inj string_key 2 rfl rfl rfl rfl rfl rfl rfl rfl Try.underlying83 Try.underlying9 ?_
          have a10 : addL L 10 10 = true := rfl
          exact AO.nilE (ρ' := []) (H' := ((q0, (.mem (.st [(1, (.own q0_0 0 p0.f0.length)), (1, (.mp q0_1))]))) :: (q0_0, (.mem (.ar 1 (p0.f0.map eStr)))) :: (q0_1, (.map (encM Value.string eI64 (mput p0.f1 p1 (p0.f0.length : Int))))) :: T0)) ⟨σ, (fun _ _ => rfl), (fun d' hd' => by cases hd'), Sub.of_eq (B := ((q0, (.mem (.st [(1, (.own q0_0 0 p0.f0.length)), (1, (.mp q0_1))]))) :: (q0_0, (.mem (.ar 1 (p0.f0.map eStr)))) :: (q0_1, (.map (encM Value.string eI64 (mput p0.f1 p1 (p0.f0.length : Int))))) :: T0)) (by simp only [a10, cond_true, cond_false]) (Sub.refl _)⟩ trivial (Sub.refl _)
        · refine AO.nil (ρ' := [(0, (.ptr q0 0)), (1, (eStr p1))]) (H' := ((q0, (.mem (.st [(1, (.own q0_0 0 p0.f0.length)), (1, (.mp q0_1))]))) :: (q0_0, (.mem (.ar 1 (p0.f0.map eStr)))) :: (q0_1, (.map (encM Value.string eI64 (mput p0.f1 p1 (p0.f0.length : Int))))) :: T0)) ⟨rfl, rfl, trivial⟩ (Sub.refl _) ?_
          refine AW.seq ?_
          refine AW.reg ?_
          refine AO.calm rfl 38 rfl (by decide) (.ptr q0 0) (Calm.move rfl rfl) ?_
          refine AO.calm rfl 39 rfl (by decide) (.ptr q0 0) (Calm.move rfl rfl) ?_
          refine AO.calm rfl 40 rfl (by decide) (.ptr q0 0) (Calm.nilCheck rfl rfl) ?_
          refine AO.calm rfl 41 rfl (by decide) (.ptr q0 0) (Calm.fldPtr rfl rfl Try.underlying85 rfl sz37 _ rfl) ?_
          refine AO.calm rfl 42 rfl (by decide) (.own q0_0 0 p0.f0.length) (Calm.load 0 rfl rfl rfl (At.cast (At.fld0 At.here) rfl) ag37 sz37) ?_
          refine AO.calm rfl 43 rfl (by decide) (eStr p1) (Calm.move rfl rfl) ?_
          refine AO.lit (Z := (eStr ByteArray.empty)) (xs := (([p1] : List ByteArray).map eStr)) (qs := [(0, (eStr p1))]) rfl 44 rfl (by decide) rfl ⟨rfl, rfl, rfl, trivial⟩ Try.underlying37 sz9 zr9 lay9 rfl (by decide) (litOK (z := 1) [(eStr p1)] rfl ⟨⟨rfl, rfl⟩, trivial⟩) rfl fun n7 => ?_
          obtain ⟨hg9, h⟩ := of_guard h
          refine AO.appendL (l := p0.f0) (m := ([p1] : List ByteArray)) 2 45 rfl (by decide) rfl rfl rfl rfl rfl (Src.ownL (f := eStr) (l := ([p1] : List ByteArray)) 0 rfl) Try.underlying37 Try.underlying37 sz9 by9 zr9 rfl hg9 (by decide) fun n8 => ?_
          refine AO.calm rfl 46 rfl (by decide) (.ptr q0 0) (Calm.nilCheck rfl rfl) ?_
          refine AO.calm rfl 47 rfl (by decide) (.ptr q0 0) (Calm.fldPtr rfl rfl Try.underlying85 rfl sz37 _ rfl) ?_
          refine AO.store (X' := (.st [(1, (.own n8 0 (p0.f0 ++ ([p1] : List ByteArray)).length)), (1, (.mp q0_1))])) 1 rfl rfl rfl rfl rfl rfl (Put.cast (Put.fld0 Put.here) rfl) rfl rfl sz37 rfl ?_
          refine AO.nil (ρ' := [(0, (.ptr q0 0))]) (H' := ((q0, (.mem (.st [(1, (.own n8 0 (p0.f0 ++ ([p1] : List ByteArray)).length)), (1, (.mp q0_1))]))) :: (n8, (.mem (.ar 1 ((p0.f0 ++ ([p1] : List ByteArray)).map eStr)))) :: (q0_1, (.map (encM Value.string eI64 (mput p0.f1 p1 (p0.f0.length : Int))))) :: T0)) ⟨rfl, trivial⟩ (Sub.cons 1 rfl (Sub.cons 1 rfl (Sub.cons 1 rfl (Sub.drop (Sub.refl _))))) ?_
          refine AW.seq ?_
          refine AW.reg ?_
          refine AO.calm rfl 48 rfl (by decide) (.ptr q0 0) (Calm.move rfl rfl) ?_
          refine AO.calm rfl 49 rfl (by decide) (.ptr q0 0) (Calm.nilCheck rfl rfl) ?_
          refine AO.calm rfl 50 rfl (by decide) (.ptr q0 0) (Calm.fldPtr rfl rfl Try.underlying85 rfl sz37 _ rfl) ?_
          refine AO.calm rfl 51 rfl (by decide) (.own n8 0 (p0.f0 ++ ([p1] : List ByteArray)).length) (Calm.load 0 rfl rfl rfl (At.cast (At.fld0 At.here) rfl) ag37 sz37) ?_
          refine AO.calm rfl 52 rfl (by decide) (eI64 ((p0.f0 ++ ([p1] : List ByteArray)).length : Int)) (Calm.lenOwn rfl rfl Try.underlying37) ?_
          refine AO.calm rfl 53 rfl (by decide) (eI64 (w64 (((p0.f0 ++ ([p1] : List ByteArray)).length : Int) - (1 : Int)))) (Calm.int rfl rfl rfl rfl) ?_
          obtain ⟨x10, ex10, h⟩ := of_bind h
          refine AO.calm rfl 4 rfl (by decide) (eI64 x10) (Calm.assign rfl (congrArg (fun x => some (eI64 x)) (Option.some.inj ex10))) ?_
          refine AO.calm rfl 5 rfl (by decide) (eI64 (0 : Int)) (Calm.assign rfl rfl) ?_
          refine AO.nil (ρ' := [(4, (eI64 x10)), (5, (eI64 (0 : Int)))]) (H' := ((q0, (.mem (.st [(1, (.own n8 0 (p0.f0 ++ ([p1] : List ByteArray)).length)), (1, (.mp q0_1))]))) :: (n8, (.mem (.ar 1 ((p0.f0 ++ ([p1] : List ByteArray)).map eStr)))) :: (q0_1, (.map (encM Value.string eI64 (mput p0.f1 p1 (p0.f0.length : Int))))) :: T0)) ⟨rfl, rfl, trivial⟩ (Sub.refl _) ?_
          refine AW.ret (ρ' := [(4, (eI64 x10)), (5, (eI64 (0 : Int)))]) (H' := ((q0, (.mem (.st [(1, (.own n8 0 (p0.f0 ++ ([p1] : List ByteArray)).length)), (1, (.mp q0_1))]))) :: (n8, (.mem (.ar 1 ((p0.f0 ++ ([p1] : List ByteArray)).map eStr)))) :: (q0_1, (.map (encM Value.string eI64 (mput p0.f1 p1 (p0.f0.length : Int))))) :: T0)) ⟨rfl, rfl, trivial⟩ (Sub.refl _) ?_
          have hr := Option.some.inj h
          subst hr
          exact ⟨[(eI64 x10), (eI64 (0 : Int))], ⟨rfl, rfl, rfl, rfl, trivial⟩, n8, q0_1, rfl, (Sub.cons 0 rfl (Sub.cons 0 rfl (Sub.cons 0 rfl (Sub.refl _))))⟩
end Go.Avl.T4
/- bosket/bosketlaw16.awake; printed by avmain.py. -/
namespace Go.Avl.T4
open Go Go.RowKit Go.Proofs Go.Avl
set_option linter.unusedVariables false
set_option maxRecDepth 100000
set_option maxHeartbeats 4000000
attribute [local irreducible] AW AO AQ Spec SpecH Calm

def bosketlaw16_awake (k : Nat) : Option Bool :=
  (symbols_New k).bind fun t1 =>
  (symbols_Table_Add k (S85.mk t1.f0 t1.f1) (ByteArray.mk #[97])).bind fun t6 =>
  (symbols_Table_Add k (S85.mk t6.2.2.f0 t6.2.2.f1) (ByteArray.mk #[97])).bind fun t10 =>
  Option.bind (α := Bool) (if t6.1 = (0 : Int) then if t10.1 = (0 : Int) then if t6.2.1 = (0 : Int) then some (decide (t10.2.1 = (9 : Int)))
  else some (false)
  else some (false)
  else some (false)) fun b14 =>
  some (b14)
theorem bosketlaw16_awake_spec {k : Nat}  {r : Bool} (h : bosketlaw16_awake k = some r) : Spec Try.prog 20 [] (eBool r) := by
  rw [bosketlaw16_awake.eq_1] at h
  refine Spec.intro (res := [.tmp 0]) Try.func20 rfl rfl rfl (Nat.le_of_ble_eq_true rfl) ?_
  refine AW.seq ?_
  refine AW.reg ?_
  refine AO.calm rfl 0 rfl (by decide) (eBool false) (Calm.assign rfl rfl) ?_
  refine AO.nil (ρ' := []) (H' := []) trivial (Sub.refl _) ?_
  refine AW.seq ?_
  refine AW.reg ?_
  obtain ⟨t1, et1, h⟩ := of_bind h
  refine AO.callH [] [] _ rfl rfl rfl 6 rfl (by decide) ok26 trivial (Sub.refl _) (symbols_New_spec et1) ?_
  rintro _ _ ⟨n3, n4, n5, rfl, hs2⟩
  refine AO.weak (ρ' := [(6, (.ptr n3 0))]) (H' := [(n3, (.mem (.st [(1, (.own n4 0 t1.f0.length)), (1, (.mp n5))]))), (n4, (.mem (.ar 1 (t1.f0.map eStr)))), (n5, (.map (encM Value.string eI64 t1.f1)))]) ⟨rfl, trivial⟩ hs2 ?_
  refine AO.calm rfl 1 rfl (by decide) (.ptr n3 0) (Calm.assign rfl rfl) ?_
  refine AO.nil (ρ' := [(1, (.ptr n3 0))]) (H' := [(n3, (.mem (.st [(1, (.own n4 0 t1.f0.length)), (1, (.mp n5))]))), (n4, (.mem (.ar 1 (t1.f0.map eStr)))), (n5, (.map (encM Value.string eI64 t1.f1)))]) ⟨rfl, trivial⟩ (Sub.refl _) ?_
  refine AW.seq ?_
  refine AW.seq ?_
  refine AW.reg ?_
  refine AO.calm rfl 7 rfl (by decide) (.ptr n3 0) (Calm.move rfl rfl) ?_
  refine AO.calm rfl 8 rfl (by decide) (eBool false) (Calm.ptrNilE rfl rfl rfl Try.underlying39) ?_
  refine AO.nil (ρ' := [(1, (.ptr n3 0)), (8, (eBool false))]) (H' := [(n3, (.mem (.st [(1, (.own n4 0 t1.f0.length)), (1, (.mp n5))]))), (n4, (.mem (.ar 1 (t1.f0.map eStr)))), (n5, (.map (encM Value.string eI64 t1.f1)))]) ⟨rfl, rfl, trivial⟩ (Sub.refl _) ?_
  refine AW.condF rfl ?_
  refine AW.skip (ρ' := [(1, (.ptr n3 0))]) (H' := [(n3, (.mem (.st [(1, (.own n4 0 t1.f0.length)), (1, (.mp n5))]))), (n4, (.mem (.ar 1 (t1.f0.map eStr)))), (n5, (.map (encM Value.string eI64 t1.f1)))]) ⟨rfl, trivial⟩ (Sub.refl _) ?_
  refine AW.seq ?_
  refine AW.reg ?_
  refine AO.calm rfl 10 rfl (by decide) (.ptr n3 0) (Calm.move rfl rfl) ?_
  obtain ⟨t6, et6, h⟩ := of_bind h
  refine AO.callH [(.ptr n3 0), (eStr (ByteArray.mk #[97]))] [(n3, (.mem (.st [(1, (.own n4 0 t1.f0.length)), (1, (.mp n5))]))), (n4, (.mem (.ar 1 (t1.f0.map eStr)))), (n5, (.map (encM Value.string eI64 t1.f1)))] _ rfl rfl rfl 11 rfl (by decide) ok27 ⟨rfl, rfl, rfl, rfl, trivial⟩ (Sub.cons 0 rfl (Sub.cons 0 rfl (Sub.cons 0 rfl (Sub.refl _)))) (symbols_Table_Add_spec et6) ?_
  rintro _ _ ⟨n8, n9, rfl, hs7⟩
  refine AO.weak (ρ' := [(1, (.ptr n3 0)), (10, (.ptr n3 0)), (11, (.tup [(eI64 t6.1), (eI64 t6.2.1)]))]) (H' := [(n3, (.mem (.st [(1, (.own n8 0 t6.2.2.f0.length)), (1, (.mp n9))]))), (n8, (.mem (.ar 1 (t6.2.2.f0.map eStr)))), (n9, (.map (encM Value.string eI64 t6.2.2.f1)))]) ⟨rfl, rfl, rfl, trivial⟩ hs7 ?_
  refine AO.calm rfl 9 rfl (by decide) (.tup [(eI64 t6.1), (eI64 t6.2.1)]) (Calm.move rfl rfl) ?_
  refine AO.calm rfl 12 rfl (by decide) (eI64 t6.1) (Calm.extract rfl rfl rfl) ?_
  refine AO.calm rfl 13 rfl (by decide) (eI64 t6.2.1) (Calm.extract rfl rfl rfl) ?_
  refine AO.calm rfl 2 rfl (by decide) (eI64 t6.1) (Calm.assign rfl rfl) ?_
  refine AO.calm rfl 3 rfl (by decide) (eI64 t6.2.1) (Calm.assign rfl rfl) ?_
  refine AO.nil (ρ' := [(1, (.ptr n3 0)), (2, (eI64 t6.1)), (3, (eI64 t6.2.1))]) (H' := [(n3, (.mem (.st [(1, (.own n8 0 t6.2.2.f0.length)), (1, (.mp n9))]))), (n8, (.mem (.ar 1 (t6.2.2.f0.map eStr)))), (n9, (.map (encM Value.string eI64 t6.2.2.f1)))]) ⟨rfl, rfl, rfl, trivial⟩ (Sub.refl _) ?_
  refine AW.seq ?_
  refine AW.reg ?_
  refine AO.calm rfl 15 rfl (by decide) (.ptr n3 0) (Calm.move rfl rfl) ?_
  obtain ⟨t10, et10, h⟩ := of_bind h
  refine AO.callH [(.ptr n3 0), (eStr (ByteArray.mk #[97]))] [(n3, (.mem (.st [(1, (.own n8 0 t6.2.2.f0.length)), (1, (.mp n9))]))), (n8, (.mem (.ar 1 (t6.2.2.f0.map eStr)))), (n9, (.map (encM Value.string eI64 t6.2.2.f1)))] _ rfl rfl rfl 16 rfl (by decide) ok27 ⟨rfl, rfl, rfl, rfl, trivial⟩ (Sub.cons 0 rfl (Sub.cons 0 rfl (Sub.cons 0 rfl (Sub.refl _)))) (symbols_Table_Add_spec et10) ?_
  rintro _ _ ⟨n12, n13, rfl, hs11⟩
  refine AO.weak (ρ' := [(1, (.ptr n3 0)), (2, (eI64 t6.1)), (3, (eI64 t6.2.1)), (15, (.ptr n3 0)), (16, (.tup [(eI64 t10.1), (eI64 t10.2.1)]))]) (H' := [(n3, (.mem (.st [(1, (.own n12 0 t10.2.2.f0.length)), (1, (.mp n13))]))), (n12, (.mem (.ar 1 (t10.2.2.f0.map eStr)))), (n13, (.map (encM Value.string eI64 t10.2.2.f1)))]) ⟨rfl, rfl, rfl, rfl, rfl, trivial⟩ hs11 ?_
  refine AO.calm rfl 14 rfl (by decide) (.tup [(eI64 t10.1), (eI64 t10.2.1)]) (Calm.move rfl rfl) ?_
  refine AO.calm rfl 17 rfl (by decide) (eI64 t10.1) (Calm.extract rfl rfl rfl) ?_
  refine AO.calm rfl 18 rfl (by decide) (eI64 t10.2.1) (Calm.extract rfl rfl rfl) ?_
  refine AO.calm rfl 4 rfl (by decide) (eI64 t10.1) (Calm.assign rfl rfl) ?_
  refine AO.calm rfl 5 rfl (by decide) (eI64 t10.2.1) (Calm.assign rfl rfl) ?_
  refine AO.nil (ρ' := [(2, (eI64 t6.1)), (3, (eI64 t6.2.1)), (4, (eI64 t10.1)), (5, (eI64 t10.2.1))]) (H' := []) ⟨rfl, rfl, rfl, rfl, trivial⟩ (Sub.nil _) ?_
  refine AW.seq ?_
  obtain ⟨b14, hq15, h⟩ := of_bind h
  refine AW.regM [(0, (eBool b14))] [] ?_ ?_
  · refine AO.calm rfl 19 rfl (by decide) (eI64 t6.1) (Calm.move rfl rfl) ?_
    refine AO.calm rfl 20 rfl (by decide) (eBool (decide (t6.1 = (0 : Int)))) (Calm.int rfl rfl rfl rfl) ?_
    refine AO.calm rfl 21 rfl (by decide) (eBool (decide (t6.1 = (0 : Int)))) (Calm.move rfl rfl) ?_
    by_cases hc16 : t6.1 = (0 : Int)
    · have hq15 := (if_pos hc16).symm.trans hq15
      refine AO.calmG 2 true 21 rfl rfl (congrArg (fun b => some (AV.fl (Value.bool b))) (decide_eq_true hc16)) 22 rfl (by decide) (eI64 t10.1) (Calm.move rfl rfl) ?_
      refine AO.calmG 2 true 21 rfl rfl (congrArg (fun b => some (AV.fl (Value.bool b))) (decide_eq_true hc16)) 23 rfl (by decide) (eBool (decide (t10.1 = (0 : Int)))) (Calm.int rfl rfl rfl rfl) ?_
      refine AO.calm rfl 24 rfl (by decide) (eBool (decide (t10.1 = (0 : Int)))) (Calm.pickT rfl (congrArg (fun b => some (AV.fl (Value.bool b))) (decide_eq_true hc16)) rfl) ?_
      refine AO.calm rfl 25 rfl (by decide) (eBool (decide (t10.1 = (0 : Int)))) (Calm.move rfl rfl) ?_
      by_cases hc17 : t10.1 = (0 : Int)
      · have hq15 := (if_pos hc17).symm.trans hq15
        refine AO.calmG 6 true 25 rfl rfl (congrArg (fun b => some (AV.fl (Value.bool b))) (decide_eq_true hc17)) 26 rfl (by decide) (eI64 t6.2.1) (Calm.move rfl rfl) ?_
        refine AO.calmG 6 true 25 rfl rfl (congrArg (fun b => some (AV.fl (Value.bool b))) (decide_eq_true hc17)) 27 rfl (by decide) (eBool (decide (t6.2.1 = (0 : Int)))) (Calm.int rfl rfl rfl rfl) ?_
        refine AO.calm rfl 28 rfl (by decide) (eBool (decide (t6.2.1 = (0 : Int)))) (Calm.pickT rfl (congrArg (fun b => some (AV.fl (Value.bool b))) (decide_eq_true hc17)) rfl) ?_
        refine AO.calm rfl 29 rfl (by decide) (eBool (decide (t6.2.1 = (0 : Int)))) (Calm.move rfl rfl) ?_
        by_cases hc18 : t6.2.1 = (0 : Int)
        · have hq15 := (if_pos hc18).symm.trans hq15
          refine AO.calmG 10 true 29 rfl rfl (congrArg (fun b => some (AV.fl (Value.bool b))) (decide_eq_true hc18)) 30 rfl (by decide) (eI64 t10.2.1) (Calm.move rfl rfl) ?_
          refine AO.calmG 10 true 29 rfl rfl (congrArg (fun b => some (AV.fl (Value.bool b))) (decide_eq_true hc18)) 31 rfl (by decide) (eBool (decide (t10.2.1 = (9 : Int)))) (Calm.int rfl rfl rfl rfl) ?_
          refine AO.calm rfl 32 rfl (by decide) (eBool (decide (t10.2.1 = (9 : Int)))) (Calm.pickT rfl (congrArg (fun b => some (AV.fl (Value.bool b))) (decide_eq_true hc18)) rfl) ?_
          refine AO.calm rfl 0 rfl (by decide) (eBool (decide (t10.2.1 = (9 : Int)))) (Calm.assign rfl rfl) ?_
          cases hq15
          refine AO.nilE ⟨rfl, rfl⟩ ?_ ?_
          · exact ⟨rfl, trivial⟩
          · exact (Sub.refl _)
        · have hq15 := (if_neg hc18).symm.trans hq15
          refine AO.skipG 10 false 29 rfl rfl (congrArg (fun b => some (AV.fl (Value.bool b))) (decide_eq_false hc18)) 30 rfl (by decide) ?_
          refine AO.skipG 10 false 29 rfl rfl (congrArg (fun b => some (AV.fl (Value.bool b))) (decide_eq_false hc18)) 31 rfl (by decide) ?_
          refine AO.calm rfl 32 rfl (by decide) (eBool false) (Calm.pickF rfl (congrArg (fun b => some (AV.fl (Value.bool b))) (decide_eq_false hc18)) rfl) ?_
          refine AO.calm rfl 0 rfl (by decide) (eBool false) (Calm.assign rfl rfl) ?_
          cases hq15
          refine AO.nilE ⟨rfl, rfl⟩ ?_ ?_
          · exact ⟨rfl, trivial⟩
          · exact (Sub.refl _)
      · have hq15 := (if_neg hc17).symm.trans hq15
        refine AO.skipG 6 false 25 rfl rfl (congrArg (fun b => some (AV.fl (Value.bool b))) (decide_eq_false hc17)) 26 rfl (by decide) ?_
        refine AO.skipG 6 false 25 rfl rfl (congrArg (fun b => some (AV.fl (Value.bool b))) (decide_eq_false hc17)) 27 rfl (by decide) ?_
        refine AO.calm rfl 28 rfl (by decide) (eBool false) (Calm.pickF rfl (congrArg (fun b => some (AV.fl (Value.bool b))) (decide_eq_false hc17)) rfl) ?_
        refine AO.calm rfl 29 rfl (by decide) (eBool false) (Calm.move rfl rfl) ?_
        refine AO.skipG 10 false 29 rfl rfl rfl 30 rfl (by decide) ?_
        refine AO.skipG 10 false 29 rfl rfl rfl 31 rfl (by decide) ?_
        refine AO.calm rfl 32 rfl (by decide) (eBool false) (Calm.pickF rfl rfl rfl) ?_
        refine AO.calm rfl 0 rfl (by decide) (eBool false) (Calm.assign rfl rfl) ?_
        cases hq15
        refine AO.nilE ⟨rfl, rfl⟩ ?_ ?_
        · exact ⟨rfl, trivial⟩
        · exact (Sub.refl _)
    · have hq15 := (if_neg hc16).symm.trans hq15
      refine AO.skipG 2 false 21 rfl rfl (congrArg (fun b => some (AV.fl (Value.bool b))) (decide_eq_false hc16)) 22 rfl (by decide) ?_
      refine AO.skipG 2 false 21 rfl rfl (congrArg (fun b => some (AV.fl (Value.bool b))) (decide_eq_false hc16)) 23 rfl (by decide) ?_
      refine AO.calm rfl 24 rfl (by decide) (eBool false) (Calm.pickF rfl (congrArg (fun b => some (AV.fl (Value.bool b))) (decide_eq_false hc16)) rfl) ?_
      refine AO.calm rfl 25 rfl (by decide) (eBool false) (Calm.move rfl rfl) ?_
      refine AO.skipG 6 false 25 rfl rfl rfl 26 rfl (by decide) ?_
      refine AO.skipG 6 false 25 rfl rfl rfl 27 rfl (by decide) ?_
      refine AO.calm rfl 28 rfl (by decide) (eBool false) (Calm.pickF rfl rfl rfl) ?_
      refine AO.calm rfl 29 rfl (by decide) (eBool false) (Calm.move rfl rfl) ?_
      refine AO.skipG 10 false 29 rfl rfl rfl 30 rfl (by decide) ?_
      refine AO.skipG 10 false 29 rfl rfl rfl 31 rfl (by decide) ?_
      refine AO.calm rfl 32 rfl (by decide) (eBool false) (Calm.pickF rfl rfl rfl) ?_
      refine AO.calm rfl 0 rfl (by decide) (eBool false) (Calm.assign rfl rfl) ?_
      cases hq15
      refine AO.nilE ⟨rfl, rfl⟩ ?_ ?_
      · exact ⟨rfl, trivial⟩
      · exact (Sub.refl _)
  · refine AW.ret (ρ' := [(0, (eBool b14))]) (H' := []) ⟨rfl, trivial⟩ (Sub.refl _) ?_
    have hr := Option.some.inj h
    subst hr
    exact ⟨[(eBool b14)], ⟨rfl, rfl, trivial⟩, rfl⟩
end Go.Avl.T4
/- bosket/bosketlaw16.few; printed by avmain.py. -/
namespace Go.Avl.T4
open Go Go.RowKit Go.Proofs Go.Avl
set_option linter.unusedVariables false
set_option maxRecDepth 100000
set_option maxHeartbeats 4000000
attribute [local irreducible] AW AO AQ Spec SpecH Calm

def bosketlaw16_few_c0 (k : Nat) : Option Bool :=
  some (true)
def bosketlaw16_few_l1 (k : Nat) (p0 : (List ByteArray)) : Nat → Int → Option Bool
  | 0, _ => none
  | j + 1, x3 =>
    if x3 < (p0.length : Int) then if 0 ≤ x3 ∧ x3 < (p0.length : Int) then if (100 : Int) < ((lget p0 x3).size : Int) then some (false)
    else (bosketlaw16_few_l1 k p0 j) (w64 (x3 + (1 : Int)))
    else none
    else bosketlaw16_few_c0 k
def bosketlaw16_few (k : Nat) (p0 : (List ByteArray)) : Option Bool :=
  if (400 : Int) < (p0.length : Int) then some (false)
  else bosketlaw16_few_l1 k p0 k (0 : Int)
theorem bosketlaw16_few_spec {k : Nat} {p0 : (List ByteArray)} {r : Bool} (h : bosketlaw16_few k p0 = some r) : Spec Try.prog 21 [(.fz 1 (p0.map eStr))] (eBool r) := by
  rw [bosketlaw16_few.eq_1] at h
  refine Spec.intro (res := [.tmp 2]) Try.func21 rfl rfl rfl (Nat.le_of_ble_eq_true rfl) ?_
  refine AW.seq ?_
  refine AW.reg ?_
  refine AO.calm rfl 2 rfl (by decide) (eBool false) (Calm.assign rfl rfl) ?_
  refine AO.nil (ρ' := [(0, (.fz 1 (p0.map eStr)))]) (H' := []) ⟨rfl, trivial⟩ (Sub.refl _) ?_
  refine AW.seq ?_
  refine AW.seq ?_
  refine AW.reg ?_
  refine AO.calm rfl 4 rfl (by decide) (.fz 1 (p0.map eStr)) (Calm.move rfl rfl) ?_
  refine AO.calm rfl 5 rfl (by decide) (eI64 (p0.length : Int)) (Calm.lenL rfl rfl Try.underlying37) ?_
  refine AO.calm rfl 6 rfl (by decide) (eBool (decide ((400 : Int) < (p0.length : Int)))) (Calm.int rfl rfl rfl rfl) ?_
  refine AO.nil (ρ' := [(0, (.fz 1 (p0.map eStr))), (6, (eBool (decide ((400 : Int) < (p0.length : Int)))))]) (H' := []) ⟨rfl, rfl, trivial⟩ (Sub.refl _) ?_
  by_cases hc2 : (400 : Int) < (p0.length : Int)
  · have h := (if_pos hc2).symm.trans h
    refine AW.condP ((400 : Int) < (p0.length : Int)) rfl hc2 ?_
    refine AW.seq ?_
    refine AW.reg ?_
    refine AO.calm rfl 2 rfl (by decide) (eBool false) (Calm.assign rfl rfl) ?_
    refine AO.nil (ρ' := [(2, (eBool false))]) (H' := []) ⟨rfl, trivial⟩ (Sub.refl _) ?_
    refine AW.ret (ρ' := [(2, (eBool false))]) (H' := []) ⟨rfl, trivial⟩ (Sub.refl _) ?_
    have hr := Option.some.inj h
    subst hr
    exact ⟨[(eBool false)], ⟨rfl, rfl, trivial⟩, rfl⟩
  · have h := (if_neg hc2).symm.trans h
    refine AW.condN ((400 : Int) < (p0.length : Int)) rfl hc2 ?_
    refine AW.skip (ρ' := [(0, (.fz 1 (p0.map eStr)))]) (H' := []) ⟨rfl, trivial⟩ (Sub.refl _) ?_
    refine AW.seq_mid (fun ρ H => ρ = [] ∧ H = [] ∧ bosketlaw16_few_c0 k = some r) ?_ ?_
    · refine AW.seq ?_
      refine AW.reg ?_
      refine AO.calm rfl 3 rfl (by decide) (eI64 (0 : Int)) (Calm.assign rfl rfl) ?_
      refine AO.nil (ρ' := [(0, (.fz 1 (p0.map eStr))), (3, (eI64 (0 : Int)))]) (H' := []) ⟨rfl, rfl, trivial⟩ (Sub.refl _) ?_
      refine AW.block ?_
      refine AW.weak (ρ' := [(0, (.fz 1 (p0.map eStr))), (3, (eI64 (0 : Int)))]) (H' := []) ⟨rfl, rfl, trivial⟩ (Sub.refl _) ?_
      refine AW.loop (fun kq ρ H => ∃ (x3 : Int), ρ = [(0, (.fz 1 (p0.map eStr))), (3, (eI64 x3))] ∧ H = [] ∧ bosketlaw16_few_l1 k p0 kq x3 = some r) k ⟨(0 : Int), rfl, rfl, h⟩ ?_
      rintro kq5 _ _ ⟨x3, rfl, rfl, h⟩
      cases kq5 with
      | zero => rw [bosketlaw16_few_l1.eq_1] at h; cases h
      | succ kq5 =>
      rw [bosketlaw16_few_l1.eq_2] at h
      generalize hrec4 : bosketlaw16_few_l1 k p0 kq5 = rec4 at h
      refine AW.seq ?_
      refine AW.seq ?_
      refine AW.reg ?_
      refine AO.calm rfl 7 rfl (by decide) (eI64 x3) (Calm.move rfl rfl) ?_
      refine AO.calm rfl 8 rfl (by decide) (.fz 1 (p0.map eStr)) (Calm.move rfl rfl) ?_
      refine AO.calm rfl 9 rfl (by decide) (eI64 (p0.length : Int)) (Calm.lenL rfl rfl Try.underlying37) ?_
      refine AO.calm rfl 10 rfl (by decide) (eBool (decide (x3 < (p0.length : Int)))) (Calm.int rfl rfl rfl rfl) ?_
      refine AO.nil (ρ' := [(0, (.fz 1 (p0.map eStr))), (3, (eI64 x3)), (10, (eBool (decide (x3 < (p0.length : Int)))))]) (H' := []) ⟨rfl, rfl, rfl, trivial⟩ (Sub.refl _) ?_
      by_cases hc6 : x3 < (p0.length : Int)
      · have h := (if_pos hc6).symm.trans h
        refine AW.condP (x3 < (p0.length : Int)) rfl hc6 ?_
        refine AW.skip (ρ' := [(0, (.fz 1 (p0.map eStr))), (3, (eI64 x3))]) (H' := []) ⟨rfl, rfl, trivial⟩ (Sub.refl _) ?_
        refine AW.seq ?_
        refine AW.block ?_
        refine AW.seq ?_
        refine AW.reg ?_
        refine AO.calm rfl 13 rfl (by decide) (.fz 1 (p0.map eStr)) (Calm.move rfl rfl) ?_
        refine AO.calm rfl 14 rfl (by decide) (eI64 x3) (Calm.move rfl rfl) ?_
        obtain ⟨hg7, h⟩ := of_guard h
        refine AO.calm rfl 15 rfl (by decide) (.rp (eStr (lget p0 x3))) (Calm.idxL (f := eStr) rfl rfl rfl hg7 Try.underlying37 sz9) ?_
        refine AO.calm rfl 16 rfl (by decide) (eStr (lget p0 x3)) (Calm.loadRp rfl rfl ag9 sz9) ?_
        refine AO.calm rfl 17 rfl (by decide) (eI64 ((lget p0 x3).size : Int)) (Calm.lenStr rfl rfl Try.underlying9) ?_
        refine AO.calm rfl 18 rfl (by decide) (eBool (decide ((100 : Int) < ((lget p0 x3).size : Int)))) (Calm.int rfl rfl rfl rfl) ?_
        refine AO.nil (ρ' := [(0, (.fz 1 (p0.map eStr))), (3, (eI64 x3)), (18, (eBool (decide ((100 : Int) < ((lget p0 x3).size : Int)))))]) (H' := []) ⟨rfl, rfl, rfl, trivial⟩ (Sub.refl _) ?_
        by_cases hc8 : (100 : Int) < ((lget p0 x3).size : Int)
        · have h := (if_pos hc8).symm.trans h
          refine AW.condP ((100 : Int) < ((lget p0 x3).size : Int)) rfl hc8 ?_
          refine AW.seq ?_
          refine AW.reg ?_
          refine AO.calm rfl 2 rfl (by decide) (eBool false) (Calm.assign rfl rfl) ?_
          refine AO.nil (ρ' := [(2, (eBool false))]) (H' := []) ⟨rfl, trivial⟩ (Sub.refl _) ?_
          refine AW.ret (ρ' := [(2, (eBool false))]) (H' := []) ⟨rfl, trivial⟩ (Sub.refl _) ?_
          have hr := Option.some.inj h
          subst hr
          exact ⟨[(eBool false)], ⟨rfl, rfl, trivial⟩, rfl⟩
        · have h := (if_neg hc8).symm.trans h
          refine AW.condN ((100 : Int) < ((lget p0 x3).size : Int)) rfl hc8 ?_
          refine AW.skip (ρ' := [(0, (.fz 1 (p0.map eStr))), (3, (eI64 x3))]) (H' := []) ⟨rfl, rfl, trivial⟩ (Sub.refl _) ?_
          refine AW.reg ?_
          refine AO.calm rfl 11 rfl (by decide) (eI64 x3) (Calm.move rfl rfl) ?_
          refine AO.calm rfl 12 rfl (by decide) (eI64 (w64 (x3 + (1 : Int)))) (Calm.int rfl rfl rfl rfl) ?_
          refine AO.calm rfl 3 rfl (by decide) (eI64 (w64 (x3 + (1 : Int)))) (Calm.assign rfl rfl) ?_
          refine AO.nil (ρ' := [(0, (.fz 1 (p0.map eStr))), (3, (eI64 (w64 (x3 + (1 : Int)))))]) (H' := []) ⟨rfl, rfl, trivial⟩ (Sub.refl _) ?_
          exact ⟨kq5, Nat.lt_succ_self _, (w64 (x3 + (1 : Int))), rfl, rfl, by rw [hrec4]; exact h⟩
      · have h := (if_neg hc6).symm.trans h
        refine AW.condN (x3 < (p0.length : Int)) rfl hc6 ?_
        refine AW.exit (ρ' := []) (H' := []) trivial (Sub.refl _) ?_
        exact ⟨rfl, rfl, h⟩
    · rintro _ _ ⟨rfl, rfl, h⟩
      rw [bosketlaw16_few_c0.eq_1] at h
      refine AW.seq ?_
      refine AW.reg ?_
      refine AO.calm rfl 2 rfl (by decide) (eBool true) (Calm.assign rfl rfl) ?_
      refine AO.nil (ρ' := [(2, (eBool true))]) (H' := []) ⟨rfl, trivial⟩ (Sub.refl _) ?_
      refine AW.ret (ρ' := [(2, (eBool true))]) (H' := []) ⟨rfl, trivial⟩ (Sub.refl _) ?_
      have hr := Option.some.inj h
      subst hr
      exact ⟨[(eBool true)], ⟨rfl, rfl, trivial⟩, rfl⟩
end Go.Avl.T4
