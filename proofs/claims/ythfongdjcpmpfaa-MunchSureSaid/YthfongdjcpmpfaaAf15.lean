/- bosket/munch.Longest; printed by avmain.py. -/
import Derived.Test.YthfongdjcpmpfaaAB
import Derived.Test.YthfongdjcpmpfaaAf55
import Derived.Test.YthfongdjcpmpfaaAf56
namespace Go.Avl.T1
open Go Go.RowKit Go.Proofs Go.Avl
set_option linter.unusedVariables false
set_option maxRecDepth 100000
set_option maxHeartbeats 4000000
attribute [local irreducible] AW AO AQ Spec SpecH Calm

def munch_Longest_c0 (k : Nat) (x5 : Int) (x6 : Int) : Option (Int × Int) :=
  some (x5, x6)
def munch_Longest_c1 (k : Nat) (rec11 : (Int → Int → Int → Int → Option (Int × Int))) (x10 : Int) (x17 : Int) (x18 : Int) (x19 : Int) : Option (Int × Int) :=
  rec11 x17 x18 x19 (w64 (x10 + (1 : Int)))
def munch_Longest_l2 (k : Nat) (p0 : S26) (p1 : ByteArray) (p2 : Int) : Nat → Int → Int → Int → Int → Option (Int × Int)
  | 0, _, _, _, _ => none
  | j + 1, x7, x8, x9, x10 =>
    Option.bind (α := Bool) (if (0 : Int) ≤ x10 then some (decide (x10 < (p1.size : Int)))
    else some (false)) fun b13 =>
    if b13 = true then if 0 ≤ x10 ∧ x10 < (p1.size : Int) then (dfa_Step k p0 x9 (byteAt p1 x10)).bind fun t21 =>
    if t21 = (-1 : Int) then munch_Longest_c0 k x7 x8
    else (dfa_Mark k p0 t21).bind fun t23 =>
    if (0 : Int) ≤ t23 then munch_Longest_c1 k (munch_Longest_l2 k p0 p1 p2 j) x10 t23 (w64 ((w64 (x10 + (1 : Int))) - p2)) t21
    else munch_Longest_c1 k (munch_Longest_l2 k p0 p1 p2 j) x10 x7 x8 t21
    else none
    else munch_Longest_c0 k x7 x8
def munch_Longest (k : Nat) (p0 : S26) (p1 : ByteArray) (p2 : Int) : Option (Int × Int) :=
  munch_Longest_l2 k p0 p1 p2 k (-1 : Int) (0 : Int) (0 : Int) p2
theorem munch_Longest_spec {k : Nat} {p0 : S26} {p1 : ByteArray} {p2 : Int} {r : (Int × Int)} (h : munch_Longest k p0 p1 p2 = some r) : Spec Try.prog 15 [(e26 p0), (eStr p1), (eI64 p2)] (.tup [(eI64 r.1), (eI64 r.2)]) := by
  rw [munch_Longest.eq_1] at h
  refine Spec.intro (res := [.tmp 6, .tmp 7]) Try.func15 rfl rfl rfl (Nat.le_of_ble_eq_true rfl) ?_
  refine AW.seq ?_
  refine AW.reg ?_
  refine AO.box rfl 3 rfl (by decide) rfl rfl rfl fun n4 => ?_
  refine AO.calm rfl 6 rfl (by decide) (eI64 (0 : Int)) (Calm.assign rfl rfl) ?_
  refine AO.calm rfl 7 rfl (by decide) (eI64 (0 : Int)) (Calm.assign rfl rfl) ?_
  refine AO.nil (ρ' := [(1, (eStr p1)), (2, (eI64 p2)), (3, (.ptr n4 0))]) (H' := [(n4, .mem (e26 p0))]) ⟨rfl, rfl, rfl, trivial⟩ (Sub.refl _) ?_
  refine AW.seq ?_
  refine AW.reg ?_
  refine AO.calm rfl 8 rfl (by decide) (eI64 (-1 : Int)) (Calm.assign rfl rfl) ?_
  refine AO.calm rfl 9 rfl (by decide) (eI64 (0 : Int)) (Calm.assign rfl rfl) ?_
  refine AO.nil (ρ' := [(1, (eStr p1)), (2, (eI64 p2)), (3, (.ptr n4 0)), (8, (eI64 (-1 : Int))), (9, (eI64 (0 : Int)))]) (H' := [(n4, .mem (e26 p0))]) ⟨rfl, rfl, rfl, rfl, rfl, trivial⟩ (Sub.refl _) ?_
  refine AW.seq ?_
  refine AW.reg ?_
  refine AO.calm rfl 10 rfl (by decide) (eI64 (0 : Int)) (Calm.assign rfl rfl) ?_
  refine AO.nil (ρ' := [(1, (eStr p1)), (2, (eI64 p2)), (3, (.ptr n4 0)), (8, (eI64 (-1 : Int))), (9, (eI64 (0 : Int))), (10, (eI64 (0 : Int)))]) (H' := [(n4, .mem (e26 p0))]) ⟨rfl, rfl, rfl, rfl, rfl, rfl, trivial⟩ (Sub.refl _) ?_
  refine AW.seq_mid (fun ρ H => ∃ (x5 : Int) (x6 : Int), ρ = [(8, (eI64 x5)), (9, (eI64 x6))] ∧ H = [] ∧ munch_Longest_c0 k x5 x6 = some r) ?_ ?_
  · refine AW.seq ?_
    refine AW.reg ?_
    refine AO.calm rfl 13 rfl (by decide) (eI64 p2) (Calm.move rfl rfl) ?_
    refine AO.calm rfl 11 rfl (by decide) (eI64 p2) (Calm.assign rfl rfl) ?_
    refine AO.nil (ρ' := [(1, (eStr p1)), (2, (eI64 p2)), (3, (.ptr n4 0)), (8, (eI64 (-1 : Int))), (9, (eI64 (0 : Int))), (10, (eI64 (0 : Int))), (11, (eI64 p2))]) (H' := [(n4, .mem (e26 p0))]) ⟨rfl, rfl, rfl, rfl, rfl, rfl, rfl, trivial⟩ (Sub.refl _) ?_
    refine AW.block ?_
    refine AW.weak (ρ' := [(1, (eStr p1)), (2, (eI64 p2)), (3, (.ptr n4 0)), (8, (eI64 (-1 : Int))), (9, (eI64 (0 : Int))), (10, (eI64 (0 : Int))), (11, (eI64 p2))]) (H' := [(n4, .mem (e26 p0))]) ⟨rfl, rfl, rfl, rfl, rfl, rfl, rfl, trivial⟩ (Sub.refl _) ?_
    refine AW.loop (fun kq ρ H => ∃ (x7 : Int) (x8 : Int) (x9 : Int) (x10 : Int), ρ = [(1, (eStr p1)), (2, (eI64 p2)), (3, (.ptr n4 0)), (8, (eI64 x7)), (9, (eI64 x8)), (10, (eI64 x9)), (11, (eI64 x10))] ∧ H = [(n4, .mem (e26 p0))] ∧ munch_Longest_l2 k p0 p1 p2 kq x7 x8 x9 x10 = some r) k ⟨(-1 : Int), (0 : Int), (0 : Int), p2, rfl, rfl, h⟩ ?_
    rintro kq12 _ _ ⟨x7, x8, x9, x10, rfl, rfl, h⟩
    cases kq12 with
    | zero => rw [munch_Longest_l2.eq_1] at h; cases h
    | succ kq12 =>
    rw [munch_Longest_l2.eq_2] at h
    generalize hrec11 : munch_Longest_l2 k p0 p1 p2 kq12 = rec11 at h
    refine AW.seq ?_
    refine AW.seq ?_
    obtain ⟨b13, hq14, h⟩ := of_bind h
    refine AW.regM [(1, (eStr p1)), (2, (eI64 p2)), (3, (.ptr n4 0)), (8, (eI64 x7)), (9, (eI64 x8)), (10, (eI64 x9)), (11, (eI64 x10)), (21, (eBool b13))] [(n4, .mem (e26 p0))] ?_ ?_
    · refine AO.calm rfl 14 rfl (by decide) (eI64 x10) (Calm.move rfl rfl) ?_
      refine AO.calm rfl 15 rfl (by decide) (eBool (decide ((0 : Int) ≤ x10))) (Calm.int rfl rfl rfl rfl) ?_
      refine AO.calm rfl 16 rfl (by decide) (eBool (decide ((0 : Int) ≤ x10))) (Calm.move rfl rfl) ?_
      by_cases hc15 : (0 : Int) ≤ x10
      · have hq14 := (if_pos hc15).symm.trans hq14
        refine AO.calmG 2 true 16 rfl rfl (congrArg (fun b => some (AV.fl (Value.bool b))) (decide_eq_true hc15)) 17 rfl (by decide) (eI64 x10) (Calm.move rfl rfl) ?_
        refine AO.calmG 2 true 16 rfl rfl (congrArg (fun b => some (AV.fl (Value.bool b))) (decide_eq_true hc15)) 18 rfl (by decide) (eStr p1) (Calm.move rfl rfl) ?_
        refine AO.calmG 2 true 16 rfl rfl (congrArg (fun b => some (AV.fl (Value.bool b))) (decide_eq_true hc15)) 19 rfl (by decide) (eI64 (p1.size : Int)) (Calm.lenStr rfl rfl Try.underlying9) ?_
        refine AO.calmG 2 true 16 rfl rfl (congrArg (fun b => some (AV.fl (Value.bool b))) (decide_eq_true hc15)) 20 rfl (by decide) (eBool (decide (x10 < (p1.size : Int)))) (Calm.int rfl rfl rfl rfl) ?_
        refine AO.calm rfl 21 rfl (by decide) (eBool (decide (x10 < (p1.size : Int)))) (Calm.pickT rfl (congrArg (fun b => some (AV.fl (Value.bool b))) (decide_eq_true hc15)) rfl) ?_
        cases hq14
        refine AO.nilE ⟨rfl, rfl⟩ ?_ ?_
        · exact ⟨rfl, rfl, rfl, rfl, rfl, rfl, rfl, rfl, trivial⟩
        · exact (Sub.refl _)
      · have hq14 := (if_neg hc15).symm.trans hq14
        refine AO.skipG 2 false 16 rfl rfl (congrArg (fun b => some (AV.fl (Value.bool b))) (decide_eq_false hc15)) 17 rfl (by decide) ?_
        refine AO.skipG 2 false 16 rfl rfl (congrArg (fun b => some (AV.fl (Value.bool b))) (decide_eq_false hc15)) 18 rfl (by decide) ?_
        refine AO.skipG 2 false 16 rfl rfl (congrArg (fun b => some (AV.fl (Value.bool b))) (decide_eq_false hc15)) 19 rfl (by decide) ?_
        refine AO.skipG 2 false 16 rfl rfl (congrArg (fun b => some (AV.fl (Value.bool b))) (decide_eq_false hc15)) 20 rfl (by decide) ?_
        refine AO.calm rfl 21 rfl (by decide) (eBool false) (Calm.pickF rfl (congrArg (fun b => some (AV.fl (Value.bool b))) (decide_eq_false hc15)) rfl) ?_
        cases hq14
        refine AO.nilE ⟨rfl, rfl⟩ ?_ ?_
        · exact ⟨rfl, rfl, rfl, rfl, rfl, rfl, rfl, rfl, trivial⟩
        · exact (Sub.refl _)
    · by_cases hc16 : b13 = true
      · have h := (if_pos hc16).symm.trans h
        refine AW.condT' b13 rfl hc16 ?_
        refine AW.skip (ρ' := [(1, (eStr p1)), (2, (eI64 p2)), (3, (.ptr n4 0)), (8, (eI64 x7)), (9, (eI64 x8)), (10, (eI64 x9)), (11, (eI64 x10))]) (H' := [(n4, .mem (e26 p0))]) ⟨rfl, rfl, rfl, rfl, rfl, rfl, rfl, trivial⟩ (Sub.refl _) ?_
        refine AW.seq_mid (fun ρ H => ∃ (x17 : Int) (x18 : Int) (x19 : Int), ρ = [(1, (eStr p1)), (2, (eI64 p2)), (3, (.ptr n4 0)), (8, (eI64 x17)), (9, (eI64 x18)), (10, (eI64 x19)), (11, (eI64 x10))] ∧ H = [(n4, .mem (e26 p0))] ∧ munch_Longest_c1 k rec11 x10 x17 x18 x19 = some r) ?_ ?_
        · refine AW.block ?_
          refine AW.seq ?_
          refine AW.seq ?_
          refine AW.regQ (by rfl) (by decide +kernel) ?_
          refine AQ.calm rfl 24 rfl (by decide) (e26 p0) (Calm.load 0 rfl rfl rfl (At.cast At.here rfl) ag26 sz26) ?_
          refine AQ.calm rfl 25 rfl (by decide) (eI64 x9) (Calm.move rfl rfl) ?_
          refine AQ.calm rfl 26 rfl (by decide) (eStr p1) (Calm.move rfl rfl) ?_
          refine AQ.calm rfl 27 rfl (by decide) (eI64 x10) (Calm.move rfl rfl) ?_
          obtain ⟨hg20, h⟩ := of_guard h
          refine AQ.calm rfl 28 rfl (by decide) (eU8 (byteAt p1 x10)) (Calm.idxS rfl rfl rfl hg20 Try.underlying9) ?_
          obtain ⟨t21, et21, h⟩ := of_bind h
          refine AQ.calm rfl 29 rfl (by decide) (eI64 t21) (Calm.call (args := [(e26 p0), (eI64 x9), (eU8 (byteAt p1 x10))]) rfl rfl ok55 ⟨rfl, rfl, rfl, rfl, rfl, rfl, trivial⟩ rfl (dfa_Step_spec et21)) ?_
          refine AQ.calm rfl 10 rfl (by decide) (eI64 t21) (Calm.assign rfl rfl) ?_
          refine AQ.nil (ρ' := [(1, (eStr p1)), (2, (eI64 p2)), (3, (.ptr n4 0)), (8, (eI64 x7)), (9, (eI64 x8)), (10, (eI64 t21)), (11, (eI64 x10))]) ⟨rfl, rfl, rfl, rfl, rfl, rfl, rfl, trivial⟩ ?_
          refine AW.seq ?_
          refine AW.reg ?_
          refine AO.calm rfl 30 rfl (by decide) (eI64 t21) (Calm.move rfl rfl) ?_
          refine AO.calm rfl 31 rfl (by decide) (eBool (decide (t21 = (-1 : Int)))) (Calm.int rfl rfl rfl rfl) ?_
          refine AO.nil (ρ' := [(1, (eStr p1)), (2, (eI64 p2)), (3, (.ptr n4 0)), (8, (eI64 x7)), (9, (eI64 x8)), (10, (eI64 t21)), (11, (eI64 x10)), (31, (eBool (decide (t21 = (-1 : Int)))))]) (H' := [(n4, .mem (e26 p0))]) ⟨rfl, rfl, rfl, rfl, rfl, rfl, rfl, rfl, trivial⟩ (Sub.refl _) ?_
          by_cases hc22 : t21 = (-1 : Int)
          · have h := (if_pos hc22).symm.trans h
            refine AW.condP (t21 = (-1 : Int)) rfl hc22 ?_
            refine AW.exit (ρ' := [(8, (eI64 x7)), (9, (eI64 x8))]) (H' := []) ⟨rfl, rfl, trivial⟩ (Sub.nil _) ?_
            exact ⟨x7, x8, rfl, rfl, h⟩
          · have h := (if_neg hc22).symm.trans h
            refine AW.condN (t21 = (-1 : Int)) rfl hc22 ?_
            refine AW.skip (ρ' := [(1, (eStr p1)), (2, (eI64 p2)), (3, (.ptr n4 0)), (8, (eI64 x7)), (9, (eI64 x8)), (10, (eI64 t21)), (11, (eI64 x10))]) (H' := [(n4, .mem (e26 p0))]) ⟨rfl, rfl, rfl, rfl, rfl, rfl, rfl, trivial⟩ (Sub.refl _) ?_
            refine AW.seq ?_
            refine AW.reg ?_
            refine AO.calm rfl 32 rfl (by decide) (e26 p0) (Calm.load 0 rfl rfl rfl (At.cast At.here rfl) ag26 sz26) ?_
            refine AO.calm rfl 33 rfl (by decide) (eI64 t21) (Calm.move rfl rfl) ?_
            obtain ⟨t23, et23, h⟩ := of_bind h
            refine AO.callS [(e26 p0), (eI64 t21)] (eI64 t23) 34 rfl (by decide) ok56 rfl rfl rfl ⟨rfl, rfl, rfl, rfl, trivial⟩ (dfa_Mark_spec et23) ?_
            refine AO.calm rfl 12 rfl (by decide) (eI64 t23) (Calm.assign rfl rfl) ?_
            refine AO.nil (ρ' := [(1, (eStr p1)), (2, (eI64 p2)), (3, (.ptr n4 0)), (8, (eI64 x7)), (9, (eI64 x8)), (10, (eI64 t21)), (11, (eI64 x10)), (12, (eI64 t23))]) (H' := [(n4, .mem (e26 p0))]) ⟨rfl, rfl, rfl, rfl, rfl, rfl, rfl, rfl, trivial⟩ (Sub.refl _) ?_
            refine AW.seq ?_
            refine AW.reg ?_
            refine AO.calm rfl 35 rfl (by decide) (eI64 t23) (Calm.move rfl rfl) ?_
            refine AO.calm rfl 36 rfl (by decide) (eBool (decide ((0 : Int) ≤ t23))) (Calm.int rfl rfl rfl rfl) ?_
            refine AO.nil (ρ' := [(1, (eStr p1)), (2, (eI64 p2)), (3, (.ptr n4 0)), (8, (eI64 x7)), (9, (eI64 x8)), (10, (eI64 t21)), (11, (eI64 x10)), (12, (eI64 t23)), (36, (eBool (decide ((0 : Int) ≤ t23))))]) (H' := [(n4, .mem (e26 p0))]) ⟨rfl, rfl, rfl, rfl, rfl, rfl, rfl, rfl, rfl, trivial⟩ (Sub.refl _) ?_
            by_cases hc24 : (0 : Int) ≤ t23
            · have h := (if_pos hc24).symm.trans h
              refine AW.condP ((0 : Int) ≤ t23) rfl hc24 ?_
              refine AW.reg ?_
              refine AO.calm rfl 37 rfl (by decide) (eI64 t23) (Calm.move rfl rfl) ?_
              refine AO.calm rfl 38 rfl (by decide) (eI64 x10) (Calm.move rfl rfl) ?_
              refine AO.calm rfl 39 rfl (by decide) (eI64 (w64 (x10 + (1 : Int)))) (Calm.int rfl rfl rfl rfl) ?_
              refine AO.calm rfl 40 rfl (by decide) (eI64 p2) (Calm.move rfl rfl) ?_
              refine AO.calm rfl 41 rfl (by decide) (eI64 (w64 ((w64 (x10 + (1 : Int))) - p2))) (Calm.int rfl rfl rfl rfl) ?_
              refine AO.calm rfl 8 rfl (by decide) (eI64 t23) (Calm.assign rfl rfl) ?_
              refine AO.calm rfl 9 rfl (by decide) (eI64 (w64 ((w64 (x10 + (1 : Int))) - p2))) (Calm.assign rfl rfl) ?_
              refine AO.nil (ρ' := [(1, (eStr p1)), (2, (eI64 p2)), (3, (.ptr n4 0)), (8, (eI64 t23)), (9, (eI64 (w64 ((w64 (x10 + (1 : Int))) - p2)))), (10, (eI64 t21)), (11, (eI64 x10))]) (H' := [(n4, .mem (e26 p0))]) ⟨rfl, rfl, rfl, rfl, rfl, rfl, rfl, trivial⟩ (Sub.refl _) ?_
              exact ⟨t23, (w64 ((w64 (x10 + (1 : Int))) - p2)), t21, rfl, rfl, h⟩
            · have h := (if_neg hc24).symm.trans h
              refine AW.condN ((0 : Int) ≤ t23) rfl hc24 ?_
              refine AW.skip (ρ' := [(1, (eStr p1)), (2, (eI64 p2)), (3, (.ptr n4 0)), (8, (eI64 x7)), (9, (eI64 x8)), (10, (eI64 t21)), (11, (eI64 x10))]) (H' := [(n4, .mem (e26 p0))]) ⟨rfl, rfl, rfl, rfl, rfl, rfl, rfl, trivial⟩ (Sub.refl _) ?_
              exact ⟨x7, x8, t21, rfl, rfl, h⟩
        · rintro _ _ ⟨x17, x18, x19, rfl, rfl, h⟩
          rw [munch_Longest_c1.eq_1] at h
          refine AW.reg ?_
          refine AO.calm rfl 22 rfl (by decide) (eI64 x10) (Calm.move rfl rfl) ?_
          refine AO.calm rfl 23 rfl (by decide) (eI64 (w64 (x10 + (1 : Int)))) (Calm.int rfl rfl rfl rfl) ?_
          refine AO.calm rfl 11 rfl (by decide) (eI64 (w64 (x10 + (1 : Int)))) (Calm.assign rfl rfl) ?_
          refine AO.nil (ρ' := [(1, (eStr p1)), (2, (eI64 p2)), (3, (.ptr n4 0)), (8, (eI64 x17)), (9, (eI64 x18)), (10, (eI64 x19)), (11, (eI64 (w64 (x10 + (1 : Int)))))]) (H' := [(n4, .mem (e26 p0))]) ⟨rfl, rfl, rfl, rfl, rfl, rfl, rfl, trivial⟩ (Sub.refl _) ?_
          exact ⟨kq12, Nat.lt_succ_self _, x17, x18, x19, (w64 (x10 + (1 : Int))), rfl, rfl, by rw [hrec11]; exact h⟩
      · have h := (if_neg hc16).symm.trans h
        refine AW.condF' b13 rfl hc16 ?_
        refine AW.exit (ρ' := [(8, (eI64 x7)), (9, (eI64 x8))]) (H' := []) ⟨rfl, rfl, trivial⟩ (Sub.nil _) ?_
        exact ⟨x7, x8, rfl, rfl, h⟩
  · rintro _ _ ⟨x5, x6, rfl, rfl, h⟩
    rw [munch_Longest_c0.eq_1] at h
    refine AW.seq ?_
    refine AW.reg ?_
    refine AO.calm rfl 42 rfl (by decide) (eI64 x5) (Calm.move rfl rfl) ?_
    refine AO.calm rfl 43 rfl (by decide) (eI64 x6) (Calm.move rfl rfl) ?_
    refine AO.calm rfl 6 rfl (by decide) (eI64 x5) (Calm.assign rfl rfl) ?_
    refine AO.calm rfl 7 rfl (by decide) (eI64 x6) (Calm.assign rfl rfl) ?_
    refine AO.nil (ρ' := [(6, (eI64 x5)), (7, (eI64 x6))]) (H' := []) ⟨rfl, rfl, trivial⟩ (Sub.refl _) ?_
    refine AW.ret (ρ' := [(6, (eI64 x5)), (7, (eI64 x6))]) (H' := []) ⟨rfl, rfl, trivial⟩ (Sub.refl _) ?_
    have hr := Option.some.inj h
    subst hr
    exact ⟨[(eI64 x5), (eI64 x6)], ⟨rfl, rfl, rfl, rfl, trivial⟩, rfl⟩
end Go.Avl.T1
