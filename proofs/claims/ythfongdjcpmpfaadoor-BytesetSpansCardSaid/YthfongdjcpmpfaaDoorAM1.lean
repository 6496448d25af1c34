/- Parts: TDW, TDM1, TDM2, TDM3, TDPureBytesetSpans. -/
import Derived.Test.YthfongdjcpmpfaaDoorAF1
import Derived.Test.YthfongdjcpmpfaaDoorAv3
import Derived.Laws.Bits64b
/- Opening of the arguments; printed by avlaw.py. -/
namespace Go.Avl.TD
open Go Go.RowKit Go.Proofs Go.Avl
set_option linter.unusedVariables false
set_option maxRecDepth 100000
abbrev wf25 : Int → Prop := (fun n : Int => (Lit.int .u64 n).wf = true)
theorem op25 : Opens Tryd.prog 25 eU64 wf25 := opens_int Tryd.underlying25
abbrev wf27 : (Vector Int 4) → Prop := (fun l : Vector Int 4 => ∀ a ∈ l.toList, wf25 a)
theorem op27 : Opens Tryd.prog 27 e27 wf27 := opens_array Tryd.underlying27 sz25 sz27 op25
abbrev wf5 : Int → Prop := (fun n : Int => (Lit.int .u8 n).wf = true)
theorem op5 : Opens Tryd.prog 5 eU8 wf5 := opens_int Tryd.underlying5
end Go.Avl.TD
/- Sets of bytes: their bits. -/
namespace Go.Avl.TD
open Go Go.RowKit Go.Proofs Go.Avl
set_option linter.all false
set_option maxRecDepth 10000

def U (a : Vector Int 4) : Prop := ∀ j : Nat, j < 4 → 0 ≤ vget a (j : Int) ∧ vget a (j : Int) < 18446744073709551616
def wd (a : Vector Int 4) (j : Nat) : Nat := (vget a (j : Int)).toNat
/-- Is a byte in a set? -/
def tb (a : Vector Int 4) (b : Nat) : Bool := (wd a (b / 64)).testBit (b % 64)
theorem wd_eq {a : Vector Int 4} (h : U a) (j : Nat) (hj : j < 4) : vget a (j : Int) = (wd a j : Int) ∧ wd a j < 18446744073709551616 := by
  have := h j hj
  unfold wd; omega
theorem vget_vset (v : Vector Int 4) (i j : Nat) (x : Int) (hi : i < 4) (hj : j < 4) : vget (vset v (i : Int) x) (j : Int) = if j = i then x else vget v (j : Int) := by
  unfold vget vset
  rw [Int.toNat_natCast, Int.toNat_natCast, Vector.toList_setIfInBounds, List.getD, List.getD, List.getElem?_set]
  by_cases e : i = j
  · subst e; rw [if_pos rfl, if_pos rfl, if_pos (by simpa using hi)]; rfl
  · rw [if_neg e, if_neg (fun h => e h.symm)]
theorem vext {a c : Vector Int 4} (h : ∀ j : Nat, j < 4 → vget a (j : Int) = vget c (j : Int)) : a = c := by
  apply Vector.toList_inj.1
  apply List.ext_getElem
  · simp
  · intro j h1 h2
    have hj : j < 4 := by simpa using h1
    have := h j hj
    unfold vget at this
    rw [Int.toNat_natCast, List.getD, List.getD, List.getElem?_eq_getElem h1, List.getElem?_eq_getElem h2] at this
    simpa using this
theorem ext_tb {a c : Vector Int 4} (ha : U a) (hc : U c) (h : ∀ b, b < 256 → tb a b = tb c b) : a = c := by
  apply vext
  intro j hj
  obtain ⟨e1, l1⟩ := wd_eq ha j hj
  obtain ⟨e2, l2⟩ := wd_eq hc j hj
  rw [e1, e2]
  congr 1
  apply Nat.eq_of_testBit_eq
  intro i
  by_cases hi : i < 64
  · have := h (64 * j + i) (by omega)
    unfold tb at this
    rwa [show (64 * j + i) / 64 = j by omega, show (64 * j + i) % 64 = i by omega] at this
  · have hp : 18446744073709551616 ≤ 2 ^ i := Nat.le_trans (by decide : 18446744073709551616 ≤ 2 ^ 64) (Nat.pow_le_pow_right (by omega) (by omega))
    rw [Nat.testBit_lt_two_pow (by omega), Nat.testBit_lt_two_pow (by omega)]
theorem U_zero : U (Vector.replicate 4 (0 : Int)) := by
  intro j hj
  have : vget (Vector.replicate 4 (0 : Int)) (j : Int) = 0 := by
    have : j = 0 ∨ j = 1 ∨ j = 2 ∨ j = 3 := by omega
    rcases this with rfl | rfl | rfl | rfl <;> rfl
  rw [this]; omega
theorem tb_zero (b : Nat) (hb : b < 256) : tb (Vector.replicate 4 (0 : Int)) b = false := by
  have hj : b / 64 < 4 := by omega
  have : vget (Vector.replicate 4 (0 : Int)) ((b / 64 : Nat) : Int) = 0 := by
    generalize b / 64 = j at hj
    have : j = 0 ∨ j = 1 ∨ j = 2 ∨ j = 3 := by omega
    rcases this with rfl | rfl | rfl | rfl <;> rfl
  unfold tb wd
  rw [this]; simp
theorem U_of {a : Vector Int 4} (h : wf27 a) : U a := by
  intro j hj
  have h1 : j < a.toList.length := by simpa using hj
  have h2 := h a.toList[j] (List.getElem_mem h1)
  have e : vget a (j : Int) = a.toList[j] := by
    unfold vget
    rw [Int.toNat_natCast, List.getD, List.getElem?_eq_getElem h1]; rfl
  rw [e]
  have h2' : (Lit.int .u64 a.toList[j]).wf = true := h2
  have : 0 ≤ a.toList[j] ∧ a.toList[j] ≤ 18446744073709551615 := by
    generalize a.toList[j] = z at h2'
    simpa [Lit.wf, show IntKind.u64.min = 0 from rfl, show IntKind.u64.max = 18446744073709551615 from rfl] using h2'
  omega
/-- One bit set in a word. -/
theorem or_bit {w : Nat} (hw : w < 18446744073709551616) {i : Nat} (hi : i < 64) : bits .or .u64 (w : Int) (IntKind.u64.wrap ((1 : Int) * 2 ^ (min i IntKind.u64.bits))) = ((w ||| 2 ^ i : Nat) : Int) ∧ w ||| 2 ^ i < 18446744073709551616 := by
  have hp : (2 : Nat) ^ i < 18446744073709551616 := Nat.lt_of_lt_of_le (Nat.pow_lt_pow_right (by omega) hi) (by decide : 2 ^ 64 ≤ 18446744073709551616)
  have e : IntKind.u64.wrap ((1 : Int) * 2 ^ (min i IntKind.u64.bits)) = ((2 ^ i : Nat) : Int) := by
    rw [show min i IntKind.u64.bits = i by show min i 64 = i; omega]
    have := u64_eq (1 * 2 ^ i)
    unfold u64 at this
    rw [this]
    have e3 : ((1 : Int) * 2 ^ i) = ((2 ^ i : Nat) : Int) := by simp
    rw [e3]
    generalize 2 ^ i = q at hp ⊢
    omega
  rw [e, bits_or_u64_nat w (2 ^ i) hw hp]
  exact ⟨rfl, Nat.or_lt_two_pow (n := 64) hw hp⟩
/-- A byte put into a set. -/
theorem put_bit {a : Vector Int 4} (h : U a) {b : Nat} (hb : b < 256) : ∀ c, c = vset a ((b / 64 : Nat) : Int) (bits .or .u64 (vget a ((b / 64 : Nat) : Int)) (IntKind.u64.wrap ((1 : Int) * 2 ^ (min (b % 64) IntKind.u64.bits)))) → U c ∧ ∀ x, x < 256 → tb c x = (tb a x || decide (x = b)) := by
  rintro c rfl
  have hj : b / 64 < 4 := by omega
  obtain ⟨e, l⟩ := wd_eq h (b / 64) hj
  obtain ⟨o1, o2⟩ := or_bit l (i := b % 64) (by omega)
  rw [e, o1]
  constructor
  · intro j hj'
    rw [vget_vset _ _ _ _ hj hj']
    split
    · omega
    · exact h j hj'
  · intro x hx
    unfold tb wd
    rw [vget_vset _ _ _ _ hj (by omega)]
    by_cases q : x / 64 = b / 64
    · rw [if_pos q, Int.toNat_natCast, Nat.testBit_or, Nat.testBit_two_pow, q]
      congr 1
      rw [decide_eq_decide]; omega
    · rw [if_neg q]
      have : decide (x = b) = false := decide_eq_false (fun e => q (by rw [e]))
      rw [this, Bool.or_false]
end Go.Avl.TD
/- Sets of bytes: made, joined; their bytes in order. -/
namespace Go.Avl.TD
open Go Go.RowKit Go.Proofs Go.Avl
set_option linter.all false
set_option maxRecDepth 10000

theorem or_l (p1 : Vector Int 4) (h1 : U p1) : ∀ (m i fuel : Nat) (a : Vector Int 4), i + m = 4 → m < fuel → U a →
    ∃ c, byteset_Or_l1 2000 p1 fuel a i = some c ∧ U c ∧ ∀ j : Nat, j < 4 → wd c j = if i ≤ j then wd a j ||| wd p1 j else wd a j
  | 0, i, f + 1, a, h, _, ha => by
    rw [byteset_Or_l1.eq_2, if_neg (by omega), byteset_Or_c0]
    exact ⟨a, rfl, ha, fun j hj => by rw [if_neg (by omega)]⟩
  | m + 1, i, f + 1, a, h, hf, ha => by
    have hi : i < 4 := by omega
    have g : 0 ≤ (i : Int) ∧ (i : Int) < 4 := ⟨by omega, by omega⟩
    obtain ⟨e1, l1⟩ := wd_eq ha i hi
    obtain ⟨e2, l2⟩ := wd_eq h1 i hi
    have ho : bits .or .u64 (vget a (i : Int)) (vget p1 (i : Int)) = ((wd a i ||| wd p1 i : Nat) : Int) := by rw [e1, e2, bits_or_u64_nat _ _ l1 l2]
    have hlt : wd a i ||| wd p1 i < 18446744073709551616 := Nat.or_lt_two_pow (n := 64) l1 l2
    have hU : U (vset a (i : Int) ((wd a i ||| wd p1 i : Nat) : Int)) := by
      intro j hj
      rw [vget_vset _ _ _ _ hi hj]
      split
      · omega
      · exact ha j hj
    obtain ⟨c, c1, c2, c3⟩ := or_l p1 h1 m (i + 1) f (vset a (i : Int) ((wd a i ||| wd p1 i : Nat) : Int)) (by omega) (by omega) hU
    rw [byteset_Or_l1.eq_2, if_pos g.2, if_pos g, if_pos g, if_pos g, ho, w64_id (by omega) (by omega)]
    refine ⟨c, by exact_mod_cast c1, c2, fun j hj => ?_⟩
    rw [c3 j hj]
    have hw : wd (vset a (i : Int) ((wd a i ||| wd p1 i : Nat) : Int)) j = if j = i then wd a i ||| wd p1 i else wd a j := by
      unfold wd
      rw [vget_vset _ _ _ _ hi hj]
      by_cases q : j = i
      · rw [if_pos q, if_pos q, Int.toNat_natCast]
      · rw [if_neg q, if_neg q]
    rw [hw]
    by_cases q : j = i
    · subst q; rw [if_neg (by omega), if_pos rfl, if_pos (by omega)]
    · rw [if_neg q]
      by_cases r : i + 1 ≤ j
      · rw [if_pos r, if_pos (by omega)]
      · rw [if_neg r, if_neg (by omega)]
theorem or_eq {a b : Vector Int 4} (ha : U a) (hb : U b) : ∃ c, byteset_Or 2000 a b = some c ∧ U c ∧ ∀ x, x < 256 → tb c x = (tb a x || tb b x) := by
  obtain ⟨c, c1, c2, c3⟩ := or_l b hb 4 0 2000 a (by omega) (by omega) ha
  refine ⟨c, c1, c2, fun x hx => ?_⟩
  unfold tb
  rw [c3 _ (by omega), if_pos (by omega), Nat.testBit_or]
theorem range_l (t : Nat) (ht : t < 256) : ∀ (m i fuel : Nat) (a : Vector Int 4), t + 1 - i = m → m < fuel → i ≤ 256 → U a →
    ∃ c, byteset_Range_l1 2000 (t : Int) fuel a i = some c ∧ U c ∧ ∀ x, x < 256 → tb c x = (tb a x || decide (i ≤ x ∧ x ≤ t))
  | 0, i, f + 1, a, h, _, hi, ha => by
    rw [byteset_Range_l1.eq_2, w64_id (n := (t : Int)) (by omega) (by omega), if_neg (by omega), byteset_Range_c0]
    exact ⟨a, rfl, ha, fun x hx => by rw [decide_eq_false (by omega), Bool.or_false]⟩
  | m + 1, i, f + 1, a, h, hf, hi, ha => by
    have hib : i < 256 := by omega
    have e1 : IntKind.i64.wrap ((i : Int).tdiv 64) = ((i / 64 : Nat) : Int) := by
      have h1 : (i : Int).tdiv 64 = ((i / 64 : Nat) : Int) := by rw [Int.tdiv_eq_ediv_of_nonneg (by omega)]; omega
      rw [h1]; have := w64_id (n := ((i / 64 : Nat) : Int)) (by omega) (by omega); exact this
    have e2 : u64 ((i : Int).tmod 64) = ((i % 64 : Nat) : Int) := by
      have h1 : (i : Int).tmod 64 = ((i % 64 : Nat) : Int) := by rw [Int.tmod_eq_emod_of_nonneg (by omega)]; omega
      rw [h1, u64_eq]; omega
    have g : 0 ≤ ((i / 64 : Nat) : Int) ∧ ((i / 64 : Nat) : Int) < 4 := ⟨by omega, by omega⟩
    obtain ⟨p1, p2⟩ := put_bit ha hib _ rfl
    obtain ⟨c, c1, c2, c3⟩ := range_l t ht m (i + 1) f _ (by omega) (by omega) (by omega) p1
    rw [byteset_Range_l1.eq_2, w64_id (n := (t : Int)) (by omega) (by omega), if_pos (by omega), e1, e2, if_pos g, if_pos (by omega), if_pos g, Int.toNat_natCast, w64_id (by omega) (by omega)]
    refine ⟨c, by exact_mod_cast c1, c2, fun x hx => ?_⟩
    rw [c3 x hx, p2 x hx, Bool.or_assoc]
    congr 1
    rw [← Bool.decide_or, decide_eq_decide]; omega
theorem range_eq {f t : Nat} (hf : f < 256) (ht : t < 256) : ∃ c, byteset_Range 2000 (f : Int) (t : Int) = some c ∧ U c ∧ ∀ x, x < 256 → tb c x = decide (f ≤ x ∧ x ≤ t) := by
  obtain ⟨c, c1, c2, c3⟩ := range_l t ht (t + 1 - f) f 2000 _ rfl (by omega) (by omega) U_zero
  unfold byteset_Range
  rw [w64_id (by omega) (by omega)]
  exact ⟨c, c1, c2, fun x hx => by rw [c3 x hx, tb_zero x hx, Bool.false_or]⟩
/-! The lowest bit. -/
theorem low_split {w : Nat} (hw : 0 < w) : ∃ t m, w = 2 ^ t * (2 * m + 1) := by
  induction w using Nat.strongRecOn with
  | _ w ih =>
    by_cases h : w % 2 = 1
    · exact ⟨0, w / 2, by simp; omega⟩
    · obtain ⟨t, m, e⟩ := ih (w / 2) (by omega) (by omega)
      refine ⟨t + 1, m, ?_⟩
      rw [Nat.pow_succ, Nat.mul_comm (2 ^ t) 2, Nat.mul_assoc, ← e]; omega
theorem low_bits {w t m : Nat} (e : w = 2 ^ t * (2 * m + 1)) (j : Nat) : w.testBit j = (if j < t then false else if j = t then true else (2 * m).testBit (j - t)) ∧ (w - 1).testBit j = (if j < t then true else if j = t then false else (2 * m).testBit (j - t)) := by
  have hp : 0 < 2 ^ t := Nat.two_pow_pos t
  have e1 : w = 2 ^ t * (2 * m + 1) + 0 := e
  have e2 : w - 1 = 2 ^ t * (2 * m) + (2 ^ t - 1) := by
    rw [e, Nat.mul_add, Nat.mul_one]; omega
  have hodd : ∀ i, (2 * m + 1).testBit i = if i = 0 then true else (2 * m).testBit i := by
    intro i
    cases i with
    | zero => simp [Nat.testBit_zero]
    | succ i => rw [if_neg (by omega), Nat.testBit_succ, Nat.testBit_succ]; congr 1; omega
  have heven : (2 * m).testBit 0 = false := by simp [Nat.testBit_zero]
  constructor
  · rw [e1, Nat.testBit_two_pow_mul_add _ hp]
    by_cases h : j < t
    · rw [if_pos h, if_pos h]; simp
    · rw [if_neg h, if_neg h, hodd]
      by_cases q : j = t
      · rw [if_pos q, if_pos (by omega)]
      · rw [if_neg q, if_neg (by omega)]
  · rw [e2, Nat.testBit_two_pow_mul_add _ (by omega)]
    by_cases h : j < t
    · rw [if_pos h, if_pos h, Nat.testBit_two_pow_sub_one]; exact decide_eq_true h
    · rw [if_neg h, if_neg h]
      by_cases q : j = t
      · rw [if_pos q, show j - t = 0 by omega, heven]
      · rw [if_neg q]
theorem tab_ok : ∀ t : Nat, t < 64 → lget tab0 (((2 ^ t * 285870213051353865 % 18446744073709551616 / 288230376151711744 : Nat)) : Int) = (t : Int) ∧ 2 ^ t * 285870213051353865 % 18446744073709551616 / 288230376151711744 < 64 := by decide +kernel
theorem p58 : ((2 : Int) ^ (min (58 : Int).toNat IntKind.u64.bits)) = 288230376151711744 := by
  show (2 : Int) ^ 58 = 288230376151711744
  simp
theorem tz_div (q : Nat) : Int.fdiv (u64 ((q : Int) * 285870213051353865)) (2 ^ (min (58 : Int).toNat IntKind.u64.bits)) = ((q * 285870213051353865 % 18446744073709551616 / 288230376151711744 : Nat) : Int) := by
  rw [p58, u64_eq, Int.fdiv_eq_ediv_of_nonneg _ (by omega)]
  omega
theorem t_lt {w t m : Nat} (hw : w < 18446744073709551616) (e : w = 2 ^ t * (2 * m + 1)) : t < 64 := by
  have hle : 2 ^ t ≤ w := by rw [e]; exact Nat.le_mul_of_pos_right _ (by omega)
  by_cases h : t < 64
  · exact h
  · have h0 : 2 ^ 64 ≤ 2 ^ t := Nat.pow_le_pow_right (by omega) (by omega)
    have h2 : (18446744073709551616 : Nat) ≤ 2 ^ t := h0
    exact absurd (Nat.lt_of_le_of_lt (Nat.le_trans h2 hle) hw) (Nat.lt_irrefl _)
theorem and_neg {w t m : Nat} (hw : w < 18446744073709551616) (e : w = 2 ^ t * (2 * m + 1)) : w &&& (18446744073709551616 - w) = 2 ^ t := by
  have ht := t_lt hw e
  have hpos : 0 < w := by rw [e]; exact Nat.mul_pos (Nat.two_pow_pos t) (by omega)
  apply Nat.eq_of_testBit_eq
  intro j
  have hs : 18446744073709551616 - w = 2 ^ 64 - ((w - 1) + 1) := by
    rw [Nat.sub_add_cancel hpos]
  have hb := Nat.testBit_two_pow_sub_succ (n := 64) (x := w - 1) (by
    show w - 1 < 18446744073709551616
    omega) j
  obtain ⟨b1, b2⟩ := low_bits e j
  rw [Nat.testBit_and, hs, hb, b1, b2, Nat.testBit_two_pow]
  by_cases h : j < t
  · rw [if_pos h, if_pos h, Bool.false_and, decide_eq_false (by omega)]
  · rw [if_neg h, if_neg h]
    by_cases q : j = t
    · rw [if_pos q, if_pos q, decide_eq_true (show j < 64 by omega), decide_eq_true (show t = j by omega)]; rfl
    · rw [if_neg q, if_neg q, decide_eq_false (show ¬ t = j by omega)]
      cases (2 * m).testBit (j - t) <;> simp
theorem tz_eq {w t m : Nat} (hw : w < 18446744073709551616) (e : w = 2 ^ t * (2 * m + 1)) : t < 64 ∧ math_bits_TrailingZeros64 2000 (w : Int) = some (t : Int) ∧ bits .and .u64 (w : Int) (u64 ((w : Int) - 1)) = ((w &&& (w - 1) : Nat) : Int) := by
  have ht := t_lt hw e
  have hpos : 0 < w := by rw [e]; exact Nat.mul_pos (Nat.two_pow_pos t) (by omega)
  have hand := and_neg hw e
  clear e
  have hneg : IntKind.u64.wrap (0 - (w : Int)) = ((18446744073709551616 - w : Nat) : Int) := by
    have := u64_eq (0 - (w : Int))
    unfold u64 at this
    rw [this]; omega
  have hb := bits_and_u64_nat w (18446744073709551616 - w) hw (by omega)
  rw [hand] at hb
  have e4 : u64 ((w : Int) - 1) = ((w - 1 : Nat) : Int) := by rw [u64_eq]; omega
  have hb2 := bits_and_u64_nat w (w - 1) hw (by omega)
  refine ⟨ht, ?_, by rw [e4, hb2]⟩
  have e3 := tz_div (2 ^ t)
  obtain ⟨k1, k2⟩ := tab_ok t ht
  have hw0 : ¬ (w : Int) = 0 := by omega
  unfold math_bits_TrailingZeros64
  rw [if_neg hw0, hneg, hb, e3]
  generalize (2 ^ t * 285870213051353865 % 18446744073709551616 / 288230376151711744 : Nat) = z at k1 k2 ⊢
  rw [if_pos ⟨by omega, by omega⟩, k1, Option.bind_some, w64_id (by omega) (by omega)]
end Go.Avl.TD
/- Sets of bytes: all, rising; their spans. -/
namespace Go.Avl.TD
open Go Go.RowKit Go.Proofs Go.Avl
set_option linter.all false
set_option maxRecDepth 10000

/-- The bits of a word, from one on, that so many places hold. -/
def bl (w : Nat) (i m : Nat) : List Nat := (List.range' i m).filter w.testBit
theorem bl_low {w t m : Nat} (e : w = 2 ^ t * (2 * m + 1)) (ht : t < 64) : bl w 0 64 = t :: bl (w &&& (w - 1)) 0 64 := by
  have hb := fun j => low_bits e j
  have hand : ∀ j, (w &&& (w - 1)).testBit j = if j ≤ t then false else w.testBit j := by
    intro j
    obtain ⟨b1, b2⟩ := hb j
    rw [Nat.testBit_and, b1, b2]
    by_cases h : j < t
    · rw [if_pos h, if_pos h, if_pos (by omega)]; rfl
    · rw [if_neg h, if_neg h]
      by_cases q : j = t
      · rw [if_pos q, if_pos q, if_pos (by omega)]; rfl
      · rw [if_neg q, if_neg q, if_neg (by omega)]; simp
  have hsplit : List.range' 0 64 = List.range' 0 t ++ (t :: List.range' (t + 1) (63 - t)) := by
    have h1 : List.range' 0 64 = List.range' 0 t ++ List.range' (0 + 1 * t) (64 - t) := by rw [List.range'_append]; congr 1; omega
    rw [h1, show 64 - t = (63 - t) + 1 by omega, List.range'_succ]
    simp
  unfold bl
  rw [hsplit, List.filter_append, List.filter_append]
  have f1 : (List.range' 0 t).filter w.testBit = [] := by
    rw [List.filter_eq_nil_iff]
    intro j hj
    have := List.mem_range'_1.1 hj
    rw [(hb j).1, if_pos (by omega)]; simp
  have f2 : (List.range' 0 t).filter (w &&& (w - 1)).testBit = [] := by
    rw [List.filter_eq_nil_iff]
    intro j hj
    have := List.mem_range'_1.1 hj
    rw [hand j, if_pos (by omega)]; simp
  have t1 : w.testBit t = true := by rw [(hb t).1, if_neg (by omega), if_pos rfl]
  have t2 : (w &&& (w - 1)).testBit t = false := by rw [hand t, if_pos (Nat.le_refl _)]
  rw [f1, f2, List.nil_append, List.nil_append, List.filter_cons_of_pos t1, List.filter_cons_of_neg (by rw [t2]; simp)]
  congr 1
  apply List.filter_congr
  intro j hj
  have := List.mem_range'_1.1 hj
  rw [hand j, if_neg (by omega)]
theorem bl_zero : bl 0 0 64 = [] := by decide
/-- A set's bytes that lie in one word. -/
def wl (w i : Nat) : List Int := (bl w 0 64).map fun t => ((64 * i + t : Nat) : Int)
theorem list_l2 (rec8 : List Int → Int → Option (List Int)) (i : Nat) (hi : i < 4) : ∀ (n w fuel : Nat) (acc : List Int), (bl w 0 64).length = n → n < fuel → w < 18446744073709551616 → acc.length + n ≤ 100000 →
    byteset_List_l2 2000 rec8 (i : Int) fuel acc (w : Int) = byteset_List_c1 2000 rec8 (i : Int) (acc ++ wl w i)
  | n, w, 0, acc, _, h, _, _ => by omega
  | n, w, f + 1, acc, hn, hf, hw, ha => by
    rw [byteset_List_l2.eq_2]
    by_cases z : w = 0
    · subst z
      rw [if_neg (by simp)]
      unfold wl
      rw [bl_zero, List.map_nil, List.append_nil]
    · obtain ⟨t, m, e⟩ := low_split (Nat.pos_of_ne_zero z)
      obtain ⟨ht, k1, k2⟩ := tz_eq hw e
      have hl := bl_low e ht
      have hlt : w &&& (w - 1) < 18446744073709551616 := Nat.lt_of_le_of_lt Nat.and_le_left hw
      rw [hl, List.length_cons] at hn
      have e1 : w8 (w64 (w64 ((64 : Int) * (i : Int)) + (t : Int))) = ((64 * i + t : Nat) : Int) := by
        rw [w64_id (n := (64 : Int) * (i : Int)) (by omega) (by omega), w64_id (by omega) (by omega), w8_id (by omega) (by omega)]; omega
      rw [if_pos (by omega), k1, Option.bind_some, e1, k2, if_pos (by simp; omega)]
      rw [list_l2 rec8 i hi (n - 1) (w &&& (w - 1)) f (acc ++ [((64 * i + t : Nat) : Int)]) (by omega) (by omega) hlt (by simp; omega)]
      unfold wl
      rw [hl, List.map_cons, List.append_assoc]; rfl
theorem bl_len (w : Nat) : (bl w 0 64).length ≤ 64 := by
  unfold bl
  exact Nat.le_trans (List.length_filter_le _ _) (by simp)
theorem wl_len (w i : Nat) : (wl w i).length ≤ 64 := by unfold wl; rw [List.length_map]; exact bl_len w
def al (a : Vector Int 4) : Nat → Nat → List Int
  | _, 0 => []
  | i, m + 1 => wl (wd a i) i ++ al a (i + 1) m
theorem list_l3 {a : Vector Int 4} (ha : U a) : ∀ (m i fuel : Nat) (acc : List Int), i + m = 4 → m < fuel → acc.length + 64 * m ≤ 10000 → byteset_List_l3 2000 a fuel acc i = some (acc ++ al a i m)
  | 0, i, f + 1, acc, h, _, _ => by
    rw [byteset_List_l3.eq_2, if_neg (by omega), byteset_List_c0, al, List.append_nil]
  | m + 1, i, f + 1, acc, h, hf, hz => by
    have hi : i < 4 := by omega
    obtain ⟨e, l⟩ := wd_eq ha i hi
    have hwl := wl_len (wd a i) i
    rw [byteset_List_l3.eq_2, if_pos (by omega), if_pos ⟨by omega, by omega⟩, e, list_l2 _ i hi _ _ 2000 acc rfl (by have := bl_len (wd a i); omega) l (by have := bl_len (wd a i); omega)]
    unfold byteset_List_c1
    rw [w64_id (by omega) (by omega)]
    have ih := list_l3 ha m (i + 1) f (acc ++ wl (wd a i) i) (by omega) (by omega) (by simp; omega)
    rw [al, ← List.append_assoc]
    exact_mod_cast ih
/-- A set's bytes, rising. -/
def ll (a : Vector Int 4) : List Int := al a 0 4
theorem list_eq {a : Vector Int 4} (ha : U a) : byteset_List 2000 a = some (ll a) := list_l3 ha 4 0 2000 [] (by omega) (by omega) (by simp)
theorem al_mem (a : Vector Int 4) : ∀ (m i : Nat) (x : Int), x ∈ al a i m ↔ ∃ j t : Nat, i ≤ j ∧ j < i + m ∧ t < 64 ∧ x = ((64 * j + t : Nat) : Int) ∧ (wd a j).testBit t = true
  | 0, i, x => by simp [al]; intro j t; omega
  | m + 1, i, x => by
    rw [al, List.mem_append, al_mem a m (i + 1) x]
    constructor
    · rintro (h | ⟨j, t, h1, h2, h3⟩)
      · unfold wl bl at h
        obtain ⟨t, ht, rfl⟩ := List.mem_map.1 h
        obtain ⟨h1, h2⟩ := List.mem_filter.1 ht
        have := List.mem_range'_1.1 h1
        exact ⟨i, t, Nat.le_refl _, by omega, by omega, rfl, h2⟩
      · exact ⟨j, t, by omega, by omega, h3⟩
    · rintro ⟨j, t, h1, h2, h3, h4, h5⟩
      by_cases q : j = i
      · left
        subst q
        unfold wl bl
        exact List.mem_map.2 ⟨t, List.mem_filter.2 ⟨List.mem_range'_1.2 ⟨by omega, by omega⟩, h5⟩, h4.symm⟩
      · exact .inr ⟨j, t, by omega, by omega, h3, h4, h5⟩
theorem ll_mem (a : Vector Int 4) (b : Nat) (hb : b < 256) : (b : Int) ∈ ll a ↔ tb a b = true := by
  unfold ll tb
  rw [al_mem]
  constructor
  · rintro ⟨j, t, _, h2, h3, h4, h5⟩
    have e : b = 64 * j + t := by omega
    rw [e, show (64 * j + t) / 64 = j by omega, show (64 * j + t) % 64 = t by omega]; exact h5
  · intro h
    exact ⟨b / 64, b % 64, by omega, by omega, by omega, by omega, h⟩
theorem ll_lt (a : Vector Int 4) : ∀ x ∈ ll a, 0 ≤ x ∧ x < 256 := by
  intro x hx
  obtain ⟨j, t, _, h2, h3, h4, _⟩ := (al_mem a 4 0 x).1 hx
  omega
theorem wl_sorted (w i : Nat) : (wl w i).Pairwise (· < ·) := by
  unfold wl bl
  rw [List.pairwise_map]
  refine List.Pairwise.filter _ ?_
  have := List.pairwise_lt_range' (s := 0) (n := 64) (step := 1) (by omega)
  exact this.imp fun h => by omega
theorem al_sorted (a : Vector Int 4) : ∀ (m i : Nat), (al a i m).Pairwise (· < ·)
  | 0, _ => List.Pairwise.nil
  | m + 1, i => by
    rw [al, List.pairwise_append]
    refine ⟨wl_sorted _ _, al_sorted a m (i + 1), fun x hx y hy => ?_⟩
    obtain ⟨j, t, h1, _, _, h4, _⟩ := (al_mem a m (i + 1) y).1 hy
    unfold wl bl at hx
    obtain ⟨u, hu, rfl⟩ := List.mem_map.1 hx
    have := List.mem_range'_1.1 (List.mem_filter.1 hu).1
    omega
theorem ll_sorted (a : Vector Int 4) : (ll a).Pairwise (· < ·) := al_sorted a 4 0
theorem ll_len (a : Vector Int 4) : (ll a).length ≤ 256 := by
  unfold ll
  simp only [al, List.length_append, List.length_nil, Nat.zero_add, Nat.reduceAdd]
  have := wl_len (wd a 0) 0; have := wl_len (wd a 1) 1; have := wl_len (wd a 2) 2; have := wl_len (wd a 3) 3
  omega
end Go.Avl.TD
/- BytesetSpans: the plain law. -/
namespace Go.Avl.TD
open Go Go.RowKit Go.Proofs Go.Avl
set_option linter.all false
set_option maxRecDepth 10000

/-- Spans that rise and do not touch. -/
def Good (S : List S35) : Prop := (∀ s ∈ S, 0 ≤ s.f0 ∧ s.f0 ≤ s.f1 ∧ s.f1 < 256) ∧ S.Pairwise fun a b => a.f1 + 1 < b.f0
def Cov (S : List S35) (x : Int) : Prop := ∃ s ∈ S, s.f0 ≤ x ∧ x ≤ s.f1
theorem lget_last {α : Type} [Inhabited α] (T : List α) (s : α) : lget (T ++ [s]) (T.length : Int) = s := by
  unfold lget; simp [List.getD]
theorem lset_last {α : Type} (T : List α) (s s' : α) : lset (T ++ [s]) (T.length : Int) s' = T ++ [s'] := by
  unfold lset; simp
theorem spans_l (L : List Int) (hL : ∀ x ∈ L, 0 ≤ x ∧ x < 256) (hs : L.Pairwise (· < ·)) (hz : L.length ≤ 256) : ∀ (m i fuel : Nat) (S : List S35), i + m = L.length → m < fuel → Good S → (∀ x, Cov S x ↔ x ∈ L.take i) → S.length ≤ i → (∀ T s, S = T ++ [s] → s.f1 ∈ L.take i) →
    ∃ S', byteset_Spans_l2 2000 L fuel S i = some S' ∧ Good S' ∧ (∀ x, Cov S' x ↔ x ∈ L) ∧ S'.length ≤ 256
  | 0, i, f + 1, S, h, _, hg, hc, hl, _ => by
    rw [byteset_Spans_l2.eq_2, if_neg (by omega), byteset_Spans_c0]
    rw [List.take_of_length_le (by omega)] at hc
    exact ⟨S, rfl, hg, hc, by omega⟩
  | m + 1, i, f + 1, S, h, hf, hg, hc, hl, hlast => by
    have hi : i < L.length := by omega
    have g : 0 ≤ (i : Int) ∧ (i : Int) < (L.length : Int) := ⟨by omega, by omega⟩
    have eb : lget L (i : Int) = L[i] := by
      unfold lget; rw [show (i : Int).toNat = i by omega, List.getD, List.getElem?_eq_getElem hi]; rfl
    have hb := hL L[i] (List.getElem_mem hi)
    have htake : L.take (i + 1) = L.take i ++ [L[i]] := (List.take_append_getElem hi).symm
    have hgt : ∀ x ∈ L.take i, x < L[i] := by
      intro x hx
      obtain ⟨j, hj, e⟩ := List.getElem_of_mem hx
      rw [List.length_take] at hj
      rw [List.getElem_take] at e
      rw [← e]
      exact List.pairwise_iff_getElem.1 hs j i (by omega) hi (by omega)
    have next : ∀ S2 : List S35, Good S2 → (∀ x, Cov S2 x ↔ (Cov S x ∨ x = L[i])) → S2.length ≤ i + 1 → (∀ T s, S2 = T ++ [s] → s.f1 = L[i]) →
        ∃ S', byteset_Spans_c1 2000 (byteset_Spans_l2 2000 L f) (i : Int) S2 = some S' ∧ Good S' ∧ (∀ x, Cov S' x ↔ x ∈ L) ∧ S'.length ≤ 256 := by
      intro S2 h1 h2 h3 h4
      unfold byteset_Spans_c1
      rw [w64_id (by omega) (by omega)]
      have := spans_l L hL hs hz m (i + 1) f S2 (by omega) (by omega) h1 (fun x => by rw [h2 x, hc x, htake, List.mem_append, List.mem_singleton]) h3 (fun T s e => by rw [h4 T s e, htake]; exact List.mem_append.2 (.inr (List.mem_singleton.2 rfl)))
      exact_mod_cast this
    rw [byteset_Spans_l2.eq_2, if_pos g.2, if_pos g, eb]
    rcases List.eq_nil_or_concat S with e | ⟨T, s, e⟩
    · subst e
      rw [if_neg (by simp), Option.bind_some, if_neg (by decide), if_pos (by simp)]
      refine next _ ⟨fun s hs => ?_, by simp⟩ (fun x => ?_) (by simp) (fun T s e => ?_)
      · have : s = S35.mk L[i] L[i] := by simpa using hs
        subst this; dsimp only; omega
      · unfold Cov; simp; omega
      · have e2 := congrArg List.getLast? e
        simp at e2
        rw [← e2]
    · rw [List.concat_eq_append] at e
      subst e
      have hs1 := hg.1 s (by simp)
      have hlt := hgt s.f1 (hlast T s rfl)
      have hlen : ((T ++ [s]).length : Int) = (T.length : Int) + 1 := by simp
      have el : w64 (((T ++ [s]).length : Int) - 1) = (T.length : Int) := by
        have : T.length ≤ 256 := by simp at hl; omega
        rw [hlen, w64_id (by omega) (by omega)]; omega
      have g2 : 0 ≤ (T.length : Int) ∧ (T.length : Int) < ((T ++ [s]).length : Int) := ⟨by omega, by omega⟩
      have hpw := hg.2
      rw [List.pairwise_append] at hpw
      rw [el, if_pos (by omega), if_pos g2, lget_last, Option.bind_some, w64_id (n := s.f1) (by omega) (by omega), w64_id (n := s.f1 + 1) (by omega) (by omega), w64_id (n := L[i]) (by omega) (by omega)]
      by_cases q : s.f1 + 1 = L[i]
      · rw [if_pos (decide_eq_true q), if_pos g2, lset_last]
        refine next _ ⟨fun u hu => ?_, ?_⟩ (fun x => ?_) (by simp at hl ⊢; omega) (fun T' s' e => ?_)
        · rcases List.mem_append.1 hu with hu | hu
          · exact hg.1 u (by simp [hu])
          · have : u = S35.mk s.f0 L[i] := by simpa using hu
            subst this; dsimp only; omega
        · rw [List.pairwise_append]
          refine ⟨hpw.1, by simp, fun u hu v hv => ?_⟩
          have : v = S35.mk s.f0 L[i] := by simpa using hv
          subst this
          exact hpw.2.2 u hu s (by simp)
        · unfold Cov
          constructor
          · rintro ⟨u, hu, h1, h2⟩
            rcases List.mem_append.1 hu with hu | hu
            · exact .inl ⟨u, by simp [hu], h1, h2⟩
            · have : u = S35.mk s.f0 L[i] := by simpa using hu
              subst this
              dsimp only at h1 h2
              by_cases r : x = L[i]
              · exact .inr r
              · exact .inl ⟨s, by simp, h1, by omega⟩
          · rintro (⟨u, hu, h1, h2⟩ | rfl)
            · rcases List.mem_append.1 hu with hu | hu
              · exact ⟨u, by simp [hu], h1, h2⟩
              · have : u = s := by simpa using hu
                subst this
                exact ⟨S35.mk u.f0 L[i], by simp, h1, by dsimp only; omega⟩
            · exact ⟨S35.mk s.f0 L[i], by simp, by dsimp only; omega, by dsimp only; omega⟩
        · have e2 := congrArg List.getLast? e
          simp at e2
          rw [← e2]
      · rw [if_neg (by simpa using q), if_pos (by simp at hl ⊢; omega)]
        refine next _ ⟨fun u hu => ?_, ?_⟩ (fun x => ?_) (by simp at hl ⊢; omega) (fun T' s' e => ?_)
        · rcases List.mem_append.1 hu with hu | hu
          · exact hg.1 u hu
          · have : u = S35.mk L[i] L[i] := by simpa using hu
            subst this; dsimp only; omega
        · rw [List.pairwise_append]
          refine ⟨hg.2, by simp, fun u hu v hv => ?_⟩
          have : v = S35.mk L[i] L[i] := by simpa using hv
          subst this
          dsimp only
          have hle : u.f1 ≤ s.f1 := by
            rcases List.mem_append.1 hu with hu | hu
            · have := hpw.2.2 u hu s (by simp); omega
            · have : u = s := by simpa using hu
              subst this; omega
          omega
        · unfold Cov
          constructor
          · rintro ⟨u, hu, h1, h2⟩
            rcases List.mem_append.1 hu with hu | hu
            · exact .inl ⟨u, hu, h1, h2⟩
            · have : u = S35.mk L[i] L[i] := by simpa using hu
              subst this
              exact .inr (by dsimp only at h1 h2; omega)
          · rintro (⟨u, hu, h1, h2⟩ | rfl)
            · exact ⟨u, List.mem_append.2 (.inl hu), h1, h2⟩
            · exact ⟨S35.mk L[i] L[i], by simp, by dsimp only; omega, by dsimp only; omega⟩
        · have e2 := congrArg List.getLast? e
          simp at e2
          rw [← e2]
theorem law_l {a : Vector Int 4} (ha : U a) (S : List S35) (hg : Good S) (hc : ∀ x, Cov S x ↔ x ∈ ll a) (hz : S.length ≤ 256) : ∀ (m i fuel : Nat) (last : Int) (s : Vector Int 4), i + m = S.length → m < fuel → (i = 0 ∧ last = -2 ∨ ∃ j, i = j + 1 ∧ ∃ h : j < S.length, last = S[j].f1) → U s → (∀ x : Nat, x < 256 → (tb s x = true ↔ Cov (S.take i) x)) →
    bosketlaw02_BytesetSpans_l1 2000 a S fuel last s i = some true
  | 0, i, f + 1, last, s, h, _, _, hs, hb => by
    rw [bosketlaw02_BytesetSpans_l1.eq_2, if_neg (by omega), bosketlaw02_BytesetSpans_c0]
    rw [List.take_of_length_le (by omega)] at hb
    have : s = a := ext_tb hs ha fun x hx => by
      rw [Bool.eq_iff_iff, hb x hx, hc, ll_mem a x hx]
    rw [this]; simp
  | m + 1, i, f + 1, last, s, h, hf, hl, hs, hb => by
    have hi : i < S.length := by omega
    have g : 0 ≤ (i : Int) ∧ (i : Int) < (S.length : Int) := ⟨by omega, by omega⟩
    have eb : lget S (i : Int) = S[i] := by
      unfold lget; rw [show (i : Int).toNat = i by omega, List.getD, List.getElem?_eq_getElem hi]; rfl
    have h1 := hg.1 S[i] (List.getElem_mem hi)
    have hlast : -2 ≤ last ∧ last < 256 ∧ last + 1 < S[i].f0 := by
      rcases hl with ⟨_, e⟩ | ⟨j, e, hj, e2⟩
      · omega
      · have := List.pairwise_iff_getElem.1 hg.2 j i hj hi (by omega)
        have h2 := hg.1 S[j] (List.getElem_mem hj)
        omega
    obtain ⟨p, hp⟩ : ∃ p : Nat, S[i].f0 = p := ⟨S[i].f0.toNat, by omega⟩
    obtain ⟨q, hq⟩ : ∃ q : Nat, S[i].f1 = q := ⟨S[i].f1.toNat, by omega⟩
    obtain ⟨c, c1, c2, c3⟩ := range_eq (f := p) (t := q) (by omega) (by omega)
    obtain ⟨d, d1, d2, d3⟩ := or_eq hs c2
    rw [bosketlaw02_BytesetSpans_l1.eq_2, if_pos g.2]
    simp only [if_pos g, eb]
    rw [w64_id (n := S[i].f0) (by omega) (by omega), w64_id (n := last + 1) (by omega) (by omega), if_neg (by omega), Option.bind_some, if_neg (by simp; omega), hp, hq, c1, Option.bind_some, d1, Option.bind_some, w64_id (n := (q : Int)) (by omega) (by omega), w64_id (by omega) (by omega)]
    have := law_l ha S hg hc hz m (i + 1) f (q : Int) d (by omega) (by omega) (.inr ⟨i, rfl, hi, hq.symm⟩) d2 (fun x hx => by
      rw [d3 x hx, c3 x hx, Bool.or_eq_true, hb x hx, decide_eq_true_iff]
      have ht : S.take (i + 1) = S.take i ++ [S[i]] := (List.take_append_getElem hi).symm
      rw [ht]
      unfold Cov
      constructor
      · rintro (⟨u, hu, h1, h2⟩ | h3)
        · exact ⟨u, List.mem_append.2 (.inl hu), h1, h2⟩
        · exact ⟨S[i], List.mem_append.2 (.inr (List.mem_singleton.2 rfl)), by omega, by omega⟩
      · rintro ⟨u, hu, h1, h2⟩
        rcases List.mem_append.1 hu with hu | hu
        · exact .inl ⟨u, hu, h1, h2⟩
        · have : u = S[i] := by simpa using hu
          subst this
          exact .inr (by omega))
    exact_mod_cast this
theorem awake02 : bosketlaw02_awake 2000 = some true := by decide +kernel
theorem bosketlaw02_BytesetSpans_true (a0 : (Vector Int 4)) (h0 : wf27 a0) : ∃ k, bosketlaw02_BytesetSpans k a0 = some true := by
  refine ⟨2000, ?_⟩
  have ha := U_of h0
  obtain ⟨S, s1, s2, s3, s4⟩ := spans_l (ll a0) (ll_lt a0) (ll_sorted a0) (ll_len a0) (ll a0).length 0 2000 [] (by omega) (by have := ll_len a0; omega) ⟨fun s hs => (by cases hs), List.Pairwise.nil⟩ (fun x => by unfold Cov; simp) (by simp) (fun T s e => by have := congrArg List.length e; simp at this)
  have hsp : byteset_Spans 2000 a0 = some S := by
    unfold byteset_Spans
    rw [list_eq ha, Option.bind_some]
    exact s1
  unfold bosketlaw02_BytesetSpans
  rw [awake02, Option.bind_some, if_neg (by decide), hsp, Option.bind_some]
  exact law_l ha S s2 s3 s4 S.length 0 2000 (-2) _ (by omega) (by omega) (.inl ⟨rfl, rfl⟩) U_zero (fun x hx => by rw [tb_zero x hx]; unfold Cov; simp)
end Go.Avl.TD
