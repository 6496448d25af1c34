/- Parts: T5W, T5S1, T5C1, T5C2, T5N1, T5N2, T5M1, T5D0, T5D1, T5Q1, T5D2, T5D3, T5D4, T5D5, T5Q2, T5K1, T5K2, T5K3, T5K4, T5K5, T5K6, T5K7, T5K8, T5K9, T5K10, T5K11, T5K12, T5K13, T5K14, T5Q3, T5Q4, T5PureLangEqual. -/
import Derived.Test.YtoaomnfenofglaaAF1
import Derived.Test.YtoaomnfenofglaaAv3
import Derived.Test.YtoaomnfenofglaaAF5
import Derived.Test.YtoaomnfenofglaaAF3
import Derived.Laws.Bits64b
import Derived.Test.YtoaomnfenofglaaAF2
import Derived.Test.YtoaomnfenofglaaAF4
/- Opening of the arguments; printed by avlaw.py. -/
namespace Go.Avl.T5
open Go Go.RowKit Go.Proofs Go.Avl
set_option linter.unusedVariables false
set_option maxRecDepth 100000
abbrev e28 (l : List (List Int)) : AV := .fz 1 (l.map e25)
abbrev wf3 : Int → Prop := (fun n : Int => (Lit.int .i64 n).wf = true)
theorem op3 : Opens Try.prog 3 eI64 wf3 := opens_int Try.underlying3
abbrev wf25 : (List Int) → Prop := (fun l : List Int => l.length ≤ 9223372036854775807 ∧ ∀ a ∈ l, wf3 a)
theorem op25 : Opens Try.prog 25 e25 wf25 := opens_slice Try.underlying25 sz3 op3
abbrev wf9 : ByteArray → Prop := (fun s : ByteArray => s.size ≤ 9223372036854775807)
theorem op9 : Opens Try.prog 9 eStr wf9 := opens_string Try.underlying9
abbrev wf5 : Int → Prop := (fun n : Int => (Lit.int .u8 n).wf = true)
theorem op5 : Opens Try.prog 5 eU8 wf5 := opens_int Try.underlying5
abbrev wf27 : (Vector Int 256) → Prop := (fun l : Vector Int 256 => ∀ a ∈ l.toList, wf5 a)
theorem op27 : Opens Try.prog 27 e27 wf27 := opens_array Try.underlying27 sz5 sz27 op5
abbrev wf28 : (List (List Int)) → Prop := (fun l : List (List Int) => l.length ≤ 9223372036854775807 ∧ ∀ a ∈ l, wf25 a)
theorem op28 : Opens Try.prog 28 e28 wf28 := opens_slice Try.underlying28 sz25 op25
abbrev wf30 : S30 → Prop := (fun x : S30 => wf27 x.f0 ∧ wf28 x.f1 ∧ wf25 x.f2)
theorem op30 : Opens Try.prog 30 e30 wf30 := (opens_struct Try.underlying30 sz30 (opensF_cons rfl sz27 (by decide) op27 (opensF_cons rfl sz28 (by decide) op28 (opensF_cons rfl sz25 (by decide) op25 (opensF_nil _))))).map (fun p => S30.mk p.1 p.2.1 p.2.2.1) (fun _ => rfl) (fun _ h => ⟨h.1, h.2.1, h.2.2.1⟩)
end Go.Avl.T5
/- Ported: texts between quotes. -/
namespace Go.Avl.T5
open Go Go.RowKit Go.Proofs Go.Avl
set_option linter.all false
set_option maxRecDepth 10000

def U (a : Vector Int 4) : Prop := ∀ j : Nat, j < 4 → 0 ≤ vget a (j : Int) ∧ vget a (j : Int) < 18446744073709551616
def wd (a : Vector Int 4) (j : Nat) : Nat := (vget a (j : Int)).toNat
/-- Is a byte in a set? -/
def tb (a : Vector Int 4) (b : Nat) : Bool := (wd a (b / 64)).testBit (b % 64)
theorem wd_eq {a : Vector Int 4} (h : U a) (j : Nat) (hj : j < 4) : vget a (j : Int) = (wd a j : Int) ∧ wd a j < 18446744073709551616 := by
  have := h j hj
  unfold wd; omega
theorem vget_vset (v : Vector Int 4) (i j : Nat) (x : Int) (hi : i < 4) (hj : j < 4) : vget (vset v (i : Int) x) (j : Int) = if j = i then x else vget v (j : Int) := by
  unfold vget vset
  rw [Int.toNat_natCast, Int.toNat_natCast, Vector.toList_setIfInBounds, List.getD, List.getD, List.getElem?_set]
  by_cases e : i = j
  · subst e; rw [if_pos rfl, if_pos rfl, if_pos (by simpa using hi)]; rfl
  · rw [if_neg e, if_neg (fun h => e h.symm)]
theorem U_zero : U (Vector.replicate 4 (0 : Int)) := by
  intro j hj
  have : vget (Vector.replicate 4 (0 : Int)) (j : Int) = 0 := by
    have : j = 0 ∨ j = 1 ∨ j = 2 ∨ j = 3 := by omega
    rcases this with rfl | rfl | rfl | rfl <;> rfl
  rw [this]; omega
theorem tb_zero (b : Nat) (hb : b < 256) : tb (Vector.replicate 4 (0 : Int)) b = false := by
  have hj : b / 64 < 4 := by omega
  have : vget (Vector.replicate 4 (0 : Int)) ((b / 64 : Nat) : Int) = 0 := by
    generalize b / 64 = j at hj
    have : j = 0 ∨ j = 1 ∨ j = 2 ∨ j = 3 := by omega
    rcases this with rfl | rfl | rfl | rfl <;> rfl
  unfold tb wd
  rw [this]; simp
/-- One bit set in a word. -/
theorem or_bit {w : Nat} (hw : w < 18446744073709551616) {i : Nat} (hi : i < 64) : bits .or .u64 (w : Int) (IntKind.u64.wrap ((1 : Int) * 2 ^ (min i IntKind.u64.bits))) = ((w ||| 2 ^ i : Nat) : Int) ∧ w ||| 2 ^ i < 18446744073709551616 := by
  have hp : (2 : Nat) ^ i < 18446744073709551616 := Nat.lt_of_lt_of_le (Nat.pow_lt_pow_right (by omega) hi) (by decide : 2 ^ 64 ≤ 18446744073709551616)
  have e : IntKind.u64.wrap ((1 : Int) * 2 ^ (min i IntKind.u64.bits)) = ((2 ^ i : Nat) : Int) := by
    rw [show min i IntKind.u64.bits = i by show min i 64 = i; omega]
    have := u64_eq (1 * 2 ^ i)
    unfold u64 at this
    rw [this]
    have e3 : ((1 : Int) * 2 ^ i) = ((2 ^ i : Nat) : Int) := by simp
    rw [e3]
    generalize 2 ^ i = q at hp ⊢
    omega
  rw [e, bits_or_u64_nat w (2 ^ i) hw hp]
  exact ⟨rfl, Nat.or_lt_two_pow (n := 64) hw hp⟩
/-- A byte put into a set. -/
theorem put_bit {a : Vector Int 4} (h : U a) {b : Nat} (hb : b < 256) : ∀ c, c = vset a ((b / 64 : Nat) : Int) (bits .or .u64 (vget a ((b / 64 : Nat) : Int)) (IntKind.u64.wrap ((1 : Int) * 2 ^ (min (b % 64) IntKind.u64.bits)))) → U c ∧ ∀ x, x < 256 → tb c x = (tb a x || decide (x = b)) := by
  rintro c rfl
  have hj : b / 64 < 4 := by omega
  obtain ⟨e, l⟩ := wd_eq h (b / 64) hj
  obtain ⟨o1, o2⟩ := or_bit l (i := b % 64) (by omega)
  rw [e, o1]
  constructor
  · intro j hj'
    rw [vget_vset _ _ _ _ hj hj']
    split
    · omega
    · exact h j hj'
  · intro x hx
    unfold tb wd
    rw [vget_vset _ _ _ _ hj (by omega)]
    by_cases q : x / 64 = b / 64
    · rw [if_pos q, Int.toNat_natCast, Nat.testBit_or, Nat.testBit_two_pow, q]
      congr 1
      rw [decide_eq_decide]; omega
    · rw [if_neg q]
      have : decide (x = b) = false := decide_eq_false (fun e => q (by rw [e]))
      rw [this, Bool.or_false]
theorem shr_eq (x k : Nat) (hk : k ≤ 64) : Int.fdiv (x : Int) (2 ^ (min (k : Int).toNat IntKind.u64.bits)) = ((x / 2 ^ k : Nat) : Int) := by
  rw [Int.toNat_natCast, show min k IntKind.u64.bits = k by show min k 64 = k; omega, Int.fdiv_eq_ediv_of_nonneg _ (by exact_mod_cast Nat.zero_le _)]
  norm_cast
theorem tmod64 (i : Nat) : (i : Int).tmod 64 = ((i % 64 : Nat) : Int) := by rw [Int.tmod_eq_emod_of_nonneg (by omega)]; omega
theorem ix_u8 (i : Nat) (hi : i < 256) : IntKind.u8.wrap ((i : Int).tdiv 64) = ((i / 64 : Nat) : Int) := by
  have h1 : (i : Int).tdiv 64 = ((i / 64 : Nat) : Int) := by rw [Int.tdiv_eq_ediv_of_nonneg (by omega)]; omega
  rw [h1]; have := w8_id (n := ((i / 64 : Nat) : Int)) (by omega) (by omega); exact this
theorem has_eq {a : Vector Int 4} (ha : U a) {x : Nat} (hx : x < 256) : byteset_Has 5000 a (x : Int) = some (tb a x) := by
  obtain ⟨e, l⟩ := wd_eq ha (x / 64) (by omega)
  unfold byteset_Has
  rw [ix_u8 x hx, tmod64, if_pos ⟨by omega, by omega⟩, if_pos (by omega), e, shr_eq _ (x % 64) (by omega)]
  have hb := bits_and_u64_nat (wd a (x / 64) / 2 ^ (x % 64)) 1 (Nat.lt_of_le_of_lt (Nat.div_le_self _ _) l) (by omega)
  have hb' : bits .and .u64 ((wd a (x / 64) / 2 ^ (x % 64) : Nat) : Int) 1 = _ := hb
  rw [hb']
  unfold tb
  congr 1
  rw [Nat.and_one_is_mod]
  have h2 : (wd a (x / 64)).testBit (x % 64) = (wd a (x / 64) / 2 ^ (x % 64)).testBit 0 := by
    rw [Nat.testBit_div_two_pow, Nat.zero_add]
  rw [h2, Nat.testBit_zero, decide_eq_decide]
  omega
end Go.Avl.T5
/- Classes of bytes: a byte's key tells which sets have it. -/
namespace Go.Avl.T5
open Go Go.RowKit Go.Proofs Go.Avl
set_option linter.all false
set_option maxRecDepth 10000

theorem bits_or_u8_nat (a b : Nat) (ha : a < 256) (hb : b < 256) : bits .or .u8 (a : Int) (b : Int) = ((a ||| b : Nat) : Int) ∧ a ||| b < 256 := by
  have hx : a ||| b < 2 ^ 8 := Nat.or_lt_two_pow (by omega) (by omega)
  have h1 : (BitVec.ofInt 8 (a : Int)).toNat = a := by
    rw [BitVec.ofInt_natCast, BitVec.toNat_ofNat]; exact Nat.mod_eq_of_lt (by omega)
  have h2 : (BitVec.ofInt 8 (b : Int)).toNat = b := by
    rw [BitVec.ofInt_natCast, BitVec.toNat_ofNat]; exact Nat.mod_eq_of_lt (by omega)
  refine ⟨?_, hx⟩
  show IntKind.u8.wrap ((BitVec.ofInt 8 (a : Int) ||| BitVec.ofInt 8 (b : Int)).toNat : Int) = _
  rw [BitVec.toNat_or, h1, h2]
  exact w8_id (by omega) (by omega)
/-- Which of some sets have a byte. -/
def sg (L : List (Vector Int 4)) (b x : Nat) : Bool := decide (x < L.length) && tb (L.getD x default) b
def bt (row : List Int) (x : Nat) : Bool := (row.getD (x / 8) 0).toNat.testBit (x % 8)
def Row8 (L : List (Vector Int 4)) (b q i : Nat) (row : List Int) : Prop :=
  row.length = q ∧ (∀ x ∈ row, 0 ≤ x ∧ x ≤ 255) ∧ ∀ x, x < 8 * q → bt row x = (decide (x < i) && sg L b x)
theorem row_set {L : List (Vector Int 4)} {b q i : Nat} {row : List Int} (h : Row8 L b q i row) (hi : i < 8 * q) (hs : sg L b i = true) :
    Row8 L b q (i + 1) (lset row ((i / 8 : Nat) : Int) (bits .or .u8 (lget row ((i / 8 : Nat) : Int)) (IntKind.u8.wrap ((1 : Int) * 2 ^ (min (i % 8) IntKind.u8.bits))))) := by
  obtain ⟨h1, h2, h3⟩ := h
  have hj : i / 8 < row.length := by omega
  have el : lget row ((i / 8 : Nat) : Int) = row[i / 8] := by
    unfold lget; rw [Int.toNat_natCast, List.getD, List.getElem?_eq_getElem hj]; rfl
  have hb := h2 row[i / 8] (List.getElem_mem hj)
  obtain ⟨w, hw⟩ : ∃ w : Nat, row[i / 8] = w := ⟨row[i / 8].toNat, by omega⟩
  have hp : (2 : Nat) ^ (i % 8) < 256 := Nat.lt_of_lt_of_le (Nat.pow_lt_pow_right (by omega) (by omega : i % 8 < 8)) (by decide : 2 ^ 8 ≤ 256)
  have e5 : IntKind.u8.wrap ((1 : Int) * 2 ^ (min (i % 8) IntKind.u8.bits)) = ((2 ^ (i % 8) : Nat) : Int) := by
    rw [show min (i % 8) IntKind.u8.bits = i % 8 by show min (i % 8) 8 = i % 8; omega]
    have e3 : ((1 : Int) * 2 ^ (i % 8)) = ((2 ^ (i % 8) : Nat) : Int) := by simp
    rw [e3]
    generalize 2 ^ (i % 8) = z at hp ⊢
    exact w8_id (by omega) (by omega)
  obtain ⟨o1, o2⟩ := bits_or_u8_nat w (2 ^ (i % 8)) (by omega) hp
  rw [el, hw, e5, o1]
  refine ⟨by unfold lset; rw [List.length_set]; exact h1, fun x hx => ?_, fun x hx => ?_⟩
  · unfold lset at hx
    rcases List.mem_or_eq_of_mem_set hx with h | h
    · exact h2 x h
    · rw [h]; omega
  · have hb0 := h3 x hx
    unfold bt lset at *
    rw [Int.toNat_natCast]
    by_cases r : x / 8 = i / 8
    · rw [r, List.getD, List.getElem?_set_self hj]
      rw [r, List.getD, List.getElem?_eq_getElem hj, hw] at hb0
      simp only [Option.getD_some, Int.toNat_natCast] at hb0 ⊢
      rw [Nat.testBit_or, hb0, Nat.testBit_two_pow]
      by_cases u : x = i
      · subst u; rw [hs]; simp
      · rw [decide_eq_false (p := i % 8 = x % 8) (by omega), Bool.or_false]
        congr 1
        rw [decide_eq_decide]; omega
    · rw [List.getD, List.getElem?_set_ne (fun h => r h.symm)]
      rw [List.getD] at hb0
      rw [hb0]
      congr 1
      rw [decide_eq_decide]
      have : x ≠ i := fun h => r (by rw [h])
      omega
theorem row_skip {L : List (Vector Int 4)} {b q i : Nat} {row : List Int} (h : Row8 L b q i row) (hs : sg L b i = false) : Row8 L b q (i + 1) row := by
  obtain ⟨h1, h2, h3⟩ := h
  refine ⟨h1, h2, fun x hx => ?_⟩
  rw [h3 x hx]
  by_cases u : x = i
  · subst u; rw [hs]; simp
  · congr 1
    rw [decide_eq_decide]; omega
theorem key_l (L : List (Vector Int 4)) (hL : ∀ a ∈ L, U a) (b : Nat) (hb : b < 256) (q : Nat) (hq : L.length ≤ 8 * q) (hz : q ≤ 1000) : ∀ (m i fuel : Nat) (row : List Int), i + m = L.length → m < fuel → Row8 L b q i row →
    ∃ row', byteset_key_l2 5000 L (b : Int) fuel row i = some (strOfNums row') ∧ Row8 L b q L.length row'
  | 0, i, f + 1, row, h, _, hr => by
    rw [byteset_key_l2.eq_2, if_neg (by omega), byteset_key_c0]
    exact ⟨row, rfl, by rw [show L.length = i by omega]; exact hr⟩
  | m + 1, i, f + 1, row, h, hf, hr => by
    have hi : i < L.length := by omega
    have g : 0 ≤ (i : Int) ∧ (i : Int) < (L.length : Int) := ⟨by omega, by omega⟩
    have eb : lget L (i : Int) = L[i] := by
      unfold lget; rw [show (i : Int).toNat = i by omega, List.getD, List.getElem?_eq_getElem hi]; rfl
    have ed : L.getD i default = L[i] := by rw [List.getD, List.getElem?_eq_getElem hi]; rfl
    have hs : sg L b i = tb L[i] b := by unfold sg; rw [decide_eq_true hi, Bool.true_and, ed]
    have e1 : IntKind.i64.wrap ((i : Int).tdiv 8) = ((i / 8 : Nat) : Int) := by
      have h1 : (i : Int).tdiv 8 = ((i / 8 : Nat) : Int) := by rw [Int.tdiv_eq_ediv_of_nonneg (by omega)]; omega
      rw [h1]; have := w64_id (n := ((i / 8 : Nat) : Int)) (by omega) (by omega); exact this
    have e2 : u64 ((i : Int).tmod 8) = ((i % 8 : Nat) : Int) := by
      have h1 : (i : Int).tmod 8 = ((i % 8 : Nat) : Int) := by rw [Int.tmod_eq_emod_of_nonneg (by omega)]; omega
      rw [h1, u64_eq]; omega
    have hlen := hr.1
    rw [byteset_key_l2.eq_2, if_pos g.2, if_pos g, eb, has_eq (hL _ (List.getElem_mem hi)) hb, Option.bind_some]
    by_cases t : tb L[i] b = true
    · rw [if_pos t, e1, e2, if_pos ⟨by omega, by omega⟩, if_pos (by omega), if_pos ⟨by omega, by omega⟩, Int.toNat_natCast]
      unfold byteset_key_c1
      rw [w64_id (by omega) (by omega)]
      have := key_l L hL b hb q hq hz m (i + 1) f _ (by omega) (by omega) (row_set hr (by omega) (by rw [hs]; exact t))
      exact_mod_cast this
    · rw [if_neg t]
      unfold byteset_key_c1
      rw [w64_id (by omega) (by omega)]
      have := key_l L hL b hb q hq hz m (i + 1) f row (by omega) (by omega) (row_skip hr (by rw [hs]; simpa using t))
      exact_mod_cast this
theorem key_eq (L : List (Vector Int 4)) (hL : ∀ a ∈ L, U a) (hn : L.length ≤ 1000) (b : Nat) (hb : b < 256) : ∃ row, byteset_key 5000 L (b : Int) = some (strOfNums row) ∧ Row8 L b ((L.length + 7) / 8) L.length row := by
  have e : IntKind.i64.wrap ((w64 ((L.length : Int) + 7)).tdiv 8) = (((L.length + 7) / 8 : Nat) : Int) := by
    rw [w64_id (by omega) (by omega)]
    have h1 : ((L.length : Int) + 7).tdiv 8 = (((L.length + 7) / 8 : Nat) : Int) := by rw [Int.tdiv_eq_ediv_of_nonneg (by omega)]; omega
    rw [h1]; have := w64_id (n := (((L.length + 7) / 8 : Nat) : Int)) (by omega) (by omega); exact this
  unfold byteset_key
  rw [e, if_pos ⟨by omega, by omega, by omega⟩, Int.toNat_natCast]
  have := key_l L hL b hb ((L.length + 7) / 8) (by omega) (by omega) L.length 0 5000 (List.replicate ((L.length + 7) / 8) 0) (by omega) (by omega) ⟨by simp, fun x hx => by rw [(List.mem_replicate.1 hx).2]; omega, fun x hx => by
    unfold bt
    rw [List.getD, List.getElem?_replicate, if_pos (by omega)]; simp⟩
  exact this
/-- Two keys are one just if the bytes are told apart by no set. -/
theorem row_iff {L : List (Vector Int 4)} {b c q : Nat} (hq : L.length ≤ 8 * q) {r s : List Int} (hr : Row8 L b q L.length r) (hs : Row8 L c q L.length s) : strOfNums r = strOfNums s ↔ ∀ x, sg L b x = sg L c x := by
  constructor
  · intro h x
    have e := strOf_inj hr.2.1 hs.2.1 h
    by_cases hx : x < L.length
    · have h1 := hr.2.2 x (by omega)
      have h2 := hs.2.2 x (by omega)
      rw [e, h2, decide_eq_true hx, Bool.true_and, Bool.true_and] at h1
      exact h1.symm
    · unfold sg; rw [decide_eq_false hx]; rfl
  · intro h
    congr 1
    apply List.ext_getElem (by rw [hr.1, hs.1])
    intro j h1 h2
    have b1 := hr.2.1 r[j] (List.getElem_mem h1)
    have b2 := hs.2.1 s[j] (List.getElem_mem h2)
    have : r[j].toNat = s[j].toNat := by
      apply Nat.eq_of_testBit_eq
      intro t
      by_cases ht : t < 8
      · have k1 := hr.2.2 (8 * j + t) (by have := hr.1; omega)
        have k2 := hs.2.2 (8 * j + t) (by have := hr.1; omega)
        rw [h] at k1
        rw [← k2] at k1
        unfold bt at k1
        rw [show (8 * j + t) / 8 = j by omega, show (8 * j + t) % 8 = t by omega, List.getD, List.getD, List.getElem?_eq_getElem h1, List.getElem?_eq_getElem h2] at k1
        exact k1
      · have hp : 256 ≤ 2 ^ t := Nat.le_trans (by decide : 256 ≤ 2 ^ 8) (Nat.pow_le_pow_right (by omega) (by omega))
        rw [Nat.testBit_lt_two_pow (by omega), Nat.testBit_lt_two_pow (by omega)]
    omega
end Go.Avl.T5
/- Classes of bytes: numbered by their least bytes. -/
namespace Go.Avl.T5
open Go Go.RowKit Go.Proofs Go.Avl
set_option linter.all false
set_option maxRecDepth 10000

/-! The least of one class. -/
def rcf (e : Nat → Bool) (b : Nat) : Nat → Nat → Nat
  | 0, _ => b
  | f + 1, i => if e i = true then i else rcf e b f (i + 1)
theorem rcf_spec (e : Nat → Bool) (b : Nat) (hb : e b = true) : ∀ (f i : Nat), i + f = b → rcf e b f i ≤ b ∧ i ≤ rcf e b f i ∧ e (rcf e b f i) = true ∧ ∀ c, i ≤ c → c < rcf e b f i → e c = false
  | 0, i, h => by rw [rcf]; exact ⟨by omega, by omega, hb, fun c h1 h2 => by omega⟩
  | f + 1, i, h => by
    rw [rcf]
    by_cases q : e i = true
    · rw [if_pos q]; exact ⟨by omega, by omega, q, fun c h1 h2 => by omega⟩
    · rw [if_neg q]
      obtain ⟨h1, h2, h3, h4⟩ := rcf_spec e b hb f (i + 1) (by omega)
      refine ⟨h1, by omega, h3, fun c k1 k2 => ?_⟩
      by_cases r : c = i
      · subst r; simpa using q
      · exact h4 c (by omega) k2
section
variable (kk : Nat → ByteArray)
def rc (b : Nat) : Nat := rcf (fun c => decide (kk c = kk b)) b b 0
theorem rc_spec (b : Nat) : rc kk b ≤ b ∧ kk (rc kk b) = kk b ∧ ∀ c, c < rc kk b → kk c ≠ kk b := by
  obtain ⟨h1, h2, h3, h4⟩ := rcf_spec (fun c => decide (kk c = kk b)) b (by simp) b 0 (by omega)
  exact ⟨h1, of_decide_eq_true h3, fun c hc => of_decide_eq_false (h4 c (by omega) hc)⟩
theorem rc_uniq {b r : Nat} (h1 : kk r = kk b) (h2 : ∀ c, c < r → kk c ≠ kk b) : rc kk b = r := by
  obtain ⟨k1, k2, k3⟩ := rc_spec kk b
  rcases Nat.lt_trichotomy (rc kk b) r with h | h | h
  · exact absurd k2 (h2 _ h)
  · exact h
  · exact absurd h1 (k3 _ h)
theorem rc_same {b c : Nat} (h : kk c = kk b) : rc kk c = rc kk b := by
  obtain ⟨k1, k2, k3⟩ := rc_spec kk b
  exact rc_uniq kk (by rw [k2, h]) (fun d hd => by rw [h]; exact k3 d hd)
theorem rc_rc (b : Nat) : rc kk (rc kk b) = rc kk b := rc_same kk (rc_spec kk b).2.1
/-- How many classes begin below a byte. -/
def nc : Nat → Nat
  | 0 => 0
  | b + 1 => nc b + if rc kk b = b then 1 else 0
theorem nc_le (b : Nat) : nc kk b ≤ b := by
  induction b with
  | zero => exact Nat.le_refl _
  | succ b ih => rw [nc]; split <;> omega
theorem nc_mono {b c : Nat} (h : b ≤ c) : nc kk b ≤ nc kk c := by
  induction h with
  | refl => exact Nat.le_refl _
  | step _ ih => rw [nc]; omega
def ck (b : Nat) : Nat := nc kk (rc kk b)
theorem ck_same {b c : Nat} (h : kk c = kk b) : ck kk c = ck kk b := by unfold ck; rw [rc_same kk h]
theorem ck_le (b : Nat) : ck kk b ≤ b := Nat.le_trans (nc_le kk _) (rc_spec kk b).1
theorem vget_vset256 (v : Vector Int 256) (i j : Nat) (x : Int) (hi : i < 256) (hj : j < 256) : vget (vset v (i : Int) x) (j : Int) = if j = i then x else vget v (j : Int) := by
  unfold vget vset
  rw [Int.toNat_natCast, Int.toNat_natCast, Vector.toList_setIfInBounds, List.getD, List.getD, List.getElem?_set]
  by_cases e : i = j
  · subst e; rw [if_pos rfl, if_pos rfl, if_pos (by simpa using hi)]; rfl
  · rw [if_neg e, if_neg (fun h => e h.symm)]
/-- What the map holds. -/
def MapOK (b : Nat) (m : List (ByteArray × Int)) : Prop :=
  m.length = nc kk b ∧ (∀ c, c < b → mget m (kk c) = some (ck kk c : Int)) ∧ ∀ s, (∀ c, c < b → kk c ≠ s) → mget m s = none
theorem bclasses_l {L : List (Vector Int 4)} (hk : ∀ b : Nat, b < 256 → byteset_key 5000 L (b : Int) = some (kk b)) : ∀ (m b fuel : Nat) (v : Vector Int 256) (mp : List (ByteArray × Int)), b + m = 256 → m < fuel → MapOK kk b mp → (∀ c, c < b → vget v (c : Int) = (ck kk c : Int)) →
    ∃ v', byteset_Classes_l2 5000 L fuel v mp b = some v' ∧ ∀ c : Nat, c < 256 → vget v' (c : Int) = (ck kk c : Int)
  | 0, b, f + 1, v, mp, h, _, _, hv => by
    rw [byteset_Classes_l2.eq_2, if_neg (by omega), byteset_Classes_c0]
    exact ⟨v, rfl, fun c hc => hv c (by omega)⟩
  | m + 1, b, f + 1, v, mp, h, hf, hm, hv => by
    have hb : b < 256 := by omega
    have hcl := ck_le kk b
    have fin : ∀ mp', MapOK kk (b + 1) mp' → ∃ v', byteset_Classes_c1 5000 (byteset_Classes_l2 5000 L f) v (b : Int) mp' (ck kk b : Int) = some v' ∧ ∀ c : Nat, c < 256 → vget v' (c : Int) = (ck kk c : Int) := by
      intro mp' hm'
      unfold byteset_Classes_c1
      rw [if_pos ⟨by omega, by omega⟩, w8_id (by omega) (by omega), w64_id (by omega) (by omega)]
      have := bclasses_l hk m (b + 1) f (vset v (b : Int) (ck kk b : Int)) mp' (by omega) (by omega) hm' (fun c hc => by
        rw [vget_vset256 _ _ _ _ hb (by omega)]
        by_cases q : c = b
        · subst q; rw [if_pos rfl]
        · rw [if_neg q]; exact hv c (by omega))
      exact_mod_cast this
    rw [byteset_Classes_l2.eq_2, if_pos (by omega), w8_id (by omega) (by omega), hk b hb, Option.bind_some]
    obtain ⟨r1, r2, r3⟩ := rc_spec kk b
    obtain ⟨m1, m2, m3⟩ := hm
    by_cases q : rc kk b = b
    · have hn : mget mp (kk b) = none := m3 _ (fun c hc => r3 c (by omega))
      have hc : ck kk b = nc kk b := by unfold ck; rw [q]
      rw [hn, if_pos (by rfl), m1, ← hc]
      refine fin _ ⟨?_, fun c hc' => ?_, fun s hs => ?_⟩
      · rw [mput_none hn, List.length_append, m1, nc, if_pos q]; rfl
      · rw [mget_mput]
        by_cases r : c = b
        · subst r; rw [if_pos rfl]
        · rw [if_neg (fun h => r3 c (by omega) h.symm), m2 c (by omega)]
      · rw [mget_mput, if_neg (hs b (by omega)), m3 s (fun c hc => hs c (by omega))]
    · have hg : mget mp (kk b) = some (ck kk b : Int) := by
        rw [← r2, m2 _ (by omega), ck_same kk r2]
      rw [hg, if_neg (by simp)]
      refine fin mp ⟨by rw [m1, nc, if_neg q]; rfl, fun c hc' => ?_, fun s hs => m3 s (fun c hc => hs c (by omega))⟩
      by_cases r : c = b
      · subst r; exact hg
      · exact m2 c (by omega)
open Classical in
open Classical in
theorem bcount_l (v : Vector Int 256) (hv : ∀ c : Nat, c < 256 → vget v (c : Int) = (ck kk c : Int)) : ∀ (m b fuel : Nat), b + m = 256 → m < fuel → byteset_Count_l1 5000 v fuel (nc kk b : Int) (b : Int) = some (nc kk 256 : Int)
  | 0, b, f + 1, h, _ => by
    rw [byteset_Count_l1.eq_2, if_neg (by omega), byteset_Count_c0, show b = 256 by omega]
  | m + 1, b, f + 1, h, hf => by
    have hb : b < 256 := by omega
    have hcl := ck_le kk b
    have hnl := nc_le kk b
    rw [byteset_Count_l1.eq_2, if_pos (by omega), if_pos ⟨by omega, by omega⟩, hv b hb, w64_id (n := (ck kk b : Int)) (by omega) (by omega), w64_id (n := (ck kk b : Int) + 1) (by omega) (by omega), w64_id (by omega) (by omega)]
    have e : max (nc kk b : Int) ((ck kk b : Int) + 1) = (nc kk (b + 1) : Int) := by
      obtain ⟨r1, r2, r3⟩ := rc_spec kk b
      by_cases q : rc kk b = b
      · have : ck kk b = nc kk b := by unfold ck; rw [q]
        rw [nc, if_pos q, this]; omega
      · have h1 : nc kk (rc kk b + 1) ≤ nc kk b := nc_mono kk (by omega)
        rw [nc, if_pos (rc_rc kk b)] at h1
        have h2 : ck kk b + 1 ≤ nc kk b := h1
        rw [nc, if_neg q]; omega
    rw [e]
    have := bcount_l v hv m (b + 1) f (by omega) (by omega)
    exact_mod_cast this
end
end Go.Avl.T5
/- Machines that may be in several states: what both answer, as plain lists. -/
namespace Go.Avl.T5
open Go Go.RowKit Go.Proofs Go.Avl
set_option linter.all false
set_option maxRecDepth 10000

theorem lget_lt {α : Type} [Inhabited α] (l : List α) (i : Nat) (h : i < l.length) : lget l (i : Int) = l[i] := by simp [lget, List.getD, List.getElem?_eq_getElem h]
theorem lset_len {α : Type} (l : List α) (i : Int) (x : α) : (lset l i x).length = l.length := by simp [lset]
end Go.Avl.T5
/- Machines that may be in several states: which states they reach. -/
namespace Go.Avl.T5
open Go Go.RowKit Go.Proofs Go.Avl
set_option linter.all false
set_option maxRecDepth 10000

theorem lget_lset (l : List Bool) (i q : Int) (h0 : 0 ≤ i) (h1 : i < (l.length : Int)) (hq : 0 ≤ q) : lget (lset l i true) q = (decide (q = i) || lget l q) := by
  unfold lget lset
  rw [List.getD, List.getD, List.getElem?_set]
  by_cases e : i.toNat = q.toNat
  · rw [if_pos e, if_pos (by omega), decide_eq_true (by omega)]; rfl
  · rw [if_neg e, decide_eq_false (by omega)]; rfl
/-- By free edges. -/
inductive FR (l : List S43) : Int → Int → Prop
  | refl (p : Int) : FR l p p
  | tail {p : Int} {e : S43} : FR l p e.f0 → e ∈ l → e.f3 = true → FR l p e.f1
theorem FR.trans {l : List S43} {p q r : Int} (h : FR l p q) (k : FR l q r) : FR l p r := by
  induction k with
  | refl => exact h
  | tail _ he hf ih => exact .tail ih he hf
/-- The states that a text leads to. -/
inductive Rch (n : S24) (s : ByteArray) : Nat → Int → Prop
  | start : Rch n s 0 n.f2
  | free {i : Nat} {e : S43} : Rch n s i e.f0 → e ∈ n.f1 → e.f3 = true → Rch n s i e.f1
  | byte {i : Nat} {e : S43} : Rch n s i e.f0 → e ∈ n.f1 → e.f3 = false → tb e.f2 (byteAt s i).toNat = true → Rch n s (i + 1) e.f1
theorem Rch.fr {n : S24} {s : ByteArray} {i : Nat} {p q : Int} (h : Rch n s i p) (k : FR n.f1 p q) : Rch n s i q := by
  induction k with
  | refl => exact h
  | tail _ he hf ih => exact .free ih he hf
end Go.Avl.T5
/- subset: the sets of a machine, classes of bytes, their least bytes. -/
namespace Go.Avl.T5
open Go Go.RowKit Go.Proofs Go.Avl
set_option linter.all false
set_option maxRecDepth 10000

theorem w6 {x : Int} (h0 : -1000000000000 ≤ x) (h1 : x ≤ 1000000000000) : w64 x = x := w64_id (by omega) (by omega)
end Go.Avl.T5
/- Ported: texts between quotes. -/
namespace Go.Avl.T5
open Go Go.RowKit Go.Proofs Go.Avl
set_option linter.all false
set_option maxRecDepth 10000

theorem u8_of {n : Int} (h : (Lit.int .u8 n).wf = true) : 0 ≤ n ∧ n ≤ 255 := by
  simpa [Lit.wf, show IntKind.u8.min = 0 from rfl, show IntKind.u8.max = 255 from rfl] using h
def Bytes (p0 : S30) : Prop := ∀ c : Int, 0 ≤ vget p0.f0 c ∧ vget p0.f0 c ≤ 255
theorem bytes_of {p0 : S30} (h : wf30 p0) : Bytes p0 := by
  intro c
  have h1 := h.1
  by_cases hc : c.toNat < p0.f0.toList.length
  · have : vget p0.f0 c = p0.f0.toList[c.toNat] := by simp [vget, List.getD, List.getElem?_eq_getElem hc]
    rw [this]; exact u8_of (h1 _ (List.getElem_mem hc))
  · have : vget p0.f0 c = 0 := by
      have : p0.f0.toList[c.toNat]? = none := List.getElem?_eq_none (by omega)
      simp only [vget, List.getD, this]; rfl
    rw [this]; omega

def stp (p0 : S30) (s c : Int) : Int := if s < 0 ∨ (p0.f1.length : Int) ≤ s ∨ ((lget p0.f1 s).length : Int) ≤ vget p0.f0 c then -1 else lget (lget p0.f1 s) (vget p0.f0 c)
def mk (p0 : S30) (s : Int) : Int := if s < 0 ∨ (p0.f2.length : Int) ≤ s then -1 else lget p0.f2 s

theorem step_eq {p0 : S30} (hb : Bytes p0) (k : Nat) (s : Int) {c : Int} (h0 : 0 ≤ c) (h1 : c < 256) : dfa_Step k p0 s c = some (stp p0 s c) := by
  have hv := hb c
  have hw : w64 (vget p0.f0 c) = vget p0.f0 c := w64_id (by omega) (by omega)
  unfold dfa_Step stp
  rw [hw]
  by_cases a : s < 0
  · simp [a]
  · by_cases b : (p0.f1.length : Int) ≤ s
    · simp [a, b]
    · have g : 0 ≤ s ∧ s < (p0.f1.length : Int) := ⟨by omega, by omega⟩
      by_cases d : ((lget p0.f1 s).length : Int) ≤ vget p0.f0 c
      · simp [a, b, d, h0, h1, g]
      · simp [a, b, d, h0, h1, g, hv]
theorem mark_eq (p0 : S30) (k : Nat) (s : Int) : dfa_Mark k p0 s = some (mk p0 s) := by
  unfold dfa_Mark mk
  by_cases a : s < 0
  · simp [a]
  · by_cases b : (p0.f2.length : Int) ≤ s
    · simp [a, b]
    · simp [a, b]
theorem stp_neg (p0 : S30) (c : Int) : stp p0 (-1) c = -1 := by simp [stp]
theorem mk_neg (p0 : S30) : mk p0 (-1) = -1 := by simp [mk]
theorem small_l {p0 : S30} (k : Nat) (hn : p0.f1.length ≤ 20) : ∀ (m i : Nat), i ≤ p0.f1.length → p0.f1.length - i < m → ∃ b, bosketlaw08_Small_l1 k p0 m i = some b ∧ (b = true → ∀ j, i ≤ j → (h : j < p0.f1.length) → (p0.f1[j]).length ≤ 256)
  | 0, i, _, h => by omega
  | m + 1, i, hi, h => by
    rw [bosketlaw08_Small_l1.eq_2]
    by_cases a : (i : Int) < (p0.f1.length : Int)
    · have hlt : i < p0.f1.length := by omega
      have hrow : lget p0.f1 (i : Int) = p0.f1[i] := by simp [lget, List.getD, List.getElem?_eq_getElem hlt]
      rw [if_pos a, if_pos ⟨by omega, a⟩, hrow]
      by_cases b : (256 : Int) < ((p0.f1[i]).length : Int)
      · rw [if_pos b]; exact ⟨false, rfl, fun h => by cases h⟩
      · rw [if_neg b, w64_id (by omega) (by omega)]
        obtain ⟨c, h1, h2⟩ := small_l k hn m (i + 1) (by omega) (by omega)
        refine ⟨c, by simpa using h1, fun hc j hj hlt' => ?_⟩
        by_cases e : j = i
        · subst e; omega
        · exact h2 hc j (by omega) hlt'
    · rw [if_neg a]; exact ⟨true, rfl, fun _ j hj hlt => by omega⟩
theorem small_some (p0 : S30) {k : Nat} (hk : 5000 ≤ k) : ∃ b, bosketlaw08_Small k p0 = some b ∧ (b = true → p0.f1.length ≤ 20 ∧ p0.f2.length ≤ 30 ∧ ∀ r ∈ p0.f1, r.length ≤ 256) := by
  unfold bosketlaw08_Small
  by_cases a : (20 : Int) < (p0.f1.length : Int)
  · rw [if_pos a, Option.bind_some, if_pos rfl]; exact ⟨_, rfl, fun h => by cases h⟩
  · rw [if_neg a, Option.bind_some]
    by_cases b : (30 : Int) < (p0.f2.length : Int)
    · rw [if_pos (by simpa using b)]; exact ⟨_, rfl, fun h => by cases h⟩
    · rw [if_neg (by simpa using b)]
      obtain ⟨c, h1, h2⟩ := small_l (p0 := p0) k (by omega) k 0 (by omega) (by omega)
      refine ⟨c, by simpa using h1, fun hc => ⟨by omega, by omega, fun r hr => ?_⟩⟩
      obtain ⟨j, hj, rfl⟩ := List.getElem_of_mem hr
      exact h2 hc j (by omega) hj
end Go.Avl.T5
/- Machines in one state: when they may be, what both answer of them. -/
namespace Go.Avl.T5
open Go Go.RowKit Go.Proofs Go.Avl
set_option linter.all false
set_option maxRecDepth 10000

/-- Of so many numbers from one on: all, some. -/
def allB (p : Nat → Bool) : Nat → Nat → Bool
  | 0, _ => true
  | m + 1, i => p i && allB p m (i + 1)
def anyB' (p : Nat → Bool) : Nat → Nat → Bool
  | 0, _ => false
  | m + 1, i => p i || anyB' p m (i + 1)
theorem allB_iff (p : Nat → Bool) : ∀ (m i : Nat), allB p m i = true ↔ ∀ j, i ≤ j → j < i + m → p j = true
  | 0, i => by simp [allB]; omega
  | m + 1, i => by
    rw [allB, Bool.and_eq_true, allB_iff p m (i + 1)]
    constructor
    · rintro ⟨h1, h2⟩ j hj hj'
      by_cases e : j = i
      · rw [e]; exact h1
      · exact h2 j (by omega) (by omega)
    · intro h
      exact ⟨h i (by omega) (by omega), fun j hj hj' => h j (by omega) (by omega)⟩
theorem anyB_iff (p : Nat → Bool) : ∀ (m i : Nat), anyB' p m i = true ↔ ∃ j, i ≤ j ∧ j < i + m ∧ p j = true
  | 0, i => by simp [anyB']; omega
  | m + 1, i => by
    rw [anyB', Bool.or_eq_true, anyB_iff p m (i + 1)]
    constructor
    · rintro (h | ⟨j, h1, h2, h3⟩)
      · exact ⟨i, by omega, by omega, h⟩
      · exact ⟨j, by omega, by omega, h3⟩
    · rintro ⟨j, h1, h2, h3⟩
      by_cases e : j = i
      · exact .inl (e ▸ h3)
      · exact .inr ⟨j, by omega, by omega, h3⟩
/-- How many classes, after so many bytes. -/
def kc (v : Vector Int 256) : Nat → Int
  | 0 => 0
  | b + 1 => max (kc v b) (vget v (b : Int) + 1)
def kcl (v : Vector Int 256) : Int := kc v 256
def VB (v : Vector Int 256) : Prop := ∀ c : Int, 0 ≤ vget v c ∧ vget v c ≤ 255
theorem kc_rng {v : Vector Int 256} (h : VB v) : ∀ b : Nat, 0 ≤ kc v b ∧ kc v b ≤ 256
  | 0 => by simp [kc]
  | b + 1 => by
    have := kc_rng h b
    have := h (b : Int)
    rw [kc]; omega
theorem kc_lt {v : Vector Int 256} : ∀ (m b : Nat), b < m → vget v (b : Int) < kc v m
  | 0, b, h => by omega
  | m + 1, b, h => by
    rw [kc]
    by_cases e : b = m
    · subst e; omega
    · have := kc_lt (v := v) m b (by omega); omega
theorem kcl_lt {v : Vector Int 256} {b : Nat} (h : b < 256) : vget v (b : Int) < kcl v := kc_lt 256 b h
theorem w64s {x : Int} (h0 : -1000000000000 ≤ x) (h1 : x ≤ 1000000000000) : w64 x = x := w64_id (by omega) (by omega)
theorem count_l {v : Vector Int 256} (h : VB v) : ∀ (m b fuel : Nat), b + m = 256 → m < fuel → byteset_Count_l1 5000 v fuel (kc v b) (b : Int) = some (kcl v)
  | 0, b, f + 1, hb, _ => by
    rw [byteset_Count_l1.eq_2, if_neg (by omega), byteset_Count_c0, show b = 256 by omega]; rfl
  | m + 1, b, f + 1, hb, hf => by
    have h0 := h (b : Int)
    have ih := count_l h m (b + 1) f (by omega) (by omega)
    rw [byteset_Count_l1.eq_2, if_pos (by omega), if_pos ⟨by omega, by omega⟩, w64s (x := vget v (b : Int)) (by omega) (by omega), w64s (by omega) (by omega), w64s (by omega) (by omega)]
    rw [kc] at ih
    exact_mod_cast ih
theorem count_eq {v : Vector Int 256} (h : VB v) : byteset_Count 5000 v = some (kcl v) := count_l h 256 0 5000 (by omega) (by omega)
theorem classes_l {d : S30} (h : VB d.f0) : ∀ (m b fuel : Nat), b + m = 256 → m < fuel → bosketref08_classes_l1 5000 d fuel (kc d.f0 b) (b : Int) = some (kcl d.f0)
  | 0, b, f + 1, hb, _ => by
    rw [bosketref08_classes_l1.eq_2, if_neg (by omega), bosketref08_classes_c0, show b = 256 by omega]; rfl
  | m + 1, b, f + 1, hb, hf => by
    have h0 := h (b : Int)
    have ih := classes_l h m (b + 1) f (by omega) (by omega)
    rw [bosketref08_classes_l1.eq_2, if_pos (by omega), if_pos ⟨by omega, by omega⟩, w64s (x := vget d.f0 (b : Int)) (by omega) (by omega), w64s (by omega) (by omega), w64s (by omega) (by omega)]
    rw [kc] at ih
    exact_mod_cast ih
theorem classes_eq {d : S30} (h : VB d.f0) : bosketref08_classes 5000 d = some (kcl d.f0) := classes_l h 256 0 5000 (by omega) (by omega)
/-! Has each class a byte? -/
def hasB (v : Vector Int 256) (c : Nat) : Bool := anyB' (fun b => decide (vget v (b : Int) = (c : Int))) 256 0
def gapB (v : Vector Int 256) : Bool := allB (hasB v) (kcl v).toNat 0
theorem hasB_iff (v : Vector Int 256) (c : Nat) : hasB v c = true ↔ ∃ b : Nat, b < 256 ∧ vget v (b : Int) = c := by
  unfold hasB
  rw [anyB_iff]
  constructor
  · rintro ⟨b, _, h2, h3⟩; exact ⟨b, by omega, of_decide_eq_true h3⟩
  · rintro ⟨b, h1, h2⟩; exact ⟨b, by omega, by omega, decide_eq_true h2⟩
theorem rgap_l3 {d : S30} (h : VB d.f0) (rec4 : Int → Option Bool) (c : Nat) : ∀ (m b fuel : Nat) (acc : Bool), b + m = 256 → m < fuel →
    bosketref08_gapless_l3 5000 rec4 d (c : Int) fuel acc (b : Int) = bosketref08_gapless_c2 5000 rec4 (c : Int) (acc || anyB' (fun b => decide (vget d.f0 (b : Int) = (c : Int))) m b)
  | 0, b, f + 1, acc, hb, _ => by
    rw [bosketref08_gapless_l3.eq_2, if_neg (by omega), anyB', Bool.or_false]
  | m + 1, b, f + 1, acc, hb, hf => by
    have h0 := h (b : Int)
    have ih := fun acc => rgap_l3 h rec4 c m (b + 1) f acc (by omega) (by omega)
    have g : 0 ≤ (b : Int) ∧ (b : Int) < 256 := ⟨by omega, by omega⟩
    rw [bosketref08_gapless_l3.eq_2, if_pos (by omega), w64s (x := vget d.f0 (b : Int)) (by omega) (by omega), if_pos g]
    have key : (if acc = true then some true else some (decide (vget d.f0 (b : Int) = (c : Int)))) = some (acc || decide (vget d.f0 (b : Int) = (c : Int))) := by cases acc <;> simp
    rw [key, Option.bind_some, w64s (by omega) (by omega), show (b : Int) + 1 = ((b + 1 : Nat) : Int) by omega, ih, anyB', Bool.or_assoc]
theorem rgap_l4 {d : S30} (h : VB d.f0) : ∀ (m c fuel : Nat), (c : Int) + m = kcl d.f0 → m < fuel → bosketref08_gapless_l4 5000 d fuel (c : Int) = some (allB (hasB d.f0) m c)
  | 0, c, f + 1, hc, _ => by
    rw [bosketref08_gapless_l4.eq_2, classes_eq h, Option.bind_some, if_neg (by omega), bosketref08_gapless_c0]; rfl
  | m + 1, c, f + 1, hc, hf => by
    have h1 := kc_rng h 256
    have h2 : kcl d.f0 = kc d.f0 256 := rfl
    have ih := rgap_l4 h m (c + 1) f (by omega) (by omega)
    have e := rgap_l3 h (bosketref08_gapless_l4 5000 d f) c 256 0 5000 false (by omega) (by omega)
    rw [Int.natCast_zero] at e
    rw [bosketref08_gapless_l4.eq_2, classes_eq h, Option.bind_some, if_pos (by omega), e, Bool.false_or, bosketref08_gapless_c2, allB]
    show (if (!hasB d.f0 c) = true then some false else _) = _
    cases hasB d.f0 c with
    | false => rfl
    | true =>
      rw [if_neg (by decide), bosketref08_gapless_c1, w64s (by omega) (by omega), Bool.true_and]
      exact_mod_cast ih
theorem rgap_eq {d : S30} (h : VB d.f0) : bosketref08_gapless 5000 d = some (gapB d.f0) := by
  have h1 := kc_rng h 256
  have h2 : kcl d.f0 = kc d.f0 256 := rfl
  exact rgap_l4 h (kcl d.f0).toNat 0 5000 (by omega) (by omega)
theorem gap_l1 (x : List Bool) (hx : x.length ≤ 1000) : ∀ (m i fuel : Nat), i + m = x.length → m < fuel → dfa_gapless_l1 5000 x fuel (i : Int) = some (allB (fun j => lget x (j : Int)) m i)
  | 0, i, f + 1, hi, _ => by
    rw [dfa_gapless_l1.eq_2, if_neg (by omega)]; rfl
  | m + 1, i, f + 1, hi, hf => by
    have ih := gap_l1 x hx m (i + 1) f (by omega) (by omega)
    rw [dfa_gapless_l1.eq_2, if_pos (by omega), if_pos ⟨by omega, by omega⟩, allB, w64s (by omega) (by omega)]
    cases lget x (i : Int) with
    | false => rfl
    | true => rw [if_neg (by decide), Bool.true_and]; exact_mod_cast ih
theorem lget_lsetB (l : List Bool) (i q : Int) (b : Bool) (h0 : 0 ≤ i) (h1 : i < (l.length : Int)) (hq : 0 ≤ q) : lget (lset l i b) q = if q = i then b else lget l q := by
  unfold lget lset
  rw [List.getD, List.getD, List.getElem?_set]
  by_cases e : i.toNat = q.toNat
  · rw [if_pos e, if_pos (by omega), if_pos (by omega)]; rfl
  · rw [if_neg e, if_neg (by omega)]
theorem lget_repB (N : Nat) (q : Int) : lget (List.replicate N false) q = false := by
  unfold lget
  rw [List.getD, List.getElem?_replicate]
  split <;> rfl
theorem gap_l3 {v : Vector Int 256} (h : VB v) : ∀ (m b fuel : Nat) (x : List Bool), b + m = 256 → m < fuel → x.length = (kcl v).toNat → (∀ c : Nat, lget x (c : Int) = true ↔ ∃ j : Nat, j < b ∧ vget v (j : Int) = c) →
    ∃ y : List Bool, dfa_gapless_l3 5000 v fuel x (b : Int) = dfa_gapless_c2 5000 y ∧ y.length = (kcl v).toNat ∧ ∀ c : Nat, lget y (c : Int) = hasB v c
  | 0, b, f + 1, x, hb, _, hx, hs => by
    rw [dfa_gapless_l3.eq_2, if_neg (by omega)]
    refine ⟨x, rfl, hx, fun c => ?_⟩
    rw [Bool.eq_iff_iff, hs c, hasB_iff, show b = 256 by omega]
  | m + 1, b, f + 1, x, hb, hf, hx, hs => by
    have h0 := h (b : Int)
    have h1 := kc_rng h 256
    have h2 : kcl v = kc v 256 := rfl
    have h3 := kcl_lt (v := v) (b := b) (by omega)
    have hlt : vget v (b : Int) < (x.length : Int) := by omega
    rw [dfa_gapless_l3.eq_2, if_pos (by omega), if_pos ⟨by omega, by omega⟩, if_pos ⟨h0.1, hlt⟩, w64s (by omega) (by omega)]
    have ih := gap_l3 h m (b + 1) f (lset x (vget v (b : Int)) true) (by omega) (by omega) (by rw [lset_len]; exact hx) (fun c => by
      rw [lget_lsetB x _ _ true h0.1 hlt (by omega)]
      constructor
      · intro q
        by_cases e : (c : Int) = vget v (b : Int)
        · exact ⟨b, by omega, e.symm⟩
        · rw [if_neg e] at q
          obtain ⟨j, j1, j2⟩ := (hs c).1 q
          exact ⟨j, by omega, j2⟩
      · rintro ⟨j, j1, j2⟩
        by_cases e : (c : Int) = vget v (b : Int)
        · rw [if_pos e]
        · rw [if_neg e]
          refine (hs c).2 ⟨j, ?_, j2⟩
          by_cases q : j = b
          · subst q; exact absurd j2.symm e
          · omega)
    exact_mod_cast ih
theorem gap_eq {v : Vector Int 256} (h : VB v) : dfa_gapless 5000 v (kcl v) = some (gapB v) := by
  have h1 := kc_rng h 256
  have h2 : kcl v = kc v 256 := rfl
  unfold dfa_gapless
  rw [if_pos ⟨by omega, by omega, by omega⟩]
  obtain ⟨y, y1, y2, y3⟩ := gap_l3 h 256 0 5000 (List.replicate (kcl v).toNat false) (by omega) (by omega) (by simp) (fun c => by rw [lget_repB]; simp)
  rw [Int.natCast_zero] at y1
  rw [y1, dfa_gapless_c2]
  have e := gap_l1 y (by omega) y.length 0 5000 (by omega) (by omega)
  rw [Int.natCast_zero] at e
  rw [e, gapB, y2]
  congr 1
  rw [Bool.eq_iff_iff, allB_iff, allB_iff]
  exact ⟨fun q j a b => by rw [← y3 j]; exact q j a b, fun q j a b => by rw [y3 j]; exact q j a b⟩
/-! Rows. -/
def entB (d : S30) (r : List Int) (c : Nat) : Bool := decide (-1 ≤ lget r (c : Int) ∧ lget r (c : Int) < (d.f1.length : Int))
def rowB (d : S30) (i : Nat) : Bool := decide (((lget d.f1 (i : Int)).length : Int) = kcl d.f0 ∧ -1 ≤ lget d.f2 (i : Int) ∧ lget d.f2 (i : Int) < 32768) && allB (entB d (lget d.f1 (i : Int))) (lget d.f1 (i : Int)).length 0
def rgB (d : S30) : Bool := decide (1 ≤ d.f1.length ∧ d.f2.length = d.f1.length) && gapB d.f0 && allB (rowB d) d.f1.length 0
theorem rright_l2 {d : S30} (rec11 : Int → Option Bool) (i : Nat) (hi : i < d.f1.length) (hl : (lget d.f1 (i : Int)).length ≤ 256) (hn : d.f1.length ≤ 1000) : ∀ (m c fuel : Nat), c + m = (lget d.f1 (i : Int)).length → m < fuel →
    bosketref08_Right_l2 5000 rec11 d (i : Int) fuel (c : Int) = if allB (entB d (lget d.f1 (i : Int))) m c = true then bosketref08_Right_c1 5000 rec11 (i : Int) else some false
  | 0, c, f + 1, hc, _ => by
    rw [bosketref08_Right_l2.eq_2, if_pos ⟨by omega, by omega⟩, if_neg (by omega), allB, if_pos rfl]
  | m + 1, c, f + 1, hc, hf => by
    have ih := rright_l2 rec11 i hi hl hn m (c + 1) f (by omega) (by omega)
    have g : 0 ≤ (i : Int) ∧ (i : Int) < (d.f1.length : Int) := ⟨by omega, by omega⟩
    have g2 : 0 ≤ (c : Int) ∧ (c : Int) < ((lget d.f1 (i : Int)).length : Int) := ⟨by omega, by omega⟩
    rw [bosketref08_Right_l2.eq_2, if_pos g, if_pos g2.2, if_pos g, if_pos g2, if_pos g, if_pos g2]
    have key : (if lget (lget d.f1 (i : Int)) (c : Int) < (-1 : Int) then some true else some (decide ((d.f1.length : Int) ≤ lget (lget d.f1 (i : Int)) (c : Int)))) = some (!entB d (lget d.f1 (i : Int)) c) := by
      unfold entB
      by_cases a : lget (lget d.f1 (i : Int)) (c : Int) < (-1 : Int)
      · rw [if_pos a, decide_eq_false (by omega)]; rfl
      · rw [if_neg a]
        by_cases b : (d.f1.length : Int) ≤ lget (lget d.f1 (i : Int)) (c : Int)
        · rw [decide_eq_true b, decide_eq_false (by omega)]; rfl
        · rw [decide_eq_false b, decide_eq_true (by omega)]; rfl
    rw [key, Option.bind_some, w64s (by omega) (by omega), allB]
    cases entB d (lget d.f1 (i : Int)) c with
    | false => rfl
    | true => rw [if_neg (by decide), Bool.true_and]; exact_mod_cast ih
theorem right_l2 {d : S30} (rec12 : Int → Option Bool) (i : Nat) (hi : i < d.f1.length) (hl : (lget d.f1 (i : Int)).length ≤ 256) (hn : d.f1.length ≤ 1000) : ∀ (m c fuel : Nat), c + m = (lget d.f1 (i : Int)).length → m < fuel →
    dfa_Right_l2 5000 rec12 d (i : Int) fuel (c : Int) = if allB (entB d (lget d.f1 (i : Int))) m c = true then dfa_Right_c1 5000 rec12 (i : Int) else some false
  | 0, c, f + 1, hc, _ => by
    rw [dfa_Right_l2.eq_2, if_neg (by omega), allB, if_pos rfl]
  | m + 1, c, f + 1, hc, hf => by
    have ih := right_l2 rec12 i hi hl hn m (c + 1) f (by omega) (by omega)
    have g2 : 0 ≤ (c : Int) ∧ (c : Int) < ((lget d.f1 (i : Int)).length : Int) := ⟨by omega, by omega⟩
    rw [dfa_Right_l2.eq_2, if_pos g2.2, if_pos g2]
    have key : (if lget (lget d.f1 (i : Int)) (c : Int) < (-1 : Int) then some true else some (decide ((d.f1.length : Int) ≤ lget (lget d.f1 (i : Int)) (c : Int)))) = some (!entB d (lget d.f1 (i : Int)) c) := by
      unfold entB
      by_cases a : lget (lget d.f1 (i : Int)) (c : Int) < (-1 : Int)
      · rw [if_pos a, decide_eq_false (by omega)]; rfl
      · rw [if_neg a]
        by_cases b : (d.f1.length : Int) ≤ lget (lget d.f1 (i : Int)) (c : Int)
        · rw [decide_eq_true b, decide_eq_false (by omega)]; rfl
        · rw [decide_eq_false b, decide_eq_true (by omega)]; rfl
    rw [key, Option.bind_some, w64s (by omega) (by omega), allB]
    cases entB d (lget d.f1 (i : Int)) c with
    | false => rfl
    | true => rw [if_neg (by decide), Bool.true_and]; exact_mod_cast ih
theorem row_key {d : S30} (i : Nat) (hi : i < d.f1.length) (h2 : d.f2.length = d.f1.length) : (if ((lget d.f1 (i : Int)).length : Int) ≠ kcl d.f0 then some true else if 0 ≤ (i : Int) ∧ (i : Int) < (d.f2.length : Int) then if lget d.f2 (i : Int) < (-1 : Int) then some true else if 0 ≤ (i : Int) ∧ (i : Int) < (d.f2.length : Int) then some (decide ((32768 : Int) ≤ lget d.f2 (i : Int))) else none else none) =
    some (!decide (((lget d.f1 (i : Int)).length : Int) = kcl d.f0 ∧ -1 ≤ lget d.f2 (i : Int) ∧ lget d.f2 (i : Int) < 32768)) := by
  have g : 0 ≤ (i : Int) ∧ (i : Int) < (d.f2.length : Int) := ⟨by omega, by omega⟩
  rw [if_pos g, if_pos g]
  by_cases a : ((lget d.f1 (i : Int)).length : Int) = kcl d.f0
  · rw [if_neg (by simpa using a)]
    by_cases b : lget d.f2 (i : Int) < (-1 : Int)
    · rw [if_pos b, decide_eq_false (by omega)]; rfl
    · rw [if_neg b]
      by_cases c : (32768 : Int) ≤ lget d.f2 (i : Int)
      · rw [decide_eq_true c, decide_eq_false (by omega)]; rfl
      · rw [decide_eq_false c, decide_eq_true ⟨a, by omega, by omega⟩]; rfl
  · rw [if_pos a, decide_eq_false (fun q => a q.1)]; rfl
theorem rright_l3 {d : S30} (hv : VB d.f0) (h2 : d.f2.length = d.f1.length) (hl : ∀ r ∈ d.f1, r.length ≤ 256) (hn : d.f1.length ≤ 1000) : ∀ (m i fuel : Nat), i + m = d.f1.length → m < fuel →
    bosketref08_Right_l3 5000 d fuel (i : Int) = some (allB (rowB d) m i)
  | 0, i, f + 1, hi, _ => by
    rw [bosketref08_Right_l3.eq_2, if_neg (by omega)]; rfl
  | m + 1, i, f + 1, hi, hf => by
    have hi' : i < d.f1.length := by omega
    have hr : (lget d.f1 (i : Int)).length ≤ 256 := by rw [lget_lt _ i hi']; exact hl _ (List.getElem_mem hi')
    have ih := rright_l3 hv h2 hl hn m (i + 1) f (by omega) (by omega)
    have e := rright_l2 (bosketref08_Right_l3 5000 d f) i hi' hr hn (lget d.f1 (i : Int)).length 0 5000 (by omega) (by omega)
    rw [Int.natCast_zero] at e
    rw [bosketref08_Right_l3.eq_2, if_pos (by omega), if_pos ⟨by omega, by omega⟩, classes_eq hv, Option.bind_some, row_key i hi' h2, Option.bind_some, e, allB, rowB]
    cases decide (((lget d.f1 (i : Int)).length : Int) = kcl d.f0 ∧ -1 ≤ lget d.f2 (i : Int) ∧ lget d.f2 (i : Int) < 32768) with
    | false => rfl
    | true =>
      rw [if_neg (by decide), Bool.true_and]
      cases allB (entB d (lget d.f1 (i : Int))) (lget d.f1 (i : Int)).length 0 with
      | false => rfl
      | true => rw [if_pos rfl, bosketref08_Right_c1, w64s (by omega) (by omega), Bool.true_and]; exact_mod_cast ih
theorem right_l3 {d : S30} (h2 : d.f2.length = d.f1.length) (hl : ∀ r ∈ d.f1, r.length ≤ 256) (hn : d.f1.length ≤ 1000) : ∀ (m i fuel : Nat), i + m = d.f1.length → m < fuel →
    dfa_Right_l3 5000 d (kcl d.f0) fuel (i : Int) = some (allB (rowB d) m i)
  | 0, i, f + 1, hi, _ => by
    rw [dfa_Right_l3.eq_2, if_neg (by omega)]; rfl
  | m + 1, i, f + 1, hi, hf => by
    have hi' : i < d.f1.length := by omega
    have hr : (lget d.f1 (i : Int)).length ≤ 256 := by rw [lget_lt _ i hi']; exact hl _ (List.getElem_mem hi')
    have ih := right_l3 h2 hl hn m (i + 1) f (by omega) (by omega)
    have e := right_l2 (dfa_Right_l3 5000 d (kcl d.f0) f) i hi' hr hn (lget d.f1 (i : Int)).length 0 5000 (by omega) (by omega)
    rw [Int.natCast_zero] at e
    rw [dfa_Right_l3.eq_2, if_pos (by omega), if_pos ⟨by omega, by omega⟩, row_key i hi' h2, Option.bind_some, e, allB, rowB]
    cases decide (((lget d.f1 (i : Int)).length : Int) = kcl d.f0 ∧ -1 ≤ lget d.f2 (i : Int) ∧ lget d.f2 (i : Int) < 32768) with
    | false => rfl
    | true =>
      rw [if_neg (by decide), Bool.true_and]
      cases allB (entB d (lget d.f1 (i : Int))) (lget d.f1 (i : Int)).length 0 with
      | false => rfl
      | true => rw [if_pos rfl, dfa_Right_c1, w64s (by omega) (by omega), Bool.true_and]; exact_mod_cast ih
theorem rdright_eq {d : S30} (hv : VB d.f0) (hl : ∀ r ∈ d.f1, r.length ≤ 256) (hn : d.f1.length ≤ 1000) : bosketref08_Right 5000 d = some (rgB d) := by
  unfold bosketref08_Right rgB
  by_cases a : (d.f1.length : Int) < 1
  · rw [if_pos a, Option.bind_some, if_pos rfl, decide_eq_false (by omega)]; rfl
  rw [if_neg a, if_neg (by omega)]
  by_cases b : (d.f2.length : Int) = (d.f1.length : Int)
  · rw [if_neg (by simpa using b), rgap_eq hv, Option.bind_some, Option.bind_some, decide_eq_true ⟨by omega, by omega⟩]
    cases gapB d.f0 with
    | false => rfl
    | true =>
      rw [if_neg (by decide)]
      have := rright_l3 hv (by omega) hl hn d.f1.length 0 5000 (by omega) (by omega)
      simpa using this
  · rw [if_pos b, Option.bind_some, if_pos rfl, decide_eq_false (by omega)]; rfl
theorem dright_eq {d : S30} (hv : VB d.f0) (hl : ∀ r ∈ d.f1, r.length ≤ 256) (hn : d.f1.length ≤ 1000) : dfa_Right 5000 d = some (rgB d) := by
  unfold dfa_Right rgB
  by_cases a : (d.f1.length : Int) = 0
  · rw [if_pos a, Option.bind_some, if_pos rfl, decide_eq_false (by omega)]; rfl
  rw [if_neg a, if_neg (by omega)]
  by_cases b : (d.f2.length : Int) = (d.f1.length : Int)
  · rw [decide_eq_false (by simpa using b), Option.bind_some, if_neg (by decide), count_eq hv, Option.bind_some, gap_eq hv, Option.bind_some, decide_eq_true ⟨by omega, by omega⟩]
    cases gapB d.f0 with
    | false => rfl
    | true =>
      rw [if_neg (by decide)]
      have := right_l3 (by omega) hl hn d.f1.length 0 5000 (by omega) (by omega)
      simpa using this
  · rw [decide_eq_true b, Option.bind_some, if_pos rfl, decide_eq_false (by omega)]; rfl
/-- A machine that may be, not too large. -/
structure Dr (d : S30) : Prop where
  n1 : 1 ≤ d.f1.length
  n2 : d.f1.length ≤ 1000
  ml : d.f2.length = d.f1.length
  vb : VB d.f0
  gap : ∀ c : Nat, (c : Int) < kcl d.f0 → ∃ b : Nat, b < 256 ∧ vget d.f0 (b : Int) = c
  row : ∀ r ∈ d.f1, (r.length : Int) = kcl d.f0
  ent : ∀ r ∈ d.f1, ∀ x ∈ r, -1 ≤ x ∧ x < (d.f1.length : Int)
  mark : ∀ m ∈ d.f2, -1 ≤ m ∧ m < 32768
theorem lget_mem {α : Type} [Inhabited α] {l : List α} {x : α} (h : x ∈ l) : ∃ j : Nat, j < l.length ∧ lget l (j : Int) = x := by
  obtain ⟨j, hj, rfl⟩ := List.getElem_of_mem h
  exact ⟨j, hj, lget_lt l j hj⟩
theorem mem_lget {α : Type} [Inhabited α] {l : List α} {i : Int} (h0 : 0 ≤ i) (h1 : i < (l.length : Int)) : lget l i ∈ l := by
  have : lget l i = l[i.toNat]'(by omega) := by
    have := lget_lt l i.toNat (by omega)
    rwa [Int.toNat_of_nonneg h0] at this
  rw [this]; exact List.getElem_mem _
theorem rgB_iff {d : S30} (hv : VB d.f0) (hn : d.f1.length ≤ 1000) : rgB d = true ↔ Dr d := by
  have hk := kc_rng hv 256
  have hk2 : kcl d.f0 = kc d.f0 256 := rfl
  simp only [rgB, Bool.and_eq_true, decide_eq_true_eq, gapB, allB_iff, rowB, entB]
  constructor
  · rintro ⟨⟨⟨h1, h2⟩, h3⟩, h4⟩
    refine ⟨h1, hn, h2, hv, fun c hc => (hasB_iff _ c).1 (h3 c (by omega) (by omega)), fun r hr => ?_, fun r hr x hx => ?_, fun m hm => ?_⟩
    · obtain ⟨j, hj, rfl⟩ := lget_mem hr
      exact (h4 j (by omega) (by omega)).1.1
    · obtain ⟨j, hj, rfl⟩ := lget_mem hr
      obtain ⟨c, hc, rfl⟩ := lget_mem hx
      exact (h4 j (by omega) (by omega)).2 c (by omega) (by omega)
    · obtain ⟨j, hj, rfl⟩ := lget_mem hm
      exact (h4 j (by omega) (by omega)).1.2
  · intro h
    refine ⟨⟨⟨h.n1, h.ml⟩, fun j _ hj => (hasB_iff _ j).2 (h.gap j (by omega))⟩, fun j _ hj => ?_⟩
    have hr : lget d.f1 (j : Int) ∈ d.f1 := mem_lget (by omega) (by omega)
    have hm := h.ml
    exact ⟨⟨h.row _ hr, h.mark _ (mem_lget (by omega) (by omega))⟩, fun c _ hc => h.ent _ hr _ (mem_lget (by omega) (by omega))⟩
theorem Dr.rg {d : S30} (h : Dr d) : rgB d = true := (rgB_iff h.vb h.n2).2 h
theorem Dr.row256 {d : S30} (h : Dr d) : ∀ r ∈ d.f1, r.length ≤ 256 := fun r hr => by
  have h1 := kc_rng h.vb 256
  have h2 : kcl d.f0 = kc d.f0 256 := rfl
  have := h.row r hr
  omega
theorem Dr.right {d : S30} (h : Dr d) : dfa_Right 5000 d = some true := by rw [dright_eq h.vb h.row256 h.n2, h.rg]
theorem Dr.rowk {d : S30} (h : Dr d) {i : Int} (h0 : 0 ≤ i) (h1 : i < (d.f1.length : Int)) : ((lget d.f1 i).length : Int) = kcl d.f0 := h.row _ (mem_lget h0 h1)
end Go.Avl.T5
/- lang: the bytes of a class; classes of some sets. -/
namespace Go.Avl.T5
open Go Go.RowKit Go.Proofs Go.Avl
set_option linter.all false
set_option maxRecDepth 10000

theorem or_l {a c : Vector Int 4} (ha : U a) (hc : U c) : ∀ (m i fuel : Nat) (x : Vector Int 4), i + m = 4 → m < fuel → (∀ j : Nat, j < 4 → vget x (j : Int) = if j < i then ((wd a j ||| wd c j : Nat) : Int) else vget a (j : Int)) →
    ∃ y, byteset_Or_l1 5000 c fuel x (i : Int) = some y ∧ ∀ j : Nat, j < 4 → vget y (j : Int) = ((wd a j ||| wd c j : Nat) : Int)
  | 0, i, f + 1, x, h, _, hx => by
    rw [byteset_Or_l1.eq_2, if_neg (by omega), byteset_Or_c0]
    exact ⟨x, rfl, fun j hj => by rw [hx j hj, if_pos (by omega)]⟩
  | m + 1, i, f + 1, x, h, hf, hx => by
    have hi : i < 4 := by omega
    obtain ⟨e1, l1⟩ := wd_eq ha i hi
    obtain ⟨e2, l2⟩ := wd_eq hc i hi
    rw [byteset_Or_l1.eq_2, if_pos (by omega), if_pos ⟨by omega, by omega⟩, if_pos ⟨by omega, by omega⟩, if_pos ⟨by omega, by omega⟩, hx i hi, if_neg (by omega), e1, e2, bits_or_u64_nat _ _ l1 l2, w6 (by omega) (by omega)]
    obtain ⟨y, y1, y2⟩ := or_l ha hc m (i + 1) f (vset x (i : Int) ((wd a i ||| wd c i : Nat) : Int)) (by omega) (by omega) (fun j hj => by
      rw [vget_vset _ _ _ _ hi hj]
      by_cases q : j = i
      · subst q; rw [if_pos rfl, if_pos (by omega)]
      · rw [if_neg q, hx j hj]
        by_cases r : j < i
        · rw [if_pos r, if_pos (by omega)]
        · rw [if_neg r, if_neg (by omega)])
    exact ⟨y, by exact_mod_cast y1, y2⟩
theorem or_eq {a c : Vector Int 4} (ha : U a) (hc : U c) : ∃ y, byteset_Or 5000 a c = some y ∧ U y ∧ ∀ x, x < 256 → tb y x = (tb a x || tb c x) := by
  obtain ⟨y, y1, y2⟩ := or_l ha hc 4 0 5000 a (by omega) (by omega) (fun j _ => by rw [if_neg (by omega)])
  refine ⟨y, y1, fun j hj => ?_, fun x hx => ?_⟩
  · rw [y2 j hj]
    have h1 := (wd_eq ha j hj).2
    have h2 := (wd_eq hc j hj).2
    have := Nat.or_lt_two_pow (n := 64) h1 h2
    omega
  · unfold tb
    rw [← Nat.testBit_or]
    congr 1
    show (vget y ((x / 64 : Nat) : Int)).toNat = _
    rw [y2 (x / 64) (by omega), Int.toNat_natCast]
theorem of1_l {b : Nat} (hb : b < 256) (f : Nat) : ∃ y, byteset_Of_l1 5000 [(b : Int)] (f + 2) (Vector.replicate 4 (0 : Int)) 0 = some y ∧ U y ∧ ∀ x, x < 256 → tb y x = decide (x = b) := by
  have hg : lget [(b : Int)] 0 = (b : Int) := rfl
  rw [byteset_Of_l1.eq_2, if_pos (by simp), if_pos ⟨by omega, by simp⟩, hg, ix_u8 b hb, if_pos ⟨by omega, by omega⟩, tmod64, if_pos (by omega), if_pos ⟨by omega, by omega⟩, byteset_Of_l1.eq_2, if_neg (by simp [w6]), byteset_Of_c0, Int.toNat_natCast]
  obtain ⟨h1, h2⟩ := put_bit U_zero hb _ rfl
  exact ⟨_, rfl, h1, fun x hx => by rw [h2 x hx, tb_zero x hx, Bool.false_or]⟩
theorem of1_eq {b : Nat} (hb : b < 256) : ∃ y, byteset_Of 5000 [(b : Int)] = some y ∧ U y ∧ ∀ x, x < 256 → tb y x = decide (x = b) := of1_l hb 4998
theorem class_l {d : S30} (hv : VB d.f0) (c : Int) : ∀ (m b fuel : Nat) (y : Vector Int 4), b + m = 256 → m < fuel → U y → (∀ x, x < 256 → tb y x = decide (x < b ∧ vget d.f0 (x : Int) = c)) →
    ∃ z, lang_class_l2 5000 d c fuel y (b : Int) = some z ∧ U z ∧ ∀ x, x < 256 → tb z x = decide (vget d.f0 (x : Int) = c)
  | 0, b, f + 1, y, h, _, hu, hy => by
    rw [lang_class_l2.eq_2, if_neg (by omega), lang_class_c0]
    exact ⟨y, rfl, hu, fun x hx => by rw [hy x hx, decide_eq_decide]; exact ⟨fun k => k.2, fun k => ⟨by omega, k⟩⟩⟩
  | m + 1, b, f + 1, y, h, hf, hu, hy => by
    have hb : b < 256 := by omega
    have hvb := hv (b : Int)
    rw [lang_class_l2.eq_2, if_pos (by omega), if_pos ⟨by omega, by omega⟩, w6 (x := vget d.f0 (b : Int)) (by omega) (by omega)]
    have go : ∀ z, U z → (∀ x, x < 256 → tb z x = decide (x < b + 1 ∧ vget d.f0 (x : Int) = c)) → ∃ z', lang_class_c1 5000 (lang_class_l2 5000 d c f) (b : Int) z = some z' ∧ U z' ∧ ∀ x, x < 256 → tb z' x = decide (vget d.f0 (x : Int) = c) := by
      intro z h1 h2
      obtain ⟨z', k1, k2⟩ := class_l hv c m (b + 1) f z (by omega) (by omega) h1 h2
      refine ⟨z', ?_, k2⟩
      unfold lang_class_c1
      rw [w6 (by omega) (by omega)]
      exact_mod_cast k1
    by_cases q : vget d.f0 (b : Int) = c
    · rw [if_pos q, w8_id (by omega) (by omega)]
      obtain ⟨o, o1, o2, o3⟩ := of1_eq hb
      obtain ⟨z, z1, z2, z3⟩ := or_eq hu o2
      rw [o1, Option.bind_some, z1, Option.bind_some]
      refine go z z2 (fun x hx => ?_)
      rw [z3 x hx, hy x hx, o3 x hx, ← Bool.decide_or, decide_eq_decide]
      constructor
      · rintro (k | k)
        · exact ⟨by omega, k.2⟩
        · subst k; exact ⟨by omega, q⟩
      · rintro ⟨k1, k2⟩
        by_cases e : x = b
        · exact .inr e
        · exact .inl ⟨by omega, k2⟩
    · rw [if_neg q]
      refine go y hu (fun x hx => ?_)
      rw [hy x hx, decide_eq_decide]
      constructor
      · exact fun k => ⟨by omega, k.2⟩
      · rintro ⟨k1, k2⟩
        refine ⟨?_, k2⟩
        by_cases e : x = b
        · subst e; exact absurd k2 q
        · omega
theorem class_eq {d : S30} (hv : VB d.f0) (c : Int) : ∃ z, lang_class 5000 d c = some z ∧ U z ∧ ∀ x, x < 256 → tb z x = decide (vget d.f0 (x : Int) = c) :=
  class_l hv c 256 0 5000 (Vector.replicate 4 0) (by omega) (by omega) U_zero (fun x hx => by rw [tb_zero x hx]; exact (decide_eq_false (fun k => by omega)).symm)
/-- The sets of the classes from one on. -/
def CS (d : S30) (lo : Nat) (l : List (Vector Int 4)) : Prop := ∀ j (h : j < l.length), U l[j] ∧ ∀ x, x < 256 → tb l[j] x = decide (vget d.f0 (x : Int) = ((lo + j : Nat) : Int))
theorem CS.cons {d : S30} {lo : Nat} {t : Vector Int 4} {l : List (Vector Int 4)} (hu : U t) (ht : ∀ x, x < 256 → tb t x = decide (vget d.f0 (x : Int) = (lo : Int))) (h : CS d (lo + 1) l) : CS d lo (t :: l) := by
  intro j hj
  cases j with
  | zero => exact ⟨hu, ht⟩
  | succ j =>
    have := h j (by simpa using hj)
    simp only [List.getElem_cons_succ]
    rw [show lo + (j + 1) = lo + 1 + j by omega]
    exact this
theorem keys_ex (L : List (Vector Int 4)) (hL : ∀ a ∈ L, U a) (hn : L.length ≤ 1000) : ∃ kk : Nat → ByteArray, (∀ b : Nat, b < 256 → byteset_key 5000 L (b : Int) = some (kk b)) ∧ ∀ b c : Nat, b < 256 → c < 256 → (kk b = kk c ↔ ∀ x, sg L b x = sg L c x) := by
  let kk : Nat → ByteArray := fun b => (byteset_key 5000 L (b : Int)).getD ByteArray.empty
  have hkk : ∀ b : Nat, b < 256 → ∃ row, byteset_key 5000 L (b : Int) = some (strOfNums row) ∧ kk b = strOfNums row ∧ Row8 L b ((L.length + 7) / 8) L.length row := by
    intro b hb
    obtain ⟨row, e, hr⟩ := key_eq L hL hn b hb
    exact ⟨row, e, by show (byteset_key 5000 L (b : Int)).getD _ = _; rw [e]; rfl, hr⟩
  refine ⟨kk, ?_, ?_⟩
  · intro b hb
    obtain ⟨row, e, e2, _⟩ := hkk b hb
    rw [e, e2]
  · intro b c hb hc
    obtain ⟨r, _, e1, h1⟩ := hkk b hb
    obtain ⟨s, _, e2, h2⟩ := hkk c hc
    rw [e1, e2]
    exact row_iff (by omega) h1 h2
section
variable {kk : Nat → ByteArray}
theorem classes_ex {L : List (Vector Int 4)} (hk : ∀ b : Nat, b < 256 → byteset_key 5000 L (b : Int) = some (kk b)) : ∃ v, byteset_Classes 5000 L = some v ∧ ∀ c : Nat, c < 256 → vget v (c : Int) = (ck kk c : Int) := by
  obtain ⟨v, v1, v2⟩ := bclasses_l kk hk 256 0 5000 (Vector.replicate 256 0) [] (by omega) (by omega) ⟨rfl, fun c hc => by omega, fun s _ => rfl⟩ (fun c hc => by omega)
  exact ⟨v, v1, v2⟩
theorem nc_repq {r b : Nat} (hr : rc kk r = r) (h : r < b) : nc kk r < nc kk b := by
  have h1 := nc_mono kk (show r + 1 ≤ b by omega)
  rw [nc, if_pos hr] at h1
  omega
theorem nc_ex {c : Nat} : ∀ m : Nat, c < nc kk m → ∃ r, r < m ∧ rc kk r = r ∧ nc kk r = c
  | 0, h => by simp [nc] at h
  | m + 1, h => by
    rw [nc] at h
    by_cases q : c < nc kk m
    · obtain ⟨r, h1, h2⟩ := nc_ex m q
      exact ⟨r, by omega, h2⟩
    · by_cases e : rc kk m = m
      · rw [if_pos e] at h; exact ⟨m, by omega, e, by omega⟩
      · rw [if_neg e] at h; omega
theorem kcl_nc {v : Vector Int 256} (hv : VB v) (h : ∀ c : Nat, c < 256 → vget v (c : Int) = (ck kk c : Int)) : kcl v = (nc kk 256 : Int) := by
  have h1 := count_eq hv
  have h2 := bcount_l kk v h 256 0 5000 (by omega) (by omega)
  have h3 : byteset_Count 5000 v = some (nc kk 256 : Int) := h2
  rw [h1] at h3
  exact Option.some.inj h3
theorem ck_first {b : Nat} : ck kk b = nc kk b ↔ rc kk b = b := by
  constructor
  · intro h
    by_cases q : rc kk b = b
    · exact q
    · have := nc_repq (rc_rc kk b) (show rc kk b < b by have := (rc_spec kk b).1; omega)
      unfold ck at h; omega
  · intro h; unfold ck; rw [h]
theorem ck_rep {b : Nat} (h : rc kk b = b) : ck kk b = nc kk b := ck_first.2 h
theorem ck_ltq {b : Nat} (hb : b < 256) : ck kk b < nc kk 256 := by
  unfold ck
  exact nc_repq (rc_rc kk b) (by have := (rc_spec kk b).1; omega)
end
end Go.Avl.T5
/- Machines in one state: which states are reached, from which a mark is reached. -/
namespace Go.Avl.T5
open Go Go.RowKit Go.Proofs Go.Avl
set_option linter.all false
set_option maxRecDepth 10000

abbrev rw' (d : S30) (p : Int) : List Int := lget d.f1 p
/-- Reached from a state. -/
inductive DR (d : S30) (s : Int) : Int → Prop
  | refl : DR d s s
  | step {p : Int} {c : Nat} : DR d s p → (c : Int) < ((rw' d p).length : Int) → 0 ≤ lget (rw' d p) (c : Int) → DR d s (lget (rw' d p) (c : Int))
theorem DR.trans {d : S30} {s p q : Int} (h : DR d s p) (k : DR d p q) : DR d s q := by
  induction k with
  | refl => exact h
  | step _ hc h0 ih => exact .step ih hc h0
/-- One row within another one. -/
def LE (x y : List Bool) : Prop := ∀ q : Int, 0 ≤ q → lget x q = true → lget y q = true
theorem LE.refl (x : List Bool) : LE x x := fun _ _ h => h
theorem LE.trans {x y z : List Bool} (h : LE x y) (k : LE y z) : LE x z := fun q h0 h1 => k q h0 (h q h0 h1)
theorem LE.set {x : List Bool} {i : Int} (h0 : 0 ≤ i) (h1 : i < (x.length : Int)) : LE x (lset x i true) := fun q hq h => by
  rw [lget_lsetB x i q true h0 h1 hq]
  split
  · rfl
  · exact h
/-! The program's walk: an open list. -/
def ps1 (s : List Bool × List Int) (q : Int) : List Bool × List Int := if 0 ≤ q ∧ lget s.1 q = false then (lset s.1 q true, s.2 ++ [q]) else s
def ps (l : List Int) (s : List Bool × List Int) : List Bool × List Int := l.foldl ps1 s
/-! The document's walk: rounds. -/
def sL (l : List Int) (x : List Bool) : List Bool := l.foldl (fun x q => if 0 ≤ q then lset x q true else x) x
def rp (d : S30) (i : Nat) (x : List Bool) : List Bool := if lget x (i : Int) = true then sL (rw' d i) x else x
end Go.Avl.T5
/- Machines in one state: alive, trimmed, alike. -/
namespace Go.Avl.T5
open Go Go.RowKit Go.Proofs Go.Avl
set_option linter.all false
set_option maxRecDepth 10000

/-! The program's walk. -/
def hit (d : S30) (x : List Bool) (r : List Int) : Bool := r.any fun q => decide (0 ≤ q) && lget x q
/-! Alike. -/
end Go.Avl.T5
/- Machines in one state: put in order. -/
namespace Go.Avl.T5
open Go Go.RowKit Go.Proofs Go.Avl
set_option linter.all false
set_option maxRecDepth 10000

/-- The place of a number, from a place on; -1. -/
def plc : List Int → Int → Int → Int
  | [], _, _ => -1
  | y :: l, x, i => if y = x then i else plc l x (i + 1)
def pl (l : List Int) (x : Int) : Int := plc l x 0
theorem nodup_len : ∀ (n : Nat) (L : List Int), L.Nodup → (∀ x ∈ L, 0 ≤ x ∧ x < (n : Int)) → L.length ≤ n
  | 0, L, _, h => by
    cases L with
    | nil => simp
    | cons x L => have := h x (by simp); omega
  | n + 1, L, hn, h => by
    have ih := nodup_len n (L.erase (n : Int)) (hn.erase _) (fun x hx => by
      rw [hn.mem_erase_iff] at hx
      have := h x hx.2
      omega)
    by_cases q : (n : Int) ∈ L
    · rw [List.length_erase_of_mem q] at ih; omega
    · rw [List.erase_of_not_mem q] at ih; omega
structure OI (d : S30) (L : List Int) (i : Nat) : Prop where
  nd : L.Nodup
  rng : ∀ x ∈ L, 0 ≤ x ∧ x < (d.f1.length : Int)
  rch : ∀ x ∈ L, DR d 0 x
  cls : ∀ j : Nat, j < i → ∀ x ∈ rw' d (lget L (j : Int)), 0 ≤ x → x ∈ L
  le : i ≤ L.length
  hd : ∃ m, L = 0 :: m
theorem OI.len {d : S30} {L : List Int} {i : Nat} (h : OI d L i) : L.length ≤ d.f1.length := nodup_len _ L h.nd h.rng
theorem OI.start {d : S30} (h : Dr d) : OI d [0] 0 :=
  ⟨by simp, fun x hx => by have := h.n1; have e : x = 0 := by simpa using hx
                           subst e; omega, fun x hx => by have e : x = 0 := by simpa using hx
                                                          subst e; exact .refl, fun j hj => by omega, by simp, ⟨[], rfl⟩⟩
end Go.Avl.T5
/- Machines in one state: the marks of texts stay when a machine is trimmed, and put in order. -/
namespace Go.Avl.T5
open Go Go.RowKit Go.Proofs Go.Avl
set_option linter.all false
set_option maxRecDepth 10000

/-- The state after so many bytes. -/
def rn (d : S30) (q : Int) (s : ByteArray) : Nat → Int
  | 0 => q
  | i + 1 => stp d (rn d q s i) (byteAt s i)
/-- The mark of a text. -/
def hs (d : S30) (s : ByteArray) : Int := mk d (rn d 0 s s.size)
theorem stp_in {d : S30} (h : Dr d) {q c : Int} (h0 : 0 ≤ q) (h1 : q < (d.f1.length : Int)) (c0 : 0 ≤ c) (c1 : c < 256) :
    0 ≤ vget d.f0 c ∧ vget d.f0 c < ((rw' d q).length : Int) ∧ stp d q c = lget (rw' d q) (vget d.f0 c) := by
  obtain ⟨b, rfl⟩ := Int.eq_ofNat_of_zero_le c0
  have hk := h.rowk h0 h1
  have hb := h.vb (b : Int)
  have hl := kcl_lt (v := d.f0) (b := b) (by omega)
  have hlt : vget d.f0 (b : Int) < ((rw' d q).length : Int) := by show _ < ((lget d.f1 q).length : Int); omega
  refine ⟨hb.1, hlt, ?_⟩
  have hlt' : vget d.f0 (b : Int) < ((lget d.f1 q).length : Int) := hlt
  unfold stp
  rw [if_neg (by omega)]
theorem stp_rng {d : S30} (h : Dr d) {q c : Int} (hq : -1 ≤ q ∧ q < (d.f1.length : Int)) (c0 : 0 ≤ c) (c1 : c < 256) : -1 ≤ stp d q c ∧ stp d q c < (d.f1.length : Int) := by
  have h1 := h.n1
  by_cases a : q = -1
  · rw [a, stp_neg]; omega
  · obtain ⟨k1, k2, k3⟩ := stp_in h (q := q) (c := c) (by omega) (by omega) c0 c1
    rw [k3]
    exact h.ent _ (mem_lget (by omega) hq.2) _ (mem_lget k1 k2)
end Go.Avl.T5
/- lang: two machines together; rows. -/
namespace Go.Avl.T5
open Go Go.RowKit Go.Proofs Go.Avl
set_option linter.all false
set_option maxRecDepth 10000

theorem kcl_256 {v : Vector Int 256} (h : VB v) : 0 ≤ kcl v ∧ kcl v ≤ 256 := kc_rng h 256
theorem psets_b (how : Int) {a b : S30} (hv : VB b.f0) : ∀ (m i fuel : Nat) (L : List (Vector Int 4)), ((i + m : Nat) : Int) = kcl b.f0 → m < fuel → L.length + m ≤ 1000 →
    ∃ l, lang_Pair_l8 5000 how a b (kcl b.f0) fuel L (i : Int) = lang_Pair_c7 5000 how a b (L ++ l) ∧ l.length = m ∧ CS b i l
  | 0, i, f + 1, L, h, _, hl => by
    rw [lang_Pair_l8.eq_2, if_neg (by omega)]
    exact ⟨[], by rw [List.append_nil], rfl, fun j hj => absurd hj (by simp)⟩
  | m + 1, i, f + 1, L, h, hf, hl => by
    have hk := kcl_256 hv
    obtain ⟨t, t1, t2, t3⟩ := class_eq hv (i : Int)
    obtain ⟨l, e, e2, e3⟩ := psets_b how (a := a) hv m (i + 1) f (L ++ [t]) (by omega) (by omega) (by simp; omega)
    rw [lang_Pair_l8.eq_2, if_pos (by omega), t1, Option.bind_some, if_pos (by simp; omega), w6 (by omega) (by omega)]
    refine ⟨t :: l, ?_, by simp [e2], CS.cons t2 t3 e3⟩
    rw [List.append_assoc] at e
    exact_mod_cast e
theorem psets_a (how : Int) {a b : S30} (hv : VB a.f0) : ∀ (m i fuel : Nat) (L : List (Vector Int 4)), ((i + m : Nat) : Int) = kcl a.f0 → m < fuel → L.length + m ≤ 1000 →
    ∃ l, lang_Pair_l10 5000 how a b (kcl a.f0) fuel L (i : Int) = lang_Pair_c9 5000 how a b (L ++ l) ∧ l.length = m ∧ CS a i l
  | 0, i, f + 1, L, h, _, hl => by
    rw [lang_Pair_l10.eq_2, if_neg (by omega)]
    exact ⟨[], by rw [List.append_nil], rfl, fun j hj => absurd hj (by simp)⟩
  | m + 1, i, f + 1, L, h, hf, hl => by
    have hk := kcl_256 hv
    obtain ⟨t, t1, t2, t3⟩ := class_eq hv (i : Int)
    obtain ⟨l, e, e2, e3⟩ := psets_a how (b := b) hv m (i + 1) f (L ++ [t]) (by omega) (by omega) (by simp; omega)
    rw [lang_Pair_l10.eq_2, if_pos (by omega), t1, Option.bind_some, if_pos (by simp; omega), w6 (by omega) (by omega)]
    refine ⟨t :: l, ?_, by simp [e2], CS.cons t2 t3 e3⟩
    rw [List.append_assoc] at e
    exact_mod_cast e
/-- What the classes of both are good for. -/
structure KBq (a b : S30) (kk : Nat → ByteArray) : Prop where
  sa : ∀ x y : Nat, x < 256 → y < 256 → kk x = kk y → vget a.f0 (x : Int) = vget a.f0 (y : Int)
  sb : ∀ x y : Nat, x < 256 → y < 256 → kk x = kk y → vget b.f0 (x : Int) = vget b.f0 (y : Int)
theorem CS.U {d : S30} {lo : Nat} {l : List (Vector Int 4)} (h : CS d lo l) : ∀ t ∈ l, U t := fun t ht => by
  obtain ⟨j, hj, rfl⟩ := List.getElem_of_mem ht
  exact (h j hj).1
theorem psets (how : Int) {a b : S30} (ha : VB a.f0) (hb : VB b.f0) : ∃ (L : List (Vector Int 4)) (kk : Nat → ByteArray) (v : Vector Int 256), lang_Pair_l10 5000 how a b (kcl a.f0) 5000 [] 0 = lang_Pair_c7 5000 how a b L ∧ byteset_Classes 5000 L = some v ∧ (∀ c : Nat, c < 256 → vget v (c : Int) = (ck kk c : Int)) ∧ KBq a b kk := by
  have h1 := kcl_256 ha
  have h2 := kcl_256 hb
  obtain ⟨la, a1, a2, a3⟩ := psets_a how (b := b) ha (kcl a.f0).toNat 0 5000 [] (by omega) (by omega) (by simp; omega)
  obtain ⟨lb, b1, b2, b3⟩ := psets_b how (a := a) hb (kcl b.f0).toNat 0 5000 ([] ++ la) (by omega) (by omega) (by simp; omega)
  have hU : ∀ t ∈ la ++ lb, T5.U t := fun t ht => (List.mem_append.1 ht).elim (a3.U t) (b3.U t)
  obtain ⟨kk, k1, k2⟩ := keys_ex (la ++ lb) hU (by simp; omega)
  obtain ⟨v, v1, v2⟩ := classes_ex k1
  refine ⟨la ++ lb, kk, v, ?_, v1, v2, ?_, ?_⟩
  · rw [show ((0 : Nat) : Int) = 0 from rfl] at a1 b1
    rw [a1]
    unfold lang_Pair_c9
    rw [count_eq hb, Option.bind_some, b1, List.nil_append]
  · intro x y hx hy e
    have hs := (k2 x y hx hy).1 e
    have hvx := ha (x : Int)
    have hl := kcl_lt (v := a.f0) hx
    generalize hc : (vget a.f0 (x : Int)).toNat = c
    have hc' : c < la.length := by omega
    have := hs c
    unfold sg at this
    rw [decide_eq_true (by simp; omega), Bool.true_and, Bool.true_and, List.getD, List.getElem?_append_left hc', List.getElem?_eq_getElem hc', Option.getD_some, (a3 c hc').2 x hx, (a3 c hc').2 y hy, decide_eq_true (by omega)] at this
    have := of_decide_eq_true this.symm
    omega
  · intro x y hx hy e
    have hs := (k2 x y hx hy).1 e
    have hvx := hb (x : Int)
    have hl := kcl_lt (v := b.f0) hx
    generalize hc : (vget b.f0 (x : Int)).toNat = c
    have hc' : c < lb.length := by omega
    have := hs (la.length + c)
    unfold sg at this
    rw [decide_eq_true (by simp; omega), Bool.true_and, Bool.true_and, List.getD, List.getElem?_append_right (by omega), Nat.add_sub_cancel_left, List.getElem?_eq_getElem hc', Option.getD_some, (b3 c hc').2 x hx, (b3 c hc').2 y hy, decide_eq_true (by omega)] at this
    have := of_decide_eq_true this.symm
    omega
/-- Where a byte leads a pair. -/
def pst (a b : S30) (p : S128) (x : Nat) : S128 := ⟨stp a p.f0 (x : Int), stp b p.f1 (x : Int)⟩
theorem stp_class {d : S30} {x y : Int} (h : vget d.f0 x = vget d.f0 y) (s : Int) : stp d s x = stp d s y := by unfold stp; rw [h]
theorem KBq.pst {a b : S30} {kk : Nat → ByteArray} (h : KBq a b kk) {x : Nat} (hx : x < 256) (p : S128) : pst a b p (rc kk x) = pst a b p x := by
  obtain ⟨r1, r2, _⟩ := rc_spec kk x
  unfold T5.pst
  rw [stp_class (h.sa _ _ (by omega) hx r2), stp_class (h.sb _ _ (by omega) hx r2)]
/-- The pairs and their numbers. -/
structure PR (a b : S30) (R : List S128) (m : List (S128 × Int)) : Prop where
  nd : R.Nodup
  rng : ∀ q ∈ R, (-1 ≤ q.f0 ∧ q.f0 < (a.f1.length : Int)) ∧ -1 ≤ q.f1 ∧ q.f1 < (b.f1.length : Int)
  mp : ∀ (q : S128) (n : Nat), R[n]? = some q → mget m q = some (n : Int)
  mn : ∀ q : S128, q ∉ R → mget m q = none
def Ext (R R' : List S128) : Prop := ∀ (n : Nat) (q : S128), R[n]? = some q → R'[n]? = some q
theorem Ext.refl (R : List S128) : Ext R R := fun _ _ h => h
theorem Ext.trans {R S T : List S128} (h : Ext R S) (k : Ext S T) : Ext R T := fun n q e => k n q (h n q e)
theorem Ext.app (R S : List S128) : Ext R (R ++ S) := fun n q e => by
  have : n < R.length := (List.getElem?_eq_some_iff.1 e).1
  rw [List.getElem?_append_left this, e]
theorem Ext.le {R S : List S128} (h : Ext R S) : R.length ≤ S.length := by
  by_cases q : R.length = 0
  · omega
  · have := h (R.length - 1) _ (List.getElem?_eq_getElem (by omega))
    have := (List.getElem?_eq_some_iff.1 this).1
    omega
theorem PR.add {a b : S30} {R : List S128} {m : List (S128 × Int)} (h : PR a b R m) {q : S128} (hq : q ∉ R) (hr : (-1 ≤ q.f0 ∧ q.f0 < (a.f1.length : Int)) ∧ -1 ≤ q.f1 ∧ q.f1 < (b.f1.length : Int)) : PR a b (R ++ [q]) (mput m q (R.length : Int)) where
  nd := by
    rw [List.nodup_append]
    refine ⟨h.nd, by simp, fun x hx y hy => ?_⟩
    have : y = q := by simpa using hy
    subst this
    intro e; subst e; exact hq hx
  rng := fun x hx => (List.mem_append.1 hx).elim (h.rng x) fun k => by
    have : x = q := by simpa using k
    subst this; exact hr
  mp := fun x n hx => by
    rw [mget_mput]
    by_cases e : n < R.length
    · rw [List.getElem?_append_left e] at hx
      rw [if_neg (fun k => hq (by rw [k]; exact List.mem_of_getElem? hx)), h.mp x n hx]
    · rw [List.getElem?_append_right (by omega)] at hx
      have hl := (List.getElem?_eq_some_iff.1 hx).1
      have : n = R.length := by simp at hl; omega
      subst this
      rw [Nat.sub_self] at hx
      have : q = x := by simpa using hx
      rw [if_pos this]
  mn := fun x hx => by
    rw [List.mem_append] at hx
    rw [mget_mput, if_neg (fun k => hx (.inr (by simp [k]))), h.mn x (fun k => hx (.inl k))]
theorem PR.len {a b : S30} {R : List S128} {m : List (S128 × Int)} (h : PR a b R m) (ha : a.f1.length ≤ 20) (hb : b.f1.length ≤ 20) : R.length ≤ 441 := by
  have h1 := nodup_len 441 (R.map fun q => (q.f0 + 1) * 21 + (q.f1 + 1)) (by
    rw [List.nodup_iff_pairwise_ne, List.pairwise_map]
    exact h.nd.imp_of_mem (fun {x y} hx hy hne e => hne (by
      have h1 := h.rng x hx
      have h2 := h.rng y hy
      have e1 : x.f0 = y.f0 := by omega
      have e2 : x.f1 = y.f1 := by omega
      cases x; cases y; simp_all))) (fun x hx => by
    obtain ⟨q, hq, rfl⟩ := List.mem_map.1 hx
    have := h.rng q hq
    constructor <;> omega)
  simpa using h1
theorem PR.start {a b : S30} (ha : 1 ≤ a.f1.length) (hb : 1 ≤ b.f1.length) : PR a b [S128.mk 0 0] (mput [] (lget [S128.mk 0 0] 0) 0) where
  nd := by simp
  rng := fun q hq => by
    have : q = S128.mk 0 0 := by simpa using hq
    subst this
    exact ⟨⟨by show (-1 : Int) ≤ 0; omega, by show (0 : Int) < _; omega⟩, by show (-1 : Int) ≤ 0; omega, by show (0 : Int) < _; omega⟩
  mp := fun q n hq => by
    have hl := (List.getElem?_eq_some_iff.1 hq).1
    have : n = 0 := by simp at hl; omega
    subst this
    have : S128.mk 0 0 = q := by simpa using hq
    subst this; rfl
  mn := fun q hq => by
    rw [mget_mput, if_neg (fun k => hq (by simp [← k]; rfl))]; rfl
/-- The row of a pair, of the first bytes. -/
def RW (a b : S30) (kk : Nat → ByteArray) (R : List S128) (p : S128) (x : Nat) (row : List Int) : Prop :=
  row.length = nc kk x ∧ ∀ r, r < x → rc kk r = r → ∃ n : Nat, row[nc kk r]? = some (n : Int) ∧ R[n]? = some (pst a b p r)
theorem RW.ext {a b : S30} {kk : Nat → ByteArray} {R R' : List S128} {p : S128} {x : Nat} {row : List Int} (h : RW a b kk R p x row) (e : Ext R R') : RW a b kk R' p x row :=
  ⟨h.1, fun r h1 h2 => by obtain ⟨n, n1, n2⟩ := h.2 r h1 h2; exact ⟨n, n1, e n _ n2⟩⟩
theorem RW.skip {a b : S30} {kk : Nat → ByteArray} {R : List S128} {p : S128} {x : Nat} {row : List Int} (h : RW a b kk R p x row) (e : rc kk x ≠ x) : RW a b kk R p (x + 1) row :=
  ⟨by rw [h.1, nc, if_neg e]; rfl, fun r h1 h2 => h.2 r (by by_cases q : r = x; (· subst q; exact absurd h2 e); (· omega)) h2⟩
theorem RW.put {a b : S30} {kk : Nat → ByteArray} {R : List S128} {p : S128} {x : Nat} {row : List Int} (h : RW a b kk R p x row) (e : rc kk x = x) {n : Nat} (hn : R[n]? = some (pst a b p x)) : RW a b kk R p (x + 1) (row ++ [(n : Int)]) := by
  refine ⟨by rw [List.length_append, h.1, nc, if_pos e]; rfl, fun r h1 h2 => ?_⟩
  by_cases q : r = x
  · subst q
    exact ⟨n, by rw [List.getElem?_append_right (by rw [h.1]; exact Nat.le_refl _), h.1, Nat.sub_self]; rfl, hn⟩
  · obtain ⟨k, k1, k2⟩ := h.2 r (by omega) h2
    exact ⟨k, by rw [List.getElem?_append_left (List.getElem?_eq_some_iff.1 k1).1, k1], k2⟩
theorem prow {a b : S30} (ha : Dr a) (hb : Dr b) (ka : a.f1.length ≤ 20) (kb : b.f1.length ≤ 20) {kk : Nat → ByteArray} {v : Vector Int 256} (hv : ∀ c : Nat, c < 256 → vget v (c : Int) = (ck kk c : Int))
    (rec36 : List (List Int) → List Int → List S128 → List (S128 × Int) → Int → Option (S30 × Int)) (x29 : List (List Int)) (x31 : List Int) (R0 : List S128) (i t51 : Int) (p : S128) (hp : lget R0 i = p)
    (pr : (-1 ≤ p.f0 ∧ p.f0 < (a.f1.length : Int)) ∧ -1 ≤ p.f1 ∧ p.f1 < (b.f1.length : Int)) : ∀ (m x fuel : Nat) (R : List S128) (mp : List (S128 × Int)) (row : List Int), x + m = 256 → m < fuel → PR a b R mp → RW a b kk R p x row →
    ∃ R' mp' row', lang_Pair_l5 5000 rec36 a b v x29 x31 R0 i t51 fuel R mp row (x : Int) = lang_Pair_c2 5000 rec36 x29 x31 i t51 R' mp' row' ∧ PR a b R' mp' ∧ Ext R R' ∧ RW a b kk R' p 256 row'
  | 0, x, f + 1, R, mp, row, h, _, hR, hw => by
    rw [lang_Pair_l5.eq_2, if_neg (by omega)]
    have : x = 256 := by omega
    subst this
    exact ⟨R, mp, row, rfl, hR, .refl R, hw⟩
  | m + 1, x, f + 1, R, mp, row, h, hf, hR, hw => by
    have hx : x < 256 := by omega
    have hcl := ck_le kk x
    have hnl := nc_le kk x
    have hl := hR.len ka kb
    have hrl := hw.1
    rw [lang_Pair_l5.eq_2, if_pos (by omega), if_pos ⟨by omega, by omega⟩, hv x hx, w6 (x := (ck kk x : Int)) (by omega) (by omega)]
    by_cases q : rc kk x = x
    · rw [if_neg (by rw [ck_rep q, hrl]; simp), w8_id (by omega) (by omega), hp, step_eq ha.vb _ _ (by omega) (by omega), Option.bind_some, step_eq hb.vb _ _ (by omega) (by omega), Option.bind_some]
      have s1 := stp_rng ha pr.1 (c := (x : Int)) (by omega) (by omega)
      have s2 := stp_rng hb pr.2 (c := (x : Int)) (by omega) (by omega)
      have go : ∀ (R1 : List S128) (mp1 : List (S128 × Int)) (n : Nat), n ≤ 1000 → PR a b R1 mp1 → Ext R R1 → R1[n]? = some (pst a b p x) → ∃ R' mp' row', lang_Pair_c4 5000 (lang_Pair_l5 5000 rec36 a b v x29 x31 R0 i t51 f) row (x : Int) R1 mp1 (n : Int) = lang_Pair_c2 5000 rec36 x29 x31 i t51 R' mp' row' ∧ PR a b R' mp' ∧ Ext R R' ∧ RW a b kk R' p 256 row' := by
        intro R1 mp1 n hn h1 h2 h3
        obtain ⟨R', mp', row', e1, e2, e3, e4⟩ := prow ha hb ka kb hv rec36 x29 x31 R0 i t51 p hp pr m (x + 1) f R1 mp1 (row ++ [(n : Int)]) (by omega) (by omega) h1 ((hw.ext h2).put q h3)
        refine ⟨R', mp', row', ?_, e2, h2.trans e3, e4⟩
        unfold lang_Pair_c4 lang_Pair_c3
        rw [if_pos (by simp; omega), w6 (by omega) (by omega)]
        exact_mod_cast e1
      by_cases k : pst a b p x ∈ R
      · obtain ⟨n, hn, e⟩ := List.getElem_of_mem k
        have e' : R[n]? = some (pst a b p x) := by rw [List.getElem?_eq_getElem hn, e]
        have eg := hR.mp _ n e'
        rw [show S128.mk (stp a p.f0 (x : Int)) (stp b p.f1 (x : Int)) = pst a b p x from rfl, eg, if_neg (by simp)]
        exact go R mp n (by omega) hR (.refl R) e'
      · have eg := hR.mn _ k
        rw [show S128.mk (stp a p.f0 (x : Int)) (stp b p.f1 (x : Int)) = pst a b p x from rfl, eg, if_pos (by rfl), if_pos (by simp; omega)]
        exact go _ _ R.length (by omega) (hR.add k ⟨s1, s2⟩) (.app _ _) (by simp)
    · have hne : ck kk x ≠ nc kk x := fun e => q (ck_first.1 e)
      rw [if_pos (by omega)]
      obtain ⟨R', mp', row', e1, e2, e3, e4⟩ := prow ha hb ka kb hv rec36 x29 x31 R0 i t51 p hp pr m (x + 1) f R mp row (by omega) (by omega) hR (hw.skip q)
      refine ⟨R', mp', row', ?_, e2, e3, e4⟩
      unfold lang_Pair_c3
      rw [w6 (by omega) (by omega)]
      exact_mod_cast e1
end Go.Avl.T5
/- Numbers of classes: told apart by keys; refined. -/
namespace Go.Avl.T5
open Go Go.RowKit Go.Proofs Go.Avl
set_option linter.all false
set_option maxRecDepth 10000

end Go.Avl.T5
/- mini: rows of blocks as texts; one cut. -/
namespace Go.Avl.T5
open Go Go.RowKit Go.Proofs Go.Avl
set_option linter.all false
set_option maxRecDepth 10000

theorem strOf_size (a : List Int) : (strOfNums a).size = a.length := by simp [strOfNums, ByteArray.size]
end Go.Avl.T5
/- mini: blocks, cut until none is new: the coarsest ones. -/
namespace Go.Avl.T5
open Go Go.RowKit Go.Proofs Go.Avl
set_option linter.all false
set_option maxRecDepth 10000

/-- At first: by marks. -/
def f0 (d : S30) (i : Nat) : Nat := (mk d (i : Int) + 1).toNat
end Go.Avl.T5
/- mini: one state for each block. -/
namespace Go.Avl.T5
open Go Go.RowKit Go.Proofs Go.Avl
set_option linter.all false
set_option maxRecDepth 10000

end Go.Avl.T5
/- mini: classes of bytes that lead alike. -/
namespace Go.Avl.T5
open Go Go.RowKit Go.Proofs Go.Avl
set_option linter.all false
set_option maxRecDepth 10000

def cls (d : S30) (b : Nat) : Nat := (vget d.f0 (b : Int)).toNat
end Go.Avl.T5
/- mini: classes of bytes that lead alike: the walk. -/
namespace Go.Avl.T5
open Go Go.RowKit Go.Proofs Go.Avl
set_option linter.all false
set_option maxRecDepth 10000

end Go.Avl.T5
/- mini: classes of bytes that lead alike: what comes out. -/
namespace Go.Avl.T5
open Go Go.RowKit Go.Proofs Go.Avl
set_option linter.all false
set_option maxRecDepth 10000

end Go.Avl.T5
/- The words of a machine, as lists of bytes. -/
namespace Go.Avl.T5
open Go Go.RowKit Go.Proofs Go.Avl
set_option linter.all false
set_option maxRecDepth 10000

def go (d : S30) : Int → List Nat → Int
  | q, [] => q
  | q, b :: w => go d (stp d q (b : Int)) w
def LL (d : S30) (q : Int) (w : List Nat) : Int := mk d (go d q w)
def Byt (w : List Nat) : Prop := ∀ b ∈ w, b < 256
theorem go_app (d : S30) : ∀ (w u : List Nat) (q : Int), go d q (w ++ u) = go d (go d q w) u
  | [], _, _ => rfl
  | b :: w, u, q => go_app d w u _
theorem go_snoc (d : S30) (w : List Nat) (b : Nat) (q : Int) : go d q (w ++ [b]) = stp d (go d q w) (b : Int) := go_app d w [b] q
end Go.Avl.T5
/- mini: what is alive is not nowhere; steps of the quotient. -/
namespace Go.Avl.T5
open Go Go.RowKit Go.Proofs Go.Avl
set_option linter.all false
set_option maxRecDepth 10000

end Go.Avl.T5
/- mini: steps of the quotient. -/
namespace Go.Avl.T5
open Go Go.RowKit Go.Proofs Go.Avl
set_option linter.all false
set_option maxRecDepth 10000

end Go.Avl.T5
/- mini: the quotient's rows. -/
namespace Go.Avl.T5
open Go Go.RowKit Go.Proofs Go.Avl
set_option linter.all false
set_option maxRecDepth 10000

end Go.Avl.T5
/- mini: the quotient is right; its steps. -/
namespace Go.Avl.T5
open Go Go.RowKit Go.Proofs Go.Avl
set_option linter.all false
set_option maxRecDepth 10000

end Go.Avl.T5
/- mini: the quotient's steps and marks. -/
namespace Go.Avl.T5
open Go Go.RowKit Go.Proofs Go.Avl
set_option linter.all false
set_option maxRecDepth 10000

end Go.Avl.T5
/- mini: what is reached, what is alive, by words. -/
namespace Go.Avl.T5
open Go Go.RowKit Go.Proofs Go.Avl
set_option linter.all false
set_option maxRecDepth 10000

theorem Byt.app {w u : List Nat} (h : Byt w) (k : Byt u) : Byt (w ++ u) := fun x hx => (List.mem_append.1 hx).elim (h x) (k x)
theorem Byt.tl {b : Nat} {w : List Nat} (h : Byt (b :: w)) : Byt w := fun x hx => h x (.tail _ hx)
theorem Byt.hd {b : Nat} {w : List Nat} (h : Byt (b :: w)) : b < 256 := h b (.head _)
theorem byt_one {b : Nat} (h : b < 256) : Byt [b] := fun x hx => by have : x = b := by simpa using hx
                                                                    omega
theorem Byt.cons {b : Nat} {w : List Nat} (h : b < 256) (k : Byt w) : Byt (b :: w) := Byt.app (byt_one h) k
end Go.Avl.T5
/- lang: two machines together; the machine. -/
namespace Go.Avl.T5
open Go Go.RowKit Go.Proofs Go.Avl
set_option linter.all false
set_option maxRecDepth 10000

/-- A pair's mark. -/
def mkv (a b : S30) (op : Bool → Bool → Bool) (q : S128) : Int := if op (decide (0 ≤ mk a q.f0)) (decide (0 ≤ mk b q.f1)) = true then 0 else -1
structure PI (a b : S30) (kk : Nat → ByteArray) (op : Bool → Bool → Bool) (R : List S128) (rows : List (List Int)) (marks : List Int) (i : Nat) : Prop where
  rl : rows.length = i
  ml : marks.length = i
  le : i ≤ R.length
  at_ : ∀ (j : Nat) (q : S128), j < i → R[j]? = some q → marks[j]? = some (mkv a b op q) ∧ ∃ row, rows[j]? = some row ∧ RW a b kk R q 256 row
theorem pmain {a b : S30} (ha : Dr a) (hb : Dr b) (ka : a.f1.length ≤ 20) (kb : b.f1.length ≤ 20) {kk : Nat → ByteArray} {v : Vector Int 256} (hv : ∀ c : Nat, c < 256 → vget v (c : Int) = (ck kk c : Int))
    (how : Int) (op : Bool → Bool → Bool) (hop : ∀ x y, lang_both 5000 how x y = some (if op x y = true then 0 else -1)) : ∀ (m i fuel : Nat) (R : List S128) (mp : List (S128 × Int)) (rows : List (List Int)) (marks : List Int), i + m = 442 → m < fuel → PR a b R mp → PI a b kk op R rows marks i →
    ∃ R' rows' marks', lang_Pair_l6 5000 how a b v fuel rows marks R mp (i : Int) = some (S30.mk v rows' marks', 0) ∧ R'.length ≤ 441 ∧ (∀ q ∈ R', (-1 ≤ q.f0 ∧ q.f0 < (a.f1.length : Int)) ∧ -1 ≤ q.f1 ∧ q.f1 < (b.f1.length : Int)) ∧ Ext R R' ∧ PI a b kk op R' rows' marks' R'.length
  | m, i, f + 1, R, mp, rows, marks, h, hf, hR, hI => by
    have hl := hR.len ka kb
    have hle := hI.le
    have hrl := hI.rl
    have hml := hI.ml
    rw [lang_Pair_l6.eq_2]
    by_cases q : i < R.length
    · cases m with
      | zero => omega
      | succ m =>
        have hg : lget R (i : Int) = R[i] := lget_lt R i q
        have hgs : R[i]? = some (lget R (i : Int)) := by rw [hg, List.getElem?_eq_getElem q]
        have hr := hR.rng _ (List.getElem_mem q)
        rw [if_pos (by omega), if_neg (by omega), if_pos ⟨by omega, by omega⟩, mark_eq, Option.bind_some, mark_eq, Option.bind_some, hop, Option.bind_some, if_pos (by simp; omega)]
        rw [← hg] at hr
        obtain ⟨R1, mp1, row, e1, e2, e3, e4⟩ := prow ha hb ka kb hv (lang_Pair_l6 5000 how a b v f) rows marks R (i : Int) (if op (decide (0 ≤ mk a (lget R (i : Int)).f0)) (decide (0 ≤ mk b (lget R (i : Int)).f1)) = true then 0 else -1) (lget R (i : Int)) rfl hr 256 0 5000 R mp [] (by omega) (by omega) hR ⟨rfl, fun r hr => by omega⟩
        have hl1 := e2.len ka kb
        have hx := e3.le
        have hI1 : PI a b kk op R1 (rows ++ [row]) (marks ++ [mkv a b op (lget R (i : Int))]) (i + 1) := by
          refine ⟨by simp [hrl], by simp [hml], by omega, fun j q' hj hq => ?_⟩
          by_cases e : j = i
          · subst e
            have : q' = lget R (j : Int) := by
              have := e3 j _ hgs
              rw [hq] at this
              exact Option.some.inj this
            subst this
            exact ⟨by rw [List.getElem?_append_right (by omega), hml, Nat.sub_self]; rfl, row, by rw [List.getElem?_append_right (by omega), hrl, Nat.sub_self]; rfl, e4⟩
          · have hq' : R[j]? = some q' := by
              have := e3 j _ (List.getElem?_eq_getElem (show j < R.length by omega))
              rw [hq] at this
              rw [List.getElem?_eq_getElem (show j < R.length by omega), Option.some.inj this]
            obtain ⟨k1, row', k2, k3⟩ := hI.at_ j q' (by omega) hq'
            exact ⟨by rw [List.getElem?_append_left (by omega), k1], row', by rw [List.getElem?_append_left (by omega), k2], k3.ext e3⟩
        obtain ⟨R', rows', marks', f1, f2, f3, f4, f5⟩ := pmain ha hb ka kb hv how op hop m (i + 1) f R1 mp1 (rows ++ [row]) (marks ++ [mkv a b op (lget R (i : Int))]) (by omega) (by omega) e2 hI1
        refine ⟨R', rows', marks', ?_, f2, f3, e3.trans f4, f5⟩
        rw [show ((0 : Nat) : Int) = 0 from rfl] at e1
        rw [e1]
        unfold lang_Pair_c2 lang_Pair_c1
        rw [if_pos (by simp; omega), w6 (by omega) (by omega)]
        exact_mod_cast f1
    · rw [if_neg (by omega)]
      have : i = R.length := by omega
      subst this
      exact ⟨R, rows, marks, rfl, hl, hR.rng, .refl R, hI⟩
/-- What is said of two machines put together. -/
structure PD (a b : S30) (op : Bool → Bool → Bool) (d : S30) : Prop where
  dr : Dr d
  ll : ∀ w, Byt w → (0 ≤ LL d 0 w ↔ op (decide (0 ≤ LL a 0 w)) (decide (0 ≤ LL b 0 w)) = true)
theorem pd_of {a b : S30} (ha : Dr a) (hb : Dr b) {kk : Nat → ByteArray} (hk : KBq a b kk) {v : Vector Int 256} (hv : ∀ c : Nat, c < 256 → vget v (c : Int) = (ck kk c : Int)) (hv2 : VB v) {op : Bool → Bool → Bool} {R : List S128} {rows : List (List Int)} {marks : List Int}
    (h1 : R.length ≤ 441) (hr : ∀ q ∈ R, (-1 ≤ q.f0 ∧ q.f0 < (a.f1.length : Int)) ∧ -1 ≤ q.f1 ∧ q.f1 < (b.f1.length : Int)) (h0 : R[0]? = some (S128.mk 0 0)) (hI : PI a b kk op R rows marks R.length) : PD a b op (S30.mk v rows marks) := by
  have hp : 0 < R.length := (List.getElem?_eq_some_iff.1 h0).1
  have hrl := hI.rl
  have hml := hI.ml
  have hkc := kcl_nc hv2 hv
  have row_of : ∀ r ∈ rows, ∃ (q : S128), RW a b kk R q 256 r := by
    intro r hr'
    obtain ⟨j, hj, rfl⟩ := List.getElem_of_mem hr'
    obtain ⟨_, row, k2, k3⟩ := hI.at_ j _ (by omega) (List.getElem?_eq_getElem (show j < R.length by omega))
    rw [List.getElem?_eq_getElem hj] at k2
    rw [Option.some.inj k2]
    exact ⟨_, k3⟩
  have dr : Dr (S30.mk v rows marks) := by
    refine ⟨by show 1 ≤ rows.length; omega, by show rows.length ≤ 1000; omega, by show marks.length = rows.length; omega, hv2, fun c hc => ?_, fun r hr' => ?_, fun r hr' x hx => ?_, fun m hm => ?_⟩
    · have hc' : (c : Int) < kcl v := hc
      obtain ⟨r, k1, k2, k3⟩ := nc_ex (kk := kk) (c := c) 256 (by omega)
      exact ⟨r, k1, by show vget v (r : Int) = c; rw [hv r k1, ck_rep k2, k3]⟩
    · obtain ⟨q, hq⟩ := row_of r hr'
      show (r.length : Int) = kcl v
      rw [hkc, hq.1]
    · obtain ⟨q, hq⟩ := row_of r hr'
      obtain ⟨c, hc, rfl⟩ := List.getElem_of_mem hx
      obtain ⟨y, k1, k2, k3⟩ := nc_ex (kk := kk) (c := c) 256 (by rw [← hq.1]; exact hc)
      obtain ⟨n, n1, n2⟩ := hq.2 y k1 k2
      rw [k3, List.getElem?_eq_getElem hc] at n1
      rw [Option.some.inj n1]
      have := (List.getElem?_eq_some_iff.1 n2).1
      show (-1 : Int) ≤ (n : Int) ∧ (n : Int) < (rows.length : Int)
      omega
    · obtain ⟨j, hj, rfl⟩ := List.getElem_of_mem hm
      have hj' : j < marks.length := hj
      obtain ⟨k1, _⟩ := hI.at_ j _ (by omega) (List.getElem?_eq_getElem (show j < R.length by omega))
      rw [List.getElem?_eq_getElem hj'] at k1
      show -1 ≤ marks[j] ∧ marks[j] < 32768
      rw [Option.some.inj k1]
      unfold mkv
      split <;> decide
  have st : ∀ (j : Nat) (q : S128) (x : Nat), x < 256 → R[j]? = some q → ∃ n : Nat, stp (S30.mk v rows marks) (j : Int) (x : Int) = (n : Int) ∧ R[n]? = some (pst a b q x) := by
    intro j q x hx hq
    have hj := (List.getElem?_eq_some_iff.1 hq).1
    obtain ⟨_, row, k2, k3⟩ := hI.at_ j q hj hq
    have r1 := rc_spec kk x
    obtain ⟨n, n1, n2⟩ := k3.2 (rc kk x) (by omega) (rc_rc kk x)
    refine ⟨n, ?_, by rw [n2, hk.pst hx]⟩
    have hrow : lget rows (j : Int) = row := by
      rw [lget_lt rows j (by omega)]
      rw [List.getElem?_eq_getElem (show j < rows.length by omega)] at k2
      exact Option.some.inj k2
    have hcl : ck kk x < row.length := by rw [k3.1]; exact ck_ltq hx
    unfold stp
    show (if (j : Int) < 0 ∨ (rows.length : Int) ≤ (j : Int) ∨ ((lget rows (j : Int)).length : Int) ≤ vget v (x : Int) then (-1 : Int) else lget (lget rows (j : Int)) (vget v (x : Int))) = n
    rw [hrow, hv x hx, if_neg (by omega), lget_lt row _ hcl]
    have n1' : row[ck kk x]? = some (n : Int) := n1
    rw [List.getElem?_eq_getElem hcl] at n1'
    exact Option.some.inj n1'
  have gg : ∀ (w : List Nat) (j : Nat) (q : S128), Byt w → R[j]? = some q → ∃ n : Nat, go (S30.mk v rows marks) (j : Int) w = (n : Int) ∧ R[n]? = some (S128.mk (go a q.f0 w) (go b q.f1 w)) := by
    intro w
    induction w with
    | nil => exact fun j q _ hq => ⟨j, rfl, hq⟩
    | cons x w ih =>
      intro j q hw hq
      obtain ⟨n, n1, n2⟩ := st j q x hw.hd hq
      obtain ⟨n', m1, m2⟩ := ih n _ hw.tl n2
      exact ⟨n', by rw [go, n1, m1], m2⟩
  refine ⟨dr, fun w hw => ?_⟩
  obtain ⟨n, n1, n2⟩ := gg w 0 _ hw h0
  have hn := (List.getElem?_eq_some_iff.1 n2).1
  obtain ⟨k1, _⟩ := hI.at_ n _ hn n2
  have e : LL (S30.mk v rows marks) 0 w = mkv a b op (S128.mk (go a 0 w) (go b 0 w)) := by
    unfold LL
    rw [show ((0 : Nat) : Int) = 0 from rfl] at n1
    rw [n1]
    unfold mk
    show (if (n : Int) < 0 ∨ (marks.length : Int) ≤ (n : Int) then (-1 : Int) else lget marks (n : Int)) = _
    rw [if_neg (by omega), lget_lt marks n (by omega)]
    rw [List.getElem?_eq_getElem (show n < marks.length by omega)] at k1
    exact Option.some.inj k1
  rw [e]
  unfold mkv LL
  show (0 ≤ if op (decide (0 ≤ mk a (go a 0 w))) (decide (0 ≤ mk b (go b 0 w))) = true then (0 : Int) else -1) ↔ _
  by_cases o : op (decide (0 ≤ mk a (go a 0 w))) (decide (0 ≤ mk b (go b 0 w))) = true
  · rw [if_pos o]; exact ⟨fun _ => o, fun _ => by omega⟩
  · rw [if_neg o]; exact ⟨fun k => absurd k (by omega), fun k => absurd k o⟩
end Go.Avl.T5
/- lang: the shortest text with a mark. -/
namespace Go.Avl.T5
open Go Go.RowKit Go.Proofs Go.Avl
set_option linter.all false
set_option maxRecDepth 10000

/-- The bytes of a text. -/
def byq (s : ByteArray) : List Nat := (List.range s.size).map fun i : Nat => (byteAt s (i : Int)).toNat
theorem byq_len (s : ByteArray) : (byq s).length = s.size := by simp [byq]
theorem byq_byt (s : ByteArray) : Byt (byq s) := fun b hb => by
  obtain ⟨i, hi, rfl⟩ := List.mem_map.1 hb
  have := byteAt_u8 s (i : Int)
  omega
theorem byq_push (s : ByteArray) (x : Nat) (hx : x < 256) : byq (s ++ strOfNums [(x : Int)]) = byq s ++ [x] := by
  have hz : (strOfNums [(x : Int)]).size = 1 := by rw [strOf_size]; rfl
  unfold byq
  rw [ByteArray.size_append, hz, List.range_succ, List.map_append]
  congr 1
  · apply List.map_congr_left
    intro i hi
    rw [byteAt_app _ _ i (List.mem_range.1 hi)]
  · have h := byteAt_right s (strOfNums [(x : Int)]) 0 (by omega)
    have h2 := byteAt_strOf [(x : Int)] (fun y hy => by
      have : y = (x : Int) := by simpa using hy
      omega) 0 (by simp)
    rw [Nat.add_zero, h2] at h
    rw [List.map_singleton, h]; rfl
theorem rn_byq (d : S30) (q : Int) (s : ByteArray) : ∀ i : Nat, i ≤ s.size → rn d q s i = go d q ((byq s).take i)
  | 0, _ => by rw [List.take_zero]; rfl
  | i + 1, hi => by
    have ih := rn_byq d q s i (by omega)
    have hl := byq_len s
    have hu := byteAt_u8 s (i : Int)
    have e : (byq s)[i]'(by omega) = (byteAt s (i : Int)).toNat := by simp [byq]
    show stp d (rn d q s i) (byteAt s i) = _
    rw [ih, List.take_succ_eq_append_getElem (show i < (byq s).length by omega), go_snoc, e, Int.toNat_of_nonneg hu.1]
/-- The places that are open, and what is seen. -/
structure BI (d : S30) (O : List S123) (sn : List Bool) : Prop where
  sl : sn.length = d.f1.length
  nd : (O.map (·.f0)).Nodup
  el : ∀ (j : Nat) (e : S123), O[j]? = some e → (0 ≤ e.f0 ∧ e.f0 < (d.f1.length : Int)) ∧ go d 0 (byq e.f1) = e.f0 ∧ e.f1.size ≤ j
  sn : ∀ q : Int, 0 ≤ q → (lget sn q = true ↔ q ∈ O.map (·.f0))
  st : (0 : Int) ∈ O.map (·.f0)
theorem BI.len {d : S30} {O : List S123} {s : List Bool} (h : BI d O s) : O.length ≤ d.f1.length := by
  have := nodup_len d.f1.length (O.map (·.f0)) h.nd (fun x hx => by
    obtain ⟨e, he, rfl⟩ := List.mem_map.1 hx
    obtain ⟨j, hj, rfl⟩ := List.getElem_of_mem he
    exact (h.el j _ (List.getElem?_eq_getElem hj)).1)
  simpa using this
theorem BI.add {d : S30} {O : List S123} {s : List Bool} (h : BI d O s) {to : Int} {t : ByteArray} (h0 : 0 ≤ to) (h1 : to < (d.f1.length : Int)) (hs : lget s to = false) (hg : go d 0 (byq t) = to) (hz : t.size ≤ O.length) : BI d (O ++ [S123.mk to t]) (lset s to true) where
  sl := by rw [lset_len, h.sl]
  nd := by
    rw [List.map_append, List.nodup_append]
    refine ⟨h.nd, by simp, fun x hx y hy => ?_⟩
    have : y = to := by simpa using hy
    subst this
    intro e; subst e
    rw [(h.sn _ h0).2 hx] at hs
    cases hs
  el := fun j e he => by
    by_cases q : j < O.length
    · rw [List.getElem?_append_left q] at he
      exact h.el j e he
    · rw [List.getElem?_append_right (by omega)] at he
      have hl := (List.getElem?_eq_some_iff.1 he).1
      have : j = O.length := by simp at hl; omega
      subst this
      rw [Nat.sub_self] at he
      have : S123.mk to t = e := by simpa using he
      subst this
      exact ⟨⟨h0, h1⟩, hg, hz⟩
  sn := fun q hq => by
    have := h.sl
    rw [lget_lset s to q h0 (by omega) hq, Bool.or_eq_true, decide_eq_true_eq, h.sn q hq, List.map_append, List.mem_append]
    constructor
    · rintro (k | k)
      · exact .inr (by simp [k])
      · exact .inl k
    · rintro (k | k)
      · exact .inr k
      · exact .inl (by simpa using k)
  st := by rw [List.map_append, List.mem_append]; exact .inl h.st
theorem sh_l3 {d : S30} (hd : Dr d) (rec13 : List S123 → List Bool → Int → Option (ByteArray × Bool)) (O0 : List S123) (i : Nat) (p : S123) (hp : O0[i]? = some p) : ∀ (m x fuel : Nat) (O : List S123) (s : List Bool), x + m = 256 → m < fuel → BI d O s → (∃ T, O = O0 ++ T) → (∀ b : Nat, b < x → 0 ≤ stp d p.f0 (b : Int) → stp d p.f0 (b : Int) ∈ O.map (·.f0)) →
    ∃ O' s', lang_Shortest_l3 5000 rec13 d O0 (i : Int) fuel O s (x : Int) = lang_Shortest_c1 5000 rec13 (i : Int) O' s' ∧ BI d O' s' ∧ (∃ T, O' = O0 ++ T) ∧ (∀ b : Nat, b < 256 → 0 ≤ stp d p.f0 (b : Int) → stp d p.f0 (b : Int) ∈ O'.map (·.f0))
  | 0, x, f + 1, O, s, h, _, hB, hT, hc => by
    rw [lang_Shortest_l3.eq_2, if_neg (by omega)]
    have : x = 256 := by omega
    subst this
    exact ⟨O, s, rfl, hB, hT, hc⟩
  | m + 1, x, f + 1, O, s, h, hf, hB, hT, hc => by
    have hx : x < 256 := by omega
    obtain ⟨T, hT'⟩ := hT
    have hi := (List.getElem?_eq_some_iff.1 hp).1
    have hpg : lget O0 (i : Int) = p := by
      rw [lget_lt O0 i hi]
      rw [List.getElem?_eq_getElem hi] at hp
      exact Option.some.inj hp
    have hpO : O[i]? = some p := by rw [hT', List.getElem?_append_left hi, hp]
    obtain ⟨p1, p2, p3⟩ := hB.el i p hpO
    have hl := hB.len
    have hn := hd.n2
    have hsl := hB.sl
    have hiO : i < O.length := by rw [hT']; simp; omega
    have hr := stp_rng hd (q := p.f0) (c := (x : Int)) ⟨by omega, p1.2⟩ (by omega) (by omega)
    have hz : (strOfNums [(x : Int)]).size = 1 := by rw [strOf_size]; rfl
    have next : ∀ (O1 : List S123) (s1 : List Bool), BI d O1 s1 → (∃ T, O1 = O0 ++ T) → (∀ b : Nat, b < x + 1 → 0 ≤ stp d p.f0 (b : Int) → stp d p.f0 (b : Int) ∈ O1.map (·.f0)) → ∃ O' s', lang_Shortest_c2 5000 (lang_Shortest_l3 5000 rec13 d O0 (i : Int) f) (x : Int) O1 s1 = lang_Shortest_c1 5000 rec13 (i : Int) O' s' ∧ BI d O' s' ∧ (∃ T, O' = O0 ++ T) ∧ (∀ b : Nat, b < 256 → 0 ≤ stp d p.f0 (b : Int) → stp d p.f0 (b : Int) ∈ O'.map (·.f0)) := by
      intro O1 s1 k1 k2 k3
      obtain ⟨O', s', e1, e2⟩ := sh_l3 hd rec13 O0 i p hp m (x + 1) f O1 s1 (by omega) (by omega) k1 k2 k3
      refine ⟨O', s', ?_, e2⟩
      unfold lang_Shortest_c2
      rw [w6 (by omega) (by omega)]
      exact_mod_cast e1
    rw [lang_Shortest_l3.eq_2, if_pos (by omega), w8_id (by omega) (by omega), hpg, step_eq hd.vb _ _ (by omega) (by omega), Option.bind_some]
    by_cases q : 0 ≤ stp d p.f0 (x : Int)
    · rw [if_pos q, if_pos ⟨q, by omega⟩, Option.bind_some]
      cases hsn : lget s (stp d p.f0 (x : Int)) with
      | false =>
        rw [if_pos (by rfl), if_pos ⟨q, by omega⟩, if_pos (by rw [hz]; omega), if_pos (by simp; omega)]
        have hb : BI d (O ++ [S123.mk (stp d p.f0 (x : Int)) (p.f1 ++ strOfNums [(x : Int)])]) (lset s (stp d p.f0 (x : Int)) true) := hB.add q hr.2 hsn (by rw [byq_push _ _ hx, go_snoc, p2]) (by rw [ByteArray.size_append, hz]; omega)
        refine next _ _ hb ⟨T ++ [S123.mk (stp d p.f0 (x : Int)) (p.f1 ++ strOfNums [(x : Int)])], by rw [hT', List.append_assoc]⟩ (fun b hb' h0 => ?_)
        rw [List.map_append, List.mem_append]
        by_cases e : b = x
        · subst e; exact .inr (by simp)
        · exact .inl (hc b (by omega) h0)
      | true =>
        rw [if_neg (by decide)]
        refine next O s hB ⟨T, hT'⟩ (fun b hb' h0 => ?_)
        by_cases e : b = x
        · subst e; exact (hB.sn _ q).1 hsn
        · exact hc b (by omega) h0
    · rw [if_neg q, Option.bind_some, if_neg (by decide)]
      refine next O s hB ⟨T, hT'⟩ (fun b hb' h0 => ?_)
      by_cases e : b = x
      · subst e; exact absurd h0 q
      · exact hc b (by omega) h0
/-- What the answer is. -/
def SA (d : S30) (r : ByteArray × Bool) : Prop := (r.2 = true → r.1.size ≤ 1000 ∧ 0 ≤ LL d 0 (byq r.1)) ∧ (r.2 = false → ∀ w, Byt w → LL d 0 w < 0)
theorem sh_l4 {d : S30} (hd : Dr d) : ∀ (m i fuel : Nat) (O : List S123) (s : List Bool), i + m = 1001 → m < fuel → BI d O s → i ≤ O.length → (∀ (j : Nat) (e : S123), j < i → O[j]? = some e → mk d e.f0 < 0 ∧ ∀ b : Nat, b < 256 → 0 ≤ stp d e.f0 (b : Int) → stp d e.f0 (b : Int) ∈ O.map (·.f0)) →
    ∃ r, lang_Shortest_l4 5000 d fuel O s (i : Int) = some r ∧ SA d r
  | m, i, f + 1, O, s, h, hf, hB, hi, hc => by
    have hl := hB.len
    have hn := hd.n2
    rw [lang_Shortest_l4.eq_2]
    by_cases q : i < O.length
    · cases m with
      | zero => omega
      | succ m =>
        have hg : lget O (i : Int) = O[i] := lget_lt O i q
        have hgs : O[i]? = some O[i] := List.getElem?_eq_getElem q
        obtain ⟨p1, p2, p3⟩ := hB.el i _ hgs
        rw [if_pos (by omega), if_pos ⟨by omega, by omega⟩, mark_eq, Option.bind_some, hg]
        by_cases k : 0 ≤ mk d O[i].f0
        · rw [if_pos k]
          refine ⟨_, rfl, fun _ => ⟨by show O[i].f1.size ≤ 1000; omega, ?_⟩, (fun k => nomatch k)⟩
          unfold LL
          rw [p2]; exact k
        · rw [if_neg k]
          obtain ⟨O', s', e1, e2, ⟨T, e3⟩, e4⟩ := sh_l3 hd (lang_Shortest_l4 5000 d f) O i O[i] hgs 256 0 5000 O s (by omega) (by omega) hB ⟨[], by simp⟩ (fun b hb => by omega)
          have hin : ∀ y, y ∈ O.map (·.f0) → y ∈ O'.map (·.f0) := fun y hy => by rw [e3, List.map_append, List.mem_append]; exact .inl hy
          obtain ⟨r, r1, r2⟩ := sh_l4 hd m (i + 1) f O' s' (by omega) (by omega) e2 (by rw [e3]; simp; omega) (fun j e hj he => by
            have hj' : j < O.length := by omega
            rw [e3, List.getElem?_append_left hj'] at he
            by_cases c : j = i
            · subst c
              rw [hgs] at he
              have := Option.some.inj he
              subst this
              exact ⟨by omega, e4⟩
            · obtain ⟨c1, c2⟩ := hc j e (by omega) he
              exact ⟨c1, fun b hb h0 => hin _ (c2 b hb h0)⟩)
          refine ⟨r, ?_, r2⟩
          rw [show ((0 : Nat) : Int) = 0 from rfl] at e1
          rw [e1]
          unfold lang_Shortest_c1
          rw [w6 (by omega) (by omega)]
          exact_mod_cast r1
    · rw [if_neg (by omega)]
      refine ⟨_, rfl, (fun k => nomatch k), fun _ w hw => ?_⟩
      have at_ : ∀ y, y ∈ O.map (·.f0) → mk d y < 0 ∧ ∀ b : Nat, b < 256 → 0 ≤ stp d y (b : Int) → stp d y (b : Int) ∈ O.map (·.f0) := by
        intro y hy
        obtain ⟨e, he, rfl⟩ := List.mem_map.1 hy
        obtain ⟨j, hj, rfl⟩ := List.getElem_of_mem he
        exact hc j _ (by omega) (List.getElem?_eq_getElem hj)
      have gg : ∀ (w : List Nat) (y : Int), Byt w → (y = -1 ∨ y ∈ O.map (·.f0)) → go d y w = -1 ∨ go d y w ∈ O.map (·.f0) := by
        intro w
        induction w with
        | nil => exact fun y _ hy => hy
        | cons b w ih =>
          intro y hw hy
          refine ih _ hw.tl ?_
          have hb := hw.hd
          rcases hy with rfl | hy
          · exact .inl (stp_neg d _)
          · by_cases k : 0 ≤ stp d y (b : Int)
            · exact .inr ((at_ y hy).2 b hb k)
            · obtain ⟨e, he, rfl⟩ := List.mem_map.1 hy
              obtain ⟨j, hj, rfl⟩ := List.getElem_of_mem he
              have h1 := (hB.el j _ (List.getElem?_eq_getElem hj)).1
              have := stp_rng hd (q := O[j].f0) (c := (b : Int)) ⟨by omega, h1.2⟩ (by omega) (by omega)
              exact .inl (by omega)
      unfold LL
      rcases gg w 0 hw (.inr hB.st) with k | k
      · rw [k, mk_neg]; decide
      · exact (at_ _ k).1
theorem shortest_eq {d : S30} (hd : Dr d) : ∃ r, lang_Shortest 5000 d = some r ∧ SA d r := by
  have h1 := hd.n1
  have h2 := hd.n2
  have hb : BI d [S123.mk 0 (ByteArray.mk #[])] (lset (List.replicate (d.f1.length : Int).toNat false) 0 true) := by
    refine ⟨by rw [lset_len, List.length_replicate, Int.toNat_natCast], by simp, fun j e he => ?_, fun q hq => ?_, by simp⟩
    · have hl := (List.getElem?_eq_some_iff.1 he).1
      have : j = 0 := by simp at hl; omega
      subst this
      have : S123.mk 0 (ByteArray.mk #[]) = e := by simpa using he
      subst this
      exact ⟨⟨by show (0 : Int) ≤ 0; omega, by show (0 : Int) < _; omega⟩, rfl, Nat.le_refl 0⟩
    · rw [lget_lset _ 0 q (by omega) (by simp; omega) hq, lget_repB]
      simp
  obtain ⟨r, r1, r2⟩ := sh_l4 hd 1001 0 5000 _ _ (by omega) (by omega) hb (by simp) (fun j e hj => by omega)
  refine ⟨r, ?_, r2⟩
  unfold lang_Shortest
  rw [hd.right, Option.bind_some, if_neg (by decide), if_pos ⟨by omega, by omega, by omega⟩, if_pos ⟨by omega, by simp; omega⟩]
  exact r1
end Go.Avl.T5
/- LangEqual: the plain law. -/
namespace Go.Avl.T5
open Go Go.RowKit Go.Proofs Go.Avl
set_option linter.all false
set_option maxRecDepth 10000

theorem awake10 : bosketlaw10_awake 5000 = some true := by decide +kernel
theorem VB_of {kk : Nat → ByteArray} {v : Vector Int 256} (h : ∀ c : Nat, c < 256 → vget v (c : Int) = (ck kk c : Int)) : VB v := fun c => by
  by_cases q : c.toNat < 256
  · have := h c.toNat q
    have e : vget v c = vget v (c.toNat : Int) := by unfold vget; rw [Int.toNat_natCast]
    have := ck_le kk c.toNat
    rw [e]; omega
  · have : vget v c = 0 := by
      unfold vget
      rw [List.getD, List.getElem?_eq_none (by simp; omega)]; rfl
    omega
theorem pair_eq {a b : S30} (ha : Dr a) (hb : Dr b) (ka : a.f1.length ≤ 20) (kb : b.f1.length ≤ 20) (how : Int) (h0 : 0 ≤ how) (h3 : how ≤ 3) (op : Bool → Bool → Bool) (hop : ∀ x y, lang_both 5000 how x y = some (if op x y = true then 0 else -1)) :
    ∃ d, lang_Pair 5000 how a b = some (d, 0) ∧ PD a b op d := by
  obtain ⟨L, kk, v, e1, e2, hv, hk⟩ := psets how (a := a) (b := b) ha.vb hb.vb
  obtain ⟨R, rows, marks, f1, f2, f3, f4, f5⟩ := pmain ha hb ka kb hv how op hop 442 0 5000 [S128.mk 0 0] (mput [] (lget [S128.mk 0 0] 0) 0) [] [] (by omega) (by omega) (PR.start ha.n1 hb.n1) ⟨rfl, rfl, by simp, fun j q hj => by omega⟩
  refine ⟨_, ?_, pd_of ha hb hk hv (VB_of hv) f2 f3 (f4 0 _ rfl) f5⟩
  unfold lang_Pair
  rw [ha.right, Option.bind_some, if_neg (by decide), hb.right, Option.bind_some, if_neg (by decide), if_neg (by omega), Option.bind_some, decide_eq_false (by omega), if_neg (by decide), count_eq ha.vb, Option.bind_some, e1]
  unfold lang_Pair_c7
  rw [e2, Option.bind_some, if_pos (by simp)]
  exact f1
/-- What is told of two machines. -/
structure TW (a b : S30) (op : Bool → Bool → Bool) (t : Bool × ByteArray × Int) : Prop where
  ok : t.2.2 = 0
  no : t.1 = false → t.2.1.size ≤ 1000 ∧ op (decide (0 ≤ LL a 0 (byq t.2.1))) (decide (0 ≤ LL b 0 (byq t.2.1))) = true
  yes : t.1 = true → ∀ w, Byt w → op (decide (0 ≤ LL a 0 w)) (decide (0 ≤ LL b 0 w)) = false
theorem tw_of {a b : S30} {op : Bool → Bool → Bool} {d : S30} (h : PD a b op d) : ∃ r, lang_Shortest 5000 d = some r ∧ TW a b op (!r.2, r.1, 0) := by
  obtain ⟨r, r1, r2, r3⟩ := shortest_eq h.dr
  refine ⟨r, r1, rfl, fun k => ?_, fun k w hw => ?_⟩
  · have k' : (!r.2) = false := k
    have := r2 (by simpa using k')
    exact ⟨this.1, (h.ll _ (byq_byt _)).1 this.2⟩
  · have k' : (!r.2) = true := k
    have h1 := r3 (by simpa using k') w hw
    cases e : op (decide (0 ≤ LL a 0 w)) (decide (0 ≤ LL b 0 w)) with
    | false => rfl
    | true => have := (h.ll w hw).2 e; omega
theorem equal_eq {a b : S30} (ha : Dr a) (hb : Dr b) (ka : a.f1.length ≤ 20) (kb : b.f1.length ≤ 20) : ∃ t, lang_Equal 5000 a b = some t ∧ TW a b (fun x y => x != y) t := by
  obtain ⟨d, d1, d2⟩ := pair_eq ha hb ka kb 3 (by decide) (by decide) (fun x y => x != y) (fun x y => by cases x <;> cases y <;> rfl)
  obtain ⟨r, r1, r2⟩ := tw_of d2
  refine ⟨_, ?_, r2⟩
  unfold lang_Equal
  rw [d1, Option.bind_some, if_neg (by simp), r1, Option.bind_some]
theorem within_eq {a b : S30} (ha : Dr a) (hb : Dr b) (ka : a.f1.length ≤ 20) (kb : b.f1.length ≤ 20) : ∃ t, lang_Within 5000 a b = some t ∧ TW a b (fun x y => x && !y) t := by
  obtain ⟨d, d1, d2⟩ := pair_eq ha hb ka kb 2 (by decide) (by decide) (fun x y => x && !y) (fun x y => by cases x <;> cases y <;> rfl)
  obtain ⟨r, r1, r2⟩ := tw_of d2
  refine ⟨_, ?_, r2⟩
  unfold lang_Within
  rw [d1, Option.bind_some, if_neg (by simp), r1, Option.bind_some]
theorem rstp_q {d : S30} (hb : Bytes d) (k : Nat) (s : Int) {c : Int} (h0 : 0 ≤ c) (h1 : c < 256) : bosketref08_Step k d s c = some (stp d s c) := by
  have hv := hb c
  unfold bosketref08_Step stp
  by_cases a : s < 0
  · rw [if_pos a, Option.bind_some, if_pos rfl, if_pos (.inl a)]
  · rw [if_neg a]
    by_cases b : (d.f1.length : Int) ≤ s
    · rw [if_pos b, Option.bind_some, if_pos rfl, if_pos (.inr (.inl b))]
    · rw [if_neg b, if_pos ⟨h0, h1⟩, if_pos ⟨by omega, by omega⟩, Option.bind_some, w6 (by omega) (by omega)]
      by_cases e : ((lget d.f1 s).length : Int) ≤ vget d.f0 c
      · rw [decide_eq_true e, if_pos rfl, if_pos (.inr (.inr e))]
      · rw [decide_eq_false e, if_neg (by decide), if_pos ⟨by omega, by omega⟩, if_pos ⟨h0, h1⟩, if_pos ⟨by omega, by omega⟩, if_neg (by omega)]
theorem rrun_lq {d : S30} (h : Dr d) (s : ByteArray) (hs : s.size ≤ 1000) : ∀ (m i fuel : Nat), i + m = s.size → m < fuel → bosketref08_Run_l1 5000 d s fuel (rn d 0 s i) (i : Int) = some (rn d 0 s s.size)
  | 0, i, fu + 1, hi, _ => by
    rw [bosketref08_Run_l1.eq_2, if_neg (by omega), show i = s.size by omega]; rfl
  | m + 1, i, fu + 1, hi, hf => by
    have hu := byteAt_u8 s (i : Int)
    have ih := rrun_lq h s hs m (i + 1) fu (by omega) (by omega)
    rw [bosketref08_Run_l1.eq_2, if_pos (by omega), if_pos ⟨by omega, by omega⟩, w6 (by omega) (by omega), rstp_q h.vb _ _ hu.1 (by omega), Option.bind_some, w6 (by omega) (by omega)]
    exact_mod_cast ih
theorem rmk_q (d : S30) (k : Nat) (s : Int) : bosketref08_Mark k d s = some (mk d s) := by
  unfold bosketref08_Mark mk
  by_cases a : s < 0
  · rw [if_pos a, Option.bind_some, if_pos rfl, if_pos (.inl a)]
  · by_cases b : (d.f2.length : Int) ≤ s
    · rw [if_neg a, decide_eq_true b, Option.bind_some, if_pos rfl, if_pos (.inr b)]
    · rw [if_neg a, decide_eq_false b, Option.bind_some, if_neg (by decide), if_pos ⟨by omega, by omega⟩, if_neg (by omega)]
theorem has_q {d : S30} (h : Dr d) (s : ByteArray) (hs : s.size ≤ 1000) : bosketlaw10_has 5000 d s = some (decide (0 ≤ LL d 0 (byq s))) := by
  have e1 : bosketref08_Run 5000 d 0 s = some (rn d 0 s s.size) := rrun_lq h s hs s.size 0 5000 (by omega) (by omega)
  have e2 := rn_byq d 0 s s.size (Nat.le_refl _)
  rw [List.take_of_length_le (by rw [byq_len]; exact Nat.le_refl _)] at e2
  unfold bosketlaw10_has
  rw [e1, Option.bind_some, rmk_q, Option.bind_some, e2]; rfl
theorem bosketlaw10_LangEqual_true (a0 : S30) (a1 : S30) (a2 : ByteArray) (h0 : wf30 a0) (h1 : wf30 a1) (h2 : wf9 a2) (h3 : a2.size ≤ 140737488351232) : ∃ k, bosketlaw10_LangEqual k a0 a1 a2 = some true := by
  refine ⟨5000, ?_⟩
  obtain ⟨b, b1, b2⟩ := small_some a0 (Nat.le_refl 5000)
  obtain ⟨c, c1, c2⟩ := small_some a1 (Nat.le_refl 5000)
  unfold bosketlaw10_LangEqual
  rw [awake10, Option.bind_some, if_neg (by decide), b1, Option.bind_some]
  cases b with
  | false => rfl
  | true =>
  rw [if_neg (by decide), c1, Option.bind_some]
  cases c with
  | false => rfl
  | true =>
  rw [if_neg (by decide)]
  by_cases hs : (30 : Int) < (a2.size : Int)
  · rw [if_pos hs]; rfl
  rw [if_neg hs]
  obtain ⟨s1, s2, s3⟩ := b2 rfl
  obtain ⟨t1, t2, t3⟩ := c2 rfl
  have hv0 : VB a0.f0 := bytes_of h0
  have hv1 : VB a1.f0 := bytes_of h1
  rw [rdright_eq hv0 s3 (by omega), Option.bind_some]
  cases hb : rgB a0 with
  | false => rfl
  | true =>
  rw [if_neg (by decide), rdright_eq hv1 t3 (by omega), Option.bind_some]
  cases hc : rgB a1 with
  | false => rfl
  | true =>
  have ha : Dr a0 := (rgB_iff hv0 (by omega)).1 hb
  have hd : Dr a1 := (rgB_iff hv1 (by omega)).1 hc
  obtain ⟨e, e1, e2, e3, e4⟩ := equal_eq ha hd s1 t1
  obtain ⟨f, f1, f2, f3, f4⟩ := within_eq ha hd s1 t1
  obtain ⟨g, g1, g2, g3, g4⟩ := within_eq hd ha t1 s1
  obtain ⟨s, k1, k2, k3, k4⟩ := equal_eq ha ha s1 s1
  have hself : s.1 = true := by
    cases q : s.1 with
    | true => rfl
    | false => have := (k3 q).2; simp at this
  have hsz : a2.size ≤ 1000 := by omega
  -- what one has alone
  have p1 : e.1 = true → f.1 = true ∧ g.1 = true := fun q => by
    have h := e4 q
    constructor
    · cases r : f.1 with
      | true => rfl
      | false =>
        have h1 := (f3 r).2
        have h2 := h _ (byq_byt f.2.1)
        revert h1 h2
        cases decide (0 ≤ LL a0 0 (byq f.2.1)) <;> cases decide (0 ≤ LL a1 0 (byq f.2.1)) <;> decide
    · cases r : g.1 with
      | true => rfl
      | false =>
        have h1 := (g3 r).2
        have h2 := h _ (byq_byt g.2.1)
        revert h1 h2
        cases decide (0 ≤ LL a0 0 (byq g.2.1)) <;> cases decide (0 ≤ LL a1 0 (byq g.2.1)) <;> decide
  have p2 : f.1 = true → g.1 = true → e.1 = true := fun q r => by
    cases k : e.1 with
    | true => rfl
    | false =>
      have h1 := (e3 k).2
      have h2 := f4 q _ (byq_byt e.2.1)
      have h3 := g4 r _ (byq_byt e.2.1)
      revert h1 h2 h3
      cases decide (0 ≤ LL a0 0 (byq e.2.1)) <;> cases decide (0 ≤ LL a1 0 (byq e.2.1)) <;> decide
  have p3 : e.1 = (f.1 && g.1) := by
    cases h1 : e.1 with
    | true => rw [(p1 h1).1, (p1 h1).2]; rfl
    | false =>
      cases h2 : f.1 with
      | false => rfl
      | true =>
        cases h3 : g.1 with
        | false => rfl
        | true => have := p2 h2 h3; rw [h1] at this; cases this
  have q1 := has_q ha a2 hsz
  have q2 := has_q hd a2 hsz
  rw [Option.bind_some, if_neg (by decide), e1, Option.bind_some, f1, Option.bind_some, g1, Option.bind_some, if_neg (by simp [e2]), if_neg (by simp [f2]), if_neg (by simp [g2]), k1]
  cases he : e.1 with
  | true =>
    obtain ⟨r1, r2⟩ := p1 he
    have w1 := e4 he _ (byq_byt a2)
    have w2 := f4 r1 _ (byq_byt a2)
    rw [r1, r2, if_pos rfl]
    simp only [Option.bind_some, hself, k2, q1, q2, Bool.not_true, Bool.not_false, if_true, if_false, Bool.false_eq_true, bne_self_eq_false]
    revert w1 w2
    cases decide (0 ≤ LL a0 0 (byq a2)) <;> cases decide (0 ≤ LL a1 0 (byq a2)) <;> decide
  | false =>
    obtain ⟨z1, z2⟩ := e3 he
    have y1 := has_q ha e.2.1 z1
    have y2 := has_q hd e.2.1 z1
    cases hf : f.1 with
    | true =>
      have r2 : g.1 = false := by rw [he, hf] at p3; simpa using p3.symm
      have w2 := f4 hf _ (byq_byt a2)
      rw [r2, if_pos rfl]
      simp only [Option.bind_some, hself, k2, q1, q2, y1, y2, Bool.not_true, Bool.not_false, if_true, if_false, Bool.false_eq_true, bne_self_eq_false]
      revert z2 w2
      cases decide (0 ≤ LL a0 0 (byq e.2.1)) <;> cases decide (0 ≤ LL a1 0 (byq e.2.1)) <;> cases decide (0 ≤ LL a0 0 (byq a2)) <;> cases decide (0 ≤ LL a1 0 (byq a2)) <;> decide
    | false =>
      obtain ⟨x1, x2⟩ := f3 hf
      have u1 := has_q ha f.2.1 x1
      have u2 := has_q hd f.2.1 x1
      rw [if_neg (by decide)]
      simp only [Option.bind_some, hself, k2, q1, q2, y1, y2, u1, u2, Bool.not_true, Bool.not_false, if_true, if_false, Bool.false_eq_true, bne_self_eq_false]
      revert z2 x2
      cases decide (0 ≤ LL a0 0 (byq e.2.1)) <;> cases decide (0 ≤ LL a1 0 (byq e.2.1)) <;> cases decide (0 ≤ LL a0 0 (byq f.2.1)) <;> cases decide (0 ≤ LL a1 0 (byq f.2.1)) <;> decide
end Go.Avl.T5
