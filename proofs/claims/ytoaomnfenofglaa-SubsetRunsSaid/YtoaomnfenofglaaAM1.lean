/- Parts: T5W, T5S1, T5C1, T5C2, T5N1, T5N2, T5M1, T5M2, T5M3, T5M4, T5M5, T5PureSubsetRuns. -/
import Derived.Test.YtoaomnfenofglaaAF1
import Derived.Test.YtoaomnfenofglaaAv3
import Derived.Laws.Bits64b
import Derived.Test.YtoaomnfenofglaaAv2
import Derived.Test.YtoaomnfenofglaaAF2
import Derived.Test.YtoaomnfenofglaaAF3
import Derived.Test.YtoaomnfenofglaaAF4
/- Opening of the arguments; printed by avlaw.py. -/
namespace Go.Avl.T5
open Go Go.RowKit Go.Proofs Go.Avl
set_option linter.unusedVariables false
set_option maxRecDepth 100000
abbrev e22 (l : List S43) : AV := .fz 7 (l.map e43)
abbrev wf3 : Int → Prop := (fun n : Int => (Lit.int .i64 n).wf = true)
theorem op3 : Opens Try.prog 3 eI64 wf3 := opens_int Try.underlying3
abbrev wf39 : Int → Prop := (fun n : Int => (Lit.int .u64 n).wf = true)
theorem op39 : Opens Try.prog 39 eU64 wf39 := opens_int Try.underlying39
abbrev wf41 : (Vector Int 4) → Prop := (fun l : Vector Int 4 => ∀ a ∈ l.toList, wf39 a)
theorem op41 : Opens Try.prog 41 e41 wf41 := opens_array Try.underlying41 sz39 sz41 op39
abbrev wf4 : Bool → Prop := (fun _ : Bool => True)
theorem op4 : Opens Try.prog 4 eBool wf4 := opens_bool Try.underlying4
abbrev wf43 : S43 → Prop := (fun x : S43 => wf3 x.f0 ∧ wf3 x.f1 ∧ wf41 x.f2 ∧ wf4 x.f3)
theorem op43 : Opens Try.prog 43 e43 wf43 := (opens_struct Try.underlying43 sz43 (opensF_cons rfl sz3 (by decide) op3 (opensF_cons rfl sz3 (by decide) op3 (opensF_cons rfl sz41 (by decide) op41 (opensF_cons rfl sz4 (by decide) op4 (opensF_nil _)))))).map (fun p => S43.mk p.1 p.2.1 p.2.2.1 p.2.2.2.1) (fun _ => rfl) (fun _ h => ⟨h.1, h.2.1, h.2.2.1, h.2.2.2.1⟩)
abbrev wf22 : (List S43) → Prop := (fun l : List S43 => l.length ≤ 9223372036854775807 ∧ ∀ a ∈ l, wf43 a)
theorem op22 : Opens Try.prog 22 e22 wf22 := opens_slice Try.underlying22 sz43 op43
abbrev wf24 : S24 → Prop := (fun x : S24 => wf3 x.f0 ∧ wf22 x.f1 ∧ wf3 x.f2 ∧ wf3 x.f3)
theorem op24 : Opens Try.prog 24 e24 wf24 := (opens_struct Try.underlying24 sz24 (opensF_cons rfl sz3 (by decide) op3 (opensF_cons rfl sz22 (by decide) op22 (opensF_cons rfl sz3 (by decide) op3 (opensF_cons rfl sz3 (by decide) op3 (opensF_nil _)))))).map (fun p => S24.mk p.1 p.2.1 p.2.2.1 p.2.2.2.1) (fun _ => rfl) (fun _ h => ⟨h.1, h.2.1, h.2.2.1, h.2.2.2.1⟩)
abbrev wf25 : (List Int) → Prop := (fun l : List Int => l.length ≤ 9223372036854775807 ∧ ∀ a ∈ l, wf3 a)
theorem op25 : Opens Try.prog 25 e25 wf25 := opens_slice Try.underlying25 sz3 op3
abbrev wf9 : ByteArray → Prop := (fun s : ByteArray => s.size ≤ 9223372036854775807)
theorem op9 : Opens Try.prog 9 eStr wf9 := opens_string Try.underlying9
end Go.Avl.T5
/- Ported: texts between quotes. -/
namespace Go.Avl.T5
open Go Go.RowKit Go.Proofs Go.Avl
set_option linter.all false
set_option maxRecDepth 10000

def U (a : Vector Int 4) : Prop := ∀ j : Nat, j < 4 → 0 ≤ vget a (j : Int) ∧ vget a (j : Int) < 18446744073709551616
def wd (a : Vector Int 4) (j : Nat) : Nat := (vget a (j : Int)).toNat
/-- Is a byte in a set? -/
def tb (a : Vector Int 4) (b : Nat) : Bool := (wd a (b / 64)).testBit (b % 64)
theorem wd_eq {a : Vector Int 4} (h : U a) (j : Nat) (hj : j < 4) : vget a (j : Int) = (wd a j : Int) ∧ wd a j < 18446744073709551616 := by
  have := h j hj
  unfold wd; omega
theorem U_of {a : Vector Int 4} (h : wf41 a) : U a := by
  intro j hj
  have h1 : j < a.toList.length := by simpa using hj
  have h2 := h a.toList[j] (List.getElem_mem h1)
  have e : vget a (j : Int) = a.toList[j] := by
    unfold vget
    rw [Int.toNat_natCast, List.getD, List.getElem?_eq_getElem h1]; rfl
  rw [e]
  have h2' : (Lit.int .u64 a.toList[j]).wf = true := h2
  have : 0 ≤ a.toList[j] ∧ a.toList[j] ≤ 18446744073709551615 := by
    generalize a.toList[j] = z at h2'
    simpa [Lit.wf, show IntKind.u64.min = 0 from rfl, show IntKind.u64.max = 18446744073709551615 from rfl] using h2'
  omega
theorem shr_eq (x k : Nat) (hk : k ≤ 64) : Int.fdiv (x : Int) (2 ^ (min (k : Int).toNat IntKind.u64.bits)) = ((x / 2 ^ k : Nat) : Int) := by
  rw [Int.toNat_natCast, show min k IntKind.u64.bits = k by show min k 64 = k; omega, Int.fdiv_eq_ediv_of_nonneg _ (by exact_mod_cast Nat.zero_le _)]
  norm_cast
theorem ix_i64 (i : Nat) (hi : i < 100000) : IntKind.i64.wrap ((i : Int).tdiv 64) = ((i / 64 : Nat) : Int) := by
  have h1 : (i : Int).tdiv 64 = ((i / 64 : Nat) : Int) := by rw [Int.tdiv_eq_ediv_of_nonneg (by omega)]; omega
  rw [h1]; have := w64_id (n := ((i / 64 : Nat) : Int)) (by omega) (by omega); exact this
theorem tmod64 (i : Nat) : (i : Int).tmod 64 = ((i % 64 : Nat) : Int) := by rw [Int.tmod_eq_emod_of_nonneg (by omega)]; omega
theorem ix_u8 (i : Nat) (hi : i < 256) : IntKind.u8.wrap ((i : Int).tdiv 64) = ((i / 64 : Nat) : Int) := by
  have h1 : (i : Int).tdiv 64 = ((i / 64 : Nat) : Int) := by rw [Int.tdiv_eq_ediv_of_nonneg (by omega)]; omega
  rw [h1]; have := w8_id (n := ((i / 64 : Nat) : Int)) (by omega) (by omega); exact this
theorem rhas_l (x : Nat) (hx : x < 256) : ∀ (m i fuel : Nat) (w : Nat), i + m = x % 64 → m < fuel → w < 18446744073709551616 →
    bosketref02_Has_l1 5000 (x : Int) fuel (w : Int) (i : Int) = some (w.testBit m)
  | 0, i, f + 1, w, h, _, hw => by
    rw [bosketref02_Has_l1.eq_2, tmod64, if_neg (by omega), bosketref02_Has_c0, Nat.testBit_zero]
    congr 1
    rw [decide_eq_decide, Int.tmod_eq_emod_of_nonneg (by omega)]; omega
  | m + 1, i, f + 1, w, h, hf, hw => by
    have e : IntKind.u64.wrap ((w : Int).tdiv 2) = ((w / 2 : Nat) : Int) := by
      rw [Int.tdiv_eq_ediv_of_nonneg (by omega)]
      have := u64_eq ((w : Int) / 2)
      unfold u64 at this
      rw [this]; omega
    rw [bosketref02_Has_l1.eq_2, tmod64, if_pos (by omega), e, w64_id (by omega) (by omega)]
    have := rhas_l x hx m (i + 1) f (w / 2) (by omega) (by omega) (by omega)
    rw [Nat.testBit_succ]
    exact_mod_cast this
theorem rhas_eq {a : Vector Int 4} (ha : U a) {x : Nat} (hx : x < 256) : bosketref02_Has 5000 a (x : Int) = some (tb a x) := by
  obtain ⟨e, l⟩ := wd_eq ha (x / 64) (by omega)
  unfold bosketref02_Has
  rw [ix_i64 x (by omega), if_pos ⟨by omega, by omega⟩, e]
  have := rhas_l x hx (x % 64) 0 5000 (wd a (x / 64)) (by omega) (by omega) l
  exact this
theorem has_eq {a : Vector Int 4} (ha : U a) {x : Nat} (hx : x < 256) : byteset_Has 5000 a (x : Int) = some (tb a x) := by
  obtain ⟨e, l⟩ := wd_eq ha (x / 64) (by omega)
  unfold byteset_Has
  rw [ix_u8 x hx, tmod64, if_pos ⟨by omega, by omega⟩, if_pos (by omega), e, shr_eq _ (x % 64) (by omega)]
  have hb := bits_and_u64_nat (wd a (x / 64) / 2 ^ (x % 64)) 1 (Nat.lt_of_le_of_lt (Nat.div_le_self _ _) l) (by omega)
  have hb' : bits .and .u64 ((wd a (x / 64) / 2 ^ (x % 64) : Nat) : Int) 1 = _ := hb
  rw [hb']
  unfold tb
  congr 1
  rw [Nat.and_one_is_mod]
  have h2 : (wd a (x / 64)).testBit (x % 64) = (wd a (x / 64) / 2 ^ (x % 64)).testBit 0 := by
    rw [Nat.testBit_div_two_pow, Nat.zero_add]
  rw [h2, Nat.testBit_zero, decide_eq_decide]
  omega
end Go.Avl.T5
/- Classes of bytes: a byte's key tells which sets have it. -/
namespace Go.Avl.T5
open Go Go.RowKit Go.Proofs Go.Avl
set_option linter.all false
set_option maxRecDepth 10000

theorem bits_or_u8_nat (a b : Nat) (ha : a < 256) (hb : b < 256) : bits .or .u8 (a : Int) (b : Int) = ((a ||| b : Nat) : Int) ∧ a ||| b < 256 := by
  have hx : a ||| b < 2 ^ 8 := Nat.or_lt_two_pow (by omega) (by omega)
  have h1 : (BitVec.ofInt 8 (a : Int)).toNat = a := by
    rw [BitVec.ofInt_natCast, BitVec.toNat_ofNat]; exact Nat.mod_eq_of_lt (by omega)
  have h2 : (BitVec.ofInt 8 (b : Int)).toNat = b := by
    rw [BitVec.ofInt_natCast, BitVec.toNat_ofNat]; exact Nat.mod_eq_of_lt (by omega)
  refine ⟨?_, hx⟩
  show IntKind.u8.wrap ((BitVec.ofInt 8 (a : Int) ||| BitVec.ofInt 8 (b : Int)).toNat : Int) = _
  rw [BitVec.toNat_or, h1, h2]
  exact w8_id (by omega) (by omega)
/-- Which of some sets have a byte. -/
def sg (L : List (Vector Int 4)) (b x : Nat) : Bool := decide (x < L.length) && tb (L.getD x default) b
def bt (row : List Int) (x : Nat) : Bool := (row.getD (x / 8) 0).toNat.testBit (x % 8)
def Row8 (L : List (Vector Int 4)) (b q i : Nat) (row : List Int) : Prop :=
  row.length = q ∧ (∀ x ∈ row, 0 ≤ x ∧ x ≤ 255) ∧ ∀ x, x < 8 * q → bt row x = (decide (x < i) && sg L b x)
theorem row_set {L : List (Vector Int 4)} {b q i : Nat} {row : List Int} (h : Row8 L b q i row) (hi : i < 8 * q) (hs : sg L b i = true) :
    Row8 L b q (i + 1) (lset row ((i / 8 : Nat) : Int) (bits .or .u8 (lget row ((i / 8 : Nat) : Int)) (IntKind.u8.wrap ((1 : Int) * 2 ^ (min (i % 8) IntKind.u8.bits))))) := by
  obtain ⟨h1, h2, h3⟩ := h
  have hj : i / 8 < row.length := by omega
  have el : lget row ((i / 8 : Nat) : Int) = row[i / 8] := by
    unfold lget; rw [Int.toNat_natCast, List.getD, List.getElem?_eq_getElem hj]; rfl
  have hb := h2 row[i / 8] (List.getElem_mem hj)
  obtain ⟨w, hw⟩ : ∃ w : Nat, row[i / 8] = w := ⟨row[i / 8].toNat, by omega⟩
  have hp : (2 : Nat) ^ (i % 8) < 256 := Nat.lt_of_lt_of_le (Nat.pow_lt_pow_right (by omega) (by omega : i % 8 < 8)) (by decide : 2 ^ 8 ≤ 256)
  have e5 : IntKind.u8.wrap ((1 : Int) * 2 ^ (min (i % 8) IntKind.u8.bits)) = ((2 ^ (i % 8) : Nat) : Int) := by
    rw [show min (i % 8) IntKind.u8.bits = i % 8 by show min (i % 8) 8 = i % 8; omega]
    have e3 : ((1 : Int) * 2 ^ (i % 8)) = ((2 ^ (i % 8) : Nat) : Int) := by simp
    rw [e3]
    generalize 2 ^ (i % 8) = z at hp ⊢
    exact w8_id (by omega) (by omega)
  obtain ⟨o1, o2⟩ := bits_or_u8_nat w (2 ^ (i % 8)) (by omega) hp
  rw [el, hw, e5, o1]
  refine ⟨by unfold lset; rw [List.length_set]; exact h1, fun x hx => ?_, fun x hx => ?_⟩
  · unfold lset at hx
    rcases List.mem_or_eq_of_mem_set hx with h | h
    · exact h2 x h
    · rw [h]; omega
  · have hb0 := h3 x hx
    unfold bt lset at *
    rw [Int.toNat_natCast]
    by_cases r : x / 8 = i / 8
    · rw [r, List.getD, List.getElem?_set_self hj]
      rw [r, List.getD, List.getElem?_eq_getElem hj, hw] at hb0
      simp only [Option.getD_some, Int.toNat_natCast] at hb0 ⊢
      rw [Nat.testBit_or, hb0, Nat.testBit_two_pow]
      by_cases u : x = i
      · subst u; rw [hs]; simp
      · rw [decide_eq_false (p := i % 8 = x % 8) (by omega), Bool.or_false]
        congr 1
        rw [decide_eq_decide]; omega
    · rw [List.getD, List.getElem?_set_ne (fun h => r h.symm)]
      rw [List.getD] at hb0
      rw [hb0]
      congr 1
      rw [decide_eq_decide]
      have : x ≠ i := fun h => r (by rw [h])
      omega
theorem row_skip {L : List (Vector Int 4)} {b q i : Nat} {row : List Int} (h : Row8 L b q i row) (hs : sg L b i = false) : Row8 L b q (i + 1) row := by
  obtain ⟨h1, h2, h3⟩ := h
  refine ⟨h1, h2, fun x hx => ?_⟩
  rw [h3 x hx]
  by_cases u : x = i
  · subst u; rw [hs]; simp
  · congr 1
    rw [decide_eq_decide]; omega
theorem key_l (L : List (Vector Int 4)) (hL : ∀ a ∈ L, U a) (b : Nat) (hb : b < 256) (q : Nat) (hq : L.length ≤ 8 * q) (hz : q ≤ 1000) : ∀ (m i fuel : Nat) (row : List Int), i + m = L.length → m < fuel → Row8 L b q i row →
    ∃ row', byteset_key_l2 5000 L (b : Int) fuel row i = some (strOfNums row') ∧ Row8 L b q L.length row'
  | 0, i, f + 1, row, h, _, hr => by
    rw [byteset_key_l2.eq_2, if_neg (by omega), byteset_key_c0]
    exact ⟨row, rfl, by rw [show L.length = i by omega]; exact hr⟩
  | m + 1, i, f + 1, row, h, hf, hr => by
    have hi : i < L.length := by omega
    have g : 0 ≤ (i : Int) ∧ (i : Int) < (L.length : Int) := ⟨by omega, by omega⟩
    have eb : lget L (i : Int) = L[i] := by
      unfold lget; rw [show (i : Int).toNat = i by omega, List.getD, List.getElem?_eq_getElem hi]; rfl
    have ed : L.getD i default = L[i] := by rw [List.getD, List.getElem?_eq_getElem hi]; rfl
    have hs : sg L b i = tb L[i] b := by unfold sg; rw [decide_eq_true hi, Bool.true_and, ed]
    have e1 : IntKind.i64.wrap ((i : Int).tdiv 8) = ((i / 8 : Nat) : Int) := by
      have h1 : (i : Int).tdiv 8 = ((i / 8 : Nat) : Int) := by rw [Int.tdiv_eq_ediv_of_nonneg (by omega)]; omega
      rw [h1]; have := w64_id (n := ((i / 8 : Nat) : Int)) (by omega) (by omega); exact this
    have e2 : u64 ((i : Int).tmod 8) = ((i % 8 : Nat) : Int) := by
      have h1 : (i : Int).tmod 8 = ((i % 8 : Nat) : Int) := by rw [Int.tmod_eq_emod_of_nonneg (by omega)]; omega
      rw [h1, u64_eq]; omega
    have hlen := hr.1
    rw [byteset_key_l2.eq_2, if_pos g.2, if_pos g, eb, has_eq (hL _ (List.getElem_mem hi)) hb, Option.bind_some]
    by_cases t : tb L[i] b = true
    · rw [if_pos t, e1, e2, if_pos ⟨by omega, by omega⟩, if_pos (by omega), if_pos ⟨by omega, by omega⟩, Int.toNat_natCast]
      unfold byteset_key_c1
      rw [w64_id (by omega) (by omega)]
      have := key_l L hL b hb q hq hz m (i + 1) f _ (by omega) (by omega) (row_set hr (by omega) (by rw [hs]; exact t))
      exact_mod_cast this
    · rw [if_neg t]
      unfold byteset_key_c1
      rw [w64_id (by omega) (by omega)]
      have := key_l L hL b hb q hq hz m (i + 1) f row (by omega) (by omega) (row_skip hr (by rw [hs]; simpa using t))
      exact_mod_cast this
theorem key_eq (L : List (Vector Int 4)) (hL : ∀ a ∈ L, U a) (hn : L.length ≤ 1000) (b : Nat) (hb : b < 256) : ∃ row, byteset_key 5000 L (b : Int) = some (strOfNums row) ∧ Row8 L b ((L.length + 7) / 8) L.length row := by
  have e : IntKind.i64.wrap ((w64 ((L.length : Int) + 7)).tdiv 8) = (((L.length + 7) / 8 : Nat) : Int) := by
    rw [w64_id (by omega) (by omega)]
    have h1 : ((L.length : Int) + 7).tdiv 8 = (((L.length + 7) / 8 : Nat) : Int) := by rw [Int.tdiv_eq_ediv_of_nonneg (by omega)]; omega
    rw [h1]; have := w64_id (n := (((L.length + 7) / 8 : Nat) : Int)) (by omega) (by omega); exact this
  unfold byteset_key
  rw [e, if_pos ⟨by omega, by omega, by omega⟩, Int.toNat_natCast]
  have := key_l L hL b hb ((L.length + 7) / 8) (by omega) (by omega) L.length 0 5000 (List.replicate ((L.length + 7) / 8) 0) (by omega) (by omega) ⟨by simp, fun x hx => by rw [(List.mem_replicate.1 hx).2]; omega, fun x hx => by
    unfold bt
    rw [List.getD, List.getElem?_replicate, if_pos (by omega)]; simp⟩
  exact this
/-- Two keys are one just if the bytes are told apart by no set. -/
theorem row_iff {L : List (Vector Int 4)} {b c q : Nat} (hq : L.length ≤ 8 * q) {r s : List Int} (hr : Row8 L b q L.length r) (hs : Row8 L c q L.length s) : strOfNums r = strOfNums s ↔ ∀ x, sg L b x = sg L c x := by
  constructor
  · intro h x
    have e := strOf_inj hr.2.1 hs.2.1 h
    by_cases hx : x < L.length
    · have h1 := hr.2.2 x (by omega)
      have h2 := hs.2.2 x (by omega)
      rw [e, h2, decide_eq_true hx, Bool.true_and, Bool.true_and] at h1
      exact h1.symm
    · unfold sg; rw [decide_eq_false hx]; rfl
  · intro h
    congr 1
    apply List.ext_getElem (by rw [hr.1, hs.1])
    intro j h1 h2
    have b1 := hr.2.1 r[j] (List.getElem_mem h1)
    have b2 := hs.2.1 s[j] (List.getElem_mem h2)
    have : r[j].toNat = s[j].toNat := by
      apply Nat.eq_of_testBit_eq
      intro t
      by_cases ht : t < 8
      · have k1 := hr.2.2 (8 * j + t) (by have := hr.1; omega)
        have k2 := hs.2.2 (8 * j + t) (by have := hr.1; omega)
        rw [h] at k1
        rw [← k2] at k1
        unfold bt at k1
        rw [show (8 * j + t) / 8 = j by omega, show (8 * j + t) % 8 = t by omega, List.getD, List.getD, List.getElem?_eq_getElem h1, List.getElem?_eq_getElem h2] at k1
        exact k1
      · have hp : 256 ≤ 2 ^ t := Nat.le_trans (by decide : 256 ≤ 2 ^ 8) (Nat.pow_le_pow_right (by omega) (by omega))
        rw [Nat.testBit_lt_two_pow (by omega), Nat.testBit_lt_two_pow (by omega)]
    omega
end Go.Avl.T5
/- Classes of bytes: numbered by their least bytes. -/
namespace Go.Avl.T5
open Go Go.RowKit Go.Proofs Go.Avl
set_option linter.all false
set_option maxRecDepth 10000

/-! The least of one class. -/
def rcf (e : Nat → Bool) (b : Nat) : Nat → Nat → Nat
  | 0, _ => b
  | f + 1, i => if e i = true then i else rcf e b f (i + 1)
theorem rcf_spec (e : Nat → Bool) (b : Nat) (hb : e b = true) : ∀ (f i : Nat), i + f = b → rcf e b f i ≤ b ∧ i ≤ rcf e b f i ∧ e (rcf e b f i) = true ∧ ∀ c, i ≤ c → c < rcf e b f i → e c = false
  | 0, i, h => by rw [rcf]; exact ⟨by omega, by omega, hb, fun c h1 h2 => by omega⟩
  | f + 1, i, h => by
    rw [rcf]
    by_cases q : e i = true
    · rw [if_pos q]; exact ⟨by omega, by omega, q, fun c h1 h2 => by omega⟩
    · rw [if_neg q]
      obtain ⟨h1, h2, h3, h4⟩ := rcf_spec e b hb f (i + 1) (by omega)
      refine ⟨h1, by omega, h3, fun c k1 k2 => ?_⟩
      by_cases r : c = i
      · subst r; simpa using q
      · exact h4 c (by omega) k2
section
variable (kk : Nat → ByteArray)
def rc (b : Nat) : Nat := rcf (fun c => decide (kk c = kk b)) b b 0
theorem rc_spec (b : Nat) : rc kk b ≤ b ∧ kk (rc kk b) = kk b ∧ ∀ c, c < rc kk b → kk c ≠ kk b := by
  obtain ⟨h1, h2, h3, h4⟩ := rcf_spec (fun c => decide (kk c = kk b)) b (by simp) b 0 (by omega)
  exact ⟨h1, of_decide_eq_true h3, fun c hc => of_decide_eq_false (h4 c (by omega) hc)⟩
theorem rc_uniq {b r : Nat} (h1 : kk r = kk b) (h2 : ∀ c, c < r → kk c ≠ kk b) : rc kk b = r := by
  obtain ⟨k1, k2, k3⟩ := rc_spec kk b
  rcases Nat.lt_trichotomy (rc kk b) r with h | h | h
  · exact absurd k2 (h2 _ h)
  · exact h
  · exact absurd h1 (k3 _ h)
theorem rc_same {b c : Nat} (h : kk c = kk b) : rc kk c = rc kk b := by
  obtain ⟨k1, k2, k3⟩ := rc_spec kk b
  exact rc_uniq kk (by rw [k2, h]) (fun d hd => by rw [h]; exact k3 d hd)
theorem rc_rc (b : Nat) : rc kk (rc kk b) = rc kk b := rc_same kk (rc_spec kk b).2.1
/-- How many classes begin below a byte. -/
def nc : Nat → Nat
  | 0 => 0
  | b + 1 => nc b + if rc kk b = b then 1 else 0
theorem nc_le (b : Nat) : nc kk b ≤ b := by
  induction b with
  | zero => exact Nat.le_refl _
  | succ b ih => rw [nc]; split <;> omega
theorem nc_mono {b c : Nat} (h : b ≤ c) : nc kk b ≤ nc kk c := by
  induction h with
  | refl => exact Nat.le_refl _
  | step _ ih => rw [nc]; omega
def ck (b : Nat) : Nat := nc kk (rc kk b)
theorem ck_same {b c : Nat} (h : kk c = kk b) : ck kk c = ck kk b := by unfold ck; rw [rc_same kk h]
theorem ck_le (b : Nat) : ck kk b ≤ b := Nat.le_trans (nc_le kk _) (rc_spec kk b).1
theorem vget_vset256 (v : Vector Int 256) (i j : Nat) (x : Int) (hi : i < 256) (hj : j < 256) : vget (vset v (i : Int) x) (j : Int) = if j = i then x else vget v (j : Int) := by
  unfold vget vset
  rw [Int.toNat_natCast, Int.toNat_natCast, Vector.toList_setIfInBounds, List.getD, List.getD, List.getElem?_set]
  by_cases e : i = j
  · subst e; rw [if_pos rfl, if_pos rfl, if_pos (by simpa using hi)]; rfl
  · rw [if_neg e, if_neg (fun h => e h.symm)]
/-- What the map holds. -/
def MapOK (b : Nat) (m : List (ByteArray × Int)) : Prop :=
  m.length = nc kk b ∧ (∀ c, c < b → mget m (kk c) = some (ck kk c : Int)) ∧ ∀ s, (∀ c, c < b → kk c ≠ s) → mget m s = none
theorem classes_l {L : List (Vector Int 4)} (hk : ∀ b : Nat, b < 256 → byteset_key 5000 L (b : Int) = some (kk b)) : ∀ (m b fuel : Nat) (v : Vector Int 256) (mp : List (ByteArray × Int)), b + m = 256 → m < fuel → MapOK kk b mp → (∀ c, c < b → vget v (c : Int) = (ck kk c : Int)) →
    ∃ v', byteset_Classes_l2 5000 L fuel v mp b = some v' ∧ ∀ c : Nat, c < 256 → vget v' (c : Int) = (ck kk c : Int)
  | 0, b, f + 1, v, mp, h, _, _, hv => by
    rw [byteset_Classes_l2.eq_2, if_neg (by omega), byteset_Classes_c0]
    exact ⟨v, rfl, fun c hc => hv c (by omega)⟩
  | m + 1, b, f + 1, v, mp, h, hf, hm, hv => by
    have hb : b < 256 := by omega
    have hcl := ck_le kk b
    have fin : ∀ mp', MapOK kk (b + 1) mp' → ∃ v', byteset_Classes_c1 5000 (byteset_Classes_l2 5000 L f) v (b : Int) mp' (ck kk b : Int) = some v' ∧ ∀ c : Nat, c < 256 → vget v' (c : Int) = (ck kk c : Int) := by
      intro mp' hm'
      unfold byteset_Classes_c1
      rw [if_pos ⟨by omega, by omega⟩, w8_id (by omega) (by omega), w64_id (by omega) (by omega)]
      have := classes_l hk m (b + 1) f (vset v (b : Int) (ck kk b : Int)) mp' (by omega) (by omega) hm' (fun c hc => by
        rw [vget_vset256 _ _ _ _ hb (by omega)]
        by_cases q : c = b
        · subst q; rw [if_pos rfl]
        · rw [if_neg q]; exact hv c (by omega))
      exact_mod_cast this
    rw [byteset_Classes_l2.eq_2, if_pos (by omega), w8_id (by omega) (by omega), hk b hb, Option.bind_some]
    obtain ⟨r1, r2, r3⟩ := rc_spec kk b
    obtain ⟨m1, m2, m3⟩ := hm
    by_cases q : rc kk b = b
    · have hn : mget mp (kk b) = none := m3 _ (fun c hc => r3 c (by omega))
      have hc : ck kk b = nc kk b := by unfold ck; rw [q]
      rw [hn, if_pos (by rfl), m1, ← hc]
      refine fin _ ⟨?_, fun c hc' => ?_, fun s hs => ?_⟩
      · rw [mput_none hn, List.length_append, m1, nc, if_pos q]; rfl
      · rw [mget_mput]
        by_cases r : c = b
        · subst r; rw [if_pos rfl]
        · rw [if_neg (fun h => r3 c (by omega) h.symm), m2 c (by omega)]
      · rw [mget_mput, if_neg (hs b (by omega)), m3 s (fun c hc => hs c (by omega))]
    · have hg : mget mp (kk b) = some (ck kk b : Int) := by
        rw [← r2, m2 _ (by omega), ck_same kk r2]
      rw [hg, if_neg (by simp)]
      refine fin mp ⟨by rw [m1, nc, if_neg q]; rfl, fun c hc' => ?_, fun s hs => m3 s (fun c hc => hs c (by omega))⟩
      by_cases r : c = b
      · subst r; exact hg
      · exact m2 c (by omega)
open Classical in
open Classical in
end
end Go.Avl.T5
/- Machines that may be in several states: what both answer, as plain lists. -/
namespace Go.Avl.T5
open Go Go.RowKit Go.Proofs Go.Avl
set_option linter.all false
set_option maxRecDepth 10000

theorem lget_lt {α : Type} [Inhabited α] (l : List α) (i : Nat) (h : i < l.length) : lget l (i : Int) = l[i] := by simp [lget, List.getD, List.getElem?_eq_getElem h]
theorem lset_len {α : Type} (l : List α) (i : Int) (x : α) : (lset l i x).length = l.length := by simp [lset]
def NN (n : S24) : Nat := n.f0.toNat
/-- May an edge be? -/
def edB (n : S24) (e : S43) : Bool := decide (0 ≤ e.f0 ∧ e.f0 < n.f0 ∧ 0 ≤ e.f1 ∧ e.f1 < n.f0)
def rt0 (n : S24) : Bool := decide (0 ≤ n.f2 ∧ n.f2 < n.f0 ∧ 0 ≤ n.f3 ∧ n.f3 < n.f0)
def rtB (n : S24) : Bool := rt0 n && n.f1.all (edB n)
theorem rright_l (n : S24) (hl : n.f1.length ≤ 1000) : ∀ (d i m : Nat) (b : Bool), i + d = n.f1.length → d < m → bosketref06_Right_l1 5000 n m b (i : Int) = some (b && (n.f1.drop i).all (edB n))
  | 0, i, m + 1, b, hi, _ => by
    rw [bosketref06_Right_l1.eq_2, if_neg (by omega), bosketref06_Right_c0, List.drop_of_length_le (by omega)]; simp
  | d + 1, i, m + 1, b, hi, hm => by
    have hi' : i < n.f1.length := by omega
    have g : 0 ≤ (i : Int) ∧ (i : Int) < (n.f1.length : Int) := ⟨by omega, by omega⟩
    have ih := fun b => rright_l n hl d (i + 1) m b (by omega) (by omega)
    rw [bosketref06_Right_l1.eq_2, if_pos g.2, if_pos g, lget_lt _ i hi', List.drop_eq_getElem_cons hi', w64_id (by omega) (by omega), show (i : Int) + 1 = ((i + 1 : Nat) : Int) by omega]
    have key : (if b = true then if (0 : Int) ≤ n.f1[i].f0 then if n.f1[i].f0 < n.f0 then if (0 : Int) ≤ n.f1[i].f1 then some (decide (n.f1[i].f1 < n.f0)) else some false else some false else some false else some false) = some (b && edB n n.f1[i]) := by
      unfold edB
      cases b with
      | false => simp
      | true =>
        rw [if_pos rfl]
        by_cases a1 : (0 : Int) ≤ n.f1[i].f0
        · rw [if_pos a1]
          by_cases a2 : n.f1[i].f0 < n.f0
          · rw [if_pos a2]
            by_cases a3 : (0 : Int) ≤ n.f1[i].f1
            · rw [if_pos a3]; simp [a1, a2, a3]
            · rw [if_neg a3]; simp [a3]
          · rw [if_neg a2]; simp [a2]
        · rw [if_neg a1]; simp [a1]
    rw [key, Option.bind_some, ih, List.all_cons, Bool.and_assoc]
theorem rright_eq (n : S24) (hl : n.f1.length ≤ 1000) : bosketref06_Right 5000 n = some (rtB n) := by
  unfold bosketref06_Right rtB rt0
  have key : (if (0 : Int) ≤ n.f2 then if n.f2 < n.f0 then if (0 : Int) ≤ n.f3 then some (decide (n.f3 < n.f0)) else some false else some false else some false) = some (decide (0 ≤ n.f2 ∧ n.f2 < n.f0 ∧ 0 ≤ n.f3 ∧ n.f3 < n.f0)) := by
    by_cases a1 : (0 : Int) ≤ n.f2
    · rw [if_pos a1]
      by_cases a2 : n.f2 < n.f0
      · rw [if_pos a2]
        by_cases a3 : (0 : Int) ≤ n.f3
        · rw [if_pos a3]; simp [a1, a2, a3]
        · rw [if_neg a3]; simp [a3]
      · rw [if_neg a2]; simp [a2]
    · rw [if_neg a1]; simp [a1]
  have := rright_l n hl n.f1.length 0 5000 (decide (0 ≤ n.f2 ∧ n.f2 < n.f0 ∧ 0 ≤ n.f3 ∧ n.f3 < n.f0)) (by omega) (by omega)
  rw [key, Option.bind_some]
  simpa using this
theorem right_l (n : S24) (hl : n.f1.length ≤ 1000) : ∀ (d i m : Nat), i + d = n.f1.length → d < m → nfa_Right_l1 5000 n m (i : Int) = some ((n.f1.drop i).all (edB n))
  | 0, i, m + 1, hi, _ => by
    rw [nfa_Right_l1.eq_2, if_neg (by omega), nfa_Right_c0, List.drop_of_length_le (by omega)]; simp
  | d + 1, i, m + 1, hi, hm => by
    have hi' : i < n.f1.length := by omega
    have g : 0 ≤ (i : Int) ∧ (i : Int) < (n.f1.length : Int) := ⟨by omega, by omega⟩
    have ih := right_l n hl d (i + 1) m (by omega) (by omega)
    rw [nfa_Right_l1.eq_2, if_pos g.2, if_pos g, lget_lt _ i hi', List.drop_eq_getElem_cons hi', w64_id (by omega) (by omega), show (i : Int) + 1 = ((i + 1 : Nat) : Int) by omega, ih]
    have key : (if n.f1[i].f0 < (0 : Int) then some true else if n.f0 ≤ n.f1[i].f0 then some true else if n.f1[i].f1 < (0 : Int) then some true else some (decide (n.f0 ≤ n.f1[i].f1))) = some (!edB n n.f1[i]) := by
      unfold edB
      by_cases a1 : n.f1[i].f0 < (0 : Int)
      · rw [if_pos a1, decide_eq_false (by omega)]; rfl
      · rw [if_neg a1]
        by_cases a2 : n.f0 ≤ n.f1[i].f0
        · rw [if_pos a2, decide_eq_false (by omega)]; rfl
        · rw [if_neg a2]
          by_cases a3 : n.f1[i].f1 < (0 : Int)
          · rw [if_pos a3, decide_eq_false (by omega)]; rfl
          · rw [if_neg a3]
            by_cases a4 : n.f0 ≤ n.f1[i].f1
            · rw [decide_eq_true a4, decide_eq_false (by omega)]; rfl
            · rw [decide_eq_false a4, decide_eq_true (by omega)]; rfl
    rw [key, Option.bind_some, List.all_cons]
    cases edB n n.f1[i]
    · rw [if_pos (by decide)]; rfl
    · rw [if_neg (by decide), Bool.true_and]
theorem right_eq (n : S24) (hl : n.f1.length ≤ 1000) : nfa_Right 5000 n = some (rtB n) := by
  unfold nfa_Right rtB rt0
  have key : (if n.f2 < (0 : Int) then some true else if n.f0 ≤ n.f2 then some true else if n.f3 < (0 : Int) then some true else some (decide (n.f0 ≤ n.f3))) = some (!decide (0 ≤ n.f2 ∧ n.f2 < n.f0 ∧ 0 ≤ n.f3 ∧ n.f3 < n.f0)) := by
    by_cases a1 : n.f2 < (0 : Int)
    · rw [if_pos a1, decide_eq_false (by omega)]; rfl
    · rw [if_neg a1]
      by_cases a2 : n.f0 ≤ n.f2
      · rw [if_pos a2, decide_eq_false (by omega)]; rfl
      · rw [if_neg a2]
        by_cases a3 : n.f3 < (0 : Int)
        · rw [if_pos a3, decide_eq_false (by omega)]; rfl
        · rw [if_neg a3]
          by_cases a4 : n.f0 ≤ n.f3
          · rw [decide_eq_true a4, decide_eq_false (by omega)]; rfl
          · rw [decide_eq_false a4, decide_eq_true (by omega)]; rfl
  have := right_l n hl n.f1.length 0 5000 (by omega) (by omega)
  rw [key, Option.bind_some]
  cases decide (0 ≤ n.f2 ∧ n.f2 < n.f0 ∧ 0 ≤ n.f3 ∧ n.f3 < n.f0)
  · rfl
  · simpa using this

/-- A machine whose states are all there, not too large. -/
structure Rt (n : S24) : Prop where
  first : 0 ≤ n.f2 ∧ n.f2 < n.f0
  last : 0 ≤ n.f3 ∧ n.f3 < n.f0
  ed : ∀ e ∈ n.f1, 0 ≤ e.f0 ∧ e.f0 < n.f0 ∧ 0 ≤ e.f1 ∧ e.f1 < n.f0
  n1 : n.f0 ≤ 1000
  n2 : n.f1.length ≤ 1000
  u : ∀ e ∈ n.f1, U e.f2
theorem rt_of {n : S24} (h : rtB n = true) (h1 : n.f0 ≤ 1000) (h2 : n.f1.length ≤ 1000) (h3 : ∀ e ∈ n.f1, U e.f2) : Rt n := by
  simp only [rtB, rt0, Bool.and_eq_true, decide_eq_true_eq, List.all_eq_true, edB] at h
  exact ⟨⟨h.1.1, h.1.2.1⟩, h.1.2.2, h.2, h1, h2, h3⟩
theorem Rt.nn {n : S24} (h : Rt n) : ((NN n : Nat) : Int) = n.f0 := by have := h.first; unfold NN; omega
theorem Rt.rt {n : S24} (h : Rt n) : rtB n = true := by
  simp only [rtB, rt0, Bool.and_eq_true, decide_eq_true_eq, List.all_eq_true, edB]
  exact ⟨⟨h.first.1, h.first.2, h.last⟩, h.ed⟩

/-! Free edges. -/
def st1 (s : List Bool × Bool) (e : S43) : List Bool × Bool := if e.f3 = true ∧ lget s.1 e.f0 = true ∧ lget s.1 e.f1 = false then (lset s.1 e.f1 true, true) else s
def pass (l : List S43) (s : List Bool × Bool) : List Bool × Bool := l.foldl st1 s
theorem st1_len (s : List Bool × Bool) (e : S43) : (st1 s e).1.length = s.1.length := by
  unfold st1; split
  · exact lset_len _ _ _
  · rfl
theorem pass_len : ∀ (l : List S43) (s : List Bool × Bool), (pass l s).1.length = s.1.length
  | [], s => rfl
  | e :: l, s => by
    show (pass l (st1 s e)).1.length = _
    rw [pass_len l, st1_len]
theorem guard22 {x : List Bool} {e : S43} (N : Nat) (hx : x.length = N) (he : 0 ≤ e.f0 ∧ e.f0 < (N : Int) ∧ 0 ≤ e.f1 ∧ e.f1 < (N : Int)) :
    (if e.f3 = true then if 0 ≤ e.f0 ∧ e.f0 < (x.length : Int) then if (lget x e.f0) = true then if 0 ≤ e.f1 ∧ e.f1 < (x.length : Int) then some (!(lget x e.f1)) else none else some false else none else some false) = some (decide (e.f3 = true ∧ lget x e.f0 = true ∧ lget x e.f1 = false)) := by
  have g0 : 0 ≤ e.f0 ∧ e.f0 < (x.length : Int) := ⟨he.1, by omega⟩
  have g1 : 0 ≤ e.f1 ∧ e.f1 < (x.length : Int) := ⟨he.2.2.1, by omega⟩
  rw [if_pos g0, if_pos g1]
  cases e.f3 <;> cases lget x e.f0 <;> cases lget x e.f1 <;> simp
theorem close_l2 {n : S24} (h : Rt n) (rec9 : List Bool → Bool → Option (List Bool)) : ∀ (d i m : Nat) (x : List Bool) (b : Bool), i + d = n.f1.length → d < m → x.length = NN n →
    nfa_Close_l2 5000 rec9 n m x b (i : Int) = rec9 (pass (n.f1.drop i) (x, b)).1 (pass (n.f1.drop i) (x, b)).2
  | 0, i, m + 1, x, b, hi, _, hx => by
    rw [nfa_Close_l2.eq_2, if_neg (by omega), List.drop_of_length_le (by omega)]; rfl
  | d + 1, i, m + 1, x, b, hi, hm, hx => by
    have hi' : i < n.f1.length := by omega
    have g : 0 ≤ (i : Int) ∧ (i : Int) < (n.f1.length : Int) := ⟨by omega, by omega⟩
    have he := h.ed n.f1[i] (List.getElem_mem hi')
    have hN := h.n2
    have hf := h.first
    have hnn := h.nn
    rw [nfa_Close_l2.eq_2, if_pos g.2, if_pos g, lget_lt _ i hi', List.drop_eq_getElem_cons hi', guard22 (NN n) hx ⟨he.1, by have := he.2.1; omega, he.2.2.1, by have := he.2.2.2; omega⟩, Option.bind_some]
    show _ = rec9 (pass (n.f1.drop (i + 1)) (st1 (x, b) n.f1[i])).1 (pass (n.f1.drop (i + 1)) (st1 (x, b) n.f1[i])).2
    unfold st1
    by_cases q : n.f1[i].f3 = true ∧ lget x n.f1[i].f0 = true ∧ lget x n.f1[i].f1 = false
    · rw [if_pos (decide_eq_true q), if_pos q, if_pos ⟨he.2.2.1, by have := he.2.2.2; omega⟩, nfa_Close_c1, w64_id (by omega) (by omega)]
      have ih := close_l2 h rec9 d (i + 1) m (lset x n.f1[i].f1 true) true (by omega) (by omega) (by rw [lset_len, hx])
      exact_mod_cast ih
    · rw [if_neg (by simpa using q), if_neg q, nfa_Close_c1, w64_id (by omega) (by omega)]
      have ih := close_l2 h rec9 d (i + 1) m x b (by omega) (by omega) hx
      exact_mod_cast ih
theorem rclose_l4 {n : S24} (h : Rt n) (rec10 : List Bool → Int → Option (List Bool)) (x9 : Int) : ∀ (d i m : Nat) (x : List Bool) (b : Bool), i + d = n.f1.length → d < m → x.length = NN n →
    bosketref06_Close_l4 5000 rec10 n x9 m x b (i : Int) = bosketref06_Close_c2 5000 rec10 x9 (pass (n.f1.drop i) (x, b)).1 (pass (n.f1.drop i) (x, b)).2
  | 0, i, m + 1, x, b, hi, _, hx => by
    rw [bosketref06_Close_l4.eq_2, if_neg (by omega), List.drop_of_length_le (by omega)]; rfl
  | d + 1, i, m + 1, x, b, hi, hm, hx => by
    have hi' : i < n.f1.length := by omega
    have g : 0 ≤ (i : Int) ∧ (i : Int) < (n.f1.length : Int) := ⟨by omega, by omega⟩
    have he := h.ed n.f1[i] (List.getElem_mem hi')
    have hN := h.n2
    have hf := h.first
    have hnn := h.nn
    rw [bosketref06_Close_l4.eq_2, if_pos g.2, if_pos g, lget_lt _ i hi', List.drop_eq_getElem_cons hi', guard22 (NN n) hx ⟨he.1, by have := he.2.1; omega, he.2.2.1, by have := he.2.2.2; omega⟩, Option.bind_some]
    show _ = bosketref06_Close_c2 5000 rec10 x9 (pass (n.f1.drop (i + 1)) (st1 (x, b) n.f1[i])).1 (pass (n.f1.drop (i + 1)) (st1 (x, b) n.f1[i])).2
    unfold st1
    by_cases q : n.f1[i].f3 = true ∧ lget x n.f1[i].f0 = true ∧ lget x n.f1[i].f1 = false
    · rw [if_pos (decide_eq_true q), if_pos q, if_pos ⟨he.2.2.1, by have := he.2.2.2; omega⟩, bosketref06_Close_c3, w64_id (by omega) (by omega)]
      have ih := rclose_l4 h rec10 x9 d (i + 1) m (lset x n.f1[i].f1 true) true (by omega) (by omega) (by rw [lset_len, hx])
      exact_mod_cast ih
    · rw [if_neg (by simpa using q), if_neg q, bosketref06_Close_c3, w64_id (by omega) (by omega)]
      have ih := rclose_l4 h rec10 x9 d (i + 1) m x b (by omega) (by omega) hx
      exact_mod_cast ih
/-- How many states. -/
def cnt (x : List Bool) : Nat := x.count true
theorem cnt_le (x : List Bool) : cnt x ≤ x.length := List.count_le_length
theorem cnt_set : ∀ (x : List Bool) (i : Nat), i < x.length → x[i]? = some false → cnt (x.set i true) = cnt x + 1
  | b :: x, 0, _, h => by simp at h; subst h; simp [cnt]
  | b :: x, i + 1, hi, h => by
    have := cnt_set x i (by simpa using hi) (by simpa using h)
    simp only [cnt, List.set_cons_succ, List.count_cons] at this ⊢
    omega
theorem st1_cnt (s : List Bool × Bool) (e : S43) (he : 0 ≤ e.f1 ∧ e.f1 < (s.1.length : Int)) : st1 s e = s ∨ ((st1 s e).2 = true ∧ cnt (st1 s e).1 = cnt s.1 + 1) := by
  unfold st1
  split
  · rename_i q
    refine .inr ⟨rfl, ?_⟩
    have hi : e.f1.toNat < s.1.length := by omega
    refine cnt_set s.1 e.f1.toNat hi ?_
    have := q.2.2
    unfold lget at this
    rw [List.getD, List.getElem?_eq_getElem hi] at this
    rw [List.getElem?_eq_getElem hi]; simpa using this
  · exact .inl rfl
theorem pass_cnt (N : Int) : ∀ (l : List S43) (s : List Bool × Bool), (∀ e ∈ l, 0 ≤ e.f1 ∧ e.f1 < N) → (s.1.length : Int) = N → pass l s = s ∨ ((pass l s).2 = true ∧ cnt s.1 < cnt (pass l s).1)
  | [], s, _, _ => .inl rfl
  | e :: l, s, h, hs => by
    have ih := pass_cnt N l (st1 s e) (fun e' h' => h e' (by simp [h'])) (by rw [st1_len]; exact hs)
    show pass l (st1 s e) = s ∨ ((pass l (st1 s e)).2 = true ∧ cnt s.1 < cnt (pass l (st1 s e)).1)
    rcases st1_cnt s e (by rw [hs]; exact h e (by simp)) with q | ⟨q1, q2⟩
    · rw [q] at ih ⊢; exact ih
    · rcases ih with r | ⟨r1, r2⟩
      · rw [r]; exact .inr ⟨q1, by omega⟩
      · exact .inr ⟨r1, by omega⟩
/-- Round after round, as long as some state is new. -/
def cl (l : List S43) : Nat → List Bool → List Bool
  | 0, x => x
  | k + 1, x => if (pass l (x, false)).2 = true then cl l k (pass l (x, false)).1 else (pass l (x, false)).1
theorem cl_len (l : List S43) : ∀ (k : Nat) (x : List Bool), (cl l k x).length = x.length
  | 0, _ => rfl
  | k + 1, x => by
    rw [cl]; split
    · rw [cl_len l k, pass_len]
    · rw [pass_len]
theorem cl_more {n : S24} (h : Rt n) : ∀ (j : Nat) (x : List Bool), x.length = NN n → NN n - cnt x < j → cl n.f1 j x = cl n.f1 (j + 1) x
  | 0, x, _, h => by omega
  | j + 1, x, hx, hj => by
    rw [cl, cl]
    split
    · rename_i q
      have hp := pass_len n.f1 (x, false)
      have hle := cnt_le (pass n.f1 (x, false)).1
      have hf := h.first
      have hnn := h.nn
      rcases pass_cnt n.f0 n.f1 (x, false) (fun e he => ⟨(h.ed e he).2.2.1, (h.ed e he).2.2.2⟩) (by show (x.length : Int) = _; omega) with r | ⟨_, r⟩
      · rw [r] at q; cases q
      · have r' : cnt x < cnt (pass n.f1 (x, false)).1 := r
        have hp' : (pass n.f1 (x, false)).1.length = x.length := hp
        exact cl_more h j _ (hp'.trans hx) (by rw [hp'] at hle; omega)
    · rfl
/-- All that free edges lead to. -/
def CL (n : S24) (x : List Bool) : List Bool := cl n.f1 (NN n + 1) x
theorem CL_len (n : S24) (x : List Bool) : (CL n x).length = x.length := cl_len _ _ _
theorem cl_CL {n : S24} (h : Rt n) {x : List Bool} (hx : x.length = NN n) : ∀ {j : Nat}, NN n - cnt x < j → cl n.f1 j x = CL n x := by
  have up : ∀ (d j : Nat), NN n - cnt x < j → cl n.f1 j x = cl n.f1 (j + d) x := by
    intro d
    induction d with
    | zero => intro j _; rfl
    | succ d ih => intro j hj; rw [ih j hj, cl_more h (j + d) x hx (by omega)]; rfl
  intro j hj
  unfold CL
  rcases Nat.le_total j (NN n + 1) with q | q
  · have := up (NN n + 1 - j) j hj; rwa [show j + (NN n + 1 - j) = NN n + 1 by omega] at this
  · have := up (j - (NN n + 1)) (NN n + 1) (by omega); rw [show NN n + 1 + (j - (NN n + 1)) = j by omega] at this; exact this.symm
theorem pass_zero : ∀ (l : List S43) (x : List Bool) (b : Bool), cnt x = 0 → pass l (x, b) = (x, b)
  | [], _, _, _ => rfl
  | e :: l, x, b, h => by
    have : st1 (x, b) e = (x, b) := by
      unfold st1
      rw [if_neg]
      rintro ⟨_, q, _⟩
      have hm : true ∈ x := by
        simp only [lget, List.getD] at q
        cases hx : x[e.f0.toNat]? with
        | none => rw [hx] at q; cases q
        | some b => rw [hx] at q; simp at q; subst q; exact List.mem_of_getElem? hx
      have := List.count_pos_iff.2 hm
      unfold cnt at h; omega
    show pass l (st1 (x, b) e) = _
    rw [this, pass_zero l x b h]
theorem cl_N {n : S24} (h : Rt n) {x : List Bool} (hx : x.length = NN n) : cl n.f1 (NN n) x = CL n x := by
  by_cases q : cnt x = 0
  · have z : ∀ k, cl n.f1 k x = x := by
      intro k
      cases k with
      | zero => rfl
      | succ k => rw [cl, pass_zero n.f1 x false q, if_neg (fun e => Bool.noConfusion e)]
    unfold CL; rw [z, z]
  · have := h.first
    have hnn := h.nn
    exact cl_CL h hx (by omega)
theorem close_l3 {n : S24} (h : Rt n) : ∀ (m : Nat) (x : List Bool), x.length = NN n → NN n - cnt x + 1 < m → nfa_Close_l3 5000 n m x true = some (cl n.f1 m x)
  | m + 1, x, hx, hm => by
    have h2 := h.n2
    rw [nfa_Close_l3.eq_2, if_pos rfl]
    have e := close_l2 h (nfa_Close_l3 5000 n m) n.f1.length 0 5000 x false (by omega) (by omega) hx
    rw [Int.natCast_zero, List.drop_zero] at e
    rw [e, cl]
    have hp := pass_len n.f1 (x, false)
    have hp' : (pass n.f1 (x, false)).1.length = x.length := hp
    by_cases q : (pass n.f1 (x, false)).2 = true
    · rw [if_pos q, q]
      have hf := h.first
      have hnn := h.nn
      have hle := cnt_le (pass n.f1 (x, false)).1
      rcases pass_cnt n.f0 n.f1 (x, false) (fun e he => ⟨(h.ed e he).2.2.1, (h.ed e he).2.2.2⟩) (by show (x.length : Int) = _; omega) with r | ⟨_, r⟩
      · rw [r] at q; cases q
      · have r' : cnt x < cnt (pass n.f1 (x, false)).1 := r
        exact close_l3 h m _ (hp'.trans hx) (by rw [hp'] at hle; omega)
    · rw [if_neg q]
      cases m with
      | zero => omega
      | succ m => rw [nfa_Close_l3.eq_2, if_neg q, nfa_Close_c0]
/-- The states handed on: so many, those that lack are none. -/
def ini (n : S24) (x : List Bool) : List Bool := lcopy (List.replicate (NN n) false) x
theorem ini_len (n : S24) (x : List Bool) : (ini n x).length = NN n := by unfold ini; rw [lcopy_len, List.length_replicate]
theorem ini_self {n : S24} {x : List Bool} (hx : x.length = NN n) : ini n x = x := by
  unfold ini lcopy
  rw [List.length_replicate, List.take_of_length_le (by omega), List.drop_of_length_le (by simp; omega), List.append_nil]
theorem close_eq {n : S24} (h : Rt n) (x : List Bool) : nfa_Close 5000 n x = some (CL n (ini n x)) := by
  have h1 := h.n1
  have hf := h.first
  have hnn := h.nn
  unfold nfa_Close
  rw [show n.f0.toNat = NN n from rfl]
  rw [if_pos ⟨by omega, by omega, by omega⟩]
  show nfa_Close_l3 5000 n 5000 (ini n x) true = _
  rw [close_l3 h 5000 _ (ini_len n x) (by omega), cl_CL h (ini_len n x) (by omega)]
theorem rclose_l5 {n : S24} (h : Rt n) : ∀ (r i m : Nat) (x : List Bool), x.length = NN n → i + r = NN n → r < m → bosketref06_Close_l5 5000 n m x (i : Int) = some (cl n.f1 r x)
  | 0, i, m + 1, x, hx, hi, hm => by
    have hf := h.first
    have hnn := h.nn
    rw [bosketref06_Close_l5.eq_2, if_neg (by omega), bosketref06_Close_c0]; rfl
  | r + 1, i, m + 1, x, hx, hi, hm => by
    have h2 := h.n2
    have h1 := h.n1
    have hf := h.first
    have hnn := h.nn
    rw [bosketref06_Close_l5.eq_2, if_pos (by omega)]
    have e := rclose_l4 h (bosketref06_Close_l5 5000 n m) (i : Int) n.f1.length 0 5000 x false (by omega) (by omega) hx
    rw [Int.natCast_zero, List.drop_zero] at e
    rw [e, cl, bosketref06_Close_c2]
    have hp : (pass n.f1 (x, false)).1.length = x.length := pass_len n.f1 (x, false)
    by_cases q : (pass n.f1 (x, false)).2 = true
    · rw [if_neg (by simp [q]), if_pos q, bosketref06_Close_c1, w64_id (by omega) (by omega)]
      have ih := rclose_l5 h r (i + 1) m (pass n.f1 (x, false)).1 (by omega) (by omega) (by omega)
      exact_mod_cast ih
    · rw [if_pos (by simpa using q), if_neg q]
theorem rclose_l7 {n : S24} (h : Rt n) (p : List Bool) (hp : p.length ≤ 1000) : ∀ (d i m : Nat), i + d = min (NN n) p.length → d < m →
    bosketref06_Close_l7 5000 n p m (p.take i ++ List.replicate (NN n - i) false) (i : Int) = bosketref06_Close_c6 5000 n (ini n p)
  | 0, i, m + 1, hi, hm => by
    have hf := h.first
    have hnn := h.nn
    rw [bosketref06_Close_l7.eq_2]
    have e : p.take i ++ List.replicate (NN n - i) false = ini n p := by
      unfold ini lcopy
      rw [List.length_replicate, List.drop_replicate]
      by_cases q : p.length ≤ NN n
      · rw [List.take_of_length_le (by omega), List.take_of_length_le (by omega), show NN n - i = NN n - p.length by omega]
      · rw [show i = NN n by omega, Nat.sub_self, show NN n - p.length = 0 by omega]
    by_cases q : (i : Int) < n.f0
    · rw [if_pos q, Option.bind_some, if_neg (by simp; omega), e]
    · rw [if_neg q, Option.bind_some, if_neg (by decide), e]
  | d + 1, i, m + 1, hi, hm => by
    have hf := h.first
    have hnn := h.nn
    have h1 := h.n1
    have hi' : i < p.length := by omega
    have hlen : (p.take i ++ List.replicate (NN n - i) false).length = NN n := by simp; omega
    rw [bosketref06_Close_l7.eq_2, if_pos (by omega), Option.bind_some, if_pos (by simp; omega), if_pos ⟨by omega, by omega⟩, if_pos ⟨by omega, by rw [hlen]; omega⟩, lget_lt p i hi', w64_id (by omega) (by omega)]
    have e : lset (p.take i ++ List.replicate (NN n - i) false) (i : Int) p[i] = p.take (i + 1) ++ List.replicate (NN n - (i + 1)) false := by
      unfold lset
      rw [Int.toNat_natCast, List.set_append_right _ _ (by simp; omega), show (i - (p.take i).length) = 0 by simp; omega, show NN n - i = (NN n - (i + 1)) + 1 by omega, List.replicate_succ, List.set_cons_zero, ← List.take_append_getElem hi', List.append_assoc]; rfl
    rw [e]
    have ih := rclose_l7 h p hp d (i + 1) m (by omega) (by omega)
    exact_mod_cast ih
theorem rclose_eq {n : S24} (h : Rt n) (x : List Bool) (hx : x.length ≤ 1000) : bosketref06_Close 5000 n x = some (CL n (ini n x)) := by
  have h1 := h.n1
  have hf := h.first
  have hnn := h.nn
  unfold bosketref06_Close
  rw [show n.f0.toNat = NN n from rfl]
  rw [if_pos ⟨by omega, by omega, by omega⟩]
  have e := rclose_l7 h x hx (min (NN n) x.length) 0 5000 (by omega) (by omega)
  rw [Int.natCast_zero, List.take_zero, List.nil_append, Nat.sub_zero] at e
  rw [e, bosketref06_Close_c6]
  have e2 := rclose_l5 h (NN n) 0 5000 (ini n x) (ini_len n x) (by omega) (by omega)
  rw [Int.natCast_zero] at e2
  rw [e2, cl_N h (ini_len n x)]
/-! By a byte. -/
def mv1 (x : List Bool) (b : Nat) (o : List Bool) (e : S43) : List Bool := if e.f3 = false ∧ e.f0 < (x.length : Int) ∧ lget x e.f0 = true ∧ tb e.f2 b = true then lset o e.f1 true else o
def MV (n : S24) (x : List Bool) (b : Nat) : List Bool := n.f1.foldl (mv1 x b) (List.replicate (NN n) false)
theorem mv1_len (x : List Bool) (b : Nat) (o : List Bool) (e : S43) : (mv1 x b o e).length = o.length := by
  unfold mv1; split
  · exact lset_len _ _ _
  · rfl
theorem mvf_len (x : List Bool) (b : Nat) : ∀ (l : List S43) (o : List Bool), (l.foldl (mv1 x b) o).length = o.length
  | [], _ => rfl
  | e :: l, o => by rw [List.foldl_cons, mvf_len x b l, mv1_len]
theorem MV_len (n : S24) (x : List Bool) (b : Nat) : (MV n x b).length = NN n := by unfold MV; rw [mvf_len, List.length_replicate]
theorem guard16 {x : List Bool} {e : S43} {t : Option Bool} {b : Nat} (he : 0 ≤ e.f0) (ht : t = some (tb e.f2 b)) :
    (if (!(e.f3)) = true then if e.f0 < (x.length : Int) then if 0 ≤ e.f0 ∧ e.f0 < (x.length : Int) then if (lget x e.f0) = true then t.bind fun t22 => some (t22) else some (false) else none else some (false) else some (false)) = some (decide (e.f3 = false ∧ e.f0 < (x.length : Int) ∧ lget x e.f0 = true ∧ tb e.f2 b = true)) := by
  subst ht
  by_cases q : e.f0 < (x.length : Int)
  · cases e.f3 <;> cases lget x e.f0 <;> simp [q, he]
  · cases e.f3 <;> simp [q]
theorem move_l {n : S24} (h : Rt n) (x : List Bool) {b : Nat} (hb : b < 256) : ∀ (d i m : Nat) (o : List Bool), i + d = n.f1.length → d < m → o.length = NN n →
    nfa_Move_l2 5000 n x (b : Int) m o (i : Int) = some ((n.f1.drop i).foldl (mv1 x b) o)
  | 0, i, m + 1, o, hi, _, ho => by
    rw [nfa_Move_l2.eq_2, if_neg (by omega), List.drop_of_length_le (by omega), nfa_Move_c0]; rfl
  | d + 1, i, m + 1, o, hi, hm, ho => by
    have hi' : i < n.f1.length := by omega
    have g : 0 ≤ (i : Int) ∧ (i : Int) < (n.f1.length : Int) := ⟨by omega, by omega⟩
    have he := h.ed n.f1[i] (List.getElem_mem hi')
    have hN := h.n2
    have hf := h.first
    have hnn := h.nn
    rw [nfa_Move_l2.eq_2, if_pos g.2, if_pos g, lget_lt _ i hi', List.drop_eq_getElem_cons hi', guard16 he.1 (has_eq (h.u _ (List.getElem_mem hi')) hb), Option.bind_some, List.foldl_cons]
    unfold mv1
    by_cases q : n.f1[i].f3 = false ∧ n.f1[i].f0 < (x.length : Int) ∧ lget x n.f1[i].f0 = true ∧ tb n.f1[i].f2 b = true
    · rw [if_pos (decide_eq_true q), if_pos q, if_pos ⟨he.2.2.1, by have := he.2.2.2; omega⟩, nfa_Move_c1, w64_id (by omega) (by omega)]
      have ih := move_l h x hb d (i + 1) m (lset o n.f1[i].f1 true) (by omega) (by omega) (by rw [lset_len, ho])
      unfold mv1 at ih
      exact_mod_cast ih
    · rw [if_neg (by simpa using q), if_neg q, nfa_Move_c1, w64_id (by omega) (by omega)]
      have ih := move_l h x hb d (i + 1) m o (by omega) (by omega) ho
      unfold mv1 at ih
      exact_mod_cast ih
theorem rmove_l {n : S24} (h : Rt n) (x : List Bool) {b : Nat} (hb : b < 256) : ∀ (d i m : Nat) (o : List Bool), i + d = n.f1.length → d < m → o.length = NN n →
    bosketref06_Move_l2 5000 n x (b : Int) m o (i : Int) = some ((n.f1.drop i).foldl (mv1 x b) o)
  | 0, i, m + 1, o, hi, _, ho => by
    rw [bosketref06_Move_l2.eq_2, if_neg (by omega), List.drop_of_length_le (by omega), bosketref06_Move_c0]; rfl
  | d + 1, i, m + 1, o, hi, hm, ho => by
    have hi' : i < n.f1.length := by omega
    have g : 0 ≤ (i : Int) ∧ (i : Int) < (n.f1.length : Int) := ⟨by omega, by omega⟩
    have he := h.ed n.f1[i] (List.getElem_mem hi')
    have hN := h.n2
    have hf := h.first
    have hnn := h.nn
    rw [bosketref06_Move_l2.eq_2, if_pos g.2, if_pos g, lget_lt _ i hi', List.drop_eq_getElem_cons hi', guard16 he.1 (rhas_eq (h.u _ (List.getElem_mem hi')) hb), Option.bind_some, List.foldl_cons]
    unfold mv1
    by_cases q : n.f1[i].f3 = false ∧ n.f1[i].f0 < (x.length : Int) ∧ lget x n.f1[i].f0 = true ∧ tb n.f1[i].f2 b = true
    · rw [if_pos (decide_eq_true q), if_pos q, if_pos ⟨he.2.2.1, by have := he.2.2.2; omega⟩, bosketref06_Move_c1, w64_id (by omega) (by omega)]
      have ih := rmove_l h x hb d (i + 1) m (lset o n.f1[i].f1 true) (by omega) (by omega) (by rw [lset_len, ho])
      unfold mv1 at ih
      exact_mod_cast ih
    · rw [if_neg (by simpa using q), if_neg q, bosketref06_Move_c1, w64_id (by omega) (by omega)]
      have ih := rmove_l h x hb d (i + 1) m o (by omega) (by omega) ho
      unfold mv1 at ih
      exact_mod_cast ih
theorem move_eq {n : S24} (h : Rt n) (x : List Bool) {c : Int} (h0 : 0 ≤ c) (h1 : c ≤ 255) : nfa_Move 5000 n x c = some (MV n x c.toNat) := by
  obtain ⟨b, rfl⟩ := Int.eq_ofNat_of_zero_le h0
  have hn1 := h.n1
  have hn2 := h.n2
  have hf := h.first
  have hnn := h.nn
  unfold nfa_Move
  rw [show n.f0.toNat = NN n from rfl]
  rw [if_pos ⟨by omega, by omega, by omega⟩]
  have := move_l h x (b := b) (by omega) n.f1.length 0 5000 (List.replicate (NN n) false) (by omega) (by omega) (by simp)
  rw [Int.natCast_zero, List.drop_zero] at this
  exact this
theorem rmove_eq {n : S24} (h : Rt n) (x : List Bool) {c : Int} (h0 : 0 ≤ c) (h1 : c ≤ 255) : bosketref06_Move 5000 n x c = some (MV n x c.toNat) := by
  obtain ⟨b, rfl⟩ := Int.eq_ofNat_of_zero_le h0
  have hn1 := h.n1
  have hn2 := h.n2
  have hf := h.first
  have hnn := h.nn
  unfold bosketref06_Move
  rw [show n.f0.toNat = NN n from rfl]
  rw [if_pos ⟨by omega, by omega, by omega⟩]
  have := rmove_l h x (b := b) (by omega) n.f1.length 0 5000 (List.replicate (NN n) false) (by omega) (by omega) (by simp)
  rw [Int.natCast_zero, List.drop_zero] at this
  exact this
/-! By a text. -/
def RN (n : S24) (s : ByteArray) : Nat → List Bool
  | 0 => CL n (lset (List.replicate (NN n) false) n.f2 true)
  | i + 1 => CL n (MV n (RN n s i) (byteAt s i).toNat)
theorem RN_len (n : S24) (s : ByteArray) : ∀ i, (RN n s i).length = NN n
  | 0 => by rw [RN, CL_len, lset_len, List.length_replicate]
  | i + 1 => by rw [RN, CL_len, MV_len]
theorem run_l {n : S24} (h : Rt n) (s : ByteArray) (hs : s.size ≤ 1000) : ∀ (d i m : Nat), i + d = s.size → d < m → bosketref06_Run_l1 5000 n s m (RN n s i) (i : Int) = some (RN n s s.size)
  | 0, i, m + 1, hi, _ => by
    rw [bosketref06_Run_l1.eq_2, if_neg (by omega), bosketref06_Run_c0, show i = s.size by omega]
  | d + 1, i, m + 1, hi, hm => by
    have hb := byteAt_u8 s i
    have hn := h.n1
    have hf := h.first
    have hnn := h.nn
    rw [bosketref06_Run_l1.eq_2, if_pos (by omega), if_pos ⟨by omega, by omega⟩, w64_id (n := byteAt s i) (by omega) (by omega), rmove_eq h _ hb.1 hb.2, Option.bind_some, rclose_eq h _ (by rw [MV_len]; omega), Option.bind_some, ini_self (MV_len _ _ _), w64_id (by omega) (by omega)]
    have ih := run_l h s hs d (i + 1) m (by omega) (by omega)
    rw [RN] at ih
    exact_mod_cast ih
theorem nrun_eq {n : S24} (h : Rt n) (s : ByteArray) (hs : s.size ≤ 1000) : bosketref06_Run 5000 n s = some (RN n s s.size) := by
  have hn1 := h.n1
  have hf := h.first
  have hnn := h.nn
  unfold bosketref06_Run
  rw [show n.f0.toNat = NN n from rfl]
  rw [if_pos ⟨by omega, by omega, by omega⟩, if_pos ⟨hf.1, by simp; omega⟩, rclose_eq h _ (by rw [lset_len, List.length_replicate]; omega), Option.bind_some, ini_self (by rw [lset_len, List.length_replicate])]
  exact_mod_cast run_l h s hs s.size 0 5000 (by omega) (by omega)
end Go.Avl.T5
/- Machines that may be in several states: which states they reach. -/
namespace Go.Avl.T5
open Go Go.RowKit Go.Proofs Go.Avl
set_option linter.all false
set_option maxRecDepth 10000

theorem lget_lset (l : List Bool) (i q : Int) (h0 : 0 ≤ i) (h1 : i < (l.length : Int)) (hq : 0 ≤ q) : lget (lset l i true) q = (decide (q = i) || lget l q) := by
  unfold lget lset
  rw [List.getD, List.getD, List.getElem?_set]
  by_cases e : i.toNat = q.toNat
  · rw [if_pos e, if_pos (by omega), decide_eq_true (by omega)]; rfl
  · rw [if_neg e, decide_eq_false (by omega)]; rfl
theorem lget_rep (N : Nat) (q : Int) : lget (List.replicate N false) q = false := by
  unfold lget
  rw [List.getD, List.getElem?_replicate]
  split <;> rfl
/-- By free edges. -/
inductive FR (l : List S43) : Int → Int → Prop
  | refl (p : Int) : FR l p p
  | tail {p : Int} {e : S43} : FR l p e.f0 → e ∈ l → e.f3 = true → FR l p e.f1
theorem FR.trans {l : List S43} {p q r : Int} (h : FR l p q) (k : FR l q r) : FR l p r := by
  induction k with
  | refl => exact h
  | tail _ he hf ih => exact .tail ih he hf
/-- All of a row is reached from another one. -/
def Snd (L : List S43) (x o : List Bool) : Prop := ∀ q : Int, 0 ≤ q → lget o q = true → ∃ p, 0 ≤ p ∧ lget x p = true ∧ FR L p q
theorem st1_snd {L : List S43} {x : List Bool} {s : List Bool × Bool} {e : S43} (he : e ∈ L) (h0 : 0 ≤ e.f0) (h1 : 0 ≤ e.f1 ∧ e.f1 < (s.1.length : Int)) (h : Snd L x s.1) : Snd L x (st1 s e).1 := by
  unfold st1
  split
  · rename_i c
    intro q hq hg
    simp only [] at hg
    rw [lget_lset s.1 e.f1 q h1.1 h1.2 hq, Bool.or_eq_true, decide_eq_true_eq] at hg
    rcases hg with rfl | hg
    · obtain ⟨p, p1, p2, p3⟩ := h e.f0 h0 c.2.1
      exact ⟨p, p1, p2, .tail p3 he c.1⟩
    · exact h q hq hg
  · exact h
theorem pass_snd {L : List S43} {x : List Bool} {N : Int} : ∀ (l : List S43) (s : List Bool × Bool), (∀ e ∈ l, e ∈ L ∧ 0 ≤ e.f0 ∧ 0 ≤ e.f1 ∧ e.f1 < N) → (s.1.length : Int) = N → Snd L x s.1 → Snd L x (pass l s).1
  | [], s, _, _, h => h
  | e :: l, s, hl, hs, h => by
    have he := hl e (by simp)
    show Snd L x (pass l (st1 s e)).1
    exact pass_snd l _ (fun e' h' => hl e' (by simp [h'])) (by rw [st1_len]; exact hs) (st1_snd he.1 he.2.1 ⟨he.2.2.1, by rw [hs]; exact he.2.2.2⟩ h)
theorem st1_mono {s : List Bool × Bool} {e : S43} (h1 : 0 ≤ e.f1 ∧ e.f1 < (s.1.length : Int)) {q : Int} (hq : 0 ≤ q) (h : lget s.1 q = true) : lget (st1 s e).1 q = true := by
  unfold st1
  split
  · show lget (lset s.1 e.f1 true) q = true
    rw [lget_lset s.1 e.f1 q h1.1 h1.2 hq, h, Bool.or_true]
  · exact h
theorem pass_mono {N : Int} {q : Int} (hq : 0 ≤ q) : ∀ (l : List S43) (s : List Bool × Bool), (∀ e ∈ l, 0 ≤ e.f1 ∧ e.f1 < N) → (s.1.length : Int) = N → lget s.1 q = true → lget (pass l s).1 q = true
  | [], s, _, _, h => h
  | e :: l, s, hl, hs, h => by
    show lget (pass l (st1 s e)).1 q = true
    exact pass_mono hq l _ (fun e' h' => hl e' (by simp [h'])) (by rw [st1_len]; exact hs) (st1_mono (by rw [hs]; exact hl e (by simp)) hq h)
theorem pass_flag : ∀ (l : List S43) (s : List Bool × Bool), s.2 = true → (pass l s).2 = true
  | [], s, h => h
  | e :: l, s, h => by
    show (pass l (st1 s e)).2 = true
    refine pass_flag l _ ?_
    unfold st1
    split
    · rfl
    · exact h
theorem pass_closed : ∀ (l : List S43) (x : List Bool), (pass l (x, false)).2 = false → (pass l (x, false)).1 = x ∧ ∀ e ∈ l, e.f3 = true → lget x e.f0 = true → lget x e.f1 = true
  | [], x, _ => ⟨rfl, fun e he => by cases he⟩
  | e :: l, x, h => by
    have h' : (pass l (st1 (x, false) e)).2 = false := h
    show (pass l (st1 (x, false) e)).1 = x ∧ _
    have hs : st1 (x, false) e = (x, false) ∧ ¬ (e.f3 = true ∧ lget x e.f0 = true ∧ lget x e.f1 = false) := by
      by_cases c : e.f3 = true ∧ lget x e.f0 = true ∧ lget x e.f1 = false
      · have hf : (st1 (x, false) e).2 = true := by unfold st1; rw [if_pos c]
        rw [pass_flag l _ hf] at h'; cases h'
      · exact ⟨by unfold st1; rw [if_neg c], c⟩
    rw [hs.1] at h' ⊢
    obtain ⟨k1, k2⟩ := pass_closed l x h'
    refine ⟨k1, fun e' he' f1 f2 => ?_⟩
    rcases List.mem_cons.1 he' with rfl | he'
    · cases q : lget x e'.f1 with
      | true => rfl
      | false => exact absurd ⟨f1, f2, q⟩ hs.2
    · exact k2 e' he' f1 f2
theorem cl_snd {n : S24} (h : Rt n) {x0 : List Bool} : ∀ (k : Nat) (x : List Bool), x.length = NN n → Snd n.f1 x0 x → Snd n.f1 x0 (cl n.f1 k x)
  | 0, x, _, hs => hs
  | k + 1, x, hx, hs => by
    have hnn := h.nn
    have hp := pass_snd (L := n.f1) (x := x0) (N := n.f0) n.f1 (x, false) (fun e he => ⟨he, (h.ed e he).1, (h.ed e he).2.2.1, (h.ed e he).2.2.2⟩) (by show (x.length : Int) = _; omega) hs
    rw [cl]
    split
    · exact cl_snd h k _ ((pass_len _ _).trans hx) hp
    · exact hp
theorem cl_mono {n : S24} (h : Rt n) {q : Int} (hq : 0 ≤ q) : ∀ (k : Nat) (x : List Bool), x.length = NN n → lget x q = true → lget (cl n.f1 k x) q = true
  | 0, x, _, hs => hs
  | k + 1, x, hx, hs => by
    have hnn := h.nn
    have hp := pass_mono (N := n.f0) hq n.f1 (x, false) (fun e he => ⟨(h.ed e he).2.2.1, (h.ed e he).2.2.2⟩) (by show (x.length : Int) = _; omega) hs
    rw [cl]
    split
    · exact cl_mono h hq k _ ((pass_len _ _).trans hx) hp
    · exact hp
theorem cl_closed {n : S24} (h : Rt n) : ∀ (k : Nat) (x : List Bool), x.length = NN n → NN n - cnt x < k → ∀ e ∈ n.f1, e.f3 = true → lget (cl n.f1 k x) e.f0 = true → lget (cl n.f1 k x) e.f1 = true
  | 0, x, _, hk => by omega
  | k + 1, x, hx, hk => by
    have hnn := h.nn
    rw [cl]
    split
    · rename_i q
      have hp := pass_len n.f1 (x, false)
      have hp' : (pass n.f1 (x, false)).1.length = x.length := hp
      have hle := cnt_le (pass n.f1 (x, false)).1
      rcases pass_cnt n.f0 n.f1 (x, false) (fun e he => ⟨(h.ed e he).2.2.1, (h.ed e he).2.2.2⟩) (by show (x.length : Int) = _; omega) with r | ⟨_, r⟩
      · rw [r] at q; cases q
      · have r' : cnt x < cnt (pass n.f1 (x, false)).1 := r
        exact cl_closed h k _ (hp'.trans hx) (by rw [hp'] at hle; omega)
    · rename_i q
      obtain ⟨k1, k2⟩ := pass_closed n.f1 x (by simpa using q)
      rw [k1]; exact k2
/-- What stands in a closed row. -/
theorem CL_iff {n : S24} (h : Rt n) {x : List Bool} (hx : x.length = NN n) {q : Int} (hq : 0 ≤ q) : lget (CL n x) q = true ↔ ∃ p, 0 ≤ p ∧ lget x p = true ∧ FR n.f1 p q := by
  constructor
  · intro hg
    exact cl_snd h (NN n + 1) x hx (fun q h0 h1 => ⟨q, h0, h1, .refl q⟩) q hq hg
  · rintro ⟨p, p0, p1, p2⟩
    have base := cl_mono h p0 (NN n + 1) x hx p1
    have key : ∀ r, FR n.f1 p r → lget (CL n x) r = true := by
      intro r hr
      induction hr with
      | refl => exact base
      | tail _ he hf ih => exact cl_closed h (NN n + 1) x hx (by omega) _ he hf ih
    exact key q p2
theorem mvf_iff (x : List Bool) (b : Nat) {N : Int} {q : Int} (hq : 0 ≤ q) : ∀ (l : List S43) (o : List Bool), (∀ e ∈ l, 0 ≤ e.f1 ∧ e.f1 < N) → (o.length : Int) = N →
    (lget (l.foldl (mv1 x b) o) q = true ↔ lget o q = true ∨ ∃ e ∈ l, e.f3 = false ∧ e.f0 < (x.length : Int) ∧ lget x e.f0 = true ∧ tb e.f2 b = true ∧ e.f1 = q)
  | [], o, _, _ => by simp
  | e :: l, o, hl, ho => by
    have he := hl e (by simp)
    have ih := mvf_iff x b hq l (mv1 x b o e) (fun e' h' => hl e' (by simp [h'])) (by rw [mv1_len]; exact ho)
    rw [List.foldl_cons, ih]
    have h1 : lget (mv1 x b o e) q = true ↔ lget o q = true ∨ (e.f3 = false ∧ e.f0 < (x.length : Int) ∧ lget x e.f0 = true ∧ tb e.f2 b = true ∧ e.f1 = q) := by
      unfold mv1
      split
      · rename_i c
        rw [lget_lset o e.f1 q he.1 (by rw [ho]; exact he.2) hq, Bool.or_eq_true, decide_eq_true_eq]
        constructor
        · rintro (r | r)
          · exact .inr ⟨c.1, c.2.1, c.2.2.1, c.2.2.2, r.symm⟩
          · exact .inl r
        · rintro (r | r)
          · exact .inr r
          · exact .inl r.2.2.2.2.symm
      · rename_i c
        exact ⟨.inl, fun r => r.elim id fun r => absurd ⟨r.1, r.2.1, r.2.2.1, r.2.2.2.1⟩ c⟩
    rw [h1, or_assoc]
    simp [List.mem_cons, or_and_right, exists_or]
theorem MV_iff {n : S24} (h : Rt n) (x : List Bool) (b : Nat) {q : Int} (hq : 0 ≤ q) : lget (MV n x b) q = true ↔ ∃ e ∈ n.f1, e.f3 = false ∧ e.f0 < (x.length : Int) ∧ lget x e.f0 = true ∧ tb e.f2 b = true ∧ e.f1 = q := by
  have hnn := h.nn
  have := mvf_iff x b (N := n.f0) hq n.f1 (List.replicate (NN n) false) (fun e he => ⟨(h.ed e he).2.2.1, (h.ed e he).2.2.2⟩) (by rw [List.length_replicate]; omega)
  unfold MV
  rw [this, lget_rep]; simp
/-- The states that a text leads to. -/
inductive Rch (n : S24) (s : ByteArray) : Nat → Int → Prop
  | start : Rch n s 0 n.f2
  | free {i : Nat} {e : S43} : Rch n s i e.f0 → e ∈ n.f1 → e.f3 = true → Rch n s i e.f1
  | byte {i : Nat} {e : S43} : Rch n s i e.f0 → e ∈ n.f1 → e.f3 = false → tb e.f2 (byteAt s i).toNat = true → Rch n s (i + 1) e.f1
theorem Rch.fr {n : S24} {s : ByteArray} {i : Nat} {p q : Int} (h : Rch n s i p) (k : FR n.f1 p q) : Rch n s i q := by
  induction k with
  | refl => exact h
  | tail _ he hf ih => exact .free ih he hf
end Go.Avl.T5
/- subset: the sets of a machine, classes of bytes, their least bytes. -/
namespace Go.Avl.T5
open Go Go.RowKit Go.Proofs Go.Avl
set_option linter.all false
set_option maxRecDepth 10000

theorem w6 {x : Int} (h0 : -1000000000000 ≤ x) (h1 : x ≤ 1000000000000) : w64 x = x := w64_id (by omega) (by omega)
/-- The sets of the edges that aren't free. -/
def ss : List S43 → List (Vector Int 4)
  | [] => []
  | e :: l => if e.f3 = true then ss l else e.f2 :: ss l
theorem ss_len : ∀ l, (ss l).length ≤ l.length
  | [] => Nat.le_refl _
  | e :: l => by
    have := ss_len l
    unfold ss
    split <;> simp <;> omega
theorem ss_U : ∀ {l : List S43}, (∀ e ∈ l, U e.f2) → ∀ a ∈ ss l, U a
  | [], _, a, h => by cases h
  | e :: l, hu, a, h => by
    unfold ss at h
    split at h
    · exact ss_U (fun e' h' => hu e' (by simp [h'])) a h
    · rcases List.mem_cons.1 h with rfl | h
      · exact hu e (by simp)
      · exact ss_U (fun e' h' => hu e' (by simp [h'])) a h
theorem ss_mem : ∀ {l : List S43} {e : S43}, e ∈ l → e.f3 = false → e.f2 ∈ ss l
  | x :: l, e, h, h3 => by
    unfold ss
    rcases List.mem_cons.1 h with rfl | h
    · rw [if_neg (by rw [h3]; decide)]; simp
    · split
      · exact ss_mem h h3
      · exact List.mem_cons_of_mem _ (ss_mem h h3)
theorem sets_l (n : S24) (hz : n.f1.length ≤ 1000) : ∀ (m i fuel : Nat) (a : List (Vector Int 4)), i + m = n.f1.length → m < fuel → a.length ≤ i → nfa_Sets_l2 5000 n fuel a (i : Int) = some (a ++ ss (n.f1.drop i))
  | 0, i, f + 1, a, hi, _, _ => by
    rw [nfa_Sets_l2.eq_2, if_neg (by omega), List.drop_of_length_le (by omega), ss, List.append_nil]; rfl
  | m + 1, i, f + 1, a, hi, hf, ha => by
    have hi' : i < n.f1.length := by omega
    rw [nfa_Sets_l2.eq_2, if_pos (by omega), if_pos ⟨by omega, by omega⟩, lget_lt _ i hi', List.drop_eq_getElem_cons hi', ss]
    unfold nfa_Sets_c1
    rw [w6 (by omega) (by omega)]
    cases b : n.f1[i].f3 with
    | true =>
      rw [if_neg (by decide), if_pos rfl]
      exact_mod_cast sets_l n hz m (i + 1) f a (by omega) (by omega) (by omega)
    | false =>
      have ih := sets_l n hz m (i + 1) f (a ++ [n.f1[i].f2]) (by omega) (by omega) (by simp; omega)
      rw [List.append_assoc] at ih
      rw [if_pos (by decide), if_pos (by simp; omega), if_neg (by decide)]; exact_mod_cast ih
theorem sets_eq (n : S24) (hz : n.f1.length ≤ 1000) : nfa_Sets 5000 n = some (ss n.f1) := by
  have := sets_l n hz n.f1.length 0 5000 [] (by omega) (by omega) (by simp)
  rw [Int.natCast_zero, List.drop_zero, List.nil_append] at this
  exact this
/-- What a machine's classes are. -/
structure CK (n : S24) (kk : Nat → ByteArray) : Prop where
  hk : ∀ b : Nat, b < 256 → byteset_key 5000 (ss n.f1) (b : Int) = some (kk b)
  iff : ∀ b c : Nat, b < 256 → c < 256 → (kk b = kk c ↔ ∀ x, sg (ss n.f1) b x = sg (ss n.f1) c x)
  U : ∀ a ∈ ss n.f1, U a
  len : (ss n.f1).length ≤ 1000
theorem CK_ex (n : S24) (hz : n.f1.length ≤ 1000) (hu : ∀ e ∈ n.f1, U e.f2) : ∃ kk, CK n kk := by
  have hL := ss_U hu
  have hn : (ss n.f1).length ≤ 1000 := by have := ss_len n.f1; omega
  let kk : Nat → ByteArray := fun b => (byteset_key 5000 (ss n.f1) (b : Int)).getD ByteArray.empty
  have hkk : ∀ b : Nat, b < 256 → ∃ row, byteset_key 5000 (ss n.f1) (b : Int) = some (strOfNums row) ∧ kk b = strOfNums row ∧ Row8 (ss n.f1) b (((ss n.f1).length + 7) / 8) (ss n.f1).length row := by
    intro b hb
    obtain ⟨row, e, hr⟩ := key_eq (ss n.f1) hL hn b hb
    exact ⟨row, e, by show (byteset_key 5000 (ss n.f1) (b : Int)).getD _ = _; rw [e]; rfl, hr⟩
  refine ⟨kk, ?_, ?_, hL, hn⟩
  · intro b hb
    obtain ⟨row, e, e2, _⟩ := hkk b hb
    rw [e, e2]
  · intro b c hb hc
    obtain ⟨r, _, e1, h1⟩ := hkk b hb
    obtain ⟨s, _, e2, h2⟩ := hkk c hc
    rw [e1, e2]
    exact row_iff (by omega) h1 h2
theorem CK.classes {n : S24} {kk : Nat → ByteArray} (h : CK n kk) : ∃ v, byteset_Classes 5000 (ss n.f1) = some v ∧ ∀ c : Nat, c < 256 → vget v (c : Int) = (ck kk c : Int) := by
  obtain ⟨v, v1, v2⟩ := classes_l kk h.hk 256 0 5000 (Vector.replicate 256 0) [] (by omega) (by omega) ⟨rfl, fun c hc => by omega, fun s _ => rfl⟩ (fun c hc => by omega)
  exact ⟨v, v1, v2⟩
theorem CK.tb {n : S24} {kk : Nat → ByteArray} (h : CK n kk) {b c : Nat} (hb : b < 256) (hc : c < 256) (e : kk b = kk c) : ∀ a ∈ ss n.f1, tb a b = tb a c := by
  intro a ha
  obtain ⟨i, hi, rfl⟩ := List.getElem_of_mem ha
  have := (h.iff b c hb hc).1 e i
  unfold sg at this
  rw [decide_eq_true hi, Bool.true_and, Bool.true_and, List.getD, List.getElem?_eq_getElem hi] at this
  exact this
/-- The least bytes of the classes, rising, from one on. -/
def rps (kk : Nat → ByteArray) : Nat → Nat → List Nat
  | 0, _ => []
  | m + 1, b => if rc kk b = b then b :: rps kk m (b + 1) else rps kk m (b + 1)
theorem rps_len (kk : Nat → ByteArray) : ∀ m b, (rps kk m b).length + nc kk b = nc kk (b + m)
  | 0, b => by simp [rps]
  | m + 1, b => by
    have ih := rps_len kk m (b + 1)
    rw [show b + (m + 1) = b + 1 + m by omega, ← ih, rps, nc]
    split <;> simp <;> omega
theorem rps_get (kk : Nat → ByteArray) : ∀ m b r, b ≤ r → r < b + m → rc kk r = r → (rps kk m b)[nc kk r - nc kk b]? = some r
  | 0, b, r, h1, h2, _ => by omega
  | m + 1, b, r, h1, h2, hr => by
    rw [rps]
    by_cases e : r = b
    · subst e
      rw [if_pos hr, Nat.sub_self]; rfl
    · have ih := rps_get kk m (b + 1) r (by omega) (by omega) hr
      have hm := nc_mono kk (show b + 1 ≤ r by omega)
      split
      · next q =>
        have e2 : nc kk (b + 1) = nc kk b + 1 := by rw [nc, if_pos q]
        rw [e2] at ih hm
        rw [show nc kk r - nc kk b = nc kk r - (nc kk b + 1) + 1 by omega, List.getElem?_cons_succ]; exact ih
      · next q =>
        have e2 : nc kk (b + 1) = nc kk b := by rw [nc, if_neg q]; rfl
        rw [e2] at ih; exact ih
theorem rps_mem (kk : Nat → ByteArray) : ∀ m b r, r ∈ rps kk m b → b ≤ r ∧ r < b + m ∧ rc kk r = r
  | 0, _, _, h => by cases h
  | m + 1, b, r, h => by
    rw [rps] at h
    split at h
    · next q =>
      rcases List.mem_cons.1 h with rfl | h
      · exact ⟨Nat.le_refl _, by omega, q⟩
      · have := rps_mem kk m (b + 1) r h; omega
    · have := rps_mem kk m (b + 1) r h; omega
def RP (kk : Nat → ByteArray) : List Nat := rps kk 256 0
theorem RP_get (kk : Nat → ByteArray) {b : Nat} (hb : b < 256) : (RP kk)[ck kk b]? = some (rc kk b) := by
  have h := rc_spec kk b
  have := rps_get kk 256 0 (rc kk b) (by omega) (by omega) (rc_rc kk b)
  exact this
theorem RP_len (kk : Nat → ByteArray) : (RP kk).length ≤ 256 := by
  have := rps_len kk 256 0
  have h2 := nc_le kk (0 + 256)
  unfold RP; omega
theorem RP_lt (kk : Nat → ByteArray) {r : Nat} (h : r ∈ RP kk) : r < 256 := by have := rps_mem kk 256 0 r h; omega
end Go.Avl.T5
/- subset: keys of states, marks, numbers of states. -/
namespace Go.Avl.T5
open Go Go.RowKit Go.Proofs Go.Avl
set_option linter.all false
set_option maxRecDepth 10000

def vb (b : Bool) : Vector Int 4 := if b = true then vset (Vector.replicate 4 (0 : Int)) (0 : Int) 1 else Vector.replicate 4 (0 : Int)
theorem vb_U (b : Bool) : U (vb b) := by
  intro j hj
  have : j = 0 ∨ j = 1 ∨ j = 2 ∨ j = 3 := by omega
  cases b <;> rcases this with rfl | rfl | rfl | rfl <;> decide
theorem vb_tb (b : Bool) : tb (vb b) 0 = b := by cases b <;> decide
theorem vb_get (t : List Bool) (i : Nat) (hi : i < t.length) : lget (t.map vb) (i : Int) = vb (lget t (i : Int)) := by
  rw [lget_lt _ i (by simpa using hi), lget_lt _ i hi, List.getElem_map]
theorem skey_l (t : List Bool) (hz : t.length ≤ 1000) : ∀ (m i fuel : Nat) (row : List Int), i + m = t.length → m < fuel → subset_key_l2 5000 t fuel row (i : Int) = byteset_key_l2 5000 (t.map vb) 0 fuel row (i : Int)
  | 0, i, f + 1, row, hi, _ => by
    rw [subset_key_l2.eq_2, byteset_key_l2.eq_2, List.length_map, if_neg (by omega), if_neg (by omega)]; rfl
  | m + 1, i, f + 1, row, hi, hf => by
    have hi' : i < t.length := by omega
    have c1 : (i : Int) < (t.length : Int) := by omega
    have c2 : 0 ≤ (i : Int) ∧ (i : Int) < (t.length : Int) := ⟨by omega, c1⟩
    have hh : byteset_Has 5000 (lget (t.map vb) (i : Int)) 0 = some (lget t (i : Int)) := by
      have := has_eq (vb_U (lget t (i : Int))) (x := 0) (by omega)
      rw [vb_get t i hi']
      rw [vb_tb] at this
      exact_mod_cast this
    have ih := fun row => skey_l t hz m (i + 1) f row (by omega) (by omega)
    rw [subset_key_l2.eq_2, byteset_key_l2.eq_2, List.length_map]
    simp only [if_pos c1, if_pos c2, hh, Option.bind_some]
    unfold subset_key_c1 byteset_key_c1
    have e : w64 ((i : Int) + 1) = ((i + 1 : Nat) : Int) := by rw [w6 (by omega) (by omega)]; omega
    simp only [e, ih]
def skey (t : List Bool) : ByteArray := (subset_key 5000 t).getD ByteArray.empty
theorem skey_row (t : List Bool) (hz : t.length ≤ 1000) : ∃ row, subset_key 5000 t = some (strOfNums row) ∧ Row8 (t.map vb) 0 ((t.length + 7) / 8) t.length row := by
  obtain ⟨row, r1, r2⟩ := key_eq (t.map vb) (fun a ha => by obtain ⟨b, _, rfl⟩ := List.mem_map.1 ha; exact vb_U b) (by simpa using hz) 0 (by omega)
  refine ⟨row, ?_, by simpa using r2⟩
  rw [Int.natCast_zero] at r1
  rw [← r1]
  unfold subset_key byteset_key
  rw [List.length_map]
  have := fun row => skey_l t hz t.length 0 5000 row (by omega) (by omega)
  simp only [Int.natCast_zero] at this
  simp only [this, Int.natCast_zero]
theorem skey_eq (t : List Bool) (hz : t.length ≤ 1000) : subset_key 5000 t = some (skey t) := by
  obtain ⟨row, r, _⟩ := skey_row t hz
  unfold skey; rw [r]; rfl
theorem sg_vb (t : List Bool) (x : Nat) : sg (t.map vb) 0 x = lget t (x : Int) := by
  unfold sg lget
  rw [Int.toNat_natCast, List.length_map]
  by_cases h : x < t.length
  · rw [decide_eq_true h, Bool.true_and, List.getD, List.getElem?_map, List.getD, List.getElem?_eq_getElem h]
    exact vb_tb _
  · rw [decide_eq_false h, Bool.false_and, List.getD, List.getElem?_eq_none (by omega)]; rfl
theorem skey_inj {t u : List Bool} (hl : t.length = u.length) (hz : t.length ≤ 1000) (h : skey t = skey u) : t = u := by
  obtain ⟨r, r1, r2⟩ := skey_row t hz
  obtain ⟨s, s1, s2⟩ := skey_row u (by omega)
  have e : strOfNums r = strOfNums s := by
    have h1 : skey t = strOfNums r := by unfold skey; rw [r1]; rfl
    have h2 : skey u = strOfNums s := by unfold skey; rw [s1]; rfl
    rw [← h1, ← h2, h]
  apply List.ext_getElem hl
  intro i h1 h2
  have hr : bt r i = lget t (i : Int) := by rw [r2.2.2 i (by omega), decide_eq_true h1, Bool.true_and, sg_vb]
  have hs : bt s i = lget u (i : Int) := by rw [s2.2.2 i (by omega), decide_eq_true h2, Bool.true_and, sg_vb]
  have := strOf_inj r2.2.1 s2.2.1 e
  rw [this, hs] at hr
  rw [lget_lt _ i h1, lget_lt _ i h2] at hr
  exact hr.symm
/-! Marks. -/
def mk1 (M : List Int) (t : List Bool) (i : Nat) (o : Int) : Int := if lget t (i : Int) = true ∧ i < M.length ∧ 0 ≤ lget M (i : Int) ∧ (o < 0 ∨ lget M (i : Int) < o) then lget M (i : Int) else o
def mkl (M : List Int) (t : List Bool) : Nat → Nat → Int → Int
  | 0, _, o => o
  | m + 1, i, o => mkl M t m (i + 1) (mk1 M t i o)
def MK (M : List Int) (t : List Bool) : Int := mkl M t t.length 0 (-1)
theorem mkl_out (M : List Int) (t : List Bool) : ∀ (m i : Nat) (o : Int), M.length ≤ i → mkl M t m i o = o
  | 0, _, _, _ => rfl
  | m + 1, i, o, h => by
    have e : mk1 M t i o = o := by unfold mk1; rw [if_neg (by rintro ⟨_, q, _⟩; omega)]
    rw [mkl, e]; exact mkl_out M t m (i + 1) o (by omega)
theorem smark_l (x : S80) (t : List Bool) (hz : t.length ≤ 1000) : ∀ (m i fuel : Nat) (o : Int), i + m = t.length → m < fuel → subset_builder_mark_l2 5000 x t fuel o (i : Int) = some (mkl x.f1 t m i o)
  | 0, i, f + 1, o, hi, _ => by rw [subset_builder_mark_l2.eq_2, if_neg (by omega)]; rfl
  | m + 1, i, f + 1, o, hi, hf => by
    have ih := fun o => smark_l x t hz m (i + 1) f o (by omega) (by omega)
    rw [subset_builder_mark_l2.eq_2, if_pos (by omega), if_pos ⟨by omega, by omega⟩]
    unfold subset_markOf subset_builder_mark_c1
    rw [w6 (x := (i : Int) + 1) (by omega) (by omega), mkl]
    by_cases a : (x.f1.length : Int) ≤ (i : Int)
    · have e : mk1 x.f1 t i o = o := by unfold mk1; rw [if_neg (by rintro ⟨_, q, _⟩; omega)]
      rw [if_pos a, Option.bind_some, e]
      have : (if lget t (i : Int) = true then if (0 : Int) ≤ -1 then if o < 0 then some true else some (decide ((-1 : Int) < o)) else some false else some false) = some false := by
        by_cases c : lget t (i : Int) = true
        · rw [if_pos c, if_neg (by decide)]
        · rw [if_neg c]
      rw [this, Option.bind_some, if_neg (by decide)]; exact_mod_cast ih o
    · rw [if_neg a, if_pos ⟨by omega, by omega⟩, Option.bind_some]
      have : (if lget t (i : Int) = true then if (0 : Int) ≤ lget x.f1 (i : Int) then if o < 0 then some true else some (decide (lget x.f1 (i : Int) < o)) else some false else some false) = some (decide (lget t (i : Int) = true ∧ i < x.f1.length ∧ 0 ≤ lget x.f1 (i : Int) ∧ (o < 0 ∨ lget x.f1 (i : Int) < o))) := by
        by_cases c : lget t (i : Int) = true
        · rw [if_pos c]
          by_cases d : (0 : Int) ≤ lget x.f1 (i : Int)
          · rw [if_pos d]
            by_cases g : o < 0
            · rw [if_pos g, decide_eq_true ⟨c, by omega, d, .inl g⟩]
            · rw [if_neg g]
              congr 1
              rw [decide_eq_decide]
              exact ⟨fun h => ⟨c, by omega, d, .inr h⟩, fun h => h.2.2.2.resolve_left g⟩
          · rw [if_neg d, decide_eq_false (fun h => d h.2.2.1)]
        · rw [if_neg c, decide_eq_false (fun h => c h.1)]
      rw [this, Option.bind_some]
      unfold mk1
      by_cases q : lget t (i : Int) = true ∧ i < x.f1.length ∧ 0 ≤ lget x.f1 (i : Int) ∧ (o < 0 ∨ lget x.f1 (i : Int) < o)
      · rw [if_pos (decide_eq_true q), if_pos q]; exact_mod_cast ih _
      · rw [if_neg (by simpa using q), if_neg q]; exact_mod_cast ih _
theorem smark_eq (x : S80) (t : List Bool) (hz : t.length ≤ 1000) : subset_builder_mark 5000 x t = some (MK x.f1 t) := by
  have := smark_l x t hz t.length 0 5000 (-1) (by omega) (by omega)
  rw [Int.natCast_zero] at this
  exact this
theorem rmark_l (M : List Int) (t : List Bool) (hz : t.length ≤ 1000) : ∀ (m i fuel : Nat) (o : Int), i + m = t.length → m < fuel → bosketref07_Mark_l2 5000 M t fuel o (i : Int) = some (mkl M t m i o)
  | 0, i, f + 1, o, hi, _ => by
    rw [bosketref07_Mark_l2.eq_2, if_neg (by omega), Option.bind_some, if_neg (by decide)]; rfl
  | m + 1, i, f + 1, o, hi, hf => by
    have ih := fun o => rmark_l M t hz m (i + 1) f o (by omega) (by omega)
    rw [bosketref07_Mark_l2.eq_2, if_pos (by omega), Option.bind_some]
    by_cases a : (i : Int) < (M.length : Int)
    · have g : 0 ≤ (i : Int) ∧ (i : Int) < (M.length : Int) := ⟨by omega, a⟩
      rw [if_pos (decide_eq_true a), if_pos ⟨by omega, by omega⟩]
      unfold bosketref07_Mark_c1
      rw [w6 (x := (i : Int) + 1) (by omega) (by omega), mkl]
      simp only [if_pos g]
      have : (if lget t (i : Int) = true then if (0 : Int) ≤ lget M (i : Int) then if o < 0 then some true else some (decide (lget M (i : Int) < o)) else some false else some false) = some (decide (lget t (i : Int) = true ∧ i < M.length ∧ 0 ≤ lget M (i : Int) ∧ (o < 0 ∨ lget M (i : Int) < o))) := by
        by_cases c : lget t (i : Int) = true
        · rw [if_pos c]
          by_cases d : (0 : Int) ≤ lget M (i : Int)
          · rw [if_pos d]
            by_cases g : o < 0
            · rw [if_pos g, decide_eq_true ⟨c, by omega, d, .inl g⟩]
            · rw [if_neg g]
              congr 1
              rw [decide_eq_decide]
              exact ⟨fun h => ⟨c, by omega, d, .inr h⟩, fun h => h.2.2.2.resolve_left g⟩
          · rw [if_neg d, decide_eq_false (fun h => d h.2.2.1)]
        · rw [if_neg c, decide_eq_false (fun h => c h.1)]
      rw [this, Option.bind_some]
      unfold mk1
      by_cases q : lget t (i : Int) = true ∧ i < M.length ∧ 0 ≤ lget M (i : Int) ∧ (o < 0 ∨ lget M (i : Int) < o)
      · rw [if_pos (decide_eq_true q), if_pos q]; exact_mod_cast ih _
      · rw [if_neg (by simpa using q), if_neg q]; exact_mod_cast ih _
    · rw [if_neg (by simpa using a), mkl_out M t (m + 1) i o (by omega)]; rfl
theorem rmark07_eq (M : List Int) (t : List Bool) (hz : t.length ≤ 1000) : bosketref07_Mark 5000 M t = some (MK M t) := by
  have := rmark_l M t hz t.length 0 5000 (-1) (by omega) (by omega)
  rw [Int.natCast_zero] at this
  exact this
/-! Is one true? -/
def anyb (t : List Bool) : Bool := t.any id
theorem sany_l (x : S80) (t : List Bool) (hz : t.length ≤ 1000) : ∀ (m i fuel : Nat) (b : Bool), i + m = t.length → m < fuel → subset_builder_state_l1 5000 x t fuel b (i : Int) = subset_builder_state_c0 5000 x t (b || anyb (t.drop i))
  | 0, i, f + 1, b, hi, _ => by
    rw [subset_builder_state_l1.eq_2, if_neg (by omega), List.drop_of_length_le (by omega)]
    show _ = subset_builder_state_c0 5000 x t (b || false); rw [Bool.or_false]
  | m + 1, i, f + 1, b, hi, hf => by
    have hi' : i < t.length := by omega
    have ih := fun b => sany_l x t hz m (i + 1) f b (by omega) (by omega)
    rw [subset_builder_state_l1.eq_2, if_pos (by omega), if_pos ⟨by omega, by omega⟩, lget_lt _ i hi', List.drop_eq_getElem_cons hi', w6 (by omega) (by omega)]
    show _ = subset_builder_state_c0 5000 x t (b || (t[i] || anyb (t.drop (i + 1))))
    cases b with
    | true => rw [if_pos rfl, Option.bind_some, Bool.true_or]; have := ih true; rw [Bool.true_or] at this; exact_mod_cast this
    | false => rw [if_neg (by decide), Option.bind_some, Bool.false_or]; exact_mod_cast ih t[i]
/-! Where a set stands among others. -/
def ix : List (List Bool) → List Bool → Option Nat
  | [], _ => none
  | r :: R, t => if r = t then some 0 else (ix R t).map (· + 1)
theorem ix_app : ∀ (R : List (List Bool)) (s t : List Bool), ix (R ++ [s]) t = match ix R t with | some i => some i | none => if s = t then some R.length else none
  | [], s, t => by
    show (if s = t then some 0 else none) = _
    rfl
  | r :: R, s, t => by
    show (if r = t then some 0 else (ix (R ++ [s]) t).map (· + 1)) = match (if r = t then some 0 else (ix R t).map (· + 1)) with | some i => some i | none => if s = t then some (R.length + 1) else none
    by_cases a : r = t
    · rw [if_pos a, if_pos a]
    · rw [if_neg a, if_neg a, ix_app R s t]
      cases ix R t with
      | some i => rfl
      | none =>
        show Option.map (· + 1) (if s = t then some R.length else none) = if s = t then some (R.length + 1) else none
        split <;> rfl
theorem ix_get : ∀ {R : List (List Bool)} {t : List Bool} {i : Nat}, ix R t = some i → R[i]? = some t
  | [], _, _, h => by cases h
  | r :: R, t, i, h => by
    unfold ix at h
    by_cases a : r = t
    · rw [if_pos a] at h; cases h; rw [a]; rfl
    · rw [if_neg a] at h
      cases e : ix R t with
      | none => rw [e] at h; cases h
      | some j =>
        rw [e] at h
        cases h
        show (r :: R)[j + 1]? = some t
        rw [List.getElem?_cons_succ]; exact ix_get e
/-- A set taken in: the sets then, its number. -/
def add (R : List (List Bool)) (t : List Bool) : List (List Bool) × Int :=
  if anyb t = true then match ix R t with | some i => (R, (i : Int)) | none => (R ++ [t], (R.length : Int)) else (R, -1)
def SeenOK (N : Nat) (m : List (ByteArray × Int)) (R : List (List Bool)) : Prop := ∀ t : List Bool, t.length = N → mget m (skey t) = (ix R t).map Int.ofNat
theorem state_eq {N : Nat} (hN : N ≤ 1000) {n : S24} {M rp : List Int} {m : List (ByteArray × Int)} {R : List (List Bool)} {c : Vector Int 256} {nx : List (List Int)} {t : List Bool} (ht : t.length = N) (hm : SeenOK N m R) (hR : R.length ≤ 100000) :
    ∃ m', subset_builder_state 5000 (S80.mk n M rp m R (S30.mk c nx (R.map (MK M)))) t = some ((add R t).2, S80.mk n M rp m' (add R t).1 (S30.mk c nx ((add R t).1.map (MK M)))) ∧ SeenOK N m' (add R t).1 := by
  have := sany_l (S80.mk n M rp m R (S30.mk c nx (R.map (MK M)))) t (by omega) t.length 0 5000 false (by omega) (by omega)
  rw [Int.natCast_zero, List.drop_zero, Bool.false_or] at this
  unfold subset_builder_state
  rw [this]
  unfold subset_builder_state_c0
  cases a : anyb t with
  | false =>
    have e : add R t = (R, -1) := by unfold add; rw [if_neg (by rw [a]; decide)]
    rw [e, if_pos (by decide)]; exact ⟨m, rfl, hm⟩
  | true =>
    rw [if_neg (by decide), skey_eq t (by omega), Option.bind_some]
    have hg := hm t ht
    show ∃ m', (if ((mget m (skey t)).isSome) = true then _ else _) = _ ∧ _
    cases e : ix R t with
    | some i =>
      have ea : add R t = (R, (i : Int)) := by unfold add; rw [if_pos a, e]
      rw [e] at hg
      rw [ea]
      refine ⟨m, ?_, hm⟩
      show (if ((mget m (skey t)).isSome) = true then some ((mget m (skey t)).getD 0, _) else _) = _
      rw [hg]; rfl
    | none =>
      have ea : add R t = (R ++ [t], (R.length : Int)) := by unfold add; rw [if_pos a, e]
      rw [e] at hg
      have hl : (R ++ [t]).length = R.length + 1 := by simp
      refine ⟨mput m (skey t) (R.length : Int), ?_, ?_⟩
      · rw [ea, if_neg (by rw [hg]; decide), if_pos (by show (R ++ [t]).length * 24 ≤ _; omega), smark_eq _ t (by omega), Option.bind_some, if_pos (by show (R.map (MK M) ++ [MK M t]).length * 8 ≤ _; simp; omega), Option.bind_some]
        show some (w64 (((R ++ [t]).length : Int) - 1), _) = _
        rw [hl, w6 (by omega) (by omega), List.map_append]
        rw [show (((R.length + 1 : Nat) : Int) - 1) = (R.length : Int) by omega]; rfl
      · intro u hu
        rw [ea, mget_mput, ix_app]
        by_cases k : t = u
        · subst k
          rw [if_pos rfl, e]
          show _ = Option.map Int.ofNat (if t = t then some R.length else none)
          rw [if_pos rfl]
          rfl
        · rw [if_neg (fun h => k (skey_inj (by omega) (by omega) h)), hm u hu]
          cases ix R u with
          | some j => rfl
          | none =>
            show _ = Option.map Int.ofNat (if t = u then some R.length else none)
            rw [if_neg k]
end Go.Avl.T5
/- subset: rows, and how they are numbered, in both. -/
namespace Go.Avl.T5
open Go Go.RowKit Go.Proofs Go.Avl
set_option linter.all false
set_option maxRecDepth 10000

def rowf (n : S24) (s : List Bool) : List Nat → List (List Bool) → List Int → List (List Bool) × List Int
  | [], R, a => (R, a)
  | b :: bs, R, a => rowf n s bs (add R (CL n (MV n s b))).1 (a ++ [(add R (CL n (MV n s b))).2])
theorem add_len (R : List (List Bool)) (t : List Bool) : R.length ≤ (add R t).1.length ∧ (add R t).1.length ≤ R.length + 1 := by
  unfold add
  split
  · split <;> simp
  · simp
theorem add_get {R : List (List Bool)} {t : List Bool} {i : Nat} {s : List Bool} (h : R[i]? = some s) : (add R t).1[i]? = some s := by
  have hi := (List.getElem?_eq_some_iff.1 h).1
  unfold add
  split
  · split
    · exact h
    · show (R ++ [t])[i]? = some s
      rw [List.getElem?_append_left hi]; exact h
  · exact h
theorem add_all {N : Nat} {R : List (List Bool)} {t : List Bool} (h : ∀ r ∈ R, r.length = N) (ht : t.length = N) : ∀ r ∈ (add R t).1, r.length = N := by
  unfold add
  split
  · split
    · exact h
    · intro r hr
      rcases List.mem_append.1 hr with hr | hr
      · exact h r hr
      · rw [List.mem_singleton.1 hr]; exact ht
  · exact h
theorem st_len (n : S24) (s : List Bool) (b : Nat) : (CL n (MV n s b)).length = NN n := by rw [CL_len, MV_len]
theorem rowf_len (n : S24) (s : List Bool) : ∀ (bs : List Nat) (R : List (List Bool)) (a : List Int), R.length ≤ (rowf n s bs R a).1.length ∧ (rowf n s bs R a).1.length ≤ R.length + bs.length
  | [], R, a => ⟨Nat.le_refl _, Nat.le_refl _⟩
  | b :: bs, R, a => by
    have h := add_len R (CL n (MV n s b))
    have ih := rowf_len n s bs (add R (CL n (MV n s b))).1 (a ++ [(add R (CL n (MV n s b))).2])
    rw [rowf, List.length_cons]; omega
theorem rowf_all (n : S24) (s : List Bool) : ∀ (bs : List Nat) (R : List (List Bool)) (a : List Int), (∀ r ∈ R, r.length = NN n) → ∀ r ∈ (rowf n s bs R a).1, r.length = NN n
  | [], R, a, h => h
  | b :: bs, R, a, h => rowf_all n s bs _ _ (add_all h (st_len n s b))
theorem rowf_get (n : S24) (s : List Bool) {i : Nat} {t : List Bool} : ∀ (bs : List Nat) (R : List (List Bool)) (a : List Int), R[i]? = some t → (rowf n s bs R a).1[i]? = some t
  | [], R, a, h => h
  | b :: bs, R, a, h => rowf_get n s bs _ _ (add_get h)
theorem lget_some {α : Type} [Inhabited α] {l : List α} {i : Nat} {x : α} (h : l[i]? = some x) : lget l (i : Int) = x ∧ i < l.length := by
  obtain ⟨h1, h2⟩ := List.getElem?_eq_some_iff.1 h
  exact ⟨by rw [lget_lt _ i h1]; exact h2, h1⟩
/-- What the one turns a row into. -/
theorem sub_l3 {n : S24} (h : Rt n) {kk : Nat → ByteArray} {M : List Int} {c : Vector Int 256} (rec57 : Int → List S43 → Int → Int → List Int → List Int → List (ByteArray × Int) → List (List Bool) → Vector Int 256 → List (List Int) → List Int → Int → Option (S30 × Int)) (i : Nat) (s : List Bool) (nx : List (List Int)) (hnx : nx.length ≤ 100000) (hi : i ≤ 100000) (bs : List Nat) (hbs : ∀ b ∈ bs, b < 256) (hbl : bs.length ≤ 256) :
    ∀ (m j fuel : Nat) (R : List (List Bool)) (a : List Int) (sm : List (ByteArray × Int)), j + m = bs.length → m < fuel → a.length ≤ j → SeenOK (NN n) sm R → R[i]? = some s → R.length + m ≤ 100000 → s.length = NN n →
    ∃ sm', subset_Of_l3 5000 rec57 n (bs.map Int.ofNat) (i : Int) fuel n.f0 n.f1 n.f2 n.f3 M (bs.map Int.ofNat) sm R c nx (R.map (MK M)) a (j : Int) = rec57 n.f0 n.f1 n.f2 n.f3 M (bs.map Int.ofNat) sm' (rowf n s (bs.drop j) R a).1 c (nx ++ [(rowf n s (bs.drop j) R a).2]) ((rowf n s (bs.drop j) R a).1.map (MK M)) ((i + 1 : Nat) : Int) ∧ SeenOK (NN n) sm' (rowf n s (bs.drop j) R a).1
  | 0, j, f + 1, R, a, sm, hj, _, ha, hs, hg, hR, hl => by
    rw [subset_Of_l3.eq_2, List.length_map, if_neg (by omega), List.drop_of_length_le (by omega), rowf]
    unfold subset_Of_c2 subset_Of_c1
    rw [if_pos (by simp; omega), w6 (by omega) (by omega)]
    exact ⟨sm, rfl, hs⟩
  | m + 1, j, f + 1, R, a, sm, hj, hf, ha, hs, hg, hR, hl => by
    have hj' : j < bs.length := by omega
    obtain ⟨g1, g2⟩ := lget_some hg
    have hb := hbs _ (List.getElem_mem hj')
    have eb : lget (bs.map Int.ofNat) (j : Int) = (bs[j] : Int) := by rw [lget_lt _ j (by simpa using hj'), List.getElem_map]; rfl
    have hN : NN n ≤ 1000 := by have := h.nn; have := h.n1; omega
    have hlen := add_len R (CL n (MV n s bs[j]))
    obtain ⟨sm', t1, t2⟩ := state_eq (N := NN n) hN (n := n) (M := M) (rp := bs.map Int.ofNat) (c := c) (nx := nx) (st_len n s bs[j]) hs (by omega)
    obtain ⟨sm2, u1, u2⟩ := sub_l3 h (kk := kk) (M := M) (c := c) rec57 i s nx hnx hi bs hbs hbl m (j + 1) f (add R (CL n (MV n s bs[j]))).1 (a ++ [(add R (CL n (MV n s bs[j]))).2]) sm' (by omega) (by omega) (by simp; omega) t2 (add_get hg) (by omega) hl
    refine ⟨sm2, ?_, ?_⟩
    · rw [subset_Of_l3.eq_2, List.length_map, if_pos (by omega), if_pos ⟨by omega, by omega⟩, if_pos ⟨by omega, by omega⟩, g1, eb, move_eq h s (by omega) (by omega), Option.bind_some, Int.toNat_natCast, close_eq h, Option.bind_some, ini_self (MV_len _ _ _)]
      have : (S24.mk n.f0 n.f1 n.f2 n.f3) = n := rfl
      rw [this, t1, Option.bind_some, if_pos (by simp; omega), w6 (by omega) (by omega), List.drop_eq_getElem_cons hj', rowf]
      exact_mod_cast u1
    · rw [List.drop_eq_getElem_cons hj', rowf]; exact u2
def mainF (n : S24) (bs : List Nat) (B : Nat) : Nat → Nat → List (List Bool) → List (List Int) → Option (List (List Bool) × List (List Int))
  | 0, _, _, _ => none
  | f + 1, i, R, N => if i < R.length then if B < R.length then none else mainF n bs B f (i + 1) (rowf n (R.getD i []) bs R []).1 (N ++ [(rowf n (R.getD i []) bs R []).2]) else some (R, N)
theorem sub_l4 {n : S24} (h : Rt n) {kk : Nat → ByteArray} {M : List Int} {c : Vector Int 256} (bs : List Nat) (hbs : ∀ b ∈ bs, b < 256) (hbl : bs.length ≤ 256) :
    ∀ (f i : Nat) (R : List (List Bool)) (N : List (List Int)) (sm : List (ByteArray × Int)), 2003 ≤ f + i → i ≤ 2000 → SeenOK (NN n) sm R → (∀ r ∈ R, r.length = NN n) → R.length ≤ 3000 → N.length = i →
    subset_Of_l4 5000 n f n.f0 n.f1 n.f2 n.f3 M (bs.map Int.ofNat) sm R c N (R.map (MK M)) (i : Int) = match mainF n bs 2000 f i R N with | some (R', N') => some (S30.mk c N' (R'.map (MK M)), 0) | none => some (S30.mk (Vector.replicate 256 (0 : Int)) [] [], 6)
  | 0, i, _, _, _, h1, h2, _, _, _, _ => by omega
  | f + 1, i, R, N, sm, h1, h2, hs, hr, hR, hN => by
    rw [subset_Of_l4.eq_2, mainF]
    by_cases a : i < R.length
    · rw [if_pos (by omega), if_pos a]
      by_cases b : 2000 < R.length
      · rw [if_pos (by omega), if_pos b]
      · rw [if_neg (by omega), if_neg b]
        have hg : R[i]? = some (R.getD i []) := by rw [List.getD, List.getElem?_eq_getElem a]; rfl
        have hl : (R.getD i []).length = NN n := hr _ (List.mem_of_getElem? hg)
        obtain ⟨sm', u1, u2⟩ := sub_l3 h (kk := kk) (M := M) (c := c) (subset_Of_l4 5000 n f) i (R.getD i []) N (by omega) (by omega) bs hbs hbl bs.length 0 5000 R [] sm (by omega) (by omega) (by simp) hs hg (by omega) hl
        rw [Int.natCast_zero, List.drop_zero] at u1
        rw [List.drop_zero] at u2
        have hrl := rowf_len n (R.getD i []) bs R []
        rw [u1]
        exact sub_l4 h (kk := kk) bs hbs hbl f (i + 1) _ _ sm' (by omega) (by omega) u2 (rowf_all n _ bs R [] hr) (by omega) (by simp; omega)
    · rw [if_neg (by omega), if_neg a]; rfl
theorem sreps_l {n : S24} {kk : Nat → ByteArray} {v : Vector Int 256} (hv : ∀ c : Nat, c < 256 → vget v (c : Int) = (ck kk c : Int)) (p1 : List Int) : ∀ (m b fuel : Nat) (a : List Int), b + m = 256 → m < fuel → a.length = nc kk b → subset_Of_l7 5000 n p1 v fuel a (b : Int) = subset_Of_c5 5000 n p1 v (a ++ (rps kk m b).map Int.ofNat)
  | 0, b, f + 1, a, hb, _, _ => by
    rw [subset_Of_l7.eq_2, if_neg (by omega), rps, List.map_nil, List.append_nil]
  | m + 1, b, f + 1, a, hb, hf, ha => by
    have hcl := ck_le kk b
    rw [subset_Of_l7.eq_2, if_pos (by omega), if_pos ⟨by omega, by omega⟩, hv b (by omega), w6 (x := ((ck kk b : Nat) : Int)) (by omega) (by omega), rps]
    unfold subset_Of_c6
    rw [w6 (x := (b : Int) + 1) (by omega) (by omega), w8_id (by omega) (by omega)]
    have hsp := rc_spec kk b
    by_cases e : rc kk b = b
    · have e2 : ck kk b = nc kk b := by unfold ck; rw [e]
      have hnl := nc_le kk b
      have ih := sreps_l (n := n) hv p1 m (b + 1) f (a ++ [(b : Int)]) (by omega) (by omega) (by rw [nc, if_pos e]; simp; omega)
      rw [List.append_assoc] at ih
      rw [if_pos (by omega), if_pos (by simp; omega), if_pos e]; exact_mod_cast ih
    · have hr : rc kk b + 1 ≤ b := by omega
      have hm := nc_mono kk hr
      have e3 : nc kk (rc kk b + 1) = nc kk (rc kk b) + 1 := by rw [nc, if_pos (rc_rc kk b)]
      have : ck kk b < nc kk b := by unfold ck; omega
      rw [if_neg (by omega), if_neg e]
      exact_mod_cast sreps_l (n := n) hv p1 m (b + 1) f a (by omega) (by omega) (by rw [nc, if_neg e]; omega)
/-- The set of the first state. -/
def F0 (n : S24) : List Bool := CL n (lset (List.replicate (NN n) false) n.f2 true)
theorem F0_len (n : S24) : (F0 n).length = NN n := by unfold F0; rw [CL_len, lset_len, List.length_replicate]
theorem F0_any {n : S24} (h : Rt n) : anyb (F0 n) = true := by
  have hf := h.first
  have hn := h.nn
  have hx : (lset (List.replicate (NN n) false) n.f2 true).length = NN n := by rw [lset_len, List.length_replicate]
  have h1 : lget (F0 n) n.f2 = true := by
    refine (CL_iff h hx hf.1).2 ⟨n.f2, hf.1, ?_, .refl _⟩
    rw [lget_lset _ _ _ hf.1 (by rw [List.length_replicate]; omega) hf.1]; simp
  have h2 : n.f2.toNat < (F0 n).length := by rw [F0_len]; omega
  have h3 := lget_lt (F0 n) n.f2.toNat h2
  rw [show ((n.f2.toNat : Nat) : Int) = n.f2 by omega, h1] at h3
  unfold anyb
  rw [List.any_eq_true]
  exact ⟨_, List.getElem_mem h2, h3.symm⟩
theorem sof_eq {n : S24} (h : Rt n) {kk : Nat → ByteArray} (hk : CK n kk) (M : List Int) : ∃ v, (∀ c : Nat, c < 256 → vget v (c : Int) = (ck kk c : Int)) ∧
    subset_Of 5000 n M = match mainF n (RP kk) 2000 5000 0 [F0 n] [] with | some (R', N') => some (S30.mk v N' (R'.map (MK M)), 0) | none => some (S30.mk (Vector.replicate 256 (0 : Int)) [] [], 6) := by
  obtain ⟨v, v1, v2⟩ := hk.classes
  refine ⟨v, v2, ?_⟩
  have hf := h.first
  have hn := h.nn
  have hN : NN n ≤ 1000 := by have := h.n1; omega
  unfold subset_Of
  rw [right_eq n h.n2, Option.bind_some, h.rt, if_neg (by decide), sets_eq n h.n2, Option.bind_some, v1, Option.bind_some]
  have := sreps_l (n := n) v2 M 256 0 5000 [] (by omega) (by omega) rfl
  rw [Int.natCast_zero, List.nil_append] at this
  rw [this]
  unfold subset_Of_c5
  have e0 : n.f0.toNat = NN n := rfl
  have hx : (lset (List.replicate (NN n) false) n.f2 true).length = NN n := by rw [lset_len, List.length_replicate]
  rw [if_pos ⟨by omega, by omega, by omega⟩, e0, if_pos ⟨by omega, by rw [List.length_replicate]; omega⟩, close_eq h, Option.bind_some, ini_self hx]
  have seen0 : SeenOK (NN n) [] [] := fun t ht => rfl
  obtain ⟨sm', t1, t2⟩ := state_eq (N := NN n) hN (n := n) (M := M) (rp := (rps kk 256 0).map Int.ofNat) (c := v) (nx := []) (F0_len n) seen0 (by simp)
  have ea : add [] (F0 n) = ([F0 n], 0) := by
    unfold add
    rw [if_pos (F0_any h)]; rfl
  rw [ea] at t1 t2
  show (subset_builder_state 5000 (S80.mk n M ((rps kk 256 0).map Int.ofNat) [] [] (S30.mk v [] (([] : List (List Bool)).map (MK M)))) (F0 n)).bind _ = _
  rw [t1, Option.bind_some]
  exact sub_l4 h (kk := kk) (RP kk) (fun b hb => RP_lt kk hb) (RP_len kk) 5000 0 [F0 n] [] sm' (by omega) (by omega) t2 (fun r hr => by rw [List.mem_singleton.1 hr]; exact F0_len n) (by simp) rfl
end Go.Avl.T5
/- subset: what the document answers. -/
namespace Go.Avl.T5
open Go Go.RowKit Go.Proofs Go.Avl
set_option linter.all false
set_option maxRecDepth 10000

/-- What the rows and their turns are. -/
def Tab (n : S24) (bs : List Nat) (R : List (List Bool)) (i : Nat) (N : List (List Int)) : Prop :=
  N.length = i ∧ ∀ q : Nat, q < i → ∃ s row, R[q]? = some s ∧ N[q]? = some row ∧ row.length = bs.length ∧ ∀ c : Nat, c < bs.length → ∃ t : Int, row[c]? = some t ∧ (anyb (CL n (MV n s (bs.getD c 0))) = false → t = -1) ∧ (anyb (CL n (MV n s (bs.getD c 0))) = true → ∃ p : Nat, t = (p : Int) ∧ R[p]? = some (CL n (MV n s (bs.getD c 0))))
theorem add_snd (R : List (List Bool)) (t : List Bool) : (anyb t = false → (add R t).2 = -1) ∧ (anyb t = true → ∃ p : Nat, (add R t).2 = (p : Int) ∧ (add R t).1[p]? = some t) := by
  unfold add
  cases a : anyb t with
  | false => exact ⟨fun _ => rfl, fun h => by cases h⟩
  | true =>
    refine ⟨fun h => (by cases h), fun _ => ?_⟩
    rw [if_pos rfl]
    cases e : ix R t with
    | some i => exact ⟨i, rfl, ix_get e⟩
    | none => exact ⟨R.length, rfl, by show (R ++ [t])[R.length]? = some t; simp⟩
theorem rowf_tab (n : S24) (s : List Bool) (all : List Nat) : ∀ (bs : List Nat) (j : Nat) (R : List (List Bool)) (a : List Int), all.drop j = bs → a.length = j → j ≤ all.length →
    (∀ c : Nat, c < j → ∃ t : Int, a[c]? = some t ∧ (anyb (CL n (MV n s (all.getD c 0))) = false → t = -1) ∧ (anyb (CL n (MV n s (all.getD c 0))) = true → ∃ p : Nat, t = (p : Int) ∧ R[p]? = some (CL n (MV n s (all.getD c 0))))) →
    (rowf n s bs R a).2.length = all.length ∧ ∀ c : Nat, c < all.length → ∃ t : Int, (rowf n s bs R a).2[c]? = some t ∧ (anyb (CL n (MV n s (all.getD c 0))) = false → t = -1) ∧ (anyb (CL n (MV n s (all.getD c 0))) = true → ∃ p : Nat, t = (p : Int) ∧ (rowf n s bs R a).1[p]? = some (CL n (MV n s (all.getD c 0))))
  | [], j, R, a, hd, ha, hj, h => by
    have : all.length ≤ j := by
      have := congrArg List.length hd
      rw [List.length_drop] at this; simp at this; omega
    exact ⟨by show a.length = _; omega, fun c hc => h c (by omega)⟩
  | b :: bs, j, R, a, hd, ha, hj, h => by
    have hj' : j < all.length := by
      have := congrArg List.length hd
      rw [List.length_drop] at this; simp at this; omega
    rw [List.drop_eq_getElem_cons hj'] at hd
    obtain ⟨e1, e2⟩ := List.cons.inj hd
    have eb : all.getD j 0 = b := by rw [List.getD, List.getElem?_eq_getElem hj', ← e1]; rfl
    rw [rowf]
    refine rowf_tab n s all bs (j + 1) _ _ e2 (by simp; omega) (by omega) fun c hc => ?_
    by_cases k : c = j
    · subst k
      rw [eb]
      obtain ⟨u1, u2⟩ := add_snd R (CL n (MV n s b))
      exact ⟨_, by rw [← ha]; simp, u1, u2⟩
    · obtain ⟨t, t1, t2, t3⟩ := h c (by omega)
      refine ⟨t, by rw [List.getElem?_append_left (by omega)]; exact t1, t2, fun hh => ?_⟩
      obtain ⟨p, p1, p2⟩ := t3 hh
      exact ⟨p, p1, add_get p2⟩
theorem mainF_tab (n : S24) (bs : List Nat) (B : Nat) : ∀ (f i : Nat) (R : List (List Bool)) (N : List (List Int)) (R' : List (List Bool)) (N' : List (List Int)), i ≤ R.length → Tab n bs R i N → (∀ r ∈ R, r.length = NN n) → R.length ≤ B + bs.length → mainF n bs B f i R N = some (R', N') → Tab n bs R' R'.length N' ∧ (∀ x : Nat, ∀ r, R[x]? = some r → R'[x]? = some r) ∧ (∀ r ∈ R', r.length = NN n) ∧ R'.length ≤ B + bs.length
  | 0, _, _, _, _, _, _, _, _, _, h => by cases h
  | f + 1, i, R, N, R', N', hi, ht, hr, hB, h => by
    rw [mainF] at h
    split at h
    · next a =>
      split at h
      · cases h
      · next b =>
        have hg : R[i]? = some (R.getD i []) := by rw [List.getD, List.getElem?_eq_getElem a]; rfl
        have hrl := rowf_len n (R.getD i []) bs R []
        obtain ⟨w1, w2⟩ := rowf_tab n (R.getD i []) bs bs 0 R [] rfl rfl (by omega) (fun c hc => by omega)
        have hgr := fun {x t} => rowf_get (i := x) (t := t) n (R.getD i []) bs R []
        have nt : Tab n bs (rowf n (R.getD i []) bs R []).1 (i + 1) (N ++ [(rowf n (R.getD i []) bs R []).2]) := by
          refine ⟨by simp; exact ht.1, fun q hq => ?_⟩
          by_cases k : q = i
          · subst k
            exact ⟨_, _, hgr hg, by rw [← ht.1]; simp, w1, w2⟩
          · obtain ⟨s, row, r1, r2, r3, r4⟩ := ht.2 q (by omega)
            refine ⟨s, row, hgr r1, by rw [List.getElem?_append_left (by have := ht.1; omega)]; exact r2, r3, fun c hc => ?_⟩
            obtain ⟨t, t1, t2, t3⟩ := r4 c hc
            refine ⟨t, t1, t2, fun hh => ?_⟩
            obtain ⟨p, p1, p2⟩ := t3 hh
            exact ⟨p, p1, hgr p2⟩
        obtain ⟨k1, k2, k3, k4⟩ := mainF_tab n bs B f (i + 1) _ _ R' N' (by omega) nt (rowf_all n _ bs R [] hr) (by omega) h
        exact ⟨k1, fun x r hx => k2 x r (hgr hx), k3, k4⟩
    · next a =>
      cases h
      obtain rfl : i = R.length := by omega
      exact ⟨ht, fun x r hx => hx, hr, hB⟩
end Go.Avl.T5
/- subset: the law's own loops. -/
namespace Go.Avl.T5
open Go Go.RowKit Go.Proofs Go.Avl
set_option linter.all false
set_option maxRecDepth 10000

theorem Tab.rows {n : S24} {bs : List Nat} {R : List (List Bool)} {i : Nat} {N : List (List Int)} (h : Tab n bs R i N) : ∀ r ∈ N, r.length = bs.length := by
  intro r hr
  obtain ⟨q, hq, rfl⟩ := List.getElem_of_mem hr
  obtain ⟨s, row, _, r2, r3, _⟩ := h.2 q (by have := h.1; omega)
  rw [List.getElem?_eq_getElem hq] at r2
  cases r2; exact r3
theorem tab0 (n : S24) (bs : List Nat) (R : List (List Bool)) : Tab n bs R 0 [] := ⟨rfl, fun q hq => by omega⟩
/-- What comes out, when it does. -/
theorem out_of {n : S24} {kk : Nat → ByteArray} {B : Nat} (hB : B ≤ 2000) {R : List (List Bool)} {N : List (List Int)} (h : mainF n (RP kk) B 5000 0 [F0 n] [] = some (R, N)) : Tab n (RP kk) R R.length N ∧ R[0]? = some (F0 n) ∧ (∀ r ∈ R, r.length = NN n) ∧ R.length ≤ 2300 ∧ N.length ≤ 2300 ∧ ∀ r ∈ N, r.length ≤ 300 := by
  have hl := RP_len kk
  by_cases hb : 1 ≤ B + (RP kk).length
  · obtain ⟨h1, h2, h3, h4⟩ := mainF_tab n (RP kk) B 5000 0 [F0 n] [] R N (by omega) (tab0 n _ _) (fun r hr => by rw [List.mem_singleton.1 hr]; exact F0_len n) (by simpa using hb) h
    exact ⟨h1, h2 0 _ rfl, h3, by omega, by have := h1.1; omega, fun r hr => by rw [h1.rows r hr]; omega⟩
  · exfalso
    have := RP_get kk (b := 0) (by omega)
    have := (List.getElem?_eq_some_iff.1 this).1
    omega
end Go.Avl.T5
/- SubsetRuns: the plain law. -/
namespace Go.Avl.T5
open Go Go.RowKit Go.Proofs Go.Avl
set_option linter.all false
set_option maxRecDepth 10000

theorem awake07'' : bosketlaw07_awake 5000 = some true := by decide +kernel
theorem any_no {t : List Bool} (h : anyb t = false) (q : Int) : lget t q = false := by
  unfold lget
  rw [List.getD]
  cases e : t[q.toNat]? with
  | none => rfl
  | some b =>
    cases b with
    | false => rfl
    | true =>
      have : anyb t = true := by unfold anyb; rw [List.any_eq_true]; exact ⟨true, List.mem_of_getElem? e, rfl⟩
      rw [h] at this; cases this
theorem no_any {t : List Bool} (h : ∀ q : Int, 0 ≤ q → lget t q = true → False) : anyb t = false := by
  cases e : anyb t with
  | false => rfl
  | true =>
    unfold anyb at e
    rw [List.any_eq_true] at e
    obtain ⟨b, hb, e⟩ := e
    obtain ⟨i, hi, rfl⟩ := List.getElem_of_mem hb
    exact (h (i : Int) (by omega) (by rw [lget_lt _ i hi]; exact e)).elim
theorem step_no {n : S24} (h : Rt n) {s : List Bool} (hs : anyb s = false) (b : Nat) : anyb (CL n (MV n s b)) = false := by
  refine no_any fun q hq hl => ?_
  obtain ⟨p, p0, p1, _⟩ := (CL_iff h (MV_len n s b) hq).1 hl
  obtain ⟨e, _, _, _, e3, _⟩ := (MV_iff h s b p0).1 p1
  rw [any_no hs] at e3; cases e3
theorem mv_congr (x : List Bool) (b c : Nat) : ∀ (l : List S43) (o : List Bool), (∀ e ∈ l, e.f3 = false → tb e.f2 b = tb e.f2 c) → l.foldl (mv1 x b) o = l.foldl (mv1 x c) o
  | [], _, _ => rfl
  | e :: l, o, h => by
    have e1 : mv1 x b o e = mv1 x c o e := by
      unfold mv1
      by_cases k : e.f3 = false
      · rw [h e (by simp) k]
      · rw [if_neg (fun q => k q.1), if_neg (fun q => k q.1)]
    rw [List.foldl_cons, List.foldl_cons, e1]
    exact mv_congr x b c l _ fun e' h' => h e' (by simp [h'])
theorem MV_class {n : S24} {kk : Nat → ByteArray} (hk : CK n kk) (x : List Bool) {b : Nat} (hb : b < 256) : MV n x (rc kk b) = MV n x b := by
  have hs := rc_spec kk b
  exact mv_congr x _ _ n.f1 _ fun e he h3 => hk.tb (by omega) hb hs.2.1 _ (ss_mem he h3)
theorem MK_no {M : List Int} {t : List Bool} (h : anyb t = false) : MK M t = -1 := by
  have : ∀ (m i : Nat), mkl M t m i (-1) = -1 := by
    intro m
    induction m with
    | zero => intro i; rfl
    | succ m ih =>
      intro i
      have e : mk1 M t i (-1) = -1 := by unfold mk1; rw [if_neg (by rintro ⟨q, _⟩; rw [any_no h] at q; cases q)]
      rw [mkl, e]; exact ih (i + 1)
  exact this _ _
/-- Where a text leads. -/
def At (n : S24) (s : ByteArray) (R : List (List Bool)) (i : Nat) (x : Int) : Prop := (∃ p : Nat, x = (p : Int) ∧ R[p]? = some (RN n s i)) ∨ (x = -1 ∧ anyb (RN n s i) = false)
theorem RN_no {n : S24} (h : Rt n) (s : ByteArray) {i : Nat} (hi : anyb (RN n s i) = false) : ∀ d, anyb (RN n s (i + d)) = false
  | 0 => hi
  | d + 1 => step_no h (RN_no h s hi d) _
theorem runs_c1 {n : S24} (h : Rt n) {M : List Int} {s : ByteArray} (hs : s.size ≤ 1000) {v : Vector Int 256} {N : List (List Int)} {R : List (List Bool)} {x : Int} (hx : At n s R s.size x) : bosketlaw07_SubsetRuns_c1 5000 n M s (S30.mk v N (R.map (MK M)), 0) x = some true := by
  have hN : NN n ≤ 1000 := by have := h.nn; have := h.n1; omega
  have fin : ∀ y : Int, y = MK M (RN n s s.size) → bosketlaw07_SubsetRuns_c0 5000 n M s (S30.mk v N (R.map (MK M)), 0) y = some true := by
    intro y hy
    unfold bosketlaw07_SubsetRuns_c0
    show (Option.bind (if (0 : Int) = 0 then (bosketref06_Run 5000 n s).bind fun t24 => (bosketref07_Mark 5000 M t24).bind fun t25 => some (decide (y = t25)) else some false) _) = _
    rw [if_pos rfl, nrun_eq h s hs, Option.bind_some, rmark07_eq M _ (by rw [RN_len]; exact hN), Option.bind_some, decide_eq_true hy]; rfl
  unfold bosketlaw07_SubsetRuns_c1
  show (if ((R.map (MK M)).length : Int) ≤ x then some false else if 0 ≤ x then if 0 ≤ x ∧ x < ((R.map (MK M)).length : Int) then bosketlaw07_SubsetRuns_c0 5000 n M s (S30.mk v N (R.map (MK M)), 0) (lget (R.map (MK M)) x) else none else _) = _
  rcases hx with ⟨p, rfl, hp⟩ | ⟨rfl, hp⟩
  · obtain ⟨g1, g2⟩ := List.getElem?_eq_some_iff.1 hp
    have hl : (((R.map (MK M)).length : Nat) : Int) = (R.length : Int) := by simp
    rw [hl, if_neg (by omega), if_pos (by omega), if_pos ⟨by omega, by omega⟩, lget_lt _ p (by simpa using g1), List.getElem_map, g2]
    exact fin _ rfl
  · rw [if_neg (by omega), if_neg (by decide)]
    exact fin _ (MK_no hp).symm
theorem runs_l2 {n : S24} (h : Rt n) {kk : Nat → ByteArray} (hk : CK n kk) {M : List Int} {s : ByteArray} (hs : s.size ≤ 30) {v : Vector Int 256} (hv : ∀ c : Nat, c < 256 → vget v (c : Int) = (ck kk c : Int)) {N : List (List Int)} {R : List (List Bool)} (ht : Tab n (RP kk) R R.length N) (hR : R.length ≤ 3000) : ∀ (m i fuel : Nat) (x : Int), i + m = s.size → m < fuel → At n s R i x → bosketlaw07_SubsetRuns_l2 5000 n M s (S30.mk v N (R.map (MK M)), 0) fuel x (i : Int) = some true
  | 0, i, f + 1, x, hi, _, hx => by
    rw [bosketlaw07_SubsetRuns_l2.eq_2, if_neg (by omega), Option.bind_some, if_neg (by decide)]
    exact runs_c1 h (by omega) (by rw [show s.size = i by omega]; exact hx)
  | m + 1, i, f + 1, x, hi, hf, hx => by
    have hb := byteAt_u8 s i
    rw [bosketlaw07_SubsetRuns_l2.eq_2, if_pos (by omega), Option.bind_some]
    rcases hx with ⟨p, rfl, hp⟩ | ⟨rfl, hp⟩
    · obtain ⟨g1, g2⟩ := List.getElem?_eq_some_iff.1 hp
      obtain ⟨b, eb⟩ : ∃ b : Nat, byteAt s (i : Int) = (b : Int) := ⟨(byteAt s i).toNat, by omega⟩
      have hb' : b < 256 := by omega
      have hg := RP_get kk hb'
      obtain ⟨k1, k2⟩ := List.getElem?_eq_some_iff.1 hg
      have hNl := ht.1
      obtain ⟨st, row, r1, r2, r3, r4⟩ := ht.2 p g1
      rw [hp] at r1
      obtain rfl : RN n s i = st := Option.some.inj r1
      obtain ⟨n1, n2⟩ := List.getElem?_eq_some_iff.1 r2
      obtain ⟨t, t1, t2, t3⟩ := r4 (ck kk b) k1
      have egd : (RP kk).getD (ck kk b) 0 = rc kk b := by rw [List.getD, hg]; rfl
      rw [egd, MV_class hk _ hb'] at t2 t3
      obtain ⟨m1, m2⟩ := List.getElem?_eq_some_iff.1 t1
      have hcl := ck_le kk b
      have eN : lget N (p : Int) = row := by rw [lget_lt _ p n1]; exact n2
      have et : lget row ((ck kk b : Nat) : Int) = t := by rw [lget_lt _ _ m1]; exact m2
      have hat : At n s R (i + 1) t := by
        have er : RN n s (i + 1) = CL n (MV n (RN n s i) b) := by
          show CL n (MV n (RN n s i) (byteAt s i).toNat) = _
          rw [eb, Int.toNat_natCast]
        unfold At
        rw [er]
        cases e : anyb (CL n (MV n (RN n s i) b)) with
        | false => exact .inr ⟨t2 e, rfl⟩
        | true => exact .inl (t3 e)
      have ih := runs_l2 h hk (M := M) hs hv ht hR m (i + 1) f t (by omega) (by omega) hat
      have c1 : 0 ≤ (p : Int) ∧ (p : Int) < (N.length : Int) := ⟨by omega, by omega⟩
      have c2 : 0 ≤ (i : Int) ∧ (i : Int) < (s.size : Int) := ⟨by omega, by omega⟩
      have c3 : 0 ≤ (b : Int) ∧ (b : Int) < 256 := ⟨by omega, by omega⟩
      have c4 : 0 ≤ ((ck kk b : Nat) : Int) ∧ ((ck kk b : Nat) : Int) < (row.length : Int) := ⟨by omega, by omega⟩
      rw [if_pos (decide_eq_true (by omega))]
      show (Option.bind (if (N.length : Int) ≤ (p : Int) then some true else if 0 ≤ (i : Int) ∧ (i : Int) < (s.size : Int) then if 0 ≤ byteAt s (i : Int) ∧ byteAt s (i : Int) < 256 then if 0 ≤ (p : Int) ∧ (p : Int) < (N.length : Int) then some (decide (((lget N (p : Int)).length : Int) ≤ w64 (vget v (byteAt s (i : Int))))) else none else none else none) fun b36 => if b36 = true then some false else if 0 ≤ (p : Int) ∧ (p : Int) < (N.length : Int) then if 0 ≤ (i : Int) ∧ (i : Int) < (s.size : Int) then if 0 ≤ byteAt s (i : Int) ∧ byteAt s (i : Int) < 256 then if 0 ≤ vget v (byteAt s (i : Int)) ∧ vget v (byteAt s (i : Int)) < ((lget N (p : Int)).length : Int) then bosketlaw07_SubsetRuns_l2 5000 n M s (S30.mk v N (R.map (MK M)), 0) f (lget (lget N (p : Int)) (vget v (byteAt s (i : Int)))) (w64 ((i : Int) + 1)) else none else none else none else none) = _
      rw [eb, hv b hb', eN, if_neg (by omega)]
      simp only [if_pos c1, if_pos c2, if_pos c3, if_pos c4]
      rw [w6 (x := ((ck kk b : Nat) : Int)) (by omega) (by omega), decide_eq_false (by omega), Option.bind_some, if_neg (by decide), et, w6 (by omega) (by omega)]
      exact_mod_cast ih
    · rw [if_neg (by decide)]
      refine runs_c1 h (by omega) (.inr ⟨rfl, ?_⟩)
      have := RN_no h s hp (m + 1)
      rw [hi] at this; exact this
theorem bosketlaw07_SubsetRuns_true (a0 : S24) (a1 : (List Int)) (a2 : ByteArray) (h0 : wf24 a0) (h1 : wf25 a1) (h2 : wf9 a2) (h3 : a2.size ≤ 140737488351232) : ∃ k, bosketlaw07_SubsetRuns k a0 a1 a2 = some true := by
  refine ⟨5000, ?_⟩
  unfold bosketlaw07_SubsetRuns
  rw [awake07'', Option.bind_some, if_neg (by decide)]
  by_cases q1 : (12 : Int) < a0.f0
  · rw [if_pos q1, Option.bind_some, if_pos rfl]
  rw [if_neg q1]
  by_cases q2 : (30 : Int) < (a0.f1.length : Int)
  · rw [if_pos q2, Option.bind_some, if_pos rfl]
  rw [if_neg q2]
  by_cases q3 : (40 : Int) < (a1.length : Int)
  · rw [if_pos q3, Option.bind_some, if_pos rfl]
  rw [if_neg q3]
  by_cases q4 : (30 : Int) < (a2.size : Int)
  · rw [if_pos q4, Option.bind_some, if_pos rfl]
  rw [if_neg q4]
  have hu : ∀ e ∈ a0.f1, U e.f2 := fun e he => U_of (h0.2.1.2 e he).2.2.1
  have hr := rright_eq a0 (by omega)
  rw [hr, Option.bind_some, Option.bind_some]
  cases hb : rtB a0 with
  | false => rfl
  | true =>
    have h : Rt a0 := rt_of hb (by omega) (by omega) hu
    obtain ⟨kk, hk⟩ := CK_ex a0 (by omega) hu
    obtain ⟨v, v1, v2⟩ := sof_eq h hk a1
    rw [if_neg (by decide)]
    cases e2 : mainF a0 (RP kk) 2000 5000 0 [F0 a0] [] with
    | none => rw [e2] at v2; rw [v2, Option.bind_some]; rfl
    | some x =>
      obtain ⟨R, N⟩ := x
      rw [e2] at v2
      obtain ⟨o1, o2, o3, o4, o5, o6⟩ := out_of (by omega) e2
      rw [v2, Option.bind_some, if_neg (show ¬ ((0 : Int) = 6) by decide)]
      have := runs_l2 h hk (M := a1) (s := a2) (by omega) v1 o1 (by omega) a2.size 0 5000 0 (by omega) (by omega) (.inl ⟨0, rfl, o2⟩)
      exact_mod_cast this
end Go.Avl.T5
