/- Parts: T2W, T2M1, T2M2, T2M3, T2E, T2Q, T2M4, T2M5, T2M6, T2PureOpReads. -/
import Derived.Test.YtmgiffbobkgcmaaAF1
import Derived.Test.YtmgiffbobkgcmaaAv2
import Derived.Test.YtmgiffbobkgcmaaAF2
import Derived.Lib.Bytealg
import Derived.Test.YtmgiffbobkgcmaaAF3
import Derived.Test.YtmgiffbobkgcmaaAF4
/- Opening of the arguments; printed by avlaw.py. -/
namespace Go.Avl.T2
open Go Go.RowKit Go.Proofs Go.Avl
set_option linter.unusedVariables false
set_option maxRecDepth 100000
abbrev wf9 : ByteArray → Prop := (fun s : ByteArray => s.size ≤ 9223372036854775807)
theorem op9 : Opens Try.prog 9 eStr wf9 := opens_string Try.underlying9
end Go.Avl.T2
/- Numbers as texts. -/
namespace Go.Avl.T2
open Go Go.RowKit Go.Proofs Go.Avl
set_option linter.all false

/-- The digits of a number. -/
def dg (n : Nat) : List Int := if h : n < 10 then [48 + (n : Int)] else dg (n / 10) ++ [48 + ((n % 10 : Nat) : Int)]
termination_by n
decreasing_by omega
theorem dg_lt {n : Nat} (h : n < 10) : dg n = [48 + (n : Int)] := by rw [dg, dif_pos h]
theorem dg_ge {n : Nat} (h : 10 ≤ n) : dg n = dg (n / 10) ++ [48 + ((n % 10 : Nat) : Int)] := by rw [dg, dif_neg (by omega)]
def val (l : List Int) : Nat := l.foldl (fun v c => v * 10 + (c - 48).toNat) 0
theorem val_snoc (l : List Int) (c : Int) : val (l ++ [c]) = val l * 10 + (c - 48).toNat := by simp [val]
def Dig (l : List Int) : Prop := ∀ c ∈ l, 48 ≤ c ∧ c ≤ 57
theorem dg_dig : ∀ (k n : Nat), n < 10 ^ k → Dig (dg n)
  | 0, n, h => by
    have : n = 0 := by simpa using h
    subst this; rw [dg_lt (by omega)]; intro c hc; simp at hc; omega
  | k + 1, n, h => by
    by_cases a : n < 10
    · rw [dg_lt a]; intro c hc; simp at hc; omega
    · rw [dg_ge (by omega)]
      have := dg_dig k (n / 10) (by rw [Nat.pow_succ] at h; omega)
      intro c hc
      rcases List.mem_append.1 hc with hc | hc
      · exact this c hc
      · simp at hc; omega
theorem val_dg : ∀ (k n : Nat), n < 10 ^ k → val (dg n) = n
  | 0, n, h => by
    have : n = 0 := by simpa using h
    subst this; rw [dg_lt (by omega)]; rfl
  | k + 1, n, h => by
    by_cases a : n < 10
    · rw [dg_lt a]; simp [val]; omega
    · rw [dg_ge (by omega), val_snoc, val_dg k (n / 10) (by rw [Nat.pow_succ] at h; omega)]
      omega
theorem dg_len : ∀ (k n : Nat), n < 10 ^ k → 0 < k → (dg n).length ≤ k ∧ 0 < (dg n).length
  | 0, n, h, z => by omega
  | k + 1, n, h, _ => by
    by_cases a : n < 10
    · rw [dg_lt a]; simp
    · have hk : 0 < k := by
        rcases Nat.eq_zero_or_pos k with e | e
        · subst e; simp at h; omega
        · exact e
      have := dg_len k (n / 10) (by rw [Nat.pow_succ] at h; omega) hk
      rw [dg_ge (by omega)]; simp; omega
theorem dg_head : ∀ (k n : Nat), n < 10 ^ k → (dg n).head? = some 48 → n = 0
  | 0, n, h, e => by simpa using h
  | k + 1, n, h, e => by
    by_cases a : n < 10
    · rw [dg_lt a] at e; simp at e; omega
    · rw [dg_ge (by omega)] at e
      have hl := (dg_len (k + 1) (n / 10) (by rw [Nat.pow_succ] at h ⊢; omega) (by omega)).2
      have e' : (dg (n / 10)).head? = some 48 := by
        cases hd : dg (n / 10) with
        | nil => rw [hd] at hl; simp at hl
        | cons x xs => rw [hd] at e; simpa using e
      have := dg_head k (n / 10) (by rw [Nat.pow_succ] at h; omega) e'
      omega
/-- Digits without a needless 0 ahead are those of their number. -/
theorem canon : ∀ (n : Nat) (l : List Int), l.length = n + 1 → Dig l → (l.head? ≠ some 48 ∨ n = 0) → dg (val l) = l ∧ (l.head? ≠ some 48 → 0 < val l)
  | 0, l, hl, hd, _ => by
    match l, hl with
    | [c], _ => 
      have := hd c (by simp)
      have e : val [c] = (c - 48).toNat := by simp [val]
      rw [e, dg_lt (by omega)]
      refine ⟨by congr 1; omega, fun h => ?_⟩
      have : c ≠ 48 := by simpa using h
      omega
  | n + 1, l, hl, hd, hh => by
    have hh : l.head? ≠ some 48 := by rcases hh with h | h; exact h; omega
    rcases List.eq_nil_or_concat l with e | ⟨m, c, e⟩
    · subst e; simp at hl
    · rw [List.concat_eq_append] at e
      subst e
      have hm : m.length = n + 1 := by simpa using hl
      have hm2 : m.head? ≠ some 48 := by
        cases m with
        | nil => simp at hm
        | cons x xs => simpa using hh
      obtain ⟨i1, i2⟩ := canon n m hm (fun c hc => hd c (by simp [hc])) (.inl hm2)
      have hp := i2 hm2
      have hc := hd c (by simp)
      rw [val_snoc]
      refine ⟨?_, fun _ => by omega⟩
      rw [dg_ge (by omega), show (val m * 10 + (c - 48).toNat) / 10 = val m by omega, i1]
      congr 2; omega
/-- The text of a number. -/
def D (n : Int) : List Int := if n < 0 then 45 :: dg n.natAbs else dg n.natAbs
def I64 (n : Int) : Prop := -9223372036854775808 ≤ n ∧ n ≤ 9223372036854775807

theorem tq (n : Int) : n.tdiv 10 = if n < 0 then - ((n.natAbs / 10 : Nat) : Int) else ((n.natAbs / 10 : Nat) : Int) := by
  by_cases a : n < 0
  · have e : n = -((n.natAbs : Nat) : Int) := by omega
    rw [if_pos a, e, Int.neg_tdiv, Int.tdiv_eq_ediv_of_nonneg (by omega)]; omega
  · rw [if_neg a, Int.tdiv_eq_ediv_of_nonneg (by omega)]; omega
theorem tr (n : Int) : n.tmod 10 = if n < 0 then - ((n.natAbs % 10 : Nat) : Int) else ((n.natAbs % 10 : Nat) : Int) := by
  by_cases a : n < 0
  · have e : n = -((n.natAbs : Nat) : Int) := by omega
    rw [if_pos a, e, Int.neg_tmod, Int.tmod_eq_emod_of_nonneg (by omega)]; omega
  · rw [if_neg a, Int.tmod_eq_emod_of_nonneg (by omega)]; omega
theorem natural_eq (K : Nat) : ∀ (k n : Nat), n < 10 ^ k → n < 18446744073709551616 → spot_natural_r K (k + 1) (n : Int) = some (strOfNums (dg n))
  | 0, n, h, h2 => by
    have : n = 0 := by simpa using h
    subst this; rw [dg_lt (by omega)]; rfl
  | k + 1, n, h, h2 => by
    rw [spot_natural_r.eq_2]
    by_cases a : (n : Int) < 10
    · have e1 : u64 ((48 : Int) + n) = 48 + n := by rw [u64_eq]; omega
      rw [if_pos a, dg_lt (by omega), e1, w8_id (by omega) (by omega)]
    · have e1 : IntKind.u64.wrap ((n : Int).tdiv 10) = ((n / 10 : Nat) : Int) := by
        have : (n : Int).tdiv 10 = ((n / 10 : Nat) : Int) := by rw [tq, if_neg (by omega)]; omega
        rw [this]; have := u64_eq ((n / 10 : Nat) : Int); unfold u64 at this; rw [this]; omega
      have e2 : (n : Int).tmod 10 = ((n % 10 : Nat) : Int) := by rw [tr, if_neg (by omega)]; omega
      have e3 : u64 ((48 : Int) + ((n % 10 : Nat) : Int)) = 48 + ((n % 10 : Nat) : Int) := by rw [u64_eq]; omega
      have hz : (dg (n / 10)).length ≤ 20 := (dg_len 20 (n / 10) (by omega) (by omega)).1
      rw [if_neg a, e1, natural_eq K k (n / 10) (by rw [Nat.pow_succ] at h; omega) (by omega), Option.bind_some, e2, e3, w8_id (by omega) (by omega), if_pos (by rw [strOfNums_size, strOfNums_size]; simp; omega), dg_ge (n := n) (by omega)]
      congr 1
      apply ByteArray.ext; apply Array.ext'; simp [strOfNums]
theorem pow_big {n k : Nat} (h : n < 100000000000000000000) (hk : 20 ≤ k) : n < 10 ^ k := Nat.lt_of_lt_of_le (show n < 10 ^ 20 from h) (Nat.pow_le_pow_right (by omega) hk)
theorem natural_eq' (k n : Nat) (hk : 20 ≤ k) (h2 : n < 18446744073709551616) : spot_natural (k + 1) (n : Int) = some (strOfNums (dg n)) := natural_eq (k + 1) k n (pow_big (by omega) hk) h2
theorem digits_eq {n : Int} (h : I64 n) : spot_digits 2000 n = some (strOfNums (D n)) := by
  unfold I64 at h
  unfold spot_digits D
  by_cases a : n < 0
  · have e : u64 (IntKind.i64.wrap (0 - n)) = ((n.natAbs : Nat) : Int) := by
      have := w64_eq (0 - n); unfold w64 at this; rw [this, u64_eq]; omega
    have hz : (dg n.natAbs).length ≤ 20 := (dg_len 20 n.natAbs (by omega) (by omega)).1
    have e1 : (ByteArray.mk #[45]).size = 1 := rfl
    rw [if_pos a, if_pos a, e, natural_eq' 1999 _ (by omega) (by omega), Option.bind_some, if_pos (by rw [strOfNums_size, e1]; omega), strOf_cons 45]
    rfl
  · have e : u64 n = ((n.natAbs : Nat) : Int) := by rw [u64_eq]; omega
    rw [if_neg a, if_neg a, e, natural_eq' 1999 _ (by omega) (by omega), Option.bind_some]
theorem rdigits_l (p0 : Int) : ∀ (k : Nat) (n : Int) (acc : ByteArray), n ≠ 0 → n.natAbs < 10 ^ k → I64 n → acc.size + k ≤ 100000 → bosketref13_Digits_l2 2000 p0 (k + 1) n acc = bosketref13_Digits_c0 2000 p0 (strOfNums (dg n.natAbs) ++ acc)
  | 0, n, acc, hn, h, _, _ => by simp at h; omega
  | k + 1, n, acc, hn, h, hi, hz => by
    unfold I64 at hi
    have q1 := tq n
    have q2 := tr n
    rw [bosketref13_Digits_l2.eq_2, if_pos hn]
    have key : ∀ x : Int, x = ((n.natAbs % 10 : Nat) : Int) → bosketref13_Digits_c1 2000 (bosketref13_Digits_l2 2000 p0 (k + 1)) n acc x = bosketref13_Digits_c0 2000 p0 (strOfNums (dg n.natAbs) ++ acc) := by
      rintro x rfl
      have e1 : w64 ((48 : Int) + ((n.natAbs % 10 : Nat) : Int)) = 48 + ((n.natAbs % 10 : Nat) : Int) := w64_id (by omega) (by omega)
      have e2 : IntKind.i64.wrap (n.tdiv 10) = n.tdiv 10 := by have := w64_id (n := n.tdiv 10) (by omega) (by omega); exact this
      have e3 : (n.tdiv 10).natAbs = n.natAbs / 10 := by omega
      unfold bosketref13_Digits_c1
      rw [e1, w8_id (by omega) (by omega), if_pos (by rw [strOfNums_size]; simp; omega), Option.bind_some, e2]
      by_cases a : n.natAbs < 10
      · have z : n.tdiv 10 = 0 := by omega
        rw [z, bosketref13_Digits_l2.eq_2, if_neg (by omega), dg_lt a]
        congr 4; omega
      · rw [rdigits_l p0 k (n.tdiv 10) _ (by omega) (by rw [e3]; rw [Nat.pow_succ] at h; omega) (by unfold I64; omega) (by rw [ByteArray.size_append, strOfNums_size]; simp; omega), e3, dg_ge (n := n.natAbs) (by omega)]
        congr 1
        apply ByteArray.ext; apply Array.ext'; simp [strOfNums]
    by_cases a : n.tmod 10 < 0
    · rw [if_pos a]; apply key
      have := w64_id (n := 0 - n.tmod 10) (by omega) (by omega)
      unfold w64 at this; rw [this]; omega
    · rw [if_neg a]; apply key; omega
theorem rdigits_l' (p0 : Int) (k : Nat) (n : Int) (acc : ByteArray) (hn : n ≠ 0) (hk : 20 ≤ k) (hi : I64 n) (hz : acc.size + k ≤ 100000) : bosketref13_Digits_l2 2000 p0 (k + 1) n acc = bosketref13_Digits_c0 2000 p0 (strOfNums (dg n.natAbs) ++ acc) := rdigits_l p0 k n acc hn (pow_big (by unfold I64 at hi; omega) hk) hi hz
theorem rdigits_eq {n : Int} (h : I64 n) : bosketref13_Digits 2000 n = some (strOfNums (D n)) := by
  have h' := h
  unfold I64 at h'
  unfold bosketref13_Digits
  by_cases a : n = 0
  · subst a; rw [if_pos rfl]
    have : D 0 = [48] := by unfold D; rw [if_neg (by omega), show (0 : Int).natAbs = 0 from rfl, dg_lt (by omega)]; rfl
    rw [this]; rfl
  · have hz : (dg n.natAbs).length ≤ 20 := (dg_len 20 n.natAbs (by omega) (by omega)).1
    rw [if_neg a, rdigits_l' n 1999 n _ a (by omega) h (by decide)]
    have e : strOfNums (dg n.natAbs) ++ ByteArray.mk #[] = strOfNums (dg n.natAbs) := by apply ByteArray.ext; apply Array.ext'; simp [strOfNums]
    rw [e]
    unfold bosketref13_Digits_c0 D
    by_cases b : n < 0
    · have e1 : (ByteArray.mk #[45]).size = 1 := rfl
      rw [if_pos b, if_pos b, if_pos (by rw [strOfNums_size, e1]; omega), strOf_cons 45]; rfl
    · rw [if_neg b, if_neg b]
end Go.Avl.T2
/- Numbers read. -/
namespace Go.Avl.T2
open Go Go.RowKit Go.Proofs Go.Avl
set_option linter.all false
set_option maxRecDepth 10000
instance (l : List Int) : Decidable (Dig l) := by unfold Dig; infer_instance

def Byt (l : List Int) : Prop := ∀ x ∈ l, 0 ≤ x ∧ x ≤ 255
theorem Byt.tail {c : Int} {l : List Int} (h : Byt (c :: l)) : Byt l := fun x hx => h x (List.mem_cons_of_mem _ hx)
theorem ints_byt (s : ByteArray) : Byt (ints s) := by
  intro x hx
  obtain ⟨b, _, rfl⟩ := List.mem_map.1 hx
  have := b.toNat_lt; omega
theorem extract_strOf (l : List Int) (i j : Nat) : (strOfNums l).extract i j = strOfNums ((l.take j).drop i) := by
  apply ByteArray.ext; apply Array.ext'
  rw [ByteArray.data_extract, strOfNums_data]
  simp only [strOfNums, Array.toList_extract, List.extract]
  simp [List.drop_take]
theorem strOf_one {c : Int} (h : 0 ≤ c ∧ c ≤ 255) (d : UInt8) : strOfNums [c] = ByteArray.mk #[d] ↔ c = d.toNat := by
  constructor
  · intro e
    have := congrArg (fun s : ByteArray => s.data.toList) e
    simp [strOfNums] at this
    rw [← this]; simp; omega
  · rintro rfl; apply ByteArray.ext; apply Array.ext'; simp [strOfNums]
def cutm (l : List Int) : List Int × Bool := if l.head? = some 45 then (l.tail, true) else (l, false)
theorem cut_eq {l : List Int} (hl : Byt l) (hz : l.length ≤ 100000) : strings_CutPrefix 2000 (strOfNums l) (ByteArray.mk #[45]) = some (strOfNums (cutm l).1, (cutm l).2) := by
  have e1 : (ByteArray.mk #[45]).size = 1 := rfl
  unfold strings_CutPrefix internal_stringslite_CutPrefix internal_stringslite_HasPrefix
  simp only [e1, strOfNums_size]
  cases l with
  | nil => simp [cutm]
  | cons c t =>
    have g : ((1 : Nat) : Int) ≤ (((c :: t).length : Nat) : Int) := by simp; omega
    have g2 : 0 ≤ (0 : Int) ∧ (0 : Int) ≤ ((1 : Nat) : Int) ∧ ((1 : Nat) : Int) ≤ (((c :: t).length : Nat) : Int) := ⟨by omega, by omega, g⟩
    have ex : (strOfNums (c :: t)).extract (0 : Int).toNat ((1 : Nat) : Int).toNat = strOfNums [c] := by
      rw [show (0 : Int).toNat = 0 from rfl, Int.toNat_natCast, extract_strOf]; simp
    have ex2 : (strOfNums (c :: t)).extract ((1 : Nat) : Int).toNat (((c :: t).length : Nat) : Int).toNat = strOfNums t := by
      rw [Int.toNat_natCast, Int.toNat_natCast, extract_strOf]; simp
    have hc := strOf_one (hl c (by simp)) 45
    rw [if_pos g, if_pos g2, ex, Option.bind_some, Option.bind_some, ex2]
    by_cases a : c = 45
    · have a' : strOfNums [c] = ByteArray.mk #[45] := hc.2 a
      rw [if_neg (by simp [a']), if_pos ⟨by omega, g, by omega⟩]
      simp [cutm, a]
    · have a' : ¬ strOfNums [c] = ByteArray.mk #[45] := fun e => a (hc.1 e)
      rw [if_pos (by simp [a'])]
      simp [cutm, a]
theorem val_take (l : List Int) (i : Nat) (h : i < l.length) : val (l.take (i + 1)) = val (l.take i) * 10 + (l[i] - 48).toNat := by
  rw [← List.take_append_getElem h, val_snoc]
theorem val_lt : ∀ (n : Nat) (l : List Int), l.length = n → Dig l → val l < 10 ^ n
  | 0, l, h, _ => by
    have : l = [] := List.length_eq_zero_iff.1 h
    subst this; simp [val]
  | n + 1, l, h, hd => by
    rcases List.eq_nil_or_concat l with e | ⟨m, c, e⟩
    · subst e; simp at h
    · rw [List.concat_eq_append] at e
      subst e
      have hm : m.length = n := by simpa using h
      have := val_lt n m hm (fun c hc => hd c (by simp [hc]))
      have hc := hd c (by simp)
      rw [val_snoc, Nat.pow_succ]; omega
def fin (low : Bool) (v : Nat) : Int × Bool := if low = true ∧ v ≤ 9223372036854775808 then (-(v : Int), true) else if low = false ∧ v < 9223372036854775808 then ((v : Int), true) else (0, false)
theorem fin_eq (t : ByteArray) (low : Bool) (v : Nat) (hv : v < 10 ^ 19) (hp : low = true → 0 < v) : spot_Number_c0 2000 (t, low) (v : Int) = some (fin low v) := by
  have hv : v < 10000000000000000000 := hv
  unfold spot_Number_c0 fin
  cases low
  · have n1 : ¬ ((t, false).2 = true) := fun h => by cases h
    by_cases a : (v : Int) < 9223372036854775808
    · rw [if_neg n1, Option.bind_some, if_neg (by decide), if_pos (show (!(t, false).2) = true from rfl), Option.bind_some, if_pos (decide_eq_true a), if_neg (fun h => by cases h.1), if_pos ⟨rfl, by omega⟩, w64_id (by omega) (by omega)]
    · rw [if_neg n1, Option.bind_some, if_neg (by decide), if_pos (show (!(t, false).2) = true from rfl), Option.bind_some, if_neg (by simpa using a), if_neg (fun h => by cases h.1), if_neg (fun h => by omega)]
  · have hp := hp rfl
    by_cases a : (v : Int) ≤ 9223372036854775808
    · have e := u64_eq (0 - (v : Int)); unfold u64 at e
      rw [if_pos rfl, Option.bind_some, if_pos (decide_eq_true a), if_pos ⟨rfl, by omega⟩, e, w64_eq]
      congr 2; omega
    · rw [if_pos rfl, Option.bind_some, if_neg (by simpa using a), if_neg (show ¬ ((!(t, true).2) = true) from fun h => by cases h), Option.bind_some, if_neg (by decide), if_neg (fun h => by omega), if_neg (fun h => by cases h.1)]
theorem num_l {t : List Int} (ht : Byt t) (low : Bool) (hz : t.length ≤ 19) (hp : low = true → Dig t → 0 < val t) : ∀ (m i fuel : Nat), i + m = t.length → m < fuel → Dig (t.take i) →
    spot_Number_l1 2000 (strOfNums t, low) fuel (val (t.take i)) i = some (if Dig t then fin low (val t) else (0, false))
  | 0, i, f + 1, h, _, hd => by
    have e : t.take i = t := List.take_of_length_le (by omega)
    rw [e] at hd ⊢
    have hv := val_lt t.length t rfl hd
    have hv2 : val t < 10 ^ 19 := Nat.lt_of_lt_of_le hv (Nat.pow_le_pow_right (by omega) (by omega))
    rw [spot_Number_l1.eq_2, if_neg (by simp only [strOfNums_size]; omega), fin_eq _ _ _ hv2 (fun e => hp e hd), if_pos hd]
  | m + 1, i, f + 1, h, hf, hd => by
    have hi : i < t.length := by omega
    have h1 : (i : Int) < (((strOfNums t, low).1.size : Nat) : Int) := by simp only [strOfNums_size]; omega
    have g : 0 ≤ (i : Int) ∧ (i : Int) < (((strOfNums t, low).1.size : Nat) : Int) := ⟨by omega, h1⟩
    have hb : byteAt (strOfNums t, low).1 (i : Int) = t[i] := byteAt_strOf t ht i hi
    have hbb := ht t[i] (List.getElem_mem hi)
    rw [spot_Number_l1.eq_2, if_pos h1]
    simp only [if_pos g, hb]
    by_cases a : 48 ≤ t[i] ∧ t[i] ≤ 57
    · rw [if_neg (by omega), Option.bind_some, if_neg (by simp; omega), Option.bind_some]
      have hv := val_lt i (t.take i) (by simp; omega) hd
      have hv2 : val (t.take i) < 10 ^ 18 := Nat.lt_of_lt_of_le hv (Nat.pow_le_pow_right (by omega) (by omega))
      have hv2 : val (t.take i) < 1000000000000000000 := hv2
      have e : u64 (u64 ((val (t.take i) : Int) * 10) + u64 (w8 (t[i] - 48))) = ((val (t.take (i + 1)) : Nat) : Int) := by
        rw [val_take t i hi, w8_id (by omega) (by omega), u64_eq, u64_eq, u64_eq]; omega
      rw [e, w64_id (by omega) (by omega)]
      have hd2 : Dig (t.take (i + 1)) := by
        rw [← List.take_append_getElem hi]
        intro c hc
        rcases List.mem_append.1 hc with hc | hc
        · exact hd c hc
        · simp at hc; subst hc; exact a
      exact_mod_cast num_l ht low hz hp m (i + 1) f (by omega) (by omega) hd2
    · have nd : ¬ Dig t := fun h => a (h _ (List.getElem_mem hi))
      rw [if_neg nd]
      by_cases b : t[i] < 48
      · rw [if_pos b, Option.bind_some, if_pos rfl]
      · rw [if_neg b, Option.bind_some, if_pos (by simp; omega)]
/-- The number of a text. -/
def sn (l : List Int) : Int × Bool :=
  if (cutm l).1 = [] ∨ 19 < (cutm l).1.length ∨ ((cutm l).1.head? = some 48 ∧ ((cutm l).2 = true ∨ 1 < (cutm l).1.length)) then (0, false)
  else if Dig (cutm l).1 then fin (cutm l).2 (val (cutm l).1) else (0, false)
theorem cutm_byt {l : List Int} (h : Byt l) : Byt (cutm l).1 := by
  unfold cutm
  split
  · intro x hx; exact h x (List.mem_of_mem_tail hx)
  · exact h
theorem num_eq {l : List Int} (hl : Byt l) (hz : l.length ≤ 100000) : spot_Number 2000 (strOfNums l) = some (sn l) := by
  unfold spot_Number sn
  rw [cut_eq hl hz, Option.bind_some]
  have hb := cutm_byt hl
  generalize hc : cutm l = c at hb
  obtain ⟨t, low⟩ := c
  dsimp only at hb ⊢
  by_cases a : t = []
  · subst a
    have e : strOfNums [] = ByteArray.mk #[] := rfl
    rw [if_pos e, Option.bind_some, if_pos rfl, if_pos (.inl rfl)]
  · have e : ¬ strOfNums t = ByteArray.mk #[] := by
      intro h
      have := congrArg ByteArray.size h
      rw [strOfNums_size] at this
      exact a (List.length_eq_zero_iff.1 this)
    have hpos : 0 < t.length := List.length_pos_iff.2 a
    rw [if_neg e, strOfNums_size]
    by_cases b : 19 < t.length
    · rw [if_pos (by omega), Option.bind_some, if_pos rfl, if_pos (.inr (.inl b))]
    · have hb0 : byteAt (strOfNums t) 0 = t[0] := byteAt_strOf t hb 0 hpos
      have hh : t.head? = some t[0] := by rw [List.head?_eq_getElem?, List.getElem?_eq_getElem hpos]
      rw [if_neg (by omega), if_pos ⟨by omega, by omega⟩, hb0, hh]
      have fin' : ¬ (t[0] = 48 ∧ (low = true ∨ 1 < t.length)) → spot_Number_l1 2000 (strOfNums t, low) 2000 0 0 = some (if Dig t then fin low (val t) else (0, false)) := by
        intro hn
        refine num_l hb low (by omega) (fun hlow hd => ?_) t.length 0 2000 (by omega) (by omega) (by intro c hc; simp at hc)
        have hne : t.head? ≠ some 48 := by rw [hh]; intro e; exact hn ⟨Option.some.inj e, .inl hlow⟩
        obtain ⟨n, hn'⟩ : ∃ n, t.length = n + 1 := ⟨t.length - 1, by omega⟩
        exact (canon n t hn' hd (.inl hne)).2 hne
      by_cases c : t[0] = 48
      · rw [if_pos c]
        by_cases d : low = true
        · rw [if_pos d, Option.bind_some, if_pos rfl, if_pos (.inr (.inr ⟨by rw [c], .inl d⟩))]
        · rw [if_neg d, Option.bind_some]
          by_cases f : 1 < t.length
          · rw [if_pos (by simp; omega), if_pos (.inr (.inr ⟨by rw [c], .inr f⟩))]
          · have nn : ¬ (t = [] ∨ 19 < t.length ∨ (some t[0] = some 48 ∧ (low = true ∨ 1 < t.length))) := by
              rintro (h | h | h)
              · exact a h
              · exact b h
              · rcases h.2 with h | h; exact d h; exact f h
            rw [if_neg nn, if_neg (by simp; omega), fin' (fun h => by rcases h.2 with h | h; exact d h; exact f h)]
      · have nn : ¬ (t = [] ∨ 19 < t.length ∨ (some t[0] = some 48 ∧ (low = true ∨ 1 < t.length))) := by
          rintro (h | h | h)
          · exact a h
          · exact b h
          · exact c (Option.some.inj h.1)
        rw [if_neg nn, if_neg c, Option.bind_some, if_neg (by decide), fin' (fun h => c h.1)]
end Go.Avl.T2
/- SpotNumbers' parts: what the reference reads. -/
namespace Go.Avl.T2
open Go Go.RowKit Go.Proofs Go.Avl
set_option linter.all false
set_option maxRecDepth 10000

def acs (v c : Int) : Int := if 48 ≤ c ∧ c ≤ 57 then w64 (w64 (v * 10) - (c - 48)) else v
def ac (l : List Int) : Int := l.foldl acs 0
theorem i64_w (n : Int) : I64 (w64 n) := by unfold I64; rw [w64_eq]; omega
theorem acs_i64 {v c : Int} (h : I64 v) : I64 (acs v c) := by unfold acs; split; exact i64_w _; exact h
theorem foldl_i64 : ∀ (l : List Int) (v : Int), I64 v → I64 (l.foldl acs v)
  | [], v, h => h
  | c :: l, v, h => foldl_i64 l (acs v c) (acs_i64 h)
theorem ac_i64 (l : List Int) : I64 (ac l) := foldl_i64 l 0 (by unfold I64; omega)
theorem ac_take (l : List Int) (i : Nat) (h : i < l.length) : ac (l.take (i + 1)) = acs (ac (l.take i)) l[i] := by
  unfold ac; rw [← List.take_append_getElem h, List.foldl_append]; rfl
theorem ac_dig : ∀ (n : Nat) (l : List Int), l.length = n → Dig l → val l ≤ 9223372036854775808 → ac l = -(val l : Int)
  | 0, l, h, _, _ => by
    have : l = [] := List.length_eq_zero_iff.1 h
    subst this; rfl
  | n + 1, l, h, hd, hv => by
    rcases List.eq_nil_or_concat l with e | ⟨m, c, e⟩
    · subst e; simp at h
    · rw [List.concat_eq_append] at e
      subst e
      have hm : m.length = n := by simpa using h
      have hc := hd c (by simp)
      rw [val_snoc] at hv ⊢
      have ih := ac_dig n m hm (fun c hc => hd c (by simp [hc])) (by omega)
      have e : ac (m ++ [c]) = acs (ac m) c := by simp [ac]
      rw [e, ih, acs, if_pos hc, w64_id (n := -(val m : Int) * 10) (by omega) (by omega), w64_id (by omega) (by omega)]
      omega
theorem rnum_l {l : List Int} (hl : Byt l) (hz : l.length ≤ 100000) (b : Bool) : ∀ (m i fuel : Nat), i + m = min l.length 20 → m < fuel →
    bosketref13_Number_l3 2000 (strOfNums l) b fuel (ac (l.take i)) i = bosketref13_Number_c1 2000 (strOfNums l) b (ac (l.take 20))
  | 0, i, f + 1, h, _ => by
    rw [bosketref13_Number_l3.eq_2, strOfNums_size]
    have e : l.take i = l.take 20 := by
      by_cases a : l.length ≤ 20
      · rw [List.take_of_length_le (by omega), List.take_of_length_le (by omega)]
      · rw [show i = 20 by omega]
    by_cases a : (i : Int) < (l.length : Int)
    · rw [if_pos a, Option.bind_some, if_neg (by simp; omega), e]
    · rw [if_neg a, Option.bind_some, if_neg (by decide), e]
  | m + 1, i, f + 1, h, hf => by
    have hi : i < l.length := by omega
    have hb : byteAt (strOfNums l) (i : Int) = l[i] := byteAt_strOf l hl i hi
    have hbb := hl l[i] (List.getElem_mem hi)
    have g : 0 ≤ (i : Int) ∧ (i : Int) < (l.length : Int) := ⟨by omega, by omega⟩
    have ih := rnum_l hl hz b m (i + 1) f (by omega) (by omega)
    rw [ac_take l i hi] at ih
    rw [bosketref13_Number_l3.eq_2, strOfNums_size, if_pos g.2, Option.bind_some, if_pos (by simp; omega)]
    simp only [if_pos g, hb]
    have key : ∀ x, x = acs (ac (l.take i)) l[i] → bosketref13_Number_c2 2000 (bosketref13_Number_l3 2000 (strOfNums l) b f) i x = bosketref13_Number_c1 2000 (strOfNums l) b (ac (l.take 20)) := by
      rintro x rfl
      unfold bosketref13_Number_c2
      rw [w64_id (by omega) (by omega)]
      exact_mod_cast ih
    by_cases a : 48 ≤ l[i]
    · by_cases c : l[i] ≤ 57
      · rw [if_pos a, Option.bind_some, if_pos (decide_eq_true c), Option.bind_some]
        apply key
        rw [acs, if_pos ⟨a, c⟩, w8_id (n := l[i] - 48) (by omega) (by omega), w64_id (n := l[i] - 48) (by omega) (by omega)]
      · rw [if_pos a, Option.bind_some, if_neg (by simpa using c)]
        apply key
        rw [acs, if_neg (fun h => c h.2)]
    · rw [if_neg a, Option.bind_some, if_neg (by decide)]
      apply key
      rw [acs, if_neg (fun h => a h.1)]
theorem D_byt {n : Int} (h : I64 n) : Byt (D n) := by
  unfold I64 at h
  have := dg_dig 20 n.natAbs (by omega)
  intro x hx
  unfold D at hx
  split at hx
  · rcases List.mem_cons.1 hx with e | e
    · omega
    · have := this x e; omega
  · have := this x hx; omega
theorem rc0 {l : List Int} (hl : Byt l) {m : Int} (h : I64 m) : bosketref13_Number_c0 2000 (strOfNums l) m = some (if D m = l then (m, true) else (0, false)) := by
  unfold bosketref13_Number_c0
  rw [rdigits_eq h, Option.bind_some]
  by_cases a : D m = l
  · rw [if_neg (by simp [a]), if_pos a]
  · rw [if_pos (fun e => a (strOf_inj (D_byt h) hl e)), if_neg a]
def rm (l : List Int) : Int := if l.head? = some 45 then ac (l.take 20) else IntKind.i64.wrap (0 - ac (l.take 20))
theorem rnum_eq {l : List Int} (hl : Byt l) (hz : l.length ≤ 100000) : I64 (rm l) ∧ bosketref13_Number 2000 (strOfNums l) = some (if D (rm l) = l then (rm l, true) else (0, false)) := by
  have hi : I64 (rm l) := by
    unfold rm; split
    · exact ac_i64 _
    · exact i64_w _
  refine ⟨hi, ?_⟩
  have fin' : ∀ b : Bool, (b = true ↔ l.head? = some 45) → bosketref13_Number_l3 2000 (strOfNums l) b 2000 0 0 = some (if D (rm l) = l then (rm l, true) else (0, false)) := by
    intro b hb
    have := rnum_l hl hz b (min l.length 20) 0 2000 (by omega) (by omega)
    rw [List.take_zero] at this
    have e : bosketref13_Number_l3 2000 (strOfNums l) b 2000 0 0 = bosketref13_Number_c1 2000 (strOfNums l) b (ac (l.take 20)) := this
    rw [e]
    unfold bosketref13_Number_c1
    cases b
    · have h1 : ¬ l.head? = some 45 := fun h => by have := hb.2 h; cases this
      have e2 : rm l = IntKind.i64.wrap (0 - ac (l.take 20)) := by rw [rm, if_neg h1]
      rw [if_pos (show (!false) = true from rfl), ← e2, rc0 hl hi]
    · have e2 : rm l = ac (l.take 20) := by rw [rm, if_pos (hb.1 rfl)]
      rw [if_neg (by decide), ← e2, rc0 hl hi]
  unfold bosketref13_Number
  rw [strOfNums_size]
  cases l with
  | nil => rw [if_neg (by simp), Option.bind_some]; exact fin' false (by simp)
  | cons c t =>
    have hb : byteAt (strOfNums (c :: t)) 0 = c := byteAt_strOf (c :: t) hl 0 (by simp)
    rw [if_pos (by simp), if_pos ⟨by omega, by simp⟩, hb, Option.bind_some]
    exact fin' _ (by simp)
/-- A number's text is read as it. -/
theorem rm_D {n : Int} (h : I64 n) : rm (D n) = n := by
  have h' := h
  unfold I64 at h'
  have hd := dg_dig 19 n.natAbs (by omega)
  have hv := val_dg 19 n.natAbs (by omega)
  have hl := dg_len 19 n.natAbs (by omega) (by omega)
  have ha := ac_dig _ (dg n.natAbs) rfl hd (by omega)
  unfold rm D
  by_cases a : n < 0
  · rw [if_pos a, if_pos (show (45 :: dg n.natAbs).head? = some 45 from rfl), List.take_of_length_le (by simp; omega)]
    have e : ac (45 :: dg n.natAbs) = ac (dg n.natAbs) := rfl
    rw [e, ha, hv]; omega
  · have hh : ¬ (dg n.natAbs).head? = some 45 := by
      intro e
      have := hd 45 (List.mem_of_head? e)
      omega
    rw [if_neg a, if_neg hh, List.take_of_length_le (by omega), ha, hv]
    have := w64_id (n := 0 - -(n.natAbs : Int)) (by omega) (by omega)
    unfold w64 at this
    rw [this]; omega
theorem sn_D {n : Int} (h : I64 n) : sn (D n) = (n, true) := by
  have h' := h
  unfold I64 at h'
  have hd := dg_dig 19 n.natAbs (by omega)
  have hv := val_dg 19 n.natAbs (by omega)
  have hl := dg_len 19 n.natAbs (by omega) (by omega)
  have hh0 := dg_head 19 n.natAbs (by omega)
  have hne : dg n.natAbs ≠ [] := List.length_pos_iff.1 hl.2
  unfold sn
  by_cases a : n < 0
  · have e : cutm (D n) = (dg n.natAbs, true) := by unfold cutm D; rw [if_pos a, if_pos (show (45 :: dg n.natAbs).head? = some 45 from rfl)]; rfl
    rw [e]; dsimp only
    rw [if_neg (by
      rintro (h | h | h)
      · exact hne h
      · omega
      · have := hh0 h.1; omega), if_pos hd, hv, fin, if_pos ⟨rfl, by omega⟩]
    congr 1; omega
  · have hh : ¬ (dg n.natAbs).head? = some 45 := by
      intro e
      have := hd 45 (List.mem_of_head? e)
      omega
    have e : cutm (D n) = (dg n.natAbs, false) := by unfold cutm D; rw [if_neg a, if_neg hh]
    rw [e]; dsimp only
    rw [if_neg (by
      rintro (h | h | h)
      · exact hne h
      · omega
      · have := hh0 h.1
        rw [this, dg_lt (by omega)] at h
        rcases h.2 with h | h
        · cases h
        · simp at h), if_pos hd, hv, fin, if_neg (fun h => by cases h.1), if_pos ⟨rfl, by omega⟩]
    congr 1; omega
/-- Who reads a number reads its own text. -/
theorem sn_ok {l : List Int} (h : (sn l).2 = true) : I64 (sn l).1 ∧ D (sn l).1 = l := by
  unfold sn at h ⊢
  split at h
  · cases h
  rename_i a
  split at h
  · rename_i b
    rw [if_neg a, if_pos b]
    have nl : (cutm l).1 ≠ [] := fun e => a (.inl e)
    have hpos := List.length_pos_iff.2 nl
    obtain ⟨k, hk⟩ : ∃ k, (cutm l).1.length = k + 1 := ⟨(cutm l).1.length - 1, by omega⟩
    have hlow : (cutm l).2 = true → (cutm l).1.head? ≠ some 48 := fun e h => a (.inr (.inr ⟨h, .inl e⟩))
    have hcan : (cutm l).1.head? ≠ some 48 ∨ k = 0 := by
      by_cases c : (cutm l).1.head? = some 48
      · right
        have : ¬ 1 < (cutm l).1.length := fun h => a (.inr (.inr ⟨c, .inr h⟩))
        omega
      · exact .inl c
    obtain ⟨c1, c2⟩ := canon k _ hk b hcan
    unfold fin at h ⊢
    split at h
    · rename_i d
      rw [if_pos d]
      have hp := c2 (hlow d.1)
      have e : l.head? = some 45 := by
        have := d.1; unfold cutm at this; split at this
        · assumption
        · cases this
      have e2 : cutm l = (l.tail, true) := by unfold cutm; rw [if_pos e]
      refine ⟨by unfold I64; dsimp only; omega, ?_⟩
      dsimp only
      unfold D
      have e3 : (-(val (cutm l).1 : Int)).natAbs = val (cutm l).1 := by omega
      rw [if_pos (by omega), e3, c1, e2]
      cases l with
      | nil => cases e
      | cons x xs => simp at e; subst e; rfl
    · rename_i d
      rw [if_neg d]
      split at h
      · rename_i f
        rw [if_pos f]
        have e2 : cutm l = (l, false) := by
          have := f.1; unfold cutm at this ⊢; split at this
          · cases this
          · rename_i g; rw [if_neg g]
        refine ⟨by unfold I64; dsimp only; omega, ?_⟩
        dsimp only
        unfold D
        have e3 : (val (cutm l).1 : Int).natAbs = val (cutm l).1 := by omega
        rw [if_neg (by omega), e3, c1, e2]
      · cases h
  · cases h
theorem sn_no {l : List Int} (h : (sn l).2 = false) : sn l = (0, false) := by
  unfold sn at h ⊢
  split at h
  · rename_i a; rw [if_pos a]
  rename_i a
  rw [if_neg a]
  split at h
  · rename_i b
    rw [if_pos b]
    unfold fin at h ⊢
    split at h
    · cases h
    · rename_i c
      rw [if_neg c]
      split at h
      · cases h
      · rename_i d; rw [if_neg d]
  · rename_i b; rw [if_neg b]
/-- Both read alike. -/
theorem numbers_eq {l : List Int} (hl : Byt l) (hz : l.length ≤ 100000) : bosketref13_Number 2000 (strOfNums l) = some (sn l) := by
  obtain ⟨h1, h2⟩ := rnum_eq hl hz
  rw [h2]
  by_cases a : D (rm l) = l
  · rw [if_pos a]
    have := sn_D h1
    rw [a] at this
    rw [this]
  · rw [if_neg a]
    cases b : (sn l).2
    · rw [sn_no b]
    · obtain ⟨c1, c2⟩ := sn_ok b
      have := rm_D c1
      rw [c2] at this
      rw [this] at a
      exact absurd c2 a
theorem num_all {s : ByteArray} (hz : s.size ≤ 100000) : spot_Number 2000 s = some (sn (ints s)) ∧ bosketref13_Number 2000 s = some (sn (ints s)) := by
  have h := num_eq (ints_byt s) (by rw [ints_length]; exact hz)
  have h2 := numbers_eq (ints_byt s) (by rw [ints_length]; exact hz)
  rw [strOf_ints] at h h2
  exact ⟨h, h2⟩
theorem sn_i64 (l : List Int) : I64 (sn l).1 := by
  cases b : (sn l).2
  · rw [sn_no b]; unfold I64; dsimp only; omega
  · exact (sn_ok b).1
end Go.Avl.T2
/- Ported: texts between quotes. -/
namespace Go.Avl.T2
open Go Go.RowKit Go.Proofs Go.Avl
set_option linter.all false


def special (c : Int) : Prop := c < 32 ∨ 126 < c ∨ c = 92
instance (c : Int) : Decidable (special c) := by unfold special; infer_instance
theorem byte_special {k : Nat} {c : Int} {q : ByteArray} (h : special c) : escape_Byte k c q = escape_Byte 5 c (ByteArray.mk #[]) := by
  unfold escape_Byte escape_letter escape_digit
  by_cases a : c = 10
  · subst a; rfl
  by_cases b : c = 9
  · subst b; rfl
  by_cases d : c = 13
  · subst d; rfl
  simp only [if_neg a, if_neg b, if_neg d, Option.bind_some, ne_eq, not_true, if_false]
  by_cases e : c < 32
  · simp only [if_pos e, Option.bind_some, if_true]
  · simp only [if_neg e, Option.bind_some]
    by_cases f : (126 : Int) < c
    · simp only [decide_eq_true f, if_true]
    · have g : c = 92 := by rcases h with h | h | h <;> first | omega | exact h
      subst g; rfl
theorem rbyte_special {k : Nat} {c : Int} {q : ByteArray} (h : special c) : bosketref03_Byte k c q = bosketref03_Byte 5 c (ByteArray.mk #[]) := by
  unfold bosketref03_Byte
  by_cases a : c = 10
  · subst a; rfl
  by_cases b : c = 9
  · subst b; rfl
  by_cases d : c = 13
  · subst d; rfl
  simp only [if_neg a, if_neg b, if_neg d, Option.bind_some]
  by_cases e : c < 32
  · simp only [if_pos e, Option.bind_some, if_true]
  · simp only [if_neg e, Option.bind_some]
    by_cases f : (126 : Int) < c
    · simp only [decide_eq_true f, if_true]
    · have g : c = 92 := by rcases h with h | h | h <;> first | omega | exact h
      subst g; rfl
theorem special_all : ∀ n : Nat, n < 256 → special n → (escape_Byte 5 n (ByteArray.mk #[])).isSome = true ∧ escape_Byte 5 n (ByteArray.mk #[]) = bosketref03_Byte 5 n (ByteArray.mk #[]) := by decide +kernel
theorem plain_l (k : Nat) (c : Int) (q : ByteArray) (hq : q.size ≤ 1000000) : ∀ (m i : Nat), i ≤ q.size → q.size - i < m →
    ∃ b : Bool, bosketref03_in_l1 k q c m i = some b ∧ escape_Byte_l1 k c q m i = some (if b then strOfNums [92, c] else strOfNums [c])
  | 0, i, _, h => by omega
  | m + 1, i, hi, h => by
    rw [bosketref03_in_l1.eq_2, escape_Byte_l1.eq_2]
    by_cases a : (i : Int) < (q.size : Int)
    · have g : 0 ≤ (i : Int) ∧ (i : Int) < (q.size : Int) := ⟨by omega, a⟩
      simp only [if_pos a, if_pos g]
      by_cases b : byteAt q (i : Int) = c
      · simp only [if_pos b]; exact ⟨true, rfl, rfl⟩
      · simp only [if_neg b, w64_id (n := (i : Int) + 1) (by omega) (by omega)]
        exact_mod_cast plain_l k c q hq m (i + 1) (by omega) (by omega)
    · simp only [if_neg a]; exact ⟨false, rfl, rfl⟩
theorem byte_eq {k : Nat} (hk : 2000 ≤ k) (c : Int) (h0 : 0 ≤ c) (h1 : c ≤ 255) (q : ByteArray) (hq : q.size ≤ 1000) : ∃ t, escape_Byte k c q = some t ∧ bosketref03_Byte k c q = some t ∧ (special c → escape_Byte 5 c (ByteArray.mk #[]) = some t) ∧ (¬ special c → t = strOfNums [92, c] ∨ t = strOfNums [c]) := by
  by_cases h : special c
  · obtain ⟨n, rfl⟩ : ∃ n : Nat, c = n := ⟨c.toNat, by omega⟩
    obtain ⟨s1, s2⟩ := special_all n (by omega) h
    obtain ⟨t, ht⟩ := Option.isSome_iff_exists.1 s1
    exact ⟨t, by rw [byte_special h, ht], by rw [rbyte_special h, ← s2, ht], fun _ => ht, fun h' => absurd h h'⟩
  · have a : ¬ c = 10 := fun e => h (by subst e; decide)
    have b : ¬ c = 9 := fun e => h (by subst e; decide)
    have d : ¬ c = 13 := fun e => h (by subst e; decide)
    have e : ¬ c < 32 := fun e => h (.inl e)
    have f : ¬ (126 : Int) < c := fun e => h (.inr (.inl e))
    have g : ¬ c = 92 := fun e => h (.inr (.inr e))
    obtain ⟨r, r1, r2⟩ := plain_l k c q (by omega) k 0 (by omega) (by omega)
    have r1' : bosketref03_in k q c = some r := r1
    refine ⟨if r then strOfNums [92, c] else strOfNums [c], ?_, ?_, fun h' => absurd h' h, fun _ => by cases r <;> simp⟩
    · unfold escape_Byte escape_letter
      simp only [if_neg a, if_neg b, if_neg d, if_neg e, if_neg g, Option.bind_some, ne_eq, not_true, if_false, decide_eq_false f]
      exact r2
    · unfold bosketref03_Byte
      simp only [if_neg a, if_neg b, if_neg d, if_neg e, if_neg g, Option.bind_some, decide_eq_false f, r1']
      have hs : ByteArray.mk #[92] ++ strOfNums [c] = strOfNums [92, c] := by rw [strOf_cons 92 [c]]; rfl
      have hz : (ByteArray.mk #[92]).size + (strOfNums [c]).size ≤ 9223372036854775807 := by rw [strOfNums_size]; show 1 + 1 ≤ 9223372036854775807; decide
      cases r
      · simp
      · simp [hs, hz]




def hx (d : Nat) : Int := if d < 10 then 48 + d else 87 + d
def tbl (n : Nat) : List Int := if n = 10 then [92, 110] else if n = 9 then [92, 116] else if n = 13 then [92, 114] else if n < 32 ∨ 126 < n then [92, 120, hx (n / 16), hx (n % 16)] else if n = 92 then [92, 92] else [(n : Int)]
theorem tbl_eq : ∀ n : Nat, n < 256 → bosketref03_Byte 2000 (w8 n) (ByteArray.mk #[]) = some (strOfNums (tbl n)) := by decide +kernel
abbrev D16 : ByteArray := ByteArray.mk #[48, 49, 50, 51, 52, 53, 54, 55, 56, 57, 97, 98, 99, 100, 101, 102]
theorem hex_eq : ∀ n : Nat, n < 256 → (0 ≤ (IntKind.i64.wrap ((n : Int).tdiv (16 : Int))) ∧ (IntKind.i64.wrap ((n : Int).tdiv (16 : Int))) ≤ (w64 ((IntKind.i64.wrap ((n : Int).tdiv (16 : Int))) + (1 : Int))) ∧ (w64 ((IntKind.i64.wrap ((n : Int).tdiv (16 : Int))) + (1 : Int))) ≤ (D16.size : Int)) ∧
    ((ByteArray.mk #[92, 120]).size + (D16.extract (IntKind.i64.wrap ((n : Int).tdiv (16 : Int))).toNat (w64 ((IntKind.i64.wrap ((n : Int).tdiv (16 : Int))) + (1 : Int))).toNat).size ≤ 9223372036854775807) ∧
    (0 ≤ ((n : Int).tmod (16 : Int)) ∧ ((n : Int).tmod (16 : Int)) ≤ (w64 (((n : Int).tmod (16 : Int)) + (1 : Int))) ∧ (w64 (((n : Int).tmod (16 : Int)) + (1 : Int))) ≤ (D16.size : Int)) ∧
    (((ByteArray.mk #[92, 120]) ++ (D16.extract (IntKind.i64.wrap ((n : Int).tdiv (16 : Int))).toNat (w64 ((IntKind.i64.wrap ((n : Int).tdiv (16 : Int))) + (1 : Int))).toNat)).size + (D16.extract ((n : Int).tmod (16 : Int)).toNat (w64 (((n : Int).tmod (16 : Int)) + (1 : Int))).toNat).size ≤ 9223372036854775807) ∧
    (((ByteArray.mk #[92, 120]) ++ (D16.extract (IntKind.i64.wrap ((n : Int).tdiv (16 : Int))).toNat (w64 ((IntKind.i64.wrap ((n : Int).tdiv (16 : Int))) + (1 : Int))).toNat)) ++ (D16.extract ((n : Int).tmod (16 : Int)).toNat (w64 (((n : Int).tmod (16 : Int)) + (1 : Int))).toNat)) = strOfNums [92, 120, hx (n / 16), hx (n % 16)] := by decide +kernel
/-- What the reference's search asks of a byte. -/
def hit2 (s : ByteArray) (n : Nat) : Bool := decide (1 < s.size) && decide ((n = 10 ∧ byteAt s 1 = 110) ∨ (n = 9 ∧ byteAt s 1 = 116) ∨ (n = 13 ∧ byteAt s 1 = 114))
def hit4 (s : ByteArray) (n : Nat) : Bool := decide (3 < s.size) && decide (byteAt s 1 = 120 ∧ byteAt s 2 = hx (n / 16) ∧ byteAt s 3 = hx (n % 16))
theorem w8_nat (n : Nat) (h : n < 256) : w8 (n : Int) = n := w8_id (by omega) (by omega)
theorem tbl_two : ∀ n : Nat, n < 256 → (strOfNums (tbl n)).size = 2 → byteAt (strOfNums (tbl n)) 1 ≠ 92 → (n = 10 ∨ n = 9 ∨ n = 13) := by decide +kernel


theorem hx_u8 : ∀ d : Nat, d < 16 → 0 ≤ hx d ∧ hx d ≤ 255 := by decide +kernel
theorem tbl_u8 : ∀ n : Nat, n < 256 → ∀ x ∈ tbl n, 0 ≤ x ∧ x ≤ 255 := by decide +kernel
theorem first_l (s : ByteArray) (h0 : byteAt s 0 = 92) (n m : Nat) (hn : n < 256) :
    bosketref03_Read_l1 2000 s (m + 1) (n : Int) = if hit2 s n = true then some ((n : Int), 2, true) else if hit4 s n = true then some ((n : Int), 4, true) else bosketref03_Read_l1 2000 s m ((n + 1 : Nat) : Int) := by
  have lt : (n : Int) < 256 := by omega
  obtain ⟨g1, g2, g3, g4, g5⟩ := hex_eq n hn
  have hw : w64 ((n : Int) + 1) = ((n + 1 : Nat) : Int) := by rw [w64_id (by omega) (by omega)]; omega
  rw [bosketref03_Read_l1.eq_2, if_pos lt, tbl_eq n hn, Option.bind_some]
  have e2 : (if ((strOfNums (tbl n)).size : Int) = (2 : Int) then if 0 ≤ (1 : Int) ∧ (1 : Int) < ((strOfNums (tbl n)).size : Int) then if (byteAt (strOfNums (tbl n)) (1 : Int)) ≠ (92 : Int) then if (1 : Int) < (s.size : Int) then if 0 ≤ (0 : Int) ∧ (0 : Int) ≤ (2 : Int) ∧ (2 : Int) ≤ (s.size : Int) then some (decide ((s.extract (0 : Int).toNat (2 : Int).toNat) = strOfNums (tbl n)))
    else none
    else some (false)
    else some (false)
    else none
    else some (false)) = some (hit2 s n) := by
    by_cases a : ((strOfNums (tbl n)).size : Int) = 2
    · rw [if_pos a, if_pos ⟨by omega, by omega⟩]
      by_cases b : byteAt (strOfNums (tbl n)) 1 ≠ 92
      · rw [if_pos b]
        have h3 := tbl_two n hn (by omega) b
        by_cases c : (1 : Int) < (s.size : Int)
        · rw [if_pos c, if_pos ⟨by omega, by omega, by omega⟩]
          have hx := extract_bytes s 2 (by omega)
          have hr : (List.range 2).map (fun i : Nat => byteAt s (i : Int)) = [92, byteAt s 1] := by
            show [byteAt s ((0 : Nat) : Int), byteAt s ((1 : Nat) : Int)] = _
            simp [h0]
          rw [hr] at hx
          have hx' : s.extract (0 : Int).toNat (2 : Int).toNat = strOfNums [92, byteAt s 1] := hx
          have hu := byteAt_u8 s 1
          have c' : 1 < s.size := by omega
          rw [hx']
          congr 1
          have inj : strOfNums [92, byteAt s 1] = strOfNums (tbl n) ↔ [92, byteAt s 1] = tbl n := ⟨strOf_inj (by simp; omega) (tbl_u8 n hn), fun h => by rw [h]⟩
          simp only [inj]
          rcases h3 with rfl | rfl | rfl
          · simp [hit2, c', tbl]
          · simp [hit2, c', tbl]
          · simp [hit2, c', tbl]
        · have c' : ¬ 1 < s.size := by omega
          rw [if_neg c]; simp [hit2, c']
      · rw [if_neg b]
        have : ¬ (n = 10 ∨ n = 9 ∨ n = 13) := by
          rintro (rfl | rfl | rfl) <;> exact b (by decide)
        simp [hit2]; omega
    · rw [if_neg a]
      have : ¬ (n = 10 ∨ n = 9 ∨ n = 13) := by
        rintro (rfl | rfl | rfl) <;> exact a (by decide)
      simp [hit2]; omega
  rw [e2, Option.bind_some, w8_nat n hn]
  by_cases a : hit2 s n = true
  · rw [if_pos a, if_pos a]
  · rw [if_neg a, if_neg a, if_pos g1, if_pos g2, if_pos g3, if_pos g4, g5]
    have e4 : (if (3 : Int) < (s.size : Int) then if 0 ≤ (0 : Int) ∧ (0 : Int) ≤ (4 : Int) ∧ (4 : Int) ≤ (s.size : Int) then some (decide ((s.extract (0 : Int).toNat (4 : Int).toNat) = strOfNums [92, 120, hx (n / 16), hx (n % 16)]))
      else none
      else some (false)) = some (hit4 s n) := by
      by_cases c : (3 : Int) < (s.size : Int)
      · rw [if_pos c, if_pos ⟨by omega, by omega, by omega⟩]
        have hx' := extract_bytes s 4 (by omega)
        have hr : (List.range 4).map (fun i : Nat => byteAt s (i : Int)) = [92, byteAt s 1, byteAt s 2, byteAt s 3] := by
          show [byteAt s ((0 : Nat) : Int), byteAt s ((1 : Nat) : Int), byteAt s ((2 : Nat) : Int), byteAt s ((3 : Nat) : Int)] = _
          simp [h0]
        rw [hr] at hx'
        have hx'' : s.extract (0 : Int).toNat (4 : Int).toNat = strOfNums [92, byteAt s 1, byteAt s 2, byteAt s 3] := hx'
        have u1 := byteAt_u8 s 1
        have u2 := byteAt_u8 s 2
        have u3 := byteAt_u8 s 3
        have v1 := hx_u8 (n / 16) (by omega)
        have v2 := hx_u8 (n % 16) (by omega)
        have inj : strOfNums [92, byteAt s 1, byteAt s 2, byteAt s 3] = strOfNums [92, 120, hx (n / 16), hx (n % 16)] ↔ [92, byteAt s 1, byteAt s 2, byteAt s 3] = [92, 120, hx (n / 16), hx (n % 16)] := ⟨strOf_inj (by simp; omega) (by simp; omega), fun h => by rw [h]⟩
        have c' : 3 < s.size := by omega
        rw [hx'']
        simp only [inj]
        simp [hit4, c']
      · have c' : ¬ 3 < s.size := by omega
        rw [if_neg c]; simp [hit4, c']
    rw [e4, Option.bind_some, hw]


theorem none_l (s : ByteArray) (h0 : byteAt s 0 = 92) (hno : ∀ j : Nat, j < 256 → hit2 s j = false ∧ hit4 s j = false) : ∀ (m i : Nat), i ≤ 256 → 256 - i < m → bosketref03_Read_l1 2000 s m (i : Int) = bosketref03_Read_c0 2000 s
  | 0, i, _, h => by omega
  | m + 1, i, hi, h => by
    by_cases a : i < 256
    · obtain ⟨k1, k2⟩ := hno i a
      rw [first_l s h0 i m a, k1, k2]
      simp only [Bool.false_eq_true, if_false]
      exact none_l s h0 hno m (i + 1) (by omega) (by omega)
    · rw [bosketref03_Read_l1.eq_2, if_neg (by omega)]
theorem one_l (s : ByteArray) (h0 : byteAt s 0 = 92) (u : Nat) (hu : u < 256) (hit : hit2 s u = true ∨ hit4 s u = true) (hno : ∀ j : Nat, j < u → hit2 s j = false ∧ hit4 s j = false) : ∀ (m i : Nat), i ≤ u → u - i < m →
    bosketref03_Read_l1 2000 s m (i : Int) = some ((u : Int), if hit2 s u = true then 2 else 4, true)
  | 0, i, _, h => by omega
  | m + 1, i, hi, h => by
    rw [first_l s h0 i m (by omega)]
    by_cases a : i = u
    · subst a
      by_cases b : hit2 s i = true
      · rw [if_pos b, if_pos b]
      · rw [if_neg b, if_neg b, if_pos (hit.resolve_left b)]
    · obtain ⟨k1, k2⟩ := hno i (by omega)
      rw [k1, k2]
      simp only [Bool.false_eq_true, if_false]
      exact one_l s h0 u hu hit hno m (i + 1) (by omega) (by omega)


/-- The value of a hexadecimal digit. -/
def hv (b : Nat) : Int := if 48 ≤ b ∧ b ≤ 57 then (b : Int) - 48 else if 97 ≤ b ∧ b ≤ 102 then (b : Int) - 87 else -1
theorem value_eq : ∀ b : Nat, b < 256 → escape_value 2000 (b : Int) = some (hv b) := by decide +kernel
theorem hv_hx : ∀ b : Nat, b < 256 → 0 ≤ hv b → (hv b).toNat < 16 ∧ hx (hv b).toNat = b := by decide +kernel
theorem hx_hv : ∀ d : Nat, d < 16 → hv (hx d).toNat = d ∧ 0 ≤ hx d ∧ hx d < 256 := by decide +kernel
theorem word_eq : ∀ b : Nat, b < 256 → bosketref03_word 2000 (b : Int) = some (decide ((48 ≤ b ∧ b ≤ 57) ∨ (97 ≤ b ∧ b ≤ 122) ∨ (65 ≤ b ∧ b ≤ 90))) := by decide +kernel
theorem or_eq : ∀ a : Nat, a < 16 → ∀ b : Nat, b < 16 → w8 (bits .or .i64 (IntKind.i64.wrap ((a : Int) * 2 ^ (min (4 : Int).toNat IntKind.i64.bits))) (b : Int)) = ((16 * a + b : Nat) : Int) := by decide +kernel


theorem nohit (s : ByteArray) (h : ¬ byteAt s 1 = 110 ∧ ¬ byteAt s 1 = 116 ∧ ¬ byteAt s 1 = 114 ∧ ¬ byteAt s 1 = 120) (j : Nat) : hit2 s j = false ∧ hit4 s j = false := by
  obtain ⟨a, b, c, d⟩ := h
  simp [hit2, hit4, a, b, c, d]
theorem short_eq (s : ByteArray) (h0 : byteAt s 0 = 92) (hz : s.size = 1) : bosketref03_Read_l1 2000 s 2000 0 = some (0, 0, false) := by
  have := none_l s h0 (fun j _ => by simp [hit2, hit4, hz]) 2000 0 (by omega) (by omega)
  rw [show ((0 : Nat) : Int) = 0 from rfl] at this
  rw [this, bosketref03_Read_c0, if_neg (by omega), Option.bind_some, if_neg (by simp)]
theorem c0_eq (s : ByteArray) (hz : 1 < s.size) : bosketref03_Read_c0 2000 s = escape_Read_c0 2000 s := by
  obtain ⟨b, hb⟩ : ∃ b : Nat, byteAt s 1 = b := ⟨(byteAt s 1).toNat, by have := byteAt_u8 s 1; omega⟩
  have hlt : b < 256 := by have := byteAt_u8 s 1; omega
  have g : 0 ≤ (1 : Int) ∧ (1 : Int) < (s.size : Int) := ⟨by omega, by omega⟩
  have g1 : (1 : Int) < (s.size : Int) := by omega
  unfold bosketref03_Read_c0 escape_Read_c0
  simp only [if_pos g, if_pos g1, hb, word_eq b hlt, Option.bind_some]
  clear hb g g1 hz
  revert b
  have key : ∀ b : Nat, b < 256 → (Option.bind (α := Bool) (if (32 : Int) ≤ (b : Int) then if (b : Int) ≤ (126 : Int) then some (!(decide ((48 ≤ b ∧ b ≤ 57) ∨ (97 ≤ b ∧ b ≤ 122) ∨ (65 ≤ b ∧ b ≤ 90)))) else some false else some false) fun b6 => if b6 = true then some ((b : Int), (2 : Int), true) else some ((0 : Int), (0 : Int), false)) = (if (32 ≤ b ∧ b ≤ 126) ∧ ¬ ((48 ≤ b ∧ b ≤ 57) ∨ (97 ≤ b ∧ b ≤ 122) ∨ (65 ≤ b ∧ b ≤ 90)) then some ((b : Int), (2 : Int), true) else some ((0 : Int), (0 : Int), false)) := by decide +kernel
  intro b hlt
  decide +revert +kernel


theorem l_hit2 (s : ByteArray) (h0 : byteAt s 0 = 92) (hz : 1 < s.size) (u : Nat) (hu : (u = 10 ∧ byteAt s 1 = 110) ∨ (u = 9 ∧ byteAt s 1 = 116) ∨ (u = 13 ∧ byteAt s 1 = 114)) : bosketref03_Read_l1 2000 s 2000 0 = some ((u : Int), 2, true) := by
  have hh : hit2 s u = true := by simp [hit2, hz]; omega
  have := one_l s h0 u (by omega) (.inl hh) (fun j hj => by
    refine ⟨?_, ?_⟩
    · simp only [hit2, Bool.and_eq_false_iff, decide_eq_false_iff_not]; right; omega
    · simp only [hit4, Bool.and_eq_false_iff, decide_eq_false_iff_not]; right; omega) 2000 0 (by omega) (by omega)
  rw [if_pos hh] at this
  exact this
theorem c0_some (s : ByteArray) : ∃ t, escape_Read_c0 2000 s = some t := by
  obtain ⟨b, hb⟩ : ∃ b : Nat, byteAt s 1 = b := ⟨(byteAt s 1).toNat, by have := byteAt_u8 s 1; omega⟩
  have hlt : b < 256 := by have := byteAt_u8 s 1; omega
  apply Option.isSome_iff_exists.1
  unfold escape_Read_c0
  simp only [hb]
  clear hb
  revert b
  decide +kernel
theorem hex_none (s : ByteArray) (h0 : byteAt s 0 = 92) (c4 : byteAt s 1 = 120) (hz : 1 < s.size) (hno : ∀ j : Nat, j < 256 → hit4 s j = false) : bosketref03_Read_l1 2000 s 2000 0 = some (0, 0, false) := by
  have hn := none_l s h0 (fun j hj => ⟨by simp [hit2, c4], hno j hj⟩) 2000 0 (by omega) (by omega)
  rw [show ((0 : Nat) : Int) = 0 from rfl] at hn
  rw [hn, c0_eq s hz]
  unfold escape_Read_c0; simp only [c4]; rfl
theorem hex_case (s : ByteArray) (h0 : byteAt s 0 = 92) (c4 : byteAt s 1 = 120) (hz : 1 < s.size) : ∃ t, escape_Read_c2 2000 s = some t ∧ bosketref03_Read_l1 2000 s 2000 0 = some t := by
  obtain ⟨b, hb⟩ : ∃ b : Nat, byteAt s 2 = b := ⟨(byteAt s 2).toNat, by have := byteAt_u8 s 2; omega⟩
  have hbl : b < 256 := by have := byteAt_u8 s 2; omega
  obtain ⟨d, hd⟩ : ∃ d : Nat, byteAt s 3 = d := ⟨(byteAt s 3).toNat, by have := byteAt_u8 s 3; omega⟩
  have hdl : d < 256 := by have := byteAt_u8 s 3; omega
  unfold escape_Read_c2
  by_cases z : (4 : Int) ≤ (s.size : Int)
  · have g2 : 0 ≤ (2 : Int) ∧ (2 : Int) < (s.size : Int) := ⟨by omega, by omega⟩
    have g3 : 0 ≤ (3 : Int) ∧ (3 : Int) < (s.size : Int) := ⟨by omega, by omega⟩
    have z' : 3 < s.size := by omega
    simp only [if_pos z, if_pos g2, if_pos g3, hb, hd, value_eq b hbl, value_eq d hdl, Option.bind_some]
    have miss : (¬ 0 ≤ hv b ∨ ¬ 0 ≤ hv d) → ∀ j : Nat, j < 256 → hit4 s j = false := by
      intro hm j hj
      simp only [hit4, hb, hd, Bool.and_eq_false_iff, decide_eq_false_iff_not]
      right
      rintro ⟨_, k1, k2⟩
      have q1 := hx_hv (j / 16) (by omega)
      have q2 := hx_hv (j % 16) (by omega)
      rw [← k1] at q1; rw [← k2] at q2
      simp only [Int.toNat_natCast] at q1 q2
      omega
    by_cases v : 0 ≤ hv b
    · simp only [if_pos v, Option.bind_some]
      by_cases w : 0 ≤ hv d
      · rw [if_pos (by simpa using w)]
        obtain ⟨p1, p2⟩ := hv_hx b hbl v
        obtain ⟨p3, p4⟩ := hv_hx d hdl w
        obtain ⟨x, hx'⟩ : ∃ x : Nat, hv b = x := ⟨(hv b).toNat, by omega⟩
        obtain ⟨y, hy⟩ : ∃ y : Nat, hv d = y := ⟨(hv d).toNat, by omega⟩
        rw [hx'] at p1 p2 ⊢; rw [hy] at p3 p4 ⊢
        simp only [Int.toNat_natCast] at p1 p2 p3 p4
        refine ⟨_, rfl, ?_⟩
        rw [or_eq x p1 y p3]
        have e1 : (16 * x + y) / 16 = x := by omega
        have e2 : (16 * x + y) % 16 = y := by omega
        have n2 : hit2 s (16 * x + y) = false := by simp [hit2, c4]
        have h4 : hit4 s (16 * x + y) = true := by simp [hit4, z', c4, hb, hd, e1, e2, p2, p4]
        have := one_l s h0 (16 * x + y) (by omega) (.inr h4) (fun j hj => ⟨by simp [hit2, c4], by
          simp only [hit4, hb, hd, Bool.and_eq_false_iff, decide_eq_false_iff_not]
          right
          rintro ⟨_, k1, k2⟩
          have q1 := (hx_hv (j / 16) (by omega)).1
          have q2 := (hx_hv (j % 16) (by omega)).1
          rw [← k1] at q1; rw [← k2] at q2
          simp only [Int.toNat_natCast] at q1 q2
          omega⟩) 2000 0 (by omega) (by omega)
        rw [n2] at this
        exact this
      · rw [if_neg (by simpa using w)]
        exact ⟨_, rfl, hex_none s h0 c4 hz (miss (.inr w))⟩
    · simp only [if_neg v, Option.bind_some]
      rw [if_neg (by simp)]
      exact ⟨_, rfl, hex_none s h0 c4 hz (miss (.inl v))⟩
  · rw [if_neg z, Option.bind_some, if_neg (by simp)]
    exact ⟨_, rfl, hex_none s h0 c4 hz (fun j _ => by simp [hit4]; omega)⟩
theorem read_eq (s : ByteArray) (hs : s.size ≤ 1000000) : ∃ t, escape_Read 2000 s = some t ∧ bosketref03_Read 2000 s = some t := by
  unfold escape_Read bosketref03_Read
  by_cases e : s = ByteArray.mk #[]
  · rw [if_pos e, if_pos e]; exact ⟨_, rfl, rfl⟩
  have hpos : 0 < s.size := by
    rcases Nat.eq_zero_or_pos s.size with h | h
    · exact absurd (by rw [as_bytes s, h]; rfl) e
    · exact h
  have g : 0 ≤ (0 : Int) ∧ (0 : Int) < (s.size : Int) := ⟨by omega, by omega⟩
  simp only [if_neg e, if_pos g]
  by_cases a : byteAt s 0 = 92
  · simp only [a, ne_eq, not_true, if_false]
    by_cases b : (s.size : Int) < 2
    · rw [if_pos b, short_eq s a (by omega)]; exact ⟨_, rfl, rfl⟩
    · have g1 : 0 ≤ (1 : Int) ∧ (1 : Int) < (s.size : Int) := ⟨by omega, by omega⟩
      rw [if_neg b, if_pos g1]
      by_cases c1 : byteAt s 1 = 110
      · rw [if_pos c1, l_hit2 s a (by omega) 10 (by omega)]; exact ⟨_, rfl, rfl⟩
      rw [if_neg c1]
      by_cases c2 : byteAt s 1 = 116
      · rw [if_pos c2, l_hit2 s a (by omega) 9 (by omega)]; exact ⟨_, rfl, rfl⟩
      rw [if_neg c2]
      by_cases c3 : byteAt s 1 = 114
      · rw [if_pos c3, l_hit2 s a (by omega) 13 (by omega)]; exact ⟨_, rfl, rfl⟩
      rw [if_neg c3]
      by_cases c4 : byteAt s 1 = 120
      · rw [if_pos c4]
        exact hex_case s a c4 (by omega)
      · rw [if_neg c4]
        have hn := none_l s a (fun j _ => nohit s ⟨c1, c2, c3, c4⟩ j) 2000 0 (by omega) (by omega)
        rw [show ((0 : Nat) : Int) = 0 from rfl] at hn
        rw [hn, c0_eq s (by omega)]
        by_cases c5 : byteAt s 1 = 0
        · rw [if_pos c5]; exact ⟨_, rfl, by unfold escape_Read_c0; simp only [c5]; rfl⟩
        · rw [if_neg c5]
          obtain ⟨t, ht⟩ := c0_some s
          exact ⟨t, ht, ht⟩
  · rw [if_pos a, if_pos a]; exact ⟨_, rfl, rfl⟩


/-- Signs that stand for themselves behind a backslash. -/
def sign (c : Int) : Prop := 32 ≤ c ∧ c ≤ 126 ∧ ¬(48 ≤ c ∧ c ≤ 57) ∧ ¬(97 ≤ c ∧ c ≤ 122) ∧ ¬(65 ≤ c ∧ c ≤ 90)
instance (c : Int) : Decidable (sign c) := by unfold sign; infer_instance
theorem ne_nil {s : ByteArray} (h : 0 < s.size) : ¬ s = ByteArray.mk #[] := by
  intro e; subst e; exact absurd h (by decide)
theorem read_1 (s : ByteArray) (h : 0 < s.size) (a : byteAt s 0 ≠ 92) : escape_Read 2000 s = some (byteAt s 0, 1, true) := by
  have g : 0 ≤ (0 : Int) ∧ (0 : Int) < (s.size : Int) := ⟨by omega, by omega⟩
  unfold escape_Read
  simp only [if_neg (ne_nil h), if_pos g, if_pos a]
theorem read_2 (s : ByteArray) (h : 1 < s.size) (a : byteAt s 0 = 92) (n : Nat) (hn : (n = 10 ∧ byteAt s 1 = 110) ∨ (n = 9 ∧ byteAt s 1 = 116) ∨ (n = 13 ∧ byteAt s 1 = 114)) : escape_Read 2000 s = some ((n : Int), 2, true) := by
  have g : 0 ≤ (0 : Int) ∧ (0 : Int) < (s.size : Int) := ⟨by omega, by omega⟩
  have g1 : 0 ≤ (1 : Int) ∧ (1 : Int) < (s.size : Int) := ⟨by omega, by omega⟩
  have b : ¬ (s.size : Int) < 2 := by omega
  unfold escape_Read
  simp only [if_neg (ne_nil (show 0 < s.size by omega)), if_pos g, a, ne_eq, not_true, if_false, if_neg b, if_pos g1]
  rcases hn with ⟨rfl, e⟩ | ⟨rfl, e⟩ | ⟨rfl, e⟩ <;> (simp [e]; rfl)
theorem read_s (s : ByteArray) (h : 1 < s.size) (a : byteAt s 0 = 92) (n : Nat) (hn : sign n) (e : byteAt s 1 = n) : escape_Read 2000 s = some ((n : Int), 2, true) := by
  have g : 0 ≤ (0 : Int) ∧ (0 : Int) < (s.size : Int) := ⟨by omega, by omega⟩
  have g1 : 0 ≤ (1 : Int) ∧ (1 : Int) < (s.size : Int) := ⟨by omega, by omega⟩
  have b : ¬ (s.size : Int) < 2 := by omega
  have hlt : n < 127 := by have := hn.2.1; omega
  have hh := hn
  obtain ⟨n1, n2, n3, n4, n5⟩ := hh
  have c1 : ¬ (n : Int) = 110 := by omega
  have c2 : ¬ (n : Int) = 116 := by omega
  have c3 : ¬ (n : Int) = 114 := by omega
  have c4 : ¬ (n : Int) = 120 := by omega
  have c5 : ¬ (n : Int) = 0 := by omega
  unfold escape_Read
  simp only [if_neg (ne_nil (show 0 < s.size by omega)), if_pos g, a, ne_eq, not_true, if_false, if_neg b, if_pos g1, e, if_neg c1, if_neg c2, if_neg c3, if_neg c4, if_neg c5]
  unfold escape_Read_c0
  simp only [e]
  clear e a g g1 b h n1 n2 n3 n4 n5 c1 c2 c3 c4 c5
  revert hn
  revert hlt
  revert n
  decide +kernel
theorem read_x (s : ByteArray) (h : 3 < s.size) (a : byteAt s 0 = 92) (n : Nat) (hn : n < 256) (e1 : byteAt s 1 = 120) (e2 : byteAt s 2 = hx (n / 16)) (e3 : byteAt s 3 = hx (n % 16)) : escape_Read 2000 s = some ((n : Int), 4, true) := by
  have g : 0 ≤ (0 : Int) ∧ (0 : Int) < (s.size : Int) := ⟨by omega, by omega⟩
  have g1 : 0 ≤ (1 : Int) ∧ (1 : Int) < (s.size : Int) := ⟨by omega, by omega⟩
  have g2 : 0 ≤ (2 : Int) ∧ (2 : Int) < (s.size : Int) := ⟨by omega, by omega⟩
  have g3 : 0 ≤ (3 : Int) ∧ (3 : Int) < (s.size : Int) := ⟨by omega, by omega⟩
  have b : ¬ (s.size : Int) < 2 := by omega
  have z : (4 : Int) ≤ (s.size : Int) := by omega
  unfold escape_Read
  simp only [if_neg (ne_nil (show 0 < s.size by omega)), if_pos g, a, ne_eq, not_true, if_false, if_neg b, if_pos g1, e1]
  simp only [show ¬ (120 : Int) = 110 by decide, show ¬ (120 : Int) = 116 by decide, show ¬ (120 : Int) = 114 by decide, if_false, if_true]
  unfold escape_Read_c2
  obtain ⟨x1, x2, x3⟩ := hx_hv (n / 16) (by omega)
  obtain ⟨y1, y2, y3⟩ := hx_hv (n % 16) (by omega)
  obtain ⟨b2, hb2⟩ : ∃ b : Nat, hx (n / 16) = b := ⟨(hx (n / 16)).toNat, by omega⟩
  obtain ⟨b3, hb3⟩ : ∃ b : Nat, hx (n % 16) = b := ⟨(hx (n % 16)).toNat, by omega⟩
  rw [hb2] at x1 x2 x3 e2; rw [hb3] at y1 y2 y3 e3
  simp only [Int.toNat_natCast] at x1 y1
  simp only [if_pos z, if_pos g2, if_pos g3, e2, e3, value_eq b2 (by omega), value_eq b3 (by omega), Option.bind_some, x1, y1]
  rw [if_pos (show (0 : Int) ≤ ((n / 16 : Nat) : Int) by omega), Option.bind_some, if_pos (decide_eq_true (by omega)), or_eq (n / 16) (by omega) (n % 16) (by omega)]
  have : 16 * (n / 16) + n % 16 = n := by omega
  first | rw [this] | simp [this]
theorem in_mem (k : Nat) (c : Int) (q : ByteArray) (hq : q.size ≤ 1000000) : ∀ (m i : Nat), i ≤ q.size → bosketref03_in_l1 k q c m i = some true → ∃ j : Nat, j < q.size ∧ byteAt q j = c
  | 0, i, _, h => by simp [bosketref03_in_l1] at h
  | m + 1, i, hi, h => by
    rw [bosketref03_in_l1.eq_2] at h
    by_cases a : (i : Int) < (q.size : Int)
    · have g : 0 ≤ (i : Int) ∧ (i : Int) < (q.size : Int) := ⟨by omega, a⟩
      simp only [if_pos a, if_pos g] at h
      by_cases b : byteAt q (i : Int) = c
      · exact ⟨i, by omega, b⟩
      · simp only [if_neg b, w64_id (n := (i : Int) + 1) (by omega) (by omega)] at h
        exact in_mem k c q hq m (i + 1) (by omega) (by exact_mod_cast h)
    · rw [if_neg a] at h; cases h
theorem in_not (k : Nat) (c : Int) (q : ByteArray) (hq : q.size ≤ 1000000) : ∀ (m i : Nat), i ≤ q.size → bosketref03_in_l1 k q c m i = some false → ∀ j : Nat, i ≤ j → j < q.size → byteAt q j ≠ c
  | 0, i, _, h => by simp [bosketref03_in_l1] at h
  | m + 1, i, hi, h => by
    intro j h1 h2
    rw [bosketref03_in_l1.eq_2] at h
    by_cases a : (i : Int) < (q.size : Int)
    · have g : 0 ≤ (i : Int) ∧ (i : Int) < (q.size : Int) := ⟨by omega, a⟩
      simp only [if_pos a, if_pos g] at h
      by_cases b : byteAt q (i : Int) = c
      · simp only [if_pos b] at h; cases h
      · simp only [if_neg b, w64_id (n := (i : Int) + 1) (by omega) (by omega)] at h
        rcases Nat.eq_or_lt_of_le h1 with e | e
        · subst e; exact b
        · exact in_not k c q hq m (i + 1) (by omega) (by exact_mod_cast h) j (by omega) h2
    · omega
theorem tbl_ok : ∀ n : Nat, n < 256 → (∀ x ∈ tbl n, 0 ≤ x ∧ x ≤ 255) := by decide +kernel
theorem byte_back (n : Nat) (hn : n < 256) (q : ByteArray) (hq : q.size ≤ 1000) (hs : ∀ j : Nat, j < q.size → sign (byteAt q j)) : ∃ t, escape_Byte 2000 n q = some t ∧ bosketref03_Byte 2000 n q = some t ∧ t.size ≤ 4 ∧ 0 < t.size ∧ (byteAt t 0 = 92 ∨ (byteAt t 0 = n ∧ ¬ special n ∧ ∀ j : Nat, j < q.size → byteAt q j ≠ n)) ∧ ∀ p, escape_Read 2000 (t ++ p) = some ((n : Int), (t.size : Int), true) := by
  obtain ⟨t, t1, t2, t3, t4⟩ := byte_eq (k := 2000) (by omega) n (by omega) (by omega) q hq
  refine ⟨t, t1, t2, ?_⟩
  have app : ∀ (l : List Int) (hl : ∀ x ∈ l, 0 ≤ x ∧ x ≤ 255) (p : ByteArray) (j : Nat) (hj : j < l.length), byteAt (strOfNums l ++ p) (j : Int) = l[j] := by
    intro l hl p j hj
    rw [byteAt_app _ _ j (by rw [strOfNums_size]; exact hj), byteAt_strOf l hl j hj]
  by_cases h : special n
  · have e : t = strOfNums (tbl n) := by
      have z := tbl_eq n hn
      rw [w8_nat n hn, rbyte_special h, ← (special_all n hn h).2, t3 h] at z
      exact Option.some.inj z
    subst e
    have ok := tbl_ok n hn
    have app' := app (tbl n) ok
    have hd : ∀ j (hj : j < (tbl n).length), byteAt (strOfNums (tbl n)) (j : Int) = (tbl n)[j] := fun j hj => byteAt_strOf _ ok j hj
    have hz : (strOfNums (tbl n)).size = (tbl n).length := strOfNums_size _
    have key : ∀ l, tbl n = l → (l = [92, 110] ∧ n = 10) ∨ (l = [92, 116] ∧ n = 9) ∨ (l = [92, 114] ∧ n = 13) ∨ (l = [92, 120, hx (n / 16), hx (n % 16)]) ∨ (l = [92, 92] ∧ n = 92) := by
      intro l e
      unfold tbl at e
      unfold special at h
      by_cases a : n = 10
      · simp [a] at e; simp [a, ← e]
      by_cases b : n = 9
      · simp [b] at e; simp [b, ← e]
      by_cases c : n = 13
      · simp [c] at e; simp [c, ← e]
      simp only [if_neg a, if_neg b, if_neg c] at e
      by_cases d : n < 32 ∨ 126 < n
      · rw [if_pos d] at e; simp [← e]
      · rw [if_neg d] at e
        have : n = 92 := by omega
        simp [this] at e; simp [this, ← e]
    rcases key _ rfl with ⟨e, e2⟩ | ⟨e, e2⟩ | ⟨e, e2⟩ | e | ⟨e, e2⟩
    all_goals
      rw [e] at hz hd app' ⊢
      simp only [List.length_cons, List.length_nil, Nat.zero_add, Nat.reduceAdd] at hz hd app'
      rw [hz]
      refine ⟨by omega, by omega, .inl (hd 0 (by omega)), fun p => ?_⟩
    · exact read_2 _ (by rw [ByteArray.size_append]; omega) (app' p 0 (by omega)) n (.inl ⟨e2, app' p 1 (by omega)⟩)
    · exact read_2 _ (by rw [ByteArray.size_append]; omega) (app' p 0 (by omega)) n (.inr (.inl ⟨e2, app' p 1 (by omega)⟩))
    · exact read_2 _ (by rw [ByteArray.size_append]; omega) (app' p 0 (by omega)) n (.inr (.inr ⟨e2, app' p 1 (by omega)⟩))
    · exact read_x _ (by rw [ByteArray.size_append]; omega) (app' p 0 (by omega)) n hn (app' p 1 (by omega)) (app' p 2 (by omega)) (app' p 3 (by omega))
    · exact read_s _ (by rw [ByteArray.size_append]; omega) (app' p 0 (by omega)) n (by subst e2; decide) (by subst e2; exact app' p 1 (by omega))
  · obtain ⟨r, r1, r2⟩ := plain_l 2000 n q (by omega) 2000 0 (by omega) (by omega)
    have hsp := h
    unfold special at hsp
    have a : ¬ (n : Int) = 10 := by omega
    have b : ¬ (n : Int) = 9 := by omega
    have d : ¬ (n : Int) = 13 := by omega
    have e : ¬ (n : Int) < 32 := by omega
    have f : ¬ (126 : Int) < (n : Int) := by omega
    have g : ¬ (n : Int) = 92 := by omega
    have r2' : escape_Byte 2000 n q = escape_Byte_l1 2000 n q 2000 0 := by
      unfold escape_Byte escape_letter
      simp only [if_neg a, if_neg b, if_neg d, if_neg e, if_neg g, Option.bind_some, ne_eq, not_true, if_false, decide_eq_false f]
      rfl
    rw [r2', show (0 : Int) = ((0 : Nat) : Int) from rfl, r2] at t1
    have t1 := Option.some.inj t1
    cases r
    · simp only [if_neg (show ¬ (false = true) by decide)] at t1
      subst t1
      have ok : ∀ x ∈ [(n : Int)], 0 ≤ x ∧ x ≤ 255 := by simp; omega
      have hz : (strOfNums [(n : Int)]).size = 1 := strOfNums_size _
      have h1 := byteAt_strOf [(n : Int)] ok 0 (by simp)
      refine ⟨by omega, by omega, .inr ⟨h1, h, fun j hj => in_not 2000 n q (by omega) 2000 0 (by omega) r1 j (by omega) hj⟩, fun p => ?_⟩
      have h2 := app [(n : Int)] ok p 0 (by simp)
      rw [read_1 _ (by rw [ByteArray.size_append]; omega) (by rw [show (0 : Int) = ((0 : Nat) : Int) from rfl, h2]; exact g)]
      rw [show (0 : Int) = ((0 : Nat) : Int) from rfl, h2, hz]; rfl
    · simp only [if_true] at t1
      subst t1
      have ok : ∀ x ∈ [(92 : Int), (n : Int)], 0 ≤ x ∧ x ≤ 255 := by simp; omega
      have hz : (strOfNums [(92 : Int), (n : Int)]).size = 2 := strOfNums_size _
      obtain ⟨j, j1, j2⟩ := in_mem 2000 n q (by omega) 2000 0 (by omega) r1
      have hsg := hs j j1
      rw [j2] at hsg
      refine ⟨by omega, by omega, .inl (byteAt_strOf [(92 : Int), (n : Int)] ok 0 (by simp)), fun p => ?_⟩
      rw [hz]
      exact read_s _ (by rw [ByteArray.size_append]; omega) (app _ ok p 0 (by simp)) n hsg (app _ ok p 1 (by simp))


/-- What a byte is written as, between such quotes. -/
def bt (q : Int) (n : Int) : ByteArray := (escape_Byte 2000 n (strOfNums [q])).getD (ByteArray.mk #[])
def catn (q : Int) (s : ByteArray) : Nat → Nat → ByteArray
  | _, 0 => ByteArray.mk #[]
  | i, m + 1 => bt q (byteAt s i) ++ catn q s (i + 1) m
def lst (s : ByteArray) : Nat → Nat → List Int
  | _, 0 => []
  | i, m + 1 => byteAt s i :: lst s (i + 1) m
def quo (q : Int) : Prop := sign q ∧ q ≠ 92
theorem bt_ok {q : Int} (hq : quo q) (n : Int) (h0 : 0 ≤ n) (h1 : n ≤ 255) : escape_Byte 2000 n (strOfNums [q]) = some (bt q n) ∧ bosketref03_Byte 2000 n (strOfNums [q]) = some (bt q n) ∧ (bt q n).size ≤ 4 ∧ 0 < (bt q n).size ∧ byteAt (bt q n) 0 ≠ q ∧ byteAt (bt q n) 0 ≠ 10 ∧ ∀ p, escape_Read 2000 (bt q n ++ p) = some (n, ((bt q n).size : Int), true) := by
  obtain ⟨k, rfl⟩ : ∃ k : Nat, n = k := ⟨n.toNat, by omega⟩
  have qr : 0 ≤ q ∧ q ≤ 255 := by have := hq.1; unfold sign at this; omega
  have hz : (strOfNums [q]).size = 1 := strOfNums_size _
  have hb := byteAt_strOf [q] (by simp; omega) 0 (by simp)
  have hb' : byteAt (strOfNums [q]) ((0 : Nat) : Int) = q := hb
  obtain ⟨t, t1, t2, t3, t4, t5, t6⟩ := byte_back k (by omega) (strOfNums [q]) (by omega) (fun j hj => by
    have : j = 0 := by omega
    subst this; rw [hb']; exact hq.1)
  have e : bt q k = t := by unfold bt; rw [t1]; rfl
  rw [e]
  refine ⟨t1, t2, t3, t4, ?_, ?_, t6⟩
  · rcases t5 with h | ⟨h, h', h''⟩
    · rw [h]; exact fun e => hq.2 e.symm
    · rw [h]; have := h'' 0 (by omega); rw [hb'] at this; exact fun e => this e.symm
  · rcases t5 with h | ⟨h, h', _⟩
    · rw [h]; decide
    · rw [h]; unfold special at h'; omega
theorem catn_size {q : Int} (hq : quo q) (s : ByteArray) : ∀ (m i : Nat), (catn q s i m).size ≤ 4 * m
  | 0, i => by rw [catn, emp_size]; omega
  | m + 1, i => by
    have := catn_size hq s m (i + 1)
    have h := byteAt_u8 s i
    obtain ⟨_, _, h3, _⟩ := bt_ok hq (byteAt s i) h.1 h.2
    rw [catn, ByteArray.size_append]; omega
theorem quote_l {q : Int} (hq : quo q) (s : ByteArray) (hs : s.size ≤ 1000) : ∀ (m i fuel : Nat) (acc : ByteArray), i + m = s.size → m < fuel → acc.size + 4 * m ≤ 100000 →
    escape_Quote_l1 2000 s q fuel acc i = some (acc ++ catn q s i m ++ strOfNums [q]) ∧ bosketref03_Quote_l1 2000 s q fuel acc i = some (acc ++ catn q s i m ++ strOfNums [q])
  | 0, i, f + 1, acc, h, _, hz => by
    have hz1 : (strOfNums [q]).size = 1 := strOfNums_size _
    have h1 : ¬ ((i : Int) < (s.size : Int)) := by omega
    have e : acc ++ catn q s i 0 = acc := by apply ByteArray.ext; apply Array.ext'; simp [catn]
    rw [e, escape_Quote_l1.eq_2, bosketref03_Quote_l1.eq_2, if_neg h1, if_neg h1, escape_Quote_c0, bosketref03_Quote_c0, if_pos (by omega)]
    exact ⟨rfl, rfl⟩
  | m + 1, i, f + 1, acc, h, hf, hz => by
    have h1 : (i : Int) < (s.size : Int) := by omega
    have g : 0 ≤ (i : Int) ∧ (i : Int) < (s.size : Int) := ⟨by omega, h1⟩
    have hb := byteAt_u8 s i
    obtain ⟨b1, b2, b3, _⟩ := bt_ok hq (byteAt s i) hb.1 hb.2
    have ih := quote_l hq s hs m (i + 1) f (acc ++ bt q (byteAt s i)) (by omega) (by omega) (by rw [ByteArray.size_append]; omega)
    rw [escape_Quote_l1.eq_2, bosketref03_Quote_l1.eq_2, if_pos h1, if_pos h1, if_pos g, if_pos g, b1, b2, Option.bind_some, Option.bind_some, if_pos (by omega), if_pos (by omega), w64_id (n := (i : Int) + 1) (by omega) (by omega)]
    have e : acc ++ catn q s i (m + 1) = acc ++ bt q (byteAt s i) ++ catn q s (i + 1) m := by rw [catn, app_assoc]
    rw [e]
    exact_mod_cast ih
theorem lst_range (s : ByteArray) : ∀ (m i : Nat), lst s i m = (List.range m).map fun j : Nat => byteAt s ((i + j : Nat) : Int)
  | 0, i => rfl
  | m + 1, i => by
    rw [lst, lst_range s m (i + 1), List.range_succ_eq_map, List.map_cons, List.map_map]
    congr 1
    apply List.map_congr_left
    intro j _
    show byteAt s _ = byteAt s _
    congr 2; simp; omega
theorem lst_all (s : ByteArray) : strOfNums (lst s 0 s.size) = s := by
  rw [lst_range, as_bytes s]
  conv => rhs; rw [as_bytes s]
  rw [← as_bytes s]
  congr 1
  apply List.map_congr_left
  intro j _
  simp
theorem unquote_l {q : Int} (hq : quo q) (s t : ByteArray) (hs : s.size ≤ 1000) (ht : t.size ≤ 1000000) : ∀ (m i fuel : Nat) (a : ByteArray) (acc : List Int), i + m = s.size → m < fuel → a.size + 4 * m ≤ 100000 → acc.length + m ≤ 100000 →
    escape_Unquote_l1 2000 (a ++ (catn q s i m ++ (strOfNums [q] ++ t))) q fuel acc a.size = some (strOfNums (acc ++ lst s i m), ((a.size + (catn q s i m).size + 1 : Nat) : Int), true)
  | 0, i, f + 1, a, acc, h, _, hz, hl => by
    have qr : 0 ≤ q ∧ q ≤ 255 := by have := hq.1; unfold sign at this; omega
    have hz1 : (strOfNums [q]).size = 1 := strOfNums_size _
    have e : catn q s i 0 ++ (strOfNums [q] ++ t) = strOfNums [q] ++ t := by apply ByteArray.ext; apply Array.ext'; simp [catn]
    rw [e, escape_Unquote_l1.eq_2]
    have h1 : (a.size : Int) < ((a ++ (strOfNums [q] ++ t)).size : Int) := by rw [ByteArray.size_append, ByteArray.size_append]; omega
    have g : 0 ≤ (a.size : Int) ∧ (a.size : Int) < ((a ++ (strOfNums [q] ++ t)).size : Int) := ⟨by omega, h1⟩
    have hb : byteAt (a ++ (strOfNums [q] ++ t)) (a.size : Int) = q := by
      have := byteAt_right a (strOfNums [q] ++ t) 0 (by rw [ByteArray.size_append]; omega)
      rw [Nat.add_zero] at this
      rw [this, byteAt_app _ _ 0 (by omega), byteAt_strOf [q] (by simp; omega) 0 (by simp)]; rfl
    rw [if_pos h1, if_pos g, if_pos hb, w64_id (by omega) (by omega)]
    simp [catn, lst, emp_size]
  | m + 1, i, f + 1, a, acc, h, hf, hz, hl => by
    have hb := byteAt_u8 s i
    obtain ⟨b1, b2, b3, b4, b5, b6, b7⟩ := bt_ok hq (byteAt s i) hb.1 hb.2
    generalize hR : catn q s (i + 1) m ++ (strOfNums [q] ++ t) = R
    have eS : a ++ (catn q s i (m + 1) ++ (strOfNums [q] ++ t)) = a ++ (bt q (byteAt s i) ++ R) := by rw [catn, app_assoc (bt q (byteAt s i)), hR]
    rw [eS, escape_Unquote_l1.eq_2]
    have sz : (a ++ (bt q (byteAt s i) ++ R)).size = a.size + ((bt q (byteAt s i)).size + R.size) := by rw [ByteArray.size_append, ByteArray.size_append]
    have h1 : (a.size : Int) < ((a ++ (bt q (byteAt s i) ++ R)).size : Int) := by omega
    have g : 0 ≤ (a.size : Int) ∧ (a.size : Int) < ((a ++ (bt q (byteAt s i) ++ R)).size : Int) := ⟨by omega, h1⟩
    have hd : byteAt (a ++ (bt q (byteAt s i) ++ R)) (a.size : Int) = byteAt (bt q (byteAt s i)) 0 := by
      have := byteAt_right a (bt q (byteAt s i) ++ R) 0 (by rw [ByteArray.size_append]; omega)
      rw [Nat.add_zero] at this
      rw [this, byteAt_app _ _ 0 (by omega)]; rfl
    have ex : (a ++ (bt q (byteAt s i) ++ R)).extract (a.size : Int).toNat (((a ++ (bt q (byteAt s i) ++ R)).size : Nat) : Int).toNat = bt q (byteAt s i) ++ R := by
      rw [Int.toNat_natCast, Int.toNat_natCast]; exact extract_right _ _
    rw [if_pos h1, if_pos g, if_neg (by rw [hd]; exact b5), if_pos ⟨by omega, by omega, by omega⟩, ex, b7, Option.bind_some]
    dsimp only
    rw [if_neg (by simp), if_pos g, hd, Option.bind_some, if_neg (by simpa using b6), if_pos (by simp; omega), w64_id (by omega) (by omega)]
    have ih := unquote_l hq s t hs ht m (i + 1) f (a ++ bt q (byteAt s i)) (acc ++ [byteAt s i]) (by omega) (by omega) (by rw [ByteArray.size_append]; omega) (by simp; omega)
    rw [app_assoc, hR, ByteArray.size_append] at ih
    push_cast at ih ⊢
    rw [ih]
    simp only [Option.some.injEq, Prod.mk.injEq, and_true]
    refine ⟨by rw [lst]; simp, ?_⟩
    rw [catn, ByteArray.size_append]; push_cast; omega
def OKT (o : Option (Int × Int × Bool)) : Prop := ∀ t, o = some t → t.2.2 = true → t.2.1 = 1 ∨ t.2.1 = 2 ∨ t.2.1 = 4
theorem okt_none : OKT none := fun t h => by cases h
theorem okt_ite {p : Prop} [Decidable p] {a b : Option (Int × Int × Bool)} (ha : OKT a) (hb : OKT b) : OKT (if p then a else b) := by split <;> assumption
theorem okt_bind {α : Type} {o : Option α} {f : α → Option (Int × Int × Bool)} (h : ∀ x, OKT (f x)) : OKT (o.bind f) := fun t e => by
  obtain ⟨x, _, e⟩ := Option.bind_eq_some_iff.1 e
  exact h x t e
theorem okt_false {x n : Int} : OKT (some (x, n, false)) := fun t h ok => by cases h; cases ok
theorem okt_1 {x : Int} : OKT (some (x, 1, true)) := fun t h ok => by cases h; simp
theorem okt_2 {x : Int} : OKT (some (x, 2, true)) := fun t h ok => by cases h; simp
theorem okt_4 {x : Int} : OKT (some (x, 4, true)) := fun t h ok => by cases h; simp
theorem read_n (s : ByteArray) : OKT (escape_Read 2000 s) := by
  unfold escape_Read escape_Read_c0 escape_Read_c2 escape_Read_c1 escape_Read_c3 escape_Read_c4 escape_Read_c5
  repeat (first | exact okt_none | exact okt_false | exact okt_1 | exact okt_2 | exact okt_4 | apply okt_ite | (apply okt_bind; intro x))
theorem unq_l {q : Int} (hq : q ≠ 10) (p : ByteArray) (hp : p.size ≤ 1000) : ∀ (m i fuel : Nat) (acc : List Int), p.size - i < m → m ≤ fuel → i ≤ 5000 → acc.length + m ≤ 100000 →
    ∃ t, escape_Unquote_l1 2000 p q fuel acc i = some t ∧ bosketref03_Unquote_l1 2000 p q fuel (strOfNums acc) i = some t
  | 0, i, f, acc, h, _, _, _ => by omega
  | m + 1, i, 0, acc, _, h, _, _ => by omega
  | m + 1, i, f + 1, acc, h, hf, hi, hl => by
    rw [escape_Unquote_l1.eq_2, bosketref03_Unquote_l1.eq_2]
    by_cases a : (i : Int) < (p.size : Int)
    · have g : 0 ≤ (i : Int) ∧ (i : Int) < (p.size : Int) := ⟨by omega, a⟩
      simp only [if_pos a, if_pos g]
      by_cases b : byteAt p i = q
      · rw [if_pos b, if_neg (by simpa using b), Option.bind_some, if_neg (by decide), bosketref03_Unquote_c0, if_neg (by omega), if_pos g, Option.bind_some, if_neg (by simpa using b)]
        exact ⟨_, rfl, rfl⟩
      · have g2 : 0 ≤ (i : Int) ∧ (i : Int) ≤ (p.size : Int) ∧ (p.size : Int) ≤ (p.size : Int) := ⟨by omega, by omega, by omega⟩
        have hz : (p.extract (i : Int).toNat ((p.size : Nat) : Int).toNat).size ≤ 1000 := by rw [ByteArray.size_extract]; omega
        obtain ⟨u, u1, u2⟩ := read_eq _ (Nat.le_trans hz (by omega))
        have u3 := read_n _ u u1
        simp only [if_neg b, if_pos b, if_pos g2, u1, u2, Option.bind_some, ne_eq, not_false_eq_true, if_true]
        by_cases c : byteAt p i = 10
        · simp only [c, decide_true, not_true, decide_false, if_true, if_false, Bool.false_eq_true]
          rw [bosketref03_Unquote_c0, if_neg (show ¬ ((p.size : Int) ≤ (i : Int)) by omega), if_pos g, Option.bind_some, if_pos (show decide (byteAt p i ≠ q) = true by simpa using b)]
          cases u.2.2 <;> exact ⟨_, rfl, rfl⟩
        · simp only [c, decide_true, not_false_eq_true, decide_false, if_true, if_false]
          by_cases d : (!u.2.2) = true
          · rw [if_pos d, if_pos d]; exact ⟨_, rfl, rfl⟩
          · rw [if_neg d, if_neg d, Option.bind_some, if_neg (by decide)]
            have hz2 : (strOfNums acc).size + (strOfNums [u.1]).size ≤ 9223372036854775807 := by rw [strOfNums_size, strOfNums_size]; simp; omega
            have e : strOfNums acc ++ strOfNums [u.1] = strOfNums (acc ++ [u.1]) := by apply ByteArray.ext; apply Array.ext'; simp [strOfNums]
            have un := u3 (by simpa using d)
            obtain ⟨n, hn⟩ : ∃ n : Nat, u.2.1 = n := ⟨u.2.1.toNat, by omega⟩
            rw [if_pos (by simp; omega), if_pos hz2, e, hn, w64_id (n := (i : Int) + (n : Int)) (by omega) (by omega)]
            exact_mod_cast unq_l hq p hp m (i + n) f (acc ++ [u.1]) (by omega) (by omega) (by omega) (by simp; omega)
    · simp only [if_neg a]
      rw [Option.bind_some, if_neg (by decide), bosketref03_Unquote_c0, if_pos (by omega), Option.bind_some, if_pos rfl]
      exact ⟨_, rfl, rfl⟩
theorem unq_eq {q : Int} (hq : q ≠ 10) (p : ByteArray) (hp : p.size ≤ 1000) : ∃ t, escape_Unquote 2000 p q = some t ∧ bosketref03_Unquote 2000 p q = some t := by
  obtain ⟨t, t1, t2⟩ := unq_l hq p hp 1001 1 2000 [] (by omega) (by omega) (by omega) (by simp)
  unfold escape_Unquote bosketref03_Unquote
  by_cases e : p = ByteArray.mk #[]
  · rw [if_pos e, Option.bind_some, if_pos rfl]; exact ⟨_, rfl, by rw [Option.bind_some, if_pos rfl]⟩
  have hpos : 0 < p.size := by
    rcases Nat.eq_zero_or_pos p.size with h | h
    · exact absurd (by rw [as_bytes p, h]; rfl) e
    · exact h
  have g : 0 ≤ (0 : Int) ∧ (0 : Int) < (p.size : Int) := ⟨by omega, by omega⟩
  rw [if_neg e, if_pos g, Option.bind_some, Option.bind_some]
  by_cases b : byteAt p 0 ≠ q
  · rw [if_pos (decide_eq_true b), if_pos (decide_eq_true b)]; exact ⟨_, rfl, rfl⟩
  · rw [if_neg (by simpa using b), if_neg (by simpa using b)]
    exact ⟨t, t1, t2⟩
end Go.Avl.T2
/- Texts between quotes, and what is left of one. -/
namespace Go.Avl.T2
open Go Go.RowKit Go.Proofs Go.Avl
set_option linter.all false
set_option maxRecDepth 10000

theorem size0 {s : ByteArray} (h : s.size = 0) : s = ByteArray.mk #[] := by rw [as_bytes s, h]; rfl
abbrev B32 : ByteArray := ByteArray.mk #[32]
theorem B32_size : B32.size = 1 := rfl
theorem app_nil (s : ByteArray) : s ++ ByteArray.mk #[] = s := by apply ByteArray.ext; apply Array.ext'; simp
theorem D_len {n : Int} (h : I64 n) : (D n).length ≤ 20 := by
  have hl := dg_len 19 n.natAbs (by unfold I64 at h; omega) (by omega)
  unfold D; split
  · rw [List.length_cons]; omega
  · omega
/-- A text between quotes. -/
def Q (t : ByteArray) : ByteArray := strOfNums [34] ++ catn 34 t 0 t.size ++ strOfNums [34]
theorem quo34 : quo 34 := by unfold quo sign; omega
theorem Q_size (t : ByteArray) : (Q t).size ≤ 4 * t.size + 2 := by
  have := catn_size quo34 t t.size 0
  have hz1 : (strOfNums [(34 : Int)]).size = 1 := strOfNums_size _
  unfold Q; rw [ByteArray.size_append, ByteArray.size_append]; omega
theorem Q_eq {t : ByteArray} (h : t.size ≤ 1000) : escape_Quote 2000 t 34 = some (Q t) ∧ bosketref03_Quote 2000 t 34 = some (Q t) := by
  have hz1 : (strOfNums [(34 : Int)]).size = 1 := strOfNums_size _
  exact quote_l quo34 t (by omega) t.size 0 2000 (strOfNums [(34 : Int)]) (by omega) (by omega) (by omega)
theorem Q_back {t p : ByteArray} (h : t.size ≤ 1000) (hp : p.size ≤ 1000000) : escape_Unquote 2000 (Q t ++ p) 34 = some (t, ((Q t).size : Int), true) := by
  have hz1 : (strOfNums [(34 : Int)]).size = 1 := strOfNums_size _
  have x := unquote_l quo34 t p (by omega) (by omega) t.size 0 2000 (strOfNums [(34 : Int)]) [] (by omega) (by omega) (by omega) (by simp; omega)
  have eX : Q t ++ p = strOfNums [(34 : Int)] ++ (catn 34 t 0 t.size ++ (strOfNums [(34 : Int)] ++ p)) := by unfold Q; rw [app_assoc, app_assoc]
  have sX : (strOfNums [(34 : Int)] ++ (catn 34 t 0 t.size ++ (strOfNums [(34 : Int)] ++ p))).size = 1 + ((catn 34 t 0 t.size).size + (1 + p.size)) := by rw [ByteArray.size_append, ByteArray.size_append, ByteArray.size_append, hz1]
  have hs : (Q t).size = 1 + (catn 34 t 0 t.size).size + 1 := by unfold Q; rw [ByteArray.size_append, ByteArray.size_append, hz1]
  have g : 0 ≤ (0 : Int) ∧ (0 : Int) < ((strOfNums [(34 : Int)] ++ (catn 34 t 0 t.size ++ (strOfNums [(34 : Int)] ++ p))).size : Int) := ⟨by omega, by omega⟩
  have hq : byteAt (strOfNums [(34 : Int)] ++ (catn 34 t 0 t.size ++ (strOfNums [(34 : Int)] ++ p))) 0 = 34 := by
    have := byteAt_app (strOfNums [(34 : Int)]) (catn 34 t 0 t.size ++ (strOfNums [(34 : Int)] ++ p)) 0 (by omega)
    rw [show (0 : Int) = ((0 : Nat) : Int) from rfl, this, byteAt_strOf [(34 : Int)] (by simp) 0 (by simp)]; rfl
  rw [eX, hs]
  unfold escape_Unquote
  rw [if_neg (ne_nil (by omega)), if_pos g, Option.bind_some, if_neg (by simpa using hq)]
  rw [hz1, List.nil_append, lst_all] at x
  exact x
theorem extract_left (a b : ByteArray) : (a ++ b).extract 0 a.size = a := by
  have ha : a.data.toList.length = a.size := Array.length_toList
  have hb : b.data.toList.length = b.size := Array.length_toList
  apply ByteArray.ext; apply Array.ext'
  rw [ByteArray.data_extract]
  simp
  exact List.take_of_length_le (by omega)
/-! What Unquote leaves. -/
theorem unq_bound (p : ByteArray) (hp : p.size ≤ 1000) (q : Int) : ∀ (fuel i : Nat) (acc : List Int) (t : ByteArray × Int × Bool), i ≤ 5000 → acc.length ≤ i → escape_Unquote_l1 2000 p q fuel acc i = some t → t.2.2 = true → 0 ≤ t.2.1 ∧ t.2.1 ≤ p.size ∧ t.1.size ≤ p.size
  | 0, i, acc, t, _, _, h, _ => by cases h
  | f + 1, i, acc, t, hi, ha, h, ok => by
    rw [escape_Unquote_l1.eq_2] at h
    by_cases a : (i : Int) < (p.size : Int)
    · have g : 0 ≤ (i : Int) ∧ (i : Int) < (p.size : Int) := ⟨by omega, a⟩
      rw [if_pos a, if_pos g] at h
      by_cases b : byteAt p i = q
      · rw [if_pos b, w64_id (by omega) (by omega)] at h
        cases h
        dsimp only
        rw [strOfNums_size]; omega
      · rw [if_neg b, if_pos ⟨by omega, by omega, by omega⟩] at h
        obtain ⟨u, hu, h⟩ := Option.bind_eq_some_iff.1 h
        obtain ⟨b18, hb18, h⟩ := Option.bind_eq_some_iff.1 h
        by_cases c : b18 = true
        · rw [if_pos c] at h; cases h; cases ok
        · rw [if_neg c] at h
          have h := (of_guard h).2
          have uok : u.2.2 = true := by
            cases d : u.2.2
            · rw [d, if_pos (by rfl)] at hb18; cases hb18; exact absurd rfl c
            · rfl
          have un := read_n _ u hu uok
          obtain ⟨n, hn⟩ : ∃ n : Nat, u.2.1 = n := ⟨u.2.1.toNat, by omega⟩
          rw [hn, w64_id (by omega) (by omega)] at h
          exact unq_bound p hp q f (i + n) (acc ++ [u.1]) t (by omega) (by simp; omega) (by exact_mod_cast h) ok
    · rw [if_neg a] at h; unfold escape_Unquote_c0 at h; cases h; cases ok
theorem unq_some {q : Int} (hq : q ≠ 10) (p : ByteArray) (hp : p.size ≤ 1000) : ∃ t, escape_Unquote 2000 p q = some t ∧ bosketref03_Unquote 2000 p q = some t ∧ (t.2.2 = true → 0 ≤ t.2.1 ∧ t.2.1 ≤ p.size ∧ t.1.size ≤ p.size) := by
  obtain ⟨t, t1, t2⟩ := unq_eq hq p hp
  refine ⟨t, t1, t2, fun ok => ?_⟩
  unfold escape_Unquote at t1
  obtain ⟨b3, _, h⟩ := Option.bind_eq_some_iff.1 t1
  by_cases c : b3 = true
  · rw [if_pos c] at h; cases h; cases ok
  · rw [if_neg c] at h
    exact unq_bound p hp q 2000 1 [] t (by omega) (by simp) h ok
end Go.Avl.T2
/- Lines and columns. -/
namespace Go.Avl.T2
open Go Go.RowKit Go.Proofs Go.Avl
set_option linter.all false
set_option maxRecDepth 10000

/-- The line and the column of a place. -/
def pos (s : ByteArray) : Nat → Nat × Nat
  | 0 => (1, 1)
  | i + 1 => if byteAt s i = 10 then ((pos s i).1 + 1, 1) else ((pos s i).1, (pos s i).2 + 1)
/-! What the library's searches find. -/
theorem find_idx (s : ByteArray) (c : Int) (hc : 0 ≤ c ∧ c ≤ 255) : (idxByte s c = -1 ∧ ∀ i : Nat, i < s.size → byteAt s i ≠ c) ∨ ∃ i : Nat, idxByte s c = i ∧ i < s.size ∧ byteAt s i = c ∧ ∀ j : Nat, j < i → byteAt s j ≠ c := by
  have key : ∀ i, i < s.size → ((s[i]! == c.toNat.toUInt8) = true ↔ byteAt s (i : Int) = c) := by
    intro i hi
    have e1 : s[i]! = s[i] := getElem!_pos s i hi
    have e2 : byteAt s (i : Int) = ((s[i]).toNat : Int) := by unfold byteAt; rw [dif_pos (show (i : Int).toNat < s.size by omega)]; rfl
    rw [e1, e2, beq_iff_eq]
    have h1 := (s[i]).toNat_lt
    constructor
    · intro h; rw [h]; simp; omega
    · intro h; apply UInt8.toNat_inj.1; simp; omega
  unfold idxByte firstIdx
  cases h : (List.range s.size).find? (fun i => s[i]! == c.toNat.toUInt8) with
  | none =>
    left
    refine ⟨rfl, fun i hi e => ?_⟩
    have := List.find?_range_eq_none.1 h i hi
    rw [(key i hi).2 e] at this; cases this
  | some i =>
    right
    obtain ⟨h1, h2, h3⟩ := List.find?_range_eq_some.1 h
    have hi := List.mem_range.1 h2
    refine ⟨i, rfl, hi, (key i hi).1 h1, fun j hj e => ?_⟩
    have := h3 j hj
    rw [(key j (by omega)).2 e] at this; cases this
/-- How many of a byte stand ahead of a place. -/
def cnt (s : ByteArray) : Nat → Nat
  | 0 => 0
  | i + 1 => cnt s i + (if byteAt s i = 10 then 1 else 0)
end Go.Avl.T2
/- Ops: what a kind has, an op's line. -/
namespace Go.Avl.T2
open Go Go.RowKit Go.Proofs Go.Avl
set_option linter.all false
set_option maxRecDepth 10000

def fm (k : Int) : ByteArray × Bool × Bool := (bosketref47_Form 2000 k).getD (ByteArray.mk #[], false, false)
theorem form_eq (k : Int) : op_Form 2000 k = some (fm k) ∧ bosketref47_Form 2000 k = some (fm k) := by
  have near : ∀ n : Nat, n < 12 → op_Form 2000 n = some (fm n) ∧ bosketref47_Form 2000 n = some (fm n) := by decide +kernel
  by_cases a : 1 ≤ k ∧ k ≤ 11
  · obtain ⟨n, rfl⟩ : ∃ n : Nat, k = n := ⟨k.toNat, by omega⟩
    exact near n (by omega)
  · have h2 : bosketref47_Form 2000 k = some (ByteArray.mk #[], false, false) := by
      unfold bosketref47_Form
      by_cases b : k < 1
      · rw [if_pos b, Option.bind_some, if_pos rfl]
      · rw [if_neg b, Option.bind_some, if_pos (decide_eq_true (by omega))]
    have h1 : op_Form 2000 k = some (ByteArray.mk #[], false, false) := by
      unfold op_Form
      by_cases b : k < 1
      · rw [if_pos b, Option.bind_some, if_pos rfl]
      · rw [if_neg b, Option.bind_some, if_pos (decide_eq_true (by omega))]
    unfold fm; rw [h1, h2]; exact ⟨rfl, rfl⟩
theorem fm_far {k : Int} (h : ¬ (1 ≤ k ∧ k ≤ 11)) : fm k = (ByteArray.mk #[], false, false) := by
  unfold fm
  have h2 : bosketref47_Form 2000 k = some (ByteArray.mk #[], false, false) := by
    unfold bosketref47_Form
    by_cases b : k < 1
    · rw [if_pos b, Option.bind_some, if_pos rfl]
    · rw [if_neg b, Option.bind_some, if_pos (decide_eq_true (by omega))]
  rw [h2]; rfl
/-- The words: not empty, short, without blanks, all different. -/
theorem words : ∀ n : Nat, n < 12 → 1 ≤ n → 0 < (fm n).1.size ∧ (fm n).1.size ≤ 7 ∧ (∀ j : Nat, j < 8 → j < (fm n).1.size → byteAt (fm n).1 j ≠ 32) := by decide +kernel
theorem words_inj : ∀ n : Nat, n < 12 → ∀ m : Nat, m < 12 → 1 ≤ n → 1 ≤ m → (fm n).1 = (fm m).1 → n = m := by decide +kernel
theorem word_ok {k : Int} (h : 1 ≤ k ∧ k ≤ 11) : 0 < (fm k).1.size ∧ (fm k).1.size ≤ 7 ∧ (∀ j : Nat, j < (fm k).1.size → byteAt (fm k).1 j ≠ 32) := by
  obtain ⟨n, rfl⟩ : ∃ n : Nat, k = n := ⟨k.toNat, by omega⟩
  obtain ⟨h1, h2, h3⟩ := words n (by omega) (by omega)
  exact ⟨h1, h2, fun j hj => h3 j (by omega) hj⟩
theorem word_inj {k m : Int} (h : 1 ≤ k ∧ k ≤ 11) (h' : 1 ≤ m ∧ m ≤ 11) (e : (fm k).1 = (fm m).1) : k = m := by
  obtain ⟨n, rfl⟩ : ∃ n : Nat, k = n := ⟨k.toNat, by omega⟩
  obtain ⟨n', rfl⟩ : ∃ n : Nat, m = n := ⟨m.toNat, by omega⟩
  have := words_inj n (by omega) n' (by omega) (by omega) (by omega) e
  omega
/-- May it be? -/
def rt (o : S55) : Bool := decide (1 ≤ o.f0 ∧ o.f0 ≤ 11) && ((fm o.f0).2.1 || decide (o.f2 = ByteArray.mk #[])) && ((fm o.f0).2.2 || decide (o.f1 = 0)) && decide ((o.f2.size : Int) ≤ 65536)
theorem right_eq (o : S55) : _op_Op_Right 2000 o = some (rt o) := by
  unfold _op_Op_Right
  rw [(form_eq o.f0).1, Option.bind_some]
  by_cases a : 1 ≤ o.f0 ∧ o.f0 ≤ 11
  · have hw := (word_ok a).1
    have hne : (fm o.f0).1 ≠ ByteArray.mk #[] := by intro e; rw [e] at hw; exact absurd hw (by decide)
    rw [if_pos hne]
    unfold rt
    cases (fm o.f0).2.1 <;> cases (fm o.f0).2.2 <;> simp only [a, decide_true, Bool.true_and, Bool.true_or, Bool.false_or, Bool.false_eq_true, if_true, if_false] <;> by_cases b : o.f2 = ByteArray.mk #[] <;> by_cases c : o.f1 = 0 <;> simp [b, c]
  · have e := fm_far a
    rw [if_neg (by rw [e]; simp), Option.bind_some]
    unfold rt; simp [a]
theorem rright_eq (o : S55) : bosketref47_Right 2000 ⟨o.f0, o.f1, o.f2⟩ = some (rt o) := by
  unfold bosketref47_Right
  dsimp only
  rw [(form_eq o.f0).2, Option.bind_some]
  by_cases a : 1 ≤ o.f0 ∧ o.f0 ≤ 11
  · rw [if_pos a.1, if_pos a.2]
    unfold rt
    cases (fm o.f0).2.1 <;> cases (fm o.f0).2.2 <;> simp only [a, decide_true, Bool.true_and, Bool.true_or, Bool.false_or, Bool.false_eq_true, if_true, if_false] <;> by_cases b : o.f2 = ByteArray.mk #[] <;> by_cases c : o.f1 = 0 <;> simp [b, c]
  · have hf : rt o = false := by unfold rt; simp [a]
    rw [hf]
    by_cases b : 1 ≤ o.f0
    · rw [if_pos b, if_neg (fun h => a ⟨b, h⟩), Option.bind_some]
    · rw [if_neg b, Option.bind_some]
/-- Behind a word: the text, and the number. -/
def numt (o : S55) : ByteArray := if (fm o.f0).2.2 = true then B32 ++ strOfNums (D o.f1) else ByteArray.mk #[]
def tail (o : S55) : ByteArray := if (fm o.f0).2.1 = true then B32 ++ (Q o.f2 ++ numt o) else numt o
/-- An op's line. -/
def ln (o : S55) : ByteArray := if rt o = true then (fm o.f0).1 ++ tail o else ByteArray.mk #[]
theorem rt_kind {o : S55} (h : rt o = true) : 1 ≤ o.f0 ∧ o.f0 ≤ 11 := by
  unfold rt at h; simp only [Bool.and_eq_true, decide_eq_true_eq] at h; exact h.1.1.1
theorem rt_text {o : S55} (h : rt o = true) (ht : (fm o.f0).2.1 = false) : o.f2 = ByteArray.mk #[] := by
  unfold rt at h; simp only [Bool.and_eq_true, Bool.or_eq_true, decide_eq_true_eq, ht, Bool.false_eq_true, false_or] at h; exact h.1.1.2
theorem rt_num {o : S55} (h : rt o = true) (ht : (fm o.f0).2.2 = false) : o.f1 = 0 := by
  unfold rt at h; simp only [Bool.and_eq_true, Bool.or_eq_true, decide_eq_true_eq, ht, Bool.false_eq_true, false_or] at h; exact h.1.2
theorem numt_size {o : S55} (hn : I64 o.f1) : (numt o).size ≤ 21 := by
  have := D_len hn
  unfold numt; split
  · rw [ByteArray.size_append, strOfNums_size, B32_size]; omega
  · rw [emp_size]; omega
theorem line_eq {o : S55} (hn : I64 o.f1) (ht : o.f2.size ≤ 1000) : _op_Op_Line 2000 o = some (ln o) ∧ bosketref47_Line 2000 ⟨o.f0, o.f1, o.f2⟩ = some (ln o) := by
  unfold _op_Op_Line bosketref47_Line
  rw [right_eq, rright_eq, Option.bind_some, Option.bind_some]
  by_cases a : rt o = true
  · have hk := rt_kind a
    have hw := word_ok hk
    obtain ⟨q1, q2⟩ := Q_eq ht
    have hq := Q_size o.f2
    have hd := D_len hn
    have e : ln o = (fm o.f0).1 ++ tail o := by unfold ln; rw [if_pos a]
    rw [if_neg (by simp [a]), if_neg (by simp [a]), (form_eq o.f0).1, (form_eq o.f0).2, Option.bind_some, Option.bind_some]
    dsimp only
    have key : ∀ x : ByteArray, x.size ≤ 10000 → _op_Op_Line_c1 2000 o (fm o.f0) x = some (x ++ numt o) ∧ bosketref47_Line_c1 2000 ⟨o.f0, o.f1, o.f2⟩ (fm o.f0) x = some (x ++ numt o) := by
      intro x hx
      unfold _op_Op_Line_c1 bosketref47_Line_c1 _op_Op_Line_c0 bosketref47_Line_c0 numt
      by_cases b : (fm o.f0).2.2 = true
      · have s1 : (ByteArray.mk #[32] ++ strOfNums (D o.f1)).size ≤ 21 := by rw [ByteArray.size_append, strOfNums_size, B32_size]; omega
        have s2 : (strOfNums (D o.f1)).size ≤ 20 := by rw [strOfNums_size]; omega
        have s3 : (x ++ ByteArray.mk #[32]).size ≤ 10001 := by rw [ByteArray.size_append, B32_size]; omega
        have d1 : spot_Digits 2000 o.f1 = some (strOfNums (D o.f1)) := by unfold spot_Digits; rw [digits_eq hn, Option.bind_some]
        rw [if_pos b, if_pos b, if_pos b, d1, Option.bind_some, if_pos (by rw [B32_size]; omega), if_pos (by omega), if_pos (by rw [B32_size]; omega)]
        dsimp only
        rw [rdigits_eq hn, Option.bind_some, if_pos (by omega), app_assoc]
        exact ⟨rfl, rfl⟩
      · rw [if_neg b, if_neg b, if_neg b, app_nil]; exact ⟨rfl, rfl⟩
    rw [e]; unfold tail
    by_cases b : (fm o.f0).2.1 = true
    · have s1 : (ByteArray.mk #[32] ++ Q o.f2).size ≤ 4003 := by rw [ByteArray.size_append, B32_size]; omega
      have s3 : ((fm o.f0).1 ++ ByteArray.mk #[32]).size ≤ 8 := by rw [ByteArray.size_append, B32_size]; omega
      have s4 : ((fm o.f0).1 ++ (ByteArray.mk #[32] ++ Q o.f2)).size ≤ 10000 := by rw [ByteArray.size_append]; omega
      obtain ⟨k1, k2⟩ := key ((fm o.f0).1 ++ (B32 ++ Q o.f2)) s4
      rw [if_pos b, if_pos b, if_pos b, q1, q2, Option.bind_some, Option.bind_some, if_pos (by rw [B32_size]; omega), if_pos (by omega), if_pos (by rw [B32_size]; omega), if_pos (by omega)]
      rw [app_assoc (fm o.f0).1 B32, k1, k2, app_assoc, app_assoc]
      exact ⟨rfl, rfl⟩
    · obtain ⟨k1, k2⟩ := key (fm o.f0).1 (by omega)
      rw [if_neg b, if_neg b, if_neg b, k1, k2]
      exact ⟨rfl, rfl⟩
  · have e : ln o = ByteArray.mk #[] := by unfold ln; rw [if_neg a]
    have a' : rt o = false := by simpa using a
    rw [a', if_pos (show (!false) = true from rfl), if_pos (show (!false) = true from rfl), e]; exact ⟨rfl, rfl⟩
end Go.Avl.T2
/- Ops: a line read. -/
namespace Go.Avl.T2
open Go Go.RowKit Go.Proofs Go.Avl
set_option linter.all false
set_option maxRecDepth 10000

theorem index_eq (s : ByteArray) : internal_stringslite_Index 2000 s B32 = some (idxByte s 32) := by
  unfold internal_stringslite_Index internal_stringslite_IndexByte
  have e2 : byteAt B32 0 = 32 := rfl
  rw [B32_size, if_neg (by decide), Option.bind_some]
  by_cases a : B32 = s
  · rw [if_pos (decide_eq_true a), ← a]
    congr 1
  · rw [if_neg (by simpa using a), if_pos (by decide), if_pos (by decide), e2, Option.bind_some]
/-- A line cut at its first blank. -/
theorem cut_yes {w b : ByteArray} (hw : ∀ j : Nat, j < w.size → byteAt w j ≠ 32) (hz : w.size + b.size ≤ 100000) : strings_Cut 2000 (w ++ (B32 ++ b)) B32 = some (w, b, true) := by
  have hs : (w ++ (B32 ++ b)).size = w.size + (1 + b.size) := by rw [ByteArray.size_append, ByteArray.size_append, B32_size]
  have hat : byteAt (w ++ (B32 ++ b)) (w.size : Int) = 32 := by
    have := byteAt_right w (B32 ++ b) 0 (by rw [ByteArray.size_append, B32_size]; omega)
    rw [Nat.add_zero] at this
    rw [this, byteAt_app _ _ 0 (by rw [B32_size]; omega)]; rfl
  have hi : idxByte (w ++ (B32 ++ b)) 32 = (w.size : Int) := by
    rcases find_idx (w ++ (B32 ++ b)) 32 (by omega) with ⟨_, h2⟩ | ⟨i, h1, h2, h3, h4⟩
    · exact absurd hat (h2 w.size (by omega))
    · rw [h1]
      rcases Nat.lt_trichotomy i w.size with c | c | c
      · rw [byteAt_app _ _ i c] at h3; exact absurd h3 (hw i c)
      · rw [c]
      · exact absurd hat (h4 w.size c)
  unfold strings_Cut internal_stringslite_Cut
  rw [index_eq, Option.bind_some, hi, B32_size, hs]
  have e1 : w64 ((w.size : Int) + ((1 : Nat) : Int)) = ((w.size + 1 : Nat) : Int) := by rw [w64_id (by omega) (by omega)]; omega
  rw [e1, if_pos (by omega), if_pos ⟨by omega, by omega, by omega⟩, if_pos ⟨by omega, by omega, by omega⟩, Option.bind_some]
  have e2 : (w ++ (B32 ++ b)).extract (0 : Int).toNat (w.size : Int).toNat = w := by
    rw [show (0 : Int).toNat = 0 from rfl, Int.toNat_natCast]; exact extract_left _ _
  have e3 : (w ++ (B32 ++ b)).extract ((w.size + 1 : Nat) : Int).toNat ((w.size + (1 + b.size) : Nat) : Int).toNat = b := by
    have := extract_right (w ++ B32) b
    rw [app_assoc, hs, ByteArray.size_append, B32_size] at this
    rw [Int.toNat_natCast, Int.toNat_natCast]; exact this
  rw [e2, e3]
theorem cut_no {w : ByteArray} (hw : ∀ j : Nat, j < w.size → byteAt w j ≠ 32) : strings_Cut 2000 w B32 = some (w, ByteArray.mk #[], false) := by
  have hi : idxByte w 32 = -1 := by
    rcases find_idx w 32 (by omega) with ⟨h1, _⟩ | ⟨i, h1, h2, h3, h4⟩
    · exact h1
    · exact absurd h3 (hw i h2)
  unfold strings_Cut internal_stringslite_Cut
  rw [index_eq, Option.bind_some, hi, if_neg (by decide), Option.bind_some]
theorem cut_any (s : ByteArray) (hz : s.size ≤ 100000) : ∃ w b f, strings_Cut 2000 s B32 = some (w, b, f) ∧ b.size ≤ s.size := by
  unfold strings_Cut internal_stringslite_Cut
  rw [index_eq, Option.bind_some, B32_size]
  rcases find_idx s 32 (by omega) with ⟨h1, _⟩ | ⟨i, h1, h2, h3, h4⟩
  · rw [h1, if_neg (by decide), Option.bind_some]; exact ⟨_, _, _, rfl, by rw [emp_size]; omega⟩
  · have e1 : w64 ((i : Int) + ((1 : Nat) : Int)) = ((i + 1 : Nat) : Int) := by rw [w64_id (by omega) (by omega)]; omega
    rw [h1, e1, if_pos (by omega), if_pos ⟨by omega, by omega, by omega⟩, if_pos ⟨by omega, by omega, by omega⟩, Option.bind_some]
    exact ⟨_, _, _, rfl, by rw [ByteArray.size_extract]; omega⟩
/-- The kind of a word. -/
def KindOf (w : ByteArray) (r : Int) : Prop := (1 ≤ r ∧ r ≤ 11 ∧ (fm r).1 = w) ∨ (r = 0 ∧ ∀ j : Int, 1 ≤ j → j ≤ 11 → (fm j).1 ≠ w)
theorem kind_l (w : ByteArray) : ∀ (m i fuel : Nat), i + m = 12 → m < fuel → 1 ≤ i → (∀ j : Int, 1 ≤ j → j < i → (fm j).1 ≠ w) → ∃ r, op_Kind_l1 2000 w fuel i = some r ∧ KindOf w r
  | 0, i, f + 1, h, _, _, hn => by
    rw [op_Kind_l1.eq_2, if_neg (by omega)]
    exact ⟨0, rfl, .inr ⟨rfl, fun j h1 h2 => hn j h1 (by omega)⟩⟩
  | m + 1, i, f + 1, h, hf, h1, hn => by
    rw [op_Kind_l1.eq_2, if_pos (by omega), (form_eq i).1, Option.bind_some]
    by_cases a : (fm i).1 = w
    · rw [if_pos a]; exact ⟨_, rfl, .inl ⟨by omega, by omega, a⟩⟩
    · rw [if_neg a, w64_id (by omega) (by omega)]
      exact_mod_cast kind_l w m (i + 1) f (by omega) (by omega) (by omega) (fun j j1 j2 => by
        by_cases b : j < i
        · exact hn j j1 b
        · have : j = i := by omega
          subst this; exact a)
theorem kind_eq (w : ByteArray) : ∃ r, op_Kind 2000 w = some r ∧ KindOf w r := kind_l w 11 1 2000 (by omega) (by omega) (by omega) (fun j h1 h2 => by omega)
theorem KindOf.one {w : ByteArray} {r k : Int} (h : KindOf w r) (hk : 1 ≤ k ∧ k ≤ 11) (e : (fm k).1 = w) : r = k := by
  rcases h with ⟨h1, h2, h3⟩ | ⟨_, h2⟩
  · exact word_inj ⟨h1, h2⟩ hk (by rw [h3, e])
  · exact absurd e (h2 k hk.1 hk.2)
theorem kind_word {k : Int} (hk : 1 ≤ k ∧ k ≤ 11) : op_Kind 2000 (fm k).1 = some k := by
  obtain ⟨r, r1, r2⟩ := kind_eq (fm k).1
  rw [r1, r2.one hk rfl]
/-! The program's Read. -/
def Err : S55 × Int := (⟨0, 0, ByteArray.empty⟩, 24)
def Got (line : ByteArray) (r : S55 × Int) : Prop := r = Err ∨ (r.2 = 0 ∧ rt r.1 = true ∧ ln r.1 = line ∧ I64 r.1.f1 ∧ r.1.f2.size ≤ 1000)
theorem read_c0 (line : ByteArray) {o : S55} (hn : I64 o.f1) (ht : o.f2.size ≤ 1000) : op_Read_c0 2000 line o.f0 o.f2 o.f1 = some (if rt o = true ∧ ln o = line then (o, 0) else Err) := by
  unfold op_Read_c0
  have e : S55.mk o.f0 o.f1 o.f2 = o := rfl
  rw [e, right_eq, Option.bind_some]
  cases a : rt o
  · rw [if_pos (by rfl), Option.bind_some, if_pos rfl, if_neg (fun h => by cases h.1)]; rfl
  · rw [if_neg (by decide), (line_eq hn ht).1, Option.bind_some, Option.bind_some]
    by_cases b : ln o = line
    · rw [if_neg (by simpa using b), if_pos ⟨rfl, b⟩]
    · rw [if_pos (by simpa using b), if_neg (fun h => b h.2)]; rfl
theorem got_c0 (line : ByteArray) {o : S55} (hn : I64 o.f1) (ht : o.f2.size ≤ 1000) : ∃ r, op_Read_c0 2000 line o.f0 o.f2 o.f1 = some r ∧ Got line r := by
  rw [read_c0 line hn ht]
  refine ⟨_, rfl, ?_⟩
  by_cases a : rt o = true ∧ ln o = line
  · rw [if_pos a]; exact .inr ⟨rfl, a.1, a.2, hn, ht⟩
  · rw [if_neg a]; exact .inl rfl
theorem got_c1 (line : ByteArray) (k : Int) (t6 : ByteArray × Bool × Bool) (x7 x8 : ByteArray) (h7 : x7.size ≤ 100000) (h8 : x8.size ≤ 1000) : ∃ r, op_Read_c1 2000 line k t6 x7 x8 = some r ∧ Got line r := by
  unfold op_Read_c1
  by_cases a : t6.2.2 = true
  · rw [if_pos a, (num_all h7).1, Option.bind_some]
    by_cases b : (!(sn (ints x7)).2) = true
    · rw [if_pos b]; exact ⟨_, rfl, .inl rfl⟩
    · rw [if_neg b]; exact got_c0 line (o := ⟨k, (sn (ints x7)).1, x8⟩) (sn_i64 _) h8
  · rw [if_neg a]; exact got_c0 line (o := ⟨k, 0, x8⟩) (by unfold I64; dsimp only; omega) h8
theorem pre_eq (s : ByteArray) (p : ByteArray) (hz : p.size ≤ s.size) : internal_stringslite_HasPrefix 2000 s p = some (decide (s.extract 0 p.size = p)) := by
  unfold internal_stringslite_HasPrefix
  rw [if_pos (by omega), if_pos ⟨by omega, by omega, by omega⟩, Option.bind_some]; simp
theorem trim_any (s : ByteArray) : ∃ t, strings_TrimPrefix 2000 s B32 = some t ∧ t.size ≤ s.size := by
  unfold strings_TrimPrefix internal_stringslite_TrimPrefix
  by_cases a : 1 ≤ s.size
  · rw [pre_eq s B32 (by rw [B32_size]; exact a), Option.bind_some]
    by_cases b : s.extract 0 B32.size = B32
    · rw [if_pos (decide_eq_true b), if_pos ⟨by omega, by rw [B32_size]; omega, by omega⟩, Option.bind_some]
      exact ⟨_, rfl, by rw [ByteArray.size_extract]; omega⟩
    · rw [if_neg (by simpa using b), Option.bind_some]; exact ⟨_, rfl, Nat.le_refl _⟩
  · have e : internal_stringslite_HasPrefix 2000 s B32 = some false := by
      unfold internal_stringslite_HasPrefix
      rw [if_neg (by rw [B32_size]; omega), Option.bind_some]
    rw [e, Option.bind_some, if_neg (by decide), Option.bind_some]; exact ⟨_, rfl, Nat.le_refl _⟩
theorem read_got (line : ByteArray) (hz : line.size ≤ 1000) : ∃ r, op_Read 2000 line = some r ∧ Got line r := by
  obtain ⟨w, b, f, c1, c2⟩ := cut_any line (by omega)
  obtain ⟨k, k1, _⟩ := kind_eq w
  unfold op_Read
  rw [c1, Option.bind_some]
  dsimp only
  rw [k1, Option.bind_some, (form_eq k).1, Option.bind_some]
  by_cases a : (fm k).2.1 = true
  · obtain ⟨t, t1, _, t3⟩ := unq_some (q := 34) (by decide) b (by omega)
    rw [if_pos a, t1, Option.bind_some]
    by_cases d : (!t.2.2) = true
    · rw [if_pos d]; exact ⟨_, rfl, .inl rfl⟩
    · have t3 := t3 (by simpa using d)
      rw [if_neg d, if_pos ⟨by omega, by omega, by omega⟩]
      obtain ⟨u, u1, u2⟩ := trim_any (b.extract t.2.1.toNat (b.size : Int).toNat)
      rw [u1, Option.bind_some]
      rw [ByteArray.size_extract] at u2
      exact got_c1 line k (fm k) u t.1 (by omega) (by omega)
  · rw [if_neg a]; exact got_c1 line k (fm k) b _ (by omega) (by decide)
theorem trim_num {o : S55} : strings_TrimPrefix 2000 (numt o) B32 = some (if (fm o.f0).2.2 = true then strOfNums (D o.f1) else ByteArray.mk #[]) := by
  unfold numt
  by_cases a : (fm o.f0).2.2 = true
  · rw [if_pos a, if_pos a]
    unfold strings_TrimPrefix internal_stringslite_TrimPrefix
    have hs : (B32 ++ strOfNums (D o.f1)).size = 1 + (strOfNums (D o.f1)).size := by rw [ByteArray.size_append, B32_size]
    have e1 : (B32 ++ strOfNums (D o.f1)).extract 0 B32.size = B32 := extract_left _ _
    rw [pre_eq _ _ (by rw [hs, B32_size]; omega), e1, Option.bind_some, if_pos (by simp), if_pos ⟨by omega, by rw [hs, B32_size]; omega, by omega⟩, Option.bind_some, Int.toNat_natCast, Int.toNat_natCast, extract_right]
  · rw [if_neg a, if_neg a]
    decide +kernel
theorem read_line {o : S55} (hr : rt o = true) (hn : I64 o.f1) (ht : o.f2.size ≤ 1000) : op_Read 2000 (ln o) = some (o, 0) := by
  have hk := rt_kind hr
  obtain ⟨w1, w2, w3⟩ := word_ok hk
  have hq := Q_size o.f2
  have hns := numt_size hn
  have hd := D_len hn
  have el : ln o = (fm o.f0).1 ++ tail o := by unfold ln; rw [if_pos hr]
  have fin' : op_Read_c0 2000 (ln o) o.f0 o.f2 o.f1 = some (o, 0) := by rw [read_c0 _ hn ht, if_pos ⟨hr, rfl⟩]
  have c1' : op_Read_c1 2000 (ln o) o.f0 (fm o.f0) (if (fm o.f0).2.2 = true then strOfNums (D o.f1) else ByteArray.mk #[]) o.f2 = some (o, 0) := by
    unfold op_Read_c1
    by_cases a : (fm o.f0).2.2 = true
    · rw [if_pos a, if_pos a, num_eq (D_byt hn) (by omega), sn_D hn, Option.bind_some, if_neg (show ¬ ((!(o.f1, true).2) = true) from fun h => by cases h)]; exact fin'
    · rw [if_neg a]
      have e0 := rt_num hr (by simpa using a)
      rw [e0] at fin'; exact fin'
  have fin2 : ∀ f, strings_Cut 2000 (ln o) B32 = some ((fm o.f0).1, (if (fm o.f0).2.1 = true then Q o.f2 ++ numt o else if (fm o.f0).2.2 = true then strOfNums (D o.f1) else ByteArray.mk #[]), f) → op_Read 2000 (ln o) = some (o, 0) := by
    intro f hc
    unfold op_Read
    rw [hc, Option.bind_some]
    dsimp only
    rw [kind_word hk, Option.bind_some, (form_eq o.f0).1, Option.bind_some]
    by_cases a : (fm o.f0).2.1 = true
    · rw [if_pos a, if_pos a, Q_back ht (by omega), Option.bind_some]
      dsimp only
      rw [if_neg (by simp)]
      have hs : (Q o.f2 ++ numt o).size = (Q o.f2).size + (numt o).size := by rw [ByteArray.size_append]
      rw [if_pos ⟨by omega, by rw [hs]; omega, by omega⟩, Int.toNat_natCast, Int.toNat_natCast, extract_right, trim_num, Option.bind_some]
      exact c1'
    · have e0 := rt_text hr (by simpa using a)
      rw [if_neg a, if_neg a]
      have e1 : o.f2 = ByteArray.empty := e0
      rw [← e1]; exact c1'
  by_cases a : (fm o.f0).2.1 = true
  · refine fin2 true ?_
    rw [el, if_pos a]; unfold tail; rw [if_pos a]
    exact cut_yes w3 (by rw [ByteArray.size_append]; omega)
  · by_cases b : (fm o.f0).2.2 = true
    · refine fin2 true ?_
      rw [el, if_neg a, if_pos b]; unfold tail numt; rw [if_neg a, if_pos b]
      exact cut_yes w3 (by rw [strOfNums_size]; omega)
    · refine fin2 false ?_
      rw [el, if_neg a, if_neg b]; unfold tail numt; rw [if_neg a, if_neg b, app_nil]
      exact cut_no w3
end Go.Avl.T2
/- OpReads: the plain law. -/
namespace Go.Avl.T2
open Go Go.RowKit Go.Proofs Go.Avl
set_option linter.all false
set_option maxRecDepth 10000

def ref (o : S55) : S60 := ⟨o.f0, o.f1, o.f2⟩
def RErr : S60 × Bool := (⟨0, 0, ByteArray.empty⟩, false)
/-- What the reference finds from a kind on. -/
def RGot (line : ByteArray) (i : Int) (r : S60 × Bool) : Prop :=
  (∃ o : S55, r = (ref o, true) ∧ rt o = true ∧ ln o = line ∧ I64 o.f1 ∧ o.f2.size ≤ 1000) ∨ (r = RErr ∧ ∀ o : S55, rt o = true → I64 o.f1 → o.f2.size ≤ 1000 → ln o = line → i ≤ o.f0 → False)
theorem RGot.step {line : ByteArray} {i : Int} {r : S60 × Bool} (h : RGot line (i + 1) r) (hn : ∀ o : S55, rt o = true → I64 o.f1 → o.f2.size ≤ 1000 → ln o = line → o.f0 = i → False) : RGot line i r := by
  rcases h with h | ⟨h1, h2⟩
  · exact .inl h
  · refine .inr ⟨h1, fun o a b c d e => ?_⟩
    by_cases f : o.f0 = i
    · exact hn o a b c d f
    · exact h2 o a b c d (by omega)
theorem c2_got {line : ByteArray} {i : Nat} (hi : 1 ≤ i ∧ i ≤ 11) (rec4 : Int → Option (S60 × Bool)) (x15 : ByteArray) (x17 : Int) (hx : x15.size ≤ 1000) (hn : I64 x17)
    (hrec : ∃ r, rec4 ((i + 1 : Nat) : Int) = some r ∧ RGot line ((i : Int) + 1) r) (hne : 0 < line.size)
    (hu : ∀ o : S55, rt o = true → I64 o.f1 → o.f2.size ≤ 1000 → ln o = line → o.f0 = i → o.f1 = x17 ∧ o.f2 = x15) :
    ∃ r, bosketref47_Read_c2 2000 rec4 line i x15 x17 = some r ∧ RGot line i r := by
  unfold bosketref47_Read_c2 bosketref47_Read_c1
  have hl := (line_eq (o := ⟨i, x17, x15⟩) hn hx).2
  dsimp only at hl
  rw [hl, Option.bind_some]
  by_cases a : ln ⟨i, x17, x15⟩ = line
  · rw [if_pos a]
    have hr : rt ⟨i, x17, x15⟩ = true := by
      cases b : rt ⟨i, x17, x15⟩
      · unfold ln at a; rw [b, if_neg (by decide)] at a; rw [← a, emp_size] at hne; omega
      · rfl
    exact ⟨_, rfl, .inl ⟨⟨i, x17, x15⟩, rfl, hr, a, hn, hx⟩⟩
  · obtain ⟨r, r1, r2⟩ := hrec
    rw [if_neg a, w64_id (by omega) (by omega)]
    refine ⟨r, by exact_mod_cast r1, r2.step fun o h1 h2 h3 h4 h5 => ?_⟩
    obtain ⟨e1, e2⟩ := hu o h1 h2 h3 h4 h5
    apply a
    rw [← e1, ← e2, ← h5]
    exact h4
theorem c3_got {line : ByteArray} {i : Nat} (hi : 1 ≤ i ∧ i ≤ 11) (rec4 : Int → Option (S60 × Bool)) (x15 x16 : ByteArray) (hx : x15.size ≤ 1000) (hz : x16.size ≤ 1000)
    (hrec : ∃ r, rec4 ((i + 1 : Nat) : Int) = some r ∧ RGot line ((i : Int) + 1) r) (hne : 0 < line.size)
    (hu : ∀ o : S55, rt o = true → I64 o.f1 → o.f2.size ≤ 1000 → ln o = line → o.f0 = i → x16 = numt o ∧ o.f2 = x15) :
    ∃ r, bosketref47_Read_c3 2000 rec4 line i x15 x16 = some r ∧ RGot line i r := by
  unfold bosketref47_Read_c3
  by_cases a : (0 : Int) < (x16.size : Int)
  · have hz2 : (x16.extract (1 : Int).toNat (x16.size : Int).toNat).size ≤ 1000 := by rw [ByteArray.size_extract]; omega
    rw [if_pos a, if_pos ⟨by omega, by omega, by omega⟩, (num_all (by omega)).2, Option.bind_some]
    refine c2_got hi rec4 x15 _ hx (sn_i64 _) hrec hne fun o h1 h2 h3 h4 h5 => ?_
    obtain ⟨e1, e2⟩ := hu o h1 h2 h3 h4 h5
    refine ⟨?_, e2⟩
    have hn : (fm o.f0).2.2 = true := by
      cases b : (fm o.f0).2.2
      · unfold numt at e1; rw [b, if_neg (by decide)] at e1; rw [e1, emp_size] at a; omega
      · rfl
    have e3 : x16 = B32 ++ strOfNums (D o.f1) := by rw [e1]; unfold numt; rw [if_pos hn]
    have e4 : x16.extract (1 : Int).toNat (x16.size : Int).toNat = strOfNums (D o.f1) := by
      rw [e3]
      have := extract_right B32 (strOfNums (D o.f1))
      rw [B32_size] at this
      rw [show (1 : Int).toNat = 1 from rfl, Int.toNat_natCast]; exact this
    rw [e4]
    have hb := num_all (s := strOfNums (D o.f1)) (by rw [strOfNums_size]; have := D_len h2; omega)
    have hc := num_eq (D_byt h2) (by have := D_len h2; omega)
    rw [hb.1, sn_D h2] at hc
    have := Option.some.inj hc
    rw [this]
  · rw [if_neg a]
    have e0 : x16 = ByteArray.mk #[] := size0 (by omega)
    refine c2_got hi rec4 x15 0 hx (by unfold I64; omega) hrec hne fun o h1 h2 h3 h4 h5 => ?_
    obtain ⟨e1, e2⟩ := hu o h1 h2 h3 h4 h5
    refine ⟨?_, e2⟩
    have hn : (fm o.f0).2.2 = false := by
      cases b : (fm o.f0).2.2
      · rfl
      · unfold numt at e1; rw [b, if_pos rfl] at e1; rw [e0] at e1
        have := congrArg ByteArray.size e1
        rw [emp_size, ByteArray.size_append, B32_size] at this; omega
    exact rt_num h1 hn
theorem ref_l (line : ByteArray) (hz : line.size ≤ 1000) : ∀ (m i fuel : Nat), i + m = 12 → m < fuel → 1 ≤ i → ∃ r, bosketref47_Read_l4 2000 line fuel i = some r ∧ RGot line i r
  | 0, i, f + 1, h, _, _ => by
    rw [bosketref47_Read_l4.eq_2, if_neg (by omega)]
    refine ⟨_, rfl, .inr ⟨rfl, fun o h1 _ _ _ h5 => ?_⟩⟩
    have := rt_kind h1; omega
  | m + 1, i, f + 1, h, hf, h1 => by
    obtain ⟨r, r1, r2⟩ := ref_l line hz m (i + 1) f (by omega) (by omega) (by omega)
    have hk : 1 ≤ (i : Int) ∧ (i : Int) ≤ 11 := by omega
    have hi : 1 ≤ i ∧ i ≤ 11 := by omega
    obtain ⟨w1, w2, w3⟩ := word_ok hk
    have r2' : RGot line ((i : Int) + 1) r := by exact_mod_cast r2
    have hrec : ∃ r, (bosketref47_Read_l4 2000 line f) ((i + 1 : Nat) : Int) = some r ∧ RGot line ((i : Int) + 1) r := ⟨r, r1, r2'⟩
    have lno : ∀ o : S55, rt o = true → ln o = line → o.f0 = i → line = (fm i).1 ++ tail o := by
      intro o a b c
      rw [← b, ← c]; unfold ln; rw [if_pos a]
    have next : ∀ (hn : ∀ o : S55, rt o = true → I64 o.f1 → o.f2.size ≤ 1000 → ln o = line → o.f0 = i → False), ∃ r, bosketref47_Read_c1 2000 (bosketref47_Read_l4 2000 line f) i = some r ∧ RGot line i r := by
      intro hn
      unfold bosketref47_Read_c1
      rw [w64_id (by omega) (by omega)]
      exact ⟨r, by exact_mod_cast r1, r2'.step hn⟩
    rw [bosketref47_Read_l4.eq_2, if_pos (by omega), (form_eq i).2, Option.bind_some]
    by_cases a : (line.size : Int) < ((fm i).1.size : Int)
    · rw [if_pos a, Option.bind_some, if_pos rfl]
      refine next fun o h1 h2 h3 h4 h5 => ?_
      have := lno o h1 h4 h5
      have := congrArg ByteArray.size this
      rw [ByteArray.size_append] at this; omega
    · rw [if_neg a, if_pos ⟨by omega, by omega, by omega⟩, Option.bind_some]
      by_cases b : line.extract (0 : Int).toNat ((fm i).1.size : Int).toNat ≠ (fm i).1
      · rw [if_pos (decide_eq_true b)]
        refine next fun o h1 h2 h3 h4 h5 => b ?_
        rw [lno o h1 h4 h5, show (0 : Int).toNat = 0 from rfl, Int.toNat_natCast]; exact extract_left _ _
      · rw [if_neg (by simpa using b), if_pos ⟨by omega, by omega, by omega⟩]
        have hne : 0 < line.size := by omega
        generalize hR : line.extract ((fm i).1.size : Int).toNat (line.size : Int).toNat = R
        have hRz : R.size ≤ 1000 := by rw [← hR, ByteArray.size_extract]; omega
        have lnR : ∀ o : S55, rt o = true → ln o = line → o.f0 = i → R = tail o := by
          intro o x y z
          rw [← hR, lno o x y z, Int.toNat_natCast, Int.toNat_natCast]; exact extract_right _ _
        by_cases c : (fm i).2.1 = true
        · rw [if_pos c, Option.bind_some]
          by_cases d : (0 : Int) < (R.size : Int)
          · rw [if_pos (decide_eq_true d), if_pos ⟨by omega, by omega, by omega⟩]
            generalize hU : R.extract (1 : Int).toNat (R.size : Int).toNat = U
            have hUz : U.size ≤ 1000 := by rw [← hU, ByteArray.size_extract]; omega
            have hUz2 : U.size = R.size - 1 := by rw [← hU, ByteArray.size_extract]; simp
            obtain ⟨t, t1, t2, t3⟩ := unq_some (q := 34) (by decide) U hUz
            have lnU : ∀ o : S55, rt o = true → I64 o.f1 → o.f2.size ≤ 1000 → ln o = line → o.f0 = i → R = B32 ++ (Q o.f2 ++ numt o) ∧ t = (o.f2, ((Q o.f2).size : Int), true) := by
              intro o x1 x2 x3 y z
              have e1 : R = B32 ++ (Q o.f2 ++ numt o) := by rw [lnR o x1 y z]; unfold tail; rw [z, if_pos c]
              refine ⟨e1, ?_⟩
              have e2 : U = Q o.f2 ++ numt o := by
                rw [← hU, e1]
                have := extract_right B32 (Q o.f2 ++ numt o)
                rw [B32_size] at this
                rw [show (1 : Int).toNat = 1 from rfl, Int.toNat_natCast]; exact this
              have hns := numt_size x2
              rw [e2, Q_back x3 (by omega)] at t1
              exact (Option.some.inj t1).symm
            rw [t2, Option.bind_some]
            by_cases g : (!t.2.2) = true
            · rw [if_pos g]
              refine next fun o x1 x2 x3 y z => ?_
              rw [(lnU o x1 x2 x3 y z).2] at g; cases g
            · have t3 := t3 (by simpa using g)
              rw [if_neg g, w64_id (by omega) (by omega), if_pos ⟨by omega, by omega, by omega⟩, Option.bind_some]
              refine c3_got hi _ t.1 _ (by omega) (by rw [ByteArray.size_extract]; omega) hrec hne fun o x1 x2 x3 y z => ?_
              obtain ⟨e1, e2⟩ := lnU o x1 x2 x3 y z
              rw [e2]; dsimp only
              refine ⟨?_, rfl⟩
              rw [e1]
              have := extract_right (B32 ++ Q o.f2) (numt o)
              rw [app_assoc, ByteArray.size_append, B32_size] at this
              rw [show ((1 : Int) + ((Q o.f2).size : Int)).toNat = 1 + (Q o.f2).size by omega, Int.toNat_natCast]; exact this
          · rw [if_neg (by simpa using d)]
            refine c3_got hi _ _ R (by decide) hRz hrec hne fun o x1 x2 x3 y z => ?_
            have e1 : R = B32 ++ (Q o.f2 ++ numt o) := by rw [lnR o x1 y z]; unfold tail; rw [z, if_pos c]
            have := congrArg ByteArray.size e1
            rw [ByteArray.size_append, B32_size] at this; omega
        · rw [if_neg c, Option.bind_some, if_neg (by decide)]
          refine c3_got hi _ _ R (by decide) hRz hrec hne fun o x1 x2 x3 y z => ?_
          refine ⟨by rw [lnR o x1 y z]; unfold tail; rw [z, if_neg c], rt_text x1 (by rw [z]; simpa using c)⟩
theorem ref_eq (line : ByteArray) (hz : line.size ≤ 1000) : ∃ r, bosketref47_Read 2000 line = some r ∧ RGot line 1 r := ref_l line hz 11 1 2000 (by omega) (by omega) (by omega)
/-- Both read alike. -/
theorem reads (line : ByteArray) (hz : line.size ≤ 1000) : (∃ o : S55, op_Read 2000 line = some (o, 0) ∧ bosketref47_Read 2000 line = some (ref o, true)) ∨ (op_Read 2000 line = some Err ∧ bosketref47_Read 2000 line = some RErr) := by
  obtain ⟨r, r1, r2⟩ := read_got line hz
  obtain ⟨s, s1, s2⟩ := ref_eq line hz
  rcases s2 with ⟨o, o1, o2, o3, o4, o5⟩ | ⟨o1, o2⟩
  · left
    refine ⟨o, ?_, by rw [s1, o1]⟩
    rw [← o3]; exact read_line o2 o4 o5
  · right
    refine ⟨?_, by rw [s1, o1]⟩
    rcases r2 with e | ⟨e1, e2, e3, e4, e5⟩
    · rw [r1, e]
    · exact (o2 r.1 e2 e4 e5 e3 (rt_kind e2).1).elim
end Go.Avl.T2
