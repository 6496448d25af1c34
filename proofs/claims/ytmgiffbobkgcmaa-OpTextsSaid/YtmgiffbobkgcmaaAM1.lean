/- Parts: T2W, T2M1, T2M2, T2M3, T2E, T2Q, T2M4, T2M5, T2M6, T2PureOpReads, T2P1, T2PureOpScripts, T2P2, T2PureOpTexts. -/
import Derived.Test.YtmgiffbobkgcmaaAF1
import Derived.Test.YtmgiffbobkgcmaaAv2
import Derived.Test.YtmgiffbobkgcmaaAF2
import Derived.Lib.Bytealg
import Derived.Test.YtmgiffbobkgcmaaAF3
/- Opening of the arguments; printed by avlaw.py. -/
namespace Go.Avl.T2
open Go Go.RowKit Go.Proofs Go.Avl
set_option linter.unusedVariables false
set_option maxRecDepth 100000
abbrev e70 (l : List S55) : AV := .fz 3 (l.map e55)
theorem ag70 : tyAgg Try.prog 70 = some false := by rfl
abbrev wf9 : ByteArray → Prop := (fun s : ByteArray => s.size ≤ 9223372036854775807)
theorem op9 : Opens Try.prog 9 eStr wf9 := opens_string Try.underlying9
abbrev wf3 : Int → Prop := (fun n : Int => (Lit.int .i64 n).wf = true)
theorem op3 : Opens Try.prog 3 eI64 wf3 := opens_int Try.underlying3
abbrev wf55 : S55 → Prop := (fun x : S55 => wf3 x.f0 ∧ wf3 x.f1 ∧ wf9 x.f2)
theorem op55 : Opens Try.prog 55 e55 wf55 := (opens_struct Try.underlying55 sz55 (opensF_cons rfl sz3 (by decide) op3 (opensF_cons rfl sz3 (by decide) op3 (opensF_cons rfl sz9 (by decide) op9 (opensF_nil _))))).map (fun p => S55.mk p.1 p.2.1 p.2.2.1) (fun _ => rfl) (fun _ h => ⟨h.1, h.2.1, h.2.2.1⟩)
abbrev wf70 : (List S55) → Prop := (fun l : List S55 => l.length ≤ 9223372036854775807 ∧ ∀ a ∈ l, wf55 a)
theorem op70 : Opens Try.prog 70 e70 wf70 := opens_slice Try.underlying70 sz55 op55
end Go.Avl.T2
/- Numbers as texts. -/
namespace Go.Avl.T2
open Go Go.RowKit Go.Proofs Go.Avl
set_option linter.all false

/-- The digits of a number. -/
def dg (n : Nat) : List Int := if h : n < 10 then [48 + (n : Int)] else dg (n / 10) ++ [48 + ((n % 10 : Nat) : Int)]
termination_by n
decreasing_by omega
theorem dg_lt {n : Nat} (h : n < 10) : dg n = [48 + (n : Int)] := by rw [dg, dif_pos h]
theorem dg_ge {n : Nat} (h : 10 ≤ n) : dg n = dg (n / 10) ++ [48 + ((n % 10 : Nat) : Int)] := by rw [dg, dif_neg (by omega)]
def val (l : List Int) : Nat := l.foldl (fun v c => v * 10 + (c - 48).toNat) 0
theorem val_snoc (l : List Int) (c : Int) : val (l ++ [c]) = val l * 10 + (c - 48).toNat := by simp [val]
def Dig (l : List Int) : Prop := ∀ c ∈ l, 48 ≤ c ∧ c ≤ 57
theorem dg_dig : ∀ (k n : Nat), n < 10 ^ k → Dig (dg n)
  | 0, n, h => by
    have : n = 0 := by simpa using h
    subst this; rw [dg_lt (by omega)]; intro c hc; simp at hc; omega
  | k + 1, n, h => by
    by_cases a : n < 10
    · rw [dg_lt a]; intro c hc; simp at hc; omega
    · rw [dg_ge (by omega)]
      have := dg_dig k (n / 10) (by rw [Nat.pow_succ] at h; omega)
      intro c hc
      rcases List.mem_append.1 hc with hc | hc
      · exact this c hc
      · simp at hc; omega
theorem val_dg : ∀ (k n : Nat), n < 10 ^ k → val (dg n) = n
  | 0, n, h => by
    have : n = 0 := by simpa using h
    subst this; rw [dg_lt (by omega)]; rfl
  | k + 1, n, h => by
    by_cases a : n < 10
    · rw [dg_lt a]; simp [val]; omega
    · rw [dg_ge (by omega), val_snoc, val_dg k (n / 10) (by rw [Nat.pow_succ] at h; omega)]
      omega
theorem dg_len : ∀ (k n : Nat), n < 10 ^ k → 0 < k → (dg n).length ≤ k ∧ 0 < (dg n).length
  | 0, n, h, z => by omega
  | k + 1, n, h, _ => by
    by_cases a : n < 10
    · rw [dg_lt a]; simp
    · have hk : 0 < k := by
        rcases Nat.eq_zero_or_pos k with e | e
        · subst e; simp at h; omega
        · exact e
      have := dg_len k (n / 10) (by rw [Nat.pow_succ] at h; omega) hk
      rw [dg_ge (by omega)]; simp; omega
theorem dg_head : ∀ (k n : Nat), n < 10 ^ k → (dg n).head? = some 48 → n = 0
  | 0, n, h, e => by simpa using h
  | k + 1, n, h, e => by
    by_cases a : n < 10
    · rw [dg_lt a] at e; simp at e; omega
    · rw [dg_ge (by omega)] at e
      have hl := (dg_len (k + 1) (n / 10) (by rw [Nat.pow_succ] at h ⊢; omega) (by omega)).2
      have e' : (dg (n / 10)).head? = some 48 := by
        cases hd : dg (n / 10) with
        | nil => rw [hd] at hl; simp at hl
        | cons x xs => rw [hd] at e; simpa using e
      have := dg_head k (n / 10) (by rw [Nat.pow_succ] at h; omega) e'
      omega
/-- Digits without a needless 0 ahead are those of their number. -/
theorem canon : ∀ (n : Nat) (l : List Int), l.length = n + 1 → Dig l → (l.head? ≠ some 48 ∨ n = 0) → dg (val l) = l ∧ (l.head? ≠ some 48 → 0 < val l)
  | 0, l, hl, hd, _ => by
    match l, hl with
    | [c], _ => 
      have := hd c (by simp)
      have e : val [c] = (c - 48).toNat := by simp [val]
      rw [e, dg_lt (by omega)]
      refine ⟨by congr 1; omega, fun h => ?_⟩
      have : c ≠ 48 := by simpa using h
      omega
  | n + 1, l, hl, hd, hh => by
    have hh : l.head? ≠ some 48 := by rcases hh with h | h; exact h; omega
    rcases List.eq_nil_or_concat l with e | ⟨m, c, e⟩
    · subst e; simp at hl
    · rw [List.concat_eq_append] at e
      subst e
      have hm : m.length = n + 1 := by simpa using hl
      have hm2 : m.head? ≠ some 48 := by
        cases m with
        | nil => simp at hm
        | cons x xs => simpa using hh
      obtain ⟨i1, i2⟩ := canon n m hm (fun c hc => hd c (by simp [hc])) (.inl hm2)
      have hp := i2 hm2
      have hc := hd c (by simp)
      rw [val_snoc]
      refine ⟨?_, fun _ => by omega⟩
      rw [dg_ge (by omega), show (val m * 10 + (c - 48).toNat) / 10 = val m by omega, i1]
      congr 2; omega
/-- The text of a number. -/
def D (n : Int) : List Int := if n < 0 then 45 :: dg n.natAbs else dg n.natAbs
def I64 (n : Int) : Prop := -9223372036854775808 ≤ n ∧ n ≤ 9223372036854775807

theorem tq (n : Int) : n.tdiv 10 = if n < 0 then - ((n.natAbs / 10 : Nat) : Int) else ((n.natAbs / 10 : Nat) : Int) := by
  by_cases a : n < 0
  · have e : n = -((n.natAbs : Nat) : Int) := by omega
    rw [if_pos a, e, Int.neg_tdiv, Int.tdiv_eq_ediv_of_nonneg (by omega)]; omega
  · rw [if_neg a, Int.tdiv_eq_ediv_of_nonneg (by omega)]; omega
theorem tr (n : Int) : n.tmod 10 = if n < 0 then - ((n.natAbs % 10 : Nat) : Int) else ((n.natAbs % 10 : Nat) : Int) := by
  by_cases a : n < 0
  · have e : n = -((n.natAbs : Nat) : Int) := by omega
    rw [if_pos a, e, Int.neg_tmod, Int.tmod_eq_emod_of_nonneg (by omega)]; omega
  · rw [if_neg a, Int.tmod_eq_emod_of_nonneg (by omega)]; omega
theorem natural_eq (K : Nat) : ∀ (k n : Nat), n < 10 ^ k → n < 18446744073709551616 → spot_natural_r K (k + 1) (n : Int) = some (strOfNums (dg n))
  | 0, n, h, h2 => by
    have : n = 0 := by simpa using h
    subst this; rw [dg_lt (by omega)]; rfl
  | k + 1, n, h, h2 => by
    rw [spot_natural_r.eq_2]
    by_cases a : (n : Int) < 10
    · have e1 : u64 ((48 : Int) + n) = 48 + n := by rw [u64_eq]; omega
      rw [if_pos a, dg_lt (by omega), e1, w8_id (by omega) (by omega)]
    · have e1 : IntKind.u64.wrap ((n : Int).tdiv 10) = ((n / 10 : Nat) : Int) := by
        have : (n : Int).tdiv 10 = ((n / 10 : Nat) : Int) := by rw [tq, if_neg (by omega)]; omega
        rw [this]; have := u64_eq ((n / 10 : Nat) : Int); unfold u64 at this; rw [this]; omega
      have e2 : (n : Int).tmod 10 = ((n % 10 : Nat) : Int) := by rw [tr, if_neg (by omega)]; omega
      have e3 : u64 ((48 : Int) + ((n % 10 : Nat) : Int)) = 48 + ((n % 10 : Nat) : Int) := by rw [u64_eq]; omega
      have hz : (dg (n / 10)).length ≤ 20 := (dg_len 20 (n / 10) (by omega) (by omega)).1
      rw [if_neg a, e1, natural_eq K k (n / 10) (by rw [Nat.pow_succ] at h; omega) (by omega), Option.bind_some, e2, e3, w8_id (by omega) (by omega), if_pos (by rw [strOfNums_size, strOfNums_size]; simp; omega), dg_ge (n := n) (by omega)]
      congr 1
      apply ByteArray.ext; apply Array.ext'; simp [strOfNums]
theorem pow_big {n k : Nat} (h : n < 100000000000000000000) (hk : 20 ≤ k) : n < 10 ^ k := Nat.lt_of_lt_of_le (show n < 10 ^ 20 from h) (Nat.pow_le_pow_right (by omega) hk)
theorem natural_eq' (k n : Nat) (hk : 20 ≤ k) (h2 : n < 18446744073709551616) : spot_natural (k + 1) (n : Int) = some (strOfNums (dg n)) := natural_eq (k + 1) k n (pow_big (by omega) hk) h2
theorem digits_eq {n : Int} (h : I64 n) : spot_digits 2000 n = some (strOfNums (D n)) := by
  unfold I64 at h
  unfold spot_digits D
  by_cases a : n < 0
  · have e : u64 (IntKind.i64.wrap (0 - n)) = ((n.natAbs : Nat) : Int) := by
      have := w64_eq (0 - n); unfold w64 at this; rw [this, u64_eq]; omega
    have hz : (dg n.natAbs).length ≤ 20 := (dg_len 20 n.natAbs (by omega) (by omega)).1
    have e1 : (ByteArray.mk #[45]).size = 1 := rfl
    rw [if_pos a, if_pos a, e, natural_eq' 1999 _ (by omega) (by omega), Option.bind_some, if_pos (by rw [strOfNums_size, e1]; omega), strOf_cons 45]
    rfl
  · have e : u64 n = ((n.natAbs : Nat) : Int) := by rw [u64_eq]; omega
    rw [if_neg a, if_neg a, e, natural_eq' 1999 _ (by omega) (by omega), Option.bind_some]
theorem rdigits_l (p0 : Int) : ∀ (k : Nat) (n : Int) (acc : ByteArray), n ≠ 0 → n.natAbs < 10 ^ k → I64 n → acc.size + k ≤ 100000 → bosketref13_Digits_l2 2000 p0 (k + 1) n acc = bosketref13_Digits_c0 2000 p0 (strOfNums (dg n.natAbs) ++ acc)
  | 0, n, acc, hn, h, _, _ => by simp at h; omega
  | k + 1, n, acc, hn, h, hi, hz => by
    unfold I64 at hi
    have q1 := tq n
    have q2 := tr n
    rw [bosketref13_Digits_l2.eq_2, if_pos hn]
    have key : ∀ x : Int, x = ((n.natAbs % 10 : Nat) : Int) → bosketref13_Digits_c1 2000 (bosketref13_Digits_l2 2000 p0 (k + 1)) n acc x = bosketref13_Digits_c0 2000 p0 (strOfNums (dg n.natAbs) ++ acc) := by
      rintro x rfl
      have e1 : w64 ((48 : Int) + ((n.natAbs % 10 : Nat) : Int)) = 48 + ((n.natAbs % 10 : Nat) : Int) := w64_id (by omega) (by omega)
      have e2 : IntKind.i64.wrap (n.tdiv 10) = n.tdiv 10 := by have := w64_id (n := n.tdiv 10) (by omega) (by omega); exact this
      have e3 : (n.tdiv 10).natAbs = n.natAbs / 10 := by omega
      unfold bosketref13_Digits_c1
      rw [e1, w8_id (by omega) (by omega), if_pos (by rw [strOfNums_size]; simp; omega), Option.bind_some, e2]
      by_cases a : n.natAbs < 10
      · have z : n.tdiv 10 = 0 := by omega
        rw [z, bosketref13_Digits_l2.eq_2, if_neg (by omega), dg_lt a]
        congr 4; omega
      · rw [rdigits_l p0 k (n.tdiv 10) _ (by omega) (by rw [e3]; rw [Nat.pow_succ] at h; omega) (by unfold I64; omega) (by rw [ByteArray.size_append, strOfNums_size]; simp; omega), e3, dg_ge (n := n.natAbs) (by omega)]
        congr 1
        apply ByteArray.ext; apply Array.ext'; simp [strOfNums]
    by_cases a : n.tmod 10 < 0
    · rw [if_pos a]; apply key
      have := w64_id (n := 0 - n.tmod 10) (by omega) (by omega)
      unfold w64 at this; rw [this]; omega
    · rw [if_neg a]; apply key; omega
theorem rdigits_l' (p0 : Int) (k : Nat) (n : Int) (acc : ByteArray) (hn : n ≠ 0) (hk : 20 ≤ k) (hi : I64 n) (hz : acc.size + k ≤ 100000) : bosketref13_Digits_l2 2000 p0 (k + 1) n acc = bosketref13_Digits_c0 2000 p0 (strOfNums (dg n.natAbs) ++ acc) := rdigits_l p0 k n acc hn (pow_big (by unfold I64 at hi; omega) hk) hi hz
theorem rdigits_eq {n : Int} (h : I64 n) : bosketref13_Digits 2000 n = some (strOfNums (D n)) := by
  have h' := h
  unfold I64 at h'
  unfold bosketref13_Digits
  by_cases a : n = 0
  · subst a; rw [if_pos rfl]
    have : D 0 = [48] := by unfold D; rw [if_neg (by omega), show (0 : Int).natAbs = 0 from rfl, dg_lt (by omega)]; rfl
    rw [this]; rfl
  · have hz : (dg n.natAbs).length ≤ 20 := (dg_len 20 n.natAbs (by omega) (by omega)).1
    rw [if_neg a, rdigits_l' n 1999 n _ a (by omega) h (by decide)]
    have e : strOfNums (dg n.natAbs) ++ ByteArray.mk #[] = strOfNums (dg n.natAbs) := by apply ByteArray.ext; apply Array.ext'; simp [strOfNums]
    rw [e]
    unfold bosketref13_Digits_c0 D
    by_cases b : n < 0
    · have e1 : (ByteArray.mk #[45]).size = 1 := rfl
      rw [if_pos b, if_pos b, if_pos (by rw [strOfNums_size, e1]; omega), strOf_cons 45]; rfl
    · rw [if_neg b, if_neg b]
end Go.Avl.T2
/- Numbers read. -/
namespace Go.Avl.T2
open Go Go.RowKit Go.Proofs Go.Avl
set_option linter.all false
set_option maxRecDepth 10000
instance (l : List Int) : Decidable (Dig l) := by unfold Dig; infer_instance

def Byt (l : List Int) : Prop := ∀ x ∈ l, 0 ≤ x ∧ x ≤ 255
theorem Byt.tail {c : Int} {l : List Int} (h : Byt (c :: l)) : Byt l := fun x hx => h x (List.mem_cons_of_mem _ hx)
theorem extract_strOf (l : List Int) (i j : Nat) : (strOfNums l).extract i j = strOfNums ((l.take j).drop i) := by
  apply ByteArray.ext; apply Array.ext'
  rw [ByteArray.data_extract, strOfNums_data]
  simp only [strOfNums, Array.toList_extract, List.extract]
  simp [List.drop_take]
theorem strOf_one {c : Int} (h : 0 ≤ c ∧ c ≤ 255) (d : UInt8) : strOfNums [c] = ByteArray.mk #[d] ↔ c = d.toNat := by
  constructor
  · intro e
    have := congrArg (fun s : ByteArray => s.data.toList) e
    simp [strOfNums] at this
    rw [← this]; simp; omega
  · rintro rfl; apply ByteArray.ext; apply Array.ext'; simp [strOfNums]
def cutm (l : List Int) : List Int × Bool := if l.head? = some 45 then (l.tail, true) else (l, false)
theorem cut_eq {l : List Int} (hl : Byt l) (hz : l.length ≤ 100000) : strings_CutPrefix 2000 (strOfNums l) (ByteArray.mk #[45]) = some (strOfNums (cutm l).1, (cutm l).2) := by
  have e1 : (ByteArray.mk #[45]).size = 1 := rfl
  unfold strings_CutPrefix internal_stringslite_CutPrefix internal_stringslite_HasPrefix
  simp only [e1, strOfNums_size]
  cases l with
  | nil => simp [cutm]
  | cons c t =>
    have g : ((1 : Nat) : Int) ≤ (((c :: t).length : Nat) : Int) := by simp; omega
    have g2 : 0 ≤ (0 : Int) ∧ (0 : Int) ≤ ((1 : Nat) : Int) ∧ ((1 : Nat) : Int) ≤ (((c :: t).length : Nat) : Int) := ⟨by omega, by omega, g⟩
    have ex : (strOfNums (c :: t)).extract (0 : Int).toNat ((1 : Nat) : Int).toNat = strOfNums [c] := by
      rw [show (0 : Int).toNat = 0 from rfl, Int.toNat_natCast, extract_strOf]; simp
    have ex2 : (strOfNums (c :: t)).extract ((1 : Nat) : Int).toNat (((c :: t).length : Nat) : Int).toNat = strOfNums t := by
      rw [Int.toNat_natCast, Int.toNat_natCast, extract_strOf]; simp
    have hc := strOf_one (hl c (by simp)) 45
    rw [if_pos g, if_pos g2, ex, Option.bind_some, Option.bind_some, ex2]
    by_cases a : c = 45
    · have a' : strOfNums [c] = ByteArray.mk #[45] := hc.2 a
      rw [if_neg (by simp [a']), if_pos ⟨by omega, g, by omega⟩]
      simp [cutm, a]
    · have a' : ¬ strOfNums [c] = ByteArray.mk #[45] := fun e => a (hc.1 e)
      rw [if_pos (by simp [a'])]
      simp [cutm, a]
theorem val_take (l : List Int) (i : Nat) (h : i < l.length) : val (l.take (i + 1)) = val (l.take i) * 10 + (l[i] - 48).toNat := by
  rw [← List.take_append_getElem h, val_snoc]
theorem val_lt : ∀ (n : Nat) (l : List Int), l.length = n → Dig l → val l < 10 ^ n
  | 0, l, h, _ => by
    have : l = [] := List.length_eq_zero_iff.1 h
    subst this; simp [val]
  | n + 1, l, h, hd => by
    rcases List.eq_nil_or_concat l with e | ⟨m, c, e⟩
    · subst e; simp at h
    · rw [List.concat_eq_append] at e
      subst e
      have hm : m.length = n := by simpa using h
      have := val_lt n m hm (fun c hc => hd c (by simp [hc]))
      have hc := hd c (by simp)
      rw [val_snoc, Nat.pow_succ]; omega
def fin (low : Bool) (v : Nat) : Int × Bool := if low = true ∧ v ≤ 9223372036854775808 then (-(v : Int), true) else if low = false ∧ v < 9223372036854775808 then ((v : Int), true) else (0, false)
theorem fin_eq (t : ByteArray) (low : Bool) (v : Nat) (hv : v < 10 ^ 19) (hp : low = true → 0 < v) : spot_Number_c0 2000 (t, low) (v : Int) = some (fin low v) := by
  have hv : v < 10000000000000000000 := hv
  unfold spot_Number_c0 fin
  cases low
  · have n1 : ¬ ((t, false).2 = true) := fun h => by cases h
    by_cases a : (v : Int) < 9223372036854775808
    · rw [if_neg n1, Option.bind_some, if_neg (by decide), if_pos (show (!(t, false).2) = true from rfl), Option.bind_some, if_pos (decide_eq_true a), if_neg (fun h => by cases h.1), if_pos ⟨rfl, by omega⟩, w64_id (by omega) (by omega)]
    · rw [if_neg n1, Option.bind_some, if_neg (by decide), if_pos (show (!(t, false).2) = true from rfl), Option.bind_some, if_neg (by simpa using a), if_neg (fun h => by cases h.1), if_neg (fun h => by omega)]
  · have hp := hp rfl
    by_cases a : (v : Int) ≤ 9223372036854775808
    · have e := u64_eq (0 - (v : Int)); unfold u64 at e
      rw [if_pos rfl, Option.bind_some, if_pos (decide_eq_true a), if_pos ⟨rfl, by omega⟩, e, w64_eq]
      congr 2; omega
    · rw [if_pos rfl, Option.bind_some, if_neg (by simpa using a), if_neg (show ¬ ((!(t, true).2) = true) from fun h => by cases h), Option.bind_some, if_neg (by decide), if_neg (fun h => by omega), if_neg (fun h => by cases h.1)]
theorem num_l {t : List Int} (ht : Byt t) (low : Bool) (hz : t.length ≤ 19) (hp : low = true → Dig t → 0 < val t) : ∀ (m i fuel : Nat), i + m = t.length → m < fuel → Dig (t.take i) →
    spot_Number_l1 2000 (strOfNums t, low) fuel (val (t.take i)) i = some (if Dig t then fin low (val t) else (0, false))
  | 0, i, f + 1, h, _, hd => by
    have e : t.take i = t := List.take_of_length_le (by omega)
    rw [e] at hd ⊢
    have hv := val_lt t.length t rfl hd
    have hv2 : val t < 10 ^ 19 := Nat.lt_of_lt_of_le hv (Nat.pow_le_pow_right (by omega) (by omega))
    rw [spot_Number_l1.eq_2, if_neg (by simp only [strOfNums_size]; omega), fin_eq _ _ _ hv2 (fun e => hp e hd), if_pos hd]
  | m + 1, i, f + 1, h, hf, hd => by
    have hi : i < t.length := by omega
    have h1 : (i : Int) < (((strOfNums t, low).1.size : Nat) : Int) := by simp only [strOfNums_size]; omega
    have g : 0 ≤ (i : Int) ∧ (i : Int) < (((strOfNums t, low).1.size : Nat) : Int) := ⟨by omega, h1⟩
    have hb : byteAt (strOfNums t, low).1 (i : Int) = t[i] := byteAt_strOf t ht i hi
    have hbb := ht t[i] (List.getElem_mem hi)
    rw [spot_Number_l1.eq_2, if_pos h1]
    simp only [if_pos g, hb]
    by_cases a : 48 ≤ t[i] ∧ t[i] ≤ 57
    · rw [if_neg (by omega), Option.bind_some, if_neg (by simp; omega), Option.bind_some]
      have hv := val_lt i (t.take i) (by simp; omega) hd
      have hv2 : val (t.take i) < 10 ^ 18 := Nat.lt_of_lt_of_le hv (Nat.pow_le_pow_right (by omega) (by omega))
      have hv2 : val (t.take i) < 1000000000000000000 := hv2
      have e : u64 (u64 ((val (t.take i) : Int) * 10) + u64 (w8 (t[i] - 48))) = ((val (t.take (i + 1)) : Nat) : Int) := by
        rw [val_take t i hi, w8_id (by omega) (by omega), u64_eq, u64_eq, u64_eq]; omega
      rw [e, w64_id (by omega) (by omega)]
      have hd2 : Dig (t.take (i + 1)) := by
        rw [← List.take_append_getElem hi]
        intro c hc
        rcases List.mem_append.1 hc with hc | hc
        · exact hd c hc
        · simp at hc; subst hc; exact a
      exact_mod_cast num_l ht low hz hp m (i + 1) f (by omega) (by omega) hd2
    · have nd : ¬ Dig t := fun h => a (h _ (List.getElem_mem hi))
      rw [if_neg nd]
      by_cases b : t[i] < 48
      · rw [if_pos b, Option.bind_some, if_pos rfl]
      · rw [if_neg b, Option.bind_some, if_pos (by simp; omega)]
/-- The number of a text. -/
def sn (l : List Int) : Int × Bool :=
  if (cutm l).1 = [] ∨ 19 < (cutm l).1.length ∨ ((cutm l).1.head? = some 48 ∧ ((cutm l).2 = true ∨ 1 < (cutm l).1.length)) then (0, false)
  else if Dig (cutm l).1 then fin (cutm l).2 (val (cutm l).1) else (0, false)
theorem cutm_byt {l : List Int} (h : Byt l) : Byt (cutm l).1 := by
  unfold cutm
  split
  · intro x hx; exact h x (List.mem_of_mem_tail hx)
  · exact h
theorem num_eq {l : List Int} (hl : Byt l) (hz : l.length ≤ 100000) : spot_Number 2000 (strOfNums l) = some (sn l) := by
  unfold spot_Number sn
  rw [cut_eq hl hz, Option.bind_some]
  have hb := cutm_byt hl
  generalize hc : cutm l = c at hb
  obtain ⟨t, low⟩ := c
  dsimp only at hb ⊢
  by_cases a : t = []
  · subst a
    have e : strOfNums [] = ByteArray.mk #[] := rfl
    rw [if_pos e, Option.bind_some, if_pos rfl, if_pos (.inl rfl)]
  · have e : ¬ strOfNums t = ByteArray.mk #[] := by
      intro h
      have := congrArg ByteArray.size h
      rw [strOfNums_size] at this
      exact a (List.length_eq_zero_iff.1 this)
    have hpos : 0 < t.length := List.length_pos_iff.2 a
    rw [if_neg e, strOfNums_size]
    by_cases b : 19 < t.length
    · rw [if_pos (by omega), Option.bind_some, if_pos rfl, if_pos (.inr (.inl b))]
    · have hb0 : byteAt (strOfNums t) 0 = t[0] := byteAt_strOf t hb 0 hpos
      have hh : t.head? = some t[0] := by rw [List.head?_eq_getElem?, List.getElem?_eq_getElem hpos]
      rw [if_neg (by omega), if_pos ⟨by omega, by omega⟩, hb0, hh]
      have fin' : ¬ (t[0] = 48 ∧ (low = true ∨ 1 < t.length)) → spot_Number_l1 2000 (strOfNums t, low) 2000 0 0 = some (if Dig t then fin low (val t) else (0, false)) := by
        intro hn
        refine num_l hb low (by omega) (fun hlow hd => ?_) t.length 0 2000 (by omega) (by omega) (by intro c hc; simp at hc)
        have hne : t.head? ≠ some 48 := by rw [hh]; intro e; exact hn ⟨Option.some.inj e, .inl hlow⟩
        obtain ⟨n, hn'⟩ : ∃ n, t.length = n + 1 := ⟨t.length - 1, by omega⟩
        exact (canon n t hn' hd (.inl hne)).2 hne
      by_cases c : t[0] = 48
      · rw [if_pos c]
        by_cases d : low = true
        · rw [if_pos d, Option.bind_some, if_pos rfl, if_pos (.inr (.inr ⟨by rw [c], .inl d⟩))]
        · rw [if_neg d, Option.bind_some]
          by_cases f : 1 < t.length
          · rw [if_pos (by simp; omega), if_pos (.inr (.inr ⟨by rw [c], .inr f⟩))]
          · have nn : ¬ (t = [] ∨ 19 < t.length ∨ (some t[0] = some 48 ∧ (low = true ∨ 1 < t.length))) := by
              rintro (h | h | h)
              · exact a h
              · exact b h
              · rcases h.2 with h | h; exact d h; exact f h
            rw [if_neg nn, if_neg (by simp; omega), fin' (fun h => by rcases h.2 with h | h; exact d h; exact f h)]
      · have nn : ¬ (t = [] ∨ 19 < t.length ∨ (some t[0] = some 48 ∧ (low = true ∨ 1 < t.length))) := by
          rintro (h | h | h)
          · exact a h
          · exact b h
          · exact c (Option.some.inj h.1)
        rw [if_neg nn, if_neg c, Option.bind_some, if_neg (by decide), fin' (fun h => c h.1)]
end Go.Avl.T2
/- SpotNumbers' parts: what the reference reads. -/
namespace Go.Avl.T2
open Go Go.RowKit Go.Proofs Go.Avl
set_option linter.all false
set_option maxRecDepth 10000

theorem D_byt {n : Int} (h : I64 n) : Byt (D n) := by
  unfold I64 at h
  have := dg_dig 20 n.natAbs (by omega)
  intro x hx
  unfold D at hx
  split at hx
  · rcases List.mem_cons.1 hx with e | e
    · omega
    · have := this x e; omega
  · have := this x hx; omega
theorem sn_D {n : Int} (h : I64 n) : sn (D n) = (n, true) := by
  have h' := h
  unfold I64 at h'
  have hd := dg_dig 19 n.natAbs (by omega)
  have hv := val_dg 19 n.natAbs (by omega)
  have hl := dg_len 19 n.natAbs (by omega) (by omega)
  have hh0 := dg_head 19 n.natAbs (by omega)
  have hne : dg n.natAbs ≠ [] := List.length_pos_iff.1 hl.2
  unfold sn
  by_cases a : n < 0
  · have e : cutm (D n) = (dg n.natAbs, true) := by unfold cutm D; rw [if_pos a, if_pos (show (45 :: dg n.natAbs).head? = some 45 from rfl)]; rfl
    rw [e]; dsimp only
    rw [if_neg (by
      rintro (h | h | h)
      · exact hne h
      · omega
      · have := hh0 h.1; omega), if_pos hd, hv, fin, if_pos ⟨rfl, by omega⟩]
    congr 1; omega
  · have hh : ¬ (dg n.natAbs).head? = some 45 := by
      intro e
      have := hd 45 (List.mem_of_head? e)
      omega
    have e : cutm (D n) = (dg n.natAbs, false) := by unfold cutm D; rw [if_neg a, if_neg hh]
    rw [e]; dsimp only
    rw [if_neg (by
      rintro (h | h | h)
      · exact hne h
      · omega
      · have := hh0 h.1
        rw [this, dg_lt (by omega)] at h
        rcases h.2 with h | h
        · cases h
        · simp at h), if_pos hd, hv, fin, if_neg (fun h => by cases h.1), if_pos ⟨rfl, by omega⟩]
    congr 1; omega
end Go.Avl.T2
/- Ported: texts between quotes. -/
namespace Go.Avl.T2
open Go Go.RowKit Go.Proofs Go.Avl
set_option linter.all false


def special (c : Int) : Prop := c < 32 ∨ 126 < c ∨ c = 92
instance (c : Int) : Decidable (special c) := by unfold special; infer_instance
theorem byte_special {k : Nat} {c : Int} {q : ByteArray} (h : special c) : escape_Byte k c q = escape_Byte 5 c (ByteArray.mk #[]) := by
  unfold escape_Byte escape_letter escape_digit
  by_cases a : c = 10
  · subst a; rfl
  by_cases b : c = 9
  · subst b; rfl
  by_cases d : c = 13
  · subst d; rfl
  simp only [if_neg a, if_neg b, if_neg d, Option.bind_some, ne_eq, not_true, if_false]
  by_cases e : c < 32
  · simp only [if_pos e, Option.bind_some, if_true]
  · simp only [if_neg e, Option.bind_some]
    by_cases f : (126 : Int) < c
    · simp only [decide_eq_true f, if_true]
    · have g : c = 92 := by rcases h with h | h | h <;> first | omega | exact h
      subst g; rfl
theorem rbyte_special {k : Nat} {c : Int} {q : ByteArray} (h : special c) : bosketref03_Byte k c q = bosketref03_Byte 5 c (ByteArray.mk #[]) := by
  unfold bosketref03_Byte
  by_cases a : c = 10
  · subst a; rfl
  by_cases b : c = 9
  · subst b; rfl
  by_cases d : c = 13
  · subst d; rfl
  simp only [if_neg a, if_neg b, if_neg d, Option.bind_some]
  by_cases e : c < 32
  · simp only [if_pos e, Option.bind_some, if_true]
  · simp only [if_neg e, Option.bind_some]
    by_cases f : (126 : Int) < c
    · simp only [decide_eq_true f, if_true]
    · have g : c = 92 := by rcases h with h | h | h <;> first | omega | exact h
      subst g; rfl
theorem special_all : ∀ n : Nat, n < 256 → special n → (escape_Byte 5 n (ByteArray.mk #[])).isSome = true ∧ escape_Byte 5 n (ByteArray.mk #[]) = bosketref03_Byte 5 n (ByteArray.mk #[]) := by decide +kernel
theorem plain_l (k : Nat) (c : Int) (q : ByteArray) (hq : q.size ≤ 1000000) : ∀ (m i : Nat), i ≤ q.size → q.size - i < m →
    ∃ b : Bool, bosketref03_in_l1 k q c m i = some b ∧ escape_Byte_l1 k c q m i = some (if b then strOfNums [92, c] else strOfNums [c])
  | 0, i, _, h => by omega
  | m + 1, i, hi, h => by
    rw [bosketref03_in_l1.eq_2, escape_Byte_l1.eq_2]
    by_cases a : (i : Int) < (q.size : Int)
    · have g : 0 ≤ (i : Int) ∧ (i : Int) < (q.size : Int) := ⟨by omega, a⟩
      simp only [if_pos a, if_pos g]
      by_cases b : byteAt q (i : Int) = c
      · simp only [if_pos b]; exact ⟨true, rfl, rfl⟩
      · simp only [if_neg b, w64_id (n := (i : Int) + 1) (by omega) (by omega)]
        exact_mod_cast plain_l k c q hq m (i + 1) (by omega) (by omega)
    · simp only [if_neg a]; exact ⟨false, rfl, rfl⟩
theorem byte_eq {k : Nat} (hk : 2000 ≤ k) (c : Int) (h0 : 0 ≤ c) (h1 : c ≤ 255) (q : ByteArray) (hq : q.size ≤ 1000) : ∃ t, escape_Byte k c q = some t ∧ bosketref03_Byte k c q = some t ∧ (special c → escape_Byte 5 c (ByteArray.mk #[]) = some t) ∧ (¬ special c → t = strOfNums [92, c] ∨ t = strOfNums [c]) := by
  by_cases h : special c
  · obtain ⟨n, rfl⟩ : ∃ n : Nat, c = n := ⟨c.toNat, by omega⟩
    obtain ⟨s1, s2⟩ := special_all n (by omega) h
    obtain ⟨t, ht⟩ := Option.isSome_iff_exists.1 s1
    exact ⟨t, by rw [byte_special h, ht], by rw [rbyte_special h, ← s2, ht], fun _ => ht, fun h' => absurd h h'⟩
  · have a : ¬ c = 10 := fun e => h (by subst e; decide)
    have b : ¬ c = 9 := fun e => h (by subst e; decide)
    have d : ¬ c = 13 := fun e => h (by subst e; decide)
    have e : ¬ c < 32 := fun e => h (.inl e)
    have f : ¬ (126 : Int) < c := fun e => h (.inr (.inl e))
    have g : ¬ c = 92 := fun e => h (.inr (.inr e))
    obtain ⟨r, r1, r2⟩ := plain_l k c q (by omega) k 0 (by omega) (by omega)
    have r1' : bosketref03_in k q c = some r := r1
    refine ⟨if r then strOfNums [92, c] else strOfNums [c], ?_, ?_, fun h' => absurd h' h, fun _ => by cases r <;> simp⟩
    · unfold escape_Byte escape_letter
      simp only [if_neg a, if_neg b, if_neg d, if_neg e, if_neg g, Option.bind_some, ne_eq, not_true, if_false, decide_eq_false f]
      exact r2
    · unfold bosketref03_Byte
      simp only [if_neg a, if_neg b, if_neg d, if_neg e, if_neg g, Option.bind_some, decide_eq_false f, r1']
      have hs : ByteArray.mk #[92] ++ strOfNums [c] = strOfNums [92, c] := by rw [strOf_cons 92 [c]]; rfl
      have hz : (ByteArray.mk #[92]).size + (strOfNums [c]).size ≤ 9223372036854775807 := by rw [strOfNums_size]; show 1 + 1 ≤ 9223372036854775807; decide
      cases r
      · simp
      · simp [hs, hz]




def hx (d : Nat) : Int := if d < 10 then 48 + d else 87 + d
def tbl (n : Nat) : List Int := if n = 10 then [92, 110] else if n = 9 then [92, 116] else if n = 13 then [92, 114] else if n < 32 ∨ 126 < n then [92, 120, hx (n / 16), hx (n % 16)] else if n = 92 then [92, 92] else [(n : Int)]
theorem tbl_eq : ∀ n : Nat, n < 256 → bosketref03_Byte 2000 (w8 n) (ByteArray.mk #[]) = some (strOfNums (tbl n)) := by decide +kernel
theorem w8_nat (n : Nat) (h : n < 256) : w8 (n : Int) = n := w8_id (by omega) (by omega)
/-- The value of a hexadecimal digit. -/
def hv (b : Nat) : Int := if 48 ≤ b ∧ b ≤ 57 then (b : Int) - 48 else if 97 ≤ b ∧ b ≤ 102 then (b : Int) - 87 else -1
theorem value_eq : ∀ b : Nat, b < 256 → escape_value 2000 (b : Int) = some (hv b) := by decide +kernel
theorem hx_hv : ∀ d : Nat, d < 16 → hv (hx d).toNat = d ∧ 0 ≤ hx d ∧ hx d < 256 := by decide +kernel
theorem or_eq : ∀ a : Nat, a < 16 → ∀ b : Nat, b < 16 → w8 (bits .or .i64 (IntKind.i64.wrap ((a : Int) * 2 ^ (min (4 : Int).toNat IntKind.i64.bits))) (b : Int)) = ((16 * a + b : Nat) : Int) := by decide +kernel


/-- Signs that stand for themselves behind a backslash. -/
def sign (c : Int) : Prop := 32 ≤ c ∧ c ≤ 126 ∧ ¬(48 ≤ c ∧ c ≤ 57) ∧ ¬(97 ≤ c ∧ c ≤ 122) ∧ ¬(65 ≤ c ∧ c ≤ 90)
instance (c : Int) : Decidable (sign c) := by unfold sign; infer_instance
theorem ne_nil {s : ByteArray} (h : 0 < s.size) : ¬ s = ByteArray.mk #[] := by
  intro e; subst e; exact absurd h (by decide)
theorem read_1 (s : ByteArray) (h : 0 < s.size) (a : byteAt s 0 ≠ 92) : escape_Read 2000 s = some (byteAt s 0, 1, true) := by
  have g : 0 ≤ (0 : Int) ∧ (0 : Int) < (s.size : Int) := ⟨by omega, by omega⟩
  unfold escape_Read
  simp only [if_neg (ne_nil h), if_pos g, if_pos a]
theorem read_2 (s : ByteArray) (h : 1 < s.size) (a : byteAt s 0 = 92) (n : Nat) (hn : (n = 10 ∧ byteAt s 1 = 110) ∨ (n = 9 ∧ byteAt s 1 = 116) ∨ (n = 13 ∧ byteAt s 1 = 114)) : escape_Read 2000 s = some ((n : Int), 2, true) := by
  have g : 0 ≤ (0 : Int) ∧ (0 : Int) < (s.size : Int) := ⟨by omega, by omega⟩
  have g1 : 0 ≤ (1 : Int) ∧ (1 : Int) < (s.size : Int) := ⟨by omega, by omega⟩
  have b : ¬ (s.size : Int) < 2 := by omega
  unfold escape_Read
  simp only [if_neg (ne_nil (show 0 < s.size by omega)), if_pos g, a, ne_eq, not_true, if_false, if_neg b, if_pos g1]
  rcases hn with ⟨rfl, e⟩ | ⟨rfl, e⟩ | ⟨rfl, e⟩ <;> (simp [e]; rfl)
theorem read_s (s : ByteArray) (h : 1 < s.size) (a : byteAt s 0 = 92) (n : Nat) (hn : sign n) (e : byteAt s 1 = n) : escape_Read 2000 s = some ((n : Int), 2, true) := by
  have g : 0 ≤ (0 : Int) ∧ (0 : Int) < (s.size : Int) := ⟨by omega, by omega⟩
  have g1 : 0 ≤ (1 : Int) ∧ (1 : Int) < (s.size : Int) := ⟨by omega, by omega⟩
  have b : ¬ (s.size : Int) < 2 := by omega
  have hlt : n < 127 := by have := hn.2.1; omega
  have hh := hn
  obtain ⟨n1, n2, n3, n4, n5⟩ := hh
  have c1 : ¬ (n : Int) = 110 := by omega
  have c2 : ¬ (n : Int) = 116 := by omega
  have c3 : ¬ (n : Int) = 114 := by omega
  have c4 : ¬ (n : Int) = 120 := by omega
  have c5 : ¬ (n : Int) = 0 := by omega
  unfold escape_Read
  simp only [if_neg (ne_nil (show 0 < s.size by omega)), if_pos g, a, ne_eq, not_true, if_false, if_neg b, if_pos g1, e, if_neg c1, if_neg c2, if_neg c3, if_neg c4, if_neg c5]
  unfold escape_Read_c0
  simp only [e]
  clear e a g g1 b h n1 n2 n3 n4 n5 c1 c2 c3 c4 c5
  revert hn
  revert hlt
  revert n
  decide +kernel
theorem read_x (s : ByteArray) (h : 3 < s.size) (a : byteAt s 0 = 92) (n : Nat) (hn : n < 256) (e1 : byteAt s 1 = 120) (e2 : byteAt s 2 = hx (n / 16)) (e3 : byteAt s 3 = hx (n % 16)) : escape_Read 2000 s = some ((n : Int), 4, true) := by
  have g : 0 ≤ (0 : Int) ∧ (0 : Int) < (s.size : Int) := ⟨by omega, by omega⟩
  have g1 : 0 ≤ (1 : Int) ∧ (1 : Int) < (s.size : Int) := ⟨by omega, by omega⟩
  have g2 : 0 ≤ (2 : Int) ∧ (2 : Int) < (s.size : Int) := ⟨by omega, by omega⟩
  have g3 : 0 ≤ (3 : Int) ∧ (3 : Int) < (s.size : Int) := ⟨by omega, by omega⟩
  have b : ¬ (s.size : Int) < 2 := by omega
  have z : (4 : Int) ≤ (s.size : Int) := by omega
  unfold escape_Read
  simp only [if_neg (ne_nil (show 0 < s.size by omega)), if_pos g, a, ne_eq, not_true, if_false, if_neg b, if_pos g1, e1]
  simp only [show ¬ (120 : Int) = 110 by decide, show ¬ (120 : Int) = 116 by decide, show ¬ (120 : Int) = 114 by decide, if_false, if_true]
  unfold escape_Read_c2
  obtain ⟨x1, x2, x3⟩ := hx_hv (n / 16) (by omega)
  obtain ⟨y1, y2, y3⟩ := hx_hv (n % 16) (by omega)
  obtain ⟨b2, hb2⟩ : ∃ b : Nat, hx (n / 16) = b := ⟨(hx (n / 16)).toNat, by omega⟩
  obtain ⟨b3, hb3⟩ : ∃ b : Nat, hx (n % 16) = b := ⟨(hx (n % 16)).toNat, by omega⟩
  rw [hb2] at x1 x2 x3 e2; rw [hb3] at y1 y2 y3 e3
  simp only [Int.toNat_natCast] at x1 y1
  simp only [if_pos z, if_pos g2, if_pos g3, e2, e3, value_eq b2 (by omega), value_eq b3 (by omega), Option.bind_some, x1, y1]
  rw [if_pos (show (0 : Int) ≤ ((n / 16 : Nat) : Int) by omega), Option.bind_some, if_pos (decide_eq_true (by omega)), or_eq (n / 16) (by omega) (n % 16) (by omega)]
  have : 16 * (n / 16) + n % 16 = n := by omega
  first | rw [this] | simp [this]
theorem in_mem (k : Nat) (c : Int) (q : ByteArray) (hq : q.size ≤ 1000000) : ∀ (m i : Nat), i ≤ q.size → bosketref03_in_l1 k q c m i = some true → ∃ j : Nat, j < q.size ∧ byteAt q j = c
  | 0, i, _, h => by simp [bosketref03_in_l1] at h
  | m + 1, i, hi, h => by
    rw [bosketref03_in_l1.eq_2] at h
    by_cases a : (i : Int) < (q.size : Int)
    · have g : 0 ≤ (i : Int) ∧ (i : Int) < (q.size : Int) := ⟨by omega, a⟩
      simp only [if_pos a, if_pos g] at h
      by_cases b : byteAt q (i : Int) = c
      · exact ⟨i, by omega, b⟩
      · simp only [if_neg b, w64_id (n := (i : Int) + 1) (by omega) (by omega)] at h
        exact in_mem k c q hq m (i + 1) (by omega) (by exact_mod_cast h)
    · rw [if_neg a] at h; cases h
theorem in_not (k : Nat) (c : Int) (q : ByteArray) (hq : q.size ≤ 1000000) : ∀ (m i : Nat), i ≤ q.size → bosketref03_in_l1 k q c m i = some false → ∀ j : Nat, i ≤ j → j < q.size → byteAt q j ≠ c
  | 0, i, _, h => by simp [bosketref03_in_l1] at h
  | m + 1, i, hi, h => by
    intro j h1 h2
    rw [bosketref03_in_l1.eq_2] at h
    by_cases a : (i : Int) < (q.size : Int)
    · have g : 0 ≤ (i : Int) ∧ (i : Int) < (q.size : Int) := ⟨by omega, a⟩
      simp only [if_pos a, if_pos g] at h
      by_cases b : byteAt q (i : Int) = c
      · simp only [if_pos b] at h; cases h
      · simp only [if_neg b, w64_id (n := (i : Int) + 1) (by omega) (by omega)] at h
        rcases Nat.eq_or_lt_of_le h1 with e | e
        · subst e; exact b
        · exact in_not k c q hq m (i + 1) (by omega) (by exact_mod_cast h) j (by omega) h2
    · omega
theorem tbl_ok : ∀ n : Nat, n < 256 → (∀ x ∈ tbl n, 0 ≤ x ∧ x ≤ 255) := by decide +kernel
theorem byte_back (n : Nat) (hn : n < 256) (q : ByteArray) (hq : q.size ≤ 1000) (hs : ∀ j : Nat, j < q.size → sign (byteAt q j)) : ∃ t, escape_Byte 2000 n q = some t ∧ bosketref03_Byte 2000 n q = some t ∧ t.size ≤ 4 ∧ 0 < t.size ∧ (byteAt t 0 = 92 ∨ (byteAt t 0 = n ∧ ¬ special n ∧ ∀ j : Nat, j < q.size → byteAt q j ≠ n)) ∧ ∀ p, escape_Read 2000 (t ++ p) = some ((n : Int), (t.size : Int), true) := by
  obtain ⟨t, t1, t2, t3, t4⟩ := byte_eq (k := 2000) (by omega) n (by omega) (by omega) q hq
  refine ⟨t, t1, t2, ?_⟩
  have app : ∀ (l : List Int) (hl : ∀ x ∈ l, 0 ≤ x ∧ x ≤ 255) (p : ByteArray) (j : Nat) (hj : j < l.length), byteAt (strOfNums l ++ p) (j : Int) = l[j] := by
    intro l hl p j hj
    rw [byteAt_app _ _ j (by rw [strOfNums_size]; exact hj), byteAt_strOf l hl j hj]
  by_cases h : special n
  · have e : t = strOfNums (tbl n) := by
      have z := tbl_eq n hn
      rw [w8_nat n hn, rbyte_special h, ← (special_all n hn h).2, t3 h] at z
      exact Option.some.inj z
    subst e
    have ok := tbl_ok n hn
    have app' := app (tbl n) ok
    have hd : ∀ j (hj : j < (tbl n).length), byteAt (strOfNums (tbl n)) (j : Int) = (tbl n)[j] := fun j hj => byteAt_strOf _ ok j hj
    have hz : (strOfNums (tbl n)).size = (tbl n).length := strOfNums_size _
    have key : ∀ l, tbl n = l → (l = [92, 110] ∧ n = 10) ∨ (l = [92, 116] ∧ n = 9) ∨ (l = [92, 114] ∧ n = 13) ∨ (l = [92, 120, hx (n / 16), hx (n % 16)]) ∨ (l = [92, 92] ∧ n = 92) := by
      intro l e
      unfold tbl at e
      unfold special at h
      by_cases a : n = 10
      · simp [a] at e; simp [a, ← e]
      by_cases b : n = 9
      · simp [b] at e; simp [b, ← e]
      by_cases c : n = 13
      · simp [c] at e; simp [c, ← e]
      simp only [if_neg a, if_neg b, if_neg c] at e
      by_cases d : n < 32 ∨ 126 < n
      · rw [if_pos d] at e; simp [← e]
      · rw [if_neg d] at e
        have : n = 92 := by omega
        simp [this] at e; simp [this, ← e]
    rcases key _ rfl with ⟨e, e2⟩ | ⟨e, e2⟩ | ⟨e, e2⟩ | e | ⟨e, e2⟩
    all_goals
      rw [e] at hz hd app' ⊢
      simp only [List.length_cons, List.length_nil, Nat.zero_add, Nat.reduceAdd] at hz hd app'
      rw [hz]
      refine ⟨by omega, by omega, .inl (hd 0 (by omega)), fun p => ?_⟩
    · exact read_2 _ (by rw [ByteArray.size_append]; omega) (app' p 0 (by omega)) n (.inl ⟨e2, app' p 1 (by omega)⟩)
    · exact read_2 _ (by rw [ByteArray.size_append]; omega) (app' p 0 (by omega)) n (.inr (.inl ⟨e2, app' p 1 (by omega)⟩))
    · exact read_2 _ (by rw [ByteArray.size_append]; omega) (app' p 0 (by omega)) n (.inr (.inr ⟨e2, app' p 1 (by omega)⟩))
    · exact read_x _ (by rw [ByteArray.size_append]; omega) (app' p 0 (by omega)) n hn (app' p 1 (by omega)) (app' p 2 (by omega)) (app' p 3 (by omega))
    · exact read_s _ (by rw [ByteArray.size_append]; omega) (app' p 0 (by omega)) n (by subst e2; decide) (by subst e2; exact app' p 1 (by omega))
  · obtain ⟨r, r1, r2⟩ := plain_l 2000 n q (by omega) 2000 0 (by omega) (by omega)
    have hsp := h
    unfold special at hsp
    have a : ¬ (n : Int) = 10 := by omega
    have b : ¬ (n : Int) = 9 := by omega
    have d : ¬ (n : Int) = 13 := by omega
    have e : ¬ (n : Int) < 32 := by omega
    have f : ¬ (126 : Int) < (n : Int) := by omega
    have g : ¬ (n : Int) = 92 := by omega
    have r2' : escape_Byte 2000 n q = escape_Byte_l1 2000 n q 2000 0 := by
      unfold escape_Byte escape_letter
      simp only [if_neg a, if_neg b, if_neg d, if_neg e, if_neg g, Option.bind_some, ne_eq, not_true, if_false, decide_eq_false f]
      rfl
    rw [r2', show (0 : Int) = ((0 : Nat) : Int) from rfl, r2] at t1
    have t1 := Option.some.inj t1
    cases r
    · simp only [if_neg (show ¬ (false = true) by decide)] at t1
      subst t1
      have ok : ∀ x ∈ [(n : Int)], 0 ≤ x ∧ x ≤ 255 := by simp; omega
      have hz : (strOfNums [(n : Int)]).size = 1 := strOfNums_size _
      have h1 := byteAt_strOf [(n : Int)] ok 0 (by simp)
      refine ⟨by omega, by omega, .inr ⟨h1, h, fun j hj => in_not 2000 n q (by omega) 2000 0 (by omega) r1 j (by omega) hj⟩, fun p => ?_⟩
      have h2 := app [(n : Int)] ok p 0 (by simp)
      rw [read_1 _ (by rw [ByteArray.size_append]; omega) (by rw [show (0 : Int) = ((0 : Nat) : Int) from rfl, h2]; exact g)]
      rw [show (0 : Int) = ((0 : Nat) : Int) from rfl, h2, hz]; rfl
    · simp only [if_true] at t1
      subst t1
      have ok : ∀ x ∈ [(92 : Int), (n : Int)], 0 ≤ x ∧ x ≤ 255 := by simp; omega
      have hz : (strOfNums [(92 : Int), (n : Int)]).size = 2 := strOfNums_size _
      obtain ⟨j, j1, j2⟩ := in_mem 2000 n q (by omega) 2000 0 (by omega) r1
      have hsg := hs j j1
      rw [j2] at hsg
      refine ⟨by omega, by omega, .inl (byteAt_strOf [(92 : Int), (n : Int)] ok 0 (by simp)), fun p => ?_⟩
      rw [hz]
      exact read_s _ (by rw [ByteArray.size_append]; omega) (app _ ok p 0 (by simp)) n hsg (app _ ok p 1 (by simp))


/-- What a byte is written as, between such quotes. -/
def bt (q : Int) (n : Int) : ByteArray := (escape_Byte 2000 n (strOfNums [q])).getD (ByteArray.mk #[])
def catn (q : Int) (s : ByteArray) : Nat → Nat → ByteArray
  | _, 0 => ByteArray.mk #[]
  | i, m + 1 => bt q (byteAt s i) ++ catn q s (i + 1) m
def lst (s : ByteArray) : Nat → Nat → List Int
  | _, 0 => []
  | i, m + 1 => byteAt s i :: lst s (i + 1) m
def quo (q : Int) : Prop := sign q ∧ q ≠ 92
theorem bt_ok {q : Int} (hq : quo q) (n : Int) (h0 : 0 ≤ n) (h1 : n ≤ 255) : escape_Byte 2000 n (strOfNums [q]) = some (bt q n) ∧ bosketref03_Byte 2000 n (strOfNums [q]) = some (bt q n) ∧ (bt q n).size ≤ 4 ∧ 0 < (bt q n).size ∧ byteAt (bt q n) 0 ≠ q ∧ byteAt (bt q n) 0 ≠ 10 ∧ ∀ p, escape_Read 2000 (bt q n ++ p) = some (n, ((bt q n).size : Int), true) := by
  obtain ⟨k, rfl⟩ : ∃ k : Nat, n = k := ⟨n.toNat, by omega⟩
  have qr : 0 ≤ q ∧ q ≤ 255 := by have := hq.1; unfold sign at this; omega
  have hz : (strOfNums [q]).size = 1 := strOfNums_size _
  have hb := byteAt_strOf [q] (by simp; omega) 0 (by simp)
  have hb' : byteAt (strOfNums [q]) ((0 : Nat) : Int) = q := hb
  obtain ⟨t, t1, t2, t3, t4, t5, t6⟩ := byte_back k (by omega) (strOfNums [q]) (by omega) (fun j hj => by
    have : j = 0 := by omega
    subst this; rw [hb']; exact hq.1)
  have e : bt q k = t := by unfold bt; rw [t1]; rfl
  rw [e]
  refine ⟨t1, t2, t3, t4, ?_, ?_, t6⟩
  · rcases t5 with h | ⟨h, h', h''⟩
    · rw [h]; exact fun e => hq.2 e.symm
    · rw [h]; have := h'' 0 (by omega); rw [hb'] at this; exact fun e => this e.symm
  · rcases t5 with h | ⟨h, h', _⟩
    · rw [h]; decide
    · rw [h]; unfold special at h'; omega
theorem catn_size {q : Int} (hq : quo q) (s : ByteArray) : ∀ (m i : Nat), (catn q s i m).size ≤ 4 * m
  | 0, i => by rw [catn, emp_size]; omega
  | m + 1, i => by
    have := catn_size hq s m (i + 1)
    have h := byteAt_u8 s i
    obtain ⟨_, _, h3, _⟩ := bt_ok hq (byteAt s i) h.1 h.2
    rw [catn, ByteArray.size_append]; omega
theorem quote_l {q : Int} (hq : quo q) (s : ByteArray) (hs : s.size ≤ 1000) : ∀ (m i fuel : Nat) (acc : ByteArray), i + m = s.size → m < fuel → acc.size + 4 * m ≤ 100000 →
    escape_Quote_l1 2000 s q fuel acc i = some (acc ++ catn q s i m ++ strOfNums [q]) ∧ bosketref03_Quote_l1 2000 s q fuel acc i = some (acc ++ catn q s i m ++ strOfNums [q])
  | 0, i, f + 1, acc, h, _, hz => by
    have hz1 : (strOfNums [q]).size = 1 := strOfNums_size _
    have h1 : ¬ ((i : Int) < (s.size : Int)) := by omega
    have e : acc ++ catn q s i 0 = acc := by apply ByteArray.ext; apply Array.ext'; simp [catn]
    rw [e, escape_Quote_l1.eq_2, bosketref03_Quote_l1.eq_2, if_neg h1, if_neg h1, escape_Quote_c0, bosketref03_Quote_c0, if_pos (by omega)]
    exact ⟨rfl, rfl⟩
  | m + 1, i, f + 1, acc, h, hf, hz => by
    have h1 : (i : Int) < (s.size : Int) := by omega
    have g : 0 ≤ (i : Int) ∧ (i : Int) < (s.size : Int) := ⟨by omega, h1⟩
    have hb := byteAt_u8 s i
    obtain ⟨b1, b2, b3, _⟩ := bt_ok hq (byteAt s i) hb.1 hb.2
    have ih := quote_l hq s hs m (i + 1) f (acc ++ bt q (byteAt s i)) (by omega) (by omega) (by rw [ByteArray.size_append]; omega)
    rw [escape_Quote_l1.eq_2, bosketref03_Quote_l1.eq_2, if_pos h1, if_pos h1, if_pos g, if_pos g, b1, b2, Option.bind_some, Option.bind_some, if_pos (by omega), if_pos (by omega), w64_id (n := (i : Int) + 1) (by omega) (by omega)]
    have e : acc ++ catn q s i (m + 1) = acc ++ bt q (byteAt s i) ++ catn q s (i + 1) m := by rw [catn, app_assoc]
    rw [e]
    exact_mod_cast ih
theorem lst_range (s : ByteArray) : ∀ (m i : Nat), lst s i m = (List.range m).map fun j : Nat => byteAt s ((i + j : Nat) : Int)
  | 0, i => rfl
  | m + 1, i => by
    rw [lst, lst_range s m (i + 1), List.range_succ_eq_map, List.map_cons, List.map_map]
    congr 1
    apply List.map_congr_left
    intro j _
    show byteAt s _ = byteAt s _
    congr 2; simp; omega
theorem lst_all (s : ByteArray) : strOfNums (lst s 0 s.size) = s := by
  rw [lst_range, as_bytes s]
  conv => rhs; rw [as_bytes s]
  rw [← as_bytes s]
  congr 1
  apply List.map_congr_left
  intro j _
  simp
theorem unquote_l {q : Int} (hq : quo q) (s t : ByteArray) (hs : s.size ≤ 1000) (ht : t.size ≤ 1000000) : ∀ (m i fuel : Nat) (a : ByteArray) (acc : List Int), i + m = s.size → m < fuel → a.size + 4 * m ≤ 100000 → acc.length + m ≤ 100000 →
    escape_Unquote_l1 2000 (a ++ (catn q s i m ++ (strOfNums [q] ++ t))) q fuel acc a.size = some (strOfNums (acc ++ lst s i m), ((a.size + (catn q s i m).size + 1 : Nat) : Int), true)
  | 0, i, f + 1, a, acc, h, _, hz, hl => by
    have qr : 0 ≤ q ∧ q ≤ 255 := by have := hq.1; unfold sign at this; omega
    have hz1 : (strOfNums [q]).size = 1 := strOfNums_size _
    have e : catn q s i 0 ++ (strOfNums [q] ++ t) = strOfNums [q] ++ t := by apply ByteArray.ext; apply Array.ext'; simp [catn]
    rw [e, escape_Unquote_l1.eq_2]
    have h1 : (a.size : Int) < ((a ++ (strOfNums [q] ++ t)).size : Int) := by rw [ByteArray.size_append, ByteArray.size_append]; omega
    have g : 0 ≤ (a.size : Int) ∧ (a.size : Int) < ((a ++ (strOfNums [q] ++ t)).size : Int) := ⟨by omega, h1⟩
    have hb : byteAt (a ++ (strOfNums [q] ++ t)) (a.size : Int) = q := by
      have := byteAt_right a (strOfNums [q] ++ t) 0 (by rw [ByteArray.size_append]; omega)
      rw [Nat.add_zero] at this
      rw [this, byteAt_app _ _ 0 (by omega), byteAt_strOf [q] (by simp; omega) 0 (by simp)]; rfl
    rw [if_pos h1, if_pos g, if_pos hb, w64_id (by omega) (by omega)]
    simp [catn, lst, emp_size]
  | m + 1, i, f + 1, a, acc, h, hf, hz, hl => by
    have hb := byteAt_u8 s i
    obtain ⟨b1, b2, b3, b4, b5, b6, b7⟩ := bt_ok hq (byteAt s i) hb.1 hb.2
    generalize hR : catn q s (i + 1) m ++ (strOfNums [q] ++ t) = R
    have eS : a ++ (catn q s i (m + 1) ++ (strOfNums [q] ++ t)) = a ++ (bt q (byteAt s i) ++ R) := by rw [catn, app_assoc (bt q (byteAt s i)), hR]
    rw [eS, escape_Unquote_l1.eq_2]
    have sz : (a ++ (bt q (byteAt s i) ++ R)).size = a.size + ((bt q (byteAt s i)).size + R.size) := by rw [ByteArray.size_append, ByteArray.size_append]
    have h1 : (a.size : Int) < ((a ++ (bt q (byteAt s i) ++ R)).size : Int) := by omega
    have g : 0 ≤ (a.size : Int) ∧ (a.size : Int) < ((a ++ (bt q (byteAt s i) ++ R)).size : Int) := ⟨by omega, h1⟩
    have hd : byteAt (a ++ (bt q (byteAt s i) ++ R)) (a.size : Int) = byteAt (bt q (byteAt s i)) 0 := by
      have := byteAt_right a (bt q (byteAt s i) ++ R) 0 (by rw [ByteArray.size_append]; omega)
      rw [Nat.add_zero] at this
      rw [this, byteAt_app _ _ 0 (by omega)]; rfl
    have ex : (a ++ (bt q (byteAt s i) ++ R)).extract (a.size : Int).toNat (((a ++ (bt q (byteAt s i) ++ R)).size : Nat) : Int).toNat = bt q (byteAt s i) ++ R := by
      rw [Int.toNat_natCast, Int.toNat_natCast]; exact extract_right _ _
    rw [if_pos h1, if_pos g, if_neg (by rw [hd]; exact b5), if_pos ⟨by omega, by omega, by omega⟩, ex, b7, Option.bind_some]
    dsimp only
    rw [if_neg (by simp), if_pos g, hd, Option.bind_some, if_neg (by simpa using b6), if_pos (by simp; omega), w64_id (by omega) (by omega)]
    have ih := unquote_l hq s t hs ht m (i + 1) f (a ++ bt q (byteAt s i)) (acc ++ [byteAt s i]) (by omega) (by omega) (by rw [ByteArray.size_append]; omega) (by simp; omega)
    rw [app_assoc, hR, ByteArray.size_append] at ih
    push_cast at ih ⊢
    rw [ih]
    simp only [Option.some.injEq, Prod.mk.injEq, and_true]
    refine ⟨by rw [lst]; simp, ?_⟩
    rw [catn, ByteArray.size_append]; push_cast; omega
end Go.Avl.T2
/- Texts between quotes, and what is left of one. -/
namespace Go.Avl.T2
open Go Go.RowKit Go.Proofs Go.Avl
set_option linter.all false
set_option maxRecDepth 10000

abbrev B32 : ByteArray := ByteArray.mk #[32]
theorem B32_size : B32.size = 1 := rfl
theorem app_nil (s : ByteArray) : s ++ ByteArray.mk #[] = s := by apply ByteArray.ext; apply Array.ext'; simp
theorem nil_app (s : ByteArray) : ByteArray.mk #[] ++ s = s := by apply ByteArray.ext; apply Array.ext'; simp
theorem D_len {n : Int} (h : I64 n) : (D n).length ≤ 20 := by
  have hl := dg_len 19 n.natAbs (by unfold I64 at h; omega) (by omega)
  unfold D; split
  · rw [List.length_cons]; omega
  · omega
/-- A text between quotes. -/
def Q (t : ByteArray) : ByteArray := strOfNums [34] ++ catn 34 t 0 t.size ++ strOfNums [34]
theorem quo34 : quo 34 := by unfold quo sign; omega
theorem Q_size (t : ByteArray) : (Q t).size ≤ 4 * t.size + 2 := by
  have := catn_size quo34 t t.size 0
  have hz1 : (strOfNums [(34 : Int)]).size = 1 := strOfNums_size _
  unfold Q; rw [ByteArray.size_append, ByteArray.size_append]; omega
theorem Q_eq {t : ByteArray} (h : t.size ≤ 1000) : escape_Quote 2000 t 34 = some (Q t) ∧ bosketref03_Quote 2000 t 34 = some (Q t) := by
  have hz1 : (strOfNums [(34 : Int)]).size = 1 := strOfNums_size _
  exact quote_l quo34 t (by omega) t.size 0 2000 (strOfNums [(34 : Int)]) (by omega) (by omega) (by omega)
theorem Q_back {t p : ByteArray} (h : t.size ≤ 1000) (hp : p.size ≤ 1000000) : escape_Unquote 2000 (Q t ++ p) 34 = some (t, ((Q t).size : Int), true) := by
  have hz1 : (strOfNums [(34 : Int)]).size = 1 := strOfNums_size _
  have x := unquote_l quo34 t p (by omega) (by omega) t.size 0 2000 (strOfNums [(34 : Int)]) [] (by omega) (by omega) (by omega) (by simp; omega)
  have eX : Q t ++ p = strOfNums [(34 : Int)] ++ (catn 34 t 0 t.size ++ (strOfNums [(34 : Int)] ++ p)) := by unfold Q; rw [app_assoc, app_assoc]
  have sX : (strOfNums [(34 : Int)] ++ (catn 34 t 0 t.size ++ (strOfNums [(34 : Int)] ++ p))).size = 1 + ((catn 34 t 0 t.size).size + (1 + p.size)) := by rw [ByteArray.size_append, ByteArray.size_append, ByteArray.size_append, hz1]
  have hs : (Q t).size = 1 + (catn 34 t 0 t.size).size + 1 := by unfold Q; rw [ByteArray.size_append, ByteArray.size_append, hz1]
  have g : 0 ≤ (0 : Int) ∧ (0 : Int) < ((strOfNums [(34 : Int)] ++ (catn 34 t 0 t.size ++ (strOfNums [(34 : Int)] ++ p))).size : Int) := ⟨by omega, by omega⟩
  have hq : byteAt (strOfNums [(34 : Int)] ++ (catn 34 t 0 t.size ++ (strOfNums [(34 : Int)] ++ p))) 0 = 34 := by
    have := byteAt_app (strOfNums [(34 : Int)]) (catn 34 t 0 t.size ++ (strOfNums [(34 : Int)] ++ p)) 0 (by omega)
    rw [show (0 : Int) = ((0 : Nat) : Int) from rfl, this, byteAt_strOf [(34 : Int)] (by simp) 0 (by simp)]; rfl
  rw [eX, hs]
  unfold escape_Unquote
  rw [if_neg (ne_nil (by omega)), if_pos g, Option.bind_some, if_neg (by simpa using hq)]
  rw [hz1, List.nil_append, lst_all] at x
  exact x
theorem extract_left (a b : ByteArray) : (a ++ b).extract 0 a.size = a := by
  have ha : a.data.toList.length = a.size := Array.length_toList
  have hb : b.data.toList.length = b.size := Array.length_toList
  apply ByteArray.ext; apply Array.ext'
  rw [ByteArray.data_extract]
  simp
  exact List.take_of_length_le (by omega)
end Go.Avl.T2
/- Lines and columns. -/
namespace Go.Avl.T2
open Go Go.RowKit Go.Proofs Go.Avl
set_option linter.all false
set_option maxRecDepth 10000

/-- The line and the column of a place. -/
def pos (s : ByteArray) : Nat → Nat × Nat
  | 0 => (1, 1)
  | i + 1 => if byteAt s i = 10 then ((pos s i).1 + 1, 1) else ((pos s i).1, (pos s i).2 + 1)
/-! What the library's searches find. -/
theorem find_idx (s : ByteArray) (c : Int) (hc : 0 ≤ c ∧ c ≤ 255) : (idxByte s c = -1 ∧ ∀ i : Nat, i < s.size → byteAt s i ≠ c) ∨ ∃ i : Nat, idxByte s c = i ∧ i < s.size ∧ byteAt s i = c ∧ ∀ j : Nat, j < i → byteAt s j ≠ c := by
  have key : ∀ i, i < s.size → ((s[i]! == c.toNat.toUInt8) = true ↔ byteAt s (i : Int) = c) := by
    intro i hi
    have e1 : s[i]! = s[i] := getElem!_pos s i hi
    have e2 : byteAt s (i : Int) = ((s[i]).toNat : Int) := by unfold byteAt; rw [dif_pos (show (i : Int).toNat < s.size by omega)]; rfl
    rw [e1, e2, beq_iff_eq]
    have h1 := (s[i]).toNat_lt
    constructor
    · intro h; rw [h]; simp; omega
    · intro h; apply UInt8.toNat_inj.1; simp; omega
  unfold idxByte firstIdx
  cases h : (List.range s.size).find? (fun i => s[i]! == c.toNat.toUInt8) with
  | none =>
    left
    refine ⟨rfl, fun i hi e => ?_⟩
    have := List.find?_range_eq_none.1 h i hi
    rw [(key i hi).2 e] at this; cases this
  | some i =>
    right
    obtain ⟨h1, h2, h3⟩ := List.find?_range_eq_some.1 h
    have hi := List.mem_range.1 h2
    refine ⟨i, rfl, hi, (key i hi).1 h1, fun j hj e => ?_⟩
    have := h3 j hj
    rw [(key j (by omega)).2 e] at this; cases this
end Go.Avl.T2
/- Ops: what a kind has, an op's line. -/
namespace Go.Avl.T2
open Go Go.RowKit Go.Proofs Go.Avl
set_option linter.all false
set_option maxRecDepth 10000

def fm (k : Int) : ByteArray × Bool × Bool := (bosketref47_Form 2000 k).getD (ByteArray.mk #[], false, false)
theorem form_eq (k : Int) : op_Form 2000 k = some (fm k) ∧ bosketref47_Form 2000 k = some (fm k) := by
  have near : ∀ n : Nat, n < 12 → op_Form 2000 n = some (fm n) ∧ bosketref47_Form 2000 n = some (fm n) := by decide +kernel
  by_cases a : 1 ≤ k ∧ k ≤ 11
  · obtain ⟨n, rfl⟩ : ∃ n : Nat, k = n := ⟨k.toNat, by omega⟩
    exact near n (by omega)
  · have h2 : bosketref47_Form 2000 k = some (ByteArray.mk #[], false, false) := by
      unfold bosketref47_Form
      by_cases b : k < 1
      · rw [if_pos b, Option.bind_some, if_pos rfl]
      · rw [if_neg b, Option.bind_some, if_pos (decide_eq_true (by omega))]
    have h1 : op_Form 2000 k = some (ByteArray.mk #[], false, false) := by
      unfold op_Form
      by_cases b : k < 1
      · rw [if_pos b, Option.bind_some, if_pos rfl]
      · rw [if_neg b, Option.bind_some, if_pos (decide_eq_true (by omega))]
    unfold fm; rw [h1, h2]; exact ⟨rfl, rfl⟩
theorem fm_far {k : Int} (h : ¬ (1 ≤ k ∧ k ≤ 11)) : fm k = (ByteArray.mk #[], false, false) := by
  unfold fm
  have h2 : bosketref47_Form 2000 k = some (ByteArray.mk #[], false, false) := by
    unfold bosketref47_Form
    by_cases b : k < 1
    · rw [if_pos b, Option.bind_some, if_pos rfl]
    · rw [if_neg b, Option.bind_some, if_pos (decide_eq_true (by omega))]
  rw [h2]; rfl
/-- The words: not empty, short, without blanks, all different. -/
theorem words : ∀ n : Nat, n < 12 → 1 ≤ n → 0 < (fm n).1.size ∧ (fm n).1.size ≤ 7 ∧ (∀ j : Nat, j < 8 → j < (fm n).1.size → byteAt (fm n).1 j ≠ 32) := by decide +kernel
theorem words_inj : ∀ n : Nat, n < 12 → ∀ m : Nat, m < 12 → 1 ≤ n → 1 ≤ m → (fm n).1 = (fm m).1 → n = m := by decide +kernel
theorem word_ok {k : Int} (h : 1 ≤ k ∧ k ≤ 11) : 0 < (fm k).1.size ∧ (fm k).1.size ≤ 7 ∧ (∀ j : Nat, j < (fm k).1.size → byteAt (fm k).1 j ≠ 32) := by
  obtain ⟨n, rfl⟩ : ∃ n : Nat, k = n := ⟨k.toNat, by omega⟩
  obtain ⟨h1, h2, h3⟩ := words n (by omega) (by omega)
  exact ⟨h1, h2, fun j hj => h3 j (by omega) hj⟩
theorem word_inj {k m : Int} (h : 1 ≤ k ∧ k ≤ 11) (h' : 1 ≤ m ∧ m ≤ 11) (e : (fm k).1 = (fm m).1) : k = m := by
  obtain ⟨n, rfl⟩ : ∃ n : Nat, k = n := ⟨k.toNat, by omega⟩
  obtain ⟨n', rfl⟩ : ∃ n : Nat, m = n := ⟨m.toNat, by omega⟩
  have := words_inj n (by omega) n' (by omega) (by omega) (by omega) e
  omega
/-- May it be? -/
def rt (o : S55) : Bool := decide (1 ≤ o.f0 ∧ o.f0 ≤ 11) && ((fm o.f0).2.1 || decide (o.f2 = ByteArray.mk #[])) && ((fm o.f0).2.2 || decide (o.f1 = 0)) && decide ((o.f2.size : Int) ≤ 65536)
theorem right_eq (o : S55) : _op_Op_Right 2000 o = some (rt o) := by
  unfold _op_Op_Right
  rw [(form_eq o.f0).1, Option.bind_some]
  by_cases a : 1 ≤ o.f0 ∧ o.f0 ≤ 11
  · have hw := (word_ok a).1
    have hne : (fm o.f0).1 ≠ ByteArray.mk #[] := by intro e; rw [e] at hw; exact absurd hw (by decide)
    rw [if_pos hne]
    unfold rt
    cases (fm o.f0).2.1 <;> cases (fm o.f0).2.2 <;> simp only [a, decide_true, Bool.true_and, Bool.true_or, Bool.false_or, Bool.false_eq_true, if_true, if_false] <;> by_cases b : o.f2 = ByteArray.mk #[] <;> by_cases c : o.f1 = 0 <;> simp [b, c]
  · have e := fm_far a
    rw [if_neg (by rw [e]; simp), Option.bind_some]
    unfold rt; simp [a]
theorem rright_eq (o : S55) : bosketref47_Right 2000 ⟨o.f0, o.f1, o.f2⟩ = some (rt o) := by
  unfold bosketref47_Right
  dsimp only
  rw [(form_eq o.f0).2, Option.bind_some]
  by_cases a : 1 ≤ o.f0 ∧ o.f0 ≤ 11
  · rw [if_pos a.1, if_pos a.2]
    unfold rt
    cases (fm o.f0).2.1 <;> cases (fm o.f0).2.2 <;> simp only [a, decide_true, Bool.true_and, Bool.true_or, Bool.false_or, Bool.false_eq_true, if_true, if_false] <;> by_cases b : o.f2 = ByteArray.mk #[] <;> by_cases c : o.f1 = 0 <;> simp [b, c]
  · have hf : rt o = false := by unfold rt; simp [a]
    rw [hf]
    by_cases b : 1 ≤ o.f0
    · rw [if_pos b, if_neg (fun h => a ⟨b, h⟩), Option.bind_some]
    · rw [if_neg b, Option.bind_some]
/-- Behind a word: the text, and the number. -/
def numt (o : S55) : ByteArray := if (fm o.f0).2.2 = true then B32 ++ strOfNums (D o.f1) else ByteArray.mk #[]
def tail (o : S55) : ByteArray := if (fm o.f0).2.1 = true then B32 ++ (Q o.f2 ++ numt o) else numt o
/-- An op's line. -/
def ln (o : S55) : ByteArray := if rt o = true then (fm o.f0).1 ++ tail o else ByteArray.mk #[]
theorem rt_kind {o : S55} (h : rt o = true) : 1 ≤ o.f0 ∧ o.f0 ≤ 11 := by
  unfold rt at h; simp only [Bool.and_eq_true, decide_eq_true_eq] at h; exact h.1.1.1
theorem rt_text {o : S55} (h : rt o = true) (ht : (fm o.f0).2.1 = false) : o.f2 = ByteArray.mk #[] := by
  unfold rt at h; simp only [Bool.and_eq_true, Bool.or_eq_true, decide_eq_true_eq, ht, Bool.false_eq_true, false_or] at h; exact h.1.1.2
theorem rt_num {o : S55} (h : rt o = true) (ht : (fm o.f0).2.2 = false) : o.f1 = 0 := by
  unfold rt at h; simp only [Bool.and_eq_true, Bool.or_eq_true, decide_eq_true_eq, ht, Bool.false_eq_true, false_or] at h; exact h.1.2
theorem numt_size {o : S55} (hn : I64 o.f1) : (numt o).size ≤ 21 := by
  have := D_len hn
  unfold numt; split
  · rw [ByteArray.size_append, strOfNums_size, B32_size]; omega
  · rw [emp_size]; omega
theorem line_eq {o : S55} (hn : I64 o.f1) (ht : o.f2.size ≤ 1000) : _op_Op_Line 2000 o = some (ln o) ∧ bosketref47_Line 2000 ⟨o.f0, o.f1, o.f2⟩ = some (ln o) := by
  unfold _op_Op_Line bosketref47_Line
  rw [right_eq, rright_eq, Option.bind_some, Option.bind_some]
  by_cases a : rt o = true
  · have hk := rt_kind a
    have hw := word_ok hk
    obtain ⟨q1, q2⟩ := Q_eq ht
    have hq := Q_size o.f2
    have hd := D_len hn
    have e : ln o = (fm o.f0).1 ++ tail o := by unfold ln; rw [if_pos a]
    rw [if_neg (by simp [a]), if_neg (by simp [a]), (form_eq o.f0).1, (form_eq o.f0).2, Option.bind_some, Option.bind_some]
    dsimp only
    have key : ∀ x : ByteArray, x.size ≤ 10000 → _op_Op_Line_c1 2000 o (fm o.f0) x = some (x ++ numt o) ∧ bosketref47_Line_c1 2000 ⟨o.f0, o.f1, o.f2⟩ (fm o.f0) x = some (x ++ numt o) := by
      intro x hx
      unfold _op_Op_Line_c1 bosketref47_Line_c1 _op_Op_Line_c0 bosketref47_Line_c0 numt
      by_cases b : (fm o.f0).2.2 = true
      · have s1 : (ByteArray.mk #[32] ++ strOfNums (D o.f1)).size ≤ 21 := by rw [ByteArray.size_append, strOfNums_size, B32_size]; omega
        have s2 : (strOfNums (D o.f1)).size ≤ 20 := by rw [strOfNums_size]; omega
        have s3 : (x ++ ByteArray.mk #[32]).size ≤ 10001 := by rw [ByteArray.size_append, B32_size]; omega
        have d1 : spot_Digits 2000 o.f1 = some (strOfNums (D o.f1)) := by unfold spot_Digits; rw [digits_eq hn, Option.bind_some]
        rw [if_pos b, if_pos b, if_pos b, d1, Option.bind_some, if_pos (by rw [B32_size]; omega), if_pos (by omega), if_pos (by rw [B32_size]; omega)]
        dsimp only
        rw [rdigits_eq hn, Option.bind_some, if_pos (by omega), app_assoc]
        exact ⟨rfl, rfl⟩
      · rw [if_neg b, if_neg b, if_neg b, app_nil]; exact ⟨rfl, rfl⟩
    rw [e]; unfold tail
    by_cases b : (fm o.f0).2.1 = true
    · have s1 : (ByteArray.mk #[32] ++ Q o.f2).size ≤ 4003 := by rw [ByteArray.size_append, B32_size]; omega
      have s3 : ((fm o.f0).1 ++ ByteArray.mk #[32]).size ≤ 8 := by rw [ByteArray.size_append, B32_size]; omega
      have s4 : ((fm o.f0).1 ++ (ByteArray.mk #[32] ++ Q o.f2)).size ≤ 10000 := by rw [ByteArray.size_append]; omega
      obtain ⟨k1, k2⟩ := key ((fm o.f0).1 ++ (B32 ++ Q o.f2)) s4
      rw [if_pos b, if_pos b, if_pos b, q1, q2, Option.bind_some, Option.bind_some, if_pos (by rw [B32_size]; omega), if_pos (by omega), if_pos (by rw [B32_size]; omega), if_pos (by omega)]
      rw [app_assoc (fm o.f0).1 B32, k1, k2, app_assoc, app_assoc]
      exact ⟨rfl, rfl⟩
    · obtain ⟨k1, k2⟩ := key (fm o.f0).1 (by omega)
      rw [if_neg b, if_neg b, if_neg b, k1, k2]
      exact ⟨rfl, rfl⟩
  · have e : ln o = ByteArray.mk #[] := by unfold ln; rw [if_neg a]
    have a' : rt o = false := by simpa using a
    rw [a', if_pos (show (!false) = true from rfl), if_pos (show (!false) = true from rfl), e]; exact ⟨rfl, rfl⟩
end Go.Avl.T2
/- Ops: a line read. -/
namespace Go.Avl.T2
open Go Go.RowKit Go.Proofs Go.Avl
set_option linter.all false
set_option maxRecDepth 10000

theorem index_eq (s : ByteArray) : internal_stringslite_Index 2000 s B32 = some (idxByte s 32) := by
  unfold internal_stringslite_Index internal_stringslite_IndexByte
  have e2 : byteAt B32 0 = 32 := rfl
  rw [B32_size, if_neg (by decide), Option.bind_some]
  by_cases a : B32 = s
  · rw [if_pos (decide_eq_true a), ← a]
    congr 1
  · rw [if_neg (by simpa using a), if_pos (by decide), if_pos (by decide), e2, Option.bind_some]
/-- A line cut at its first blank. -/
theorem cut_yes {w b : ByteArray} (hw : ∀ j : Nat, j < w.size → byteAt w j ≠ 32) (hz : w.size + b.size ≤ 100000) : strings_Cut 2000 (w ++ (B32 ++ b)) B32 = some (w, b, true) := by
  have hs : (w ++ (B32 ++ b)).size = w.size + (1 + b.size) := by rw [ByteArray.size_append, ByteArray.size_append, B32_size]
  have hat : byteAt (w ++ (B32 ++ b)) (w.size : Int) = 32 := by
    have := byteAt_right w (B32 ++ b) 0 (by rw [ByteArray.size_append, B32_size]; omega)
    rw [Nat.add_zero] at this
    rw [this, byteAt_app _ _ 0 (by rw [B32_size]; omega)]; rfl
  have hi : idxByte (w ++ (B32 ++ b)) 32 = (w.size : Int) := by
    rcases find_idx (w ++ (B32 ++ b)) 32 (by omega) with ⟨_, h2⟩ | ⟨i, h1, h2, h3, h4⟩
    · exact absurd hat (h2 w.size (by omega))
    · rw [h1]
      rcases Nat.lt_trichotomy i w.size with c | c | c
      · rw [byteAt_app _ _ i c] at h3; exact absurd h3 (hw i c)
      · rw [c]
      · exact absurd hat (h4 w.size c)
  unfold strings_Cut internal_stringslite_Cut
  rw [index_eq, Option.bind_some, hi, B32_size, hs]
  have e1 : w64 ((w.size : Int) + ((1 : Nat) : Int)) = ((w.size + 1 : Nat) : Int) := by rw [w64_id (by omega) (by omega)]; omega
  rw [e1, if_pos (by omega), if_pos ⟨by omega, by omega, by omega⟩, if_pos ⟨by omega, by omega, by omega⟩, Option.bind_some]
  have e2 : (w ++ (B32 ++ b)).extract (0 : Int).toNat (w.size : Int).toNat = w := by
    rw [show (0 : Int).toNat = 0 from rfl, Int.toNat_natCast]; exact extract_left _ _
  have e3 : (w ++ (B32 ++ b)).extract ((w.size + 1 : Nat) : Int).toNat ((w.size + (1 + b.size) : Nat) : Int).toNat = b := by
    have := extract_right (w ++ B32) b
    rw [app_assoc, hs, ByteArray.size_append, B32_size] at this
    rw [Int.toNat_natCast, Int.toNat_natCast]; exact this
  rw [e2, e3]
theorem cut_no {w : ByteArray} (hw : ∀ j : Nat, j < w.size → byteAt w j ≠ 32) : strings_Cut 2000 w B32 = some (w, ByteArray.mk #[], false) := by
  have hi : idxByte w 32 = -1 := by
    rcases find_idx w 32 (by omega) with ⟨h1, _⟩ | ⟨i, h1, h2, h3, h4⟩
    · exact h1
    · exact absurd h3 (hw i h2)
  unfold strings_Cut internal_stringslite_Cut
  rw [index_eq, Option.bind_some, hi, if_neg (by decide), Option.bind_some]
/-- The kind of a word. -/
def KindOf (w : ByteArray) (r : Int) : Prop := (1 ≤ r ∧ r ≤ 11 ∧ (fm r).1 = w) ∨ (r = 0 ∧ ∀ j : Int, 1 ≤ j → j ≤ 11 → (fm j).1 ≠ w)
theorem kind_l (w : ByteArray) : ∀ (m i fuel : Nat), i + m = 12 → m < fuel → 1 ≤ i → (∀ j : Int, 1 ≤ j → j < i → (fm j).1 ≠ w) → ∃ r, op_Kind_l1 2000 w fuel i = some r ∧ KindOf w r
  | 0, i, f + 1, h, _, _, hn => by
    rw [op_Kind_l1.eq_2, if_neg (by omega)]
    exact ⟨0, rfl, .inr ⟨rfl, fun j h1 h2 => hn j h1 (by omega)⟩⟩
  | m + 1, i, f + 1, h, hf, h1, hn => by
    rw [op_Kind_l1.eq_2, if_pos (by omega), (form_eq i).1, Option.bind_some]
    by_cases a : (fm i).1 = w
    · rw [if_pos a]; exact ⟨_, rfl, .inl ⟨by omega, by omega, a⟩⟩
    · rw [if_neg a, w64_id (by omega) (by omega)]
      exact_mod_cast kind_l w m (i + 1) f (by omega) (by omega) (by omega) (fun j j1 j2 => by
        by_cases b : j < i
        · exact hn j j1 b
        · have : j = i := by omega
          subst this; exact a)
theorem kind_eq (w : ByteArray) : ∃ r, op_Kind 2000 w = some r ∧ KindOf w r := kind_l w 11 1 2000 (by omega) (by omega) (by omega) (fun j h1 h2 => by omega)
theorem KindOf.one {w : ByteArray} {r k : Int} (h : KindOf w r) (hk : 1 ≤ k ∧ k ≤ 11) (e : (fm k).1 = w) : r = k := by
  rcases h with ⟨h1, h2, h3⟩ | ⟨_, h2⟩
  · exact word_inj ⟨h1, h2⟩ hk (by rw [h3, e])
  · exact absurd e (h2 k hk.1 hk.2)
theorem kind_word {k : Int} (hk : 1 ≤ k ∧ k ≤ 11) : op_Kind 2000 (fm k).1 = some k := by
  obtain ⟨r, r1, r2⟩ := kind_eq (fm k).1
  rw [r1, r2.one hk rfl]
/-! The program's Read. -/
def Err : S55 × Int := (⟨0, 0, ByteArray.empty⟩, 24)
theorem read_c0 (line : ByteArray) {o : S55} (hn : I64 o.f1) (ht : o.f2.size ≤ 1000) : op_Read_c0 2000 line o.f0 o.f2 o.f1 = some (if rt o = true ∧ ln o = line then (o, 0) else Err) := by
  unfold op_Read_c0
  have e : S55.mk o.f0 o.f1 o.f2 = o := rfl
  rw [e, right_eq, Option.bind_some]
  cases a : rt o
  · rw [if_pos (by rfl), Option.bind_some, if_pos rfl, if_neg (fun h => by cases h.1)]; rfl
  · rw [if_neg (by decide), (line_eq hn ht).1, Option.bind_some, Option.bind_some]
    by_cases b : ln o = line
    · rw [if_neg (by simpa using b), if_pos ⟨rfl, b⟩]
    · rw [if_pos (by simpa using b), if_neg (fun h => b h.2)]; rfl
theorem pre_eq (s : ByteArray) (p : ByteArray) (hz : p.size ≤ s.size) : internal_stringslite_HasPrefix 2000 s p = some (decide (s.extract 0 p.size = p)) := by
  unfold internal_stringslite_HasPrefix
  rw [if_pos (by omega), if_pos ⟨by omega, by omega, by omega⟩, Option.bind_some]; simp
theorem trim_num {o : S55} : strings_TrimPrefix 2000 (numt o) B32 = some (if (fm o.f0).2.2 = true then strOfNums (D o.f1) else ByteArray.mk #[]) := by
  unfold numt
  by_cases a : (fm o.f0).2.2 = true
  · rw [if_pos a, if_pos a]
    unfold strings_TrimPrefix internal_stringslite_TrimPrefix
    have hs : (B32 ++ strOfNums (D o.f1)).size = 1 + (strOfNums (D o.f1)).size := by rw [ByteArray.size_append, B32_size]
    have e1 : (B32 ++ strOfNums (D o.f1)).extract 0 B32.size = B32 := extract_left _ _
    rw [pre_eq _ _ (by rw [hs, B32_size]; omega), e1, Option.bind_some, if_pos (by simp), if_pos ⟨by omega, by rw [hs, B32_size]; omega, by omega⟩, Option.bind_some, Int.toNat_natCast, Int.toNat_natCast, extract_right]
  · rw [if_neg a, if_neg a]
    decide +kernel
theorem read_line {o : S55} (hr : rt o = true) (hn : I64 o.f1) (ht : o.f2.size ≤ 1000) : op_Read 2000 (ln o) = some (o, 0) := by
  have hk := rt_kind hr
  obtain ⟨w1, w2, w3⟩ := word_ok hk
  have hq := Q_size o.f2
  have hns := numt_size hn
  have hd := D_len hn
  have el : ln o = (fm o.f0).1 ++ tail o := by unfold ln; rw [if_pos hr]
  have fin' : op_Read_c0 2000 (ln o) o.f0 o.f2 o.f1 = some (o, 0) := by rw [read_c0 _ hn ht, if_pos ⟨hr, rfl⟩]
  have c1' : op_Read_c1 2000 (ln o) o.f0 (fm o.f0) (if (fm o.f0).2.2 = true then strOfNums (D o.f1) else ByteArray.mk #[]) o.f2 = some (o, 0) := by
    unfold op_Read_c1
    by_cases a : (fm o.f0).2.2 = true
    · rw [if_pos a, if_pos a, num_eq (D_byt hn) (by omega), sn_D hn, Option.bind_some, if_neg (show ¬ ((!(o.f1, true).2) = true) from fun h => by cases h)]; exact fin'
    · rw [if_neg a]
      have e0 := rt_num hr (by simpa using a)
      rw [e0] at fin'; exact fin'
  have fin2 : ∀ f, strings_Cut 2000 (ln o) B32 = some ((fm o.f0).1, (if (fm o.f0).2.1 = true then Q o.f2 ++ numt o else if (fm o.f0).2.2 = true then strOfNums (D o.f1) else ByteArray.mk #[]), f) → op_Read 2000 (ln o) = some (o, 0) := by
    intro f hc
    unfold op_Read
    rw [hc, Option.bind_some]
    dsimp only
    rw [kind_word hk, Option.bind_some, (form_eq o.f0).1, Option.bind_some]
    by_cases a : (fm o.f0).2.1 = true
    · rw [if_pos a, if_pos a, Q_back ht (by omega), Option.bind_some]
      dsimp only
      rw [if_neg (by simp)]
      have hs : (Q o.f2 ++ numt o).size = (Q o.f2).size + (numt o).size := by rw [ByteArray.size_append]
      rw [if_pos ⟨by omega, by rw [hs]; omega, by omega⟩, Int.toNat_natCast, Int.toNat_natCast, extract_right, trim_num, Option.bind_some]
      exact c1'
    · have e0 := rt_text hr (by simpa using a)
      rw [if_neg a, if_neg a]
      have e1 : o.f2 = ByteArray.empty := e0
      rw [← e1]; exact c1'
  by_cases a : (fm o.f0).2.1 = true
  · refine fin2 true ?_
    rw [el, if_pos a]; unfold tail; rw [if_pos a]
    exact cut_yes w3 (by rw [ByteArray.size_append]; omega)
  · by_cases b : (fm o.f0).2.2 = true
    · refine fin2 true ?_
      rw [el, if_neg a, if_pos b]; unfold tail numt; rw [if_neg a, if_pos b]
      exact cut_yes w3 (by rw [strOfNums_size]; omega)
    · refine fin2 false ?_
      rw [el, if_neg a, if_neg b]; unfold tail numt; rw [if_neg a, if_neg b, app_nil]
      exact cut_no w3
end Go.Avl.T2
/- OpReads: the plain law. -/
namespace Go.Avl.T2
open Go Go.RowKit Go.Proofs Go.Avl
set_option linter.all false
set_option maxRecDepth 10000

def ref (o : S55) : S60 := ⟨o.f0, o.f1, o.f2⟩
def RErr : S60 × Bool := (⟨0, 0, ByteArray.empty⟩, false)
/-- What the reference finds from a kind on. -/
def RGot (line : ByteArray) (i : Int) (r : S60 × Bool) : Prop :=
  (∃ o : S55, r = (ref o, true) ∧ rt o = true ∧ ln o = line ∧ I64 o.f1 ∧ o.f2.size ≤ 1000) ∨ (r = RErr ∧ ∀ o : S55, rt o = true → I64 o.f1 → o.f2.size ≤ 1000 → ln o = line → i ≤ o.f0 → False)
theorem RGot.step {line : ByteArray} {i : Int} {r : S60 × Bool} (h : RGot line (i + 1) r) (hn : ∀ o : S55, rt o = true → I64 o.f1 → o.f2.size ≤ 1000 → ln o = line → o.f0 = i → False) : RGot line i r := by
  rcases h with h | ⟨h1, h2⟩
  · exact .inl h
  · refine .inr ⟨h1, fun o a b c d e => ?_⟩
    by_cases f : o.f0 = i
    · exact hn o a b c d f
    · exact h2 o a b c d (by omega)
end Go.Avl.T2
/- Lines of a text. -/
namespace Go.Avl.T2
open Go Go.RowKit Go.Proofs Go.Avl
set_option linter.all false
set_option maxRecDepth 10000

theorem w6 {x : Int} (h0 : -1000000000000 ≤ x) (h1 : x ≤ 1000000000000) : w64 x = x := w64_id (by omega) (by omega)
def NL : ByteArray := ByteArray.mk #[10]
theorem index_eqL (t : ByteArray) : internal_stringslite_Index 2000 t NL = some (if t = NL then 0 else idxByte t 10) := by
  unfold internal_stringslite_Index
  rw [if_neg (by decide), Option.bind_some]
  by_cases a : t = NL
  · rw [if_pos a, decide_eq_true a.symm, if_pos rfl]
  · rw [if_neg a, decide_eq_false (fun e => a e.symm), if_neg (by decide), if_pos (by decide), if_pos (by decide)]; rfl
theorem idx_NL : idxByte NL 10 = 0 := by decide +kernel
theorem index_eqL' (t : ByteArray) : internal_stringslite_Index 2000 t NL = some (idxByte t 10) := by
  rw [index_eqL]
  by_cases a : t = NL
  · rw [if_pos a, a, idx_NL]
  · rw [if_neg a]

end Go.Avl.T2
/- OpScripts: the plain law. -/
namespace Go.Avl.T2
open Go Go.RowKit Go.Proofs Go.Avl
set_option linter.all false
set_option maxRecDepth 10000

theorem awake47s : bosketlaw47_awake 2000 = some true := by decide +kernel
theorem oget (l : List S55) (i : Nat) (h : i < l.length) : lget l (i : Int) = l[i] := by simp [lget, List.getD, List.getElem?_eq_getElem h]
theorem rget (l : List S60) (i : Nat) (h : i < l.length) : lget l (i : Int) = l[i] := by simp [lget, List.getD, List.getElem?_eq_getElem h]
theorem same_l (l : List S55) (hz : l.length ≤ 1000) : ∀ (m i fuel : Nat), i + m = l.length → m < fuel → bosketlaw47_Same_l1 2000 l (l.map ref) fuel (i : Int) = some true
  | 0, i, f + 1, h, _ => by rw [bosketlaw47_Same_l1.eq_2, if_neg (by omega)]; rfl
  | m + 1, i, f + 1, h, hf => by
    have hi : i < l.length := by omega
    have ih := same_l l hz m (i + 1) f (by omega) (by omega)
    have hr : lget (l.map ref) (i : Int) = ref l[i] := by rw [rget _ i (by simpa using hi), List.getElem_map]
    rw [bosketlaw47_Same_l1.eq_2, if_pos (by omega), if_pos ⟨by omega, by omega⟩, oget l i hi, bosketlaw47_Ref, Option.bind_some, if_pos ⟨by omega, by simp; omega⟩, hr, decide_eq_true (by rfl), if_neg (by decide), w6 (by omega) (by omega)]
    exact_mod_cast ih
theorem same_eq (l : List S55) (hz : l.length ≤ 1000) : bosketlaw47_Same 2000 l (l.map ref) = some true := by
  unfold bosketlaw47_Same
  rw [if_neg (by simp)]
  exact same_l l hz l.length 0 2000 (by omega) (by omega)
end Go.Avl.T2
/- A line has no line's end. -/
namespace Go.Avl.T2
open Go Go.RowKit Go.Proofs Go.Avl
set_option linter.all false
set_option maxRecDepth 10000

def NN (s : ByteArray) : Prop := ∀ j : Nat, j < s.size → byteAt s (j : Int) ≠ 10
theorem NN.app {a b : ByteArray} (ha : NN a) (hb : NN b) : NN (a ++ b) := by
  intro j hj
  by_cases c : j < a.size
  · rw [byteAt_app a b j c]; exact ha j c
  · have := byteAt_right a b (j - a.size) (by rw [ByteArray.size_append] at hj; omega)
    rw [show a.size + (j - a.size) = j by omega] at this
    rw [this]; exact hb _ (by rw [ByteArray.size_append] at hj; omega)
theorem NN_nil : NN (ByteArray.mk #[]) := fun j hj => absurd hj (Nat.not_lt_zero j)
theorem NN_bt (n : Int) (h : 0 ≤ n ∧ n ≤ 255) : NN (bt 34 n) := by
  have key : ∀ n : Fin 256, (bt 34 (n.val : Int)).size ≤ 4 ∧ ∀ j : Fin 4, j.val < (bt 34 (n.val : Int)).size → byteAt (bt 34 (n.val : Int)) (j.val : Int) ≠ 10 := by decide +kernel
  intro j hj
  have k := key ⟨n.toNat, by omega⟩
  have e : ((⟨n.toNat, by omega⟩ : Fin 256).val : Int) = n := Int.toNat_of_nonneg h.1
  rw [e] at k
  exact k.2 ⟨j, by omega⟩ hj
theorem NN_catn (s : ByteArray) : ∀ (m i : Nat), NN (catn 34 s i m)
  | 0, i => NN_nil
  | m + 1, i => (NN_bt _ (byteAt_u8 s i)).app (NN_catn s m (i + 1))
theorem NN_q : NN (strOfNums [34]) := by
  intro j hj
  have : j = 0 := by rw [strOfNums_size] at hj; simp at hj; omega
  subst this; decide
theorem NN_Q (t : ByteArray) : NN (Q t) := (NN_q.app (NN_catn t _ _)).app NN_q
theorem NN_32 : NN B32 := by
  intro j hj
  have : j = 0 := by rw [B32_size] at hj; omega
  subst this; decide
theorem NN_word {k : Int} (h : 1 ≤ k ∧ k ≤ 11) : NN (fm k).1 ∧ byteAt (fm k).1 0 ≠ 35 := by
  have key : ∀ n : Fin 12, (∀ j : Fin 8, j.val < (fm (n.val : Int)).1.size → byteAt (fm (n.val : Int)).1 (j.val : Int) ≠ 10) ∧ byteAt (fm (n.val : Int)).1 0 ≠ 35 := by decide +kernel
  have k1 := key ⟨k.toNat, by omega⟩
  have e : ((⟨k.toNat, by omega⟩ : Fin 12).val : Int) = k := Int.toNat_of_nonneg (by omega)
  rw [e] at k1
  have := (word_ok h).2.1
  exact ⟨fun j hj => k1.1 ⟨j, by omega⟩ hj, k1.2⟩
end Go.Avl.T2
/- OpTexts: the plain law. -/
namespace Go.Avl.T2
open Go Go.RowKit Go.Proofs Go.Avl
set_option linter.all false
set_option maxRecDepth 10000

theorem NN_D {n : Int} (h : I64 n) : NN (strOfNums (D n)) := by
  intro j hj
  rw [strOfNums_size] at hj
  rw [byteAt_strOf (D n) (D_byt h) j hj]
  have h' := h
  unfold I64 at h'
  have hd := dg_dig 20 n.natAbs (by omega)
  have hm := List.getElem_mem hj
  generalize (D n)[j] = c at hm
  unfold D at hm
  split at hm
  · rcases List.mem_cons.1 hm with e | e
    · omega
    · have := hd c e; omega
  · have := hd c hm; omega
theorem ln_ok {o : S55} (hr : rt o = true) (hn : I64 o.f1) : NN (ln o) ∧ 0 < (ln o).size ∧ byteAt (ln o) 0 ≠ 35 := by
  have hk := rt_kind hr
  obtain ⟨w1, w2⟩ := NN_word hk
  have w3 := (word_ok hk).1
  have e : ln o = (fm o.f0).1 ++ tail o := by unfold ln; rw [if_pos hr]
  have nt : NN (numt o) := by
    unfold numt; split
    · exact NN_32.app (NN_D hn)
    · exact NN_nil
  have ntl : NN (tail o) := by
    unfold tail; split
    · exact NN_32.app ((NN_Q _).app nt)
    · exact nt
  rw [e]
  refine ⟨w1.app ntl, by rw [ByteArray.size_append]; omega, ?_⟩
  have := byteAt_app (fm o.f0).1 (tail o) 0 w3
  have h0 : byteAt ((fm o.f0).1 ++ tail o) 0 = byteAt (fm o.f0).1 0 := this
  rw [h0]; exact w2
theorem ln_size {o : S55} (hn : I64 o.f1) (ht : o.f2.size ≤ 600) : (ln o).size ≤ 2500 := by
  unfold ln
  split
  · rename_i hr
    have h1 := (word_ok (rt_kind hr)).2.1
    have h2 := Q_size o.f2
    have h3 := numt_size hn
    rw [ByteArray.size_append]
    unfold tail
    split
    · rw [ByteArray.size_append, ByteArray.size_append, B32_size]; omega
    · omega
  · rw [emp_size]; omega
theorem cut10 {w b : ByteArray} (hw : NN w) (hz : w.size + b.size ≤ 100000) : strings_Cut 2000 (w ++ (NL ++ b)) NL = some (w, b, true) := by
  have hN : NL.size = 1 := rfl
  have hs : (w ++ (NL ++ b)).size = w.size + (1 + b.size) := by rw [ByteArray.size_append, ByteArray.size_append, hN]
  have hat : byteAt (w ++ (NL ++ b)) (w.size : Int) = 10 := by
    have := byteAt_right w (NL ++ b) 0 (by rw [ByteArray.size_append, hN]; omega)
    rw [Nat.add_zero] at this
    rw [this, byteAt_app _ _ 0 (by rw [hN]; omega)]; rfl
  have hi : idxByte (w ++ (NL ++ b)) 10 = (w.size : Int) := by
    rcases find_idx (w ++ (NL ++ b)) 10 (by omega) with ⟨_, h2⟩ | ⟨i, h1, h2, h3, h4⟩
    · exact absurd hat (h2 w.size (by omega))
    · rw [h1]
      rcases Nat.lt_trichotomy i w.size with c | c | c
      · rw [byteAt_app _ _ i c] at h3; exact absurd h3 (hw i c)
      · rw [c]
      · exact absurd hat (h4 w.size c)
  unfold strings_Cut internal_stringslite_Cut
  rw [index_eqL', Option.bind_some, hi, hN, hs]
  have e1 : w64 ((w.size : Int) + ((1 : Nat) : Int)) = ((w.size + 1 : Nat) : Int) := by rw [w64_id (by omega) (by omega)]; omega
  rw [e1, if_pos (by omega), if_pos ⟨by omega, by omega, by omega⟩, if_pos ⟨by omega, by omega, by omega⟩, Option.bind_some]
  have e2 : (w ++ (NL ++ b)).extract (0 : Int).toNat (w.size : Int).toNat = w := by
    rw [show (0 : Int).toNat = 0 from rfl, Int.toNat_natCast]; exact extract_left _ _
  have e3 : (w ++ (NL ++ b)).extract ((w.size + 1 : Nat) : Int).toNat ((w.size + (1 + b.size) : Nat) : Int).toNat = b := by
    have := extract_right (w ++ NL) b
    rw [app_assoc, hs, ByteArray.size_append, hN] at this
    rw [Int.toNat_natCast, Int.toNat_natCast]; exact this
  rw [e2, e3]
/-- Lines of ops. -/
def TT : List S55 → ByteArray
  | [] => ByteArray.mk #[]
  | o :: L => ln o ++ (NL ++ TT L)
def OkO (o : S55) : Prop := I64 o.f1 ∧ o.f2.size ≤ 600
theorem TT_size : ∀ L : List S55, (∀ o ∈ L, OkO o) → (TT L).size ≤ 2501 * L.length
  | [], _ => by simp [TT, emp_size]
  | o :: L, h => by
    have h1 := h o (by simp)
    have h2 := ln_size h1.1 h1.2
    have h3 := TT_size L (fun p hp => h p (by simp [hp]))
    have hN : NL.size = 1 := rfl
    rw [TT, ByteArray.size_append, ByteArray.size_append, hN, List.length_cons]; omega
theorem scr_T : ∀ (L : List S55) (fuel : Nat) (n : Int) (out : List S55), L.length < fuel → (∀ o ∈ L, OkO o ∧ rt o = true) → L.length ≤ 20 → out.length + L.length ≤ 100 → 0 ≤ n → n ≤ 1000 - L.length → op_Script_l 2000 fuel (TT L) n out = some (out ++ L, 0, 0)
  | [], f + 1, n, out, _, _, _, _, _, _ => by
    have hc : strings_Cut 2000 (TT []) (ByteArray.mk #[10]) = some (ByteArray.mk #[], ByteArray.mk #[], false) := by decide +kernel
    rw [op_Script_l, hc, Option.bind_some, if_pos (.inl rfl), List.append_nil]; rfl
  | o :: L, f + 1, n, out, hf, h, hl, ho, h0, h1 => by
    obtain ⟨⟨o1, o2⟩, o3⟩ := h o (by simp)
    obtain ⟨k1, k2, k3⟩ := ln_ok o3 o1
    have hz := ln_size o1 o2
    have ht := TT_size L (fun p hp => (h p (by simp [hp])).1)
    rw [List.length_cons] at hf hl ho h1
    have hc : strings_Cut 2000 (TT (o :: L)) (ByteArray.mk #[10]) = some (ln o, TT L, true) := cut10 k1 (by omega)
    have hq : ¬ (ln o = ByteArray.mk #[] ∨ byteAt (ln o) 0 = 35) := fun k => k.elim (fun e => by rw [e, emp_size] at k2; omega) k3
    have ih := scr_T L f (w64 (n + 1)) (out ++ [o]) (by omega) (fun p hp => h p (by simp [hp])) (by omega) (by simp; omega) (by rw [w6 (by omega) (by omega)]; omega) (by rw [w6 (by omega) (by omega)]; omega)
    rw [op_Script_l, hc, Option.bind_some]
    dsimp only
    rw [if_neg hq, read_line o3 o1 (by omega), Option.bind_some, if_neg (by simp), if_pos (by simp; omega)]
    unfold op_Script_c
    rw [if_pos rfl, ih, List.append_assoc]; rfl
def fl (L : List S55) : List S55 := L.filter rt
theorem NLe : (ByteArray.mk #[10]) = NL := rfl
theorem text_l (p : List S55) (hp : ∀ o ∈ p, OkO o) (hz : p.length ≤ 12) : ∀ (m i fuel : Nat) (x : ByteArray), i + m = p.length → m < fuel → x.size ≤ 2501 * i → op_Text_l2 2000 p fuel x (i : Int) = some (x ++ TT (fl (p.drop i)))
  | 0, i, f + 1, x, h, _, _ => by
    rw [op_Text_l2.eq_2, if_neg (by omega), List.drop_of_length_le (by omega)]
    show some x = some (x ++ TT [])
    rw [TT, app_nil]
  | m + 1, i, f + 1, x, h, hf, hx => by
    have hi : i < p.length := by omega
    obtain ⟨o1, o2⟩ := hp p[i] (List.getElem_mem hi)
    have hs := ln_size o1 o2
    have hN : (ByteArray.mk #[10]).size = 1 := rfl
    rw [op_Text_l2.eq_2, if_pos (by omega), if_pos ⟨by omega, by omega⟩, oget p i hi, right_eq, Option.bind_some, List.drop_eq_getElem_cons hi]
    unfold op_Text_c1
    rw [w6 (by omega) (by omega)]
    cases r : rt p[i] with
    | true =>
      have ih := text_l p hp hz m (i + 1) f (x ++ (ln p[i] ++ ByteArray.mk #[10])) (by omega) (by omega) (by rw [ByteArray.size_append, ByteArray.size_append, hN]; omega)
      rw [if_pos rfl, (line_eq o1 (by omega)).1, Option.bind_some, if_pos (by rw [hN]; omega), if_pos (by rw [ByteArray.size_append, hN]; omega)]
      have e : fl (p[i] :: p.drop (i + 1)) = p[i] :: fl (p.drop (i + 1)) := by unfold fl; rw [List.filter_cons_of_pos r]
      rw [e, TT, ← NLe, ← app_assoc (ln p[i])]
      rw [app_assoc x] at ih
      exact_mod_cast ih
    | false =>
      have ih := text_l p hp hz m (i + 1) f x (by omega) (by omega) (by omega)
      have e : fl (p[i] :: p.drop (i + 1)) = fl (p.drop (i + 1)) := by unfold fl; rw [List.filter_cons_of_neg (by simp [r])]
      rw [if_neg (by decide), e]
      exact_mod_cast ih
theorem few_l (p : List S55) (hz : p.length ≤ 12) : ∀ (m i fuel : Nat), i + m = p.length → m < fuel → ∃ b, bosketlaw47_Few_l1 2000 p fuel (i : Int) = some b ∧ (b = true → ∀ j, i ≤ j → (h : j < p.length) → (p[j]).f2.size ≤ 600)
  | 0, i, f + 1, h, _ => by
    rw [bosketlaw47_Few_l1.eq_2, if_neg (by omega)]
    exact ⟨true, rfl, fun _ j h1 h2 => by omega⟩
  | m + 1, i, f + 1, h, hf => by
    have hi : i < p.length := by omega
    rw [bosketlaw47_Few_l1.eq_2, if_pos (by omega), if_pos ⟨by omega, by omega⟩, oget p i hi]
    by_cases q : (600 : Int) < ((p[i].f2.size : Nat) : Int)
    · rw [if_pos q]; exact ⟨false, rfl, fun k => by cases k⟩
    · obtain ⟨b, b1, b2⟩ := few_l p hz m (i + 1) f (by omega) (by omega)
      rw [if_neg q, w6 (by omega) (by omega)]
      refine ⟨b, by exact_mod_cast b1, fun k j h1 h2 => ?_⟩
      by_cases e : j = i
      · subst e; omega
      · exact b2 k j (by omega) h2
theorem loop_l (p : List S55) (hp : ∀ o ∈ p, OkO o) (hz : p.length ≤ 12) (T : ByteArray) (w : ByteArray) (L : List S55) (hfin : bosketlaw47_OpTexts_c0 2000 T w (L.map ref) = some true) : ∀ (m i fuel : Nat) (x : ByteArray) (y : List S55), i + m = p.length → m < fuel → x.size ≤ 2501 * i → y.length ≤ i → x ++ TT (fl (p.drop i)) = w → y ++ fl (p.drop i) = L → bosketlaw47_OpTexts_l2 2000 p T fuel x (y.map ref) (i : Int) = some true
  | 0, i, f + 1, x, y, h, _, _, _, h1, h2 => by
    rw [List.drop_of_length_le (by omega)] at h1 h2
    have h1' : x = w := by rw [← h1]; exact (app_nil x).symm
    have h2' : y = L := by rw [← h2]; exact (List.append_nil y).symm
    rw [bosketlaw47_OpTexts_l2.eq_2, if_neg (by omega), h1', h2']; exact hfin
  | m + 1, i, f + 1, x, y, h, hf, hx, hy, h1, h2 => by
    have hi : i < p.length := by omega
    obtain ⟨o1, o2⟩ := hp p[i] (List.getElem_mem hi)
    have hs := ln_size o1 o2
    have hN : (ByteArray.mk #[10]).size = 1 := rfl
    rw [List.drop_eq_getElem_cons hi] at h1 h2
    have hr : bosketref47_Right 2000 (S60.mk p[i].f0 p[i].f1 p[i].f2) = some (rt p[i]) := rright_eq p[i]
    rw [bosketlaw47_OpTexts_l2.eq_2, if_pos (by omega), if_pos ⟨by omega, by omega⟩, oget p i hi, bosketlaw47_Ref, Option.bind_some, hr, Option.bind_some]
    unfold bosketlaw47_OpTexts_c1
    rw [w6 (by omega) (by omega)]
    cases r : rt p[i] with
    | true =>
      have e : fl (p[i] :: p.drop (i + 1)) = p[i] :: fl (p.drop (i + 1)) := by unfold fl; rw [List.filter_cons_of_pos r]
      rw [e] at h1 h2
      have ih := loop_l p hp hz T w L hfin m (i + 1) f (x ++ ln p[i] ++ ByteArray.mk #[10]) (y ++ [p[i]]) (by omega) (by omega) (by rw [ByteArray.size_append, ByteArray.size_append, hN]; omega) (by simp; omega) (by rw [← h1, TT, ← NLe, app_assoc, app_assoc]) (by rw [← h2, List.append_assoc]; rfl)
      rw [List.map_append] at ih
      rw [if_pos rfl, if_pos (by simp; omega), (line_eq o1 (by omega)).2, Option.bind_some, if_pos (by omega), if_pos (by rw [ByteArray.size_append, hN]; omega)]
      exact_mod_cast ih
    | false =>
      have e : fl (p[i] :: p.drop (i + 1)) = fl (p.drop (i + 1)) := by unfold fl; rw [List.filter_cons_of_neg (by simp [r])]
      rw [e] at h1 h2
      have ih := loop_l p hp hz T w L hfin m (i + 1) f x y (by omega) (by omega) (by omega) (by omega) h1 h2
      rw [if_neg (by decide)]
      exact_mod_cast ih
theorem bosketlaw47_OpTexts_true (a0 : (List S55)) (h0 : wf70 a0) : ∃ k, bosketlaw47_OpTexts k a0 = some true := by
  refine ⟨2000, ?_⟩
  unfold bosketlaw47_OpTexts
  rw [awake47s, Option.bind_some, if_neg (by decide)]
  unfold bosketlaw47_Few
  by_cases z : (12 : Int) < (a0.length : Int)
  · rw [if_pos z]; rfl
  obtain ⟨b, b1, b2⟩ := few_l a0 (by omega) a0.length 0 2000 (by omega) (by omega)
  rw [show ((0 : Nat) : Int) = 0 from rfl] at b1
  rw [if_neg z, b1, Option.bind_some]
  cases b with
  | false => rfl
  | true =>
  have hp : ∀ o ∈ a0, OkO o := fun o ho => by
    obtain ⟨j, hj, rfl⟩ := List.getElem_of_mem ho
    refine ⟨?_, b2 rfl j (by omega) hj⟩
    have h : (Lit.int .i64 (a0[j]).f1).wf = true := (h0.2 _ ho).2.1
    unfold I64
    generalize (a0[j]).f1 = q at h
    simpa [Lit.wf, show IntKind.i64.min = -9223372036854775808 from rfl, show IntKind.i64.max = 9223372036854775807 from rfl] using h
  have e1 : op_Text 2000 a0 = some (TT (fl a0)) := by
    have := text_l a0 hp (by omega) a0.length 0 2000 (ByteArray.mk #[]) (by omega) (by omega) (by rw [emp_size]; omega)
    rw [nil_app, List.drop_zero] at this
    exact this
  have hfl : (fl a0).length ≤ a0.length := List.length_filter_le _ _
  have hmem : ∀ o ∈ fl a0, OkO o ∧ rt o = true := fun o ho => by
    have := List.mem_filter.1 ho
    exact ⟨hp o this.1, this.2⟩
  have e2 : op_Script 2000 (TT (fl a0)) = some (fl a0, 0, 0) := by
    have := scr_T (fl a0) 2000 1 [] (by omega) hmem (by omega) (by simp; omega) (by omega) (by omega)
    rw [List.nil_append] at this
    exact this
  have hfin : bosketlaw47_OpTexts_c0 2000 (TT (fl a0)) (TT (fl a0)) ((fl a0).map ref) = some true := by
    unfold bosketlaw47_OpTexts_c0
    rw [e2, Option.bind_some, if_pos rfl, if_pos rfl, if_pos rfl, same_eq (fl a0) (by omega), Option.bind_some, Option.bind_some]
  have := loop_l a0 hp (by omega) (TT (fl a0)) (TT (fl a0)) (fl a0) hfin a0.length 0 2000 (ByteArray.mk #[]) [] (by omega) (by omega) (by rw [emp_size]; omega) (by simp) (by rw [nil_app, List.drop_zero]) (by rw [List.nil_append, List.drop_zero])
  rw [if_neg (by decide), e1, Option.bind_some]
  exact this
end Go.Avl.T2
