/- Parts: T2W, T2M1, T2M2, T2M3, T2PureSpotNumbers. -/
import Derived.Test.YtmgiffbobkgcmaaAF1
import Derived.Test.YtmgiffbobkgcmaaAv3
import Derived.Test.YtmgiffbobkgcmaaAF2
/- Opening of the arguments; printed by avlaw.py. -/
namespace Go.Avl.T2
open Go Go.RowKit Go.Proofs Go.Avl
set_option linter.unusedVariables false
set_option maxRecDepth 100000
abbrev wf9 : ByteArray → Prop := (fun s : ByteArray => s.size ≤ 9223372036854775807)
theorem op9 : Opens Try.prog 9 eStr wf9 := opens_string Try.underlying9
abbrev wf3 : Int → Prop := (fun n : Int => (Lit.int .i64 n).wf = true)
theorem op3 : Opens Try.prog 3 eI64 wf3 := opens_int Try.underlying3
abbrev wf23 : S23 → Prop := (fun x : S23 => wf3 x.f0 ∧ wf3 x.f1)
theorem op23 : Opens Try.prog 23 e23 wf23 := (opens_struct Try.underlying23 sz23 (opensF_cons rfl sz3 (by decide) op3 (opensF_cons rfl sz3 (by decide) op3 (opensF_nil _)))).map (fun p => S23.mk p.1 p.2.1) (fun _ => rfl) (fun _ h => ⟨h.1, h.2.1⟩)
abbrev wf55 : S55 → Prop := (fun x : S55 => wf3 x.f0 ∧ wf3 x.f1 ∧ wf9 x.f2)
theorem op55 : Opens Try.prog 55 e55 wf55 := (opens_struct Try.underlying55 sz55 (opensF_cons rfl sz3 (by decide) op3 (opensF_cons rfl sz3 (by decide) op3 (opensF_cons rfl sz9 (by decide) op9 (opensF_nil _))))).map (fun p => S55.mk p.1 p.2.1 p.2.2.1) (fun _ => rfl) (fun _ h => ⟨h.1, h.2.1, h.2.2.1⟩)
end Go.Avl.T2
/- Numbers as texts. -/
namespace Go.Avl.T2
open Go Go.RowKit Go.Proofs Go.Avl
set_option linter.all false

/-- The digits of a number. -/
def dg (n : Nat) : List Int := if h : n < 10 then [48 + (n : Int)] else dg (n / 10) ++ [48 + ((n % 10 : Nat) : Int)]
termination_by n
decreasing_by omega
theorem dg_lt {n : Nat} (h : n < 10) : dg n = [48 + (n : Int)] := by rw [dg, dif_pos h]
theorem dg_ge {n : Nat} (h : 10 ≤ n) : dg n = dg (n / 10) ++ [48 + ((n % 10 : Nat) : Int)] := by rw [dg, dif_neg (by omega)]
def val (l : List Int) : Nat := l.foldl (fun v c => v * 10 + (c - 48).toNat) 0
theorem val_snoc (l : List Int) (c : Int) : val (l ++ [c]) = val l * 10 + (c - 48).toNat := by simp [val]
def Dig (l : List Int) : Prop := ∀ c ∈ l, 48 ≤ c ∧ c ≤ 57
theorem dg_dig : ∀ (k n : Nat), n < 10 ^ k → Dig (dg n)
  | 0, n, h => by
    have : n = 0 := by simpa using h
    subst this; rw [dg_lt (by omega)]; intro c hc; simp at hc; omega
  | k + 1, n, h => by
    by_cases a : n < 10
    · rw [dg_lt a]; intro c hc; simp at hc; omega
    · rw [dg_ge (by omega)]
      have := dg_dig k (n / 10) (by rw [Nat.pow_succ] at h; omega)
      intro c hc
      rcases List.mem_append.1 hc with hc | hc
      · exact this c hc
      · simp at hc; omega
theorem val_dg : ∀ (k n : Nat), n < 10 ^ k → val (dg n) = n
  | 0, n, h => by
    have : n = 0 := by simpa using h
    subst this; rw [dg_lt (by omega)]; rfl
  | k + 1, n, h => by
    by_cases a : n < 10
    · rw [dg_lt a]; simp [val]; omega
    · rw [dg_ge (by omega), val_snoc, val_dg k (n / 10) (by rw [Nat.pow_succ] at h; omega)]
      omega
theorem dg_len : ∀ (k n : Nat), n < 10 ^ k → 0 < k → (dg n).length ≤ k ∧ 0 < (dg n).length
  | 0, n, h, z => by omega
  | k + 1, n, h, _ => by
    by_cases a : n < 10
    · rw [dg_lt a]; simp
    · have hk : 0 < k := by
        rcases Nat.eq_zero_or_pos k with e | e
        · subst e; simp at h; omega
        · exact e
      have := dg_len k (n / 10) (by rw [Nat.pow_succ] at h; omega) hk
      rw [dg_ge (by omega)]; simp; omega
theorem dg_head : ∀ (k n : Nat), n < 10 ^ k → (dg n).head? = some 48 → n = 0
  | 0, n, h, e => by simpa using h
  | k + 1, n, h, e => by
    by_cases a : n < 10
    · rw [dg_lt a] at e; simp at e; omega
    · rw [dg_ge (by omega)] at e
      have hl := (dg_len (k + 1) (n / 10) (by rw [Nat.pow_succ] at h ⊢; omega) (by omega)).2
      have e' : (dg (n / 10)).head? = some 48 := by
        cases hd : dg (n / 10) with
        | nil => rw [hd] at hl; simp at hl
        | cons x xs => rw [hd] at e; simpa using e
      have := dg_head k (n / 10) (by rw [Nat.pow_succ] at h; omega) e'
      omega
/-- Digits without a needless 0 ahead are those of their number. -/
theorem canon : ∀ (n : Nat) (l : List Int), l.length = n + 1 → Dig l → (l.head? ≠ some 48 ∨ n = 0) → dg (val l) = l ∧ (l.head? ≠ some 48 → 0 < val l)
  | 0, l, hl, hd, _ => by
    match l, hl with
    | [c], _ => 
      have := hd c (by simp)
      have e : val [c] = (c - 48).toNat := by simp [val]
      rw [e, dg_lt (by omega)]
      refine ⟨by congr 1; omega, fun h => ?_⟩
      have : c ≠ 48 := by simpa using h
      omega
  | n + 1, l, hl, hd, hh => by
    have hh : l.head? ≠ some 48 := by rcases hh with h | h; exact h; omega
    rcases List.eq_nil_or_concat l with e | ⟨m, c, e⟩
    · subst e; simp at hl
    · rw [List.concat_eq_append] at e
      subst e
      have hm : m.length = n + 1 := by simpa using hl
      have hm2 : m.head? ≠ some 48 := by
        cases m with
        | nil => simp at hm
        | cons x xs => simpa using hh
      obtain ⟨i1, i2⟩ := canon n m hm (fun c hc => hd c (by simp [hc])) (.inl hm2)
      have hp := i2 hm2
      have hc := hd c (by simp)
      rw [val_snoc]
      refine ⟨?_, fun _ => by omega⟩
      rw [dg_ge (by omega), show (val m * 10 + (c - 48).toNat) / 10 = val m by omega, i1]
      congr 2; omega
/-- The text of a number. -/
def D (n : Int) : List Int := if n < 0 then 45 :: dg n.natAbs else dg n.natAbs
def I64 (n : Int) : Prop := -9223372036854775808 ≤ n ∧ n ≤ 9223372036854775807

theorem tq (n : Int) : n.tdiv 10 = if n < 0 then - ((n.natAbs / 10 : Nat) : Int) else ((n.natAbs / 10 : Nat) : Int) := by
  by_cases a : n < 0
  · have e : n = -((n.natAbs : Nat) : Int) := by omega
    rw [if_pos a, e, Int.neg_tdiv, Int.tdiv_eq_ediv_of_nonneg (by omega)]; omega
  · rw [if_neg a, Int.tdiv_eq_ediv_of_nonneg (by omega)]; omega
theorem tr (n : Int) : n.tmod 10 = if n < 0 then - ((n.natAbs % 10 : Nat) : Int) else ((n.natAbs % 10 : Nat) : Int) := by
  by_cases a : n < 0
  · have e : n = -((n.natAbs : Nat) : Int) := by omega
    rw [if_pos a, e, Int.neg_tmod, Int.tmod_eq_emod_of_nonneg (by omega)]; omega
  · rw [if_neg a, Int.tmod_eq_emod_of_nonneg (by omega)]; omega
theorem natural_eq : ∀ (k n : Nat), n < 10 ^ k → n < 18446744073709551616 → spot_natural (k + 1) (n : Int) = some (strOfNums (dg n))
  | 0, n, h, h2 => by
    have : n = 0 := by simpa using h
    subst this; rw [dg_lt (by omega)]; rfl
  | k + 1, n, h, h2 => by
    rw [spot_natural.eq_2]
    by_cases a : (n : Int) < 10
    · have e1 : u64 ((48 : Int) + n) = 48 + n := by rw [u64_eq]; omega
      rw [if_pos a, dg_lt (by omega), e1, w8_id (by omega) (by omega)]
    · have e1 : IntKind.u64.wrap ((n : Int).tdiv 10) = ((n / 10 : Nat) : Int) := by
        have : (n : Int).tdiv 10 = ((n / 10 : Nat) : Int) := by rw [tq, if_neg (by omega)]; omega
        rw [this]; have := u64_eq ((n / 10 : Nat) : Int); unfold u64 at this; rw [this]; omega
      have e2 : (n : Int).tmod 10 = ((n % 10 : Nat) : Int) := by rw [tr, if_neg (by omega)]; omega
      have e3 : u64 ((48 : Int) + ((n % 10 : Nat) : Int)) = 48 + ((n % 10 : Nat) : Int) := by rw [u64_eq]; omega
      have hz : (dg (n / 10)).length ≤ 20 := (dg_len 20 (n / 10) (by omega) (by omega)).1
      rw [if_neg a, e1, natural_eq k (n / 10) (by rw [Nat.pow_succ] at h; omega) (by omega), Option.bind_some, e2, e3, w8_id (by omega) (by omega), if_pos (by rw [strOfNums_size, strOfNums_size]; simp; omega), dg_ge (n := n) (by omega)]
      congr 1
      apply ByteArray.ext; apply Array.ext'; simp [strOfNums]
theorem pow_big {n k : Nat} (h : n < 100000000000000000000) (hk : 20 ≤ k) : n < 10 ^ k := Nat.lt_of_lt_of_le (show n < 10 ^ 20 from h) (Nat.pow_le_pow_right (by omega) hk)
theorem natural_eq' (k n : Nat) (hk : 20 ≤ k) (h2 : n < 18446744073709551616) : spot_natural (k + 1) (n : Int) = some (strOfNums (dg n)) := natural_eq k n (pow_big (by omega) hk) h2
theorem digits_eq {n : Int} (h : I64 n) : spot_digits 2000 n = some (strOfNums (D n)) := by
  unfold I64 at h
  unfold spot_digits D
  by_cases a : n < 0
  · have e : u64 (IntKind.i64.wrap (0 - n)) = ((n.natAbs : Nat) : Int) := by
      have := w64_eq (0 - n); unfold w64 at this; rw [this, u64_eq]; omega
    have hz : (dg n.natAbs).length ≤ 20 := (dg_len 20 n.natAbs (by omega) (by omega)).1
    have e1 : (ByteArray.mk #[45]).size = 1 := rfl
    rw [if_pos a, if_pos a, e, natural_eq' 1999 _ (by omega) (by omega), Option.bind_some, if_pos (by rw [strOfNums_size, e1]; omega), strOf_cons 45]
    rfl
  · have e : u64 n = ((n.natAbs : Nat) : Int) := by rw [u64_eq]; omega
    rw [if_neg a, if_neg a, e, natural_eq' 1999 _ (by omega) (by omega), Option.bind_some]
theorem rdigits_l (p0 : Int) : ∀ (k : Nat) (n : Int) (acc : ByteArray), n ≠ 0 → n.natAbs < 10 ^ k → I64 n → acc.size + k ≤ 100000 → bosketref13_Digits_l2 2000 p0 (k + 1) n acc = bosketref13_Digits_c0 2000 p0 (strOfNums (dg n.natAbs) ++ acc)
  | 0, n, acc, hn, h, _, _ => by simp at h; omega
  | k + 1, n, acc, hn, h, hi, hz => by
    unfold I64 at hi
    have q1 := tq n
    have q2 := tr n
    rw [bosketref13_Digits_l2.eq_2, if_pos hn]
    have key : ∀ x : Int, x = ((n.natAbs % 10 : Nat) : Int) → bosketref13_Digits_c1 2000 (bosketref13_Digits_l2 2000 p0 (k + 1)) n acc x = bosketref13_Digits_c0 2000 p0 (strOfNums (dg n.natAbs) ++ acc) := by
      rintro x rfl
      have e1 : w64 ((48 : Int) + ((n.natAbs % 10 : Nat) : Int)) = 48 + ((n.natAbs % 10 : Nat) : Int) := w64_id (by omega) (by omega)
      have e2 : IntKind.i64.wrap (n.tdiv 10) = n.tdiv 10 := by have := w64_id (n := n.tdiv 10) (by omega) (by omega); exact this
      have e3 : (n.tdiv 10).natAbs = n.natAbs / 10 := by omega
      unfold bosketref13_Digits_c1
      rw [e1, w8_id (by omega) (by omega), if_pos (by rw [strOfNums_size]; simp; omega), Option.bind_some, e2]
      by_cases a : n.natAbs < 10
      · have z : n.tdiv 10 = 0 := by omega
        rw [z, bosketref13_Digits_l2.eq_2, if_neg (by omega), dg_lt a]
        congr 4; omega
      · rw [rdigits_l p0 k (n.tdiv 10) _ (by omega) (by rw [e3]; rw [Nat.pow_succ] at h; omega) (by unfold I64; omega) (by rw [ByteArray.size_append, strOfNums_size]; simp; omega), e3, dg_ge (n := n.natAbs) (by omega)]
        congr 1
        apply ByteArray.ext; apply Array.ext'; simp [strOfNums]
    by_cases a : n.tmod 10 < 0
    · rw [if_pos a]; apply key
      have := w64_id (n := 0 - n.tmod 10) (by omega) (by omega)
      unfold w64 at this; rw [this]; omega
    · rw [if_neg a]; apply key; omega
theorem rdigits_l' (p0 : Int) (k : Nat) (n : Int) (acc : ByteArray) (hn : n ≠ 0) (hk : 20 ≤ k) (hi : I64 n) (hz : acc.size + k ≤ 100000) : bosketref13_Digits_l2 2000 p0 (k + 1) n acc = bosketref13_Digits_c0 2000 p0 (strOfNums (dg n.natAbs) ++ acc) := rdigits_l p0 k n acc hn (pow_big (by unfold I64 at hi; omega) hk) hi hz
theorem rdigits_eq {n : Int} (h : I64 n) : bosketref13_Digits 2000 n = some (strOfNums (D n)) := by
  have h' := h
  unfold I64 at h'
  unfold bosketref13_Digits
  by_cases a : n = 0
  · subst a; rw [if_pos rfl]
    have : D 0 = [48] := by unfold D; rw [if_neg (by omega), show (0 : Int).natAbs = 0 from rfl, dg_lt (by omega)]; rfl
    rw [this]; rfl
  · have hz : (dg n.natAbs).length ≤ 20 := (dg_len 20 n.natAbs (by omega) (by omega)).1
    rw [if_neg a, rdigits_l' n 1999 n _ a (by omega) h (by decide)]
    have e : strOfNums (dg n.natAbs) ++ ByteArray.mk #[] = strOfNums (dg n.natAbs) := by apply ByteArray.ext; apply Array.ext'; simp [strOfNums]
    rw [e]
    unfold bosketref13_Digits_c0 D
    by_cases b : n < 0
    · have e1 : (ByteArray.mk #[45]).size = 1 := rfl
      rw [if_pos b, if_pos b, if_pos (by rw [strOfNums_size, e1]; omega), strOf_cons 45]; rfl
    · rw [if_neg b, if_neg b]
end Go.Avl.T2
/- Numbers read. -/
namespace Go.Avl.T2
open Go Go.RowKit Go.Proofs Go.Avl
set_option linter.all false
set_option maxRecDepth 10000
instance (l : List Int) : Decidable (Dig l) := by unfold Dig; infer_instance

def Byt (l : List Int) : Prop := ∀ x ∈ l, 0 ≤ x ∧ x ≤ 255
theorem Byt.tail {c : Int} {l : List Int} (h : Byt (c :: l)) : Byt l := fun x hx => h x (List.mem_cons_of_mem _ hx)
theorem ints_byt (s : ByteArray) : Byt (ints s) := by
  intro x hx
  obtain ⟨b, _, rfl⟩ := List.mem_map.1 hx
  have := b.toNat_lt; omega
theorem extract_strOf (l : List Int) (i j : Nat) : (strOfNums l).extract i j = strOfNums ((l.take j).drop i) := by
  apply ByteArray.ext; apply Array.ext'
  rw [ByteArray.data_extract, strOfNums_data]
  simp only [strOfNums, Array.toList_extract, List.extract]
  simp [List.drop_take]
theorem strOf_one {c : Int} (h : 0 ≤ c ∧ c ≤ 255) (d : UInt8) : strOfNums [c] = ByteArray.mk #[d] ↔ c = d.toNat := by
  constructor
  · intro e
    have := congrArg (fun s : ByteArray => s.data.toList) e
    simp [strOfNums] at this
    rw [← this]; simp; omega
  · rintro rfl; apply ByteArray.ext; apply Array.ext'; simp [strOfNums]
def cutm (l : List Int) : List Int × Bool := if l.head? = some 45 then (l.tail, true) else (l, false)
theorem cut_eq {l : List Int} (hl : Byt l) (hz : l.length ≤ 100000) : strings_CutPrefix 2000 (strOfNums l) (ByteArray.mk #[45]) = some (strOfNums (cutm l).1, (cutm l).2) := by
  have e1 : (ByteArray.mk #[45]).size = 1 := rfl
  unfold strings_CutPrefix internal_stringslite_CutPrefix internal_stringslite_HasPrefix
  simp only [e1, strOfNums_size]
  cases l with
  | nil => simp [cutm]
  | cons c t =>
    have g : ((1 : Nat) : Int) ≤ (((c :: t).length : Nat) : Int) := by simp; omega
    have g2 : 0 ≤ (0 : Int) ∧ (0 : Int) ≤ ((1 : Nat) : Int) ∧ ((1 : Nat) : Int) ≤ (((c :: t).length : Nat) : Int) := ⟨by omega, by omega, g⟩
    have ex : (strOfNums (c :: t)).extract (0 : Int).toNat ((1 : Nat) : Int).toNat = strOfNums [c] := by
      rw [show (0 : Int).toNat = 0 from rfl, Int.toNat_natCast, extract_strOf]; simp
    have ex2 : (strOfNums (c :: t)).extract ((1 : Nat) : Int).toNat (((c :: t).length : Nat) : Int).toNat = strOfNums t := by
      rw [Int.toNat_natCast, Int.toNat_natCast, extract_strOf]; simp
    have hc := strOf_one (hl c (by simp)) 45
    rw [if_pos g, if_pos g2, ex, Option.bind_some, Option.bind_some, ex2]
    by_cases a : c = 45
    · have a' : strOfNums [c] = ByteArray.mk #[45] := hc.2 a
      rw [if_neg (by simp [a']), if_pos ⟨by omega, g, by omega⟩]
      simp [cutm, a]
    · have a' : ¬ strOfNums [c] = ByteArray.mk #[45] := fun e => a (hc.1 e)
      rw [if_pos (by simp [a'])]
      simp [cutm, a]
theorem val_take (l : List Int) (i : Nat) (h : i < l.length) : val (l.take (i + 1)) = val (l.take i) * 10 + (l[i] - 48).toNat := by
  rw [← List.take_append_getElem h, val_snoc]
theorem val_lt : ∀ (n : Nat) (l : List Int), l.length = n → Dig l → val l < 10 ^ n
  | 0, l, h, _ => by
    have : l = [] := List.length_eq_zero_iff.1 h
    subst this; simp [val]
  | n + 1, l, h, hd => by
    rcases List.eq_nil_or_concat l with e | ⟨m, c, e⟩
    · subst e; simp at h
    · rw [List.concat_eq_append] at e
      subst e
      have hm : m.length = n := by simpa using h
      have := val_lt n m hm (fun c hc => hd c (by simp [hc]))
      have hc := hd c (by simp)
      rw [val_snoc, Nat.pow_succ]; omega
def fin (low : Bool) (v : Nat) : Int × Bool := if low = true ∧ v ≤ 9223372036854775808 then (-(v : Int), true) else if low = false ∧ v < 9223372036854775808 then ((v : Int), true) else (0, false)
theorem fin_eq (t : ByteArray) (low : Bool) (v : Nat) (hv : v < 10 ^ 19) (hp : low = true → 0 < v) : spot_Number_c0 2000 (t, low) (v : Int) = some (fin low v) := by
  have hv : v < 10000000000000000000 := hv
  unfold spot_Number_c0 fin
  cases low
  · have n1 : ¬ ((t, false).2 = true) := fun h => by cases h
    by_cases a : (v : Int) < 9223372036854775808
    · rw [if_neg n1, Option.bind_some, if_neg (by decide), if_pos (show (!(t, false).2) = true from rfl), Option.bind_some, if_pos (decide_eq_true a), if_neg (fun h => by cases h.1), if_pos ⟨rfl, by omega⟩, w64_id (by omega) (by omega)]
    · rw [if_neg n1, Option.bind_some, if_neg (by decide), if_pos (show (!(t, false).2) = true from rfl), Option.bind_some, if_neg (by simpa using a), if_neg (fun h => by cases h.1), if_neg (fun h => by omega)]
  · have hp := hp rfl
    by_cases a : (v : Int) ≤ 9223372036854775808
    · have e := u64_eq (0 - (v : Int)); unfold u64 at e
      rw [if_pos rfl, Option.bind_some, if_pos (decide_eq_true a), if_pos ⟨rfl, by omega⟩, e, w64_eq]
      congr 2; omega
    · rw [if_pos rfl, Option.bind_some, if_neg (by simpa using a), if_neg (show ¬ ((!(t, true).2) = true) from fun h => by cases h), Option.bind_some, if_neg (by decide), if_neg (fun h => by omega), if_neg (fun h => by cases h.1)]
theorem num_l {t : List Int} (ht : Byt t) (low : Bool) (hz : t.length ≤ 19) (hp : low = true → Dig t → 0 < val t) : ∀ (m i fuel : Nat), i + m = t.length → m < fuel → Dig (t.take i) →
    spot_Number_l1 2000 (strOfNums t, low) fuel (val (t.take i)) i = some (if Dig t then fin low (val t) else (0, false))
  | 0, i, f + 1, h, _, hd => by
    have e : t.take i = t := List.take_of_length_le (by omega)
    rw [e] at hd ⊢
    have hv := val_lt t.length t rfl hd
    have hv2 : val t < 10 ^ 19 := Nat.lt_of_lt_of_le hv (Nat.pow_le_pow_right (by omega) (by omega))
    rw [spot_Number_l1.eq_2, if_neg (by simp only [strOfNums_size]; omega), fin_eq _ _ _ hv2 (fun e => hp e hd), if_pos hd]
  | m + 1, i, f + 1, h, hf, hd => by
    have hi : i < t.length := by omega
    have h1 : (i : Int) < (((strOfNums t, low).1.size : Nat) : Int) := by simp only [strOfNums_size]; omega
    have g : 0 ≤ (i : Int) ∧ (i : Int) < (((strOfNums t, low).1.size : Nat) : Int) := ⟨by omega, h1⟩
    have hb : byteAt (strOfNums t, low).1 (i : Int) = t[i] := byteAt_strOf t ht i hi
    have hbb := ht t[i] (List.getElem_mem hi)
    rw [spot_Number_l1.eq_2, if_pos h1]
    simp only [if_pos g, hb]
    by_cases a : 48 ≤ t[i] ∧ t[i] ≤ 57
    · rw [if_neg (by omega), Option.bind_some, if_neg (by simp; omega), Option.bind_some]
      have hv := val_lt i (t.take i) (by simp; omega) hd
      have hv2 : val (t.take i) < 10 ^ 18 := Nat.lt_of_lt_of_le hv (Nat.pow_le_pow_right (by omega) (by omega))
      have hv2 : val (t.take i) < 1000000000000000000 := hv2
      have e : u64 (u64 ((val (t.take i) : Int) * 10) + u64 (w8 (t[i] - 48))) = ((val (t.take (i + 1)) : Nat) : Int) := by
        rw [val_take t i hi, w8_id (by omega) (by omega), u64_eq, u64_eq, u64_eq]; omega
      rw [e, w64_id (by omega) (by omega)]
      have hd2 : Dig (t.take (i + 1)) := by
        rw [← List.take_append_getElem hi]
        intro c hc
        rcases List.mem_append.1 hc with hc | hc
        · exact hd c hc
        · simp at hc; subst hc; exact a
      exact_mod_cast num_l ht low hz hp m (i + 1) f (by omega) (by omega) hd2
    · have nd : ¬ Dig t := fun h => a (h _ (List.getElem_mem hi))
      rw [if_neg nd]
      by_cases b : t[i] < 48
      · rw [if_pos b, Option.bind_some, if_pos rfl]
      · rw [if_neg b, Option.bind_some, if_pos (by simp; omega)]
/-- The number of a text. -/
def sn (l : List Int) : Int × Bool :=
  if (cutm l).1 = [] ∨ 19 < (cutm l).1.length ∨ ((cutm l).1.head? = some 48 ∧ ((cutm l).2 = true ∨ 1 < (cutm l).1.length)) then (0, false)
  else if Dig (cutm l).1 then fin (cutm l).2 (val (cutm l).1) else (0, false)
theorem cutm_byt {l : List Int} (h : Byt l) : Byt (cutm l).1 := by
  unfold cutm
  split
  · intro x hx; exact h x (List.mem_of_mem_tail hx)
  · exact h
theorem num_eq {l : List Int} (hl : Byt l) (hz : l.length ≤ 100000) : spot_Number 2000 (strOfNums l) = some (sn l) := by
  unfold spot_Number sn
  rw [cut_eq hl hz, Option.bind_some]
  have hb := cutm_byt hl
  generalize hc : cutm l = c at hb
  obtain ⟨t, low⟩ := c
  dsimp only at hb ⊢
  by_cases a : t = []
  · subst a
    have e : strOfNums [] = ByteArray.mk #[] := rfl
    rw [if_pos e, Option.bind_some, if_pos rfl, if_pos (.inl rfl)]
  · have e : ¬ strOfNums t = ByteArray.mk #[] := by
      intro h
      have := congrArg ByteArray.size h
      rw [strOfNums_size] at this
      exact a (List.length_eq_zero_iff.1 this)
    have hpos : 0 < t.length := List.length_pos_iff.2 a
    rw [if_neg e, strOfNums_size]
    by_cases b : 19 < t.length
    · rw [if_pos (by omega), Option.bind_some, if_pos rfl, if_pos (.inr (.inl b))]
    · have hb0 : byteAt (strOfNums t) 0 = t[0] := byteAt_strOf t hb 0 hpos
      have hh : t.head? = some t[0] := by rw [List.head?_eq_getElem?, List.getElem?_eq_getElem hpos]
      rw [if_neg (by omega), if_pos ⟨by omega, by omega⟩, hb0, hh]
      have fin' : ¬ (t[0] = 48 ∧ (low = true ∨ 1 < t.length)) → spot_Number_l1 2000 (strOfNums t, low) 2000 0 0 = some (if Dig t then fin low (val t) else (0, false)) := by
        intro hn
        refine num_l hb low (by omega) (fun hlow hd => ?_) t.length 0 2000 (by omega) (by omega) (by intro c hc; simp at hc)
        have hne : t.head? ≠ some 48 := by rw [hh]; intro e; exact hn ⟨Option.some.inj e, .inl hlow⟩
        obtain ⟨n, hn'⟩ : ∃ n, t.length = n + 1 := ⟨t.length - 1, by omega⟩
        exact (canon n t hn' hd (.inl hne)).2 hne
      by_cases c : t[0] = 48
      · rw [if_pos c]
        by_cases d : low = true
        · rw [if_pos d, Option.bind_some, if_pos rfl, if_pos (.inr (.inr ⟨by rw [c], .inl d⟩))]
        · rw [if_neg d, Option.bind_some]
          by_cases f : 1 < t.length
          · rw [if_pos (by simp; omega), if_pos (.inr (.inr ⟨by rw [c], .inr f⟩))]
          · have nn : ¬ (t = [] ∨ 19 < t.length ∨ (some t[0] = some 48 ∧ (low = true ∨ 1 < t.length))) := by
              rintro (h | h | h)
              · exact a h
              · exact b h
              · rcases h.2 with h | h; exact d h; exact f h
            rw [if_neg nn, if_neg (by simp; omega), fin' (fun h => by rcases h.2 with h | h; exact d h; exact f h)]
      · have nn : ¬ (t = [] ∨ 19 < t.length ∨ (some t[0] = some 48 ∧ (low = true ∨ 1 < t.length))) := by
          rintro (h | h | h)
          · exact a h
          · exact b h
          · exact c (Option.some.inj h.1)
        rw [if_neg nn, if_neg c, Option.bind_some, if_neg (by decide), fin' (fun h => c h.1)]
end Go.Avl.T2
/- SpotNumbers' parts: what the reference reads. -/
namespace Go.Avl.T2
open Go Go.RowKit Go.Proofs Go.Avl
set_option linter.all false
set_option maxRecDepth 10000

def acs (v c : Int) : Int := if 48 ≤ c ∧ c ≤ 57 then w64 (w64 (v * 10) - (c - 48)) else v
def ac (l : List Int) : Int := l.foldl acs 0
theorem i64_w (n : Int) : I64 (w64 n) := by unfold I64; rw [w64_eq]; omega
theorem acs_i64 {v c : Int} (h : I64 v) : I64 (acs v c) := by unfold acs; split; exact i64_w _; exact h
theorem foldl_i64 : ∀ (l : List Int) (v : Int), I64 v → I64 (l.foldl acs v)
  | [], v, h => h
  | c :: l, v, h => foldl_i64 l (acs v c) (acs_i64 h)
theorem ac_i64 (l : List Int) : I64 (ac l) := foldl_i64 l 0 (by unfold I64; omega)
theorem ac_take (l : List Int) (i : Nat) (h : i < l.length) : ac (l.take (i + 1)) = acs (ac (l.take i)) l[i] := by
  unfold ac; rw [← List.take_append_getElem h, List.foldl_append]; rfl
theorem ac_dig : ∀ (n : Nat) (l : List Int), l.length = n → Dig l → val l ≤ 9223372036854775808 → ac l = -(val l : Int)
  | 0, l, h, _, _ => by
    have : l = [] := List.length_eq_zero_iff.1 h
    subst this; rfl
  | n + 1, l, h, hd, hv => by
    rcases List.eq_nil_or_concat l with e | ⟨m, c, e⟩
    · subst e; simp at h
    · rw [List.concat_eq_append] at e
      subst e
      have hm : m.length = n := by simpa using h
      have hc := hd c (by simp)
      rw [val_snoc] at hv ⊢
      have ih := ac_dig n m hm (fun c hc => hd c (by simp [hc])) (by omega)
      have e : ac (m ++ [c]) = acs (ac m) c := by simp [ac]
      rw [e, ih, acs, if_pos hc, w64_id (n := -(val m : Int) * 10) (by omega) (by omega), w64_id (by omega) (by omega)]
      omega
theorem rnum_l {l : List Int} (hl : Byt l) (hz : l.length ≤ 100000) (b : Bool) : ∀ (m i fuel : Nat), i + m = min l.length 20 → m < fuel →
    bosketref13_Number_l3 2000 (strOfNums l) b fuel (ac (l.take i)) i = bosketref13_Number_c1 2000 (strOfNums l) b (ac (l.take 20))
  | 0, i, f + 1, h, _ => by
    rw [bosketref13_Number_l3.eq_2, strOfNums_size]
    have e : l.take i = l.take 20 := by
      by_cases a : l.length ≤ 20
      · rw [List.take_of_length_le (by omega), List.take_of_length_le (by omega)]
      · rw [show i = 20 by omega]
    by_cases a : (i : Int) < (l.length : Int)
    · rw [if_pos a, Option.bind_some, if_neg (by simp; omega), e]
    · rw [if_neg a, Option.bind_some, if_neg (by decide), e]
  | m + 1, i, f + 1, h, hf => by
    have hi : i < l.length := by omega
    have hb : byteAt (strOfNums l) (i : Int) = l[i] := byteAt_strOf l hl i hi
    have hbb := hl l[i] (List.getElem_mem hi)
    have g : 0 ≤ (i : Int) ∧ (i : Int) < (l.length : Int) := ⟨by omega, by omega⟩
    have ih := rnum_l hl hz b m (i + 1) f (by omega) (by omega)
    rw [ac_take l i hi] at ih
    rw [bosketref13_Number_l3.eq_2, strOfNums_size, if_pos g.2, Option.bind_some, if_pos (by simp; omega)]
    simp only [if_pos g, hb]
    have key : ∀ x, x = acs (ac (l.take i)) l[i] → bosketref13_Number_c2 2000 (bosketref13_Number_l3 2000 (strOfNums l) b f) i x = bosketref13_Number_c1 2000 (strOfNums l) b (ac (l.take 20)) := by
      rintro x rfl
      unfold bosketref13_Number_c2
      rw [w64_id (by omega) (by omega)]
      exact_mod_cast ih
    by_cases a : 48 ≤ l[i]
    · by_cases c : l[i] ≤ 57
      · rw [if_pos a, Option.bind_some, if_pos (decide_eq_true c), Option.bind_some]
        apply key
        rw [acs, if_pos ⟨a, c⟩, w8_id (n := l[i] - 48) (by omega) (by omega), w64_id (n := l[i] - 48) (by omega) (by omega)]
      · rw [if_pos a, Option.bind_some, if_neg (by simpa using c)]
        apply key
        rw [acs, if_neg (fun h => c h.2)]
    · rw [if_neg a, Option.bind_some, if_neg (by decide)]
      apply key
      rw [acs, if_neg (fun h => a h.1)]
theorem D_byt {n : Int} (h : I64 n) : Byt (D n) := by
  unfold I64 at h
  have := dg_dig 20 n.natAbs (by omega)
  intro x hx
  unfold D at hx
  split at hx
  · rcases List.mem_cons.1 hx with e | e
    · omega
    · have := this x e; omega
  · have := this x hx; omega
theorem rc0 {l : List Int} (hl : Byt l) {m : Int} (h : I64 m) : bosketref13_Number_c0 2000 (strOfNums l) m = some (if D m = l then (m, true) else (0, false)) := by
  unfold bosketref13_Number_c0
  rw [rdigits_eq h, Option.bind_some]
  by_cases a : D m = l
  · rw [if_neg (by simp [a]), if_pos a]
  · rw [if_pos (fun e => a (strOf_inj (D_byt h) hl e)), if_neg a]
def rm (l : List Int) : Int := if l.head? = some 45 then ac (l.take 20) else IntKind.i64.wrap (0 - ac (l.take 20))
theorem rnum_eq {l : List Int} (hl : Byt l) (hz : l.length ≤ 100000) : I64 (rm l) ∧ bosketref13_Number 2000 (strOfNums l) = some (if D (rm l) = l then (rm l, true) else (0, false)) := by
  have hi : I64 (rm l) := by
    unfold rm; split
    · exact ac_i64 _
    · exact i64_w _
  refine ⟨hi, ?_⟩
  have fin' : ∀ b : Bool, (b = true ↔ l.head? = some 45) → bosketref13_Number_l3 2000 (strOfNums l) b 2000 0 0 = some (if D (rm l) = l then (rm l, true) else (0, false)) := by
    intro b hb
    have := rnum_l hl hz b (min l.length 20) 0 2000 (by omega) (by omega)
    rw [List.take_zero] at this
    have e : bosketref13_Number_l3 2000 (strOfNums l) b 2000 0 0 = bosketref13_Number_c1 2000 (strOfNums l) b (ac (l.take 20)) := this
    rw [e]
    unfold bosketref13_Number_c1
    cases b
    · have h1 : ¬ l.head? = some 45 := fun h => by have := hb.2 h; cases this
      have e2 : rm l = IntKind.i64.wrap (0 - ac (l.take 20)) := by rw [rm, if_neg h1]
      rw [if_pos (show (!false) = true from rfl), ← e2, rc0 hl hi]
    · have e2 : rm l = ac (l.take 20) := by rw [rm, if_pos (hb.1 rfl)]
      rw [if_neg (by decide), ← e2, rc0 hl hi]
  unfold bosketref13_Number
  rw [strOfNums_size]
  cases l with
  | nil => rw [if_neg (by simp), Option.bind_some]; exact fin' false (by simp)
  | cons c t =>
    have hb : byteAt (strOfNums (c :: t)) 0 = c := byteAt_strOf (c :: t) hl 0 (by simp)
    rw [if_pos (by simp), if_pos ⟨by omega, by simp⟩, hb, Option.bind_some]
    exact fin' _ (by simp)
/-- A number's text is read as it. -/
theorem rm_D {n : Int} (h : I64 n) : rm (D n) = n := by
  have h' := h
  unfold I64 at h'
  have hd := dg_dig 19 n.natAbs (by omega)
  have hv := val_dg 19 n.natAbs (by omega)
  have hl := dg_len 19 n.natAbs (by omega) (by omega)
  have ha := ac_dig _ (dg n.natAbs) rfl hd (by omega)
  unfold rm D
  by_cases a : n < 0
  · rw [if_pos a, if_pos (show (45 :: dg n.natAbs).head? = some 45 from rfl), List.take_of_length_le (by simp; omega)]
    have e : ac (45 :: dg n.natAbs) = ac (dg n.natAbs) := rfl
    rw [e, ha, hv]; omega
  · have hh : ¬ (dg n.natAbs).head? = some 45 := by
      intro e
      have := hd 45 (List.mem_of_head? e)
      omega
    rw [if_neg a, if_neg hh, List.take_of_length_le (by omega), ha, hv]
    have := w64_id (n := 0 - -(n.natAbs : Int)) (by omega) (by omega)
    unfold w64 at this
    rw [this]; omega
theorem sn_D {n : Int} (h : I64 n) : sn (D n) = (n, true) := by
  have h' := h
  unfold I64 at h'
  have hd := dg_dig 19 n.natAbs (by omega)
  have hv := val_dg 19 n.natAbs (by omega)
  have hl := dg_len 19 n.natAbs (by omega) (by omega)
  have hh0 := dg_head 19 n.natAbs (by omega)
  have hne : dg n.natAbs ≠ [] := List.length_pos_iff.1 hl.2
  unfold sn
  by_cases a : n < 0
  · have e : cutm (D n) = (dg n.natAbs, true) := by unfold cutm D; rw [if_pos a, if_pos (show (45 :: dg n.natAbs).head? = some 45 from rfl)]; rfl
    rw [e]; dsimp only
    rw [if_neg (by
      rintro (h | h | h)
      · exact hne h
      · omega
      · have := hh0 h.1; omega), if_pos hd, hv, fin, if_pos ⟨rfl, by omega⟩]
    congr 1; omega
  · have hh : ¬ (dg n.natAbs).head? = some 45 := by
      intro e
      have := hd 45 (List.mem_of_head? e)
      omega
    have e : cutm (D n) = (dg n.natAbs, false) := by unfold cutm D; rw [if_neg a, if_neg hh]
    rw [e]; dsimp only
    rw [if_neg (by
      rintro (h | h | h)
      · exact hne h
      · omega
      · have := hh0 h.1
        rw [this, dg_lt (by omega)] at h
        rcases h.2 with h | h
        · cases h
        · simp at h), if_pos hd, hv, fin, if_neg (fun h => by cases h.1), if_pos ⟨rfl, by omega⟩]
    congr 1; omega
/-- Who reads a number reads its own text. -/
theorem sn_ok {l : List Int} (h : (sn l).2 = true) : I64 (sn l).1 ∧ D (sn l).1 = l := by
  unfold sn at h ⊢
  split at h
  · cases h
  rename_i a
  split at h
  · rename_i b
    rw [if_neg a, if_pos b]
    have nl : (cutm l).1 ≠ [] := fun e => a (.inl e)
    have hpos := List.length_pos_iff.2 nl
    obtain ⟨k, hk⟩ : ∃ k, (cutm l).1.length = k + 1 := ⟨(cutm l).1.length - 1, by omega⟩
    have hlow : (cutm l).2 = true → (cutm l).1.head? ≠ some 48 := fun e h => a (.inr (.inr ⟨h, .inl e⟩))
    have hcan : (cutm l).1.head? ≠ some 48 ∨ k = 0 := by
      by_cases c : (cutm l).1.head? = some 48
      · right
        have : ¬ 1 < (cutm l).1.length := fun h => a (.inr (.inr ⟨c, .inr h⟩))
        omega
      · exact .inl c
    obtain ⟨c1, c2⟩ := canon k _ hk b hcan
    unfold fin at h ⊢
    split at h
    · rename_i d
      rw [if_pos d]
      have hp := c2 (hlow d.1)
      have e : l.head? = some 45 := by
        have := d.1; unfold cutm at this; split at this
        · assumption
        · cases this
      have e2 : cutm l = (l.tail, true) := by unfold cutm; rw [if_pos e]
      refine ⟨by unfold I64; dsimp only; omega, ?_⟩
      dsimp only
      unfold D
      have e3 : (-(val (cutm l).1 : Int)).natAbs = val (cutm l).1 := by omega
      rw [if_pos (by omega), e3, c1, e2]
      cases l with
      | nil => cases e
      | cons x xs => simp at e; subst e; rfl
    · rename_i d
      rw [if_neg d]
      split at h
      · rename_i f
        rw [if_pos f]
        have e2 : cutm l = (l, false) := by
          have := f.1; unfold cutm at this ⊢; split at this
          · cases this
          · rename_i g; rw [if_neg g]
        refine ⟨by unfold I64; dsimp only; omega, ?_⟩
        dsimp only
        unfold D
        have e3 : (val (cutm l).1 : Int).natAbs = val (cutm l).1 := by omega
        rw [if_neg (by omega), e3, c1, e2]
      · cases h
  · cases h
theorem sn_no {l : List Int} (h : (sn l).2 = false) : sn l = (0, false) := by
  unfold sn at h ⊢
  split at h
  · rename_i a; rw [if_pos a]
  rename_i a
  rw [if_neg a]
  split at h
  · rename_i b
    rw [if_pos b]
    unfold fin at h ⊢
    split at h
    · cases h
    · rename_i c
      rw [if_neg c]
      split at h
      · cases h
      · rename_i d; rw [if_neg d]
  · rename_i b; rw [if_neg b]
/-- Both read alike. -/
theorem numbers_eq {l : List Int} (hl : Byt l) (hz : l.length ≤ 100000) : bosketref13_Number 2000 (strOfNums l) = some (sn l) := by
  obtain ⟨h1, h2⟩ := rnum_eq hl hz
  rw [h2]
  by_cases a : D (rm l) = l
  · rw [if_pos a]
    have := sn_D h1
    rw [a] at this
    rw [this]
  · rw [if_neg a]
    cases b : (sn l).2
    · rw [sn_no b]
    · obtain ⟨c1, c2⟩ := sn_ok b
      have := rm_D c1
      rw [c2] at this
      rw [this] at a
      exact absurd c2 a
theorem num_all {s : ByteArray} (hz : s.size ≤ 100000) : spot_Number 2000 s = some (sn (ints s)) ∧ bosketref13_Number 2000 s = some (sn (ints s)) := by
  have h := num_eq (ints_byt s) (by rw [ints_length]; exact hz)
  have h2 := numbers_eq (ints_byt s) (by rw [ints_length]; exact hz)
  rw [strOf_ints] at h h2
  exact ⟨h, h2⟩
theorem sn_i64 (l : List Int) : I64 (sn l).1 := by
  cases b : (sn l).2
  · rw [sn_no b]; unfold I64; dsimp only; omega
  · exact (sn_ok b).1
end Go.Avl.T2
/- SpotNumbers: the plain law. -/
namespace Go.Avl.T2
open Go Go.RowKit Go.Proofs Go.Avl
set_option linter.all false

theorem awake13 : bosketlaw13_awake 2000 = some true := by decide +kernel
theorem bosketlaw13_SpotNumbers_true (a0 : Int) (a1 : ByteArray) (h0 : wf3 a0) (h1 : wf9 a1) (h2 : a1.size ≤ 140737488351232) : ∃ k, bosketlaw13_SpotNumbers k a0 a1 = some true := by
  refine ⟨2000, ?_⟩
  have hi : I64 a0 := i64_wf h0
  unfold bosketlaw13_SpotNumbers
  rw [awake13, Option.bind_some, if_neg (by decide)]
  by_cases z1 : (100 : Int) < (a1.size : Int)
  · rw [if_pos z1]
  obtain ⟨n1, n2⟩ := num_all (s := a1) (by omega)
  have hl := dg_len 19 a0.natAbs (by unfold I64 at hi; omega) (by omega)
  have hD : (D a0).length ≤ 20 := by
    unfold D; split
    · rw [List.length_cons]; omega
    · omega
  have hsi := sn_i64 (ints a1)
  have hl2 := dg_len 19 (sn (ints a1)).1.natAbs (by unfold I64 at hsi; omega) (by omega)
  have hD2 : (D (sn (ints a1)).1).length ≤ 20 := by
    unfold D; split
    · rw [List.length_cons]; omega
    · omega
  have d1 : spot_Digits 2000 a0 = some (strOfNums (D a0)) := by unfold spot_Digits; rw [digits_eq hi, Option.bind_some]
  have n3 : spot_Number 2000 (strOfNums (D a0)) = some (a0, true) := by rw [num_eq (D_byt hi) (by omega), sn_D hi]
  have e1 : (ByteArray.mk #[58]).size = 1 := rfl
  rw [if_neg z1, n1, n2, Option.bind_some, Option.bind_some, d1, Option.bind_some, n3, Option.bind_some, Option.bind_some, rdigits_eq hi, Option.bind_some]
  unfold spot_Show
  dsimp only
  rw [digits_eq hi, digits_eq hsi, rdigits_eq hsi, Option.bind_some, Option.bind_some]
  have g1 : (strOfNums (D a0)).size + (ByteArray.mk #[58]).size ≤ 9223372036854775807 := by rw [strOfNums_size, e1]; omega
  have g2 : (strOfNums (D a0) ++ ByteArray.mk #[58]).size + (strOfNums (D (sn (ints a1)).1)).size ≤ 9223372036854775807 := by rw [ByteArray.size_append, strOfNums_size, strOfNums_size, e1]; omega
  simp only [if_pos g1, if_pos g2, Option.bind_some]
  simp
end Go.Avl.T2
