/- Parts: T2W, T2M4, T2M1, T2M2, T2M3, T2PureSpotPlaces. -/
import Derived.Test.YtmgiffbobkgcmaaAF1
import Derived.Test.YtmgiffbobkgcmaaAv3
import Derived.Test.YtmgiffbobkgcmaaAF2
import Derived.Lib.Bytealg
import Derived.Test.YtmgiffbobkgcmaaAF3
/- Opening of the arguments; printed by avlaw.py. -/
namespace Go.Avl.T2
open Go Go.RowKit Go.Proofs Go.Avl
set_option linter.unusedVariables false
set_option maxRecDepth 100000
abbrev wf9 : ByteArray → Prop := (fun s : ByteArray => s.size ≤ 9223372036854775807)
theorem op9 : Opens Try.prog 9 eStr wf9 := opens_string Try.underlying9
abbrev wf3 : Int → Prop := (fun n : Int => (Lit.int .i64 n).wf = true)
theorem op3 : Opens Try.prog 3 eI64 wf3 := opens_int Try.underlying3
abbrev wf23 : S23 → Prop := (fun x : S23 => wf3 x.f0 ∧ wf3 x.f1)
theorem op23 : Opens Try.prog 23 e23 wf23 := (opens_struct Try.underlying23 sz23 (opensF_cons rfl sz3 (by decide) op3 (opensF_cons rfl sz3 (by decide) op3 (opensF_nil _)))).map (fun p => S23.mk p.1 p.2.1) (fun _ => rfl) (fun _ h => ⟨h.1, h.2.1⟩)
abbrev wf55 : S55 → Prop := (fun x : S55 => wf3 x.f0 ∧ wf3 x.f1 ∧ wf9 x.f2)
theorem op55 : Opens Try.prog 55 e55 wf55 := (opens_struct Try.underlying55 sz55 (opensF_cons rfl sz3 (by decide) op3 (opensF_cons rfl sz3 (by decide) op3 (opensF_cons rfl sz9 (by decide) op9 (opensF_nil _))))).map (fun p => S55.mk p.1 p.2.1 p.2.2.1) (fun _ => rfl) (fun _ h => ⟨h.1, h.2.1, h.2.2.1⟩)
end Go.Avl.T2
/- Lines and columns. -/
namespace Go.Avl.T2
open Go Go.RowKit Go.Proofs Go.Avl
set_option linter.all false
set_option maxRecDepth 10000

/-- The line and the column of a place. -/
def pos (s : ByteArray) : Nat → Nat × Nat
  | 0 => (1, 1)
  | i + 1 => if byteAt s i = 10 then ((pos s i).1 + 1, 1) else ((pos s i).1, (pos s i).2 + 1)
theorem pos_ge (s : ByteArray) : ∀ i, 1 ≤ (pos s i).1 ∧ 1 ≤ (pos s i).2 ∧ (pos s i).1 ≤ i + 1 ∧ (pos s i).2 ≤ i + 1
  | 0 => by simp [pos]
  | i + 1 => by
    have := pos_ge s i
    rw [pos]; split <;> (dsimp only; omega)
theorem pos_mono (s : ByteArray) (i : Nat) : ∀ d, (pos s i).1 ≤ (pos s (i + d)).1
  | 0 => Nat.le_refl _
  | d + 1 => by
    have := pos_mono s i d
    rw [← Nat.add_assoc, pos]; split <;> (dsimp only; omega)
theorem pos_run (s : ByteArray) (a : Nat) : ∀ d, (∀ j, j < d → byteAt s ((a + j : Nat) : Int) ≠ 10) → pos s (a + d) = ((pos s a).1, (pos s a).2 + d)
  | 0, _ => rfl
  | d + 1, h => by
    rw [← Nat.add_assoc, pos, pos_run s a d (fun j hj => h j (by omega)), if_neg (h d (by omega))]
    simp; omega
/-- Of two places the one farther on has a greater line, or the same and a greater column. -/
theorem pos_lt (s : ByteArray) (i : Nat) : ∀ d, (pos s i).1 < (pos s (i + d + 1)).1 ∨ ((pos s i).1 = (pos s (i + d + 1)).1 ∧ (pos s i).2 < (pos s (i + d + 1)).2)
  | 0 => by
    rw [Nat.add_zero, pos]; split <;> simp
  | d + 1 => by
    have := pos_lt s i d
    rw [show i + (d + 1) + 1 = (i + d + 1) + 1 by omega, pos]
    split <;> (dsimp only; omega)
theorem pos_inj {s : ByteArray} {i j : Nat} (h : pos s i = pos s j) : i = j := by
  rcases Nat.lt_trichotomy i j with a | a | a
  · have := pos_lt s i (j - i - 1)
    rw [show i + (j - i - 1) + 1 = j by omega, h] at this; omega
  · exact a
  · have := pos_lt s j (i - j - 1)
    rw [show j + (i - j - 1) + 1 = i by omega, h] at this; omega
def clampn (s : ByteArray) (at' : Int) : Nat := (min (max at' 0) (s.size : Int)).toNat
theorem rof_l (s : ByteArray) (hs : s.size ≤ 1000) (at' : Int) : ∀ (m i fuel : Nat), i + m = clampn s at' → m < fuel →
    bosketref13_Of_l2 2000 s at' fuel (pos s i).1 (pos s i).2 i = some (((pos s (clampn s at')).1 : Int), ((pos s (clampn s at')).2 : Int))
  | 0, i, f + 1, h, _ => by
    have h' : (min (max at' 0) (s.size : Int)) = i := by unfold clampn at h; omega
    rw [bosketref13_Of_l2.eq_2]
    have e : (if (i : Int) < at' then some (decide ((i : Int) < (s.size : Int))) else some false) = some false := by
      by_cases a : (i : Int) < at'
      · rw [if_pos a]; congr 1; simp; omega
      · rw [if_neg a]
    rw [e, Option.bind_some, if_neg (by decide), bosketref13_Of_c0, show clampn s at' = i by omega]
  | m + 1, i, f + 1, h, hf => by
    have h1 : (i : Int) < at' ∧ i < s.size := by unfold clampn at h; omega
    have g : 0 ≤ (i : Int) ∧ (i : Int) < (s.size : Int) := ⟨by omega, by omega⟩
    have hp := pos_ge s i
    rw [bosketref13_Of_l2.eq_2, if_pos h1.1, Option.bind_some, if_pos (decide_eq_true g.2), if_pos g]
    have ih := rof_l s hs at' m (i + 1) f (by omega) (by omega)
    rw [pos] at ih
    by_cases a : byteAt s i = 10
    · rw [if_pos a] at ih
      rw [if_pos a, bosketref13_Of_c1, w64_id (n := (i : Int) + 1) (by omega) (by omega), w64_id (by omega) (by omega)]
      exact_mod_cast ih
    · rw [if_neg a] at ih
      rw [if_neg a, bosketref13_Of_c1, w64_id (n := (i : Int) + 1) (by omega) (by omega), w64_id (by omega) (by omega)]
      exact_mod_cast ih
theorem rof_eq (s : ByteArray) (hs : s.size ≤ 1000) (at' : Int) : bosketref13_Of 2000 s at' = some (((pos s (clampn s at')).1 : Int), ((pos s (clampn s at')).2 : Int)) := by
  have hc : clampn s at' ≤ s.size := by unfold clampn; omega
  exact rof_l s hs at' (clampn s at') 0 2000 (by omega) (by omega)
/-! What the library's searches find. -/
theorem find_idx (s : ByteArray) (c : Int) (hc : 0 ≤ c ∧ c ≤ 255) : (idxByte s c = -1 ∧ ∀ i : Nat, i < s.size → byteAt s i ≠ c) ∨ ∃ i : Nat, idxByte s c = i ∧ i < s.size ∧ byteAt s i = c ∧ ∀ j : Nat, j < i → byteAt s j ≠ c := by
  have key : ∀ i, i < s.size → ((s[i]! == c.toNat.toUInt8) = true ↔ byteAt s (i : Int) = c) := by
    intro i hi
    have e1 : s[i]! = s[i] := getElem!_pos s i hi
    have e2 : byteAt s (i : Int) = ((s[i]).toNat : Int) := by unfold byteAt; rw [dif_pos (show (i : Int).toNat < s.size by omega)]; rfl
    rw [e1, e2, beq_iff_eq]
    have h1 := (s[i]).toNat_lt
    constructor
    · intro h; rw [h]; simp; omega
    · intro h; apply UInt8.toNat_inj.1; simp; omega
  unfold idxByte firstIdx
  cases h : (List.range s.size).find? (fun i => s[i]! == c.toNat.toUInt8) with
  | none =>
    left
    refine ⟨rfl, fun i hi e => ?_⟩
    have := List.find?_range_eq_none.1 h i hi
    rw [(key i hi).2 e] at this; cases this
  | some i =>
    right
    obtain ⟨h1, h2, h3⟩ := List.find?_range_eq_some.1 h
    have hi := List.mem_range.1 h2
    refine ⟨i, rfl, hi, (key i hi).1 h1, fun j hj e => ?_⟩
    have := h3 j hj
    rw [(key j (by omega)).2 e] at this; cases this
/-- How many of a byte stand ahead of a place. -/
def cnt (s : ByteArray) : Nat → Nat
  | 0 => 0
  | i + 1 => cnt s i + (if byteAt s i = 10 then 1 else 0)
theorem cnt_pos (s : ByteArray) : ∀ i, (pos s i).1 = cnt s i + 1
  | 0 => rfl
  | i + 1 => by rw [pos, cnt]; have := cnt_pos s i; split <;> (dsimp only; omega)
theorem cnt_cut (s : ByteArray) (n : Nat) (hn : n ≤ s.size) : ∀ i, i ≤ n → cnt (s.extract 0 n) i = cnt s i
  | 0, _ => rfl
  | i + 1, h => by
    have := byteAt_extract s 0 (n : Int) (i : Int) (by omega) (by omega) (by omega) (by omega) (by omega)
    simp only [Int.toNat_natCast, Int.zero_add] at this
    rw [cnt, cnt, cnt_cut s n hn i (by omega)]
    have e : byteAt (s.extract 0 n) (i : Int) = byteAt s i := this
    rw [e]
theorem cntByte_eq (s : ByteArray) : cntByte s 10 = cnt s s.size := by
  have h1 : cntByte s 10 = s.data.toList.foldl (fun (n : Int) x => if (x == (10 : Int).toNat.toUInt8) = true then n + 1 else n) 0 := by
    unfold cntByte; exact Lib.foldl_data _ _ s
  have hl : s.data.toList.length = s.size := Array.length_toList
  have key : ∀ i, i ≤ s.size → (s.data.toList.take i).foldl (fun (n : Int) x => if (x == (10 : Int).toNat.toUInt8) = true then n + 1 else n) 0 = (cnt s i : Int) := by
    intro i
    induction i with
    | zero => intro _; rfl
    | succ i ih =>
      intro hi
      have hi' : i < s.data.toList.length := by omega
      rw [← List.take_append_getElem hi', List.foldl_append, ih (by omega)]
      have e2 : byteAt s (i : Int) = ((s.data.toList[i]).toNat : Int) := by
        unfold byteAt; rw [dif_pos (show (i : Int).toNat < s.size by omega)]; rfl
      rw [cnt, e2]
      have h1 := (s.data.toList[i]).toNat_lt
      show (if (s.data.toList[i] == (10 : Int).toNat.toUInt8) = true then (cnt s i : Int) + 1 else (cnt s i : Int)) = _
      by_cases a : s.data.toList[i] = (10 : Int).toNat.toUInt8
      · rw [if_pos (by simpa using a), a]; rfl
      · rw [if_neg (by simpa using a), if_neg (fun h => a (by apply UInt8.toNat_inj.1; have : (10 : Int).toNat.toUInt8.toNat = 10 := rfl; omega))]
        simp
  rw [h1, ← key s.size (Nat.le_refl _), List.take_of_length_le (by omega)]
theorem last_l (s : ByteArray) (hs : s.size ≤ 1000) : ∀ (n fuel : Nat), n ≤ s.size → n < fuel →
    ∃ r : Int, internal_bytealg_LastIndexByteString_l1 2000 s 10 fuel ((n : Int) - 1) = some r ∧ (pos s n).2 = (n : Int) - r ∧ -1 ≤ r ∧ r < n
  | 0, f + 1, _, _ => by
    rw [internal_bytealg_LastIndexByteString_l1.eq_2, if_neg (by omega)]
    exact ⟨-1, rfl, by simp [pos], by omega, by omega⟩
  | n + 1, f + 1, hn, hf => by
    have e : ((n + 1 : Nat) : Int) - 1 = n := by omega
    rw [internal_bytealg_LastIndexByteString_l1.eq_2, e, if_pos (by omega), if_pos ⟨by omega, by omega⟩]
    by_cases a : byteAt s n = 10
    · rw [if_pos a]
      refine ⟨n, rfl, ?_, by omega, by omega⟩
      rw [pos, if_pos a]; dsimp only; omega
    · obtain ⟨r, r1, r2, r3, r4⟩ := last_l s hs n f (by omega) (by omega)
      rw [if_neg a, w64_id (by omega) (by omega)]
      refine ⟨r, r1, ?_, r3, by omega⟩
      rw [pos, if_neg a]; push_cast; omega
theorem pos_cut (s : ByteArray) (n : Nat) (hn : n ≤ s.size) : ∀ i, i ≤ n → pos (s.extract 0 n) i = pos s i
  | 0, _ => rfl
  | i + 1, h => by
    have := byteAt_extract s 0 (n : Int) (i : Int) (by omega) (by omega) (by omega) (by omega) (by omega)
    simp only [Int.toNat_natCast, Int.zero_add] at this
    have e : byteAt (s.extract 0 n) (i : Int) = byteAt s i := this
    rw [pos, pos, pos_cut s n hn i (by omega), e]
theorem of_eq (s : ByteArray) (hs : s.size ≤ 1000) (at' : Int) : spot_Of 2000 s at' = some ⟨((pos s (clampn s at')).1 : Int), ((pos s (clampn s at')).2 : Int)⟩ := by
  have hc : clampn s at' ≤ s.size := by unfold clampn; omega
  have hm : (min (max at' 0) (s.size : Int)) = (clampn s at' : Int) := by unfold clampn; omega
  unfold spot_Of strings_Count strings_LastIndex internal_bytealg_LastIndexByteString
  rw [hm]
  generalize clampn s at' = n at hc hm
  have g : 0 ≤ (0 : Int) ∧ (0 : Int) ≤ (n : Int) ∧ (n : Int) ≤ (s.size : Int) := ⟨by omega, by omega, by omega⟩
  have e1 : (ByteArray.mk #[10]).size = 1 := rfl
  have e2 : byteAt (ByteArray.mk #[10]) 0 = 10 := rfl
  have e3 : s.extract (0 : Int).toNat (n : Int).toNat = s.extract 0 n := by simp
  have hz : (s.extract 0 n).size = n := by rw [ByteArray.size_extract]; omega
  obtain ⟨r, r1, r2, r3, r4⟩ := last_l (s.extract 0 n) (by omega) n 2000 (by omega) (by omega)
  have hp := pos_ge s n
  rw [pos_cut s n hc n (Nat.le_refl _)] at r2
  have hcn : cntByte (s.extract 0 n) 10 = ((cnt s n : Nat) : Int) := by rw [cntByte_eq, hz, cnt_cut s n hc n (Nat.le_refl _)]
  have hcp := cnt_pos s n
  simp only [if_pos g, e1, e2, e3, hz]
  rw [if_neg (by omega), if_pos (by omega), if_pos ⟨by omega, by omega⟩, Option.bind_some, if_neg (by omega), if_pos (by omega), if_pos ⟨by omega, by omega⟩, w64_id (n := (n : Int) - 1) (by omega) (by omega), r1, Option.bind_some, Option.bind_some, hcn, w64_id (by omega) (by omega), w64_id (by omega) (by omega)]
  congr 2 <;> omega
end Go.Avl.T2
/- Numbers as texts. -/
namespace Go.Avl.T2
open Go Go.RowKit Go.Proofs Go.Avl
set_option linter.all false

/-- The digits of a number. -/
def dg (n : Nat) : List Int := if h : n < 10 then [48 + (n : Int)] else dg (n / 10) ++ [48 + ((n % 10 : Nat) : Int)]
termination_by n
decreasing_by omega
theorem dg_lt {n : Nat} (h : n < 10) : dg n = [48 + (n : Int)] := by rw [dg, dif_pos h]
theorem dg_ge {n : Nat} (h : 10 ≤ n) : dg n = dg (n / 10) ++ [48 + ((n % 10 : Nat) : Int)] := by rw [dg, dif_neg (by omega)]
def val (l : List Int) : Nat := l.foldl (fun v c => v * 10 + (c - 48).toNat) 0
theorem val_snoc (l : List Int) (c : Int) : val (l ++ [c]) = val l * 10 + (c - 48).toNat := by simp [val]
def Dig (l : List Int) : Prop := ∀ c ∈ l, 48 ≤ c ∧ c ≤ 57
theorem dg_dig : ∀ (k n : Nat), n < 10 ^ k → Dig (dg n)
  | 0, n, h => by
    have : n = 0 := by simpa using h
    subst this; rw [dg_lt (by omega)]; intro c hc; simp at hc; omega
  | k + 1, n, h => by
    by_cases a : n < 10
    · rw [dg_lt a]; intro c hc; simp at hc; omega
    · rw [dg_ge (by omega)]
      have := dg_dig k (n / 10) (by rw [Nat.pow_succ] at h; omega)
      intro c hc
      rcases List.mem_append.1 hc with hc | hc
      · exact this c hc
      · simp at hc; omega
theorem val_dg : ∀ (k n : Nat), n < 10 ^ k → val (dg n) = n
  | 0, n, h => by
    have : n = 0 := by simpa using h
    subst this; rw [dg_lt (by omega)]; rfl
  | k + 1, n, h => by
    by_cases a : n < 10
    · rw [dg_lt a]; simp [val]; omega
    · rw [dg_ge (by omega), val_snoc, val_dg k (n / 10) (by rw [Nat.pow_succ] at h; omega)]
      omega
theorem dg_len : ∀ (k n : Nat), n < 10 ^ k → 0 < k → (dg n).length ≤ k ∧ 0 < (dg n).length
  | 0, n, h, z => by omega
  | k + 1, n, h, _ => by
    by_cases a : n < 10
    · rw [dg_lt a]; simp
    · have hk : 0 < k := by
        rcases Nat.eq_zero_or_pos k with e | e
        · subst e; simp at h; omega
        · exact e
      have := dg_len k (n / 10) (by rw [Nat.pow_succ] at h; omega) hk
      rw [dg_ge (by omega)]; simp; omega
theorem dg_head : ∀ (k n : Nat), n < 10 ^ k → (dg n).head? = some 48 → n = 0
  | 0, n, h, e => by simpa using h
  | k + 1, n, h, e => by
    by_cases a : n < 10
    · rw [dg_lt a] at e; simp at e; omega
    · rw [dg_ge (by omega)] at e
      have hl := (dg_len (k + 1) (n / 10) (by rw [Nat.pow_succ] at h ⊢; omega) (by omega)).2
      have e' : (dg (n / 10)).head? = some 48 := by
        cases hd : dg (n / 10) with
        | nil => rw [hd] at hl; simp at hl
        | cons x xs => rw [hd] at e; simpa using e
      have := dg_head k (n / 10) (by rw [Nat.pow_succ] at h; omega) e'
      omega
/-- Digits without a needless 0 ahead are those of their number. -/
theorem canon : ∀ (n : Nat) (l : List Int), l.length = n + 1 → Dig l → (l.head? ≠ some 48 ∨ n = 0) → dg (val l) = l ∧ (l.head? ≠ some 48 → 0 < val l)
  | 0, l, hl, hd, _ => by
    match l, hl with
    | [c], _ => 
      have := hd c (by simp)
      have e : val [c] = (c - 48).toNat := by simp [val]
      rw [e, dg_lt (by omega)]
      refine ⟨by congr 1; omega, fun h => ?_⟩
      have : c ≠ 48 := by simpa using h
      omega
  | n + 1, l, hl, hd, hh => by
    have hh : l.head? ≠ some 48 := by rcases hh with h | h; exact h; omega
    rcases List.eq_nil_or_concat l with e | ⟨m, c, e⟩
    · subst e; simp at hl
    · rw [List.concat_eq_append] at e
      subst e
      have hm : m.length = n + 1 := by simpa using hl
      have hm2 : m.head? ≠ some 48 := by
        cases m with
        | nil => simp at hm
        | cons x xs => simpa using hh
      obtain ⟨i1, i2⟩ := canon n m hm (fun c hc => hd c (by simp [hc])) (.inl hm2)
      have hp := i2 hm2
      have hc := hd c (by simp)
      rw [val_snoc]
      refine ⟨?_, fun _ => by omega⟩
      rw [dg_ge (by omega), show (val m * 10 + (c - 48).toNat) / 10 = val m by omega, i1]
      congr 2; omega
/-- The text of a number. -/
def D (n : Int) : List Int := if n < 0 then 45 :: dg n.natAbs else dg n.natAbs
def I64 (n : Int) : Prop := -9223372036854775808 ≤ n ∧ n ≤ 9223372036854775807

theorem tq (n : Int) : n.tdiv 10 = if n < 0 then - ((n.natAbs / 10 : Nat) : Int) else ((n.natAbs / 10 : Nat) : Int) := by
  by_cases a : n < 0
  · have e : n = -((n.natAbs : Nat) : Int) := by omega
    rw [if_pos a, e, Int.neg_tdiv, Int.tdiv_eq_ediv_of_nonneg (by omega)]; omega
  · rw [if_neg a, Int.tdiv_eq_ediv_of_nonneg (by omega)]; omega
theorem tr (n : Int) : n.tmod 10 = if n < 0 then - ((n.natAbs % 10 : Nat) : Int) else ((n.natAbs % 10 : Nat) : Int) := by
  by_cases a : n < 0
  · have e : n = -((n.natAbs : Nat) : Int) := by omega
    rw [if_pos a, e, Int.neg_tmod, Int.tmod_eq_emod_of_nonneg (by omega)]; omega
  · rw [if_neg a, Int.tmod_eq_emod_of_nonneg (by omega)]; omega
theorem natural_eq : ∀ (k n : Nat), n < 10 ^ k → n < 18446744073709551616 → spot_natural (k + 1) (n : Int) = some (strOfNums (dg n))
  | 0, n, h, h2 => by
    have : n = 0 := by simpa using h
    subst this; rw [dg_lt (by omega)]; rfl
  | k + 1, n, h, h2 => by
    rw [spot_natural.eq_2]
    by_cases a : (n : Int) < 10
    · have e1 : u64 ((48 : Int) + n) = 48 + n := by rw [u64_eq]; omega
      rw [if_pos a, dg_lt (by omega), e1, w8_id (by omega) (by omega)]
    · have e1 : IntKind.u64.wrap ((n : Int).tdiv 10) = ((n / 10 : Nat) : Int) := by
        have : (n : Int).tdiv 10 = ((n / 10 : Nat) : Int) := by rw [tq, if_neg (by omega)]; omega
        rw [this]; have := u64_eq ((n / 10 : Nat) : Int); unfold u64 at this; rw [this]; omega
      have e2 : (n : Int).tmod 10 = ((n % 10 : Nat) : Int) := by rw [tr, if_neg (by omega)]; omega
      have e3 : u64 ((48 : Int) + ((n % 10 : Nat) : Int)) = 48 + ((n % 10 : Nat) : Int) := by rw [u64_eq]; omega
      have hz : (dg (n / 10)).length ≤ 20 := (dg_len 20 (n / 10) (by omega) (by omega)).1
      rw [if_neg a, e1, natural_eq k (n / 10) (by rw [Nat.pow_succ] at h; omega) (by omega), Option.bind_some, e2, e3, w8_id (by omega) (by omega), if_pos (by rw [strOfNums_size, strOfNums_size]; simp; omega), dg_ge (n := n) (by omega)]
      congr 1
      apply ByteArray.ext; apply Array.ext'; simp [strOfNums]
theorem pow_big {n k : Nat} (h : n < 100000000000000000000) (hk : 20 ≤ k) : n < 10 ^ k := Nat.lt_of_lt_of_le (show n < 10 ^ 20 from h) (Nat.pow_le_pow_right (by omega) hk)
theorem natural_eq' (k n : Nat) (hk : 20 ≤ k) (h2 : n < 18446744073709551616) : spot_natural (k + 1) (n : Int) = some (strOfNums (dg n)) := natural_eq k n (pow_big (by omega) hk) h2
theorem digits_eq {n : Int} (h : I64 n) : spot_digits 2000 n = some (strOfNums (D n)) := by
  unfold I64 at h
  unfold spot_digits D
  by_cases a : n < 0
  · have e : u64 (IntKind.i64.wrap (0 - n)) = ((n.natAbs : Nat) : Int) := by
      have := w64_eq (0 - n); unfold w64 at this; rw [this, u64_eq]; omega
    have hz : (dg n.natAbs).length ≤ 20 := (dg_len 20 n.natAbs (by omega) (by omega)).1
    have e1 : (ByteArray.mk #[45]).size = 1 := rfl
    rw [if_pos a, if_pos a, e, natural_eq' 1999 _ (by omega) (by omega), Option.bind_some, if_pos (by rw [strOfNums_size, e1]; omega), strOf_cons 45]
    rfl
  · have e : u64 n = ((n.natAbs : Nat) : Int) := by rw [u64_eq]; omega
    rw [if_neg a, if_neg a, e, natural_eq' 1999 _ (by omega) (by omega), Option.bind_some]
theorem rdigits_l (p0 : Int) : ∀ (k : Nat) (n : Int) (acc : ByteArray), n ≠ 0 → n.natAbs < 10 ^ k → I64 n → acc.size + k ≤ 100000 → bosketref13_Digits_l2 2000 p0 (k + 1) n acc = bosketref13_Digits_c0 2000 p0 (strOfNums (dg n.natAbs) ++ acc)
  | 0, n, acc, hn, h, _, _ => by simp at h; omega
  | k + 1, n, acc, hn, h, hi, hz => by
    unfold I64 at hi
    have q1 := tq n
    have q2 := tr n
    rw [bosketref13_Digits_l2.eq_2, if_pos hn]
    have key : ∀ x : Int, x = ((n.natAbs % 10 : Nat) : Int) → bosketref13_Digits_c1 2000 (bosketref13_Digits_l2 2000 p0 (k + 1)) n acc x = bosketref13_Digits_c0 2000 p0 (strOfNums (dg n.natAbs) ++ acc) := by
      rintro x rfl
      have e1 : w64 ((48 : Int) + ((n.natAbs % 10 : Nat) : Int)) = 48 + ((n.natAbs % 10 : Nat) : Int) := w64_id (by omega) (by omega)
      have e2 : IntKind.i64.wrap (n.tdiv 10) = n.tdiv 10 := by have := w64_id (n := n.tdiv 10) (by omega) (by omega); exact this
      have e3 : (n.tdiv 10).natAbs = n.natAbs / 10 := by omega
      unfold bosketref13_Digits_c1
      rw [e1, w8_id (by omega) (by omega), if_pos (by rw [strOfNums_size]; simp; omega), Option.bind_some, e2]
      by_cases a : n.natAbs < 10
      · have z : n.tdiv 10 = 0 := by omega
        rw [z, bosketref13_Digits_l2.eq_2, if_neg (by omega), dg_lt a]
        congr 4; omega
      · rw [rdigits_l p0 k (n.tdiv 10) _ (by omega) (by rw [e3]; rw [Nat.pow_succ] at h; omega) (by unfold I64; omega) (by rw [ByteArray.size_append, strOfNums_size]; simp; omega), e3, dg_ge (n := n.natAbs) (by omega)]
        congr 1
        apply ByteArray.ext; apply Array.ext'; simp [strOfNums]
    by_cases a : n.tmod 10 < 0
    · rw [if_pos a]; apply key
      have := w64_id (n := 0 - n.tmod 10) (by omega) (by omega)
      unfold w64 at this; rw [this]; omega
    · rw [if_neg a]; apply key; omega
theorem rdigits_l' (p0 : Int) (k : Nat) (n : Int) (acc : ByteArray) (hn : n ≠ 0) (hk : 20 ≤ k) (hi : I64 n) (hz : acc.size + k ≤ 100000) : bosketref13_Digits_l2 2000 p0 (k + 1) n acc = bosketref13_Digits_c0 2000 p0 (strOfNums (dg n.natAbs) ++ acc) := rdigits_l p0 k n acc hn (pow_big (by unfold I64 at hi; omega) hk) hi hz
theorem rdigits_eq {n : Int} (h : I64 n) : bosketref13_Digits 2000 n = some (strOfNums (D n)) := by
  have h' := h
  unfold I64 at h'
  unfold bosketref13_Digits
  by_cases a : n = 0
  · subst a; rw [if_pos rfl]
    have : D 0 = [48] := by unfold D; rw [if_neg (by omega), show (0 : Int).natAbs = 0 from rfl, dg_lt (by omega)]; rfl
    rw [this]; rfl
  · have hz : (dg n.natAbs).length ≤ 20 := (dg_len 20 n.natAbs (by omega) (by omega)).1
    rw [if_neg a, rdigits_l' n 1999 n _ a (by omega) h (by decide)]
    have e : strOfNums (dg n.natAbs) ++ ByteArray.mk #[] = strOfNums (dg n.natAbs) := by apply ByteArray.ext; apply Array.ext'; simp [strOfNums]
    rw [e]
    unfold bosketref13_Digits_c0 D
    by_cases b : n < 0
    · have e1 : (ByteArray.mk #[45]).size = 1 := rfl
      rw [if_pos b, if_pos b, if_pos (by rw [strOfNums_size, e1]; omega), strOf_cons 45]; rfl
    · rw [if_neg b, if_neg b]
end Go.Avl.T2
/- Numbers read. -/
namespace Go.Avl.T2
open Go Go.RowKit Go.Proofs Go.Avl
set_option linter.all false
set_option maxRecDepth 10000
instance (l : List Int) : Decidable (Dig l) := by unfold Dig; infer_instance

def Byt (l : List Int) : Prop := ∀ x ∈ l, 0 ≤ x ∧ x ≤ 255
theorem Byt.tail {c : Int} {l : List Int} (h : Byt (c :: l)) : Byt l := fun x hx => h x (List.mem_cons_of_mem _ hx)
theorem ints_byt (s : ByteArray) : Byt (ints s) := by
  intro x hx
  obtain ⟨b, _, rfl⟩ := List.mem_map.1 hx
  have := b.toNat_lt; omega
theorem extract_strOf (l : List Int) (i j : Nat) : (strOfNums l).extract i j = strOfNums ((l.take j).drop i) := by
  apply ByteArray.ext; apply Array.ext'
  rw [ByteArray.data_extract, strOfNums_data]
  simp only [strOfNums, Array.toList_extract, List.extract]
  simp [List.drop_take]
theorem strOf_one {c : Int} (h : 0 ≤ c ∧ c ≤ 255) (d : UInt8) : strOfNums [c] = ByteArray.mk #[d] ↔ c = d.toNat := by
  constructor
  · intro e
    have := congrArg (fun s : ByteArray => s.data.toList) e
    simp [strOfNums] at this
    rw [← this]; simp; omega
  · rintro rfl; apply ByteArray.ext; apply Array.ext'; simp [strOfNums]
def cutm (l : List Int) : List Int × Bool := if l.head? = some 45 then (l.tail, true) else (l, false)
theorem cut_eq {l : List Int} (hl : Byt l) (hz : l.length ≤ 100000) : strings_CutPrefix 2000 (strOfNums l) (ByteArray.mk #[45]) = some (strOfNums (cutm l).1, (cutm l).2) := by
  have e1 : (ByteArray.mk #[45]).size = 1 := rfl
  unfold strings_CutPrefix internal_stringslite_CutPrefix internal_stringslite_HasPrefix
  simp only [e1, strOfNums_size]
  cases l with
  | nil => simp [cutm]
  | cons c t =>
    have g : ((1 : Nat) : Int) ≤ (((c :: t).length : Nat) : Int) := by simp; omega
    have g2 : 0 ≤ (0 : Int) ∧ (0 : Int) ≤ ((1 : Nat) : Int) ∧ ((1 : Nat) : Int) ≤ (((c :: t).length : Nat) : Int) := ⟨by omega, by omega, g⟩
    have ex : (strOfNums (c :: t)).extract (0 : Int).toNat ((1 : Nat) : Int).toNat = strOfNums [c] := by
      rw [show (0 : Int).toNat = 0 from rfl, Int.toNat_natCast, extract_strOf]; simp
    have ex2 : (strOfNums (c :: t)).extract ((1 : Nat) : Int).toNat (((c :: t).length : Nat) : Int).toNat = strOfNums t := by
      rw [Int.toNat_natCast, Int.toNat_natCast, extract_strOf]; simp
    have hc := strOf_one (hl c (by simp)) 45
    rw [if_pos g, if_pos g2, ex, Option.bind_some, Option.bind_some, ex2]
    by_cases a : c = 45
    · have a' : strOfNums [c] = ByteArray.mk #[45] := hc.2 a
      rw [if_neg (by simp [a']), if_pos ⟨by omega, g, by omega⟩]
      simp [cutm, a]
    · have a' : ¬ strOfNums [c] = ByteArray.mk #[45] := fun e => a (hc.1 e)
      rw [if_pos (by simp [a'])]
      simp [cutm, a]
theorem val_take (l : List Int) (i : Nat) (h : i < l.length) : val (l.take (i + 1)) = val (l.take i) * 10 + (l[i] - 48).toNat := by
  rw [← List.take_append_getElem h, val_snoc]
theorem val_lt : ∀ (n : Nat) (l : List Int), l.length = n → Dig l → val l < 10 ^ n
  | 0, l, h, _ => by
    have : l = [] := List.length_eq_zero_iff.1 h
    subst this; simp [val]
  | n + 1, l, h, hd => by
    rcases List.eq_nil_or_concat l with e | ⟨m, c, e⟩
    · subst e; simp at h
    · rw [List.concat_eq_append] at e
      subst e
      have hm : m.length = n := by simpa using h
      have := val_lt n m hm (fun c hc => hd c (by simp [hc]))
      have hc := hd c (by simp)
      rw [val_snoc, Nat.pow_succ]; omega
def fin (low : Bool) (v : Nat) : Int × Bool := if low = true ∧ v ≤ 9223372036854775808 then (-(v : Int), true) else if low = false ∧ v < 9223372036854775808 then ((v : Int), true) else (0, false)
theorem fin_eq (t : ByteArray) (low : Bool) (v : Nat) (hv : v < 10 ^ 19) (hp : low = true → 0 < v) : spot_Number_c0 2000 (t, low) (v : Int) = some (fin low v) := by
  have hv : v < 10000000000000000000 := hv
  unfold spot_Number_c0 fin
  cases low
  · have n1 : ¬ ((t, false).2 = true) := fun h => by cases h
    by_cases a : (v : Int) < 9223372036854775808
    · rw [if_neg n1, Option.bind_some, if_neg (by decide), if_pos (show (!(t, false).2) = true from rfl), Option.bind_some, if_pos (decide_eq_true a), if_neg (fun h => by cases h.1), if_pos ⟨rfl, by omega⟩, w64_id (by omega) (by omega)]
    · rw [if_neg n1, Option.bind_some, if_neg (by decide), if_pos (show (!(t, false).2) = true from rfl), Option.bind_some, if_neg (by simpa using a), if_neg (fun h => by cases h.1), if_neg (fun h => by omega)]
  · have hp := hp rfl
    by_cases a : (v : Int) ≤ 9223372036854775808
    · have e := u64_eq (0 - (v : Int)); unfold u64 at e
      rw [if_pos rfl, Option.bind_some, if_pos (decide_eq_true a), if_pos ⟨rfl, by omega⟩, e, w64_eq]
      congr 2; omega
    · rw [if_pos rfl, Option.bind_some, if_neg (by simpa using a), if_neg (show ¬ ((!(t, true).2) = true) from fun h => by cases h), Option.bind_some, if_neg (by decide), if_neg (fun h => by omega), if_neg (fun h => by cases h.1)]
theorem num_l {t : List Int} (ht : Byt t) (low : Bool) (hz : t.length ≤ 19) (hp : low = true → Dig t → 0 < val t) : ∀ (m i fuel : Nat), i + m = t.length → m < fuel → Dig (t.take i) →
    spot_Number_l1 2000 (strOfNums t, low) fuel (val (t.take i)) i = some (if Dig t then fin low (val t) else (0, false))
  | 0, i, f + 1, h, _, hd => by
    have e : t.take i = t := List.take_of_length_le (by omega)
    rw [e] at hd ⊢
    have hv := val_lt t.length t rfl hd
    have hv2 : val t < 10 ^ 19 := Nat.lt_of_lt_of_le hv (Nat.pow_le_pow_right (by omega) (by omega))
    rw [spot_Number_l1.eq_2, if_neg (by simp only [strOfNums_size]; omega), fin_eq _ _ _ hv2 (fun e => hp e hd), if_pos hd]
  | m + 1, i, f + 1, h, hf, hd => by
    have hi : i < t.length := by omega
    have h1 : (i : Int) < (((strOfNums t, low).1.size : Nat) : Int) := by simp only [strOfNums_size]; omega
    have g : 0 ≤ (i : Int) ∧ (i : Int) < (((strOfNums t, low).1.size : Nat) : Int) := ⟨by omega, h1⟩
    have hb : byteAt (strOfNums t, low).1 (i : Int) = t[i] := byteAt_strOf t ht i hi
    have hbb := ht t[i] (List.getElem_mem hi)
    rw [spot_Number_l1.eq_2, if_pos h1]
    simp only [if_pos g, hb]
    by_cases a : 48 ≤ t[i] ∧ t[i] ≤ 57
    · rw [if_neg (by omega), Option.bind_some, if_neg (by simp; omega), Option.bind_some]
      have hv := val_lt i (t.take i) (by simp; omega) hd
      have hv2 : val (t.take i) < 10 ^ 18 := Nat.lt_of_lt_of_le hv (Nat.pow_le_pow_right (by omega) (by omega))
      have hv2 : val (t.take i) < 1000000000000000000 := hv2
      have e : u64 (u64 ((val (t.take i) : Int) * 10) + u64 (w8 (t[i] - 48))) = ((val (t.take (i + 1)) : Nat) : Int) := by
        rw [val_take t i hi, w8_id (by omega) (by omega), u64_eq, u64_eq, u64_eq]; omega
      rw [e, w64_id (by omega) (by omega)]
      have hd2 : Dig (t.take (i + 1)) := by
        rw [← List.take_append_getElem hi]
        intro c hc
        rcases List.mem_append.1 hc with hc | hc
        · exact hd c hc
        · simp at hc; subst hc; exact a
      exact_mod_cast num_l ht low hz hp m (i + 1) f (by omega) (by omega) hd2
    · have nd : ¬ Dig t := fun h => a (h _ (List.getElem_mem hi))
      rw [if_neg nd]
      by_cases b : t[i] < 48
      · rw [if_pos b, Option.bind_some, if_pos rfl]
      · rw [if_neg b, Option.bind_some, if_pos (by simp; omega)]
/-- The number of a text. -/
def sn (l : List Int) : Int × Bool :=
  if (cutm l).1 = [] ∨ 19 < (cutm l).1.length ∨ ((cutm l).1.head? = some 48 ∧ ((cutm l).2 = true ∨ 1 < (cutm l).1.length)) then (0, false)
  else if Dig (cutm l).1 then fin (cutm l).2 (val (cutm l).1) else (0, false)
theorem cutm_byt {l : List Int} (h : Byt l) : Byt (cutm l).1 := by
  unfold cutm
  split
  · intro x hx; exact h x (List.mem_of_mem_tail hx)
  · exact h
theorem num_eq {l : List Int} (hl : Byt l) (hz : l.length ≤ 100000) : spot_Number 2000 (strOfNums l) = some (sn l) := by
  unfold spot_Number sn
  rw [cut_eq hl hz, Option.bind_some]
  have hb := cutm_byt hl
  generalize hc : cutm l = c at hb
  obtain ⟨t, low⟩ := c
  dsimp only at hb ⊢
  by_cases a : t = []
  · subst a
    have e : strOfNums [] = ByteArray.mk #[] := rfl
    rw [if_pos e, Option.bind_some, if_pos rfl, if_pos (.inl rfl)]
  · have e : ¬ strOfNums t = ByteArray.mk #[] := by
      intro h
      have := congrArg ByteArray.size h
      rw [strOfNums_size] at this
      exact a (List.length_eq_zero_iff.1 this)
    have hpos : 0 < t.length := List.length_pos_iff.2 a
    rw [if_neg e, strOfNums_size]
    by_cases b : 19 < t.length
    · rw [if_pos (by omega), Option.bind_some, if_pos rfl, if_pos (.inr (.inl b))]
    · have hb0 : byteAt (strOfNums t) 0 = t[0] := byteAt_strOf t hb 0 hpos
      have hh : t.head? = some t[0] := by rw [List.head?_eq_getElem?, List.getElem?_eq_getElem hpos]
      rw [if_neg (by omega), if_pos ⟨by omega, by omega⟩, hb0, hh]
      have fin' : ¬ (t[0] = 48 ∧ (low = true ∨ 1 < t.length)) → spot_Number_l1 2000 (strOfNums t, low) 2000 0 0 = some (if Dig t then fin low (val t) else (0, false)) := by
        intro hn
        refine num_l hb low (by omega) (fun hlow hd => ?_) t.length 0 2000 (by omega) (by omega) (by intro c hc; simp at hc)
        have hne : t.head? ≠ some 48 := by rw [hh]; intro e; exact hn ⟨Option.some.inj e, .inl hlow⟩
        obtain ⟨n, hn'⟩ : ∃ n, t.length = n + 1 := ⟨t.length - 1, by omega⟩
        exact (canon n t hn' hd (.inl hne)).2 hne
      by_cases c : t[0] = 48
      · rw [if_pos c]
        by_cases d : low = true
        · rw [if_pos d, Option.bind_some, if_pos rfl, if_pos (.inr (.inr ⟨by rw [c], .inl d⟩))]
        · rw [if_neg d, Option.bind_some]
          by_cases f : 1 < t.length
          · rw [if_pos (by simp; omega), if_pos (.inr (.inr ⟨by rw [c], .inr f⟩))]
          · have nn : ¬ (t = [] ∨ 19 < t.length ∨ (some t[0] = some 48 ∧ (low = true ∨ 1 < t.length))) := by
              rintro (h | h | h)
              · exact a h
              · exact b h
              · rcases h.2 with h | h; exact d h; exact f h
            rw [if_neg nn, if_neg (by simp; omega), fin' (fun h => by rcases h.2 with h | h; exact d h; exact f h)]
      · have nn : ¬ (t = [] ∨ 19 < t.length ∨ (some t[0] = some 48 ∧ (low = true ∨ 1 < t.length))) := by
          rintro (h | h | h)
          · exact a h
          · exact b h
          · exact c (Option.some.inj h.1)
        rw [if_neg nn, if_neg c, Option.bind_some, if_neg (by decide), fin' (fun h => c h.1)]
end Go.Avl.T2
/- SpotNumbers' parts: what the reference reads. -/
namespace Go.Avl.T2
open Go Go.RowKit Go.Proofs Go.Avl
set_option linter.all false
set_option maxRecDepth 10000

def acs (v c : Int) : Int := if 48 ≤ c ∧ c ≤ 57 then w64 (w64 (v * 10) - (c - 48)) else v
def ac (l : List Int) : Int := l.foldl acs 0
theorem i64_w (n : Int) : I64 (w64 n) := by unfold I64; rw [w64_eq]; omega
theorem acs_i64 {v c : Int} (h : I64 v) : I64 (acs v c) := by unfold acs; split; exact i64_w _; exact h
theorem foldl_i64 : ∀ (l : List Int) (v : Int), I64 v → I64 (l.foldl acs v)
  | [], v, h => h
  | c :: l, v, h => foldl_i64 l (acs v c) (acs_i64 h)
theorem ac_i64 (l : List Int) : I64 (ac l) := foldl_i64 l 0 (by unfold I64; omega)
theorem ac_take (l : List Int) (i : Nat) (h : i < l.length) : ac (l.take (i + 1)) = acs (ac (l.take i)) l[i] := by
  unfold ac; rw [← List.take_append_getElem h, List.foldl_append]; rfl
theorem ac_dig : ∀ (n : Nat) (l : List Int), l.length = n → Dig l → val l ≤ 9223372036854775808 → ac l = -(val l : Int)
  | 0, l, h, _, _ => by
    have : l = [] := List.length_eq_zero_iff.1 h
    subst this; rfl
  | n + 1, l, h, hd, hv => by
    rcases List.eq_nil_or_concat l with e | ⟨m, c, e⟩
    · subst e; simp at h
    · rw [List.concat_eq_append] at e
      subst e
      have hm : m.length = n := by simpa using h
      have hc := hd c (by simp)
      rw [val_snoc] at hv ⊢
      have ih := ac_dig n m hm (fun c hc => hd c (by simp [hc])) (by omega)
      have e : ac (m ++ [c]) = acs (ac m) c := by simp [ac]
      rw [e, ih, acs, if_pos hc, w64_id (n := -(val m : Int) * 10) (by omega) (by omega), w64_id (by omega) (by omega)]
      omega
theorem rnum_l {l : List Int} (hl : Byt l) (hz : l.length ≤ 100000) (b : Bool) : ∀ (m i fuel : Nat), i + m = min l.length 20 → m < fuel →
    bosketref13_Number_l3 2000 (strOfNums l) b fuel (ac (l.take i)) i = bosketref13_Number_c1 2000 (strOfNums l) b (ac (l.take 20))
  | 0, i, f + 1, h, _ => by
    rw [bosketref13_Number_l3.eq_2, strOfNums_size]
    have e : l.take i = l.take 20 := by
      by_cases a : l.length ≤ 20
      · rw [List.take_of_length_le (by omega), List.take_of_length_le (by omega)]
      · rw [show i = 20 by omega]
    by_cases a : (i : Int) < (l.length : Int)
    · rw [if_pos a, Option.bind_some, if_neg (by simp; omega), e]
    · rw [if_neg a, Option.bind_some, if_neg (by decide), e]
  | m + 1, i, f + 1, h, hf => by
    have hi : i < l.length := by omega
    have hb : byteAt (strOfNums l) (i : Int) = l[i] := byteAt_strOf l hl i hi
    have hbb := hl l[i] (List.getElem_mem hi)
    have g : 0 ≤ (i : Int) ∧ (i : Int) < (l.length : Int) := ⟨by omega, by omega⟩
    have ih := rnum_l hl hz b m (i + 1) f (by omega) (by omega)
    rw [ac_take l i hi] at ih
    rw [bosketref13_Number_l3.eq_2, strOfNums_size, if_pos g.2, Option.bind_some, if_pos (by simp; omega)]
    simp only [if_pos g, hb]
    have key : ∀ x, x = acs (ac (l.take i)) l[i] → bosketref13_Number_c2 2000 (bosketref13_Number_l3 2000 (strOfNums l) b f) i x = bosketref13_Number_c1 2000 (strOfNums l) b (ac (l.take 20)) := by
      rintro x rfl
      unfold bosketref13_Number_c2
      rw [w64_id (by omega) (by omega)]
      exact_mod_cast ih
    by_cases a : 48 ≤ l[i]
    · by_cases c : l[i] ≤ 57
      · rw [if_pos a, Option.bind_some, if_pos (decide_eq_true c), Option.bind_some]
        apply key
        rw [acs, if_pos ⟨a, c⟩, w8_id (n := l[i] - 48) (by omega) (by omega), w64_id (n := l[i] - 48) (by omega) (by omega)]
      · rw [if_pos a, Option.bind_some, if_neg (by simpa using c)]
        apply key
        rw [acs, if_neg (fun h => c h.2)]
    · rw [if_neg a, Option.bind_some, if_neg (by decide)]
      apply key
      rw [acs, if_neg (fun h => a h.1)]
theorem D_byt {n : Int} (h : I64 n) : Byt (D n) := by
  unfold I64 at h
  have := dg_dig 20 n.natAbs (by omega)
  intro x hx
  unfold D at hx
  split at hx
  · rcases List.mem_cons.1 hx with e | e
    · omega
    · have := this x e; omega
  · have := this x hx; omega
theorem rc0 {l : List Int} (hl : Byt l) {m : Int} (h : I64 m) : bosketref13_Number_c0 2000 (strOfNums l) m = some (if D m = l then (m, true) else (0, false)) := by
  unfold bosketref13_Number_c0
  rw [rdigits_eq h, Option.bind_some]
  by_cases a : D m = l
  · rw [if_neg (by simp [a]), if_pos a]
  · rw [if_pos (fun e => a (strOf_inj (D_byt h) hl e)), if_neg a]
def rm (l : List Int) : Int := if l.head? = some 45 then ac (l.take 20) else IntKind.i64.wrap (0 - ac (l.take 20))
theorem rnum_eq {l : List Int} (hl : Byt l) (hz : l.length ≤ 100000) : I64 (rm l) ∧ bosketref13_Number 2000 (strOfNums l) = some (if D (rm l) = l then (rm l, true) else (0, false)) := by
  have hi : I64 (rm l) := by
    unfold rm; split
    · exact ac_i64 _
    · exact i64_w _
  refine ⟨hi, ?_⟩
  have fin' : ∀ b : Bool, (b = true ↔ l.head? = some 45) → bosketref13_Number_l3 2000 (strOfNums l) b 2000 0 0 = some (if D (rm l) = l then (rm l, true) else (0, false)) := by
    intro b hb
    have := rnum_l hl hz b (min l.length 20) 0 2000 (by omega) (by omega)
    rw [List.take_zero] at this
    have e : bosketref13_Number_l3 2000 (strOfNums l) b 2000 0 0 = bosketref13_Number_c1 2000 (strOfNums l) b (ac (l.take 20)) := this
    rw [e]
    unfold bosketref13_Number_c1
    cases b
    · have h1 : ¬ l.head? = some 45 := fun h => by have := hb.2 h; cases this
      have e2 : rm l = IntKind.i64.wrap (0 - ac (l.take 20)) := by rw [rm, if_neg h1]
      rw [if_pos (show (!false) = true from rfl), ← e2, rc0 hl hi]
    · have e2 : rm l = ac (l.take 20) := by rw [rm, if_pos (hb.1 rfl)]
      rw [if_neg (by decide), ← e2, rc0 hl hi]
  unfold bosketref13_Number
  rw [strOfNums_size]
  cases l with
  | nil => rw [if_neg (by simp), Option.bind_some]; exact fin' false (by simp)
  | cons c t =>
    have hb : byteAt (strOfNums (c :: t)) 0 = c := byteAt_strOf (c :: t) hl 0 (by simp)
    rw [if_pos (by simp), if_pos ⟨by omega, by simp⟩, hb, Option.bind_some]
    exact fin' _ (by simp)
/-- A number's text is read as it. -/
theorem rm_D {n : Int} (h : I64 n) : rm (D n) = n := by
  have h' := h
  unfold I64 at h'
  have hd := dg_dig 19 n.natAbs (by omega)
  have hv := val_dg 19 n.natAbs (by omega)
  have hl := dg_len 19 n.natAbs (by omega) (by omega)
  have ha := ac_dig _ (dg n.natAbs) rfl hd (by omega)
  unfold rm D
  by_cases a : n < 0
  · rw [if_pos a, if_pos (show (45 :: dg n.natAbs).head? = some 45 from rfl), List.take_of_length_le (by simp; omega)]
    have e : ac (45 :: dg n.natAbs) = ac (dg n.natAbs) := rfl
    rw [e, ha, hv]; omega
  · have hh : ¬ (dg n.natAbs).head? = some 45 := by
      intro e
      have := hd 45 (List.mem_of_head? e)
      omega
    rw [if_neg a, if_neg hh, List.take_of_length_le (by omega), ha, hv]
    have := w64_id (n := 0 - -(n.natAbs : Int)) (by omega) (by omega)
    unfold w64 at this
    rw [this]; omega
theorem sn_D {n : Int} (h : I64 n) : sn (D n) = (n, true) := by
  have h' := h
  unfold I64 at h'
  have hd := dg_dig 19 n.natAbs (by omega)
  have hv := val_dg 19 n.natAbs (by omega)
  have hl := dg_len 19 n.natAbs (by omega) (by omega)
  have hh0 := dg_head 19 n.natAbs (by omega)
  have hne : dg n.natAbs ≠ [] := List.length_pos_iff.1 hl.2
  unfold sn
  by_cases a : n < 0
  · have e : cutm (D n) = (dg n.natAbs, true) := by unfold cutm D; rw [if_pos a, if_pos (show (45 :: dg n.natAbs).head? = some 45 from rfl)]; rfl
    rw [e]; dsimp only
    rw [if_neg (by
      rintro (h | h | h)
      · exact hne h
      · omega
      · have := hh0 h.1; omega), if_pos hd, hv, fin, if_pos ⟨rfl, by omega⟩]
    congr 1; omega
  · have hh : ¬ (dg n.natAbs).head? = some 45 := by
      intro e
      have := hd 45 (List.mem_of_head? e)
      omega
    have e : cutm (D n) = (dg n.natAbs, false) := by unfold cutm D; rw [if_neg a, if_neg hh]
    rw [e]; dsimp only
    rw [if_neg (by
      rintro (h | h | h)
      · exact hne h
      · omega
      · have := hh0 h.1
        rw [this, dg_lt (by omega)] at h
        rcases h.2 with h | h
        · cases h
        · simp at h), if_pos hd, hv, fin, if_neg (fun h => by cases h.1), if_pos ⟨rfl, by omega⟩]
    congr 1; omega
/-- Who reads a number reads its own text. -/
theorem sn_ok {l : List Int} (h : (sn l).2 = true) : I64 (sn l).1 ∧ D (sn l).1 = l := by
  unfold sn at h ⊢
  split at h
  · cases h
  rename_i a
  split at h
  · rename_i b
    rw [if_neg a, if_pos b]
    have nl : (cutm l).1 ≠ [] := fun e => a (.inl e)
    have hpos := List.length_pos_iff.2 nl
    obtain ⟨k, hk⟩ : ∃ k, (cutm l).1.length = k + 1 := ⟨(cutm l).1.length - 1, by omega⟩
    have hlow : (cutm l).2 = true → (cutm l).1.head? ≠ some 48 := fun e h => a (.inr (.inr ⟨h, .inl e⟩))
    have hcan : (cutm l).1.head? ≠ some 48 ∨ k = 0 := by
      by_cases c : (cutm l).1.head? = some 48
      · right
        have : ¬ 1 < (cutm l).1.length := fun h => a (.inr (.inr ⟨c, .inr h⟩))
        omega
      · exact .inl c
    obtain ⟨c1, c2⟩ := canon k _ hk b hcan
    unfold fin at h ⊢
    split at h
    · rename_i d
      rw [if_pos d]
      have hp := c2 (hlow d.1)
      have e : l.head? = some 45 := by
        have := d.1; unfold cutm at this; split at this
        · assumption
        · cases this
      have e2 : cutm l = (l.tail, true) := by unfold cutm; rw [if_pos e]
      refine ⟨by unfold I64; dsimp only; omega, ?_⟩
      dsimp only
      unfold D
      have e3 : (-(val (cutm l).1 : Int)).natAbs = val (cutm l).1 := by omega
      rw [if_pos (by omega), e3, c1, e2]
      cases l with
      | nil => cases e
      | cons x xs => simp at e; subst e; rfl
    · rename_i d
      rw [if_neg d]
      split at h
      · rename_i f
        rw [if_pos f]
        have e2 : cutm l = (l, false) := by
          have := f.1; unfold cutm at this ⊢; split at this
          · cases this
          · rename_i g; rw [if_neg g]
        refine ⟨by unfold I64; dsimp only; omega, ?_⟩
        dsimp only
        unfold D
        have e3 : (val (cutm l).1 : Int).natAbs = val (cutm l).1 := by omega
        rw [if_neg (by omega), e3, c1, e2]
      · cases h
  · cases h
theorem sn_no {l : List Int} (h : (sn l).2 = false) : sn l = (0, false) := by
  unfold sn at h ⊢
  split at h
  · rename_i a; rw [if_pos a]
  rename_i a
  rw [if_neg a]
  split at h
  · rename_i b
    rw [if_pos b]
    unfold fin at h ⊢
    split at h
    · cases h
    · rename_i c
      rw [if_neg c]
      split at h
      · cases h
      · rename_i d; rw [if_neg d]
  · rename_i b; rw [if_neg b]
/-- Both read alike. -/
theorem numbers_eq {l : List Int} (hl : Byt l) (hz : l.length ≤ 100000) : bosketref13_Number 2000 (strOfNums l) = some (sn l) := by
  obtain ⟨h1, h2⟩ := rnum_eq hl hz
  rw [h2]
  by_cases a : D (rm l) = l
  · rw [if_pos a]
    have := sn_D h1
    rw [a] at this
    rw [this]
  · rw [if_neg a]
    cases b : (sn l).2
    · rw [sn_no b]
    · obtain ⟨c1, c2⟩ := sn_ok b
      have := rm_D c1
      rw [c2] at this
      rw [this] at a
      exact absurd c2 a
theorem num_all {s : ByteArray} (hz : s.size ≤ 100000) : spot_Number 2000 s = some (sn (ints s)) ∧ bosketref13_Number 2000 s = some (sn (ints s)) := by
  have h := num_eq (ints_byt s) (by rw [ints_length]; exact hz)
  have h2 := numbers_eq (ints_byt s) (by rw [ints_length]; exact hz)
  rw [strOf_ints] at h h2
  exact ⟨h, h2⟩
theorem sn_i64 (l : List Int) : I64 (sn l).1 := by
  cases b : (sn l).2
  · rw [sn_no b]; unfold I64; dsimp only; omega
  · exact (sn_ok b).1
end Go.Avl.T2
/- SpotPlaces: the plain law. -/
namespace Go.Avl.T2
open Go Go.RowKit Go.Proofs Go.Avl
set_option linter.all false
set_option maxRecDepth 10000

/-- What is told of a place: it is there, or nowhere. -/
def Told (s : ByteArray) (L C : Int) (r : Int × Int) : Prop :=
  (∃ i : Nat, i ≤ s.size ∧ ((pos s i).1 : Int) = L ∧ ((pos s i).2 : Int) = C ∧ r = ((i : Int), 0)) ∨ ((∀ i : Nat, i ≤ s.size → ¬ (((pos s i).1 : Int) = L ∧ ((pos s i).2 : Int) = C)) ∧ r = (0, 1))
/-- Behind a place no line ends: all places from it on are in its line. -/
theorem same_line {s : ByteArray} {a e : Nat} (h : ∀ j : Nat, j < e → byteAt s ((a + j : Nat) : Int) ≠ 10) {i : Nat} (h1 : a ≤ i) (h2 : i ≤ a + e) : pos s i = ((pos s a).1, (pos s a).2 + (i - a)) := by
  have := pos_run s a (i - a) (fun j hj => h j (by omega))
  rw [show a + (i - a) = i by omega] at this; exact this
/-- What the search for a line's end finds. -/
theorem nl_find (s : ByteArray) (a : Nat) (ha : a ≤ s.size) : (idxByte (s.extract a s.size) 10 = -1 ∧ ∀ j : Nat, j < s.size - a → byteAt s ((a + j : Nat) : Int) ≠ 10) ∨
    ∃ i : Nat, idxByte (s.extract a s.size) 10 = i ∧ a + i < s.size ∧ byteAt s ((a + i : Nat) : Int) = 10 ∧ ∀ j : Nat, j < i → byteAt s ((a + j : Nat) : Int) ≠ 10 := by
  have hz : (s.extract a s.size).size = s.size - a := by rw [ByteArray.size_extract]; omega
  have hb : ∀ j : Nat, j < s.size - a → byteAt (s.extract a s.size) (j : Int) = byteAt s ((a + j : Nat) : Int) := by
    intro j hj
    have := byteAt_extract s a (s.size : Int) (j : Int) (by omega) (by omega) (by omega) (by omega) (by omega)
    simp only [Int.toNat_natCast] at this
    rw [this]; congr 1
  rcases find_idx (s.extract a s.size) 10 (by omega) with ⟨h1, h2⟩ | ⟨i, h1, h2, h3, h4⟩
  · left; exact ⟨h1, fun j hj => by rw [← hb j hj]; exact h2 j (by omega)⟩
  · right
    rw [hz] at h2
    refine ⟨i, h1, by omega, by rw [← hb i h2]; exact h3, fun j hj => by rw [← hb j (by omega)]; exact h4 j hj⟩
theorem at_c1 (s : ByteArray) (hs : s.size ≤ 1000) (p : S23) (hC : 1 ≤ p.f1 ∧ p.f1 ≤ 9223372036854775807) (a : Nat) (ha : a ≤ s.size) (hp : pos s a = (p.f0.toNat, 1)) (hL : 1 ≤ p.f0) (hlow : ∀ i, i < a → (pos s i).1 < p.f0.toNat) :
    ∃ r, spot_At_c1 2000 s p a = some r ∧ Told s p.f0 p.f1 r := by
  have fin' : ∀ e : Nat, a + e ≤ s.size → (∀ j : Nat, j < e → byteAt s ((a + j : Nat) : Int) ≠ 10) → (a + e = s.size ∨ byteAt s ((a + e : Nat) : Int) = 10) →
      ∃ r, spot_At_c0 2000 p a e = some r ∧ Told s p.f0 p.f1 r := by
    intro e h1 h2 h3
    unfold spot_At_c0
    rw [w64_id (n := p.f1 - 1) (by omega) (by omega)]
    by_cases c : (e : Int) < p.f1 - 1
    · rw [if_pos c]
      refine ⟨_, rfl, .inr ⟨fun i hi hh => ?_, rfl⟩⟩
      by_cases i1 : i < a
      · have := hlow i i1; omega
      · by_cases i2 : i ≤ a + e
        · have := same_line h2 (by omega) i2
          rw [this, hp] at hh
          dsimp only at hh; omega
        · rcases h3 with h3 | h3
          · omega
          · have e1 : pos s (a + e) = _ := same_line h2 (by omega) (Nat.le_refl _)
            have e2 : (pos s (a + e + 1)).1 = (pos s a).1 + 1 := by rw [pos, if_pos h3, e1]
            have := pos_mono s (a + e + 1) (i - (a + e + 1))
            rw [show a + e + 1 + (i - (a + e + 1)) = i by omega, e2, hp] at this
            dsimp only at this; omega
    · rw [if_neg c]
      obtain ⟨d, hd⟩ : ∃ d : Nat, p.f1 = (d : Int) + 1 := ⟨(p.f1 - 1).toNat, by omega⟩
      have e1 : w64 (w64 ((a : Int) + p.f1) - 1) = ((a + d : Nat) : Int) := by rw [w64_id (n := (a : Int) + p.f1) (by omega) (by omega), w64_id (by omega) (by omega)]; omega
      have e2 := same_line h2 (i := a + d) (by omega) (by omega)
      refine ⟨_, rfl, .inl ⟨a + d, by omega, ?_, ?_, by rw [e1]⟩⟩
      · rw [e2, hp]; dsimp only; omega
      · rw [e2, hp]; dsimp only; omega
  unfold spot_At_c1 strings_IndexByte internal_stringslite_IndexByte
  have e3 : s.extract (a : Int).toNat (s.size : Int).toNat = s.extract a s.size := by simp
  rw [if_pos ⟨by omega, by omega, by omega⟩, e3, Option.bind_some, Option.bind_some]
  rcases nl_find s a ha with ⟨h1, h2⟩ | ⟨i, h1, h2, h3, h4⟩
  · have := fin' (s.size - a) (by omega) h2 (.inl (by omega))
    rw [h1, if_pos (by omega), w64_id (by omega) (by omega), show (s.size : Int) - (a : Int) = ((s.size - a : Nat) : Int) by omega]
    exact this
  · rw [h1, if_neg (by omega)]
    exact fin' i (by omega) h4 (.inr h3)
theorem at_l (s : ByteArray) (hs : s.size ≤ 1000) (p : S23) (hL : 1 ≤ p.f0 ∧ p.f0 ≤ 9223372036854775807) (hC : 1 ≤ p.f1 ∧ p.f1 ≤ 9223372036854775807) : ∀ (m a fuel : Nat) (t : Nat), s.size - a < m → m ≤ fuel → a ≤ s.size → pos s a = (t + 1, 1) → (∀ i, i < a → (pos s i).1 < t + 1) → (t : Int) + 1 ≤ p.f0 →
    ∃ r, spot_At_l2 2000 s p fuel a t = some r ∧ Told s p.f0 p.f1 r
  | 0, a, f, t, h, _, _, _, _, _ => by omega
  | m + 1, a, 0, t, _, h, _, _, _, _ => by omega
  | m + 1, a, f + 1, t, h, hf, ha, hp, hlow, ht => by
    have hpg := pos_ge s a
    rw [hp] at hpg; dsimp only at hpg
    rw [spot_At_l2.eq_2, w64_id (n := p.f0 - 1) (by omega) (by omega)]
    by_cases c : (t : Int) < p.f0 - 1
    · have e3 : s.extract (a : Int).toNat (s.size : Int).toNat = s.extract a s.size := by simp
      rw [if_pos c, if_pos ⟨by omega, by omega, by omega⟩]
      unfold strings_IndexByte internal_stringslite_IndexByte
      rw [e3, Option.bind_some, Option.bind_some]
      rcases nl_find s a ha with ⟨h1, h2⟩ | ⟨i, h1, h2, h3, h4⟩
      · rw [h1, if_pos (by omega)]
        refine ⟨_, rfl, .inr ⟨fun i hi hh => ?_, rfl⟩⟩
        by_cases i1 : i < a
        · have := hlow i i1; omega
        · have := same_line h2 (i := i) (by omega) (by omega)
          rw [this, hp] at hh; dsimp only at hh; omega
      · have e1 : w64 ((a : Int) + w64 ((i : Int) + 1)) = ((a + i + 1 : Nat) : Int) := by rw [w64_id (n := (i : Int) + 1) (by omega) (by omega), w64_id (by omega) (by omega)]; omega
        have e2 : w64 ((t : Int) + 1) = ((t + 1 : Nat) : Int) := by rw [w64_id (by omega) (by omega)]; omega
        have e4 := same_line h4 (i := a + i) (by omega) (by omega)
        have e5 : pos s (a + i + 1) = (t + 1 + 1, 1) := by rw [pos, if_pos h3, e4, hp]
        rw [h1, if_neg (by omega), e1, e2]
        refine at_l s hs p hL hC m (a + i + 1) f (t + 1) (by omega) (by omega) (by omega) e5 (fun x hx => ?_) (by omega)
        by_cases x1 : x < a
        · have := hlow x x1; omega
        · have := same_line h4 (i := x) (by omega) (by omega)
          rw [this, hp]; dsimp only; omega
    · have e : p.f0.toNat = t + 1 := by omega
      rw [if_neg c]
      exact at_c1 s hs p hC a ha (by rw [hp, e]) (by omega) (fun i hi => by rw [e]; exact hlow i hi)
theorem at_eq (s : ByteArray) (hs : s.size ≤ 1000) (p : S23) (h0 : I64 p.f0) (h1 : I64 p.f1) : ∃ r, spot_At 2000 s p = some r ∧ Told s p.f0 p.f1 r := by
  unfold I64 at h0 h1
  unfold spot_At
  by_cases a : p.f0 < 1
  · rw [if_pos a, Option.bind_some, if_pos rfl]
    refine ⟨_, rfl, .inr ⟨fun i hi hh => ?_, rfl⟩⟩
    have := pos_ge s i; omega
  rw [if_neg a, Option.bind_some]
  by_cases b : p.f1 < 1
  · rw [if_pos (decide_eq_true b)]
    refine ⟨_, rfl, .inr ⟨fun i hi hh => ?_, rfl⟩⟩
    have := pos_ge s i; omega
  rw [if_neg (by simpa using b)]
  exact at_l s hs p (by omega) (by omega) (s.size + 1) 0 2000 0 (by omega) (by omega) (by omega) rfl (fun i hi => by omega) (by omega)
theorem Told.one {s : ByteArray} {L C : Int} {r : Int × Int} (h : Told s L C r) {i : Nat} (hi : i ≤ s.size) (h1 : ((pos s i).1 : Int) = L) (h2 : ((pos s i).2 : Int) = C) : r = ((i : Int), 0) := by
  rcases h with ⟨j, j1, j2, j3, j4⟩ | ⟨j1, j2⟩
  · have : pos s i = pos s j := Prod.ext (by omega) (by omega)
    rw [pos_inj this]; exact j4
  · exact absurd ⟨h1, h2⟩ (j1 i hi)
theorem law_l (s : ByteArray) (hs : s.size ≤ 1000) (p : S23) (h0 : I64 p.f0) (h1 : I64 p.f1) : ∀ (m i fuel : Nat) (w : Int), i + m = s.size + 1 → m < fuel →
    ((∃ j : Nat, j < i ∧ ((pos s j).1 : Int) = p.f0 ∧ ((pos s j).2 : Int) = p.f1 ∧ w = j) ∨ (w = -1 ∧ ∀ j : Nat, j < i → ¬ (((pos s j).1 : Int) = p.f0 ∧ ((pos s j).2 : Int) = p.f1))) →
    bosketlaw13_SpotPlaces_l2 2000 s p fuel w i = some true
  | 0, i, f + 1, w, h, _, hw => by
    rw [bosketlaw13_SpotPlaces_l2.eq_2, if_neg (by omega)]
    obtain ⟨r, r1, r2⟩ := at_eq s hs p h0 h1
    unfold bosketlaw13_SpotPlaces_c0
    rw [r1, Option.bind_some]
    rcases hw with ⟨j, j1, j2, j3, rfl⟩ | ⟨rfl, hn⟩
    · have := r2.one (by omega) j2 j3
      subst this
      simp
    · rcases r2 with ⟨j, j1, j2, j3, j4⟩ | ⟨j1, j2⟩
      · exact absurd ⟨j2, j3⟩ (hn j (by omega))
      · subst j2; simp
  | m + 1, i, f + 1, w, h, hf, hw => by
    have hc : clampn s (i : Int) = i := by unfold clampn; omega
    have hof := rof_eq s hs (i : Int)
    rw [hc] at hof
    rw [bosketlaw13_SpotPlaces_l2.eq_2, if_pos (by omega), hof, Option.bind_some]
    dsimp only
    have step : ∀ x : Int, ((∃ j : Nat, j < i + 1 ∧ ((pos s j).1 : Int) = p.f0 ∧ ((pos s j).2 : Int) = p.f1 ∧ x = j) ∨ (x = -1 ∧ ∀ j : Nat, j < i + 1 → ¬ (((pos s j).1 : Int) = p.f0 ∧ ((pos s j).2 : Int) = p.f1))) →
        bosketlaw13_SpotPlaces_c1 2000 (bosketlaw13_SpotPlaces_l2 2000 s p f) i x = some true := by
      intro x hx
      unfold bosketlaw13_SpotPlaces_c1
      rw [w64_id (by omega) (by omega)]
      exact_mod_cast law_l s hs p h0 h1 m (i + 1) f x (by omega) (by omega) hx
    by_cases a : ((pos s i).1 : Int) = p.f0
    · by_cases b : ((pos s i).2 : Int) = p.f1
      · rw [if_pos a, Option.bind_some, if_pos (decide_eq_true b)]
        exact step _ (.inl ⟨i, by omega, a, b, rfl⟩)
      · rw [if_pos a, Option.bind_some, if_neg (by simpa using b)]
        refine step _ ?_
        rcases hw with ⟨j, j1, j2, j3, j4⟩ | ⟨e, hn⟩
        · exact .inl ⟨j, by omega, j2, j3, j4⟩
        · refine .inr ⟨e, fun j hj hh => ?_⟩
          rcases Nat.lt_succ_iff_lt_or_eq.1 hj with k | k
          · exact hn j k hh
          · subst k; exact b hh.2
    · rw [if_neg a, Option.bind_some, if_neg (by decide)]
      refine step _ ?_
      rcases hw with ⟨j, j1, j2, j3, j4⟩ | ⟨e, hn⟩
      · exact .inl ⟨j, by omega, j2, j3, j4⟩
      · refine .inr ⟨e, fun j hj hh => ?_⟩
        rcases Nat.lt_succ_iff_lt_or_eq.1 hj with k | k
        · exact hn j k hh
        · subst k; exact a hh.1
theorem awake13p : bosketlaw13_awake 2000 = some true := by decide +kernel

theorem bosketlaw13_SpotPlaces_true (a0 : ByteArray) (a1 : Int) (a2 : S23) (h0 : wf9 a0) (h1 : a0.size ≤ 140737488351232) (h2 : wf3 a1) (h3 : wf23 a2) : ∃ k, bosketlaw13_SpotPlaces k a0 a1 a2 = some true := by
  refine ⟨2000, ?_⟩
  unfold bosketlaw13_SpotPlaces
  rw [awake13p, Option.bind_some, if_neg (by decide)]
  by_cases z1 : (300 : Int) < (a0.size : Int)
  · rw [if_pos z1]
  have hc : clampn a0 a1 ≤ a0.size := by unfold clampn; omega
  have hpg := pos_ge a0 (clampn a0 a1)
  obtain ⟨r, r1, r2⟩ := at_eq a0 (by omega) ⟨((pos a0 (clampn a0 a1)).1 : Int), ((pos a0 (clampn a0 a1)).2 : Int)⟩ (by unfold I64; dsimp only; omega) (by unfold I64; dsimp only; omega)
  have r3 := r2.one hc rfl rfl
  have hm : (min (max a1 0) (a0.size : Int)) = (clampn a0 a1 : Int) := by unfold clampn; omega
  rw [if_neg z1, rof_eq a0 (by omega), Option.bind_some, of_eq a0 (by omega), Option.bind_some, r1, Option.bind_some, hm]
  subst r3
  have e : (if (((pos a0 (clampn a0 a1)).1 : Int)) ≠ ((pos a0 (clampn a0 a1)).1 : Int) then some true else if (((pos a0 (clampn a0 a1)).2 : Int)) ≠ ((pos a0 (clampn a0 a1)).2 : Int) then some true else if (0 : Int) ≠ 0 then some true else some (decide ((clampn a0 a1 : Int) ≠ (clampn a0 a1 : Int)))) = some false := by simp
  dsimp only
  rw [e, Option.bind_some, if_neg (by decide)]
  exact law_l a0 (by omega) a2 (i64_wf h3.1) (i64_wf h3.2) (a0.size + 1) 0 2000 (-1) (by omega) (by omega) (.inr ⟨rfl, fun j hj => by omega⟩)
end Go.Avl.T2
