/- Parts: TFW, TFP1, TFPureSpotLines. -/
import Derived.Test.YtmgiffbobkgcmaaDoorAF1
import Derived.Test.YtmgiffbobkgcmaaDoorAv2
import Derived.Lib.Bytealg
/- Opening of the arguments; printed by avlaw.py. -/
namespace Go.Avl.TF
open Go Go.RowKit Go.Proofs Go.Avl
set_option linter.unusedVariables false
set_option maxRecDepth 100000
abbrev wf9 : ByteArray → Prop := (fun s : ByteArray => s.size ≤ 9223372036854775807)
theorem op9 : Opens Tryd.prog 9 eStr wf9 := opens_string Tryd.underlying9
abbrev wf3 : Int → Prop := (fun n : Int => (Lit.int .i64 n).wf = true)
theorem op3 : Opens Tryd.prog 3 eI64 wf3 := opens_int Tryd.underlying3
end Go.Avl.TF
/- Lines of a text. -/
namespace Go.Avl.TF
open Go Go.RowKit Go.Proofs Go.Avl
set_option linter.all false
set_option maxRecDepth 10000

/-! What the library's searches find. -/
theorem find_idx (s : ByteArray) (c : Int) (hc : 0 ≤ c ∧ c ≤ 255) : (idxByte s c = -1 ∧ ∀ i : Nat, i < s.size → byteAt s i ≠ c) ∨ ∃ i : Nat, idxByte s c = i ∧ i < s.size ∧ byteAt s i = c ∧ ∀ j : Nat, j < i → byteAt s j ≠ c := by
  have key : ∀ i, i < s.size → ((s[i]! == c.toNat.toUInt8) = true ↔ byteAt s (i : Int) = c) := by
    intro i hi
    have e1 : s[i]! = s[i] := getElem!_pos s i hi
    have e2 : byteAt s (i : Int) = ((s[i]).toNat : Int) := by unfold byteAt; rw [dif_pos (show (i : Int).toNat < s.size by omega)]; rfl
    rw [e1, e2, beq_iff_eq]
    have h1 := (s[i]).toNat_lt
    constructor
    · intro h; rw [h]; simp; omega
    · intro h; apply UInt8.toNat_inj.1; simp; omega
  unfold idxByte firstIdx
  cases h : (List.range s.size).find? (fun i => s[i]! == c.toNat.toUInt8) with
  | none =>
    left
    refine ⟨rfl, fun i hi e => ?_⟩
    have := List.find?_range_eq_none.1 h i hi
    rw [(key i hi).2 e] at this; cases this
  | some i =>
    right
    obtain ⟨h1, h2, h3⟩ := List.find?_range_eq_some.1 h
    have hi := List.mem_range.1 h2
    refine ⟨i, rfl, hi, (key i hi).1 h1, fun j hj e => ?_⟩
    have := h3 j hj
    rw [(key j (by omega)).2 e] at this; cases this
/-- How many of a byte stand ahead of a place. -/
def cnt (s : ByteArray) : Nat → Nat
  | 0 => 0
  | i + 1 => cnt s i + (if byteAt s i = 10 then 1 else 0)
theorem cntByte_eq (s : ByteArray) : cntByte s 10 = cnt s s.size := by
  have h1 : cntByte s 10 = s.data.toList.foldl (fun (n : Int) x => if (x == (10 : Int).toNat.toUInt8) = true then n + 1 else n) 0 := by
    unfold cntByte; exact Lib.foldl_data _ _ s
  have hl : s.data.toList.length = s.size := Array.length_toList
  have key : ∀ i, i ≤ s.size → (s.data.toList.take i).foldl (fun (n : Int) x => if (x == (10 : Int).toNat.toUInt8) = true then n + 1 else n) 0 = (cnt s i : Int) := by
    intro i
    induction i with
    | zero => intro _; rfl
    | succ i ih =>
      intro hi
      have hi' : i < s.data.toList.length := by omega
      rw [← List.take_append_getElem hi', List.foldl_append, ih (by omega)]
      have e2 : byteAt s (i : Int) = ((s.data.toList[i]).toNat : Int) := by
        unfold byteAt; rw [dif_pos (show (i : Int).toNat < s.size by omega)]; rfl
      rw [cnt, e2]
      have h1 := (s.data.toList[i]).toNat_lt
      show (if (s.data.toList[i] == (10 : Int).toNat.toUInt8) = true then (cnt s i : Int) + 1 else (cnt s i : Int)) = _
      by_cases a : s.data.toList[i] = (10 : Int).toNat.toUInt8
      · rw [if_pos (by simpa using a), a]; rfl
      · rw [if_neg (by simpa using a), if_neg (fun h => a (by apply UInt8.toNat_inj.1; have : (10 : Int).toNat.toUInt8.toNat = 10 := rfl; omega))]
        simp
  rw [h1, ← key s.size (Nat.le_refl _), List.take_of_length_le (by omega)]
/-- What the search for a line's end finds. -/
theorem nl_find (s : ByteArray) (a : Nat) (ha : a ≤ s.size) : (idxByte (s.extract a s.size) 10 = -1 ∧ ∀ j : Nat, j < s.size - a → byteAt s ((a + j : Nat) : Int) ≠ 10) ∨
    ∃ i : Nat, idxByte (s.extract a s.size) 10 = i ∧ a + i < s.size ∧ byteAt s ((a + i : Nat) : Int) = 10 ∧ ∀ j : Nat, j < i → byteAt s ((a + j : Nat) : Int) ≠ 10 := by
  have hz : (s.extract a s.size).size = s.size - a := by rw [ByteArray.size_extract]; omega
  have hb : ∀ j : Nat, j < s.size - a → byteAt (s.extract a s.size) (j : Int) = byteAt s ((a + j : Nat) : Int) := by
    intro j hj
    have := byteAt_extract s a (s.size : Int) (j : Int) (by omega) (by omega) (by omega) (by omega) (by omega)
    simp only [Int.toNat_natCast] at this
    rw [this]; congr 1
  rcases find_idx (s.extract a s.size) 10 (by omega) with ⟨h1, h2⟩ | ⟨i, h1, h2, h3, h4⟩
  · left; exact ⟨h1, fun j hj => by rw [← hb j hj]; exact h2 j (by omega)⟩
  · right
    rw [hz] at h2
    refine ⟨i, h1, by omega, by rw [← hb i h2]; exact h3, fun j hj => by rw [← hb j (by omega)]; exact h4 j hj⟩

theorem w6 {x : Int} (h0 : -1000000000000 ≤ x) (h1 : x ≤ 1000000000000) : w64 x = x := w64_id (by omega) (by omega)
/-- The lines from a place on; the last begins there. -/
def LN (s : ByteArray) : Nat → Nat → Nat → List ByteArray
  | 0, from_, _ => [s.extract from_ s.size]
  | m + 1, from_, i => if byteAt s (i : Int) = 10 then s.extract from_ i :: LN s m (i + 1) (i + 1) else LN s m from_ (i + 1)
theorem LN_len (s : ByteArray) : ∀ (m from_ i : Nat), i + m = s.size → (LN s m from_ i).length + cnt s i = cnt s s.size + 1
  | 0, f, i, h => by rw [LN]; have : i = s.size := by omega
                     subst this; simp; omega
  | m + 1, f, i, h => by
    rw [LN]
    by_cases a : byteAt s (i : Int) = 10
    · have ih := LN_len s m (i + 1) (i + 1) (by omega)
      rw [cnt, if_pos a] at ih
      rw [if_pos a, List.length_cons]; omega
    · have ih := LN_len s m f (i + 1) (by omega)
      rw [cnt, if_neg a] at ih
      rw [if_neg a]; omega
theorem LN_skip (s : ByteArray) : ∀ (d m from_ i : Nat), i + m = s.size → d ≤ m → (∀ z, z < d → byteAt s ((i + z : Nat) : Int) ≠ 10) → LN s m from_ i = LN s (m - d) from_ (i + d)
  | 0, m, f, i, _, _, _ => rfl
  | d + 1, m, f, i, h, hd, hz => by
    obtain ⟨m, rfl⟩ : ∃ q, m = q + 1 := ⟨m - 1, by omega⟩
    have h0 := hz 0 (by omega)
    rw [Nat.add_zero] at h0
    rw [LN, if_neg h0, LN_skip s d m f (i + 1) (by omega) (by omega) (fun z hz' => by have := hz (z + 1) (by omega); rwa [show i + 1 + z = i + (z + 1) by omega])]
    rw [show m + 1 - (d + 1) = m - d by omega, show i + 1 + d = i + (d + 1) by omega]
theorem cnt_le (s : ByteArray) : ∀ i, cnt s i ≤ i
  | 0 => Nat.le_refl _
  | i + 1 => by have := cnt_le s i; rw [cnt]; split <;> omega
theorem cnt_mono (s : ByteArray) (i : Nat) : ∀ d, cnt s i ≤ cnt s (i + d)
  | 0 => Nat.le_refl _
  | d + 1 => by have := cnt_mono s i d; rw [show i + (d + 1) = (i + d) + 1 by omega, cnt]; omega
/-! The document's lines. -/
theorem rl_l (s : ByteArray) (hs : s.size ≤ 300) : ∀ (m i fuel from_ : Nat) (x : List ByteArray), i + m = s.size → m < fuel → from_ ≤ i → x.length ≤ i → bosketref13_Lines_l2 5000 s fuel x (from_ : Int) (i : Int) = some (x ++ LN s m from_ i)
  | 0, i, f + 1, from_, x, h, _, hfi, hx => by
    have hi : i = s.size := by omega
    rw [bosketref13_Lines_l2.eq_2, if_neg (by omega)]
    unfold bosketref13_Lines_c0
    rw [if_pos ⟨by omega, by omega, by omega⟩, if_pos (by simp; omega)]
    simp [LN]
  | m + 1, i, f + 1, from_, x, h, hf, hfi, hx => by
    rw [bosketref13_Lines_l2.eq_2, if_pos (by omega), if_pos ⟨by omega, by omega⟩, LN]
    unfold bosketref13_Lines_c1
    rw [w6 (x := (i : Int) + 1) (by omega) (by omega)]
    by_cases a : byteAt s (i : Int) = 10
    · have ih := rl_l s hs m (i + 1) f (i + 1) (x ++ [s.extract from_ i]) (by omega) (by omega) (by omega) (by simp; omega)
      rw [if_pos a, if_pos a, if_pos ⟨by omega, by omega, by omega⟩, if_pos (by simp; omega), Int.toNat_natCast, Int.toNat_natCast]
      rw [List.append_assoc] at ih
      exact_mod_cast ih
    · have ih := rl_l s hs m (i + 1) f from_ x (by omega) (by omega) (by omega) (by omega)
      rw [if_neg a, if_neg a]
      exact_mod_cast ih
/-! The library's. -/
def NL : ByteArray := ByteArray.mk #[10]
theorem index_eq (t : ByteArray) : strings_Index 5000 t NL = some (if t = NL then 0 else idxByte t 10) := by
  unfold strings_Index internal_stringslite_Index
  rw [if_neg (by decide), Option.bind_some]
  by_cases a : t = NL
  · rw [if_pos a, decide_eq_true a.symm, if_pos rfl]; rfl
  · rw [if_neg a, decide_eq_false (fun e => a e.symm), if_neg (by decide), if_pos (by decide), if_pos (by decide)]; rfl
theorem idx_NL : idxByte NL 10 = 0 := by decide +kernel
theorem index_eq' (t : ByteArray) : strings_Index 5000 t NL = some (idxByte t 10) := by
  rw [index_eq]
  by_cases a : t = NL
  · rw [if_pos a, a, idx_NL]
  · rw [if_neg a]
theorem count_eq (s : ByteArray) : strings_Count 5000 s NL = some (cnt s s.size : Int) := by
  unfold strings_Count
  rw [if_neg (by decide), if_pos (by decide), if_pos (by decide), ← cntByte_eq]; rfl
theorem ex_ex (s : ByteArray) (a b : Nat) (h : a + b ≤ s.size) : (s.extract a s.size).extract b (s.extract a s.size).size = s.extract (a + b) s.size := by
  have hz : (s.extract a s.size).size = s.size - a := by rw [ByteArray.size_extract]; omega
  rw [hz]
  apply ByteArray.ext
  rw [ByteArray.data_extract, ByteArray.data_extract, ByteArray.data_extract, Array.extract_extract]
  congr 1; omega
theorem ex_pre (s : ByteArray) (a b : Nat) (h : a + b ≤ s.size) : (s.extract a s.size).extract 0 b = s.extract a (a + b) := by
  apply ByteArray.ext
  rw [ByteArray.data_extract, ByteArray.data_extract, ByteArray.data_extract, Array.extract_extract]
  congr 1; omega
theorem gs_c0 {X D : List ByteArray} {t : ByteArray} {i : Nat} (h : X.take i = D) (hi : i < X.length) (hz : X.length ≤ 1000) : strings_genSplit_c0 5000 t X (i : Int) = some (D ++ [t]) := by
  unfold strings_genSplit_c0
  have hl : (lset X (i : Int) t).length = X.length := by simp [lset]
  rw [if_pos ⟨by omega, by omega⟩, w6 (by omega) (by omega), if_pos ⟨by omega, by omega, by rw [hl]; omega⟩]
  congr 1
  unfold lcut lset
  rw [Int.toNat_natCast, show ((i : Int) + 1).toNat = i + 1 by omega]
  show ((X.set i t).take (i + 1)).drop 0 = _
  rw [List.drop_zero, List.take_succ_eq_append_getElem (by simpa using hi), List.getElem_set_self, ← h]
  congr 1
  rw [List.take_set_of_le (Nat.le_refl i)]
theorem gs_l (s : ByteArray) (hs : s.size ≤ 300) (N : Nat) (hN : N = cnt s s.size) : ∀ (m i from_ fuel : Nat) (X D : List ByteArray), from_ ≤ s.size → m = s.size - from_ → m < fuel → X.length = N + 1 → X.take i = D → i + (LN s m from_ from_).length = N + 1 →
    strings_genSplit_l1 5000 NL 0 (N : Int) fuel (s.extract from_ s.size) X (i : Int) = some (D ++ LN s m from_ from_) := by
  intro m
  induction m using Nat.strongRecOn with
  | ind m ih =>
    intro i from_ fuel X D hf hm hfu hX hD hi
    have hNs := cnt_le s s.size
    obtain ⟨fuel, rfl⟩ : ∃ q, fuel = q + 1 := ⟨fuel - 1, by omega⟩
    have hz : (s.extract from_ s.size).size = s.size - from_ := by rw [ByteArray.size_extract]; omega
    have hlen := LN_len s m from_ from_ (by omega)
    rw [strings_genSplit_l1.eq_2]
    have last : (∀ j : Nat, j < s.size - from_ → byteAt s ((from_ + j : Nat) : Int) ≠ 10) → LN s m from_ from_ = [s.extract from_ s.size] := by
      intro h
      rw [LN_skip s m m from_ from_ (by omega) (Nat.le_refl _) (fun z hz' => h z (by omega)), Nat.sub_self]; rfl
    rcases nl_find s from_ hf with ⟨h1, h2⟩ | ⟨d, h1, h2, h3, h4⟩
    · have hL := last h2
      rw [hL] at hi ⊢
      have hi' : i = N := by simpa using hi
      rw [if_neg (by omega)]
      exact gs_c0 hD (by omega) (by omega)
    · have e : LN s m from_ from_ = s.extract from_ (from_ + d) :: LN s (m - d - 1) (from_ + d + 1) (from_ + d + 1) := by
        obtain ⟨q, hq⟩ : ∃ q, m - d = q + 1 := ⟨m - d - 1, by omega⟩
        rw [LN_skip s d m from_ from_ (by omega) (by omega) h4, hq, LN, if_pos h3]; rfl
      have hpos : 0 < (LN s (m - d - 1) (from_ + d + 1) (from_ + d + 1)).length := by
        cases q : m - d - 1 with
        | zero => simp [LN]
        | succ q' =>
          have := LN_len s (q' + 1) (from_ + d + 1) (from_ + d + 1) (by omega)
          have := cnt_mono s (from_ + d + 1) (q' + 1)
          rw [show from_ + d + 1 + (q' + 1) = s.size by omega] at this
          omega
      rw [e] at hi ⊢
      rw [List.length_cons] at hi
      have hlt : i < N := by omega
      rw [if_pos (by omega), index_eq', Option.bind_some, h1, if_neg (by omega), Int.add_zero, w6 (x := (d : Int)) (by omega) (by omega), if_pos ⟨by omega, by omega, by omega⟩, if_pos ⟨by omega, by omega⟩, show ((NL.size : Nat) : Int) = 1 from rfl, w6 (x := (d : Int) + 1) (by omega) (by omega), if_pos ⟨by omega, by omega, by omega⟩, Option.bind_some, show ((d : Int) + 1).toNat = d + 1 by omega, Int.toNat_natCast, Int.toNat_natCast, ex_ex s from_ (d + 1) (by omega), show (0 : Int).toNat = 0 from rfl, ex_pre s from_ d (by omega), w6 (by omega) (by omega)]
      have := ih (m - d - 1) (by omega) (i + 1) (from_ + d + 1) fuel (lset X (i : Int) (s.extract from_ (from_ + d))) (D ++ [s.extract from_ (from_ + d)]) (by omega) (by omega) (by omega) (by simp [lset, hX]) (by
        unfold lset
        rw [Int.toNat_natCast, List.take_succ_eq_append_getElem (by simp; omega), List.getElem_set_self, List.take_set_of_le (Nat.le_refl i), hD]) (by omega)
      rw [List.append_assoc] at this
      exact_mod_cast this
theorem split_eq (s : ByteArray) (hs : s.size ≤ 300) : strings_Split 5000 s NL = some (LN s s.size 0 0) := by
  have hN := cnt_le s s.size
  have hlen := LN_len s s.size 0 0 (by omega)
  have := gs_l s hs (cnt s s.size) rfl s.size 0 0 5000 (List.replicate (cnt s s.size + 1) ByteArray.empty) [] (by omega) (by omega) (by omega) (by simp) (by simp) (by rw [show cnt s 0 = 0 from rfl] at hlen; omega)
  have e0 : s.extract 0 s.size = s := by
    apply ByteArray.ext
    rw [ByteArray.data_extract]
    exact Array.extract_size
  unfold strings_Split strings_genSplit strings_genSplit_c2
  rw [if_neg (by decide), if_neg (by decide), if_pos (by decide), count_eq, Option.bind_some, w6 (x := ((cnt s s.size : Nat) : Int) + 1) (by omega) (by omega), w6 (x := ((s.size : Nat) : Int) + 1) (by omega) (by omega), show min ((cnt s s.size : Int) + 1) ((s.size : Int) + 1) = ((cnt s s.size + 1 : Nat) : Int) by omega, if_pos ⟨by omega, by omega, by omega⟩, Int.toNat_natCast, show w64 (((cnt s s.size + 1 : Nat) : Int) - 1) = (cnt s s.size : Int) by rw [w6 (by omega) (by omega)]; omega, Option.bind_some]
  rw [e0] at this
  rw [show ((0 : Nat) : Int) = 0 from rfl] at this
  rw [this]; rfl
end Go.Avl.TF
/- SpotLines: the plain law. -/
namespace Go.Avl.TF
open Go Go.RowKit Go.Proofs Go.Avl
set_option linter.all false
set_option maxRecDepth 10000

theorem awake13 : bosketlaw13_awake 5000 = some true := by decide +kernel
def wd (x : Int) (l : List ByteArray) : Int := l.foldl (fun a b => max a (b.size : Int)) x
theorem sget (t : List ByteArray) (i : Nat) (h : i < t.length) : lget t (i : Int) = t[i] := by simp [lget, List.getD, List.getElem?_eq_getElem h]
theorem width_l (t : List ByteArray) (hz : t.length ≤ 1000) : ∀ (m i fuel : Nat) (x : Int), i + m = t.length → m < fuel → spot_Width_l1 5000 t fuel x (i : Int) = some (wd x (t.drop i))
  | 0, i, f + 1, x, h, _ => by rw [spot_Width_l1.eq_2, if_neg (by omega), List.drop_of_length_le (by omega)]; rfl
  | m + 1, i, f + 1, x, h, hf => by
    have hi : i < t.length := by omega
    have ih := width_l t hz m (i + 1) f (max x (t[i].size : Int)) (by omega) (by omega)
    rw [spot_Width_l1.eq_2, if_pos (by omega), if_pos ⟨by omega, by omega⟩, sget t i hi, w6 (by omega) (by omega), List.drop_eq_getElem_cons hi]
    exact_mod_cast ih
theorem wide_l (s : ByteArray) (n : Int) (t : List ByteArray) (hz : t.length ≤ 1000) : ∀ (m i fuel : Nat) (x : Int), i + m = t.length → m < fuel → bosketlaw13_SpotLines_l4 5000 s n t fuel x (i : Int) = bosketlaw13_SpotLines_c3 5000 s n t (wd x (t.drop i))
  | 0, i, f + 1, x, h, _ => by rw [bosketlaw13_SpotLines_l4.eq_2, if_neg (by omega), List.drop_of_length_le (by omega)]; rfl
  | m + 1, i, f + 1, x, h, hf => by
    have hi : i < t.length := by omega
    have ih := wide_l s n t hz m (i + 1) f (max x (t[i].size : Int)) (by omega) (by omega)
    rw [bosketlaw13_SpotLines_l4.eq_2, if_pos (by omega), if_pos ⟨by omega, by omega⟩, sget t i hi, w6 (by omega) (by omega), List.drop_eq_getElem_cons hi]
    exact_mod_cast ih
theorem byteAt_n (s : ByteArray) (i : Nat) (h : i < s.size) : byteAt s (i : Int) = ((s[i]'h).toNat : Int) := by
  unfold byteAt; rw [dif_pos (show (i : Int).toNat < s.size by omega)]; rfl
theorem blank_l (s : ByteArray) (hs : s.size ≤ 300) (t : List ByteArray) (x : Int) (b : Bool) : ∀ (m i fuel : Nat), i + m = s.size → m < fuel → bosketlaw13_SpotLines_l1 5000 s t x b fuel (i : Int) = bosketlaw13_SpotLines_c0 5000 s t x b (indF s m i : Nat)
  | 0, i, f + 1, h, _ => by
    rw [bosketlaw13_SpotLines_l1.eq_2, if_neg (by omega), Option.bind_some, if_neg (by decide), show i = s.size by omega]; rfl
  | m + 1, i, f + 1, h, hf => by
    have hi : i < s.size := by omega
    rw [bosketlaw13_SpotLines_l1.eq_2, if_pos (by omega), if_pos ⟨by omega, by omega⟩, Option.bind_some, byteAt_n s i hi, indF, dif_pos hi]
    by_cases a : (s[i]'hi).toNat = 32
    · have ih := blank_l s hs t x b m (i + 1) f (by omega) (by omega)
      rw [if_pos a, decide_eq_true (by omega), if_pos rfl, w6 (by omega) (by omega)]
      exact_mod_cast ih
    · rw [if_neg a, decide_eq_false (by omega), if_neg (by decide)]
theorem LN_le (s : ByteArray) : (LN s s.size 0 0).length ≤ s.size + 1 := by
  have h1 := LN_len s s.size 0 0 (by omega)
  have h2 := cnt_le s s.size
  omega
theorem bosketlaw13_SpotLines_true (a0 : ByteArray) (a1 : Int) (h0 : wf9 a0) (h1 : a0.size ≤ 140737488351232) (h2 : wf3 a1) : ∃ k, bosketlaw13_SpotLines k a0 a1 = some true := by
  refine ⟨5000, ?_⟩
  unfold bosketlaw13_SpotLines
  rw [awake13, Option.bind_some, if_neg (by decide)]
  by_cases big : (300 : Int) < (a0.size : Int)
  · rw [if_pos big]
  have hs : a0.size ≤ 300 := by omega
  have hn : -9223372036854775808 ≤ a1 ∧ a1 ≤ 9223372036854775807 := by
    have h : (Lit.int .i64 a1).wf = true := h2
    simpa [Lit.wf, show IntKind.i64.min = -9223372036854775808 from rfl, show IntKind.i64.max = 9223372036854775807 from rfl] using h
  have hL := LN_le a0
  have hlen := LN_len a0 a0.size 0 0 (by omega)
  rw [show cnt a0 0 = 0 from rfl, Nat.add_zero] at hlen
  have e1 : bosketref13_Lines 5000 a0 = some (LN a0 a0.size 0 0) := rl_l a0 hs a0.size 0 5000 0 [] (by omega) (by omega) (by omega) (by simp)
  generalize ht : LN a0 a0.size 0 0 = t at *
  have e2 := split_eq a0 hs
  rw [ht] at e2
  have e3 : spot_Lines 5000 a0 = some (t.length : Int) := by
    have hc := cnt_le a0 a0.size
    unfold spot_Lines
    have : strings_Count 5000 a0 (ByteArray.mk #[10]) = _ := count_eq a0
    rw [this, Option.bind_some, w6 (by omega) (by omega), hlen]; rfl
  have e4 : spot_Width 5000 a0 = some (wd 0 t) := by
    unfold spot_Width
    have : strings_Split 5000 a0 (ByteArray.mk #[10]) = _ := e2
    rw [this, Option.bind_some]
    exact width_l t (by omega) t.length 0 5000 0 (by omega) (by omega)
  have e5 : spot_Indent 5000 a0 = some ((indF a0 a0.size 0 : Nat) : Int) := rfl
  have fin : bosketlaw13_SpotLines_c2 5000 a0 t (wd 0 t) true = some true := by
    unfold bosketlaw13_SpotLines_c2
    have := blank_l a0 hs t (wd 0 t) true a0.size 0 5000 (by omega) (by omega)
    rw [show ((0 : Nat) : Int) = 0 from rfl] at this
    rw [this]
    unfold bosketlaw13_SpotLines_c0
    rw [if_pos rfl, e3, Option.bind_some, if_pos rfl, e4, Option.bind_some, if_pos rfl, e5, Option.bind_some, decide_eq_true rfl]; rfl
  have w := wide_l a0 a1 t (by omega) t.length 0 5000 0 (by omega) (by omega)
  rw [show ((0 : Nat) : Int) = 0 from rfl] at w
  rw [if_neg big, e1, Option.bind_some, w]
  show bosketlaw13_SpotLines_c3 5000 a0 a1 t (wd 0 t) = some true
  unfold bosketlaw13_SpotLines_c3 spot_Line
  have e2' : strings_Split 5000 a0 (ByteArray.mk #[10]) = some t := e2
  rw [e2', Option.bind_some]
  by_cases c1 : a1 < 1
  · rw [if_pos c1, Option.bind_some, if_pos rfl, Option.bind_some, Option.bind_some, if_pos rfl, if_pos (by rfl), Option.bind_some, decide_eq_true rfl]
    exact fin
  · rw [if_neg c1]
    by_cases c2 : (t.length : Int) < a1
    · rw [decide_eq_true c2, Option.bind_some, if_pos rfl, Option.bind_some, Option.bind_some, if_pos rfl, if_pos (by rfl), Option.bind_some, decide_eq_true rfl]
      exact fin
    · have ew : w64 (a1 - 1) = a1 - 1 := w6 (by omega) (by omega)
      rw [decide_eq_false c2, Option.bind_some, if_neg (by decide), ew, if_pos ⟨by omega, by omega⟩, Option.bind_some, Option.bind_some, if_neg (by decide), if_pos rfl, if_pos ⟨by omega, by omega⟩, Option.bind_some, decide_eq_true rfl]
      exact fin
end Go.Avl.TF
