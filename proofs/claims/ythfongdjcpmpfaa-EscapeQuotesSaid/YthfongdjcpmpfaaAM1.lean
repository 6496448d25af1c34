/- Parts: T1W, T1M3, T1M4, T1M5, T1M6, T1M7, T1M8, T1M9, T1M10, T1M11, T1M12, T1PureEscapeQuotes. -/
import Derived.Test.YthfongdjcpmpfaaAF1
import Derived.Test.YthfongdjcpmpfaaAv3
import Derived.Test.YthfongdjcpmpfaaAF3
import Derived.Test.YthfongdjcpmpfaaAF4
/- Opening of the arguments; printed by avlaw.py. -/
namespace Go.Avl.T1
open Go Go.RowKit Go.Proofs Go.Avl
set_option linter.unusedVariables false
set_option maxRecDepth 100000
abbrev e22 (v : Vector Int 256) : AV := .ar 1 (v.toList.map eU8)
abbrev e23 (l : List (List Int)) : AV := .fz 1 (l.map e24)
abbrev e33 (v : Vector ByteArray 2) : AV := .ar 1 (v.toList.map eStr)
abbrev e55 (l : List S61) : AV := .fz 3 (l.map e61)
theorem sz33 : tySize Try.prog 33 = some 2 := by rfl
theorem ag33 : tyAgg Try.prog 33 = some true := by rfl
theorem ag55 : tyAgg Try.prog 55 = some false := by rfl
abbrev wf5 : Int → Prop := (fun n : Int => (Lit.int .u8 n).wf = true)
theorem op5 : Opens Try.prog 5 eU8 wf5 := opens_int Try.underlying5
abbrev wf22 : (Vector Int 256) → Prop := (fun l : Vector Int 256 => ∀ a ∈ l.toList, wf5 a)
theorem op22 : Opens Try.prog 22 e22 wf22 := opens_array Try.underlying22 sz5 sz22 op5
abbrev wf3 : Int → Prop := (fun n : Int => (Lit.int .i64 n).wf = true)
theorem op3 : Opens Try.prog 3 eI64 wf3 := opens_int Try.underlying3
abbrev wf24 : (List Int) → Prop := (fun l : List Int => l.length ≤ 9223372036854775807 ∧ ∀ a ∈ l, wf3 a)
theorem op24 : Opens Try.prog 24 e24 wf24 := opens_slice Try.underlying24 sz3 op3
abbrev wf23 : (List (List Int)) → Prop := (fun l : List (List Int) => l.length ≤ 9223372036854775807 ∧ ∀ a ∈ l, wf24 a)
theorem op23 : Opens Try.prog 23 e23 wf23 := opens_slice Try.underlying23 sz24 op24
abbrev wf26 : S26 → Prop := (fun x : S26 => wf22 x.f0 ∧ wf23 x.f1 ∧ wf24 x.f2)
theorem op26 : Opens Try.prog 26 e26 wf26 := (opens_struct Try.underlying26 sz26 (opensF_cons rfl sz22 (by decide) op22 (opensF_cons rfl sz23 (by decide) op23 (opensF_cons rfl sz24 (by decide) op24 (opensF_nil _))))).map (fun p => S26.mk p.1 p.2.1 p.2.2.1) (fun _ => rfl) (fun _ h => ⟨h.1, h.2.1, h.2.2.1⟩)
abbrev wf9 : ByteArray → Prop := (fun s : ByteArray => s.size ≤ 9223372036854775807)
theorem op9 : Opens Try.prog 9 eStr wf9 := opens_string Try.underlying9
abbrev wf33 : (Vector ByteArray 2) → Prop := (fun l : Vector ByteArray 2 => ∀ a ∈ l.toList, wf9 a)
theorem op33 : Opens Try.prog 33 e33 wf33 := opens_array Try.underlying33 sz9 sz33 op9
abbrev wf61 : S61 → Prop := (fun x : S61 => wf3 x.f0 ∧ wf9 x.f1 ∧ wf3 x.f2)
theorem op61 : Opens Try.prog 61 e61 wf61 := (opens_struct Try.underlying61 sz61 (opensF_cons rfl sz3 (by decide) op3 (opensF_cons rfl sz9 (by decide) op9 (opensF_cons rfl sz3 (by decide) op3 (opensF_nil _))))).map (fun p => S61.mk p.1 p.2.1 p.2.2.1) (fun _ => rfl) (fun _ h => ⟨h.1, h.2.1, h.2.2.1⟩)
abbrev wf55 : (List S61) → Prop := (fun l : List S61 => l.length ≤ 9223372036854775807 ∧ ∀ a ∈ l, wf61 a)
theorem op55 : Opens Try.prog 55 e55 wf55 := opens_slice Try.underlying55 sz61 op61
end Go.Avl.T1
/- Bytes written: the program's and the reference's way. -/
namespace Go.Avl.T1
open Go Go.RowKit Go.Proofs Go.Avl
set_option linter.all false

def special (c : Int) : Prop := c < 32 ∨ 126 < c ∨ c = 92
instance (c : Int) : Decidable (special c) := by unfold special; infer_instance
theorem byte_special {k : Nat} {c : Int} {q : ByteArray} (h : special c) : escape_Byte k c q = escape_Byte 5 c (ByteArray.mk #[]) := by
  unfold escape_Byte escape_letter escape_digit
  by_cases a : c = 10
  · subst a; rfl
  by_cases b : c = 9
  · subst b; rfl
  by_cases d : c = 13
  · subst d; rfl
  simp only [if_neg a, if_neg b, if_neg d, Option.bind_some, ne_eq, not_true, if_false]
  by_cases e : c < 32
  · simp only [if_pos e, Option.bind_some, if_true]
  · simp only [if_neg e, Option.bind_some]
    by_cases f : (126 : Int) < c
    · simp only [decide_eq_true f, if_true]
    · have g : c = 92 := by rcases h with h | h | h <;> first | omega | exact h
      subst g; rfl
theorem rbyte_special {k : Nat} {c : Int} {q : ByteArray} (h : special c) : bosketref03_Byte k c q = bosketref03_Byte 5 c (ByteArray.mk #[]) := by
  unfold bosketref03_Byte
  by_cases a : c = 10
  · subst a; rfl
  by_cases b : c = 9
  · subst b; rfl
  by_cases d : c = 13
  · subst d; rfl
  simp only [if_neg a, if_neg b, if_neg d, Option.bind_some]
  by_cases e : c < 32
  · simp only [if_pos e, Option.bind_some, if_true]
  · simp only [if_neg e, Option.bind_some]
    by_cases f : (126 : Int) < c
    · simp only [decide_eq_true f, if_true]
    · have g : c = 92 := by rcases h with h | h | h <;> first | omega | exact h
      subst g; rfl
theorem special_all : ∀ n : Nat, n < 256 → special n → (escape_Byte 5 n (ByteArray.mk #[])).isSome = true ∧ escape_Byte 5 n (ByteArray.mk #[]) = bosketref03_Byte 5 n (ByteArray.mk #[]) := by decide +kernel
theorem plain_l (k : Nat) (c : Int) (q : ByteArray) (hq : q.size ≤ 1000000) : ∀ (m i : Nat), i ≤ q.size → q.size - i < m →
    ∃ b : Bool, bosketref03_in_l1 k q c m i = some b ∧ escape_Byte_l1 k c q m i = some (if b then strOfNums [92, c] else strOfNums [c])
  | 0, i, _, h => by omega
  | m + 1, i, hi, h => by
    rw [bosketref03_in_l1.eq_2, escape_Byte_l1.eq_2]
    by_cases a : (i : Int) < (q.size : Int)
    · have g : 0 ≤ (i : Int) ∧ (i : Int) < (q.size : Int) := ⟨by omega, a⟩
      simp only [if_pos a, if_pos g]
      by_cases b : byteAt q (i : Int) = c
      · simp only [if_pos b]; exact ⟨true, rfl, rfl⟩
      · simp only [if_neg b, w64_id (n := (i : Int) + 1) (by omega) (by omega)]
        exact_mod_cast plain_l k c q hq m (i + 1) (by omega) (by omega)
    · simp only [if_neg a]; exact ⟨false, rfl, rfl⟩
theorem byte_eq {k : Nat} (hk : 2000 ≤ k) (c : Int) (h0 : 0 ≤ c) (h1 : c ≤ 255) (q : ByteArray) (hq : q.size ≤ 1000) : ∃ t, escape_Byte k c q = some t ∧ bosketref03_Byte k c q = some t ∧ (special c → escape_Byte 5 c (ByteArray.mk #[]) = some t) ∧ (¬ special c → t = strOfNums [92, c] ∨ t = strOfNums [c]) := by
  by_cases h : special c
  · obtain ⟨n, rfl⟩ : ∃ n : Nat, c = n := ⟨c.toNat, by omega⟩
    obtain ⟨s1, s2⟩ := special_all n (by omega) h
    obtain ⟨t, ht⟩ := Option.isSome_iff_exists.1 s1
    exact ⟨t, by rw [byte_special h, ht], by rw [rbyte_special h, ← s2, ht], fun _ => ht, fun h' => absurd h h'⟩
  · have a : ¬ c = 10 := fun e => h (by subst e; decide)
    have b : ¬ c = 9 := fun e => h (by subst e; decide)
    have d : ¬ c = 13 := fun e => h (by subst e; decide)
    have e : ¬ c < 32 := fun e => h (.inl e)
    have f : ¬ (126 : Int) < c := fun e => h (.inr (.inl e))
    have g : ¬ c = 92 := fun e => h (.inr (.inr e))
    obtain ⟨r, r1, r2⟩ := plain_l k c q (by omega) k 0 (by omega) (by omega)
    have r1' : bosketref03_in k q c = some r := r1
    refine ⟨if r then strOfNums [92, c] else strOfNums [c], ?_, ?_, fun h' => absurd h' h, fun _ => by cases r <;> simp⟩
    · unfold escape_Byte escape_letter
      simp only [if_neg a, if_neg b, if_neg d, if_neg e, if_neg g, Option.bind_some, ne_eq, not_true, if_false, decide_eq_false f]
      exact r2
    · unfold bosketref03_Byte
      simp only [if_neg a, if_neg b, if_neg d, if_neg e, if_neg g, Option.bind_some, decide_eq_false f, r1']
      have hs : ByteArray.mk #[92] ++ strOfNums [c] = strOfNums [92, c] := by rw [strOf_cons 92 [c]]; rfl
      have hz : (ByteArray.mk #[92]).size + (strOfNums [c]).size ≤ 9223372036854775807 := by rw [strOfNums_size]; show 1 + 1 ≤ 9223372036854775807; decide
      cases r
      · simp
      · simp [hs, hz]
end Go.Avl.T1
/- Bytes read: the program's and the reference's way. -/
namespace Go.Avl.T1
open Go Go.RowKit Go.Proofs Go.Avl
set_option linter.all false

end Go.Avl.T1
/- The reference's search for what was written. -/
namespace Go.Avl.T1
open Go Go.RowKit Go.Proofs Go.Avl
set_option linter.all false

def hx (d : Nat) : Int := if d < 10 then 48 + d else 87 + d
def tbl (n : Nat) : List Int := if n = 10 then [92, 110] else if n = 9 then [92, 116] else if n = 13 then [92, 114] else if n < 32 ∨ 126 < n then [92, 120, hx (n / 16), hx (n % 16)] else if n = 92 then [92, 92] else [(n : Int)]
theorem tbl_eq : ∀ n : Nat, n < 256 → bosketref03_Byte 2000 (w8 n) (ByteArray.mk #[]) = some (strOfNums (tbl n)) := by decide +kernel
abbrev D16 : ByteArray := ByteArray.mk #[48, 49, 50, 51, 52, 53, 54, 55, 56, 57, 97, 98, 99, 100, 101, 102]
theorem hex_eq : ∀ n : Nat, n < 256 → (0 ≤ (IntKind.i64.wrap ((n : Int).tdiv (16 : Int))) ∧ (IntKind.i64.wrap ((n : Int).tdiv (16 : Int))) ≤ (w64 ((IntKind.i64.wrap ((n : Int).tdiv (16 : Int))) + (1 : Int))) ∧ (w64 ((IntKind.i64.wrap ((n : Int).tdiv (16 : Int))) + (1 : Int))) ≤ (D16.size : Int)) ∧
    ((ByteArray.mk #[92, 120]).size + (D16.extract (IntKind.i64.wrap ((n : Int).tdiv (16 : Int))).toNat (w64 ((IntKind.i64.wrap ((n : Int).tdiv (16 : Int))) + (1 : Int))).toNat).size ≤ 9223372036854775807) ∧
    (0 ≤ ((n : Int).tmod (16 : Int)) ∧ ((n : Int).tmod (16 : Int)) ≤ (w64 (((n : Int).tmod (16 : Int)) + (1 : Int))) ∧ (w64 (((n : Int).tmod (16 : Int)) + (1 : Int))) ≤ (D16.size : Int)) ∧
    (((ByteArray.mk #[92, 120]) ++ (D16.extract (IntKind.i64.wrap ((n : Int).tdiv (16 : Int))).toNat (w64 ((IntKind.i64.wrap ((n : Int).tdiv (16 : Int))) + (1 : Int))).toNat)).size + (D16.extract ((n : Int).tmod (16 : Int)).toNat (w64 (((n : Int).tmod (16 : Int)) + (1 : Int))).toNat).size ≤ 9223372036854775807) ∧
    (((ByteArray.mk #[92, 120]) ++ (D16.extract (IntKind.i64.wrap ((n : Int).tdiv (16 : Int))).toNat (w64 ((IntKind.i64.wrap ((n : Int).tdiv (16 : Int))) + (1 : Int))).toNat)) ++ (D16.extract ((n : Int).tmod (16 : Int)).toNat (w64 (((n : Int).tmod (16 : Int)) + (1 : Int))).toNat)) = strOfNums [92, 120, hx (n / 16), hx (n % 16)] := by decide +kernel
/-- What the reference's search asks of a byte. -/
def hit2 (s : ByteArray) (n : Nat) : Bool := decide (1 < s.size) && decide ((n = 10 ∧ byteAt s 1 = 110) ∨ (n = 9 ∧ byteAt s 1 = 116) ∨ (n = 13 ∧ byteAt s 1 = 114))
def hit4 (s : ByteArray) (n : Nat) : Bool := decide (3 < s.size) && decide (byteAt s 1 = 120 ∧ byteAt s 2 = hx (n / 16) ∧ byteAt s 3 = hx (n % 16))
theorem w8_nat (n : Nat) (h : n < 256) : w8 (n : Int) = n := w8_id (by omega) (by omega)
theorem tbl_two : ∀ n : Nat, n < 256 → (strOfNums (tbl n)).size = 2 → byteAt (strOfNums (tbl n)) 1 ≠ 92 → (n = 10 ∨ n = 9 ∨ n = 13) := by decide +kernel
end Go.Avl.T1
/- The reference's search, step by step. -/
namespace Go.Avl.T1
open Go Go.RowKit Go.Proofs Go.Avl
set_option linter.all false

theorem hx_u8 : ∀ d : Nat, d < 16 → 0 ≤ hx d ∧ hx d ≤ 255 := by decide +kernel
theorem tbl_u8 : ∀ n : Nat, n < 256 → ∀ x ∈ tbl n, 0 ≤ x ∧ x ≤ 255 := by decide +kernel
theorem first_l (s : ByteArray) (h0 : byteAt s 0 = 92) (n m : Nat) (hn : n < 256) :
    bosketref03_Read_l1 2000 s (m + 1) (n : Int) = if hit2 s n = true then some ((n : Int), 2, true) else if hit4 s n = true then some ((n : Int), 4, true) else bosketref03_Read_l1 2000 s m ((n + 1 : Nat) : Int) := by
  have lt : (n : Int) < 256 := by omega
  obtain ⟨g1, g2, g3, g4, g5⟩ := hex_eq n hn
  have hw : w64 ((n : Int) + 1) = ((n + 1 : Nat) : Int) := by rw [w64_id (by omega) (by omega)]; omega
  rw [bosketref03_Read_l1.eq_2, if_pos lt, tbl_eq n hn, Option.bind_some]
  have e2 : (if ((strOfNums (tbl n)).size : Int) = (2 : Int) then if 0 ≤ (1 : Int) ∧ (1 : Int) < ((strOfNums (tbl n)).size : Int) then if (byteAt (strOfNums (tbl n)) (1 : Int)) ≠ (92 : Int) then if (1 : Int) < (s.size : Int) then if 0 ≤ (0 : Int) ∧ (0 : Int) ≤ (2 : Int) ∧ (2 : Int) ≤ (s.size : Int) then some (decide ((s.extract (0 : Int).toNat (2 : Int).toNat) = strOfNums (tbl n)))
    else none
    else some (false)
    else some (false)
    else none
    else some (false)) = some (hit2 s n) := by
    by_cases a : ((strOfNums (tbl n)).size : Int) = 2
    · rw [if_pos a, if_pos ⟨by omega, by omega⟩]
      by_cases b : byteAt (strOfNums (tbl n)) 1 ≠ 92
      · rw [if_pos b]
        have h3 := tbl_two n hn (by omega) b
        by_cases c : (1 : Int) < (s.size : Int)
        · rw [if_pos c, if_pos ⟨by omega, by omega, by omega⟩]
          have hx := extract_bytes s 2 (by omega)
          have hr : (List.range 2).map (fun i : Nat => byteAt s (i : Int)) = [92, byteAt s 1] := by
            show [byteAt s ((0 : Nat) : Int), byteAt s ((1 : Nat) : Int)] = _
            simp [h0]
          rw [hr] at hx
          have hx' : s.extract (0 : Int).toNat (2 : Int).toNat = strOfNums [92, byteAt s 1] := hx
          have hu := byteAt_u8 s 1
          have c' : 1 < s.size := by omega
          rw [hx']
          congr 1
          have inj : strOfNums [92, byteAt s 1] = strOfNums (tbl n) ↔ [92, byteAt s 1] = tbl n := ⟨strOf_inj (by simp; omega) (tbl_u8 n hn), fun h => by rw [h]⟩
          simp only [inj]
          rcases h3 with rfl | rfl | rfl
          · simp [hit2, c', tbl]
          · simp [hit2, c', tbl]
          · simp [hit2, c', tbl]
        · have c' : ¬ 1 < s.size := by omega
          rw [if_neg c]; simp [hit2, c']
      · rw [if_neg b]
        have : ¬ (n = 10 ∨ n = 9 ∨ n = 13) := by
          rintro (rfl | rfl | rfl) <;> exact b (by decide)
        simp [hit2]; omega
    · rw [if_neg a]
      have : ¬ (n = 10 ∨ n = 9 ∨ n = 13) := by
        rintro (rfl | rfl | rfl) <;> exact a (by decide)
      simp [hit2]; omega
  rw [e2, Option.bind_some, w8_nat n hn]
  by_cases a : hit2 s n = true
  · rw [if_pos a, if_pos a]
  · rw [if_neg a, if_neg a, if_pos g1, if_pos g2, if_pos g3, if_pos g4, g5]
    have e4 : (if (3 : Int) < (s.size : Int) then if 0 ≤ (0 : Int) ∧ (0 : Int) ≤ (4 : Int) ∧ (4 : Int) ≤ (s.size : Int) then some (decide ((s.extract (0 : Int).toNat (4 : Int).toNat) = strOfNums [92, 120, hx (n / 16), hx (n % 16)]))
      else none
      else some (false)) = some (hit4 s n) := by
      by_cases c : (3 : Int) < (s.size : Int)
      · rw [if_pos c, if_pos ⟨by omega, by omega, by omega⟩]
        have hx' := extract_bytes s 4 (by omega)
        have hr : (List.range 4).map (fun i : Nat => byteAt s (i : Int)) = [92, byteAt s 1, byteAt s 2, byteAt s 3] := by
          show [byteAt s ((0 : Nat) : Int), byteAt s ((1 : Nat) : Int), byteAt s ((2 : Nat) : Int), byteAt s ((3 : Nat) : Int)] = _
          simp [h0]
        rw [hr] at hx'
        have hx'' : s.extract (0 : Int).toNat (4 : Int).toNat = strOfNums [92, byteAt s 1, byteAt s 2, byteAt s 3] := hx'
        have u1 := byteAt_u8 s 1
        have u2 := byteAt_u8 s 2
        have u3 := byteAt_u8 s 3
        have v1 := hx_u8 (n / 16) (by omega)
        have v2 := hx_u8 (n % 16) (by omega)
        have inj : strOfNums [92, byteAt s 1, byteAt s 2, byteAt s 3] = strOfNums [92, 120, hx (n / 16), hx (n % 16)] ↔ [92, byteAt s 1, byteAt s 2, byteAt s 3] = [92, 120, hx (n / 16), hx (n % 16)] := ⟨strOf_inj (by simp; omega) (by simp; omega), fun h => by rw [h]⟩
        have c' : 3 < s.size := by omega
        rw [hx'']
        simp only [inj]
        simp [hit4, c']
      · have c' : ¬ 3 < s.size := by omega
        rw [if_neg c]; simp [hit4, c']
    rw [e4, Option.bind_some, hw]
end Go.Avl.T1
/- The reference's search, whole. -/
namespace Go.Avl.T1
open Go Go.RowKit Go.Proofs Go.Avl
set_option linter.all false

theorem none_l (s : ByteArray) (h0 : byteAt s 0 = 92) (hno : ∀ j : Nat, j < 256 → hit2 s j = false ∧ hit4 s j = false) : ∀ (m i : Nat), i ≤ 256 → 256 - i < m → bosketref03_Read_l1 2000 s m (i : Int) = bosketref03_Read_c0 2000 s
  | 0, i, _, h => by omega
  | m + 1, i, hi, h => by
    by_cases a : i < 256
    · obtain ⟨k1, k2⟩ := hno i a
      rw [first_l s h0 i m a, k1, k2]
      simp only [Bool.false_eq_true, if_false]
      exact none_l s h0 hno m (i + 1) (by omega) (by omega)
    · rw [bosketref03_Read_l1.eq_2, if_neg (by omega)]
theorem one_l (s : ByteArray) (h0 : byteAt s 0 = 92) (u : Nat) (hu : u < 256) (hit : hit2 s u = true ∨ hit4 s u = true) (hno : ∀ j : Nat, j < u → hit2 s j = false ∧ hit4 s j = false) : ∀ (m i : Nat), i ≤ u → u - i < m →
    bosketref03_Read_l1 2000 s m (i : Int) = some ((u : Int), if hit2 s u = true then 2 else 4, true)
  | 0, i, _, h => by omega
  | m + 1, i, hi, h => by
    rw [first_l s h0 i m (by omega)]
    by_cases a : i = u
    · subst a
      by_cases b : hit2 s i = true
      · rw [if_pos b, if_pos b]
      · rw [if_neg b, if_neg b, if_pos (hit.resolve_left b)]
    · obtain ⟨k1, k2⟩ := hno i (by omega)
      rw [k1, k2]
      simp only [Bool.false_eq_true, if_false]
      exact one_l s h0 u hu hit hno m (i + 1) (by omega) (by omega)
end Go.Avl.T1
/- Read: the program and the reference answer alike. -/
namespace Go.Avl.T1
open Go Go.RowKit Go.Proofs Go.Avl
set_option linter.all false

/-- The value of a hexadecimal digit. -/
def hv (b : Nat) : Int := if 48 ≤ b ∧ b ≤ 57 then (b : Int) - 48 else if 97 ≤ b ∧ b ≤ 102 then (b : Int) - 87 else -1
theorem value_eq : ∀ b : Nat, b < 256 → escape_value 2000 (b : Int) = some (hv b) := by decide +kernel
theorem hv_hx : ∀ b : Nat, b < 256 → 0 ≤ hv b → (hv b).toNat < 16 ∧ hx (hv b).toNat = b := by decide +kernel
theorem hx_hv : ∀ d : Nat, d < 16 → hv (hx d).toNat = d ∧ 0 ≤ hx d ∧ hx d < 256 := by decide +kernel
theorem word_eq : ∀ b : Nat, b < 256 → bosketref03_word 2000 (b : Int) = some (decide ((48 ≤ b ∧ b ≤ 57) ∨ (97 ≤ b ∧ b ≤ 122) ∨ (65 ≤ b ∧ b ≤ 90))) := by decide +kernel
theorem or_eq : ∀ a : Nat, a < 16 → ∀ b : Nat, b < 16 → w8 (bits .or .i64 (IntKind.i64.wrap ((a : Int) * 2 ^ (min (4 : Int).toNat IntKind.i64.bits))) (b : Int)) = ((16 * a + b : Nat) : Int) := by decide +kernel
end Go.Avl.T1
/- Read: the program and the reference answer alike. -/
namespace Go.Avl.T1
open Go Go.RowKit Go.Proofs Go.Avl
set_option linter.all false

theorem nohit (s : ByteArray) (h : ¬ byteAt s 1 = 110 ∧ ¬ byteAt s 1 = 116 ∧ ¬ byteAt s 1 = 114 ∧ ¬ byteAt s 1 = 120) (j : Nat) : hit2 s j = false ∧ hit4 s j = false := by
  obtain ⟨a, b, c, d⟩ := h
  simp [hit2, hit4, a, b, c, d]
theorem short_eq (s : ByteArray) (h0 : byteAt s 0 = 92) (hz : s.size = 1) : bosketref03_Read_l1 2000 s 2000 0 = some (0, 0, false) := by
  have := none_l s h0 (fun j _ => by simp [hit2, hit4, hz]) 2000 0 (by omega) (by omega)
  rw [show ((0 : Nat) : Int) = 0 from rfl] at this
  rw [this, bosketref03_Read_c0, if_neg (by omega), Option.bind_some, if_neg (by simp)]
theorem c0_eq (s : ByteArray) (hz : 1 < s.size) : bosketref03_Read_c0 2000 s = escape_Read_c0 2000 s := by
  obtain ⟨b, hb⟩ : ∃ b : Nat, byteAt s 1 = b := ⟨(byteAt s 1).toNat, by have := byteAt_u8 s 1; omega⟩
  have hlt : b < 256 := by have := byteAt_u8 s 1; omega
  have g : 0 ≤ (1 : Int) ∧ (1 : Int) < (s.size : Int) := ⟨by omega, by omega⟩
  have g1 : (1 : Int) < (s.size : Int) := by omega
  unfold bosketref03_Read_c0 escape_Read_c0
  simp only [if_pos g, if_pos g1, hb, word_eq b hlt, Option.bind_some]
  clear hb g g1 hz
  revert b
  have key : ∀ b : Nat, b < 256 → (Option.bind (α := Bool) (if (32 : Int) ≤ (b : Int) then if (b : Int) ≤ (126 : Int) then some (!(decide ((48 ≤ b ∧ b ≤ 57) ∨ (97 ≤ b ∧ b ≤ 122) ∨ (65 ≤ b ∧ b ≤ 90)))) else some false else some false) fun b6 => if b6 = true then some ((b : Int), (2 : Int), true) else some ((0 : Int), (0 : Int), false)) = (if (32 ≤ b ∧ b ≤ 126) ∧ ¬ ((48 ≤ b ∧ b ≤ 57) ∨ (97 ≤ b ∧ b ≤ 122) ∨ (65 ≤ b ∧ b ≤ 90)) then some ((b : Int), (2 : Int), true) else some ((0 : Int), (0 : Int), false)) := by decide +kernel
  intro b hlt
  decide +revert +kernel
end Go.Avl.T1
/- Read: the program and the reference answer alike. -/
namespace Go.Avl.T1
open Go Go.RowKit Go.Proofs Go.Avl
set_option linter.all false

theorem l_hit2 (s : ByteArray) (h0 : byteAt s 0 = 92) (hz : 1 < s.size) (u : Nat) (hu : (u = 10 ∧ byteAt s 1 = 110) ∨ (u = 9 ∧ byteAt s 1 = 116) ∨ (u = 13 ∧ byteAt s 1 = 114)) : bosketref03_Read_l1 2000 s 2000 0 = some ((u : Int), 2, true) := by
  have hh : hit2 s u = true := by simp [hit2, hz]; omega
  have := one_l s h0 u (by omega) (.inl hh) (fun j hj => by
    refine ⟨?_, ?_⟩
    · simp only [hit2, Bool.and_eq_false_iff, decide_eq_false_iff_not]; right; omega
    · simp only [hit4, Bool.and_eq_false_iff, decide_eq_false_iff_not]; right; omega) 2000 0 (by omega) (by omega)
  rw [if_pos hh] at this
  exact this
theorem c0_some (s : ByteArray) : ∃ t, escape_Read_c0 2000 s = some t := by
  obtain ⟨b, hb⟩ : ∃ b : Nat, byteAt s 1 = b := ⟨(byteAt s 1).toNat, by have := byteAt_u8 s 1; omega⟩
  have hlt : b < 256 := by have := byteAt_u8 s 1; omega
  apply Option.isSome_iff_exists.1
  unfold escape_Read_c0
  simp only [hb]
  clear hb
  revert b
  decide +kernel
theorem hex_none (s : ByteArray) (h0 : byteAt s 0 = 92) (c4 : byteAt s 1 = 120) (hz : 1 < s.size) (hno : ∀ j : Nat, j < 256 → hit4 s j = false) : bosketref03_Read_l1 2000 s 2000 0 = some (0, 0, false) := by
  have hn := none_l s h0 (fun j hj => ⟨by simp [hit2, c4], hno j hj⟩) 2000 0 (by omega) (by omega)
  rw [show ((0 : Nat) : Int) = 0 from rfl] at hn
  rw [hn, c0_eq s hz]
  unfold escape_Read_c0; simp only [c4]; rfl
theorem hex_case (s : ByteArray) (h0 : byteAt s 0 = 92) (c4 : byteAt s 1 = 120) (hz : 1 < s.size) : ∃ t, escape_Read_c2 2000 s = some t ∧ bosketref03_Read_l1 2000 s 2000 0 = some t := by
  obtain ⟨b, hb⟩ : ∃ b : Nat, byteAt s 2 = b := ⟨(byteAt s 2).toNat, by have := byteAt_u8 s 2; omega⟩
  have hbl : b < 256 := by have := byteAt_u8 s 2; omega
  obtain ⟨d, hd⟩ : ∃ d : Nat, byteAt s 3 = d := ⟨(byteAt s 3).toNat, by have := byteAt_u8 s 3; omega⟩
  have hdl : d < 256 := by have := byteAt_u8 s 3; omega
  unfold escape_Read_c2
  by_cases z : (4 : Int) ≤ (s.size : Int)
  · have g2 : 0 ≤ (2 : Int) ∧ (2 : Int) < (s.size : Int) := ⟨by omega, by omega⟩
    have g3 : 0 ≤ (3 : Int) ∧ (3 : Int) < (s.size : Int) := ⟨by omega, by omega⟩
    have z' : 3 < s.size := by omega
    simp only [if_pos z, if_pos g2, if_pos g3, hb, hd, value_eq b hbl, value_eq d hdl, Option.bind_some]
    have miss : (¬ 0 ≤ hv b ∨ ¬ 0 ≤ hv d) → ∀ j : Nat, j < 256 → hit4 s j = false := by
      intro hm j hj
      simp only [hit4, hb, hd, Bool.and_eq_false_iff, decide_eq_false_iff_not]
      right
      rintro ⟨_, k1, k2⟩
      have q1 := hx_hv (j / 16) (by omega)
      have q2 := hx_hv (j % 16) (by omega)
      rw [← k1] at q1; rw [← k2] at q2
      simp only [Int.toNat_natCast] at q1 q2
      omega
    by_cases v : 0 ≤ hv b
    · simp only [if_pos v, Option.bind_some]
      by_cases w : 0 ≤ hv d
      · rw [if_pos (by simpa using w)]
        obtain ⟨p1, p2⟩ := hv_hx b hbl v
        obtain ⟨p3, p4⟩ := hv_hx d hdl w
        obtain ⟨x, hx'⟩ : ∃ x : Nat, hv b = x := ⟨(hv b).toNat, by omega⟩
        obtain ⟨y, hy⟩ : ∃ y : Nat, hv d = y := ⟨(hv d).toNat, by omega⟩
        rw [hx'] at p1 p2 ⊢; rw [hy] at p3 p4 ⊢
        simp only [Int.toNat_natCast] at p1 p2 p3 p4
        refine ⟨_, rfl, ?_⟩
        rw [or_eq x p1 y p3]
        have e1 : (16 * x + y) / 16 = x := by omega
        have e2 : (16 * x + y) % 16 = y := by omega
        have n2 : hit2 s (16 * x + y) = false := by simp [hit2, c4]
        have h4 : hit4 s (16 * x + y) = true := by simp [hit4, z', c4, hb, hd, e1, e2, p2, p4]
        have := one_l s h0 (16 * x + y) (by omega) (.inr h4) (fun j hj => ⟨by simp [hit2, c4], by
          simp only [hit4, hb, hd, Bool.and_eq_false_iff, decide_eq_false_iff_not]
          right
          rintro ⟨_, k1, k2⟩
          have q1 := (hx_hv (j / 16) (by omega)).1
          have q2 := (hx_hv (j % 16) (by omega)).1
          rw [← k1] at q1; rw [← k2] at q2
          simp only [Int.toNat_natCast] at q1 q2
          omega⟩) 2000 0 (by omega) (by omega)
        rw [n2] at this
        exact this
      · rw [if_neg (by simpa using w)]
        exact ⟨_, rfl, hex_none s h0 c4 hz (miss (.inr w))⟩
    · simp only [if_neg v, Option.bind_some]
      rw [if_neg (by simp)]
      exact ⟨_, rfl, hex_none s h0 c4 hz (miss (.inl v))⟩
  · rw [if_neg z, Option.bind_some, if_neg (by simp)]
    exact ⟨_, rfl, hex_none s h0 c4 hz (fun j _ => by simp [hit4]; omega)⟩
theorem read_eq (s : ByteArray) (hs : s.size ≤ 1000) : ∃ t, escape_Read 2000 s = some t ∧ bosketref03_Read 2000 s = some t := by
  unfold escape_Read bosketref03_Read
  by_cases e : s = ByteArray.mk #[]
  · rw [if_pos e, if_pos e]; exact ⟨_, rfl, rfl⟩
  have hpos : 0 < s.size := by
    rcases Nat.eq_zero_or_pos s.size with h | h
    · exact absurd (by rw [as_bytes s, h]; rfl) e
    · exact h
  have g : 0 ≤ (0 : Int) ∧ (0 : Int) < (s.size : Int) := ⟨by omega, by omega⟩
  simp only [if_neg e, if_pos g]
  by_cases a : byteAt s 0 = 92
  · simp only [a, ne_eq, not_true, if_false]
    by_cases b : (s.size : Int) < 2
    · rw [if_pos b, short_eq s a (by omega)]; exact ⟨_, rfl, rfl⟩
    · have g1 : 0 ≤ (1 : Int) ∧ (1 : Int) < (s.size : Int) := ⟨by omega, by omega⟩
      rw [if_neg b, if_pos g1]
      by_cases c1 : byteAt s 1 = 110
      · rw [if_pos c1, l_hit2 s a (by omega) 10 (by omega)]; exact ⟨_, rfl, rfl⟩
      rw [if_neg c1]
      by_cases c2 : byteAt s 1 = 116
      · rw [if_pos c2, l_hit2 s a (by omega) 9 (by omega)]; exact ⟨_, rfl, rfl⟩
      rw [if_neg c2]
      by_cases c3 : byteAt s 1 = 114
      · rw [if_pos c3, l_hit2 s a (by omega) 13 (by omega)]; exact ⟨_, rfl, rfl⟩
      rw [if_neg c3]
      by_cases c4 : byteAt s 1 = 120
      · rw [if_pos c4]
        exact hex_case s a c4 (by omega)
      · rw [if_neg c4]
        have hn := none_l s a (fun j _ => nohit s ⟨c1, c2, c3, c4⟩ j) 2000 0 (by omega) (by omega)
        rw [show ((0 : Nat) : Int) = 0 from rfl] at hn
        rw [hn, c0_eq s (by omega)]
        by_cases c5 : byteAt s 1 = 0
        · rw [if_pos c5]; exact ⟨_, rfl, by unfold escape_Read_c0; simp only [c5]; rfl⟩
        · rw [if_neg c5]
          obtain ⟨t, ht⟩ := c0_some s
          exact ⟨t, ht, ht⟩
  · rw [if_pos a, if_pos a]; exact ⟨_, rfl, rfl⟩
end Go.Avl.T1
/- What Byte writes, Read reads, whatever stands behind. -/
namespace Go.Avl.T1
open Go Go.RowKit Go.Proofs Go.Avl
set_option linter.all false

/-- Signs that stand for themselves behind a backslash. -/
def sign (c : Int) : Prop := 32 ≤ c ∧ c ≤ 126 ∧ ¬(48 ≤ c ∧ c ≤ 57) ∧ ¬(97 ≤ c ∧ c ≤ 122) ∧ ¬(65 ≤ c ∧ c ≤ 90)
instance (c : Int) : Decidable (sign c) := by unfold sign; infer_instance
theorem ne_nil {s : ByteArray} (h : 0 < s.size) : ¬ s = ByteArray.mk #[] := by
  intro e; subst e; exact absurd h (by decide)
theorem read_1 (s : ByteArray) (h : 0 < s.size) (a : byteAt s 0 ≠ 92) : escape_Read 2000 s = some (byteAt s 0, 1, true) := by
  have g : 0 ≤ (0 : Int) ∧ (0 : Int) < (s.size : Int) := ⟨by omega, by omega⟩
  unfold escape_Read
  simp only [if_neg (ne_nil h), if_pos g, if_pos a]
theorem read_2 (s : ByteArray) (h : 1 < s.size) (a : byteAt s 0 = 92) (n : Nat) (hn : (n = 10 ∧ byteAt s 1 = 110) ∨ (n = 9 ∧ byteAt s 1 = 116) ∨ (n = 13 ∧ byteAt s 1 = 114)) : escape_Read 2000 s = some ((n : Int), 2, true) := by
  have g : 0 ≤ (0 : Int) ∧ (0 : Int) < (s.size : Int) := ⟨by omega, by omega⟩
  have g1 : 0 ≤ (1 : Int) ∧ (1 : Int) < (s.size : Int) := ⟨by omega, by omega⟩
  have b : ¬ (s.size : Int) < 2 := by omega
  unfold escape_Read
  simp only [if_neg (ne_nil (show 0 < s.size by omega)), if_pos g, a, ne_eq, not_true, if_false, if_neg b, if_pos g1]
  rcases hn with ⟨rfl, e⟩ | ⟨rfl, e⟩ | ⟨rfl, e⟩ <;> (simp [e]; rfl)
theorem read_s (s : ByteArray) (h : 1 < s.size) (a : byteAt s 0 = 92) (n : Nat) (hn : sign n) (e : byteAt s 1 = n) : escape_Read 2000 s = some ((n : Int), 2, true) := by
  have g : 0 ≤ (0 : Int) ∧ (0 : Int) < (s.size : Int) := ⟨by omega, by omega⟩
  have g1 : 0 ≤ (1 : Int) ∧ (1 : Int) < (s.size : Int) := ⟨by omega, by omega⟩
  have b : ¬ (s.size : Int) < 2 := by omega
  have hlt : n < 127 := by have := hn.2.1; omega
  have hh := hn
  obtain ⟨n1, n2, n3, n4, n5⟩ := hh
  have c1 : ¬ (n : Int) = 110 := by omega
  have c2 : ¬ (n : Int) = 116 := by omega
  have c3 : ¬ (n : Int) = 114 := by omega
  have c4 : ¬ (n : Int) = 120 := by omega
  have c5 : ¬ (n : Int) = 0 := by omega
  unfold escape_Read
  simp only [if_neg (ne_nil (show 0 < s.size by omega)), if_pos g, a, ne_eq, not_true, if_false, if_neg b, if_pos g1, e, if_neg c1, if_neg c2, if_neg c3, if_neg c4, if_neg c5]
  unfold escape_Read_c0
  simp only [e]
  clear e a g g1 b h n1 n2 n3 n4 n5 c1 c2 c3 c4 c5
  revert hn
  revert hlt
  revert n
  decide +kernel
theorem read_x (s : ByteArray) (h : 3 < s.size) (a : byteAt s 0 = 92) (n : Nat) (hn : n < 256) (e1 : byteAt s 1 = 120) (e2 : byteAt s 2 = hx (n / 16)) (e3 : byteAt s 3 = hx (n % 16)) : escape_Read 2000 s = some ((n : Int), 4, true) := by
  have g : 0 ≤ (0 : Int) ∧ (0 : Int) < (s.size : Int) := ⟨by omega, by omega⟩
  have g1 : 0 ≤ (1 : Int) ∧ (1 : Int) < (s.size : Int) := ⟨by omega, by omega⟩
  have g2 : 0 ≤ (2 : Int) ∧ (2 : Int) < (s.size : Int) := ⟨by omega, by omega⟩
  have g3 : 0 ≤ (3 : Int) ∧ (3 : Int) < (s.size : Int) := ⟨by omega, by omega⟩
  have b : ¬ (s.size : Int) < 2 := by omega
  have z : (4 : Int) ≤ (s.size : Int) := by omega
  unfold escape_Read
  simp only [if_neg (ne_nil (show 0 < s.size by omega)), if_pos g, a, ne_eq, not_true, if_false, if_neg b, if_pos g1, e1]
  simp only [show ¬ (120 : Int) = 110 by decide, show ¬ (120 : Int) = 116 by decide, show ¬ (120 : Int) = 114 by decide, if_false, if_true]
  unfold escape_Read_c2
  obtain ⟨x1, x2, x3⟩ := hx_hv (n / 16) (by omega)
  obtain ⟨y1, y2, y3⟩ := hx_hv (n % 16) (by omega)
  obtain ⟨b2, hb2⟩ : ∃ b : Nat, hx (n / 16) = b := ⟨(hx (n / 16)).toNat, by omega⟩
  obtain ⟨b3, hb3⟩ : ∃ b : Nat, hx (n % 16) = b := ⟨(hx (n % 16)).toNat, by omega⟩
  rw [hb2] at x1 x2 x3 e2; rw [hb3] at y1 y2 y3 e3
  simp only [Int.toNat_natCast] at x1 y1
  simp only [if_pos z, if_pos g2, if_pos g3, e2, e3, value_eq b2 (by omega), value_eq b3 (by omega), Option.bind_some, x1, y1]
  rw [if_pos (show (0 : Int) ≤ ((n / 16 : Nat) : Int) by omega), Option.bind_some, if_pos (decide_eq_true (by omega)), or_eq (n / 16) (by omega) (n % 16) (by omega)]
  have : 16 * (n / 16) + n % 16 = n := by omega
  first | rw [this] | simp [this]
theorem in_mem (k : Nat) (c : Int) (q : ByteArray) (hq : q.size ≤ 1000000) : ∀ (m i : Nat), i ≤ q.size → bosketref03_in_l1 k q c m i = some true → ∃ j : Nat, j < q.size ∧ byteAt q j = c
  | 0, i, _, h => by simp [bosketref03_in_l1] at h
  | m + 1, i, hi, h => by
    rw [bosketref03_in_l1.eq_2] at h
    by_cases a : (i : Int) < (q.size : Int)
    · have g : 0 ≤ (i : Int) ∧ (i : Int) < (q.size : Int) := ⟨by omega, a⟩
      simp only [if_pos a, if_pos g] at h
      by_cases b : byteAt q (i : Int) = c
      · exact ⟨i, by omega, b⟩
      · simp only [if_neg b, w64_id (n := (i : Int) + 1) (by omega) (by omega)] at h
        exact in_mem k c q hq m (i + 1) (by omega) (by exact_mod_cast h)
    · rw [if_neg a] at h; cases h
theorem in_not (k : Nat) (c : Int) (q : ByteArray) (hq : q.size ≤ 1000000) : ∀ (m i : Nat), i ≤ q.size → bosketref03_in_l1 k q c m i = some false → ∀ j : Nat, i ≤ j → j < q.size → byteAt q j ≠ c
  | 0, i, _, h => by simp [bosketref03_in_l1] at h
  | m + 1, i, hi, h => by
    intro j h1 h2
    rw [bosketref03_in_l1.eq_2] at h
    by_cases a : (i : Int) < (q.size : Int)
    · have g : 0 ≤ (i : Int) ∧ (i : Int) < (q.size : Int) := ⟨by omega, a⟩
      simp only [if_pos a, if_pos g] at h
      by_cases b : byteAt q (i : Int) = c
      · simp only [if_pos b] at h; cases h
      · simp only [if_neg b, w64_id (n := (i : Int) + 1) (by omega) (by omega)] at h
        rcases Nat.eq_or_lt_of_le h1 with e | e
        · subst e; exact b
        · exact in_not k c q hq m (i + 1) (by omega) (by exact_mod_cast h) j (by omega) h2
    · omega
theorem tbl_ok : ∀ n : Nat, n < 256 → (∀ x ∈ tbl n, 0 ≤ x ∧ x ≤ 255) := by decide +kernel
theorem byte_back (n : Nat) (hn : n < 256) (q : ByteArray) (hq : q.size ≤ 1000) (hs : ∀ j : Nat, j < q.size → sign (byteAt q j)) : ∃ t, escape_Byte 2000 n q = some t ∧ bosketref03_Byte 2000 n q = some t ∧ t.size ≤ 4 ∧ 0 < t.size ∧ (byteAt t 0 = 92 ∨ (byteAt t 0 = n ∧ ¬ special n ∧ ∀ j : Nat, j < q.size → byteAt q j ≠ n)) ∧ ∀ p, escape_Read 2000 (t ++ p) = some ((n : Int), (t.size : Int), true) := by
  obtain ⟨t, t1, t2, t3, t4⟩ := byte_eq (k := 2000) (by omega) n (by omega) (by omega) q hq
  refine ⟨t, t1, t2, ?_⟩
  have app : ∀ (l : List Int) (hl : ∀ x ∈ l, 0 ≤ x ∧ x ≤ 255) (p : ByteArray) (j : Nat) (hj : j < l.length), byteAt (strOfNums l ++ p) (j : Int) = l[j] := by
    intro l hl p j hj
    rw [byteAt_app _ _ j (by rw [strOfNums_size]; exact hj), byteAt_strOf l hl j hj]
  by_cases h : special n
  · have e : t = strOfNums (tbl n) := by
      have z := tbl_eq n hn
      rw [w8_nat n hn, rbyte_special h, ← (special_all n hn h).2, t3 h] at z
      exact Option.some.inj z
    subst e
    have ok := tbl_ok n hn
    have app' := app (tbl n) ok
    have hd : ∀ j (hj : j < (tbl n).length), byteAt (strOfNums (tbl n)) (j : Int) = (tbl n)[j] := fun j hj => byteAt_strOf _ ok j hj
    have hz : (strOfNums (tbl n)).size = (tbl n).length := strOfNums_size _
    have key : ∀ l, tbl n = l → (l = [92, 110] ∧ n = 10) ∨ (l = [92, 116] ∧ n = 9) ∨ (l = [92, 114] ∧ n = 13) ∨ (l = [92, 120, hx (n / 16), hx (n % 16)]) ∨ (l = [92, 92] ∧ n = 92) := by
      intro l e
      unfold tbl at e
      unfold special at h
      by_cases a : n = 10
      · simp [a] at e; simp [a, ← e]
      by_cases b : n = 9
      · simp [b] at e; simp [b, ← e]
      by_cases c : n = 13
      · simp [c] at e; simp [c, ← e]
      simp only [if_neg a, if_neg b, if_neg c] at e
      by_cases d : n < 32 ∨ 126 < n
      · rw [if_pos d] at e; simp [← e]
      · rw [if_neg d] at e
        have : n = 92 := by omega
        simp [this] at e; simp [this, ← e]
    rcases key _ rfl with ⟨e, e2⟩ | ⟨e, e2⟩ | ⟨e, e2⟩ | e | ⟨e, e2⟩
    all_goals
      rw [e] at hz hd app' ⊢
      simp only [List.length_cons, List.length_nil, Nat.zero_add, Nat.reduceAdd] at hz hd app'
      rw [hz]
      refine ⟨by omega, by omega, .inl (hd 0 (by omega)), fun p => ?_⟩
    · exact read_2 _ (by rw [ByteArray.size_append]; omega) (app' p 0 (by omega)) n (.inl ⟨e2, app' p 1 (by omega)⟩)
    · exact read_2 _ (by rw [ByteArray.size_append]; omega) (app' p 0 (by omega)) n (.inr (.inl ⟨e2, app' p 1 (by omega)⟩))
    · exact read_2 _ (by rw [ByteArray.size_append]; omega) (app' p 0 (by omega)) n (.inr (.inr ⟨e2, app' p 1 (by omega)⟩))
    · exact read_x _ (by rw [ByteArray.size_append]; omega) (app' p 0 (by omega)) n hn (app' p 1 (by omega)) (app' p 2 (by omega)) (app' p 3 (by omega))
    · exact read_s _ (by rw [ByteArray.size_append]; omega) (app' p 0 (by omega)) n (by subst e2; decide) (by subst e2; exact app' p 1 (by omega))
  · obtain ⟨r, r1, r2⟩ := plain_l 2000 n q (by omega) 2000 0 (by omega) (by omega)
    have hsp := h
    unfold special at hsp
    have a : ¬ (n : Int) = 10 := by omega
    have b : ¬ (n : Int) = 9 := by omega
    have d : ¬ (n : Int) = 13 := by omega
    have e : ¬ (n : Int) < 32 := by omega
    have f : ¬ (126 : Int) < (n : Int) := by omega
    have g : ¬ (n : Int) = 92 := by omega
    have r2' : escape_Byte 2000 n q = escape_Byte_l1 2000 n q 2000 0 := by
      unfold escape_Byte escape_letter
      simp only [if_neg a, if_neg b, if_neg d, if_neg e, if_neg g, Option.bind_some, ne_eq, not_true, if_false, decide_eq_false f]
      rfl
    rw [r2', show (0 : Int) = ((0 : Nat) : Int) from rfl, r2] at t1
    have t1 := Option.some.inj t1
    cases r
    · simp only [if_neg (show ¬ (false = true) by decide)] at t1
      subst t1
      have ok : ∀ x ∈ [(n : Int)], 0 ≤ x ∧ x ≤ 255 := by simp; omega
      have hz : (strOfNums [(n : Int)]).size = 1 := strOfNums_size _
      have h1 := byteAt_strOf [(n : Int)] ok 0 (by simp)
      refine ⟨by omega, by omega, .inr ⟨h1, h, fun j hj => in_not 2000 n q (by omega) 2000 0 (by omega) r1 j (by omega) hj⟩, fun p => ?_⟩
      have h2 := app [(n : Int)] ok p 0 (by simp)
      rw [read_1 _ (by rw [ByteArray.size_append]; omega) (by rw [show (0 : Int) = ((0 : Nat) : Int) from rfl, h2]; exact g)]
      rw [show (0 : Int) = ((0 : Nat) : Int) from rfl, h2, hz]; rfl
    · simp only [if_true] at t1
      subst t1
      have ok : ∀ x ∈ [(92 : Int), (n : Int)], 0 ≤ x ∧ x ≤ 255 := by simp; omega
      have hz : (strOfNums [(92 : Int), (n : Int)]).size = 2 := strOfNums_size _
      obtain ⟨j, j1, j2⟩ := in_mem 2000 n q (by omega) 2000 0 (by omega) r1
      have hsg := hs j j1
      rw [j2] at hsg
      refine ⟨by omega, by omega, .inl (byteAt_strOf [(92 : Int), (n : Int)] ok 0 (by simp)), fun p => ?_⟩
      rw [hz]
      exact read_s _ (by rw [ByteArray.size_append]; omega) (app _ ok p 0 (by simp)) n hsg (app _ ok p 1 (by simp))
end Go.Avl.T1
/- Texts between quotes: what Quote writes, Unquote reads. -/
namespace Go.Avl.T1
open Go Go.RowKit Go.Proofs Go.Avl
set_option linter.all false

/-- What a byte is written as, between such quotes. -/
def bt (q : Int) (n : Int) : ByteArray := (escape_Byte 2000 n (strOfNums [q])).getD (ByteArray.mk #[])
def catn (q : Int) (s : ByteArray) : Nat → Nat → ByteArray
  | _, 0 => ByteArray.mk #[]
  | i, m + 1 => bt q (byteAt s i) ++ catn q s (i + 1) m
def lst (s : ByteArray) : Nat → Nat → List Int
  | _, 0 => []
  | i, m + 1 => byteAt s i :: lst s (i + 1) m
def quo (q : Int) : Prop := sign q ∧ q ≠ 92
theorem bt_ok {q : Int} (hq : quo q) (n : Int) (h0 : 0 ≤ n) (h1 : n ≤ 255) : escape_Byte 2000 n (strOfNums [q]) = some (bt q n) ∧ bosketref03_Byte 2000 n (strOfNums [q]) = some (bt q n) ∧ (bt q n).size ≤ 4 ∧ 0 < (bt q n).size ∧ byteAt (bt q n) 0 ≠ q ∧ byteAt (bt q n) 0 ≠ 10 ∧ ∀ p, escape_Read 2000 (bt q n ++ p) = some (n, ((bt q n).size : Int), true) := by
  obtain ⟨k, rfl⟩ : ∃ k : Nat, n = k := ⟨n.toNat, by omega⟩
  have qr : 0 ≤ q ∧ q ≤ 255 := by have := hq.1; unfold sign at this; omega
  have hz : (strOfNums [q]).size = 1 := strOfNums_size _
  have hb := byteAt_strOf [q] (by simp; omega) 0 (by simp)
  have hb' : byteAt (strOfNums [q]) ((0 : Nat) : Int) = q := hb
  obtain ⟨t, t1, t2, t3, t4, t5, t6⟩ := byte_back k (by omega) (strOfNums [q]) (by omega) (fun j hj => by
    have : j = 0 := by omega
    subst this; rw [hb']; exact hq.1)
  have e : bt q k = t := by unfold bt; rw [t1]; rfl
  rw [e]
  refine ⟨t1, t2, t3, t4, ?_, ?_, t6⟩
  · rcases t5 with h | ⟨h, h', h''⟩
    · rw [h]; exact fun e => hq.2 e.symm
    · rw [h]; have := h'' 0 (by omega); rw [hb'] at this; exact fun e => this e.symm
  · rcases t5 with h | ⟨h, h', _⟩
    · rw [h]; decide
    · rw [h]; unfold special at h'; omega
theorem catn_size {q : Int} (hq : quo q) (s : ByteArray) : ∀ (m i : Nat), (catn q s i m).size ≤ 4 * m
  | 0, i => by rw [catn, emp_size]; omega
  | m + 1, i => by
    have := catn_size hq s m (i + 1)
    have h := byteAt_u8 s i
    obtain ⟨_, _, h3, _⟩ := bt_ok hq (byteAt s i) h.1 h.2
    rw [catn, ByteArray.size_append]; omega
theorem quote_l {q : Int} (hq : quo q) (s : ByteArray) (hs : s.size ≤ 1000) : ∀ (m i fuel : Nat) (acc : ByteArray), i + m = s.size → m < fuel → acc.size + 4 * m ≤ 100000 →
    escape_Quote_l1 2000 s q fuel acc i = some (acc ++ catn q s i m ++ strOfNums [q]) ∧ bosketref03_Quote_l1 2000 s q fuel acc i = some (acc ++ catn q s i m ++ strOfNums [q])
  | 0, i, f + 1, acc, h, _, hz => by
    have hz1 : (strOfNums [q]).size = 1 := strOfNums_size _
    have h1 : ¬ ((i : Int) < (s.size : Int)) := by omega
    have e : acc ++ catn q s i 0 = acc := by apply ByteArray.ext; apply Array.ext'; simp [catn]
    rw [e, escape_Quote_l1.eq_2, bosketref03_Quote_l1.eq_2, if_neg h1, if_neg h1, escape_Quote_c0, bosketref03_Quote_c0, if_pos (by omega)]
    exact ⟨rfl, rfl⟩
  | m + 1, i, f + 1, acc, h, hf, hz => by
    have h1 : (i : Int) < (s.size : Int) := by omega
    have g : 0 ≤ (i : Int) ∧ (i : Int) < (s.size : Int) := ⟨by omega, h1⟩
    have hb := byteAt_u8 s i
    obtain ⟨b1, b2, b3, _⟩ := bt_ok hq (byteAt s i) hb.1 hb.2
    have ih := quote_l hq s hs m (i + 1) f (acc ++ bt q (byteAt s i)) (by omega) (by omega) (by rw [ByteArray.size_append]; omega)
    rw [escape_Quote_l1.eq_2, bosketref03_Quote_l1.eq_2, if_pos h1, if_pos h1, if_pos g, if_pos g, b1, b2, Option.bind_some, Option.bind_some, if_pos (by omega), if_pos (by omega), w64_id (n := (i : Int) + 1) (by omega) (by omega)]
    have e : acc ++ catn q s i (m + 1) = acc ++ bt q (byteAt s i) ++ catn q s (i + 1) m := by rw [catn, app_assoc]
    rw [e]
    exact_mod_cast ih
theorem lst_range (s : ByteArray) : ∀ (m i : Nat), lst s i m = (List.range m).map fun j : Nat => byteAt s ((i + j : Nat) : Int)
  | 0, i => rfl
  | m + 1, i => by
    rw [lst, lst_range s m (i + 1), List.range_succ_eq_map, List.map_cons, List.map_map]
    congr 1
    apply List.map_congr_left
    intro j _
    show byteAt s _ = byteAt s _
    congr 2; simp; omega
theorem lst_all (s : ByteArray) : strOfNums (lst s 0 s.size) = s := by
  rw [lst_range, as_bytes s]
  conv => rhs; rw [as_bytes s]
  rw [← as_bytes s]
  congr 1
  apply List.map_congr_left
  intro j _
  simp
theorem unquote_l {q : Int} (hq : quo q) (s t : ByteArray) (hs : s.size ≤ 1000) (ht : t.size ≤ 1000) : ∀ (m i fuel : Nat) (a : ByteArray) (acc : List Int), i + m = s.size → m < fuel → a.size + 4 * m ≤ 100000 → acc.length + m ≤ 100000 →
    escape_Unquote_l1 2000 (a ++ (catn q s i m ++ (strOfNums [q] ++ t))) q fuel acc a.size = some (strOfNums (acc ++ lst s i m), ((a.size + (catn q s i m).size + 1 : Nat) : Int), true)
  | 0, i, f + 1, a, acc, h, _, hz, hl => by
    have qr : 0 ≤ q ∧ q ≤ 255 := by have := hq.1; unfold sign at this; omega
    have hz1 : (strOfNums [q]).size = 1 := strOfNums_size _
    have e : catn q s i 0 ++ (strOfNums [q] ++ t) = strOfNums [q] ++ t := by apply ByteArray.ext; apply Array.ext'; simp [catn]
    rw [e, escape_Unquote_l1.eq_2]
    have h1 : (a.size : Int) < ((a ++ (strOfNums [q] ++ t)).size : Int) := by rw [ByteArray.size_append, ByteArray.size_append]; omega
    have g : 0 ≤ (a.size : Int) ∧ (a.size : Int) < ((a ++ (strOfNums [q] ++ t)).size : Int) := ⟨by omega, h1⟩
    have hb : byteAt (a ++ (strOfNums [q] ++ t)) (a.size : Int) = q := by
      have := byteAt_right a (strOfNums [q] ++ t) 0 (by rw [ByteArray.size_append]; omega)
      rw [Nat.add_zero] at this
      rw [this, byteAt_app _ _ 0 (by omega), byteAt_strOf [q] (by simp; omega) 0 (by simp)]; rfl
    rw [if_pos h1, if_pos g, if_pos hb, w64_id (by omega) (by omega)]
    simp [catn, lst, emp_size]
  | m + 1, i, f + 1, a, acc, h, hf, hz, hl => by
    have hb := byteAt_u8 s i
    obtain ⟨b1, b2, b3, b4, b5, b6, b7⟩ := bt_ok hq (byteAt s i) hb.1 hb.2
    generalize hR : catn q s (i + 1) m ++ (strOfNums [q] ++ t) = R
    have eS : a ++ (catn q s i (m + 1) ++ (strOfNums [q] ++ t)) = a ++ (bt q (byteAt s i) ++ R) := by rw [catn, app_assoc (bt q (byteAt s i)), hR]
    rw [eS, escape_Unquote_l1.eq_2]
    have sz : (a ++ (bt q (byteAt s i) ++ R)).size = a.size + ((bt q (byteAt s i)).size + R.size) := by rw [ByteArray.size_append, ByteArray.size_append]
    have h1 : (a.size : Int) < ((a ++ (bt q (byteAt s i) ++ R)).size : Int) := by omega
    have g : 0 ≤ (a.size : Int) ∧ (a.size : Int) < ((a ++ (bt q (byteAt s i) ++ R)).size : Int) := ⟨by omega, h1⟩
    have hd : byteAt (a ++ (bt q (byteAt s i) ++ R)) (a.size : Int) = byteAt (bt q (byteAt s i)) 0 := by
      have := byteAt_right a (bt q (byteAt s i) ++ R) 0 (by rw [ByteArray.size_append]; omega)
      rw [Nat.add_zero] at this
      rw [this, byteAt_app _ _ 0 (by omega)]; rfl
    have ex : (a ++ (bt q (byteAt s i) ++ R)).extract (a.size : Int).toNat (((a ++ (bt q (byteAt s i) ++ R)).size : Nat) : Int).toNat = bt q (byteAt s i) ++ R := by
      rw [Int.toNat_natCast, Int.toNat_natCast]; exact extract_right _ _
    rw [if_pos h1, if_pos g, if_neg (by rw [hd]; exact b5), if_pos ⟨by omega, by omega, by omega⟩, ex, b7, Option.bind_some]
    dsimp only
    rw [if_neg (by simp), if_pos g, hd, Option.bind_some, if_neg (by simpa using b6), if_pos (by simp; omega), w64_id (by omega) (by omega)]
    have ih := unquote_l hq s t hs ht m (i + 1) f (a ++ bt q (byteAt s i)) (acc ++ [byteAt s i]) (by omega) (by omega) (by rw [ByteArray.size_append]; omega) (by simp; omega)
    rw [app_assoc, hR, ByteArray.size_append] at ih
    push_cast at ih ⊢
    rw [ih]
    simp only [Option.some.injEq, Prod.mk.injEq, and_true]
    refine ⟨by rw [lst]; simp, ?_⟩
    rw [catn, ByteArray.size_append]; push_cast; omega
def OKT (o : Option (Int × Int × Bool)) : Prop := ∀ t, o = some t → t.2.2 = true → t.2.1 = 1 ∨ t.2.1 = 2 ∨ t.2.1 = 4
theorem okt_none : OKT none := fun t h => by cases h
theorem okt_ite {p : Prop} [Decidable p] {a b : Option (Int × Int × Bool)} (ha : OKT a) (hb : OKT b) : OKT (if p then a else b) := by split <;> assumption
theorem okt_bind {α : Type} {o : Option α} {f : α → Option (Int × Int × Bool)} (h : ∀ x, OKT (f x)) : OKT (o.bind f) := fun t e => by
  obtain ⟨x, _, e⟩ := Option.bind_eq_some_iff.1 e
  exact h x t e
theorem okt_false {x n : Int} : OKT (some (x, n, false)) := fun t h ok => by cases h; cases ok
theorem okt_1 {x : Int} : OKT (some (x, 1, true)) := fun t h ok => by cases h; simp
theorem okt_2 {x : Int} : OKT (some (x, 2, true)) := fun t h ok => by cases h; simp
theorem okt_4 {x : Int} : OKT (some (x, 4, true)) := fun t h ok => by cases h; simp
theorem read_n (s : ByteArray) : OKT (escape_Read 2000 s) := by
  unfold escape_Read escape_Read_c0 escape_Read_c2 escape_Read_c1 escape_Read_c3 escape_Read_c4 escape_Read_c5
  repeat (first | exact okt_none | exact okt_false | exact okt_1 | exact okt_2 | exact okt_4 | apply okt_ite | (apply okt_bind; intro x))
theorem unq_l {q : Int} (hq : q ≠ 10) (p : ByteArray) (hp : p.size ≤ 1000) : ∀ (m i fuel : Nat) (acc : List Int), p.size - i < m → m ≤ fuel → i ≤ 5000 → acc.length + m ≤ 100000 →
    ∃ t, escape_Unquote_l1 2000 p q fuel acc i = some t ∧ bosketref03_Unquote_l1 2000 p q fuel (strOfNums acc) i = some t
  | 0, i, f, acc, h, _, _, _ => by omega
  | m + 1, i, 0, acc, _, h, _, _ => by omega
  | m + 1, i, f + 1, acc, h, hf, hi, hl => by
    rw [escape_Unquote_l1.eq_2, bosketref03_Unquote_l1.eq_2]
    by_cases a : (i : Int) < (p.size : Int)
    · have g : 0 ≤ (i : Int) ∧ (i : Int) < (p.size : Int) := ⟨by omega, a⟩
      simp only [if_pos a, if_pos g]
      by_cases b : byteAt p i = q
      · rw [if_pos b, if_neg (by simpa using b), Option.bind_some, if_neg (by decide), bosketref03_Unquote_c0, if_neg (by omega), if_pos g, Option.bind_some, if_neg (by simpa using b)]
        exact ⟨_, rfl, rfl⟩
      · have g2 : 0 ≤ (i : Int) ∧ (i : Int) ≤ (p.size : Int) ∧ (p.size : Int) ≤ (p.size : Int) := ⟨by omega, by omega, by omega⟩
        have hz : (p.extract (i : Int).toNat ((p.size : Nat) : Int).toNat).size ≤ 1000 := by rw [ByteArray.size_extract]; omega
        obtain ⟨u, u1, u2⟩ := read_eq _ hz
        have u3 := read_n _ u u1
        simp only [if_neg b, if_pos b, if_pos g2, u1, u2, Option.bind_some, ne_eq, not_false_eq_true, if_true]
        by_cases c : byteAt p i = 10
        · simp only [c, decide_true, not_true, decide_false, if_true, if_false, Bool.false_eq_true]
          rw [bosketref03_Unquote_c0, if_neg (show ¬ ((p.size : Int) ≤ (i : Int)) by omega), if_pos g, Option.bind_some, if_pos (show decide (byteAt p i ≠ q) = true by simpa using b)]
          cases u.2.2 <;> exact ⟨_, rfl, rfl⟩
        · simp only [c, decide_true, not_false_eq_true, decide_false, if_true, if_false]
          by_cases d : (!u.2.2) = true
          · rw [if_pos d, if_pos d]; exact ⟨_, rfl, rfl⟩
          · rw [if_neg d, if_neg d, Option.bind_some, if_neg (by decide)]
            have hz2 : (strOfNums acc).size + (strOfNums [u.1]).size ≤ 9223372036854775807 := by rw [strOfNums_size, strOfNums_size]; simp; omega
            have e : strOfNums acc ++ strOfNums [u.1] = strOfNums (acc ++ [u.1]) := by apply ByteArray.ext; apply Array.ext'; simp [strOfNums]
            have un := u3 (by simpa using d)
            obtain ⟨n, hn⟩ : ∃ n : Nat, u.2.1 = n := ⟨u.2.1.toNat, by omega⟩
            rw [if_pos (by simp; omega), if_pos hz2, e, hn, w64_id (n := (i : Int) + (n : Int)) (by omega) (by omega)]
            exact_mod_cast unq_l hq p hp m (i + n) f (acc ++ [u.1]) (by omega) (by omega) (by omega) (by simp; omega)
    · simp only [if_neg a]
      rw [Option.bind_some, if_neg (by decide), bosketref03_Unquote_c0, if_pos (by omega), Option.bind_some, if_pos rfl]
      exact ⟨_, rfl, rfl⟩
theorem unq_eq {q : Int} (hq : q ≠ 10) (p : ByteArray) (hp : p.size ≤ 1000) : ∃ t, escape_Unquote 2000 p q = some t ∧ bosketref03_Unquote 2000 p q = some t := by
  obtain ⟨t, t1, t2⟩ := unq_l hq p hp 1001 1 2000 [] (by omega) (by omega) (by omega) (by simp)
  unfold escape_Unquote bosketref03_Unquote
  by_cases e : p = ByteArray.mk #[]
  · rw [if_pos e, Option.bind_some, if_pos rfl]; exact ⟨_, rfl, by rw [Option.bind_some, if_pos rfl]⟩
  have hpos : 0 < p.size := by
    rcases Nat.eq_zero_or_pos p.size with h | h
    · exact absurd (by rw [as_bytes p, h]; rfl) e
    · exact h
  have g : 0 ≤ (0 : Int) ∧ (0 : Int) < (p.size : Int) := ⟨by omega, by omega⟩
  rw [if_neg e, if_pos g, Option.bind_some, Option.bind_some]
  by_cases b : byteAt p 0 ≠ q
  · rw [if_pos (decide_eq_true b), if_pos (decide_eq_true b)]; exact ⟨_, rfl, rfl⟩
  · rw [if_neg (by simpa using b), if_neg (by simpa using b)]
    exact ⟨t, t1, t2⟩
end Go.Avl.T1
/- EscapeQuotes: the plain law. -/
namespace Go.Avl.T1
open Go Go.RowKit Go.Proofs Go.Avl
set_option linter.all false

theorem awake03q : bosketlaw03_awake 2000 = some true := by decide +kernel
instance (q : Int) : Decidable (quo q) := by unfold quo; infer_instance
theorem quote_c : ∀ n : Nat, n < 256 → ∃ c : Nat, c < 256 ∧ bosketlaw03_quote 2000 (n : Int) = some (c : Int) ∧ quo (c : Int) ∧ (c : Int) ≠ 10 := by
  have key : ∀ n : Nat, n < 256 → (match bosketlaw03_quote 2000 (n : Int) with | some c => decide (0 ≤ c ∧ c < 256 ∧ quo c ∧ c ≠ 10) | none => false) = true := by decide +kernel
  intro n hn
  have := key n hn
  cases h : bosketlaw03_quote 2000 (n : Int) with
  | none => rw [h] at this; cases this
  | some c =>
    rw [h] at this
    obtain ⟨h0, h1, h2, h3⟩ := of_decide_eq_true this
    obtain ⟨m, rfl⟩ : ∃ m : Nat, c = m := ⟨c.toNat, by omega⟩
    exact ⟨m, by omega, rfl, h2, h3⟩

theorem bosketlaw03_EscapeQuotes_true (a0 : ByteArray) (a1 : ByteArray) (a2 : Int) (h0 : wf9 a0) (h1 : a0.size ≤ 140737488351232) (h2 : wf9 a1) (h3 : a1.size ≤ 140737488351232) (h4 : wf5 a2) : ∃ k, bosketlaw03_EscapeQuotes k a0 a1 a2 = some true := by
  refine ⟨2000, ?_⟩
  have hb := u8_wf h4
  unfold bosketlaw03_EscapeQuotes
  rw [awake03q, Option.bind_some, if_neg (by decide)]
  by_cases z1 : (300 : Int) < (a0.size : Int)
  · rw [if_pos z1, Option.bind_some, if_pos rfl]
  rw [if_neg z1, Option.bind_some]
  by_cases z2 : (300 : Int) < (a1.size : Int)
  · rw [if_pos (decide_eq_true z2)]
  rw [if_neg (by simpa using z2)]
  obtain ⟨n, rfl⟩ : ∃ n : Nat, a2 = n := ⟨a2.toNat, by omega⟩
  obtain ⟨c, c0, c1, c2, c3⟩ := quote_c n (by omega)
  have hz1 : (strOfNums [(c : Int)]).size = 1 := strOfNums_size _
  obtain ⟨q1, q2⟩ := quote_l c2 a0 (by omega) a0.size 0 2000 (strOfNums [(c : Int)]) (by omega) (by omega) (by omega)
  have e1 : escape_Quote 2000 a0 c = some (strOfNums [(c : Int)] ++ catn c a0 0 a0.size ++ strOfNums [(c : Int)]) := q1
  have e2 : bosketref03_Quote 2000 a0 c = some (strOfNums [(c : Int)] ++ catn c a0 0 a0.size ++ strOfNums [(c : Int)]) := q2
  have hcs := catn_size c2 a0 a0.size 0
  obtain ⟨u, u1, u2⟩ := unq_eq c3 a1 (by omega)
  have x := unquote_l c2 a0 a1 (by omega) (by omega) a0.size 0 2000 (strOfNums [(c : Int)]) [] (by omega) (by omega) (by omega) (by simp; omega)
  have eX : strOfNums [(c : Int)] ++ catn c a0 0 a0.size ++ strOfNums [(c : Int)] ++ a1 = strOfNums [(c : Int)] ++ (catn c a0 0 a0.size ++ (strOfNums [(c : Int)] ++ a1)) := by rw [app_assoc, app_assoc]
  have sX : (strOfNums [(c : Int)] ++ (catn c a0 0 a0.size ++ (strOfNums [(c : Int)] ++ a1))).size = 1 + ((catn c a0 0 a0.size).size + (1 + a1.size)) := by rw [ByteArray.size_append, ByteArray.size_append, ByteArray.size_append, hz1]
  have back : escape_Unquote 2000 (strOfNums [(c : Int)] ++ catn c a0 0 a0.size ++ strOfNums [(c : Int)] ++ a1) c = some (a0, ((strOfNums [(c : Int)] ++ catn c a0 0 a0.size ++ strOfNums [(c : Int)]).size : Int), true) := by
    have hs : (strOfNums [(c : Int)] ++ catn c a0 0 a0.size ++ strOfNums [(c : Int)]).size = 1 + (catn c a0 0 a0.size).size + 1 := by rw [ByteArray.size_append, ByteArray.size_append, hz1]
    have g : 0 ≤ (0 : Int) ∧ (0 : Int) < ((strOfNums [(c : Int)] ++ (catn c a0 0 a0.size ++ (strOfNums [(c : Int)] ++ a1))).size : Int) := ⟨by omega, by omega⟩
    have hq : byteAt (strOfNums [(c : Int)] ++ (catn c a0 0 a0.size ++ (strOfNums [(c : Int)] ++ a1))) 0 = c := by
      have := byteAt_app (strOfNums [(c : Int)]) (catn c a0 0 a0.size ++ (strOfNums [(c : Int)] ++ a1)) 0 (by omega)
      rw [show (0 : Int) = ((0 : Nat) : Int) from rfl, this, byteAt_strOf [(c : Int)] (by simp; omega) 0 (by simp)]; rfl
    rw [eX, hs]
    unfold escape_Unquote
    rw [if_neg (ne_nil (by omega)), if_pos g, Option.bind_some, if_neg (by simpa using hq)]
    rw [hz1, List.nil_append, lst_all] at x
    exact x
  rw [c1, Option.bind_some, e1, Option.bind_some, if_pos (by rw [ByteArray.size_append, ByteArray.size_append, hz1]; omega), back, Option.bind_some, u1, Option.bind_some, u2, Option.bind_some, e2, Option.bind_some]
  simp
end Go.Avl.T1
