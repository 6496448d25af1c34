/- Parts: T5W, T5U1, T5U2, T5U3, T5PureFuseNeeds. -/
import Derived.Test.YtoaomnfenofglaaAF1
import Derived.Test.YtoaomnfenofglaaAv3
import Derived.Test.YtoaomnfenofglaaAF2
import Derived.Test.YtoaomnfenofglaaAF3
/- Opening of the arguments; printed by avlaw.py. -/
namespace Go.Avl.T5
open Go Go.RowKit Go.Proofs Go.Avl
set_option linter.unusedVariables false
set_option maxRecDepth 100000
abbrev e28 (l : List (List Int)) : AV := .fz 1 (l.map e25)
abbrev e53 (l : List ByteArray) : AV := .fz 1 (l.map eStr)
theorem ag53 : tyAgg Try.prog 53 = some false := by rfl
abbrev wf3 : Int → Prop := (fun n : Int => (Lit.int .i64 n).wf = true)
theorem op3 : Opens Try.prog 3 eI64 wf3 := opens_int Try.underlying3
abbrev wf25 : (List Int) → Prop := (fun l : List Int => l.length ≤ 9223372036854775807 ∧ ∀ a ∈ l, wf3 a)
theorem op25 : Opens Try.prog 25 e25 wf25 := opens_slice Try.underlying25 sz3 op3
abbrev wf9 : ByteArray → Prop := (fun s : ByteArray => s.size ≤ 9223372036854775807)
theorem op9 : Opens Try.prog 9 eStr wf9 := opens_string Try.underlying9
abbrev wf5 : Int → Prop := (fun n : Int => (Lit.int .u8 n).wf = true)
theorem op5 : Opens Try.prog 5 eU8 wf5 := opens_int Try.underlying5
abbrev wf27 : (Vector Int 256) → Prop := (fun l : Vector Int 256 => ∀ a ∈ l.toList, wf5 a)
theorem op27 : Opens Try.prog 27 e27 wf27 := opens_array Try.underlying27 sz5 sz27 op5
abbrev wf28 : (List (List Int)) → Prop := (fun l : List (List Int) => l.length ≤ 9223372036854775807 ∧ ∀ a ∈ l, wf25 a)
theorem op28 : Opens Try.prog 28 e28 wf28 := opens_slice Try.underlying28 sz25 op25
abbrev wf30 : S30 → Prop := (fun x : S30 => wf27 x.f0 ∧ wf28 x.f1 ∧ wf25 x.f2)
theorem op30 : Opens Try.prog 30 e30 wf30 := (opens_struct Try.underlying30 sz30 (opensF_cons rfl sz27 (by decide) op27 (opensF_cons rfl sz28 (by decide) op28 (opensF_cons rfl sz25 (by decide) op25 (opensF_nil _))))).map (fun p => S30.mk p.1 p.2.1 p.2.2.1) (fun _ => rfl) (fun _ h => ⟨h.1, h.2.1, h.2.2.1⟩)
abbrev wf53 : (List ByteArray) → Prop := (fun l : List ByteArray => l.length ≤ 9223372036854775807 ∧ ∀ a ∈ l, wf9 a)
theorem op53 : Opens Try.prog 53 e53 wf53 := opens_slice Try.underlying53 sz9 op9
end Go.Avl.T5
/- Ported: texts between quotes. -/
namespace Go.Avl.T5
open Go Go.RowKit Go.Proofs Go.Avl
set_option linter.all false
set_option maxRecDepth 10000

theorem u8_of {n : Int} (h : (Lit.int .u8 n).wf = true) : 0 ≤ n ∧ n ≤ 255 := by
  simpa [Lit.wf, show IntKind.u8.min = 0 from rfl, show IntKind.u8.max = 255 from rfl] using h
def Bytes (p0 : S30) : Prop := ∀ c : Int, 0 ≤ vget p0.f0 c ∧ vget p0.f0 c ≤ 255
theorem bytes_of {p0 : S30} (h : wf30 p0) : Bytes p0 := by
  intro c
  have h1 := h.1
  by_cases hc : c.toNat < p0.f0.toList.length
  · have : vget p0.f0 c = p0.f0.toList[c.toNat] := by simp [vget, List.getD, List.getElem?_eq_getElem hc]
    rw [this]; exact u8_of (h1 _ (List.getElem_mem hc))
  · have : vget p0.f0 c = 0 := by
      have : p0.f0.toList[c.toNat]? = none := List.getElem?_eq_none (by omega)
      simp only [vget, List.getD, this]; rfl
    rw [this]; omega

def stp (p0 : S30) (s c : Int) : Int := if s < 0 ∨ (p0.f1.length : Int) ≤ s ∨ ((lget p0.f1 s).length : Int) ≤ vget p0.f0 c then -1 else lget (lget p0.f1 s) (vget p0.f0 c)
def mk (p0 : S30) (s : Int) : Int := if s < 0 ∨ (p0.f2.length : Int) ≤ s then -1 else lget p0.f2 s

theorem step_eq {p0 : S30} (hb : Bytes p0) (k : Nat) (s : Int) {c : Int} (h0 : 0 ≤ c) (h1 : c < 256) : dfa_Step k p0 s c = some (stp p0 s c) := by
  have hv := hb c
  have hw : w64 (vget p0.f0 c) = vget p0.f0 c := w64_id (by omega) (by omega)
  unfold dfa_Step stp
  rw [hw]
  by_cases a : s < 0
  · simp [a]
  · by_cases b : (p0.f1.length : Int) ≤ s
    · simp [a, b]
    · have g : 0 ≤ s ∧ s < (p0.f1.length : Int) := ⟨by omega, by omega⟩
      by_cases d : ((lget p0.f1 s).length : Int) ≤ vget p0.f0 c
      · simp [a, b, d, h0, h1, g]
      · simp [a, b, d, h0, h1, g, hv]
theorem rstep_eq {p0 : S30} (hb : Bytes p0) (k : Nat) (s : Int) {c : Int} (h0 : 0 ≤ c) (h1 : c < 256) : bosketref08_Step k p0 s c = some (stp p0 s c) := step_eq hb k s h0 h1
theorem mark_eq (p0 : S30) (k : Nat) (s : Int) : dfa_Mark k p0 s = some (mk p0 s) := by
  unfold dfa_Mark mk
  by_cases a : s < 0
  · simp [a]
  · by_cases b : (p0.f2.length : Int) ≤ s
    · simp [a, b]
    · simp [a, b]
theorem rmark_eq (p0 : S30) (k : Nat) (s : Int) : bosketref08_Mark k p0 s = some (mk p0 s) := mark_eq p0 k s

/-- The state after so many bytes. -/
def run (p0 : S30) (s : ByteArray) (q p : Int) : Nat → Int
  | 0 => q
  | n + 1 => stp p0 (run p0 s q p n) (byteAt s (p + n))
theorem run_l {p0 : S30} (hb : Bytes p0) (k : Nat) (s t : ByteArray) (q p : Int) (ht : ∀ x : Int, 0 ≤ x → x < (t.size : Int) → byteAt t x = byteAt s (p + x)) (hz : t.size ≤ 1000000) : ∀ (m i : Nat), i ≤ t.size → t.size - i < m →
    bosketref08_Run_l1 k p0 t m (run p0 s q p i) (i : Int) = some (run p0 s q p t.size)
  | 0, i, _, h => by omega
  | m + 1, i, hi, h => by
    rw [bosketref08_Run_l1.eq_2]
    by_cases a : (i : Int) < (t.size : Int)
    · rw [if_pos a, if_pos ⟨by omega, a⟩]
      have hu := byteAt_u8 t i
      rw [w64_id (n := byteAt t i) (by omega) (by omega), rstep_eq hb k _ hu.1 (by omega), Option.bind_some, w64_id (by omega) (by omega)]
      have := run_l hb k s t q p ht hz m (i + 1) (by omega) (by omega)
      rw [run, ← ht i (by omega) a] at this
      simpa using this
    · rw [if_neg a, bosketref08_Run_c0]
      have : i = t.size := by omega
      rw [this]
theorem run_ext {p0 : S30} (hb : Bytes p0) (k : Nat) (s : ByteArray) (q i : Int) (n : Nat) (h0 : 0 ≤ i) (h2 : i + n ≤ (s.size : Int)) (hn : n < k) (hz : n ≤ 1000000) : bosketref08_Run k p0 q (s.extract i.toNat (i + n).toNat) = some (run p0 s q i n) := by
  have hs : (s.extract i.toNat (i + n).toNat).size = n := by rw [ByteArray.size_extract]; omega
  have := run_l hb k s (s.extract i.toNat (i + n).toNat) q i (fun x a b => byteAt_extract s i (i + n) x h0 (by omega) (by omega) a (by omega)) (by omega) k 0 (by omega) (by omega)
  rw [hs] at this
  exact this

/-- The longest accepted part among the first n. -/
def acc (p0 : S30) (s : ByteArray) (p : Int) : Nat → Int × Int
  | 0 => (-1, 0)
  | n + 1 => if 0 ≤ mk p0 (run p0 s 0 p (n + 1)) then (mk p0 (run p0 s 0 p (n + 1)), n + 1) else acc p0 s p n

theorem ref_l {p0 : S30} (hb : Bytes p0) (k : Nat) (s : ByteArray) (p : Int) (h0 : 0 ≤ p) (hz : s.size ≤ 1000) (hk : 2000 ≤ k) : ∀ (n m : Nat), p + n ≤ (s.size : Int) → n < m → bosketref12_Longest_l1 k p0 s p m (p + n) = some (acc p0 s p n)
  | 0, m + 1, _, _ => by
    rw [bosketref12_Longest_l1.eq_2, if_neg (by omega)]; rfl
  | n + 1, m + 1, h1, h => by
    rw [bosketref12_Longest_l1.eq_2, if_pos (by omega), if_pos ⟨by omega, by omega, by omega⟩, run_ext hb k s 0 p (n + 1) h0 h1 (by omega) (by omega), Option.bind_some, rmark_eq, Option.bind_some, acc]
    by_cases a : 0 ≤ mk p0 (run p0 s 0 p (n + 1))
    · rw [if_pos a, if_pos a, w64_id (by omega) (by omega)]
      congr 2; omega
    · rw [if_neg a, if_neg a, w64_id (by omega) (by omega)]
      have := ref_l hb k s p h0 hz hk n m (by omega) (by omega)
      rw [← this]; congr 1; omega
  | _, 0, _, h => by omega

theorem stp_neg (p0 : S30) (c : Int) : stp p0 (-1) c = -1 := by simp [stp]
theorem run_dead {p0 : S30} {s : ByteArray} {q p : Int} {i : Nat} (h : run p0 s q p i = -1) : ∀ n, run p0 s q p (i + n) = -1
  | 0 => h
  | n + 1 => by rw [← Nat.add_assoc, run, run_dead h n, stp_neg]
theorem mk_neg (p0 : S30) : mk p0 (-1) = -1 := by simp [mk]
theorem acc_dead {p0 : S30} {s : ByteArray} {p : Int} {i : Nat} (h : run p0 s 0 p (i + 1) = -1) : ∀ n, acc p0 s p (i + n) = acc p0 s p i
  | 0 => rfl
  | n + 1 => by
    have : run p0 s 0 p (i + n + 1) = -1 := by rw [show i + n + 1 = i + 1 + n by omega]; exact run_dead h n
    rw [← Nat.add_assoc, acc, this, mk_neg, if_neg (by omega), acc_dead h n]

theorem longest_l {p0 : S30} (hb : Bytes p0) (k : Nat) (s : ByteArray) (p : Int) (h0 : 0 ≤ p) (hz : s.size ≤ 1000) (N : Nat) (hN : p + N = (s.size : Int)) : ∀ (m i : Nat), i ≤ N → N - i < m →
    munch_Longest_l2 k p0 s p m (acc p0 s p i).1 (acc p0 s p i).2 (run p0 s 0 p i) (p + i) = some (acc p0 s p N)
  | 0, i, _, h => by omega
  | m + 1, i, hi, h => by
    rw [munch_Longest_l2.eq_2, if_pos (by omega), Option.bind_some]
    by_cases a : p + i < (s.size : Int)
    · rw [if_pos (by simpa using a), if_pos ⟨by omega, a⟩]
      have hu := byteAt_u8 s (p + i)
      rw [step_eq hb k _ hu.1 (by omega), Option.bind_some]
      have hr : run p0 s 0 p (i + 1) = stp p0 (run p0 s 0 p i) (byteAt s (p + i)) := rfl
      rw [← hr]
      by_cases d : run p0 s 0 p (i + 1) = -1
      · rw [if_pos d, munch_Longest_c0]
        have := acc_dead d (N - i)
        rw [show i + (N - i) = N by omega] at this
        rw [this]
      · rw [if_neg d, mark_eq, Option.bind_some]
        have ih := longest_l hb k s p h0 hz N hN m (i + 1) (by omega) (by omega)
        have e1 : p + ((i + 1 : Nat) : Int) = w64 (p + i + 1) := by rw [w64_id (by omega) (by omega)]; omega
        rw [e1] at ih
        by_cases b : 0 ≤ mk p0 (run p0 s 0 p (i + 1))
        · rw [if_pos b, munch_Longest_c1]
          rw [acc, if_pos b] at ih
          have e2 : w64 (w64 (p + i + 1) - p) = ((i : Int) + 1) := by rw [w64_id (n := p + i + 1) (by omega) (by omega), w64_id (by omega) (by omega)]; omega
          rw [e2]; exact ih
        · rw [if_neg b, munch_Longest_c1]
          rw [acc, if_neg b] at ih
          exact ih
    · rw [if_neg (by simpa using a), munch_Longest_c0]
      have : i = N := by omega
      rw [this]

/-- The answer of both. -/
def best (p0 : S30) (s : ByteArray) (p : Int) : Int × Int := if p < 0 ∨ (s.size : Int) ≤ p then (-1, 0) else acc p0 s p ((s.size : Int) - p).toNat
theorem longest_eq {p0 : S30} (hb : Bytes p0) {k : Nat} (s : ByteArray) (p : Int) (hz : s.size ≤ 1000) (hk : 2000 ≤ k) : munch_Longest k p0 s p = some (best p0 s p) := by
  unfold munch_Longest best
  by_cases a : p < 0 ∨ (s.size : Int) ≤ p
  · rw [if_pos a]
    obtain ⟨k, rfl⟩ : ∃ j, k = j + 1 := ⟨k - 1, by omega⟩
    rw [munch_Longest_l2.eq_2]
    by_cases b : 0 ≤ p
    · rw [if_pos b, Option.bind_some, if_neg (by simp; omega)]; rfl
    · rw [if_neg b, Option.bind_some, if_neg (by simp)]; rfl
  · rw [if_neg a]
    have := longest_l hb k s p (by omega) hz ((s.size : Int) - p).toNat (by omega) k 0 (by omega) (by omega)
    simpa [acc, run] using this
theorem rlongest_eq {p0 : S30} (hb : Bytes p0) {k : Nat} (s : ByteArray) (p : Int) (hz : s.size ≤ 1000) (hk : 2000 ≤ k) : bosketref12_Longest k p0 s p = some (best p0 s p) := by
  unfold bosketref12_Longest best
  by_cases a : p < 0
  · rw [if_pos a, if_pos (Or.inl a)]
  · rw [if_neg a]
    by_cases b : (s.size : Int) ≤ p
    · rw [if_pos (Or.inr b)]
      obtain ⟨k, rfl⟩ : ∃ j, k = j + 1 := ⟨k - 1, by omega⟩
      rw [bosketref12_Longest_l1.eq_2, if_neg (by omega)]; rfl
    · rw [if_neg (by omega)]
      have := ref_l hb k s p (by omega) hz hk ((s.size : Int) - p).toNat k (by omega) (by omega)
      rw [show p + (((s.size : Int) - p).toNat : Int) = (s.size : Int) by omega] at this
      exact this
theorem classes_tot {p0 : S30} (hb : Bytes p0) (k : Nat) : ∀ (m : Nat) (x i : Int), 0 ≤ x → x ≤ 256 → 0 ≤ i → i ≤ 256 → 256 - i < m → ∃ b, bosketref08_classes_l1 k p0 m x i = some b ∧ 0 ≤ b ∧ b ≤ 256
  | 0, x, i, _, _, _, _, h => by omega
  | m + 1, x, i, h1, h2, h3, h4, h => by
    rw [bosketref08_classes_l1.eq_2]
    by_cases a : i < 256
    · rw [if_pos a, if_pos ⟨h3, a⟩]
      have hv := hb i
      rw [w64_id (n := vget p0.f0 i) (by omega) (by omega), w64_id (n := vget p0.f0 i + 1) (by omega) (by omega), w64_id (n := i + 1) (by omega) (by omega)]
      exact classes_tot hb k m _ _ (by omega) (by omega) (by omega) (by omega) (by omega)
    · rw [if_neg a]; exact ⟨x, rfl, h1, h2⟩
theorem classes_some {p0 : S30} (hb : Bytes p0) {k : Nat} (hk : 2000 ≤ k) : ∃ b, bosketref08_classes k p0 = some b ∧ 0 ≤ b ∧ b ≤ 256 := classes_tot hb k k 0 0 (by omega) (by omega) (by omega) (by omega) (by omega)
theorem gap3_tot {p0 : S30} (hb : Bytes p0) (k : Nat) (rec4 : Int → Option Bool) (x3 : Int) (hr : ∃ b, rec4 (w64 (x3 + 1)) = some b) : ∀ (m : Nat) (b : Bool) (i : Int), 0 ≤ i → i ≤ 256 → 256 - i < m → ∃ b', bosketref08_gapless_l3 k rec4 p0 x3 m b i = some b'
  | 0, b, i, _, _, h => by omega
  | m + 1, b, i, h3, h4, h => by
    rw [bosketref08_gapless_l3.eq_2]
    by_cases a : i < 256
    · rw [if_pos a]
      have : ∃ c : Bool, (if b = true then some true else if 0 ≤ i ∧ i < 256 then some (decide (w64 (vget p0.f0 i) = x3)) else none) = some c := by
        by_cases e : b = true
        · exact ⟨true, by rw [if_pos e]⟩
        · exact ⟨_, by rw [if_neg e, if_pos ⟨h3, a⟩]⟩
      obtain ⟨c, hc⟩ := this
      rw [hc, Option.bind_some, w64_id (n := i + 1) (by omega) (by omega)]
      exact gap3_tot hb k rec4 x3 hr m c _ (by omega) (by omega) (by omega)
    · rw [if_neg a, bosketref08_gapless_c2]
      by_cases e : (!b) = true
      · exact ⟨false, by rw [if_pos e]⟩
      · rw [if_neg e, bosketref08_gapless_c1]; exact hr
theorem gap4_tot {p0 : S30} (hb : Bytes p0) {k : Nat} (hk : 2000 ≤ k) : ∀ (m : Nat) (i : Int), 0 ≤ i → i ≤ 256 → 256 - i < m → ∃ b', bosketref08_gapless_l4 k p0 m i = some b'
  | 0, i, _, _, h => by omega
  | m + 1, i, h3, h4, h => by
    rw [bosketref08_gapless_l4.eq_2]
    obtain ⟨c, hc, c0, c1⟩ := classes_some hb hk
    rw [hc, Option.bind_some]
    by_cases a : i < c
    · rw [if_pos a]
      exact gap3_tot hb k _ i (by rw [w64_id (by omega) (by omega)]; exact gap4_tot hb hk m _ (by omega) (by omega) (by omega)) k false 0 (by omega) (by omega) (by omega)
    · rw [if_neg a]; exact ⟨true, rfl⟩
theorem right2_tot {p0 : S30} (k : Nat) (rec11 : Int → Option Bool) (x : Int) (hx : 0 ≤ x ∧ x < (p0.f1.length : Int)) (hl : (lget p0.f1 x).length ≤ 256) (hr : ∃ b, rec11 (w64 (x + 1)) = some b) : ∀ (m : Nat) (i : Int), 0 ≤ i → i ≤ 256 → 256 - i < m → ∃ b', bosketref08_Right_l2 k rec11 p0 x m i = some b'
  | 0, i, _, _, h => by omega
  | m + 1, i, h3, h4, h => by
    rw [bosketref08_Right_l2.eq_2, if_pos hx]
    by_cases a : i < ((lget p0.f1 x).length : Int)
    · rw [if_pos a, if_pos hx, if_pos (show 0 ≤ i ∧ i < ((lget p0.f1 x).length : Int) from ⟨h3, a⟩)]
      have : ∃ c : Bool, (if lget (lget p0.f1 x) i < -1 then some true else if 0 ≤ x ∧ x < (p0.f1.length : Int) then if 0 ≤ i ∧ i < ((lget p0.f1 x).length : Int) then some (decide ((p0.f1.length : Int) ≤ lget (lget p0.f1 x) i)) else none else none) = some c := by
        by_cases e : lget (lget p0.f1 x) i < -1
        · exact ⟨_, by rw [if_pos e]⟩
        · exact ⟨_, by rw [if_neg e, if_pos hx, if_pos (show 0 ≤ i ∧ i < ((lget p0.f1 x).length : Int) from ⟨h3, a⟩)]⟩
      obtain ⟨c, hc⟩ := this
      rw [hc, Option.bind_some]
      by_cases e : c = true
      · rw [if_pos e]; exact ⟨false, rfl⟩
      · rw [if_neg e, w64_id (n := i + 1) (by omega) (by omega)]
        exact right2_tot k rec11 x hx hl hr m _ (by omega) (by omega) (by omega)
    · rw [if_neg a, bosketref08_Right_c1]; exact hr
theorem right3_tot {p0 : S30} (hb : Bytes p0) {k : Nat} (hk : 2000 ≤ k) (hn : p0.f1.length ≤ 20) (h2 : p0.f2.length = p0.f1.length) (hl : ∀ r ∈ p0.f1, r.length ≤ 256) : ∀ (m : Nat) (i : Int), 0 ≤ i → i ≤ (p0.f1.length : Int) → (p0.f1.length : Int) - i < m → ∃ b', bosketref08_Right_l3 k p0 m i = some b'
  | 0, i, _, _, h => by omega
  | m + 1, i, h3, h4, h => by
    rw [bosketref08_Right_l3.eq_2]
    by_cases a : i < (p0.f1.length : Int)
    · obtain ⟨t, ht, t0, t1⟩ := classes_some hb hk
      have hi : 0 ≤ i ∧ i < (p0.f1.length : Int) := ⟨h3, a⟩
      have hi2 : 0 ≤ i ∧ i < (p0.f2.length : Int) := ⟨h3, by omega⟩
      rw [if_pos a, if_pos hi, ht, Option.bind_some, if_pos hi2, if_pos hi2]
      have hrow : (lget p0.f1 i).length ≤ 256 := by
        have hlt : i.toNat < p0.f1.length := by omega
        have : lget p0.f1 i = p0.f1[i.toNat] := by simp [lget, List.getD, List.getElem?_eq_getElem hlt]
        rw [this]; exact hl _ (List.getElem_mem hlt)
      have : ∃ c : Bool, (if ((lget p0.f1 i).length : Int) ≠ t then some true else if lget p0.f2 i < -1 then some true else some (decide (32768 ≤ lget p0.f2 i))) = some c := by
        by_cases e : ((lget p0.f1 i).length : Int) ≠ t
        · exact ⟨_, by rw [if_pos e]⟩
        · by_cases e2 : lget p0.f2 i < -1
          · exact ⟨_, by rw [if_neg e, if_pos e2]⟩
          · exact ⟨_, by rw [if_neg e, if_neg e2]⟩
      obtain ⟨c, hc⟩ := this
      rw [hc, Option.bind_some]
      by_cases e : c = true
      · rw [if_pos e]; exact ⟨false, rfl⟩
      · rw [if_neg e]
        exact right2_tot k _ i hi hrow (by rw [w64_id (by omega) (by omega)]; exact right3_tot hb hk hn h2 hl m _ (by omega) (by omega) (by omega)) k 0 (by omega) (by omega) (by omega)
    · rw [if_neg a]; exact ⟨true, rfl⟩
theorem right_some {p0 : S30} (hb : Bytes p0) {k : Nat} (hk : 2000 ≤ k) (hn : p0.f1.length ≤ 20) (hl : ∀ r ∈ p0.f1, r.length ≤ 256) : ∃ b, bosketref08_Right k p0 = some b := by
  unfold bosketref08_Right
  by_cases a : (p0.f1.length : Int) < 1
  · rw [if_pos a, Option.bind_some, if_pos rfl]; exact ⟨_, rfl⟩
  · rw [if_neg a, if_neg (by omega)]
    by_cases b : (p0.f2.length : Int) ≠ (p0.f1.length : Int)
    · rw [if_pos b, Option.bind_some, if_pos rfl]; exact ⟨_, rfl⟩
    · obtain ⟨g, hg⟩ := gap4_tot hb hk k 0 (by omega) (by omega) (by omega)
      rw [if_neg b, show bosketref08_gapless k p0 = some g from hg, Option.bind_some, Option.bind_some]
      by_cases c : (!g) = true
      · rw [if_pos c]; exact ⟨_, rfl⟩
      · rw [if_neg c]; exact right3_tot hb hk hn (by omega) hl k 0 (by omega) (by omega) (by omega)
theorem small_l {p0 : S30} (k : Nat) (hn : p0.f1.length ≤ 20) : ∀ (m i : Nat), i ≤ p0.f1.length → p0.f1.length - i < m → ∃ b, bosketlaw08_Small_l1 k p0 m i = some b ∧ (b = true → ∀ j, i ≤ j → (h : j < p0.f1.length) → (p0.f1[j]).length ≤ 256)
  | 0, i, _, h => by omega
  | m + 1, i, hi, h => by
    rw [bosketlaw08_Small_l1.eq_2]
    by_cases a : (i : Int) < (p0.f1.length : Int)
    · have hlt : i < p0.f1.length := by omega
      have hrow : lget p0.f1 (i : Int) = p0.f1[i] := by simp [lget, List.getD, List.getElem?_eq_getElem hlt]
      rw [if_pos a, if_pos ⟨by omega, a⟩, hrow]
      by_cases b : (256 : Int) < ((p0.f1[i]).length : Int)
      · rw [if_pos b]; exact ⟨false, rfl, fun h => by cases h⟩
      · rw [if_neg b, w64_id (by omega) (by omega)]
        obtain ⟨c, h1, h2⟩ := small_l k hn m (i + 1) (by omega) (by omega)
        refine ⟨c, by simpa using h1, fun hc j hj hlt' => ?_⟩
        by_cases e : j = i
        · subst e; omega
        · exact h2 hc j (by omega) hlt'
    · rw [if_neg a]; exact ⟨true, rfl, fun _ j hj hlt => by omega⟩
theorem small_some (p0 : S30) {k : Nat} (hk : 2000 ≤ k) : ∃ b, bosketlaw08_Small k p0 = some b ∧ (b = true → p0.f1.length ≤ 20 ∧ p0.f2.length ≤ 30 ∧ ∀ r ∈ p0.f1, r.length ≤ 256) := by
  unfold bosketlaw08_Small
  by_cases a : (20 : Int) < (p0.f1.length : Int)
  · rw [if_pos a, Option.bind_some, if_pos rfl]; exact ⟨_, rfl, fun h => by cases h⟩
  · rw [if_neg a, Option.bind_some]
    by_cases b : (30 : Int) < (p0.f2.length : Int)
    · rw [if_pos (by simpa using b)]; exact ⟨_, rfl, fun h => by cases h⟩
    · rw [if_neg (by simpa using b)]
      obtain ⟨c, h1, h2⟩ := small_l (p0 := p0) k (by omega) k 0 (by omega) (by omega)
      refine ⟨c, by simpa using h1, fun hc => ⟨by omega, by omega, fun r hr => ?_⟩⟩
      obtain ⟨j, hj, rfl⟩ := List.getElem_of_mem hr
      exact h2 hc j (by omega) hj
theorem acc_le (p0 : S30) (s : ByteArray) (p : Int) : ∀ n : Nat, 0 ≤ (acc p0 s p n).2 ∧ (acc p0 s p n).2 ≤ n
  | 0 => ⟨by simp [acc], by simp [acc]⟩
  | n + 1 => by
    have := acc_le p0 s p n
    rw [acc]
    split
    · exact ⟨by show (0 : Int) ≤ (n : Int) + 1; omega, by show (n : Int) + 1 ≤ ((n + 1 : Nat) : Int); omega⟩
    · exact ⟨this.1, by omega⟩
theorem best_le (p0 : S30) (s : ByteArray) (p : Int) (h0 : 0 ≤ p) (h1 : p ≤ (s.size : Int)) : 0 ≤ (best p0 s p).2 ∧ p + (best p0 s p).2 ≤ (s.size : Int) := by
  unfold best
  split
  · exact ⟨by simp, by simp; omega⟩
  · have := acc_le p0 s p ((s.size : Int) - p).toNat; omega
end Go.Avl.T5
/- fuse: joining, splitting, passes. -/
namespace Go.Avl.T5
open Go Go.RowKit Go.Proofs Go.Avl
set_option linter.all false
set_option maxRecDepth 10000

theorem lget_lt {α : Type} [Inhabited α] (l : List α) (i : Nat) (h : i < l.length) : lget l (i : Int) = l[i] := by simp [lget, List.getD, List.getElem?_eq_getElem h]
theorem lset_len {α : Type} (l : List α) (i : Int) (x : α) : (lset l i x).length = l.length := by simp [lset]
theorem w6 {x : Int} (h0 : -1000000000000 ≤ x) (h1 : x ≤ 1000000000000) : w64 x = x := w64_id (by omega) (by omega)
theorem all_l {p0 : S30} (hb : Bytes p0) (s : ByteArray) (hz : s.size ≤ 1000) : ∀ (m i : Nat) (L : List S96), i ≤ s.size → s.size - i < m → L.length ≤ i →
    ∃ (L' : List S96) (pos : Nat) (ok : Bool), munch_All_l1 2000 p0 s m L i = some (L', (pos : Int), if ok then (0 : Int) else 7) ∧ bosketref12_All_l1 2000 p0 s m L i = some (L', (pos : Int), ok) ∧ L'.length ≤ s.size
  | 0, i, L, _, h, _ => by omega
  | m + 1, i, L, hi, h, hl => by
    rw [munch_All_l1.eq_2, bosketref12_All_l1.eq_2]
    by_cases a : (i : Int) < (s.size : Int)
    · have hbe := best_le p0 s i (by omega) (by omega)
      simp only [if_pos a, longest_eq hb s i hz (Nat.le_refl 2000), rlongest_eq hb s i hz (Nat.le_refl 2000), Option.bind_some]
      by_cases b : (best p0 s i).2 = 0
      · simp only [if_pos b]
        exact ⟨L, i, false, rfl, rfl, by omega⟩
      · have hw : w64 ((i : Int) + (best p0 s i).2) = (i : Int) + (best p0 s i).2 := w64_id (by omega) (by omega)
        have g : 0 ≤ (i : Int) ∧ (i : Int) ≤ (i : Int) + (best p0 s i).2 ∧ (i : Int) + (best p0 s i).2 ≤ (s.size : Int) := ⟨by omega, by omega, by omega⟩
        obtain ⟨j, hj⟩ : ∃ j : Nat, (j : Int) = (i : Int) + (best p0 s i).2 := ⟨((i : Int) + (best p0 s i).2).toNat, by omega⟩
        have e : ((i : Int) + (best p0 s i).2).toNat = j := by omega
        simp only [if_neg b, hw, if_pos g, e, Int.toNat_natCast]
        have hlen : ∀ x : S96, (L ++ [x]).length * 32 ≤ 140737488355328 := by intro x; simp; omega
        simp only [if_pos (hlen _), ← hj]
        exact all_l hb s hz m j _ (by omega) (by omega) (by simp; omega)
    · have e : i = s.size := by omega
      simp only [if_neg a]
      exact ⟨L, i, true, by rw [munch_All_c0, e]; rfl, rfl, by omega⟩
def own (bl : Int) : List S96 → List ByteArray
  | [] => []
  | x :: l => if x.f0 = bl then own bl l else x.f1 :: own bl l
theorem own_len (bl : Int) : ∀ l, (own bl l).length ≤ l.length
  | [] => Nat.le_refl _
  | x :: l => by
    have := own_len bl l
    unfold own
    split <;> simp <;> omega
theorem spl_l2 (bl : Int) (ts : List ByteArray) (t : List S96 × Int × Int) (hz : t.1.length ≤ 1000) (hz2 : ts.length ≤ 1000) : ∀ (m i fuel c : Nat), i + m = t.1.length → m < fuel → c ≤ ts.length → fuse_Splits_l2 2000 bl ts t fuel (c : Int) (i : Int) = some (decide (own bl (t.1.drop i) = ts.drop c))
  | 0, i, f + 1, c, hi, _, hc => by
    rw [fuse_Splits_l2.eq_2, if_neg (by omega), List.drop_of_length_le (by omega), fuse_Splits_c0]
    congr 1
    rw [decide_eq_decide]
    constructor
    · intro h; rw [List.drop_of_length_le (by omega)]; rfl
    · intro h
      have : (ts.drop c).length = 0 := by rw [← h]; rfl
      rw [List.length_drop] at this; omega
  | m + 1, i, f + 1, c, hi, hf, hc => by
    have hi' : i < t.1.length := by omega
    rw [fuse_Splits_l2.eq_2, if_pos (by omega), if_pos ⟨by omega, by omega⟩, lget_lt _ i hi', List.drop_eq_getElem_cons hi']
    unfold fuse_Splits_c1
    rw [w6 (x := (i : Int) + 1) (by omega) (by omega), w6 (x := (c : Int) + 1) (by omega) (by omega)]
    by_cases b : t.1[i].f0 = bl
    · rw [if_pos b]
      have ih := spl_l2 bl ts t hz hz2 m (i + 1) f c (by omega) (by omega) hc
      have e : own bl (t.1[i] :: t.1.drop (i + 1)) = own bl (t.1.drop (i + 1)) := by rw [own, if_pos b]
      rw [e]; exact_mod_cast ih
    · have e : own bl (t.1[i] :: t.1.drop (i + 1)) = t.1[i].f1 :: own bl (t.1.drop (i + 1)) := by rw [own, if_neg b]
      rw [if_neg b, e]
      by_cases a : (ts.length : Int) ≤ (c : Int)
      · rw [if_pos a, Option.bind_some, if_pos rfl, List.drop_of_length_le (show ts.length ≤ c by omega)]
        simp
      · have hc' : c < ts.length := by omega
        rw [if_neg a, if_pos ⟨by omega, by omega⟩, Option.bind_some, lget_lt _ c hc', List.drop_eq_getElem_cons hc']
        by_cases q : t.1[i].f1 = ts[c]
        · rw [if_neg (by simpa using q)]
          have ih := spl_l2 bl ts t hz hz2 m (i + 1) f (c + 1) (by omega) (by omega) (by omega)
          have : decide (t.1[i].f1 :: own bl (t.1.drop (i + 1)) = ts[c] :: ts.drop (c + 1)) = decide (own bl (t.1.drop (i + 1)) = ts.drop (c + 1)) := by
            rw [decide_eq_decide, List.cons.injEq]; exact ⟨fun h => h.2, fun h => ⟨q, h⟩⟩
          rw [this]; exact_mod_cast ih
        · rw [if_pos (by simpa using q), decide_eq_false (fun h => q (List.cons.inj h).1)]
theorem rspl_l1 (ts x : List ByteArray) (hz : x.length ≤ 1000) : ∀ (m i fuel : Nat) (b : Bool), i + m = x.length → m + 1 < fuel → (b = true → x.length = ts.length) → bosketref15_Splits_l1 2000 ts x fuel b (i : Int) = some (b && decide (x.drop i = ts.drop i))
  | 0, i, f + 1, b, hi, _, hb => by
    rw [bosketref15_Splits_l1.eq_2, if_neg (by omega), Option.bind_some, if_neg (by decide), bosketref15_Splits_c0, List.drop_of_length_le (by omega)]
    cases b with
    | false => rfl
    | true => rw [List.drop_of_length_le (by have := hb rfl; omega)]; rfl
  | m + 1, i, f + 1, b, hi, hf, hb => by
    have hi' : i < x.length := by omega
    rw [bosketref15_Splits_l1.eq_2, if_pos (by omega), Option.bind_some]
    cases b with
    | false => rfl
    | true =>
      have hi2 : i < ts.length := by have := hb rfl; omega
      rw [if_pos rfl, if_pos ⟨by omega, by omega⟩, if_pos ⟨by omega, by omega⟩, lget_lt _ i hi', lget_lt _ i hi2, w6 (by omega) (by omega), List.drop_eq_getElem_cons hi', List.drop_eq_getElem_cons hi2, Bool.true_and]
      have ih := rspl_l1 ts x hz m (i + 1) f (decide (x[i] = ts[i])) (by omega) (by omega) (fun _ => hb rfl)
      have e : decide (x[i] :: x.drop (i + 1) = ts[i] :: ts.drop (i + 1)) = (decide (x[i] = ts[i]) && decide (x.drop (i + 1) = ts.drop (i + 1))) := by
        rw [Bool.eq_iff_iff, decide_eq_true_iff, Bool.and_eq_true, decide_eq_true_iff, decide_eq_true_iff, List.cons.injEq]
      rw [e]; exact_mod_cast ih
theorem rspl_l4 (bl : Int) (ts : List ByteArray) (t : List S96 × Int × Bool) (hz : t.1.length ≤ 1000) : ∀ (m i fuel : Nat) (a : List ByteArray), i + m = t.1.length → m < fuel → a.length ≤ i → bosketref15_Splits_l4 2000 bl ts t fuel a (i : Int) = bosketref15_Splits_c2 2000 ts t (a ++ own bl (t.1.drop i))
  | 0, i, f + 1, a, hi, _, _ => by
    rw [bosketref15_Splits_l4.eq_2, if_neg (by omega), List.drop_of_length_le (by omega), own, List.append_nil]
  | m + 1, i, f + 1, a, hi, hf, ha => by
    have hi' : i < t.1.length := by omega
    rw [bosketref15_Splits_l4.eq_2, if_pos (by omega), if_pos ⟨by omega, by omega⟩, lget_lt _ i hi', List.drop_eq_getElem_cons hi']
    unfold bosketref15_Splits_c3
    rw [w6 (by omega) (by omega)]
    by_cases b : t.1[i].f0 = bl
    · rw [if_neg (by simpa using b), own, if_pos b]
      have ih := rspl_l4 bl ts t hz m (i + 1) f a (by omega) (by omega) (by omega)
      exact_mod_cast ih
    · rw [if_pos b, if_pos ⟨by omega, by omega⟩, if_pos (by simp; omega), own, if_neg b]
      have ih := rspl_l4 bl ts t hz m (i + 1) f (a ++ [t.1[i].f1]) (by omega) (by omega) (by simp; omega)
      rw [List.append_assoc] at ih
      exact_mod_cast ih
theorem spl_ex {p0 : S30} (hb : Bytes p0) (bl : Int) (s : ByteArray) (hz : s.size ≤ 1000) (ts : List ByteArray) (hz2 : ts.length ≤ 1000) : ∃ b, fuse_Splits 2000 p0 bl s ts = some b ∧ bosketref15_Splits 2000 p0 bl s ts = some b := by
  obtain ⟨L, pos, ok, e1, e2, e3⟩ := all_l hb s hz 2000 0 [] (by omega) (by omega) (by simp)
  have f1 : munch_All 2000 p0 s = some (L, (pos : Int), if ok then 0 else 7) := by
    unfold munch_All; rw [if_neg (by omega)]; exact e1
  have f2 : bosketref12_All 2000 p0 s = some (L, (pos : Int), ok) := e2
  refine ⟨ok && decide (own bl L = ts), ?_, ?_⟩
  · unfold fuse_Splits
    rw [f1, Option.bind_some]
    cases ok with
    | false => rfl
    | true =>
      have := spl_l2 bl ts (L, (pos : Int), 0) (by show L.length ≤ 1000; omega) hz2 L.length 0 2000 0 (by show 0 + L.length = L.length; omega) (by omega) (by omega)
      rw [Int.natCast_zero, List.drop_zero, List.drop_zero] at this
      rw [if_neg (by simp), Bool.true_and]; exact this
  · unfold bosketref15_Splits
    rw [f2, Option.bind_some]
    have := rspl_l4 bl ts (L, (pos : Int), ok) (by show L.length ≤ 1000; omega) L.length 0 2000 [] (by show 0 + L.length = L.length; omega) (by omega) (by simp)
    rw [Int.natCast_zero, List.drop_zero, List.nil_append] at this
    rw [this]
    unfold bosketref15_Splits_c2
    have hl := own_len bl L
    have key : ∀ b : Bool, (b = true → (own bl L).length = ts.length) → bosketref15_Splits_l1 2000 ts (own bl L) 2000 b 0 = some (b && decide (own bl L = ts)) := by
      intro b hbt
      have := rspl_l1 ts (own bl L) (by omega) (own bl L).length 0 2000 b (by omega) (by omega) hbt
      rw [Int.natCast_zero, List.drop_zero, List.drop_zero] at this
      exact this
    cases ok with
    | false =>
      rw [if_neg (show ¬ ((L, (pos : Int), false).2.2 = true) from Bool.noConfusion), Option.bind_some]
      exact key false (fun h => by cases h)
    | true =>
      rw [if_pos rfl, Option.bind_some]
      refine (key _ (fun h => by have h' : ((own bl L).length : Int) = (ts.length : Int) := of_decide_eq_true h; omega)).trans ?_
      congr 1
      rw [Bool.eq_iff_iff, Bool.and_eq_true, decide_eq_true_iff, Bool.and_eq_true, decide_eq_true_iff]
      constructor
      · rintro ⟨_, h⟩; exact ⟨rfl, h⟩
      · rintro ⟨_, h⟩; exact ⟨by rw [h], h⟩
theorem join_l (ts : List ByteArray) (g : List Bool) (hn : ts.length ≤ 8) (ht : ∀ x ∈ ts, x.size ≤ 8) : ∀ (m i fuel : Nat) (a : ByteArray), i + m = ts.length → m < fuel → a.size ≤ 9 * i →
    ∃ s : ByteArray, fuse_Join_l2 2000 ts g fuel (ints a) (i : Int) = some s ∧ bosketref15_Join_l2 2000 ts g fuel a (i : Int) = some s ∧ s.size ≤ 72
  | 0, i, f + 1, a, hi, _, ha => by
    rw [fuse_Join_l2.eq_2, bosketref15_Join_l2.eq_2, if_neg (by omega), if_neg (by omega)]
    exact ⟨a, by rw [fuse_Join_c0, strOf_ints], rfl, by omega⟩
  | m + 1, i, f + 1, a, hi, hf, ha => by
    have hi' : i < ts.length := by omega
    have hs := ht _ (List.getElem_mem hi')
    have es : ints a ++ ts[i].data.toList.map (fun b => (b.toNat : Int)) = ints (a ++ ts[i]) := (ints_append _ _).symm
    have es2 : ints (a ++ ts[i]) ++ ([(32 : Int)] : List Int) = ints (a ++ ts[i] ++ ByteArray.mk #[32]) := by
      show ints (a ++ ts[i]) ++ ints (ByteArray.mk #[32]) = _
      rw [← ints_append]
    have z1 : (a ++ ts[i]).size = a.size + ts[i].size := ByteArray.size_append
    have z3 : (ByteArray.mk #[32]).size = 1 := rfl
    have z2 : (a ++ ts[i] ++ ByteArray.mk #[32]).size = a.size + ts[i].size + 1 := by rw [ByteArray.size_append, z1, z3]
    have c1 : (i : Int) < (ts.length : Int) := by omega
    have c2 : 0 ≤ (i : Int) ∧ (i : Int) < (ts.length : Int) := ⟨by omega, c1⟩
    have c3 : (ints (a ++ ts[i])).length * 1 ≤ 140737488355328 := by rw [ints_length]; omega
    have c4 : a.size + ts[i].size ≤ 9223372036854775807 := by omega
    rw [fuse_Join_l2.eq_2, bosketref15_Join_l2.eq_2]
    simp only [if_pos c1, if_pos c2]
    rw [lget_lt _ i hi', es]
    simp only [if_pos c3, if_pos c4]
    rw [es2, w6 (x := (i : Int) + 1) (by omega) (by omega), w6 (x := (ts.length : Int) - 1) (by omega) (by omega)]
    have i1 := join_l ts g hn ht m (i + 1) f (a ++ ts[i] ++ ByteArray.mk #[32]) (by omega) (by omega) (by omega)
    have i2 := join_l ts g hn ht m (i + 1) f (a ++ ts[i]) (by omega) (by omega) (by omega)
    unfold fuse_Join_c1 bosketref15_Join_c1
    rw [w6 (x := (i : Int) + 1) (by omega) (by omega)]
    by_cases c : (i : Int) < (g.length : Int)
    · have gg : 0 ≤ (i : Int) ∧ (i : Int) < (g.length : Int) := ⟨by omega, c⟩
      by_cases q : (i : Int) + 1 < (ts.length : Int)
      · have q' : (i : Int) < (ts.length : Int) - 1 := by omega
        simp only [if_pos c, if_pos gg, if_pos q]
        cases hb : lget g (i : Int) with
        | true =>
          rw [if_pos rfl, Option.bind_some, if_pos (decide_eq_true q'), Option.bind_some, if_pos rfl, if_pos (by rw [ints_length]; omega), if_pos (by omega)]
          exact_mod_cast i1
        | false =>
          rw [if_neg (by decide), Option.bind_some, if_neg (by decide), Option.bind_some, if_neg (by decide)]
          exact_mod_cast i2
      · have q' : ¬ (i : Int) < (ts.length : Int) - 1 := by omega
        simp only [if_pos c, if_pos gg, if_neg q]
        cases hb : lget g (i : Int) with
        | true =>
          rw [if_pos rfl, Option.bind_some, if_neg (by simpa using q'), Option.bind_some, if_neg (by decide)]
          exact_mod_cast i2
        | false =>
          rw [if_neg (by decide), Option.bind_some, if_neg (by decide), Option.bind_some, if_neg (by decide)]
          exact_mod_cast i2
    · simp only [if_neg c]
      have : (if (i : Int) + 1 < (ts.length : Int) then some false else some false) = some false := by split <;> rfl
      rw [this, Option.bind_some, if_neg (by decide), Option.bind_some, if_neg (by decide)]
      exact_mod_cast i2
theorem join_ex (ts : List ByteArray) (hn : ts.length ≤ 8) (ht : ∀ x ∈ ts, x.size ≤ 8) (g : List Bool) : ∃ s : ByteArray, fuse_Join 2000 ts g = some s ∧ bosketref15_Join 2000 ts g = some s ∧ s.size ≤ 72 := by
  have := join_l ts g hn ht ts.length 0 2000 (ByteArray.mk #[]) (by omega) (by omega) (by show 0 ≤ _; omega)
  rw [Int.natCast_zero] at this
  exact this
end Go.Avl.T5
/- fuse: passes over the gaps; what comes out. -/
namespace Go.Avl.T5
open Go Go.RowKit Go.Proofs Go.Avl
set_option linter.all false
set_option maxRecDepth 10000

def cnt (x : List Bool) : Nat := x.count true
theorem cnt_le (x : List Bool) : cnt x ≤ x.length := List.count_le_length
theorem cnt_off : ∀ (x : List Bool) (i : Nat), x[i]? = some true → cnt (x.set i false) + 1 = cnt x
  | [], _, h => by simp at h
  | b :: x, 0, h => by simp at h; subst h; simp [cnt]
  | b :: x, i + 1, h => by
    have := cnt_off x i (by simpa using h)
    simp only [cnt, List.set_cons_succ, List.count_cons] at this ⊢
    omega
def ps (sp : List Bool → Bool) : Nat → Nat → List Bool → Bool → List Bool × Bool
  | 0, _, g, b => (g, b)
  | m + 1, i, g, b => if lget g (i : Int) = true ∧ sp (lset g (i : Int) false) = true then ps sp m (i + 1) (lset g (i : Int) false) true else ps sp m (i + 1) g b
theorem ps_len (sp : List Bool → Bool) : ∀ (m i : Nat) (g : List Bool) (b : Bool), (ps sp m i g b).1.length = g.length
  | 0, _, _, _ => rfl
  | m + 1, i, g, b => by
    rw [ps]
    split
    · rw [ps_len sp m (i + 1), lset_len]
    · exact ps_len sp m (i + 1) g b
theorem ps_sp (sp : List Bool → Bool) : ∀ (m i : Nat) (g : List Bool) (b : Bool), sp g = true → sp (ps sp m i g b).1 = true
  | 0, _, _, _, h => h
  | m + 1, i, g, b, h => by
    rw [ps]
    split
    · next q => exact ps_sp sp m (i + 1) _ _ q.2
    · exact ps_sp sp m (i + 1) g b h
theorem ps_true (sp : List Bool → Bool) : ∀ (m i : Nat) (g : List Bool), (ps sp m i g true).2 = true
  | 0, _, _ => rfl
  | m + 1, i, g => by
    rw [ps]
    split
    · exact ps_true sp m (i + 1) _
    · exact ps_true sp m (i + 1) g
theorem ps_cnt (sp : List Bool → Bool) : ∀ (m i : Nat) (g : List Bool) (b : Bool), i + m ≤ g.length → cnt (ps sp m i g b).1 ≤ cnt g ∧ (b = false → (ps sp m i g b).2 = true → cnt (ps sp m i g b).1 < cnt g)
  | 0, _, _, b, _ => ⟨Nat.le_refl _, fun h1 h2 => by rw [ps] at h2; rw [h1] at h2; cases h2⟩
  | m + 1, i, g, b, h => by
    rw [ps]
    split
    · next q =>
      have hi : i < g.length := by omega
      have c := cnt_off g i (by
        have := q.1
        rw [lget_lt g i hi] at this
        rw [List.getElem?_eq_getElem hi, this])
      have e : lset g (i : Int) false = g.set i false := rfl
      have ih := (ps_cnt sp m (i + 1) (lset g (i : Int) false) true (by rw [lset_len]; omega)).1
      rw [e] at ih ⊢
      exact ⟨by omega, fun _ _ => by omega⟩
    · exact ps_cnt sp m (i + 1) g b (by omega)
theorem ps_none (sp : List Bool → Bool) : ∀ (m i : Nat) (g : List Bool) (b : Bool), (ps sp m i g b).2 = false → (ps sp m i g b).1 = g ∧ ∀ j : Nat, i ≤ j → j < i + m → ¬ (lget g (j : Int) = true ∧ sp (lset g (j : Int) false) = true)
  | 0, _, _, _, _ => ⟨rfl, fun j h1 h2 => by omega⟩
  | m + 1, i, g, b, h => by
    rw [ps] at h ⊢
    split at h
    · rw [ps_true] at h; cases h
    · next q =>
      rw [if_neg q]
      obtain ⟨h1, h2⟩ := ps_none sp m (i + 1) g b h
      refine ⟨h1, fun j k1 k2 => ?_⟩
      by_cases e : j = i
      · rw [e]; exact q
      · exact h2 j (by omega) (by omega)
theorem lset_back (g : List Bool) (i : Nat) (h : i < g.length) (hb : lget g (i : Int) = true) : lset (lset g (i : Int) false) (i : Int) true = g := by
  unfold lset
  rw [Int.toNat_natCast, List.set_set]
  rw [lget_lt g i h] at hb
  conv => lhs; rw [← hb]
  exact List.set_getElem_self h
/-- What joining and splitting answer, for all gaps. -/
def JS (p0 : S30) (bl : Int) (ts : List ByteArray) (J : List Bool → ByteArray) (sp : List Bool → Bool) : Prop :=
  ∀ g, fuse_Join 2000 ts g = some (J g) ∧ bosketref15_Join 2000 ts g = some (J g) ∧ fuse_Splits 2000 p0 bl (J g) ts = some (sp g) ∧ bosketref15_Splits 2000 p0 bl (J g) ts = some (sp g)
theorem JS_ex {p0 : S30} (hb : Bytes p0) (bl : Int) (ts : List ByteArray) (hn : ts.length ≤ 8) (ht : ∀ x ∈ ts, x.size ≤ 8) : ∃ J sp, JS p0 bl ts J sp := by
  obtain ⟨J, hJ⟩ := Classical.axiomOfChoice (fun g => join_ex ts hn ht g)
  obtain ⟨sp, hs⟩ := Classical.axiomOfChoice (fun g => spl_ex hb bl (J g) (by have := (hJ g).2.2; omega) ts (by omega))
  exact ⟨J, sp, fun g => ⟨(hJ g).1, (hJ g).2.1, (hs g).1, (hs g).2⟩⟩
theorem gaps_l2 {p0 : S30} {bl : Int} {ts : List ByteArray} {J : List Bool → ByteArray} {sp : List Bool → Bool} (h : JS p0 bl ts J sp) (rec15 : List Bool → Bool → Option (List Bool × Int)) (x13 : List Bool) (hz : x13.length ≤ 1000) : ∀ (m i fuel : Nat) (g : List Bool) (b : Bool), i + m = x13.length → m < fuel → g.length = x13.length →
    fuse_Gaps_l2 2000 rec15 p0 bl ts x13 fuel g b (i : Int) = rec15 (ps sp m i g b).1 (ps sp m i g b).2
  | 0, i, f + 1, g, b, hi, _, hg => by
    rw [fuse_Gaps_l2.eq_2, if_neg (by omega)]; rfl
  | m + 1, i, f + 1, g, b, hi, hf, hg => by
    have c1 : 0 ≤ (i : Int) ∧ (i : Int) < (g.length : Int) := ⟨by omega, by omega⟩
    have c2 : 0 ≤ (i : Int) ∧ (i : Int) < ((lset g (i : Int) false).length : Int) := ⟨by omega, by rw [lset_len]; omega⟩
    have i1 := gaps_l2 h rec15 x13 hz m (i + 1) f (lset g (i : Int) false) true (by omega) (by omega) (by rw [lset_len, hg])
    have i2 := gaps_l2 h rec15 x13 hz m (i + 1) f g b (by omega) (by omega) hg
    obtain ⟨j1, _, j3, _⟩ := h (lset g (i : Int) false)
    rw [fuse_Gaps_l2.eq_2, if_pos (by omega), if_pos c1, ps]
    unfold fuse_Gaps_c1
    rw [w6 (by omega) (by omega)]
    cases a : lget g (i : Int) with
    | false =>
      rw [if_pos (by decide), if_neg (by rintro ⟨q, _⟩; cases q)]; exact_mod_cast i2
    | true =>
      rw [if_neg (by decide), if_pos c1, j1, Option.bind_some, j3, Option.bind_some]
      cases q : sp (lset g (i : Int) false) with
      | true => rw [if_pos rfl, if_pos ⟨rfl, rfl⟩]; exact_mod_cast i1
      | false =>
        rw [if_neg (by decide), if_pos c2, if_neg (by rintro ⟨_, q⟩; cases q), lset_back g i (by omega) a]; exact_mod_cast i2
theorem rgaps_l2 {p0 : S30} {bl : Int} {ts : List ByteArray} {J : List Bool → ByteArray} {sp : List Bool → Bool} (h : JS p0 bl ts J sp) (rec15 : List Bool → Bool → Option (List Bool × Bool)) (n : Nat) (hz : n ≤ 1000) : ∀ (m i fuel : Nat) (g : List Bool) (b : Bool), i + m = n → m < fuel → g.length = n →
    bosketref15_Gaps_l2 2000 rec15 p0 bl ts fuel g b (i : Int) = rec15 (ps sp m i g b).1 (ps sp m i g b).2
  | 0, i, f + 1, g, b, hi, _, hg => by
    rw [bosketref15_Gaps_l2.eq_2, if_neg (by omega)]; rfl
  | m + 1, i, f + 1, g, b, hi, hf, hg => by
    have c1 : 0 ≤ (i : Int) ∧ (i : Int) < (g.length : Int) := ⟨by omega, by omega⟩
    have i1 := rgaps_l2 h rec15 n hz m (i + 1) f (lset g (i : Int) false) true (by omega) (by omega) (by rw [lset_len, hg])
    have i2 := rgaps_l2 h rec15 n hz m (i + 1) f g b (by omega) (by omega) hg
    obtain ⟨_, j1, _, j3⟩ := h (lset g (i : Int) false)
    rw [bosketref15_Gaps_l2.eq_2, List.nil_append, if_pos (by omega), if_pos (by omega), if_pos c1, if_pos c1, ps]
    unfold bosketref15_Gaps_c1
    rw [w6 (by omega) (by omega)]
    cases a : lget g (i : Int) with
    | false =>
      rw [if_neg (by decide), Option.bind_some, if_neg (by decide), if_neg (by rintro ⟨q, _⟩; cases q)]; exact_mod_cast i2
    | true =>
      rw [if_pos rfl, j1, Option.bind_some, j3, Option.bind_some, Option.bind_some]
      cases q : sp (lset g (i : Int) false) with
      | true => rw [if_pos rfl, if_pos ⟨rfl, rfl⟩]; exact_mod_cast i1
      | false =>
        rw [if_neg (by decide), if_neg (by rintro ⟨_, q⟩; cases q)]; exact_mod_cast i2
/-- No gap is too much. -/
def Least (sp : List Bool → Bool) (g : List Bool) : Prop := ∀ j : Nat, j < g.length → ¬ (lget g (j : Int) = true ∧ sp (lset g (j : Int) false) = true)
theorem gaps_l3 {p0 : S30} {bl : Int} {ts : List ByteArray} {J : List Bool → ByteArray} {sp : List Bool → Bool} (h : JS p0 bl ts J sp) : ∀ (fuel : Nat) (g : List Bool), g.length ≤ 1000 → cnt g + 1 < fuel → sp g = true →
    ∃ L, fuse_Gaps_l3 2000 p0 bl ts fuel g true = some (L, 0) ∧ bosketref15_Gaps_l3 2000 p0 bl ts fuel g true = some (L, true) ∧ L.length = g.length ∧ sp L = true ∧ Least sp L
  | 0, g, _, hc, _ => by omega
  | f + 1, g, hg, hc, hs => by
    have a1 := gaps_l2 h (fuse_Gaps_l3 2000 p0 bl ts f) g hg g.length 0 2000 g false (by omega) (by omega) rfl
    have a2 := rgaps_l2 h (bosketref15_Gaps_l3 2000 p0 bl ts f) g.length hg g.length 0 2000 g false (by omega) (by omega) rfl
    rw [Int.natCast_zero] at a1 a2
    rw [fuse_Gaps_l3.eq_2, bosketref15_Gaps_l3.eq_2, if_pos rfl, if_pos rfl, a1, a2]
    have hl := ps_len sp g.length 0 g false
    have hsp := ps_sp sp g.length 0 g false hs
    have hcn := ps_cnt sp g.length 0 g false (by omega)
    have hno := ps_none sp g.length 0 g false
    generalize ps sp g.length 0 g false = r at *
    obtain ⟨g', b'⟩ := r
    cases b' with
    | true =>
      have := hcn.2 rfl rfl
      obtain ⟨L, l1, l2, l3, l4, l5⟩ := gaps_l3 h f g' (by simp only [] at hl; omega) (by simp only [] at this; omega) hsp
      exact ⟨L, l1, l2, by rw [l3]; exact hl, l4, l5⟩
    | false =>
      obtain ⟨k1, k2⟩ := hno rfl
      obtain rfl : g' = g := k1
      obtain ⟨f, rfl⟩ : ∃ f', f = f' + 1 := ⟨f - 1, by omega⟩
      refine ⟨g', by rw [fuse_Gaps_l3.eq_2, if_neg (show ¬ (g', false).2 = true from Bool.noConfusion)]; rfl, by rw [bosketref15_Gaps_l3.eq_2, if_neg (show ¬ (g', false).2 = true from Bool.noConfusion)]; rfl, rfl, hs, fun j hj => k2 j (by omega) (by omega)⟩
theorem fill_l (p0 : S30) (bl : Int) (ts : List ByteArray) (n : Nat) (hn : n ≤ 1000) (e : (max (w64 ((ts.length : Int) - (1 : Int))) (0 : Int)).toNat = n) : ∀ (m i fuel : Nat), i + m = n → m < fuel → fuse_Gaps_l5 2000 p0 bl ts fuel (List.replicate i true ++ List.replicate m false) (i : Int) = fuse_Gaps_c4 2000 p0 bl ts (List.replicate n true)
  | 0, i, f + 1, hi, _ => by
    rw [fuse_Gaps_l5.eq_2, e, List.length_replicate, if_neg (by omega), List.replicate_zero, List.append_nil, show i = n by omega]
  | m + 1, i, f + 1, hi, hf => by
    have ih := fill_l p0 bl ts n hn e m (i + 1) f (by omega) (by omega)
    have hl : (List.replicate i true ++ List.replicate (m + 1) false).length = n := by simp; omega
    have hset : lset (List.replicate i true ++ List.replicate (m + 1) false) (i : Int) true = List.replicate (i + 1) true ++ List.replicate m false := by
      unfold lset
      rw [Int.toNat_natCast, List.set_append_right _ _ (by simp), List.length_replicate, Nat.sub_self, List.replicate_succ, List.set_cons_zero, List.replicate_succ' (n := i)]
      simp
    rw [fuse_Gaps_l5.eq_2, e, List.length_replicate, if_pos (by omega), if_pos ⟨by omega, by omega⟩, hset, w6 (by omega) (by omega)]
    exact_mod_cast ih
theorem rfill_l (p0 : S30) (bl : Int) (ts : List ByteArray) (hn : ts.length ≤ 8) : ∀ (m i fuel : Nat), i + m = ts.length - 1 → m < fuel → bosketref15_Gaps_l5 2000 p0 bl ts fuel (List.replicate i true) ((i : Int) + 1) = bosketref15_Gaps_c4 2000 p0 bl ts (List.replicate (ts.length - 1) true)
  | 0, i, f + 1, hi, _ => by
    rw [bosketref15_Gaps_l5.eq_2, if_neg (by omega), show i = ts.length - 1 by omega]
  | m + 1, i, f + 1, hi, hf => by
    have ih := rfill_l p0 bl ts hn m (i + 1) f (by omega) (by omega)
    rw [bosketref15_Gaps_l5.eq_2, if_pos (by omega), ← List.replicate_succ', if_pos (by simp; omega), w6 (by omega) (by omega)]
    exact_mod_cast ih
theorem gaps_ex {p0 : S30} (hb : Bytes p0) (bl : Int) (ts : List ByteArray) (hn : ts.length ≤ 8) (ht : ∀ x ∈ ts, x.size ≤ 8) : ∃ J sp, JS p0 bl ts J sp ∧
    ((fuse_Gaps 2000 p0 bl ts = some ([], 7) ∧ bosketref15_Gaps 2000 p0 bl ts = some ([], false)) ∨
     ∃ L, fuse_Gaps 2000 p0 bl ts = some (L, 0) ∧ bosketref15_Gaps 2000 p0 bl ts = some (L, true) ∧ L.length = ts.length - 1 ∧ sp L = true ∧ Least sp L) := by
  obtain ⟨J, sp, h⟩ := JS_ex hb bl ts hn ht
  refine ⟨J, sp, h, ?_⟩
  have e : (max (w64 ((ts.length : Int) - (1 : Int))) (0 : Int)) = ((ts.length - 1 : Nat) : Int) := by
    rw [w6 (by omega) (by omega)]; omega
  have e' : (max (w64 ((ts.length : Int) - (1 : Int))) (0 : Int)).toNat = ts.length - 1 := by rw [e, Int.toNat_natCast]
  have f1 := fill_l p0 bl ts (ts.length - 1) (by omega) e' (ts.length - 1) 0 2000 (by omega) (by omega)
  have f2 := rfill_l p0 bl ts hn (ts.length - 1) 0 2000 (by omega) (by omega)
  rw [Int.natCast_zero, List.replicate_zero] at f1 f2
  have g1 : fuse_Gaps 2000 p0 bl ts = fuse_Gaps_c4 2000 p0 bl ts (List.replicate (ts.length - 1) true) := by
    unfold fuse_Gaps
    rw [if_neg (by omega), e', e, if_pos ⟨by omega, by omega, by omega⟩]
    exact f1
  have g2 : bosketref15_Gaps 2000 p0 bl ts = bosketref15_Gaps_c4 2000 p0 bl ts (List.replicate (ts.length - 1) true) := by
    unfold bosketref15_Gaps
    exact f2
  rw [g1, g2]
  unfold fuse_Gaps_c4 bosketref15_Gaps_c4
  obtain ⟨j1, j2, j3, j4⟩ := h (List.replicate (ts.length - 1) true)
  rw [j1, Option.bind_some, j2, Option.bind_some, j3, Option.bind_some, j4, Option.bind_some]
  cases q : sp (List.replicate (ts.length - 1) true) with
  | false => left; exact ⟨rfl, rfl⟩
  | true =>
    right
    have hc := cnt_le (List.replicate (ts.length - 1) true)
    rw [List.length_replicate] at hc
    obtain ⟨L, l1, l2, l3, l4, l5⟩ := gaps_l3 h 2000 (List.replicate (ts.length - 1) true) (by simp; omega) (by omega) q
    rw [List.length_replicate] at l3
    refine ⟨L, ?_, ?_, l3, l4, l5⟩
    · rw [if_neg (by decide)]; exact l1
    · rw [if_neg (by decide)]; exact l2
theorem few_l (ts : List ByteArray) (hn : ts.length ≤ 8) : ∀ (m i fuel : Nat), i + m = ts.length → m < fuel → ∃ b, bosketlaw15_few_l1 2000 ts fuel (i : Int) = some b ∧ (b = true → ∀ x ∈ ts.drop i, x.size ≤ 8)
  | 0, i, f + 1, hi, _ => by
    rw [bosketlaw15_few_l1.eq_2, if_neg (by omega), List.drop_of_length_le (by omega)]
    exact ⟨true, rfl, fun _ x hx => by cases hx⟩
  | m + 1, i, f + 1, hi, hf => by
    have hi' : i < ts.length := by omega
    obtain ⟨b, b1, b2⟩ := few_l ts hn m (i + 1) f (by omega) (by omega)
    rw [bosketlaw15_few_l1.eq_2, if_pos (by omega), if_pos ⟨by omega, by omega⟩, lget_lt _ i hi', w6 (by omega) (by omega)]
    by_cases a : (8 : Int) < (ts[i].size : Int)
    · rw [if_pos a]; exact ⟨false, rfl, fun h => by cases h⟩
    · rw [if_neg a]
      refine ⟨b, by exact_mod_cast b1, fun hb x hx => ?_⟩
      rw [List.drop_eq_getElem_cons hi'] at hx
      rcases List.mem_cons.1 hx with rfl | hx
      · omega
      · exact b2 hb x hx
theorem few_ex (ts : List ByteArray) : ∃ b, bosketlaw15_few 2000 ts = some b ∧ (b = true → ts.length ≤ 8 ∧ ∀ x ∈ ts, x.size ≤ 8) := by
  unfold bosketlaw15_few
  by_cases a : (8 : Int) < (ts.length : Int)
  · rw [if_pos a]; exact ⟨false, rfl, fun h => by cases h⟩
  · obtain ⟨b, b1, b2⟩ := few_l ts (by omega) ts.length 0 2000 (by omega) (by omega)
    rw [Int.natCast_zero] at b1
    rw [if_neg a]
    exact ⟨b, b1, fun hb => ⟨by omega, b2 hb⟩⟩
end Go.Avl.T5
/- FuseNeeds: the plain law. -/
namespace Go.Avl.T5
open Go Go.RowKit Go.Proofs Go.Avl
set_option linter.all false
set_option maxRecDepth 10000

theorem awake15' : bosketlaw15_awake 2000 = some true := by decide +kernel
theorem needs_l {p0 : S30} {bl : Int} {ts : List ByteArray} {J : List Bool → ByteArray} {sp : List Bool → Bool} (h : JS p0 bl ts J sp) (L : List Bool) (e : Int) (hz : L.length ≤ 1000) (hl : Least sp L) : ∀ (m i fuel : Nat), i + m = L.length → m < fuel → bosketlaw15_FuseNeeds_l1 2000 p0 bl ts (L, e) fuel (i : Int) = some true
  | 0, i, f + 1, hi, _ => by
    rw [bosketlaw15_FuseNeeds_l1.eq_2, if_neg (by show ¬ (i : Int) < (L.length : Int); omega)]; rfl
  | m + 1, i, f + 1, hi, hf => by
    have ih := needs_l h L e hz hl m (i + 1) f (by omega) (by omega)
    obtain ⟨j1, _, j3, _⟩ := h (lset L (i : Int) false)
    have hn := hl i (by omega)
    have c : 0 ≤ (i : Int) ∧ (i : Int) < (L.length : Int) := ⟨by omega, by omega⟩
    rw [bosketlaw15_FuseNeeds_l1.eq_2, List.nil_append, if_pos c.2, if_pos (by show L.length * 1 ≤ _; omega), if_pos c, if_pos c, w6 (by omega) (by omega)]
    show (Option.bind (if lget L (i : Int) = true then (fuse_Join 2000 ts (lset L (i : Int) false)).bind fun t35 => (fuse_Splits 2000 p0 bl t35 ts).bind fun t36 => some t36 else some false) _) = _
    rw [j1, Option.bind_some, j3, Option.bind_some]
    cases a : lget L (i : Int) with
    | false => rw [if_neg (by decide), Option.bind_some, if_neg (by decide)]; exact_mod_cast ih
    | true =>
      cases q : sp (lset L (i : Int) false) with
      | true => exact absurd ⟨a, q⟩ hn
      | false => rw [if_pos rfl, Option.bind_some, if_neg (by decide)]; exact_mod_cast ih
theorem bosketlaw15_FuseNeeds_true (a0 : S30) (a1 : Int) (a2 : (List ByteArray)) (h0 : wf30 a0) (h1 : wf3 a1) (h2 : wf53 a2) : ∃ k, bosketlaw15_FuseNeeds k a0 a1 a2 = some true := by
  have hb := bytes_of h0
  refine ⟨2000, ?_⟩
  unfold bosketlaw15_FuseNeeds
  rw [awake15', Option.bind_some, if_neg (by decide)]
  obtain ⟨sm, s1, s2⟩ := small_some a0 (Nat.le_refl 2000)
  rw [s1, Option.bind_some]
  cases sm with
  | false => rw [if_pos (by decide), Option.bind_some, if_pos rfl]
  | true =>
    obtain ⟨n1, n2, n3⟩ := s2 rfl
    obtain ⟨rt, hr⟩ := right_some hb (Nat.le_refl 2000) n1 n3
    rw [if_neg (by decide), hr, Option.bind_some]
    cases rt with
    | false => rw [if_pos (by decide), Option.bind_some, if_pos rfl]
    | true =>
      obtain ⟨fw, f1, f2⟩ := few_ex a2
      rw [if_neg (by decide), f1, Option.bind_some, Option.bind_some]
      cases fw with
      | false => rfl
      | true =>
        obtain ⟨k1, k2⟩ := f2 rfl
        obtain ⟨J, sp, hjs, ⟨q1, q2⟩ | ⟨L, q1, q2, q3, q4, q5⟩⟩ := gaps_ex hb a1 a2 k1 k2
        · rw [if_neg (by decide), q1, Option.bind_some, if_pos (by decide)]; rfl
        · have e : (max (w64 ((a2.length : Int) - (1 : Int))) (0 : Int)) = ((a2.length - 1 : Nat) : Int) := by
            rw [w6 (by omega) (by omega)]; omega
          obtain ⟨j1, _, j3, _⟩ := hjs L
          have := needs_l hjs L 0 (by omega) q5 L.length 0 2000 (by omega) (by omega)
          rw [Int.natCast_zero] at this
          rw [if_neg (by decide), q1, Option.bind_some, if_neg (show ¬ ((L, (0 : Int)).2 ≠ 0) from fun h => h rfl), e, if_neg (show ¬ ((L.length : Int) ≠ ((a2.length - 1 : Nat) : Int)) by omega), j1, Option.bind_some, j3, Option.bind_some, q4, Option.bind_some, if_neg (by decide)]
          exact this
end Go.Avl.T5
