/- What the machines' functions of laws 12 answer. -/
import Derived.Test.YthfongdjcpmpfaaAW
import Derived.Test.YthfongdjcpmpfaaAf3
import Derived.Test.YthfongdjcpmpfaaAf4
namespace Go.Avl.T1
open Go Go.RowKit Go.Proofs Go.Avl
set_option linter.unusedVariables false

theorem u8_of {n : Int} (h : (Lit.int .u8 n).wf = true) : 0 ≤ n ∧ n ≤ 255 := by
  simpa [Lit.wf, show IntKind.u8.min = 0 from rfl, show IntKind.u8.max = 255 from rfl] using h
def Bytes (p0 : S26) : Prop := ∀ c : Int, 0 ≤ vget p0.f0 c ∧ vget p0.f0 c ≤ 255
theorem bytes_of {p0 : S26} (h : wf26 p0) : Bytes p0 := by
  intro c
  have h1 := h.1
  by_cases hc : c.toNat < p0.f0.toList.length
  · have : vget p0.f0 c = p0.f0.toList[c.toNat] := by simp [vget, List.getD, List.getElem?_eq_getElem hc]
    rw [this]; exact u8_of (h1 _ (List.getElem_mem hc))
  · have : vget p0.f0 c = 0 := by
      have : p0.f0.toList[c.toNat]? = none := List.getElem?_eq_none (by omega)
      simp only [vget, List.getD, this]; rfl
    rw [this]; omega

def stp (p0 : S26) (s c : Int) : Int := if s < 0 ∨ (p0.f1.length : Int) ≤ s ∨ ((lget p0.f1 s).length : Int) ≤ vget p0.f0 c then -1 else lget (lget p0.f1 s) (vget p0.f0 c)
def mk (p0 : S26) (s : Int) : Int := if s < 0 ∨ (p0.f2.length : Int) ≤ s then -1 else lget p0.f2 s

theorem step_eq {p0 : S26} (hb : Bytes p0) (k : Nat) (s : Int) {c : Int} (h0 : 0 ≤ c) (h1 : c < 256) : dfa_Step k p0 s c = some (stp p0 s c) := by
  have hv := hb c
  have hw : w64 (vget p0.f0 c) = vget p0.f0 c := w64_id (by omega) (by omega)
  unfold dfa_Step stp
  rw [hw]
  by_cases a : s < 0
  · simp [a]
  · by_cases b : (p0.f1.length : Int) ≤ s
    · simp [a, b]
    · have g : 0 ≤ s ∧ s < (p0.f1.length : Int) := ⟨by omega, by omega⟩
      by_cases d : ((lget p0.f1 s).length : Int) ≤ vget p0.f0 c
      · simp [a, b, d, h0, h1, g]
      · simp [a, b, d, h0, h1, g, hv]
theorem rstep_eq {p0 : S26} (hb : Bytes p0) (k : Nat) (s : Int) {c : Int} (h0 : 0 ≤ c) (h1 : c < 256) : bosketref08_Step k p0 s c = some (stp p0 s c) := step_eq hb k s h0 h1
theorem mark_eq (p0 : S26) (k : Nat) (s : Int) : dfa_Mark k p0 s = some (mk p0 s) := by
  unfold dfa_Mark mk
  by_cases a : s < 0
  · simp [a]
  · by_cases b : (p0.f2.length : Int) ≤ s
    · simp [a, b]
    · simp [a, b]
theorem rmark_eq (p0 : S26) (k : Nat) (s : Int) : bosketref08_Mark k p0 s = some (mk p0 s) := mark_eq p0 k s

theorem byteAt_u8 (s : ByteArray) (i : Int) : 0 ≤ byteAt s i ∧ byteAt s i ≤ 255 := by
  unfold byteAt
  split
  · have := (s[i.toNat]).toNat_lt; omega
  · omega
theorem byteAt_extract (s : ByteArray) (i j x : Int) (h0 : 0 ≤ i) (h1 : i ≤ j) (h2 : j ≤ (s.size : Int)) (hx : 0 ≤ x) (hx1 : x < j - i) : byteAt (s.extract i.toNat j.toNat) x = byteAt s (i + x) := by
  have hs : (s.extract i.toNat j.toNat).size = j.toNat - i.toNat := by rw [ByteArray.size_extract]; omega
  unfold byteAt
  rw [dif_pos (by omega), dif_pos (by omega)]
  have : (i + x).toNat = i.toNat + x.toNat := by omega
  simp only [this]
  rw [ByteArray.getElem_extract]

/-- The state after so many bytes. -/
def run (p0 : S26) (s : ByteArray) (q p : Int) : Nat → Int
  | 0 => q
  | n + 1 => stp p0 (run p0 s q p n) (byteAt s (p + n))
theorem run_l {p0 : S26} (hb : Bytes p0) (k : Nat) (s t : ByteArray) (q p : Int) (ht : ∀ x : Int, 0 ≤ x → x < (t.size : Int) → byteAt t x = byteAt s (p + x)) (hz : t.size ≤ 1000000) : ∀ (m i : Nat), i ≤ t.size → t.size - i < m →
    bosketref08_Run_l1 k p0 t m (run p0 s q p i) (i : Int) = some (run p0 s q p t.size)
  | 0, i, _, h => by omega
  | m + 1, i, hi, h => by
    rw [bosketref08_Run_l1.eq_2]
    by_cases a : (i : Int) < (t.size : Int)
    · rw [if_pos a, if_pos ⟨by omega, a⟩]
      have hu := byteAt_u8 t i
      rw [w64_id (n := byteAt t i) (by omega) (by omega), rstep_eq hb k _ hu.1 (by omega), Option.bind_some, w64_id (by omega) (by omega)]
      have := run_l hb k s t q p ht hz m (i + 1) (by omega) (by omega)
      rw [run, ← ht i (by omega) a] at this
      simpa using this
    · rw [if_neg a, bosketref08_Run_c0]
      have : i = t.size := by omega
      rw [this]
theorem run_ext {p0 : S26} (hb : Bytes p0) (k : Nat) (s : ByteArray) (q i : Int) (n : Nat) (h0 : 0 ≤ i) (h2 : i + n ≤ (s.size : Int)) (hn : n < k) (hz : n ≤ 1000000) : bosketref08_Run k p0 q (s.extract i.toNat (i + n).toNat) = some (run p0 s q i n) := by
  have hs : (s.extract i.toNat (i + n).toNat).size = n := by rw [ByteArray.size_extract]; omega
  have := run_l hb k s (s.extract i.toNat (i + n).toNat) q i (fun x a b => byteAt_extract s i (i + n) x h0 (by omega) (by omega) a (by omega)) (by omega) k 0 (by omega) (by omega)
  rw [hs] at this
  exact this

/-- The longest accepted part among the first n. -/
def acc (p0 : S26) (s : ByteArray) (p : Int) : Nat → Int × Int
  | 0 => (-1, 0)
  | n + 1 => if 0 ≤ mk p0 (run p0 s 0 p (n + 1)) then (mk p0 (run p0 s 0 p (n + 1)), n + 1) else acc p0 s p n

theorem ref_l {p0 : S26} (hb : Bytes p0) (k : Nat) (s : ByteArray) (p : Int) (h0 : 0 ≤ p) (hz : s.size ≤ 1000) (hk : 2000 ≤ k) : ∀ (n m : Nat), p + n ≤ (s.size : Int) → n < m → bosketref12_Longest_l1 k p0 s p m (p + n) = some (acc p0 s p n)
  | 0, m + 1, _, _ => by
    rw [bosketref12_Longest_l1.eq_2, if_neg (by omega)]; rfl
  | n + 1, m + 1, h1, h => by
    rw [bosketref12_Longest_l1.eq_2, if_pos (by omega), if_pos ⟨by omega, by omega, by omega⟩, run_ext hb k s 0 p (n + 1) h0 h1 (by omega) (by omega), Option.bind_some, rmark_eq, Option.bind_some, acc]
    by_cases a : 0 ≤ mk p0 (run p0 s 0 p (n + 1))
    · rw [if_pos a, if_pos a, w64_id (by omega) (by omega)]
      congr 2; omega
    · rw [if_neg a, if_neg a, w64_id (by omega) (by omega)]
      have := ref_l hb k s p h0 hz hk n m (by omega) (by omega)
      rw [← this]; congr 1; omega
  | _, 0, _, h => by omega

theorem stp_neg (p0 : S26) (c : Int) : stp p0 (-1) c = -1 := by simp [stp]
theorem run_dead {p0 : S26} {s : ByteArray} {q p : Int} {i : Nat} (h : run p0 s q p i = -1) : ∀ n, run p0 s q p (i + n) = -1
  | 0 => h
  | n + 1 => by rw [← Nat.add_assoc, run, run_dead h n, stp_neg]
theorem mk_neg (p0 : S26) : mk p0 (-1) = -1 := by simp [mk]
theorem acc_dead {p0 : S26} {s : ByteArray} {p : Int} {i : Nat} (h : run p0 s 0 p (i + 1) = -1) : ∀ n, acc p0 s p (i + n) = acc p0 s p i
  | 0 => rfl
  | n + 1 => by
    have : run p0 s 0 p (i + n + 1) = -1 := by rw [show i + n + 1 = i + 1 + n by omega]; exact run_dead h n
    rw [← Nat.add_assoc, acc, this, mk_neg, if_neg (by omega), acc_dead h n]

theorem longest_l {p0 : S26} (hb : Bytes p0) (k : Nat) (s : ByteArray) (p : Int) (h0 : 0 ≤ p) (hz : s.size ≤ 1000) (N : Nat) (hN : p + N = (s.size : Int)) : ∀ (m i : Nat), i ≤ N → N - i < m →
    munch_Longest_l2 k p0 s p m (acc p0 s p i).1 (acc p0 s p i).2 (run p0 s 0 p i) (p + i) = some (acc p0 s p N)
  | 0, i, _, h => by omega
  | m + 1, i, hi, h => by
    rw [munch_Longest_l2.eq_2, if_pos (by omega), Option.bind_some]
    by_cases a : p + i < (s.size : Int)
    · rw [if_pos (by simpa using a), if_pos ⟨by omega, a⟩]
      have hu := byteAt_u8 s (p + i)
      rw [step_eq hb k _ hu.1 (by omega), Option.bind_some]
      have hr : run p0 s 0 p (i + 1) = stp p0 (run p0 s 0 p i) (byteAt s (p + i)) := rfl
      rw [← hr]
      by_cases d : run p0 s 0 p (i + 1) = -1
      · rw [if_pos d, munch_Longest_c0]
        have := acc_dead d (N - i)
        rw [show i + (N - i) = N by omega] at this
        rw [this]
      · rw [if_neg d, mark_eq, Option.bind_some]
        have ih := longest_l hb k s p h0 hz N hN m (i + 1) (by omega) (by omega)
        have e1 : p + ((i + 1 : Nat) : Int) = w64 (p + i + 1) := by rw [w64_id (by omega) (by omega)]; omega
        rw [e1] at ih
        by_cases b : 0 ≤ mk p0 (run p0 s 0 p (i + 1))
        · rw [if_pos b, munch_Longest_c1]
          rw [acc, if_pos b] at ih
          have e2 : w64 (w64 (p + i + 1) - p) = ((i : Int) + 1) := by rw [w64_id (n := p + i + 1) (by omega) (by omega), w64_id (by omega) (by omega)]; omega
          rw [e2]; exact ih
        · rw [if_neg b, munch_Longest_c1]
          rw [acc, if_neg b] at ih
          exact ih
    · rw [if_neg (by simpa using a), munch_Longest_c0]
      have : i = N := by omega
      rw [this]

/-- The answer of both. -/
def best (p0 : S26) (s : ByteArray) (p : Int) : Int × Int := if p < 0 ∨ (s.size : Int) ≤ p then (-1, 0) else acc p0 s p ((s.size : Int) - p).toNat
theorem longest_eq {p0 : S26} (hb : Bytes p0) {k : Nat} (s : ByteArray) (p : Int) (hz : s.size ≤ 1000) (hk : 2000 ≤ k) : munch_Longest k p0 s p = some (best p0 s p) := by
  unfold munch_Longest best
  by_cases a : p < 0 ∨ (s.size : Int) ≤ p
  · rw [if_pos a]
    obtain ⟨k, rfl⟩ : ∃ j, k = j + 1 := ⟨k - 1, by omega⟩
    rw [munch_Longest_l2.eq_2]
    by_cases b : 0 ≤ p
    · rw [if_pos b, Option.bind_some, if_neg (by simp; omega)]; rfl
    · rw [if_neg b, Option.bind_some, if_neg (by simp)]; rfl
  · rw [if_neg a]
    have := longest_l hb k s p (by omega) hz ((s.size : Int) - p).toNat (by omega) k 0 (by omega) (by omega)
    simpa [acc, run] using this
theorem rlongest_eq {p0 : S26} (hb : Bytes p0) {k : Nat} (s : ByteArray) (p : Int) (hz : s.size ≤ 1000) (hk : 2000 ≤ k) : bosketref12_Longest k p0 s p = some (best p0 s p) := by
  unfold bosketref12_Longest best
  by_cases a : p < 0
  · rw [if_pos a, if_pos (Or.inl a)]
  · rw [if_neg a]
    by_cases b : (s.size : Int) ≤ p
    · rw [if_pos (Or.inr b)]
      obtain ⟨k, rfl⟩ : ∃ j, k = j + 1 := ⟨k - 1, by omega⟩
      rw [bosketref12_Longest_l1.eq_2, if_neg (by omega)]; rfl
    · rw [if_neg (by omega)]
      have := ref_l hb k s p (by omega) hz hk ((s.size : Int) - p).toNat k (by omega) (by omega)
      rw [show p + (((s.size : Int) - p).toNat : Int) = (s.size : Int) by omega] at this
      exact this
theorem alone_eq {p0 : S26} (hb : Bytes p0) {k : Nat} (s : ByteArray) (hz : s.size ≤ 1000) (hk : 2000 ≤ k) : munch_Alone k p0 s = some (if s = ByteArray.mk #[] ∨ (best p0 s 0).2 ≠ (s.size : Int) then -1 else (best p0 s 0).1) := by
  unfold munch_Alone
  rw [longest_eq hb s 0 hz hk, Option.bind_some]
  by_cases a : s = ByteArray.mk #[]
  · simp [a]
  · by_cases b : (best p0 s 0).2 = (s.size : Int)
    · simp [a, b]
    · simp [a, b]

/-! What asks whether a machine is right answers at all. -/
theorem classes_tot {p0 : S26} (hb : Bytes p0) (k : Nat) : ∀ (m : Nat) (x i : Int), 0 ≤ x → x ≤ 256 → 0 ≤ i → i ≤ 256 → 256 - i < m → ∃ b, bosketref08_classes_l1 k p0 m x i = some b ∧ 0 ≤ b ∧ b ≤ 256
  | 0, x, i, _, _, _, _, h => by omega
  | m + 1, x, i, h1, h2, h3, h4, h => by
    rw [bosketref08_classes_l1.eq_2]
    by_cases a : i < 256
    · rw [if_pos a, if_pos ⟨h3, a⟩]
      have hv := hb i
      rw [w64_id (n := vget p0.f0 i) (by omega) (by omega), w64_id (n := vget p0.f0 i + 1) (by omega) (by omega), w64_id (n := i + 1) (by omega) (by omega)]
      exact classes_tot hb k m _ _ (by omega) (by omega) (by omega) (by omega) (by omega)
    · rw [if_neg a]; exact ⟨x, rfl, h1, h2⟩
theorem classes_some {p0 : S26} (hb : Bytes p0) {k : Nat} (hk : 2000 ≤ k) : ∃ b, bosketref08_classes k p0 = some b ∧ 0 ≤ b ∧ b ≤ 256 := classes_tot hb k k 0 0 (by omega) (by omega) (by omega) (by omega) (by omega)
theorem gap3_tot {p0 : S26} (hb : Bytes p0) (k : Nat) (rec4 : Int → Option Bool) (x3 : Int) (hr : ∃ b, rec4 (w64 (x3 + 1)) = some b) : ∀ (m : Nat) (b : Bool) (i : Int), 0 ≤ i → i ≤ 256 → 256 - i < m → ∃ b', bosketref08_gapless_l3 k rec4 p0 x3 m b i = some b'
  | 0, b, i, _, _, h => by omega
  | m + 1, b, i, h3, h4, h => by
    rw [bosketref08_gapless_l3.eq_2]
    by_cases a : i < 256
    · rw [if_pos a]
      have : ∃ c : Bool, (if b = true then some true else if 0 ≤ i ∧ i < 256 then some (decide (w64 (vget p0.f0 i) = x3)) else none) = some c := by
        by_cases e : b = true
        · exact ⟨true, by rw [if_pos e]⟩
        · exact ⟨_, by rw [if_neg e, if_pos ⟨h3, a⟩]⟩
      obtain ⟨c, hc⟩ := this
      rw [hc, Option.bind_some, w64_id (n := i + 1) (by omega) (by omega)]
      exact gap3_tot hb k rec4 x3 hr m c _ (by omega) (by omega) (by omega)
    · rw [if_neg a, bosketref08_gapless_c2]
      by_cases e : (!b) = true
      · exact ⟨false, by rw [if_pos e]⟩
      · rw [if_neg e, bosketref08_gapless_c1]; exact hr
theorem gap4_tot {p0 : S26} (hb : Bytes p0) {k : Nat} (hk : 2000 ≤ k) : ∀ (m : Nat) (i : Int), 0 ≤ i → i ≤ 256 → 256 - i < m → ∃ b', bosketref08_gapless_l4 k p0 m i = some b'
  | 0, i, _, _, h => by omega
  | m + 1, i, h3, h4, h => by
    rw [bosketref08_gapless_l4.eq_2]
    obtain ⟨c, hc, c0, c1⟩ := classes_some hb hk
    rw [hc, Option.bind_some]
    by_cases a : i < c
    · rw [if_pos a]
      exact gap3_tot hb k _ i (by rw [w64_id (by omega) (by omega)]; exact gap4_tot hb hk m _ (by omega) (by omega) (by omega)) k false 0 (by omega) (by omega) (by omega)
    · rw [if_neg a]; exact ⟨true, rfl⟩
theorem right2_tot {p0 : S26} (k : Nat) (rec11 : Int → Option Bool) (x : Int) (hx : 0 ≤ x ∧ x < (p0.f1.length : Int)) (hl : (lget p0.f1 x).length ≤ 256) (hr : ∃ b, rec11 (w64 (x + 1)) = some b) : ∀ (m : Nat) (i : Int), 0 ≤ i → i ≤ 256 → 256 - i < m → ∃ b', bosketref08_Right_l2 k rec11 p0 x m i = some b'
  | 0, i, _, _, h => by omega
  | m + 1, i, h3, h4, h => by
    rw [bosketref08_Right_l2.eq_2, if_pos hx]
    by_cases a : i < ((lget p0.f1 x).length : Int)
    · rw [if_pos a, if_pos hx, if_pos (show 0 ≤ i ∧ i < ((lget p0.f1 x).length : Int) from ⟨h3, a⟩)]
      have : ∃ c : Bool, (if lget (lget p0.f1 x) i < -1 then some true else if 0 ≤ x ∧ x < (p0.f1.length : Int) then if 0 ≤ i ∧ i < ((lget p0.f1 x).length : Int) then some (decide ((p0.f1.length : Int) ≤ lget (lget p0.f1 x) i)) else none else none) = some c := by
        by_cases e : lget (lget p0.f1 x) i < -1
        · exact ⟨_, by rw [if_pos e]⟩
        · exact ⟨_, by rw [if_neg e, if_pos hx, if_pos (show 0 ≤ i ∧ i < ((lget p0.f1 x).length : Int) from ⟨h3, a⟩)]⟩
      obtain ⟨c, hc⟩ := this
      rw [hc, Option.bind_some]
      by_cases e : c = true
      · rw [if_pos e]; exact ⟨false, rfl⟩
      · rw [if_neg e, w64_id (n := i + 1) (by omega) (by omega)]
        exact right2_tot k rec11 x hx hl hr m _ (by omega) (by omega) (by omega)
    · rw [if_neg a, bosketref08_Right_c1]; exact hr
theorem right3_tot {p0 : S26} (hb : Bytes p0) {k : Nat} (hk : 2000 ≤ k) (hn : p0.f1.length ≤ 20) (h2 : p0.f2.length = p0.f1.length) (hl : ∀ r ∈ p0.f1, r.length ≤ 256) : ∀ (m : Nat) (i : Int), 0 ≤ i → i ≤ (p0.f1.length : Int) → (p0.f1.length : Int) - i < m → ∃ b', bosketref08_Right_l3 k p0 m i = some b'
  | 0, i, _, _, h => by omega
  | m + 1, i, h3, h4, h => by
    rw [bosketref08_Right_l3.eq_2]
    by_cases a : i < (p0.f1.length : Int)
    · obtain ⟨t, ht, t0, t1⟩ := classes_some hb hk
      have hi : 0 ≤ i ∧ i < (p0.f1.length : Int) := ⟨h3, a⟩
      have hi2 : 0 ≤ i ∧ i < (p0.f2.length : Int) := ⟨h3, by omega⟩
      rw [if_pos a, if_pos hi, ht, Option.bind_some, if_pos hi2, if_pos hi2]
      have hrow : (lget p0.f1 i).length ≤ 256 := by
        have hlt : i.toNat < p0.f1.length := by omega
        have : lget p0.f1 i = p0.f1[i.toNat] := by simp [lget, List.getD, List.getElem?_eq_getElem hlt]
        rw [this]; exact hl _ (List.getElem_mem hlt)
      have : ∃ c : Bool, (if ((lget p0.f1 i).length : Int) ≠ t then some true else if lget p0.f2 i < -1 then some true else some (decide (32768 ≤ lget p0.f2 i))) = some c := by
        by_cases e : ((lget p0.f1 i).length : Int) ≠ t
        · exact ⟨_, by rw [if_pos e]⟩
        · by_cases e2 : lget p0.f2 i < -1
          · exact ⟨_, by rw [if_neg e, if_pos e2]⟩
          · exact ⟨_, by rw [if_neg e, if_neg e2]⟩
      obtain ⟨c, hc⟩ := this
      rw [hc, Option.bind_some]
      by_cases e : c = true
      · rw [if_pos e]; exact ⟨false, rfl⟩
      · rw [if_neg e]
        exact right2_tot k _ i hi hrow (by rw [w64_id (by omega) (by omega)]; exact right3_tot hb hk hn h2 hl m _ (by omega) (by omega) (by omega)) k 0 (by omega) (by omega) (by omega)
    · rw [if_neg a]; exact ⟨true, rfl⟩
theorem right_some {p0 : S26} (hb : Bytes p0) {k : Nat} (hk : 2000 ≤ k) (hn : p0.f1.length ≤ 20) (hl : ∀ r ∈ p0.f1, r.length ≤ 256) : ∃ b, bosketref08_Right k p0 = some b := by
  unfold bosketref08_Right
  by_cases a : (p0.f1.length : Int) < 1
  · rw [if_pos a, Option.bind_some, if_pos rfl]; exact ⟨_, rfl⟩
  · rw [if_neg a, if_neg (by omega)]
    by_cases b : (p0.f2.length : Int) ≠ (p0.f1.length : Int)
    · rw [if_pos b, Option.bind_some, if_pos rfl]; exact ⟨_, rfl⟩
    · obtain ⟨g, hg⟩ := gap4_tot hb hk k 0 (by omega) (by omega) (by omega)
      rw [if_neg b, show bosketref08_gapless k p0 = some g from hg, Option.bind_some, Option.bind_some]
      by_cases c : (!g) = true
      · rw [if_pos c]; exact ⟨_, rfl⟩
      · rw [if_neg c]; exact right3_tot hb hk hn (by omega) hl k 0 (by omega) (by omega) (by omega)
theorem small_l {p0 : S26} (k : Nat) (hn : p0.f1.length ≤ 20) : ∀ (m i : Nat), i ≤ p0.f1.length → p0.f1.length - i < m → ∃ b, bosketlaw08_Small_l1 k p0 m i = some b ∧ (b = true → ∀ j, i ≤ j → (h : j < p0.f1.length) → (p0.f1[j]).length ≤ 256)
  | 0, i, _, h => by omega
  | m + 1, i, hi, h => by
    rw [bosketlaw08_Small_l1.eq_2]
    by_cases a : (i : Int) < (p0.f1.length : Int)
    · have hlt : i < p0.f1.length := by omega
      have hrow : lget p0.f1 (i : Int) = p0.f1[i] := by simp [lget, List.getD, List.getElem?_eq_getElem hlt]
      rw [if_pos a, if_pos ⟨by omega, a⟩, hrow]
      by_cases b : (256 : Int) < ((p0.f1[i]).length : Int)
      · rw [if_pos b]; exact ⟨false, rfl, fun h => by cases h⟩
      · rw [if_neg b, w64_id (by omega) (by omega)]
        obtain ⟨c, h1, h2⟩ := small_l k hn m (i + 1) (by omega) (by omega)
        refine ⟨c, by simpa using h1, fun hc j hj hlt' => ?_⟩
        by_cases e : j = i
        · subst e; omega
        · exact h2 hc j (by omega) hlt'
    · rw [if_neg a]; exact ⟨true, rfl, fun _ j hj hlt => by omega⟩
theorem small_some (p0 : S26) {k : Nat} (hk : 2000 ≤ k) : ∃ b, bosketlaw08_Small k p0 = some b ∧ (b = true → p0.f1.length ≤ 20 ∧ p0.f2.length ≤ 30 ∧ ∀ r ∈ p0.f1, r.length ≤ 256) := by
  unfold bosketlaw08_Small
  by_cases a : (20 : Int) < (p0.f1.length : Int)
  · rw [if_pos a, Option.bind_some, if_pos rfl]; exact ⟨_, rfl, fun h => by cases h⟩
  · rw [if_neg a, Option.bind_some]
    by_cases b : (30 : Int) < (p0.f2.length : Int)
    · rw [if_pos (by simpa using b)]; exact ⟨_, rfl, fun h => by cases h⟩
    · rw [if_neg (by simpa using b)]
      obtain ⟨c, h1, h2⟩ := small_l (p0 := p0) k (by omega) k 0 (by omega) (by omega)
      refine ⟨c, by simpa using h1, fun hc => ⟨by omega, by omega, fun r hr => ?_⟩⟩
      obtain ⟨j, hj, rfl⟩ := List.getElem_of_mem hr
      exact h2 hc j (by omega) hj
theorem awake12 : bosketlaw12_awake 2000 = some true := by decide +kernel
end Go.Avl.T1
