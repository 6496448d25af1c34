/- MunchSure: the plain law. -/
import Derived.Test.YthfongdjcpmpfaaAW
import Derived.Test.YthfongdjcpmpfaaAM1
namespace Go.Avl.T1
open Go Go.RowKit Go.Proofs Go.Avl
set_option linter.all false

theorem run_same {p0 : S26} {s t : ByteArray} {n : Nat} (h : ∀ j : Nat, j < n → byteAt s j = byteAt t j) : ∀ i : Nat, i ≤ n → run p0 s 0 0 i = run p0 t 0 0 i
  | 0, _ => rfl
  | i + 1, hi => by
    rw [run, run, run_same h i (by omega)]
    have := h i (by omega)
    simp only [Int.zero_add, this]
theorem acc_same {p0 : S26} {s t : ByteArray} {n : Nat} (h : ∀ j : Nat, j < n → byteAt s j = byteAt t j) : ∀ i : Nat, i ≤ n → acc p0 s 0 i = acc p0 t 0 i
  | 0, _ => rfl
  | i + 1, hi => by rw [acc, acc, run_same h (i + 1) hi, acc_same h i (by omega)]
theorem byteAt_left (a b : ByteArray) (j : Nat) (h : j < a.size) : byteAt (a ++ b) j = byteAt a j := by
  unfold byteAt
  have h1 : (j : Int).toNat < a.size := by omega
  have h2 : (j : Int).toNat < (a ++ b).size := by rw [ByteArray.size_append]; omega
  rw [dif_pos h2, dif_pos h1, ByteArray.getElem_append_left h1]
theorem sure_l {p0 : S26} (hb : Bytes p0) (k : Nat) (s : ByteArray) (hz : s.size ≤ 1000) : ∀ (m i : Nat), i ≤ s.size → s.size - i < m → run p0 s 0 0 i ≠ -1 →
    ∃ n : Nat, munch_Sure_l1 k p0 s m (run p0 s 0 0 i) i = some (n : Int) ∧ n ≤ s.size ∧ (n = s.size ∨ ∃ j, n = j + 1 ∧ run p0 s 0 0 (j + 1) = -1 ∧ run p0 s 0 0 j ≠ -1)
  | 0, i, _, h, _ => by omega
  | m + 1, i, hi, h, hr => by
    rw [munch_Sure_l1.eq_2, if_pos (by omega), Option.bind_some]
    by_cases a : (i : Int) < (s.size : Int)
    · have hu := byteAt_u8 s i
      have e : run p0 s 0 0 (i + 1) = stp p0 (run p0 s 0 0 i) (byteAt s i) := by rw [run, Int.zero_add]
      rw [if_pos (by simpa using a), if_pos ⟨by omega, a⟩, step_eq hb k _ hu.1 (by omega), Option.bind_some, ← e, w64_id (by omega) (by omega)]
      by_cases d : run p0 s 0 0 (i + 1) = -1
      · rw [if_pos d]
        exact ⟨i + 1, by simp, by omega, Or.inr ⟨i, rfl, d, hr⟩⟩
      · rw [if_neg d]
        exact_mod_cast sure_l hb k s hz m (i + 1) (by omega) (by omega) d
    · rw [if_neg (by simpa using a), munch_Sure_c0]
      exact ⟨s.size, rfl, Nat.le_refl _, Or.inl rfl⟩
theorem best0 (p0 : S26) (s : ByteArray) (h : 0 < s.size) : best p0 s 0 = acc p0 s 0 s.size := by
  unfold best; rw [if_neg (by omega)]; rfl
theorem acc_cut {p0 : S26} {s : ByteArray} {j : Nat} (h : run p0 s 0 0 (j + 1) = -1) (hl : j ≤ s.size) : acc p0 s 0 s.size = acc p0 s 0 j := by
  have := acc_dead h (s.size - j)
  rwa [show j + (s.size - j) = s.size by omega] at this

theorem bosketlaw12_MunchSure_true (a0 : S26) (a1 : ByteArray) (a2 : (Vector ByteArray 2)) (h0 : wf26 a0) (h1 : wf9 a1) (h2 : a1.size ≤ 140737488351232) (h3 : wf33 a2) : ∃ k, bosketlaw12_MunchSure k a0 a1 a2 = some true := by
  have hb := bytes_of h0
  have hk : 2000 ≤ 2000 := Nat.le_refl _
  refine ⟨2000, ?_⟩
  unfold bosketlaw12_MunchSure
  rw [awake12, Option.bind_some, if_neg (by decide)]
  obtain ⟨sm, hs, hs2⟩ := small_some a0 hk
  rw [hs, Option.bind_some]
  by_cases a : (!sm) = true
  · rw [if_pos a, Option.bind_some, if_pos rfl]
  rw [if_neg a]
  obtain ⟨n1, n2, n3⟩ := hs2 (by simpa using a)
  obtain ⟨rt, hr⟩ := right_some hb hk n1 n3
  rw [hr, Option.bind_some]
  by_cases b : (!rt) = true
  · rw [if_pos b, Option.bind_some, if_pos rfl]
  rw [if_neg b]
  generalize hu : vget a2 (0 : Int) = u
  generalize hv : vget a2 (1 : Int) = v
  by_cases c1 : (30 : Int) < (a1.size : Int)
  · rw [if_pos c1, Option.bind_some, if_pos rfl]
  rw [if_neg c1]
  by_cases c2 : (30 : Int) < (u.size : Int)
  · rw [if_pos c2, Option.bind_some, if_pos rfl]
  rw [if_neg c2, Option.bind_some]
  by_cases c3 : (30 : Int) < (v.size : Int)
  · rw [if_pos (by simpa using c3)]
  rw [if_neg (by simpa using c3)]
  have hsz : (a1 ++ u).size = a1.size + u.size := ByteArray.size_append
  generalize hS : a1 ++ u = s at *
  have hz : s.size ≤ 1000 := by omega
  have g0 : a1.size + u.size ≤ 9223372036854775807 := by omega
  obtain ⟨n, e1, e2, e3⟩ := sure_l hb 2000 s hz 2000 0 (by omega) (by omega) (by simp [run])
  have e1' : munch_Sure 2000 a0 s 0 = some (n : Int) := e1
  have hw : w64 ((a1.size : Int) + (u.size : Int)) = (s.size : Int) := by rw [w64_id (by omega) (by omega)]; omega
  have hg : 0 ≤ (0 : Int) ∧ (0 : Int) ≤ (n : Int) ∧ (n : Int) ≤ (s.size : Int) := ⟨by omega, by omega, by omega⟩
  have hxs : (s.extract 0 n).size = n := by rw [ByteArray.size_extract]; omega
  have hg2 : (s.extract 0 n).size + v.size ≤ 9223372036854775807 := by omega
  have hts : (s.extract 0 n ++ v).size = n + v.size := by rw [ByteArray.size_append, hxs]
  rw [if_pos g0, e1', Option.bind_some, if_neg (by omega), hw, Option.bind_some, if_neg (by simp; omega), if_pos g0, longest_eq hb s 0 hz hk, Option.bind_some, if_pos g0, if_pos hg]
  simp only [Int.toNat_natCast, Int.toNat_zero, Option.bind_some]
  rw [if_pos hg2, longest_eq hb _ 0 (by omega) hk]
  simp only [Option.bind_some]
  by_cases d : (n : Int) < (s.size : Int)
  · obtain ⟨j, rfl, r1, r2⟩ := e3.resolve_left (by omega)
    have hsame : ∀ i : Nat, i < j + 1 → byteAt s i = byteAt (s.extract 0 (j + 1)) i := by
      intro i hi
      have := byteAt_extract s 0 ((j + 1 : Nat) : Int) i (by omega) (by omega) (by omega) (by omega) (by omega)
      simp only [Int.toNat_zero, Int.toNat_natCast, Int.zero_add] at this
      exact this.symm
    have hsame2 : ∀ i : Nat, i < j + 1 → byteAt s i = byteAt (s.extract 0 (j + 1) ++ v) i := by
      intro i hi; rw [byteAt_left _ _ _ (by omega)]; exact hsame i hi
    have hbest : best a0 s 0 = best a0 (s.extract 0 (j + 1) ++ v) 0 := by
      have rr := run_same (p0 := a0) hsame2 (j + 1) (Nat.le_refl _)
      rw [best0 _ _ (by omega), best0 _ _ (by omega), acc_cut r1 (by omega), acc_cut (s := s.extract 0 (j + 1) ++ v) (j := j) (by rw [← rr]; exact r1) (by omega), acc_same hsame2 j (by omega)]
    have hrun1 : bosketref08_Run 2000 a0 0 (s.extract 0 (j + 1)) = some (-1) := by
      have := run_ext hb 2000 s 0 0 (j + 1) (by omega) (by omega) (by omega) (by omega)
      rw [r1] at this
      simpa using this
    have hrun2 : bosketref08_Run 2000 a0 0 ((s.extract 0 (j + 1)).extract 0 j) = some (run a0 s 0 0 j) := by
      have := run_ext hb 2000 (s.extract 0 (j + 1)) 0 0 j (by omega) (by omega) (by omega) (by omega)
      rw [← run_same (p0 := a0) hsame j (by omega)] at this
      simpa using this
    have hwj : w64 (((j + 1 : Nat) : Int) - 1) = (j : Int) := by rw [w64_id (by omega) (by omega)]; omega
    have hg3 : 0 ≤ (0 : Int) ∧ (0 : Int) ≤ (j : Int) ∧ (j : Int) ≤ ((s.extract 0 (j + 1)).size : Int) := ⟨by omega, by omega, by omega⟩
    rw [if_pos d, ← hbest, if_neg (by simp), Option.bind_some, if_neg (by simp), if_neg (by omega), hrun1, Option.bind_some, if_pos rfl, hwj, if_pos hg3]
    simp only [Int.toNat_natCast, Int.toNat_zero, hrun2, Option.bind_some]
    simpa using r2
  · rw [if_neg d, Option.bind_some, if_neg (by simp), if_pos (by omega)]
    rfl
end Go.Avl.T1
