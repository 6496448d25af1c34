/- MunchAll: the plain law. -/
import Derived.Test.YthfongdjcpmpfaaAW
import Derived.Test.YthfongdjcpmpfaaAM2
namespace Go.Avl.T1
open Go Go.RowKit Go.Proofs Go.Avl
set_option linter.all false

theorem acc_le (p0 : S26) (s : ByteArray) (p : Int) : ∀ n : Nat, 0 ≤ (acc p0 s p n).2 ∧ (acc p0 s p n).2 ≤ n
  | 0 => ⟨by simp [acc], by simp [acc]⟩
  | n + 1 => by
    have := acc_le p0 s p n
    rw [acc]
    split
    · exact ⟨by show (0 : Int) ≤ (n : Int) + 1; omega, by show (n : Int) + 1 ≤ ((n + 1 : Nat) : Int); omega⟩
    · exact ⟨this.1, by omega⟩
theorem best_le (p0 : S26) (s : ByteArray) (p : Int) (h0 : 0 ≤ p) (h1 : p ≤ (s.size : Int)) : 0 ≤ (best p0 s p).2 ∧ p + (best p0 s p).2 ≤ (s.size : Int) := by
  unfold best
  split
  · exact ⟨by simp, by simp; omega⟩
  · have := acc_le p0 s p ((s.size : Int) - p).toNat; omega
theorem cat_left (L M : List S61) : ∀ n : Nat, n ≤ L.length → cat (L ++ M) n = cat L n
  | 0, _ => rfl
  | n + 1, h => by
    rw [cat, cat, cat_left L M n (by omega), lget_lt _ _ (show n < L.length by omega), lget_lt _ _ (show n < (L ++ M).length by simp; omega), List.getElem_append_left]
theorem cat_snoc (L : List S61) (x : S61) : cat (L ++ [x]) (L ++ [x]).length = cat L L.length ++ x.f1 := by
  have h : (L ++ [x]).length = L.length + 1 := by simp
  rw [h, cat, cat_left _ _ _ (Nat.le_refl _), lget_lt _ _ (by simp)]
  simp
theorem extract_cat (s : ByteArray) (i j : Nat) (h : i ≤ j) : s.extract 0 i ++ s.extract i j = s.extract 0 j := by
  rw [ByteArray.extract_append_extract]; simp [h]

theorem all_l {p0 : S26} (hb : Bytes p0) {k : Nat} (s : ByteArray) (hz : s.size ≤ 1000) (hk : 2000 ≤ k) : ∀ (m i : Nat) (L : List S61), i ≤ s.size → s.size - i < m → L.length ≤ i → (∀ x ∈ L, x.f1.size ≤ 1000) → cat L L.length = s.extract 0 i →
    ∃ (L' : List S61) (pos : Nat) (ok : Bool), munch_All_l1 k p0 s m L i = some (L', (pos : Int), if ok then (0 : Int) else 7) ∧ bosketref12_All_l1 k p0 s m L i = some (L', (pos : Int), ok) ∧ pos ≤ s.size ∧ L'.length ≤ s.size ∧ (∀ x ∈ L', x.f1.size ≤ 1000) ∧ cat L' L'.length = s.extract 0 pos
  | 0, i, L, _, h, _, _, _ => by omega
  | m + 1, i, L, hi, h, hl, hx, hc => by
    rw [munch_All_l1.eq_2, bosketref12_All_l1.eq_2]
    by_cases a : (i : Int) < (s.size : Int)
    · have hbe := best_le p0 s i (by omega) (by omega)
      simp only [if_pos a, longest_eq hb s i hz hk, rlongest_eq hb s i hz hk, Option.bind_some]
      by_cases b : (best p0 s i).2 = 0
      · simp only [if_pos b]
        exact ⟨L, i, false, rfl, rfl, hi, by omega, hx, hc⟩
      · have hw : w64 ((i : Int) + (best p0 s i).2) = (i : Int) + (best p0 s i).2 := w64_id (by omega) (by omega)
        have g : 0 ≤ (i : Int) ∧ (i : Int) ≤ (i : Int) + (best p0 s i).2 ∧ (i : Int) + (best p0 s i).2 ≤ (s.size : Int) := ⟨by omega, by omega, by omega⟩
        obtain ⟨j, hj⟩ : ∃ j : Nat, (j : Int) = (i : Int) + (best p0 s i).2 := ⟨((i : Int) + (best p0 s i).2).toNat, by omega⟩
        have e : ((i : Int) + (best p0 s i).2).toNat = j := by omega
        simp only [if_neg b, hw, if_pos g, e, Int.toNat_natCast]
        have hlen : ∀ x : S61, (L ++ [x]).length * 32 ≤ 140737488355328 := by intro x; simp; omega
        simp only [if_pos (hlen _), ← hj]
        refine all_l hb s hz hk m j _ (by omega) (by omega) (by simp; omega) ?_ ?_
        · intro x hx'
          rcases List.mem_append.1 hx' with h' | h'
          · exact hx x h'
          · rw [List.mem_singleton.1 h']; show (s.extract i j).size ≤ 1000; rw [ByteArray.size_extract]; omega
        · rw [cat_snoc, hc]; exact extract_cat s i j (by omega)
    · have e : i = s.size := by omega
      simp only [if_neg a]
      exact ⟨L, i, true, by rw [munch_All_c0, e]; rfl, rfl, hi, by omega, hx, hc⟩
theorem mall_l {k : Nat} (p1 : ByteArray) (t : List S61 × Int × Int) (u : List S61 × Int × Bool) (he : t.1 = u.1) (hn : t.1.length ≤ 1000) (hc : bosketlaw12_MunchAll_c0 k p1 t u = some true) : ∀ (m i : Nat), i ≤ t.1.length → t.1.length - i < m →
    bosketlaw12_MunchAll_l1 k p1 t u m i = some true
  | 0, i, _, h => by omega
  | m + 1, i, hi, h => by
    rw [bosketlaw12_MunchAll_l1.eq_2]
    by_cases a : (i : Int) < (t.1.length : Int)
    · have g : 0 ≤ (i : Int) ∧ (i : Int) < (t.1.length : Int) := ⟨by omega, a⟩
      have g' : 0 ≤ (i : Int) ∧ (i : Int) < (u.1.length : Int) := by rw [← he]; exact g
      have hd : ¬ (!(decide ((lget t.1 (i : Int)) = (lget u.1 (i : Int))))) = true := by rw [he]; simp
      rw [if_pos a, if_pos g, if_pos g', if_neg hd, w64_id (by omega) (by omega)]
      exact_mod_cast mall_l p1 t u he hn hc m (i + 1) (by omega) (by omega)
    · rw [if_neg a]; exact hc

theorem bosketlaw12_MunchAll_true (a0 : S26) (a1 : ByteArray) (h0 : wf26 a0) (h1 : wf9 a1) (h2 : a1.size ≤ 140737488351232) : ∃ k, bosketlaw12_MunchAll k a0 a1 = some true := by
  have hb := bytes_of h0
  have hk : 2000 ≤ 2000 := Nat.le_refl _
  refine ⟨2000, ?_⟩
  unfold bosketlaw12_MunchAll
  rw [awake12, Option.bind_some, if_neg (by decide)]
  obtain ⟨sm, hs, hs2⟩ := small_some a0 hk
  rw [hs, Option.bind_some]
  by_cases a : (!sm) = true
  · rw [if_pos a, Option.bind_some, if_pos rfl]
  · rw [if_neg a]
    obtain ⟨n1, n2, n3⟩ := hs2 (by simpa using a)
    obtain ⟨rt, hr⟩ := right_some hb hk n1 n3
    rw [hr, Option.bind_some]
    by_cases b : (!rt) = true
    · rw [if_pos b, Option.bind_some, if_pos rfl]
    · rw [if_neg b, Option.bind_some]
      by_cases c : (60 : Int) < (a1.size : Int)
      · rw [if_pos (by simpa using c)]
      · have hz : a1.size ≤ 1000 := by omega
        obtain ⟨L, pos, ok, e1, e2, e3, e4, e5, e6⟩ := all_l hb a1 hz hk 2000 0 [] (by omega) (by omega) (by simp) (by simp) (by simp [cat]; rfl)
        have f1 : munch_All 2000 a0 a1 = some (L, (pos : Int), if ok then 0 else 7) := by
          unfold munch_All; rw [if_neg (by omega)]; exact e1
        have f2 : bosketref12_All 2000 a0 a1 = some (L, (pos : Int), ok) := e2
        rw [if_neg (by simpa using c), f1, Option.bind_some, f2, Option.bind_some]
        have fin : bosketlaw12_MunchAll_l1 2000 a1 (L, (pos : Int), if ok then (0 : Int) else 7) (L, (pos : Int), ok) 2000 (0 : Int) = some true := by
          refine mall_l a1 _ _ rfl (by show L.length ≤ 1000; omega) ?_ 2000 0 (by omega) (by show L.length - 0 < 2000; omega)
          have hx : ∀ j : Nat, j < L.length → (lget L j).f1.size ≤ 1000 := fun j hj => by rw [lget_lt _ _ hj]; exact e5 _ (List.getElem_mem hj)
          obtain ⟨b', g1, g2, g3⟩ := same_eq L L (by omega) hk
          have g3 := g3 rfl
          subst g3
          have g : 0 ≤ (0 : Int) ∧ (0 : Int) ≤ (pos : Int) ∧ (pos : Int) ≤ (a1.size : Int) := ⟨by omega, by omega, by omega⟩
          rw [bosketlaw12_MunchAll_c0, text_eq L (by omega) hk hx]
          simp only [Option.bind_some, if_pos g, e6, Int.toNat_natCast, Int.toNat_zero, if_true, g1]
        cases ok
        · simpa using fin
        · simpa using fin
end Go.Avl.T1
