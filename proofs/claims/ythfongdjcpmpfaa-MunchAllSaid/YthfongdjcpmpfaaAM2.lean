/- Tokens in rows. -/
import Derived.Test.YthfongdjcpmpfaaAM1
import Derived.Test.YthfongdjcpmpfaaAf8
import Derived.Test.YthfongdjcpmpfaaAf7
namespace Go.Avl.T1
open Go Go.RowKit Go.Proofs Go.Avl
set_option linter.all false

theorem lget_lt {α : Type} [Inhabited α] (l : List α) (i : Nat) (h : i < l.length) : lget l (i : Int) = l[i] := by simp [lget, List.getD, List.getElem?_eq_getElem h]
theorem same_l (k : Nat) (p0 p1 : List S61) (hl : p0.length = p1.length) (hz : p0.length ≤ 1000000) : ∀ (m i : Nat), i ≤ p0.length → p0.length - i < m →
    ∃ b, munch_Same_l1 k p0 p1 m i = some b ∧ bosketref12_Same_l1 k p0 p1 m i = some b ∧ (p0 = p1 → b = true)
  | 0, i, _, h => by omega
  | m + 1, i, hi, h => by
    rw [munch_Same_l1.eq_2, bosketref12_Same_l1.eq_2]
    by_cases a : (i : Int) < (p0.length : Int)
    · have g0 : 0 ≤ (i : Int) ∧ (i : Int) < (p0.length : Int) := ⟨by omega, a⟩
      have g1 : 0 ≤ (i : Int) ∧ (i : Int) < (p1.length : Int) := ⟨by omega, by omega⟩
      simp only [if_pos a, if_pos g0, if_pos g1]
      by_cases b : (lget p0 (i : Int)).f0 ≠ (lget p1 (i : Int)).f0
      · simp only [if_pos b, Option.bind_some, if_true]
        exact ⟨false, rfl, rfl, fun e => by subst e; exact absurd rfl b⟩
      · simp only [if_neg b, Option.bind_some]
        by_cases c : (lget p0 (i : Int)).f1 = (lget p1 (i : Int)).f1
        · rw [if_neg (by simpa using c), if_neg (by simpa using c), w64_id (by omega) (by omega)]
          exact_mod_cast same_l k p0 p1 hl hz m (i + 1) (by omega) (by omega)
        · rw [if_pos (by simpa using c), if_pos (by simpa using c)]
          exact ⟨false, rfl, rfl, fun e => by subst e; exact absurd rfl c⟩
    · rw [if_neg a, if_neg a]; exact ⟨true, rfl, rfl, fun _ => rfl⟩
theorem same_eq {k : Nat} (p0 p1 : List S61) (hz : p0.length ≤ 1000) (hk : 2000 ≤ k) : ∃ b, munch_Same k p0 p1 = some b ∧ bosketref12_Same k p0 p1 = some b ∧ (p0 = p1 → b = true) := by
  unfold munch_Same bosketref12_Same
  by_cases a : (p0.length : Int) ≠ (p1.length : Int)
  · rw [if_pos a, if_pos a]; exact ⟨false, rfl, rfl, fun e => by subst e; exact absurd rfl a⟩
  · rw [if_neg a, if_neg a]
    exact_mod_cast same_l k p0 p1 (by omega) (by omega) k 0 (by omega) (by omega)

def ints (s : ByteArray) : List Int := s.data.toList.map fun b => (b.toNat : Int)
theorem ints_length (s : ByteArray) : (ints s).length = s.size := by simp [ints]
theorem ints_append (s t : ByteArray) : ints (s ++ t) = ints s ++ ints t := by simp [ints]
theorem strOf_ints (s : ByteArray) : strOfNums (ints s) = s := by
  apply ByteArray.ext; apply Array.ext'; simp [strOfNums, ints, Function.comp_def]
/-- The texts of the first parts, one behind the other. -/
def cat (l : List S61) : Nat → ByteArray
  | 0 => ByteArray.mk #[]
  | n + 1 => cat l n ++ (lget l n).f1
theorem text_l (k : Nat) (p0 : List S61) (hn : p0.length ≤ 1000) (hs : ∀ j : Nat, j < p0.length → (lget p0 j).f1.size ≤ 1000) : ∀ (m i : Nat), i ≤ p0.length → p0.length - i < m → (cat p0 i).size ≤ 1000 * i →
    munch_Text_l1 k p0 m (ints (cat p0 i)) i = some (cat p0 p0.length)
  | 0, i, _, h, _ => by omega
  | m + 1, i, hi, h, hc => by
    rw [munch_Text_l1.eq_2]
    by_cases a : (i : Int) < (p0.length : Int)
    · have e : ints (cat p0 i) ++ ((lget p0 (i : Int)).f1.data.toList.map fun b => (b.toNat : Int)) = ints (cat p0 (i + 1)) := by rw [cat, ints_append]; rfl
      have hsz : (cat p0 (i + 1)).size ≤ 1000 * (i + 1) := by
        have := hs i (by omega)
        rw [cat, ByteArray.size_append]; omega
      rw [if_pos a, if_pos ⟨by omega, a⟩, e, if_pos (by rw [ints_length]; omega), w64_id (by omega) (by omega)]
      exact_mod_cast text_l k p0 hn hs m (i + 1) (by omega) (by omega) hsz
    · have : i = p0.length := by omega
      rw [if_neg a, munch_Text_c0, strOf_ints, this]
theorem text_eq {k : Nat} (p0 : List S61) (hn : p0.length ≤ 1000) (hk : 2000 ≤ k) (hs : ∀ j : Nat, j < p0.length → (lget p0 j).f1.size ≤ 1000) : munch_Text k p0 = some (cat p0 p0.length) := by
  unfold munch_Text
  exact text_l k p0 hn hs k 0 (by omega) (by omega) (by show (ByteArray.mk #[]).size ≤ _; decide)
end Go.Avl.T1
