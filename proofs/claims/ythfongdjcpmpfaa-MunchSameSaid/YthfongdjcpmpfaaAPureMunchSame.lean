/- MunchSame: the plain law. -/
import Derived.Test.YthfongdjcpmpfaaAW
import Derived.Test.YthfongdjcpmpfaaAM1
import Derived.Test.YthfongdjcpmpfaaAM2
namespace Go.Avl.T1
open Go Go.RowKit Go.Proofs Go.Avl
set_option linter.all false

theorem msame_l {k : Nat} (p0 p1 : List S61) (hk : 2000 ≤ k) (hn : p0.length ≤ 50) : ∀ (m i : Nat), i ≤ p0.length → p0.length - i < m → (∀ j : Nat, j < i → (lget p0 j).f1.size ≤ 100) → (cat p0 i).size ≤ 100 * i →
    bosketlaw12_MunchSame_l1 k p0 p1 m (cat p0 i) i = some true
  | 0, i, _, h, _, _ => by omega
  | m + 1, i, hi, h, hj, hc => by
    rw [bosketlaw12_MunchSame_l1.eq_2]
    by_cases a : (i : Int) < (p0.length : Int)
    · have g : 0 ≤ (i : Int) ∧ (i : Int) < (p0.length : Int) := ⟨by omega, a⟩
      rw [if_pos a, if_pos g]
      by_cases b : (100 : Int) < ((lget p0 (i : Int)).f1.size : Int)
      · rw [if_pos b]
      · have hsz : (cat p0 (i + 1)).size ≤ 100 * (i + 1) := by
          rw [cat, ByteArray.size_append]; omega
        rw [if_neg b, if_pos g, if_pos (by omega), w64_id (by omega) (by omega)]
        refine (show bosketlaw12_MunchSame_l1 k p0 p1 m (cat p0 (i + 1)) ((i : Int) + 1) = some true from ?_)
        exact_mod_cast msame_l p0 p1 hk hn m (i + 1) (by omega) (by omega) (fun j h' => by
          by_cases e : j = i
          · subst e; omega
          · exact hj j (by omega)) hsz
    · have e : i = p0.length := by omega
      obtain ⟨b, h1, h2, _⟩ := same_eq p0 p1 (by omega) hk
      obtain ⟨c, h3, h4, h5⟩ := same_eq p0 p0 (by omega) hk
      have h5 := h5 rfl
      subst h5
      rw [if_neg a, bosketlaw12_MunchSame_c0, h1, Option.bind_some, h2, Option.bind_some, if_pos (by simp), h3, Option.bind_some, if_pos rfl, text_eq p0 (by omega) hk (fun j h' => by have := hj j (by omega); omega), Option.bind_some, e]
      simp

theorem bosketlaw12_MunchSame_true (a0 : (List S61)) (a1 : (List S61)) (h0 : wf55 a0) (h1 : wf55 a1) : ∃ k, bosketlaw12_MunchSame k a0 a1 = some true := by
  refine ⟨2000, ?_⟩
  unfold bosketlaw12_MunchSame
  rw [awake12, Option.bind_some, if_neg (by decide)]
  by_cases a : (50 : Int) < (a0.length : Int)
  · rw [if_pos a, Option.bind_some, if_pos rfl]
  · rw [if_neg a, Option.bind_some]
    by_cases b : (50 : Int) < (a1.length : Int)
    · rw [if_pos (by simpa using b)]
    · rw [if_neg (by simpa using b)]
      exact msame_l a0 a1 (Nat.le_refl _) (by omega) 2000 0 (by omega) (by omega) (fun j h => by omega) (by show (ByteArray.mk #[]).size ≤ _; decide)
end Go.Avl.T1
