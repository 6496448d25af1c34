/- MunchLongest: the plain law. -/
import Derived.Test.YthfongdjcpmpfaaAOMunchLongest
import Derived.Test.YthfongdjcpmpfaaAM1
namespace Go.Avl.T1
open Go Go.RowKit Go.Proofs Go.Avl
set_option linter.all false

theorem bosketlaw12_MunchLongest_true (a0 : S26) (a1 : ByteArray) (a2 : Int) (h0 : wf26 a0) (h1 : wf9 a1) (h2 : a1.size ≤ 140737488351232) (h3 : wf3 a2) : ∃ k, bosketlaw12_MunchLongest k a0 a1 a2 = some true := by
  have hb := bytes_of h0
  have hk : 2000 ≤ 2000 := Nat.le_refl _
  refine ⟨2000, ?_⟩
  unfold bosketlaw12_MunchLongest
  rw [awake12, Option.bind_some, if_neg (by decide)]
  obtain ⟨sm, hs, hs2⟩ := small_some a0 hk
  rw [hs, Option.bind_some]
  by_cases a : (!sm) = true
  · rw [if_pos a, Option.bind_some, if_pos rfl]
  · rw [if_neg a]
    obtain ⟨n1, n2, n3⟩ := hs2 (by simpa using a)
    obtain ⟨rt, hr⟩ := right_some hb hk n1 n3
    rw [hr, Option.bind_some]
    by_cases b : (!rt) = true
    · rw [if_pos b, Option.bind_some, if_pos rfl]
    · rw [if_neg b, Option.bind_some]
      by_cases c : (60 : Int) < (a1.size : Int)
      · rw [if_pos (by simpa using c)]
      · have hz : a1.size ≤ 1000 := by omega
        rw [if_neg (by simpa using c), longest_eq hb a1 a2 hz hk, Option.bind_some, rlongest_eq hb a1 a2 hz hk, Option.bind_some, rlongest_eq hb a1 0 hz hk, Option.bind_some]
        by_cases d : a1 = ByteArray.mk #[]
        · rw [if_pos d, Option.bind_some, if_pos rfl, bosketlaw12_MunchLongest_c0, if_pos rfl, if_pos rfl, alone_eq hb a1 hz hk]
          simp [d]
        · rw [if_neg d, Option.bind_some]
          by_cases e : (best a0 a1 0).2 = (a1.size : Int)
          · rw [if_neg (by simpa using e), bosketlaw12_MunchLongest_c0, if_pos rfl, if_pos rfl, alone_eq hb a1 hz hk]
            simp [d, e]
          · rw [if_pos (by simpa using e), bosketlaw12_MunchLongest_c0, if_pos rfl, if_pos rfl, alone_eq hb a1 hz hk]
            simp [d, e]
end Go.Avl.T1
