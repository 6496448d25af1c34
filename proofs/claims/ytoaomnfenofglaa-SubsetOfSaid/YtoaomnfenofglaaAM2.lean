/- Parts: T5M5, T5PureSubsetOf. -/
import Derived.Test.YtoaomnfenofglaaAM1
import Derived.Test.YtoaomnfenofglaaAF5
/- subset: the law's own loops. -/
namespace Go.Avl.T5
open Go Go.RowKit Go.Proofs Go.Avl
set_option linter.all false
set_option maxRecDepth 10000

theorem isame_l (l : List Int) (hz : l.length ≤ 3000) : ∀ (m i fuel : Nat), i + m = l.length → m < fuel → bosketref01_Same_l1 5000 l l fuel (i : Int) = some true
  | 0, i, f + 1, hi, _ => by rw [bosketref01_Same_l1.eq_2, if_neg (by omega)]; rfl
  | m + 1, i, f + 1, hi, hf => by
    have ih := isame_l l hz m (i + 1) f (by omega) (by omega)
    rw [bosketref01_Same_l1.eq_2, if_pos (by omega), if_pos ⟨by omega, by omega⟩, if_pos ⟨by omega, by omega⟩, if_neg (by simp), w6 (by omega) (by omega)]
    exact_mod_cast ih
theorem isame (l : List Int) (hz : l.length ≤ 3000) : bosketref01_Same 5000 l l = some true := by
  unfold bosketref01_Same
  have := isame_l l hz l.length 0 5000 (by omega) (by omega)
  rw [if_neg (by simp)]
  exact_mod_cast this
theorem rowsame_l2 (l : List (List Int)) (rec5 : Int → Option Bool) (i : Nat) (hi : i < l.length) (hz : l.length ≤ 3000) (hr : ∀ r ∈ l, r.length ≤ 300) : ∀ (m j fuel : Nat), j + m = (lget l (i : Int)).length → m < fuel → bosketref07_SameRows_l2 5000 rec5 l l (i : Int) fuel (j : Int) = rec5 ((i + 1 : Nat) : Int)
  | 0, j, f + 1, hj, _ => by
    rw [bosketref07_SameRows_l2.eq_2, if_pos ⟨by omega, by omega⟩, if_neg (by omega)]
    unfold bosketref07_SameRows_c1
    rw [w6 (by omega) (by omega)]; rfl
  | m + 1, j, f + 1, hj, hf => by
    have ih := rowsame_l2 l rec5 i hi hz hr m (j + 1) f (by omega) (by omega)
    have hl : (lget l (i : Int)).length ≤ 300 := by rw [lget_lt _ i hi]; exact hr _ (List.getElem_mem hi)
    have g1 : 0 ≤ (i : Int) ∧ (i : Int) < (l.length : Int) := ⟨by omega, by omega⟩
    have g2 : 0 ≤ (j : Int) ∧ (j : Int) < ((lget l (i : Int)).length : Int) := ⟨by omega, by omega⟩
    rw [bosketref07_SameRows_l2.eq_2]
    simp only [if_pos g1, if_pos g2, if_pos g2.2]
    rw [if_neg (by simp), w6 (by omega) (by omega)]
    exact_mod_cast ih
theorem rowsame_l3 (l : List (List Int)) (hz : l.length ≤ 3000) (hr : ∀ r ∈ l, r.length ≤ 300) : ∀ (m i fuel : Nat), i + m = l.length → m < fuel → bosketref07_SameRows_l3 5000 l l fuel (i : Int) = some true
  | 0, i, f + 1, hi, _ => by rw [bosketref07_SameRows_l3.eq_2, if_neg (by omega)]; rfl
  | m + 1, i, f + 1, hi, hf => by
    have ih := rowsame_l3 l hz hr m (i + 1) f (by omega) (by omega)
    have hi' : i < l.length := by omega
    have hl : (lget l (i : Int)).length ≤ 300 := by rw [lget_lt _ i hi']; exact hr _ (List.getElem_mem hi')
    have l2 := rowsame_l2 l (bosketref07_SameRows_l3 5000 l l f) i hi' hz hr (lget l (i : Int)).length 0 5000 (by omega) (by omega)
    rw [Int.natCast_zero] at l2
    rw [bosketref07_SameRows_l3.eq_2, if_pos (by omega), if_pos ⟨by omega, by omega⟩, if_pos ⟨by omega, by omega⟩, if_neg (by simp), l2]
    exact ih
theorem rowsame (l : List (List Int)) (hz : l.length ≤ 3000) (hr : ∀ r ∈ l, r.length ≤ 300) : bosketref07_SameRows 5000 l l = some true := by
  unfold bosketref07_SameRows
  have := rowsame_l3 l hz hr l.length 0 5000 (by omega) (by omega)
  rw [if_neg (by simp)]
  exact_mod_cast this
theorem Tab.rows {n : S24} {bs : List Nat} {R : List (List Bool)} {i : Nat} {N : List (List Int)} (h : Tab n bs R i N) : ∀ r ∈ N, r.length = bs.length := by
  intro r hr
  obtain ⟨q, hq, rfl⟩ := List.getElem_of_mem hr
  obtain ⟨s, row, _, r2, r3, _⟩ := h.2 q (by have := h.1; omega)
  rw [List.getElem?_eq_getElem hq] at r2
  cases r2; exact r3
theorem tab0 (n : S24) (bs : List Nat) (R : List (List Bool)) : Tab n bs R 0 [] := ⟨rfl, fun q hq => by omega⟩
/-- What comes out, when it does. -/
theorem out_of {n : S24} {kk : Nat → ByteArray} {B : Nat} (hB : B ≤ 2000) {R : List (List Bool)} {N : List (List Int)} (h : mainF n (RP kk) B 5000 0 [F0 n] [] = some (R, N)) : Tab n (RP kk) R R.length N ∧ R[0]? = some (F0 n) ∧ (∀ r ∈ R, r.length = NN n) ∧ R.length ≤ 2300 ∧ N.length ≤ 2300 ∧ ∀ r ∈ N, r.length ≤ 300 := by
  have hl := RP_len kk
  by_cases hb : 1 ≤ B + (RP kk).length
  · obtain ⟨h1, h2, h3, h4⟩ := mainF_tab n (RP kk) B 5000 0 [F0 n] [] R N (by omega) (tab0 n _ _) (fun r hr => by rw [List.mem_singleton.1 hr]; exact F0_len n) (by simpa using hb) h
    exact ⟨h1, h2 0 _ rfl, h3, by omega, by have := h1.1; omega, fun r hr => by rw [h1.rows r hr]; omega⟩
  · exfalso
    have := RP_get kk (b := 0) (by omega)
    have := (List.getElem?_eq_some_iff.1 this).1
    omega
end Go.Avl.T5
/- SubsetOf: the plain law. -/
namespace Go.Avl.T5
open Go Go.RowKit Go.Proofs Go.Avl
set_option linter.all false
set_option maxRecDepth 10000

theorem awake07 : bosketlaw07_awake 5000 = some true := by decide +kernel
theorem sofl_l1 {n : S24} {kk : Nat → ByteArray} (hk : CK n kk) {v : Vector Int 256} (hv : ∀ c : Nat, c < 256 → vget v (c : Int) = (ck kk c : Int)) (N : List (List Int)) (K : List Int) (e : Int) (t18 : List (List Int) × List Int) (hc : bosketlaw07_SubsetOf_c0 5000 (S30.mk v N K, e) t18 = some true) : ∀ (m b fuel : Nat), b + m = 256 → m < fuel → bosketlaw07_SubsetOf_l1 5000 (S30.mk v N K, e) t18 ((RP kk).map Int.ofNat) (ss n.f1) fuel (b : Int) = some true
  | 0, b, f + 1, hb, _ => by rw [bosketlaw07_SubsetOf_l1.eq_2, if_neg (by omega)]; exact hc
  | m + 1, b, f + 1, hb, hf => by
    have ih := sofl_l1 hk hv N K e t18 hc m (b + 1) f (by omega) (by omega)
    have hb' : b < 256 := by omega
    have hg := RP_get kk hb'
    obtain ⟨g1, g2⟩ := List.getElem?_eq_some_iff.1 hg
    have hcl := ck_le kk b
    have hlen : (((RP kk).map Int.ofNat).length : Int) = ((RP kk).length : Int) := by simp
    have hget : lget ((RP kk).map Int.ofNat) ((ck kk b : Nat) : Int) = (rc kk b : Int) := by
      rw [lget_lt _ _ (by simpa using g1), List.getElem_map, g2]; rfl
    rw [bosketlaw07_SubsetOf_l1.eq_2, if_pos (by omega), rclass_eq hk hb', Option.bind_some]
    show (Option.bind (if 0 ≤ (b : Int) ∧ (b : Int) < 256 then if (((RP kk).map Int.ofNat).length : Int) ≤ w64 (vget v (b : Int)) then some true else if 0 ≤ (b : Int) ∧ (b : Int) < 256 then if 0 ≤ vget v (b : Int) ∧ vget v (b : Int) < (((RP kk).map Int.ofNat).length : Int) then some (decide (lget ((RP kk).map Int.ofNat) (vget v (b : Int)) ≠ (rc kk b : Int))) else none else none else none) _) = _
    rw [hv b hb', w6 (x := ((ck kk b : Nat) : Int)) (by omega) (by omega), hlen, if_pos ⟨by omega, by omega⟩, if_neg (by omega), if_pos ⟨by omega, by omega⟩, if_pos ⟨by omega, by omega⟩, hget, decide_eq_false (fun h => h rfl), Option.bind_some, if_neg (by decide), w6 (by omega) (by omega)]
    exact_mod_cast ih
theorem sofl_l4 (n : S24) (hz : n.f1.length ≤ 1000) (t11 : S30 × Int) (t18 : List (List Int) × List Int) (t20 : List Int) : ∀ (m i fuel : Nat) (a : List (Vector Int 4)), i + m = n.f1.length → m < fuel → a.length ≤ i → bosketlaw07_SubsetOf_l4 5000 n t11 t18 t20 fuel a (i : Int) = bosketlaw07_SubsetOf_c2 5000 t11 t18 t20 (a ++ ss (n.f1.drop i))
  | 0, i, f + 1, a, hi, _, _ => by
    rw [bosketlaw07_SubsetOf_l4.eq_2, if_neg (by omega), List.drop_of_length_le (by omega), ss, List.append_nil]
  | m + 1, i, f + 1, a, hi, hf, ha => by
    have hi' : i < n.f1.length := by omega
    rw [bosketlaw07_SubsetOf_l4.eq_2, if_pos (by omega), if_pos ⟨by omega, by omega⟩, lget_lt _ i hi', List.drop_eq_getElem_cons hi', ss]
    unfold bosketlaw07_SubsetOf_c3
    rw [w6 (by omega) (by omega)]
    cases b : n.f1[i].f3 with
    | true =>
      rw [if_neg (by decide), if_pos rfl]
      exact_mod_cast sofl_l4 n hz t11 t18 t20 m (i + 1) f a (by omega) (by omega) (by omega)
    | false =>
      have ih := sofl_l4 n hz t11 t18 t20 m (i + 1) f (a ++ [n.f1[i].f2]) (by omega) (by omega) (by simp; omega)
      rw [List.append_assoc] at ih
      rw [if_pos (by decide), if_pos ⟨by omega, by omega⟩, if_pos (by simp; omega), if_neg (by decide)]; exact_mod_cast ih
theorem bosketlaw07_SubsetOf_true (a0 : S24) (a1 : (List Int)) (h0 : wf24 a0) (h1 : wf25 a1) : ∃ k, bosketlaw07_SubsetOf k a0 a1 = some true := by
  refine ⟨5000, ?_⟩
  unfold bosketlaw07_SubsetOf
  rw [awake07, Option.bind_some, if_neg (by decide)]
  by_cases q1 : (12 : Int) < a0.f0
  · rw [if_pos q1, Option.bind_some, if_pos rfl]
  rw [if_neg q1]
  by_cases q2 : (30 : Int) < (a0.f1.length : Int)
  · rw [if_pos q2, Option.bind_some, if_pos rfl]
  rw [if_neg q2, Option.bind_some]
  by_cases q3 : (40 : Int) < (a1.length : Int)
  · rw [if_pos (decide_eq_true q3)]
  rw [if_neg (by simpa using q3)]
  have hu : ∀ e ∈ a0.f1, U e.f2 := fun e he => U_of (h0.2.1.2 e he).2.2.1
  have hr := rright_eq a0 (by omega)
  have hr2 := right_eq a0 (by omega)
  cases hb : rtB a0 with
  | false =>
    rw [hb] at hr hr2
    have : subset_Of 5000 a0 a1 = some (S30.mk (Vector.replicate 256 (0 : Int)) [] [], 1) := by
      unfold subset_Of
      rw [hr2, Option.bind_some, if_pos (by decide)]
    rw [this, Option.bind_some, hr, Option.bind_some, if_pos (by decide)]; rfl
  | true =>
    have h : Rt a0 := rt_of hb (by omega) (by omega) hu
    obtain ⟨kk, hk⟩ := CK_ex a0 (by omega) hu
    obtain ⟨v, v1, v2⟩ := sof_eq h hk a1
    have rv := rof07_eq h hk a1
    rw [hb] at hr
    cases e3 : mainF a0 (RP kk) 300 5000 0 [F0 a0] [] with
    | none =>
      rw [e3] at rv
      cases e2 : mainF a0 (RP kk) 2000 5000 0 [F0 a0] [] with
      | none => rw [e2] at v2; rw [v2, Option.bind_some, hr, Option.bind_some, if_neg (by decide), rv, Option.bind_some]; rfl
      | some x => rw [e2] at v2; rw [v2, Option.bind_some, hr, Option.bind_some, if_neg (by decide), rv, Option.bind_some]; rfl
    | some x =>
      obtain ⟨R, N⟩ := x
      have e2 := mainF_mono a0 (RP kk) 5000 0 [F0 a0] [] _ e3
      rw [e3] at rv
      rw [e2] at v2
      obtain ⟨o1, o2, o3, o4, o5, o6⟩ := out_of (by omega) e3
      have hRpos := (List.getElem?_eq_some_iff.1 o2).1
      have hNl := o1.1
      rw [v2, Option.bind_some, hr, Option.bind_some, if_neg (by decide), rv, Option.bind_some, if_neg (show ¬ ((N.length : Int) = 0) by omega), reps_eq hk h.n2, Option.bind_some]
      have l4 := sofl_l4 a0 h.n2 (S30.mk v N (R.map (MK a1)), 0) (N, R.map (MK a1)) ((RP kk).map Int.ofNat) a0.f1.length 0 5000 [] (by omega) (by omega) (by simp)
      rw [Int.natCast_zero, List.drop_zero, List.nil_append] at l4
      refine l4.trans ?_
      unfold bosketlaw07_SubsetOf_c2
      have l1 := sofl_l1 hk v1 N (R.map (MK a1)) 0 (N, R.map (MK a1)) (by
        unfold bosketlaw07_SubsetOf_c0
        show (Option.bind (if (0 : Int) = 0 then (bosketref07_SameRows 5000 N N).bind fun t26 => if t26 = true then (bosketref01_Same 5000 (R.map (MK a1)) (R.map (MK a1))).bind fun t28 => some t28 else some false else some false) _) = _
        rw [if_pos rfl, rowsame N (by omega) o6, Option.bind_some, if_pos rfl, isame _ (by simp; omega)]; rfl) 256 0 5000 (by omega) (by omega)
      exact_mod_cast l1
end Go.Avl.T5
