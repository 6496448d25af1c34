/- Parts: T5L2, T5L3, T5L4, T5PureMiniLeast. -/
import Derived.Test.YtoaomnfenofglaaAM2
import Derived.Test.YtoaomnfenofglaaAF5
import Derived.Test.YtoaomnfenofglaaAF1
import Derived.Test.YtoaomnfenofglaaAF6
import Derived.Test.YtoaomnfenofglaaAM1
import Derived.Test.YtoaomnfenofglaaAF4
/- The document's Apart. -/
namespace Go.Avl.T5
open Go Go.RowKit Go.Proofs Go.Avl
set_option linter.all false
set_option maxRecDepth 10000

theorem g_lset {α : Type} [Inhabited α] (l : List α) {i q : Nat} (x : α) (h : i < l.length) : lget (lset l (i : Int) x) (q : Int) = if q = i then x else lget l (q : Int) := by
  unfold lget lset
  rw [Int.toNat_natCast, Int.toNat_natCast, List.getD, List.getD]
  by_cases e : q = i
  · rw [if_pos e, e, List.getElem?_set_self h]; rfl
  · rw [if_neg e, List.getElem?_set_ne (fun k => e k.symm)]
theorem g_len {α : Type} (l : List α) (i : Int) (x : α) : (lset l i x).length = l.length := by simp [lset]
def en (x : List (List Bool)) (i k : Nat) : Bool := lget (lget x (i : Int)) (k : Int)
/-- Told apart by words of so many bytes. -/
def Told (d : S30) (r i k : Nat) : Prop := ∃ w, Byt w ∧ w.length ≤ r ∧ LN d i w ≠ LN d k w
structure AJ (d : S30) (r i k : Nat) (x : List (List Bool)) : Prop where
  len : x.length = d.f1.length + 1
  row : ∀ a, a ≤ d.f1.length → (lget x (a : Int)).length = d.f1.length + 1
  snd : ∀ a b, a ≤ d.f1.length → b ≤ d.f1.length → en x a b = true → ∃ w, Byt w ∧ LN d a w ≠ LN d b w
  cmp : ∀ a b, a ≤ d.f1.length → b ≤ d.f1.length → Told d r a b → en x a b = true
  don : ∀ a b, a ≤ d.f1.length → b ≤ d.f1.length → (a < i ∨ (a = i ∧ b < k)) → Told d (r + 1) a b → en x a b = true
theorem rto_eq {d : S30} (h : Dr d) {i c : Nat} (hi : i ≤ d.f1.length) (hc : c < KC d) : bosketref09_to 5000 d (i : Int) (c : Int) = some (dl d i c : Int) := by
  have hk := KC_eq h
  unfold bosketref09_to dl
  by_cases a : (d.f1.length : Int) ≤ (i : Int)
  · rw [if_pos a, Option.bind_some, if_pos rfl, if_neg (by omega)]
  · have hr := h.rowk (i := (i : Int)) (by omega) (by omega)
    have gi : 0 ≤ (i : Int) ∧ (i : Int) < (d.f1.length : Int) := ⟨by omega, by omega⟩
    have gc : 0 ≤ (c : Int) ∧ (c : Int) < ((lget d.f1 (i : Int)).length : Int) := ⟨by omega, by omega⟩
    rw [if_neg a, if_pos gi, if_pos gc, Option.bind_some]
    by_cases b : lget (lget d.f1 (i : Int)) (c : Int) < 0
    · rw [decide_eq_true b, if_pos rfl, if_neg (by omega)]
    · rw [decide_eq_false b, if_neg (by decide), if_pos gi, if_pos gc, if_pos ⟨by omega, by omega⟩, Int.toNat_of_nonneg (by omega)]
theorem en_set {x : List (List Bool)} {i k : Nat} (hi : i < x.length) (hk : k < (lget x (i : Int)).length) (v : Bool) (a b : Nat) : en (lset x (i : Int) (lset (lget x (i : Int)) (k : Int) v)) a b = if a = i ∧ b = k then v else en x a b := by
  unfold en
  rw [g_lset x _ hi]
  by_cases e : a = i
  · rw [if_pos e, g_lset _ _ hk]
    by_cases f : b = k
    · rw [if_pos f, if_pos ⟨e, f⟩]
    · rw [if_neg f, if_neg fun q => f q.2, e]
  · rw [if_neg e, if_neg fun q => e q.1]
theorem AJ.exit {d : S30} {r i k : Nat} {x : List (List Bool)} (j : AJ d r i k x) (hd : Told d (r + 1) i k → en x i k = true) : AJ d r i (k + 1) x :=
  ⟨j.len, j.row, j.snd, j.cmp, fun a b ha hb q t => by
    by_cases e : a = i ∧ b = k
    · rw [e.1, e.2] at t ⊢; exact hd t
    · exact j.don a b ha hb (by omega) t⟩
theorem apart_l4 {d : S30} (h : Dr d) (rec27 : List (List Bool) → Int → Option (List (List Bool))) (r : Nat) {i k : Nat} (hi : i ≤ d.f1.length) (hk : k ≤ d.f1.length) (R : Option (List (List Bool))) (hR : ∀ y, AJ d r i (k + 1) y → rec27 y ((k + 1 : Nat) : Int) = R) : ∀ (m c fuel : Nat) (x : List (List Bool)), c + m = KC d → m < fuel → AJ d r i k x → (∀ c', c' < c → Told d r (dl d i c') (dl d k c') → en x i k = true) →
    bosketref09_Apart_l4 5000 rec27 d (i : Int) (k : Int) fuel x (c : Int) = R := by
  intro m
  have hn := h.n2
  have h1 := h.n1
  have hK := KC_eq h
  have hK2 := KC_le h
  have r0 := h.rowk (i := 0) (by omega) (by omega)
  have g0 : 0 ≤ (0 : Int) ∧ (0 : Int) < (d.f1.length : Int) := ⟨by omega, by omega⟩
  induction m with
  | zero =>
    intro c fuel x hc hf hj hq
    obtain ⟨fu, rfl⟩ : ∃ fu, fuel = fu + 1 := ⟨fuel - 1, by omega⟩
    rw [bosketref09_Apart_l4.eq_2, if_pos g0, if_neg (by omega), Option.bind_some, if_neg (by decide)]
    unfold bosketref09_Apart_c3
    rw [w6 (by omega) (by omega)]
    refine hR x (hj.exit ?_)
    rintro ⟨w, w1, w2, w3⟩
    cases w with
    | nil => exact hj.cmp i k hi hk ⟨[], byt_nil, by simp, w3⟩
    | cons b w =>
      have hb := w1.hd
      rw [LN_cons h hi hb, LN_cons h hk hb] at w3
      exact hq (cls d b) (by have := (cls_eq h hb).2; omega) ⟨w, w1.tl, by simp at w2; omega, w3⟩
  | succ m ih =>
    intro c fuel x hc hf hj hq
    obtain ⟨fu, rfl⟩ : ∃ fu, fuel = fu + 1 := ⟨fuel - 1, by omega⟩
    have hl := hj.len
    have hri := hj.row i hi
    have gi : 0 ≤ (i : Int) ∧ (i : Int) < (x.length : Int) := ⟨by omega, by omega⟩
    have gk : 0 ≤ (k : Int) ∧ (k : Int) < ((lget x (i : Int)).length : Int) := ⟨by omega, by omega⟩
    rw [bosketref09_Apart_l4.eq_2, if_pos g0, if_pos (by omega), if_pos gi, if_pos gk, Option.bind_some]
    cases hb : lget (lget x (i : Int)) (k : Int) with
    | true =>
      rw [if_neg (by decide)]
      unfold bosketref09_Apart_c3
      rw [w6 (by omega) (by omega)]
      exact hR x (hj.exit fun _ => hb)
    | false =>
      have hcK : c < KC d := by omega
      have d1 := dl_le h (i := i) hcK
      have d2 := dl_le h (i := k) hcK
      have hrd := hj.row _ d1
      have hen : en x i k = false := hb
      rw [if_pos (by decide), if_pos gi, rto_eq h hi hcK, Option.bind_some, if_pos ⟨by omega, by omega⟩, rto_eq h hk hcK, Option.bind_some, if_pos ⟨by omega, by omega⟩, if_pos gk, w6 (by omega) (by omega)]
      have es := en_set (x := x) (i := i) (k := k) (by omega) (by omega) (lget (lget x (dl d i c : Int)) (dl d k c : Int))
      have this := ih (c + 1) fu (lset x (i : Int) (lset (lget x (i : Int)) (k : Int) (lget (lget x (dl d i c : Int)) (dl d k c : Int)))) (by omega) (by omega) ⟨by rw [g_len]; exact hl, fun a ha => ?_, fun a b ha hb2 he => ?_, fun a b ha hb2 ht => ?_, fun a b ha hb2 hlt ht => ?_⟩ (fun c' hc' ht => ?_)
      · exact_mod_cast this
      · rw [g_lset x _ (by omega)]
        by_cases e : a = i
        · rw [if_pos e, g_len]; exact hri
        · rw [if_neg e]; exact hj.row a ha
      · rw [es] at he
        by_cases e : a = i ∧ b = k
        · rw [if_pos e] at he
          obtain ⟨w, w1, w2⟩ := hj.snd _ _ d1 d2 he
          obtain ⟨y, y1, y2⟩ := cls_onto h hcK
          rw [e.1, e.2]
          refine ⟨y :: w, Byt.cons y1 w1, ?_⟩
          rw [LN_cons h hi y1, LN_cons h hk y1, y2]; exact w2
        · rw [if_neg e] at he
          exact hj.snd a b ha hb2 he
      · rw [es]
        by_cases e : a = i ∧ b = k
        · rw [e.1, e.2] at ht
          have := hj.cmp i k hi hk ht
          rw [hen] at this; cases this
        · rw [if_neg e]; exact hj.cmp a b ha hb2 ht
      · rw [es]
        have e : ¬ (a = i ∧ b = k) := by omega
        rw [if_neg e]; exact hj.don a b ha hb2 hlt ht
      · rw [es, if_pos ⟨rfl, rfl⟩]
        rcases Nat.lt_or_ge c' c with u | u
        · have := hq c' u ht
          rw [hen] at this; cases this
        · have : c' = c := by omega
          subst this
          exact hj.cmp _ _ d1 d2 ht
theorem apart_l5 {d : S30} (h : Dr d) (rec19 : List (List Bool) → Int → Option (List (List Bool))) (r : Nat) {i : Nat} (hi : i ≤ d.f1.length) (R : Option (List (List Bool))) (hR : ∀ y, AJ d r (i + 1) 0 y → rec19 y ((i + 1 : Nat) : Int) = R) : ∀ (m k fuel : Nat) (x : List (List Bool)), k + m = d.f1.length + 1 → m < fuel → AJ d r i k x →
    bosketref09_Apart_l5 5000 rec19 d (i : Int) fuel x (k : Int) = R
  | 0, k, fu + 1, x, hk, _, hj => by
    have hn := h.n2
    rw [bosketref09_Apart_l5.eq_2, w6 (x := (d.f1.length : Int) + 1) (by omega) (by omega), if_neg (by omega)]
    unfold bosketref09_Apart_c2
    rw [w6 (by omega) (by omega)]
    exact hR x ⟨hj.len, hj.row, hj.snd, hj.cmp, fun a b ha hb q t => hj.don a b ha hb (by omega) t⟩
  | m + 1, k, fu + 1, x, hk, hf, hj => by
    have hn := h.n2
    have hK2 := KC_le h
    rw [bosketref09_Apart_l5.eq_2, w6 (x := (d.f1.length : Int) + 1) (by omega) (by omega), if_pos (by omega)]
    exact apart_l4 h _ r hi (by omega) R (fun y hy => apart_l5 h rec19 r hi R hR m (k + 1) fu y (by omega) (by omega) hy) (KC d) 0 5000 x (by omega) (by omega) hj (fun c' hc' => by omega)
theorem apart_l6 {d : S30} (h : Dr d) (rec11 : List (List Bool) → Int → Option (List (List Bool))) (r : Nat) (hr : r ≤ 10000) (R : Option (List (List Bool))) (hR : ∀ y, AJ d (r + 1) 0 0 y → rec11 y ((r + 1 : Nat) : Int) = R) : ∀ (m i fuel : Nat) (x : List (List Bool)), i + m = d.f1.length + 1 → m < fuel → AJ d r i 0 x →
    bosketref09_Apart_l6 5000 rec11 d (r : Int) fuel x (i : Int) = R
  | 0, i, fu + 1, x, hi, _, hj => by
    have hn := h.n2
    rw [bosketref09_Apart_l6.eq_2, w6 (x := (d.f1.length : Int) + 1) (by omega) (by omega), if_neg (by omega)]
    unfold bosketref09_Apart_c1
    rw [w6 (by omega) (by omega)]
    exact hR x ⟨hj.len, hj.row, hj.snd, fun a b ha hb t => hj.don a b ha hb (by omega) t, fun a b ha hb q t => by omega⟩
  | m + 1, i, fu + 1, x, hi, hf, hj => by
    have hn := h.n2
    rw [bosketref09_Apart_l6.eq_2, w6 (x := (d.f1.length : Int) + 1) (by omega) (by omega), if_pos (by omega)]
    exact apart_l5 h _ r (by omega) R (fun y hy => apart_l6 h rec11 r hr R hR m (i + 1) fu y (by omega) (by omega) hy) (d.f1.length + 1) 0 5000 x (by omega) (by omega) hj
/-- The answer of Apart. -/
structure AP (d : S30) (x : List (List Bool)) : Prop where
  len : x.length = d.f1.length + 1
  row : ∀ a, a ≤ d.f1.length → (lget x (a : Int)).length = d.f1.length + 1
  ap : ∀ a b, a ≤ d.f1.length → b ≤ d.f1.length → (en x a b = true ↔ ∃ w, Byt w ∧ LN d a w ≠ LN d b w)
theorem apart_l7 {d : S30} (h : Dr d) : ∀ (m r fuel : Nat) (x : List (List Bool)), r + m = d.f1.length + 1 → m < fuel → AJ d r 0 0 x → ∃ y, bosketref09_Apart_l7 5000 d fuel x (r : Int) = some y ∧ AP d y
  | 0, r, fu + 1, x, hr, _, hj => by
    have hn := h.n2
    refine ⟨x, ?_, hj.len, hj.row, fun a b ha hb => ⟨hj.snd a b ha hb, fun hw => ?_⟩⟩
    · rw [bosketref09_Apart_l7.eq_2, w6 (x := (d.f1.length : Int) + 1) (by omega) (by omega), if_neg (by omega)]; rfl
    · obtain ⟨w, w1, w2, w3⟩ := apart_short h ha hb hw
      exact hj.cmp a b ha hb ⟨w, w1, by omega, w3⟩
  | m + 1, r, fu + 1, x, hr, hf, hj => by
    have hn := h.n2
    have ex : ∃ R, bosketref09_Apart_l6 5000 (bosketref09_Apart_l7 5000 d fu) d (r : Int) 5000 x (0 : Int) = R := ⟨_, rfl⟩
    -- one round makes a row of rows; the next rounds answer
    have key : ∀ y, AJ d (r + 1) 0 0 y → ∃ z, bosketref09_Apart_l7 5000 d fu y ((r + 1 : Nat) : Int) = some z ∧ AP d z := fun y hy => apart_l7 h m (r + 1) fu y (by omega) (by omega) hy
    rw [bosketref09_Apart_l7.eq_2, w6 (x := (d.f1.length : Int) + 1) (by omega) (by omega), if_pos (by omega)]
    -- all answers are one: Apart's answer is told by AP
    have uniq : ∀ y z, AP d y → AP d z → y = z := by
      intro y z hy hz
      refine List.ext_getElem (by rw [hy.len, hz.len]) fun a a1 a2 => ?_
      have ha : a ≤ d.f1.length := by have := hy.len; omega
      have ry := hy.row a ha
      have rz := hz.row a ha
      rw [lget_lt _ a a1] at ry
      rw [lget_lt _ a a2] at rz
      refine List.ext_getElem (by rw [ry, rz]) fun b b1 b2 => ?_
      have hb : b ≤ d.f1.length := by omega
      have ey := hy.ap a b ha hb
      have ez := hz.ap a b ha hb
      rw [← ez] at ey
      unfold en at ey
      rw [lget_lt _ a a1, lget_lt _ a a2, lget_lt _ b b1, lget_lt _ b b2] at ey
      exact Bool.eq_iff_iff.2 ey
    by_cases hex : ∃ y, AJ d (r + 1) 0 0 y
    · obtain ⟨y0, hy0⟩ := hex
      obtain ⟨z0, e0, p0⟩ := key y0 hy0
      refine ⟨z0, ?_, p0⟩
      exact apart_l6 h _ r (by omega) (some z0) (fun y hy => by
        obtain ⟨z, e1, p1⟩ := key y hy
        rw [e1, uniq z z0 p1 p0]) (d.f1.length + 1) 0 5000 x (by omega) (by omega) hj
    · exfalso
      have := apart_l6 h (fun _ _ => none) r (by omega) (some []) (fun y hy => absurd ⟨y, hy⟩ hex) (d.f1.length + 1) 0 5000 x (by omega) (by omega) hj
      have h2 := apart_l6 h (fun _ _ => none) r (by omega) none (fun y hy => rfl) (d.f1.length + 1) 0 5000 x (by omega) (by omega) hj
      rw [this] at h2; cases h2
theorem rmk_eq (d : S30) (k : Nat) (s : Int) : bosketref08_Mark k d s = some (mk d s) := by
  unfold bosketref08_Mark mk
  by_cases a : s < 0
  · rw [if_pos a, Option.bind_some, if_pos rfl, if_pos (.inl a)]
  · rw [if_neg a, Option.bind_some]
    by_cases b : (d.f2.length : Int) ≤ s
    · rw [decide_eq_true b, if_pos rfl, if_pos (.inr b)]
    · rw [decide_eq_false b, if_neg (by decide), if_pos ⟨by omega, by omega⟩, if_neg (by omega)]
theorem apart_l11 {d : S30} (h : Dr d) (rec54 : List (List Bool) → Int → Option (List (List Bool))) (X : List (List Bool)) (hX : X.length ≤ 2000) {i : Nat} (hi : i ≤ d.f1.length) : ∀ (m k fuel : Nat) (x : List Bool), k + m = d.f1.length + 1 → m < fuel → x.length = d.f1.length + 1 → (∀ q : Nat, q < k → lget x (q : Int) = decide (mk d (i : Int) ≠ mk d (q : Int))) →
    ∃ y : List Bool, y.length = d.f1.length + 1 ∧ (∀ q : Nat, q ≤ d.f1.length → lget y (q : Int) = decide (mk d (i : Int) ≠ mk d (q : Int))) ∧ bosketref09_Apart_l11 5000 rec54 d X (i : Int) fuel x (k : Int) = rec54 (X ++ [y]) ((i + 1 : Nat) : Int)
  | 0, k, fu + 1, x, hk, _, hx, hq => by
    have hn := h.n2
    refine ⟨x, hx, fun q q1 => hq q (by omega), ?_⟩
    rw [bosketref09_Apart_l11.eq_2, w6 (x := (d.f1.length : Int) + 1) (by omega) (by omega), if_neg (by omega)]
    unfold bosketref09_Apart_c10 bosketref09_Apart_c9
    rw [if_pos (by simp; omega), w6 (by omega) (by omega)]; rfl
  | m + 1, k, fu + 1, x, hk, hf, hx, hq => by
    have hn := h.n2
    obtain ⟨y, y1, y2, y3⟩ := apart_l11 h rec54 X hX hi m (k + 1) fu (lset x (k : Int) (decide (mk d (i : Int) ≠ mk d (k : Int)))) (by omega) (by omega) (by rw [g_len]; exact hx) (fun q q1 => by
      rw [g_lset x _ (by omega)]
      by_cases e : q = k
      · rw [if_pos e, e]
      · rw [if_neg e]; exact hq q (by omega))
    refine ⟨y, y1, y2, ?_⟩
    rw [bosketref09_Apart_l11.eq_2, w6 (x := (d.f1.length : Int) + 1) (by omega) (by omega), if_pos (by omega), rmk_eq, rmk_eq, Option.bind_some, Option.bind_some, if_pos ⟨by omega, by omega⟩, w6 (by omega) (by omega)]
    exact_mod_cast y3
theorem apart_l12 {d : S30} (h : Dr d) : ∀ (m i fuel : Nat) (X : List (List Bool)), i + m = d.f1.length + 1 → m < fuel → X.length = i → (∀ a : Nat, a < i → (lget X (a : Int)).length = d.f1.length + 1 ∧ ∀ b : Nat, b ≤ d.f1.length → en X a b = decide (mk d (a : Int) ≠ mk d (b : Int))) →
    ∃ y, bosketref09_Apart_l12 5000 d fuel X (i : Int) = some y ∧ AP d y
  | 0, i, fu + 1, X, hi, _, hX, hq => by
    have hn := h.n2
    rw [bosketref09_Apart_l12.eq_2, w6 (x := (d.f1.length : Int) + 1) (by omega) (by omega), if_neg (by omega)]
    unfold bosketref09_Apart_c8
    refine apart_l7 h (d.f1.length + 1) 0 5000 X (by omega) (by omega) ⟨by omega, fun a ha => (hq a (by omega)).1, fun a b ha hb he => ?_, fun a b ha hb ht => ?_, fun a b ha hb q t => by omega⟩
    · rw [(hq a (by omega)).2 b hb, decide_eq_true_eq] at he
      exact ⟨[], byt_nil, by rw [LN_nil h ha, LN_nil h hb]; exact he⟩
    · obtain ⟨w, w1, w2, w3⟩ := ht
      have : w = [] := List.eq_nil_of_length_eq_zero (by omega)
      subst this
      rw [LN_nil h ha, LN_nil h hb] at w3
      rw [(hq a (by omega)).2 b hb, decide_eq_true_eq]; exact w3
  | m + 1, i, fu + 1, X, hi, hf, hX, hq => by
    have hn := h.n2
    rw [bosketref09_Apart_l12.eq_2, w6 (x := (d.f1.length : Int) + 1) (by omega) (by omega), if_pos (by omega), if_pos ⟨by omega, by omega, by omega⟩]
    have et : ((d.f1.length : Int) + 1).toNat = d.f1.length + 1 := by omega
    rw [et]
    obtain ⟨y, y1, y2, y3⟩ := apart_l11 h (bosketref09_Apart_l12 5000 d fu) X (by omega) (i := i) (by omega) (d.f1.length + 1) 0 5000 (List.replicate (d.f1.length + 1) false) (by omega) (by omega) (by simp) (fun q q1 => by omega)
    have y3 : bosketref09_Apart_l11 5000 _ d X (i : Int) 5000 _ (0 : Int) = _ := y3
    rw [y3]
    refine apart_l12 h m (i + 1) fu (X ++ [y]) (by omega) (by omega) (by simp [hX]) fun a ha => ?_
    rcases Nat.lt_or_ge a i with u | u
    · have e : lget (X ++ [y]) (a : Int) = lget X (a : Int) := by rw [lget_lt _ a (by simp; omega), lget_lt _ a (by omega), List.getElem_append_left]
      have := hq a u
      unfold en at this ⊢
      rw [e]; exact this
    · have : a = i := by omega
      subst this
      have e : lget (X ++ [y]) (a : Int) = y := by
        rw [lget_lt _ a (by simp [hX])]
        rw [List.getElem_append_right (by omega)]; simp [hX]
      unfold en
      rw [e]; exact ⟨y1, y2⟩
theorem apart_eq {d : S30} (h : Dr d) : ∃ y, bosketref09_Apart 5000 d = some y ∧ AP d y :=
  apart_l12 h (d.f1.length + 1) 0 5000 [] (by omega) (by have := h.n2; omega) rfl fun a ha => by omega
end Go.Avl.T5
/- The document's Blocks. -/
namespace Go.Avl.T5
open Go Go.RowKit Go.Proofs Go.Avl
set_option linter.all false
set_option maxRecDepth 10000

end Go.Avl.T5
/- mini: what is made is in order, trimmed, its states told apart, its classes too. -/
namespace Go.Avl.T5
open Go Go.RowKit Go.Proofs Go.Avl
set_option linter.all false
set_option maxRecDepth 10000

/-- Put in order once more: the same. -/
theorem ORD_ORD {d : S30} (h : Dr d) : ORD (ORD d) = ORD d := by
  have hO := OL_OI h
  obtain ⟨z1, z2⟩ := ORD_zero h
  have hm := h.ml
  refine Iso.ORD (φ := pl (OL d)) (V := fun x => x = -1 ∨ x ∈ OL d) ⟨rfl, z2, .inr z1, ?_, ?_, ?_, ?_⟩
  · rintro x (rfl | hx)
    · rw [pl_neg1 h]
    · obtain ⟨j, j1, j2, j3⟩ := pl_get hx
      have := hO.rng x hx
      omega
  · rintro x y (rfl | hx) (rfl | hy) e
    · rfl
    · rw [pl_neg1 h] at e
      obtain ⟨j, j1, j2, j3⟩ := pl_get hy
      omega
    · rw [pl_neg1 h] at e
      obtain ⟨j, j1, j2, j3⟩ := pl_get hx
      omega
    · obtain ⟨j, j1, j2, j3⟩ := pl_get hx
      obtain ⟨i, i1, i2, i3⟩ := pl_get hy
      have : i = j := by omega
      rw [← j3, ← i3, this]
  · rintro x (rfl | hx) h0
    · omega
    · refine ⟨ORD_row hx, fun y hy => ?_⟩
      have hr := hO.rng x hx
      have hge := row_ge h hr.1 hr.2 y hy
      obtain ⟨j, j1, j2, j3⟩ := pl_get hx
      by_cases e : y = -1
      · exact .inl e
      · exact .inr (hO.cls j (by omega) y (by rw [j3]; exact hy) (by omega))
  · rintro x (rfl | hx) h0
    · omega
    · have hr := hO.rng x hx
      have := ORD_mk h hx
      have hl := ORD_len d
      obtain ⟨j, j1, j2, j3⟩ := pl_get hx
      rw [mk_in (ORD_Dr h) (by omega) (by rw [hl]; omega), mk_in h hr.1 hr.2] at this
      exact this
/-- Trimmed once more: the same. -/
theorem TRM_same {x : S30} (h : Dr x) (t : TR x) {A : List Bool} (hA : AS x A) : TRM x A = x := by
  have : x.f1.map (fun r => r.map (tr A)) = x.f1 := by
    have e1 : x.f1.map (fun r => r.map (tr A)) = x.f1.map id := by
      refine List.map_inj_left.2 fun r hr => ?_
      show r.map (tr A) = r
      have e2 : r.map (tr A) = r.map id := by
        refine List.map_inj_left.2 fun y hy => ?_
        show tr A y = y
        obtain ⟨i, hi, rfl⟩ := lget_mem hr
        obtain ⟨c, hc, rfl⟩ := lget_mem hy
        obtain ⟨b, b1, b2⟩ := stp_row h (p := (i : Int)) (c := c) (by omega) (by omega) (by show (c : Int) < ((lget x.f1 (i : Int)).length : Int); omega)
        have hge := (stp_rng h (q := (i : Int)) (c := (b : Int)) ⟨by omega, by omega⟩ (by omega) (by omega))
        have b2 : stp x (i : Int) (b : Int) = lget (lget x.f1 (i : Int)) (c : Int) := b2
        rw [← b2]
        unfold tr
        rw [if_neg]
        rintro ⟨q0, q1⟩
        have := t i b hi b1 q0
        rw [(hA.2 _ q0 hge.2).2 this] at q1; cases q1
      rw [e2]; simp
    rw [e1]; simp
  unfold TRM
  rw [this]
/-- The machine made: where texts lead in it. -/
structure Fin (x e : S30) (kk : Nat → ByteArray) (v : Vector Int 256) : Prop where
  m : Mid e kk
  cv : CV (QO e kk) v
  e : x = ORD (CM (QO e kk) v)
theorem Fin.cdr {x e : S30} {kk : Nat → ByteArray} {v : Vector Int 256} (f : Fin x e kk v) : Dr (CM (QO e kk) v) := CM_Dr (QO_Dr f.m.dr kk) f.cv
theorem Fin.dr {x e : S30} {kk : Nat → ByteArray} {v : Vector Int 256} (f : Fin x e kk v) : Dr x := by rw [f.e]; exact ORD_Dr f.cdr
theorem Fin.sl {x e : S30} {kk : Nat → ByteArray} {v : Vector Int 256} (f : Fin x e kk v) : SL x e := by rw [f.e]; exact (CMO f.m f.cv).sl
theorem Fin.rch {x e : S30} {kk : Nat → ByteArray} {v : Vector Int 256} (f : Fin x e kk v) : RCH x := by rw [f.e]; exact ORD_RCH f.cdr
theorem CM_go {q : S30} (h : Dr q) {v : Vector Int 256} (hv : CV q v) : ∀ (w : List Nat) (p : Int), Byt w → -1 ≤ p ∧ p < (q.f1.length : Int) → go (CM q v) p w = go q p w
  | [], p, _, _ => rfl
  | b :: w, p, hw, hp => by
    have hb := hw.hd
    by_cases a : p = -1
    · rw [a, go_neg, go_neg]
    · obtain ⟨i, rfl⟩ := Int.eq_ofNat_of_zero_le (show 0 ≤ p by omega)
      have hr := stp_rng h (q := (i : Int)) (c := (b : Int)) hp (by omega) (by omega)
      rw [go, go, CM_stp h hv (by omega) hb]
      exact CM_go h hv w _ hw.tl hr
theorem Fin.go {x e : S30} {kk : Nat → ByteArray} {v : Vector Int 256} (f : Fin x e kk v) {w : List Nat} (hw : Byt w) : T5.go x 0 w = pl (OL (CM (QO e kk) v)) (bw e kk w) ∧ (bw e kk w = -1 ∨ bw e kk w ∈ OL (CM (QO e kk) v)) := by
  have hQ := QO_Dr f.m.dr kk
  have q1 := hQ.n1
  have e1 := f.m.dr.n1
  obtain ⟨z1, z2⟩ := ORD_zero f.cdr
  have hg : T5.go (CM (QO e kk) v) 0 w = bw e kk w := by
    rw [CM_go hQ f.cv w 0 hw (by omega)]
    have := QO_go f.m.dr f.m.cut f.m.stb f.m.tr w 0 hw (by omega)
    have hz : bt1 kk 0 = 0 := by
      have : bt1 kk ((0 : Nat) : Int) = 0 := by
        rw [bt1_nat]
        have := ck_le kk 0
        omega
      exact this
    rw [hz] at this; exact this
  obtain ⟨g1, g2⟩ := ORD_go f.cdr w 0 hw (.inr z1)
  rw [z2, hg] at g1
  rw [hg] at g2
  rw [f.e]
  exact ⟨g1, g2⟩
theorem Fin.pos {x e : S30} {kk : Nat → ByteArray} {v : Vector Int 256} (f : Fin x e kk v) {w : List Nat} (hw : Byt w) : 0 ≤ T5.go x 0 w ↔ 0 ≤ T5.go e 0 w := by
  obtain ⟨g1, g2⟩ := f.go hw
  rw [g1, ← bw_pos f.m hw]
  rcases g2 with g | g
  · rw [g, pl_neg1 f.cdr]
  · obtain ⟨j, j1, j2, j3⟩ := pl_get g
    have := (OL_OI f.cdr).rng _ g
    omega
theorem Fin.tr {x e : S30} {kk : Nat → ByteArray} {v : Vector Int 256} (f : Fin x e kk v) : TR x := by
  intro i b hi hb hp
  have e1 := f.m.dr.n1
  obtain ⟨w, w1, w2⟩ := f.rch i hi
  have hw := w1.app (byt_one hb)
  have es : stp x (i : Int) (b : Int) = T5.go x 0 (w ++ [b]) := by rw [go_snoc, w2]
  rw [es] at hp ⊢
  have he := (f.pos hw).1 hp
  rcases (pos_iff f.m.dr f.m.tr hw).1 he with q | ⟨u, u1, u2⟩
  · simp at q
  · have hx := f.dr.n1
    have hr := go_rng f.dr (w ++ [b]) 0 hw (by omega)
    refine (AL_iff f.dr hp hr.2).2 ⟨u, u1, ?_⟩
    rw [← f.sl _ (hw.app u1), LL_app] at u2
    exact u2
/-- Two states of what is made are told apart. -/
theorem Fin.two {x e : S30} {kk : Nat → ByteArray} {v : Vector Int 256} (f : Fin x e kk v) {i k : Nat} (hi : i < x.f1.length) (hk : k < x.f1.length) (hne : i ≠ k) : ∃ w, Byt w ∧ LN x i w ≠ LN x k w := by
  obtain ⟨w, w1, w2⟩ := f.rch i hi
  obtain ⟨u, u1, u2⟩ := f.rch k hk
  have hb : bw e kk w ≠ bw e kk u := fun q => by
    have g1 := (f.go w1).1
    have g2 := (f.go u1).1
    rw [w2] at g1
    rw [u2, ← q, ← g1] at g2
    omega
  have p1 := (f.pos w1).1 (by rw [w2]; omega)
  have p2 := (f.pos u1).1 (by rw [u2]; omega)
  have hiff := bw_iff f.m.dr f.m.cut f.m.stb f.m.tr w1 u1
  have : ∃ z, Byt z ∧ LL e 0 (w ++ z) ≠ LL e 0 (u ++ z) := Classical.byContradiction fun q => hb (hiff.2 ⟨⟨fun _ => p2, fun _ => p1⟩, fun z hz => Classical.byContradiction fun r => q ⟨z, hz, r⟩⟩)
  obtain ⟨z, z1, z2⟩ := this
  refine ⟨z, z1, ?_⟩
  rw [← f.sl _ (w1.app z1), ← f.sl _ (u1.app z1), LL_app, LL_app, w2, u2] at z2
  unfold LN
  rw [if_pos hi, if_pos hk]; exact z2
theorem Fin.out {x e : S30} {kk : Nat → ByteArray} {v : Vector Int 256} (f : Fin x e kk v) {i : Nat} (hi : i < x.f1.length) (h2 : 1 < x.f1.length) : ∃ w, Byt w ∧ LN x i w ≠ LN x x.f1.length w := by
  have alive : ∀ i : Nat, i < x.f1.length → 0 < i → ∃ u, Byt u ∧ 0 ≤ LL x (i : Int) u := by
    intro i hi h0
    obtain ⟨w, w1, w2⟩ := f.rch i hi
    have p1 := (f.pos w1).1 (by rw [w2]; omega)
    rcases (pos_iff f.m.dr f.m.tr w1).1 p1 with q | ⟨u, u1, u2⟩
    · subst q
      have : T5.go x 0 [] = 0 := rfl
      rw [this] at w2; omega
    · refine ⟨u, u1, ?_⟩
      rw [← f.sl _ (w1.app u1), LL_app, w2] at u2; exact u2
  have : ∃ u, Byt u ∧ 0 ≤ LL x (i : Int) u := by
    by_cases h0 : 0 < i
    · exact alive i hi h0
    · have : i = 0 := by omega
      subst this
      obtain ⟨u, u1, u2⟩ := alive 1 h2 (by omega)
      obtain ⟨w, w1, w2⟩ := f.rch 1 h2
      refine ⟨w ++ u, w1.app u1, ?_⟩
      show 0 ≤ LL x 0 (w ++ u)
      rw [LL_app, w2]; exact u2
  obtain ⟨u, u1, u2⟩ := this
  refine ⟨u, u1, ?_⟩
  have eo := LN_out (d := x) (i := x.f1.length) (by omega) u
  rw [eo]
  unfold LN
  rw [if_pos hi]; omega
/-! The document's Apartness. -/
theorem ap_l3 {x : S30} (h : Dr x) {t : List (List Bool)} (ha : AP x t) (hall : ∀ i k : Nat, i < x.f1.length → k < x.f1.length → i ≠ k → ∃ w, Byt w ∧ LN x i w ≠ LN x k w) (hout : 1 < x.f1.length → ∀ i, i < x.f1.length → ∃ w, Byt w ∧ LN x i w ≠ LN x x.f1.length w) (rec5 : Int → Option Bool) {i : Nat} (hi : i < x.f1.length) : ∀ (m k fuel : Nat), k + m = i → m < fuel →
    bosketref09_Apartness_l3 5000 rec5 x t (i : Int) fuel (k : Int) = rec5 ((i + 1 : Nat) : Int)
  | 0, k, fu + 1, hk, _ => by
    have hn := h.n2
    have hl := ha.len
    have hr := ha.row i (by omega)
    rw [bosketref09_Apartness_l3.eq_2, if_neg (by omega)]
    unfold bosketref09_Apartness_c2 bosketref09_Apartness_c1
    rw [if_pos ⟨by omega, by omega⟩, if_pos ⟨by omega, by omega⟩, w6 (by omega) (by omega)]
    by_cases q : 1 < x.f1.length
    · have := (ha.ap i x.f1.length (by omega) (Nat.le_refl _)).2 (hout q i hi)
      have e : lget (lget t (i : Int)) (x.f1.length : Int) = true := this
      rw [e, if_neg (by decide), Option.bind_some, if_neg (by decide)]; rfl
    · cases hb : lget (lget t (i : Int)) (x.f1.length : Int) with
      | true => rw [if_neg (by decide), Option.bind_some, if_neg (by decide)]; rfl
      | false => rw [if_pos (by decide), Option.bind_some, decide_eq_false (by omega), if_neg (by decide)]; rfl
  | m + 1, k, fu + 1, hk, hf => by
    have hn := h.n2
    have hl := ha.len
    have hr := ha.row i (by omega)
    have ih := ap_l3 h ha hall hout rec5 hi m (k + 1) fu (by omega) (by omega)
    have := (ha.ap i k (by omega) (by omega)).2 (hall i k hi (by omega) (by omega))
    have e : lget (lget t (i : Int)) (k : Int) = true := this
    rw [bosketref09_Apartness_l3.eq_2, if_pos (by omega), if_pos ⟨by omega, by omega⟩, if_pos ⟨by omega, by omega⟩, e, if_neg (by decide), w6 (by omega) (by omega)]
    exact_mod_cast ih
theorem ap_l4 {x : S30} (h : Dr x) {t : List (List Bool)} (ha : AP x t) (hall : ∀ i k : Nat, i < x.f1.length → k < x.f1.length → i ≠ k → ∃ w, Byt w ∧ LN x i w ≠ LN x k w) (hout : 1 < x.f1.length → ∀ i, i < x.f1.length → ∃ w, Byt w ∧ LN x i w ≠ LN x x.f1.length w) : ∀ (m i fuel : Nat), i + m = x.f1.length → m < fuel → bosketref09_Apartness_l4 5000 x t fuel (i : Int) = some true
  | 0, i, fu + 1, hi, _ => by rw [bosketref09_Apartness_l4.eq_2, if_neg (by omega)]; rfl
  | m + 1, i, fu + 1, hi, hf => by
    have hn := h.n2
    have ih := ap_l4 h ha hall hout m (i + 1) fu (by omega) (by omega)
    have := ap_l3 h ha hall hout (bosketref09_Apartness_l4 5000 x t fu) (i := i) (by omega) i 0 5000 (by omega) (by omega)
    rw [bosketref09_Apartness_l4.eq_2, if_pos (by omega)]
    rw [ih] at this
    exact this
theorem apartness_eq {x : S30} (h : Dr x) (hall : ∀ i k : Nat, i < x.f1.length → k < x.f1.length → i ≠ k → ∃ w, Byt w ∧ LN x i w ≠ LN x k w) (hout : 1 < x.f1.length → ∀ i, i < x.f1.length → ∃ w, Byt w ∧ LN x i w ≠ LN x x.f1.length w) : bosketref09_Apartness 5000 x = some true := by
  obtain ⟨t, t1, t2⟩ := apart_eq h
  unfold bosketref09_Apartness
  rw [t1, Option.bind_some]
  exact ap_l4 h t2 hall hout x.f1.length 0 5000 (by omega) (by have := h.n2; omega)
/-! The document's Classes. -/
theorem cs_l4 {x : S30} (h : Dr x) (rec9 : Int → Option Bool) {c k : Nat} (hc : c < KC x) (hk : k < KC x) : ∀ (m i fuel : Nat) (b : Bool), i + m = x.f1.length → m < fuel → (b = false ∨ ∃ j, i ≤ j ∧ j < x.f1.length ∧ dl x j c ≠ dl x j k) →
    bosketref09_Classes_l4 5000 rec9 x (c : Int) (k : Int) fuel b (i : Int) = rec9 ((k + 1 : Nat) : Int)
  | 0, i, fu + 1, b, hi, _, hb => by
    have hK := KC_le h
    have : b = false := hb.resolve_right fun ⟨j, j1, j2, _⟩ => by omega
    subst this
    rw [bosketref09_Classes_l4.eq_2, if_neg (by omega)]
    unfold bosketref09_Classes_c3 bosketref09_Classes_c2
    rw [if_neg (by decide), w6 (by omega) (by omega)]; rfl
  | m + 1, i, fu + 1, b, hi, hf, hb => by
    have hn := h.n2
    rw [bosketref09_Classes_l4.eq_2, if_pos (by omega), w6 (by omega) (by omega)]
    cases b with
    | false =>
      rw [if_neg (by decide), Option.bind_some]
      have := cs_l4 h rec9 hc hk m (i + 1) fu false (by omega) (by omega) (.inl rfl)
      exact_mod_cast this
    | true =>
      obtain ⟨j, j1, j2, j3⟩ := hb.resolve_left (by decide)
      rw [if_pos rfl, rto_eq h (by omega) hc, rto_eq h (by omega) hk, Option.bind_some, Option.bind_some, Option.bind_some]
      by_cases e : dl x i c = dl x i k
      · rw [decide_eq_true (by omega)]
        have := cs_l4 h rec9 hc hk m (i + 1) fu true (by omega) (by omega) (.inr ⟨j, by
          rcases Nat.lt_or_ge i j with u | u
          · omega
          · have : j = i := by omega
            subst this
            exact absurd e j3, j2, j3⟩)
        exact_mod_cast this
      · rw [decide_eq_false (by omega)]
        have := cs_l4 h rec9 hc hk m (i + 1) fu false (by omega) (by omega) (.inl rfl)
        exact_mod_cast this
theorem cs_l5 {x : S30} (h : Dr x) (hap : ∀ c k, c < KC x → k < c → ∃ j, j < x.f1.length ∧ dl x j c ≠ dl x j k) (rec5 : Int → Option Bool) {c : Nat} (hc : c < KC x) : ∀ (m k fuel : Nat), k + m = c → m < fuel → bosketref09_Classes_l5 5000 rec5 x (c : Int) fuel (k : Int) = rec5 ((c + 1 : Nat) : Int)
  | 0, k, fu + 1, hk, _ => by
    have hK := KC_le h
    rw [bosketref09_Classes_l5.eq_2, if_neg (by omega)]
    unfold bosketref09_Classes_c1
    rw [w6 (by omega) (by omega)]; rfl
  | m + 1, k, fu + 1, hk, hf => by
    have hn := h.n2
    obtain ⟨j, j1, j2⟩ := hap c k hc (by omega)
    have ih := cs_l5 h hap rec5 hc m (k + 1) fu (by omega) (by omega)
    have := cs_l4 h (bosketref09_Classes_l5 5000 rec5 x (c : Int) fu) hc (k := k) (by omega) x.f1.length 0 5000 true (by omega) (by omega) (.inr ⟨j, by omega, j1, j2⟩)
    rw [bosketref09_Classes_l5.eq_2, if_pos (by omega)]
    rw [ih] at this
    exact this
theorem cs_l6 {x : S30} (h : Dr x) (hap : ∀ c k, c < KC x → k < c → ∃ j, j < x.f1.length ∧ dl x j c ≠ dl x j k) : ∀ (m c fuel : Nat), c + m = KC x → m < fuel → bosketref09_Classes_l6 5000 x (KC x : Int) fuel (c : Int) = some true
  | 0, c, fu + 1, hc, _ => by rw [bosketref09_Classes_l6.eq_2, if_neg (by omega)]; rfl
  | m + 1, c, fu + 1, hc, hf => by
    have hK := KC_le h
    have ih := cs_l6 h hap m (c + 1) fu (by omega) (by omega)
    have := cs_l5 h hap (bosketref09_Classes_l6 5000 x (KC x : Int) fu) (c := c) (by omega) c 0 5000 (by omega) (by omega)
    rw [bosketref09_Classes_l6.eq_2, if_pos (by omega)]
    rw [ih] at this
    exact this
theorem cs_l9 {x : S30} (h : Dr x) {kk : Nat → ByteArray} (hv : ∀ c : Nat, c < 256 → vget x.f0 (c : Int) = (ck kk c : Int)) (R : Option Bool) (hR : bosketref09_Classes_c7 5000 x (nc kk 256 : Int) = R) : ∀ (m b fuel : Nat), b + m = 256 → m < fuel → bosketref09_Classes_l9 5000 x fuel (nc kk b : Int) (b : Int) = R
  | 0, b, fu + 1, hb, _ => by
    rw [bosketref09_Classes_l9.eq_2, if_neg (by omega), show b = 256 by omega]; exact hR
  | m + 1, b, fu + 1, hb, hf => by
    have hb' : b < 256 := by omega
    have ih := cs_l9 h hv R hR m (b + 1) fu (by omega) (by omega)
    have hcl := ck_le kk b
    have hnl := nc_le kk b
    obtain ⟨r1, r2, r3⟩ := rc_spec kk b
    rw [bosketref09_Classes_l9.eq_2, if_pos (by omega), if_pos ⟨by omega, by omega⟩, hv b hb', w6 (x := (ck kk b : Int)) (by omega) (by omega)]
    unfold bosketref09_Classes_c8
    by_cases q : rc kk b = b
    · have e : ck kk b = nc kk b := by unfold ck; rw [q]
      have e1 : nc kk (b + 1) = nc kk b + 1 := by rw [nc, if_pos q]
      rw [if_neg (by omega), if_pos ⟨by omega, by omega⟩, if_pos (by omega), w6 (by omega) (by omega), w6 (by omega) (by omega)]
      rw [e1] at ih
      exact_mod_cast ih
    · have h1 : nc kk (rc kk b + 1) ≤ nc kk b := nc_mono kk (by omega)
      rw [nc, if_pos (rc_rc kk b)] at h1
      have h2 : ck kk b + 1 ≤ nc kk b := h1
      have e1 : nc kk (b + 1) = nc kk b := by rw [nc, if_neg q]; rfl
      rw [if_neg (by omega), if_pos ⟨by omega, by omega⟩, if_neg (by omega), w6 (by omega) (by omega)]
      rw [e1] at ih
      exact_mod_cast ih
theorem Fin.classes {x e : S30} {kk : Nat → ByteArray} {v : Vector Int 256} (f : Fin x e kk v) : bosketref09_Classes 5000 x = some true := by
  have h := f.dr
  have hQ := QO_Dr f.m.dr kk
  have ev : x.f0 = v := by rw [f.e]; rfl
  have hv : ∀ c : Nat, c < 256 → vget x.f0 (c : Int) = (ck (kcol (QO e kk)) c : Int) := by rw [ev]; exact f.cv
  have hK : (KC x : Int) = (nc (kcol (QO e kk)) 256 : Int) := by
    rw [← KC_eq h, ev]; exact CM_kcl f.cv
  have hap : ∀ c k, c < KC x → k < c → ∃ j, j < x.f1.length ∧ dl x j c ≠ dl x j k := by
    intro c k hc hk
    obtain ⟨b, b1, b2, b3⟩ := ck_onto (kk := kcol (QO e kk)) 256 c (by omega)
    obtain ⟨a, a1, a2, a3⟩ := ck_onto (kk := kcol (QO e kk)) 256 k (by omega)
    have hb : cls x b = c := by unfold cls; rw [hv b b1]; unfold ck; rw [b2, b3]; omega
    have ha : cls x a = k := by unfold cls; rw [hv a a1]; unfold ck; rw [a2, a3]; omega
    have hne : kcol (QO e kk) b ≠ kcol (QO e kk) a := fun q => by
      have := rc_same (kcol (QO e kk)) q
      rw [b2, a2] at this
      subst this
      omega
    have : ∃ w, Byt w ∧ bw e kk (w ++ [b]) ≠ bw e kk (w ++ [a]) := Classical.byContradiction fun q => hne ((f.m.kcol b1 a1).2 fun w hw => Classical.byContradiction fun r => q ⟨w, hw, r⟩)
    obtain ⟨w, w1, w2⟩ := this
    have x1 := h.n1
    have hg := go_rng h w 0 w1 (by omega)
    have hpos : 0 ≤ T5.go x 0 w := by
      refine Classical.byContradiction fun q => ?_
      have p : ¬ 0 ≤ T5.go e 0 w := fun r => q ((f.pos w1).2 r)
      have e1 := f.m.dr.n1
      have hr := go_rng f.m.dr w 0 w1 (by omega)
      have : T5.go e 0 w = -1 := by omega
      apply w2
      unfold bw
      rw [go_snoc, go_snoc, this, stp_neg, stp_neg]
    obtain ⟨j, hj⟩ := Int.eq_ofNat_of_zero_le hpos
    refine ⟨j, by omega, fun q => w2 ?_⟩
    obtain ⟨d1, r1, r2⟩ := stp_dl h (i := j) (b := b) (by omega) b1
    obtain ⟨d2, r3, r4⟩ := stp_dl h (i := j) (b := a) (by omega) a1
    rw [hb] at d1
    rw [ha] at d2
    have es : stp x (j : Int) (b : Int) = stp x (j : Int) (a : Int) := by
      rw [d1, d2] at q
      by_cases u1 : 0 ≤ stp x (j : Int) (b : Int)
      · by_cases u2 : 0 ≤ stp x (j : Int) (a : Int)
        · rw [if_pos u1, if_pos u2] at q; omega
        · rw [if_pos u1, if_neg u2] at q; omega
      · by_cases u2 : 0 ≤ stp x (j : Int) (a : Int)
        · rw [if_neg u1, if_pos u2] at q; omega
        · omega
    -- back to the blocks
    have g1 := f.go (w1.app (byt_one b1))
    have g2 := f.go (w1.app (byt_one a1))
    rw [go_snoc, hj] at g1 g2
    rw [es, g2.1] at g1
    have hinj : ∀ y z : Int, (y = -1 ∨ y ∈ OL (CM (QO e kk) v)) → (z = -1 ∨ z ∈ OL (CM (QO e kk) v)) → pl (OL (CM (QO e kk) v)) y = pl (OL (CM (QO e kk) v)) z → y = z := by
      rintro y z (rfl | hy) (rfl | hz) eq
      · rfl
      · rw [pl_neg1 f.cdr] at eq
        obtain ⟨j, j1, j2, j3⟩ := pl_get hz
        omega
      · rw [pl_neg1 f.cdr] at eq
        obtain ⟨j, j1, j2, j3⟩ := pl_get hy
        omega
      · obtain ⟨j, j1, j2, j3⟩ := pl_get hy
        obtain ⟨i, i1, i2, i3⟩ := pl_get hz
        have : i = j := by omega
        rw [← j3, ← i3, this]
    exact (hinj _ _ g2.2 g1.2 g1.1).symm
  have hc7 : bosketref09_Classes_c7 5000 x (nc (kcol (QO e kk)) 256 : Int) = some true := by
    unfold bosketref09_Classes_c7
    rw [← hK]
    exact cs_l6 h hap (KC x) 0 5000 (by omega) (by have := KC_le h; omega)
  exact cs_l9 h hv (some true) hc7 256 0 5000 (by omega) (by omega)
end Go.Avl.T5
/- MiniLeast: the plain law. -/
namespace Go.Avl.T5
open Go Go.RowKit Go.Proofs Go.Avl
set_option linter.all false
set_option maxRecDepth 10000

theorem awake09c : bosketlaw09_awake 5000 = some true := by decide +kernel
/-- The bytes of a text. -/
def byl (s : ByteArray) : List Nat := (List.range s.size).map fun i : Nat => (byteAt s (i : Int)).toNat
theorem byl_len (s : ByteArray) : (byl s).length = s.size := by simp [byl]
theorem byl_byt (s : ByteArray) : Byt (byl s) := fun b hb => by
  obtain ⟨i, hi, rfl⟩ := List.mem_map.1 hb
  have := byteAt_u8 s (i : Int)
  omega
theorem rn_byl (d : S30) (q : Int) (s : ByteArray) : ∀ i : Nat, i ≤ s.size → rn d q s i = go d q ((byl s).take i)
  | 0, _ => by rw [List.take_zero]; rfl
  | i + 1, hi => by
    have ih := rn_byl d q s i (by omega)
    have hl := byl_len s
    have hu := byteAt_u8 s (i : Int)
    have e : (byl s)[i]'(by omega) = (byteAt s (i : Int)).toNat := by simp [byl]
    show stp d (rn d q s i) (byteAt s i) = _
    rw [ih, List.take_succ_eq_append_getElem (show i < (byl s).length by omega), go_snoc, e, Int.toNat_of_nonneg hu.1]
theorem rstp_eq {d : S30} (hb : Bytes d) (k : Nat) (s : Int) {c : Int} (h0 : 0 ≤ c) (h1 : c < 256) : bosketref08_Step k d s c = some (stp d s c) := by
  have hv := hb c
  unfold bosketref08_Step stp
  by_cases a : s < 0
  · rw [if_pos a, Option.bind_some, if_pos rfl, if_pos (.inl a)]
  · rw [if_neg a]
    by_cases b : (d.f1.length : Int) ≤ s
    · rw [if_pos b, Option.bind_some, if_pos rfl, if_pos (.inr (.inl b))]
    · rw [if_neg b, if_pos ⟨h0, h1⟩, if_pos ⟨by omega, by omega⟩, Option.bind_some, w6 (by omega) (by omega)]
      by_cases e : ((lget d.f1 s).length : Int) ≤ vget d.f0 c
      · rw [decide_eq_true e, if_pos rfl, if_pos (.inr (.inr e))]
      · rw [decide_eq_false e, if_neg (by decide), if_pos ⟨by omega, by omega⟩, if_pos ⟨h0, h1⟩, if_pos ⟨by omega, by omega⟩, if_neg (by omega)]
theorem rrun_l {d : S30} (h : Dr d) (s : ByteArray) (hs : s.size ≤ 1000) : ∀ (m i fuel : Nat), i + m = s.size → m < fuel → bosketref08_Run_l1 5000 d s fuel (rn d 0 s i) (i : Int) = some (rn d 0 s s.size)
  | 0, i, fu + 1, hi, _ => by
    rw [bosketref08_Run_l1.eq_2, if_neg (by omega), show i = s.size by omega]; rfl
  | m + 1, i, fu + 1, hi, hf => by
    have hu := byteAt_u8 s (i : Int)
    have ih := rrun_l h s hs m (i + 1) fu (by omega) (by omega)
    rw [bosketref08_Run_l1.eq_2, if_pos (by omega), if_pos ⟨by omega, by omega⟩, w6 (by omega) (by omega), rstp_eq h.vb _ _ hu.1 (by omega), Option.bind_some, w6 (by omega) (by omega)]
    exact_mod_cast ih
theorem rrun_eq {d : S30} (h : Dr d) (s : ByteArray) (hs : s.size ≤ 1000) : bosketref08_Run 5000 d 0 s = some (rn d 0 s s.size) := rrun_l h s hs s.size 0 5000 (by omega) (by omega)
theorem bosketlaw09_MiniLeast_true (a0 : S30) (a1 : ByteArray) (h0 : wf30 a0) (h1 : wf9 a1) (h2 : a1.size ≤ 140737488351232) : ∃ k, bosketlaw09_MiniLeast k a0 a1 = some true := by
  refine ⟨5000, ?_⟩
  obtain ⟨b, b1, b2⟩ := small_some a0 (Nat.le_refl 5000)
  unfold bosketlaw09_MiniLeast
  rw [awake09c, Option.bind_some, if_neg (by decide), b1, Option.bind_some]
  cases b with
  | false => rfl
  | true =>
    obtain ⟨s1, s2, s3⟩ := b2 rfl
    have hv : VB a0.f0 := bytes_of h0
    have hr := rdright_eq hv s3 (by omega)
    rw [if_neg (by decide), hr, Option.bind_some]
    cases hb : rgB a0 with
    | false => rfl
    | true =>
      have h : Dr a0 := (rgB_iff hv (by omega)).1 hb
      rw [if_neg (by decide), Option.bind_some]
      by_cases hs : (30 : Int) < (a1.size : Int)
      · rw [decide_eq_true hs]; rfl
      · rw [decide_eq_false hs, if_neg (by decide)]
        obtain ⟨e, kk, v, m, l, hcv, eq⟩ := of_eq h h.right (fun e he => he.right)
        generalize hx : ORD (CM (QO e kk) v) = x at eq
        have f : Fin x e kk v := ⟨m, hcv, hx.symm⟩
        have hdr := f.dr
        obtain ⟨A, hA, eT⟩ := rtrim_eq hdr
        rw [TRM_same hdr f.tr hA] at eT
        have eO := rorder_eq hdr
        have eOO : ORD x = x := by rw [← hx]; exact ORD_ORD (CM_Dr (QO_Dr m.dr kk) hcv)
        rw [eOO] at eO
        have hap := apartness_eq hdr (fun i k hi hk hne => f.two hi hk hne) (fun q i hi => f.out hi q)
        rw [eq, Option.bind_some, if_neg (by simp), hdr.rright, Option.bind_some, if_neg (by decide), eO, Option.bind_some, rself hdr, Option.bind_some, if_neg (by decide), eT, Option.bind_some, rself hdr, Option.bind_some, Option.bind_some, if_neg (by decide), hap, Option.bind_some, if_pos rfl, f.classes, Option.bind_some, if_pos rfl, rrun_eq hdr a1 (by omega), Option.bind_some, rmk_eq, Option.bind_some, rrun_eq h a1 (by omega), Option.bind_some, rmk_eq, Option.bind_some, Option.bind_some]
        have e1 := rn_byl x 0 a1 a1.size (Nat.le_refl _)
        have e2 := rn_byl a0 0 a1 a1.size (Nat.le_refl _)
        rw [List.take_of_length_le (by rw [byl_len]; exact Nat.le_refl _)] at e1 e2
        rw [e1, e2]
        have := (f.sl.trans l) (byl a1) (byl_byt a1)
        unfold LL at this
        rw [this, decide_eq_true rfl]
end Go.Avl.T5
