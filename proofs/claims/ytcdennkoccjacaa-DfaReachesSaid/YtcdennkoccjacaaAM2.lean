/- Parts: T3D3, T3D4, T3PureDfaReaches. -/
import Derived.Test.YtcdennkoccjacaaAM1
import Derived.Test.YtcdennkoccjacaaAF5
import Derived.Test.YtcdennkoccjacaaAF6
import Derived.Test.YtcdennkoccjacaaAF7
import Derived.Test.YtcdennkoccjacaaAF8
import Derived.Test.YtcdennkoccjacaaAF9
import Derived.Test.YtcdennkoccjacaaAF2
import Derived.Test.YtcdennkoccjacaaAF10
/- Machines in one state: alive, trimmed, alike. -/
namespace Go.Avl.T3
open Go Go.RowKit Go.Proofs Go.Avl
set_option linter.all false
set_option maxRecDepth 10000

/-- From a state some mark is reached. -/
def AL (d : S50) (i : Int) : Prop := ∃ q, DR d i q ∧ 0 ≤ mk d q
def AS (d : S50) (A : List Bool) : Prop := A.length = d.f1.length ∧ ∀ q, 0 ≤ q → q < (d.f1.length : Int) → (lget A q = true ↔ AL d q)
theorem AS.uniq {d : S50} {R R' : List Bool} (h : AS d R) (h' : AS d R') : R = R' :=
  lext (h.1.trans h'.1.symm) fun q h0 h1 => by rw [h.1] at h1; rw [h.2 q h0 h1, h'.2 q h0 h1]
/-! The program's walk. -/
def hit (d : S50) (x : List Bool) (r : List Int) : Bool := r.any fun q => decide (0 ≤ q) && lget x q
def ap (d : S50) (i : Nat) (s : List Bool × Bool) : List Bool × Bool := if lget s.1 (i : Int) = true then s else if hit d s.1 (rw' d i) = true then (lset s.1 (i : Int) true, true) else s
def aps (d : S50) : Nat → Nat → List Bool × Bool → List Bool × Bool
  | 0, _, s => s
  | m + 1, i, s => aps d m (i + 1) (ap d i s)
theorem ap_len (d : S50) (i : Nat) (s : List Bool × Bool) : (ap d i s).1.length = s.1.length := by
  unfold ap; split
  · rfl
  · split
    · exact lset_len _ _ _
    · rfl
theorem aps_len (d : S50) : ∀ (m i : Nat) (s : List Bool × Bool), (aps d m i s).1.length = s.1.length
  | 0, _, _ => rfl
  | m + 1, i, s => by rw [aps, aps_len d m, ap_len]
theorem ap_cnt {d : S50} {i : Nat} (hi : i < d.f1.length) {s : List Bool × Bool} (hs : s.1.length = d.f1.length) : ap d i s = s ∨ ((ap d i s).2 = true ∧ cnt (ap d i s).1 = cnt s.1 + 1) := by
  unfold ap
  split
  · exact .inl rfl
  · rename_i a
    split
    · refine .inr ⟨rfl, ?_⟩
      have hi' : i < s.1.length := by omega
      refine cnt_set s.1 i hi' ?_
      have : lget s.1 (i : Int) = false := by simpa using a
      rw [lget_lt _ i hi'] at this
      rw [List.getElem?_eq_getElem hi', this]
    · exact .inl rfl
theorem aps_cnt {d : S50} : ∀ (m i : Nat) (s : List Bool × Bool), i + m = d.f1.length → s.1.length = d.f1.length → aps d m i s = s ∨ ((aps d m i s).2 = true ∧ cnt s.1 < cnt (aps d m i s).1)
  | 0, _, _, _, _ => .inl rfl
  | m + 1, i, s, hi, hs => by
    rw [aps]
    have ih := aps_cnt (d := d) m (i + 1) (ap d i s) (by omega) (by rw [ap_len]; exact hs)
    rcases ap_cnt (d := d) (i := i) (by omega) hs with q | ⟨q1, q2⟩
    · rw [q] at ih ⊢; exact ih
    · rcases ih with r | ⟨r1, r2⟩
      · rw [r]; exact .inr ⟨q1, by omega⟩
      · exact .inr ⟨r1, by omega⟩
theorem aps_flag (d : S50) : ∀ (m i : Nat) (s : List Bool × Bool), s.2 = true → (aps d m i s).2 = true
  | 0, _, _, h => h
  | m + 1, i, s, h => by
    rw [aps]
    refine aps_flag d m (i + 1) _ ?_
    unfold ap; split
    · exact h
    · split
      · rfl
      · exact h
theorem aps_closed (d : S50) : ∀ (m i : Nat) (x : List Bool), (aps d m i (x, false)).2 = false → (aps d m i (x, false)).1 = x ∧ ∀ j : Nat, i ≤ j → j < i + m → hit d x (rw' d j) = true → lget x (j : Int) = true
  | 0, i, x, _ => ⟨rfl, fun j h1 h2 => by omega⟩
  | m + 1, i, x, h => by
    rw [aps] at h ⊢
    have hs : ap d i (x, false) = (x, false) ∧ (hit d x (rw' d i) = true → lget x (i : Int) = true) := by
      by_cases c : lget x (i : Int) = true
      · exact ⟨by unfold ap; rw [if_pos c], fun _ => c⟩
      · by_cases e : hit d x (rw' d i) = true
        · have hf : (ap d i (x, false)).2 = true := by unfold ap; rw [if_neg c, if_pos e]
          rw [aps_flag d m (i + 1) _ hf] at h; cases h
        · exact ⟨by unfold ap; rw [if_neg c, if_neg e], fun q => absurd q e⟩
    rw [hs.1] at h ⊢
    obtain ⟨k1, k2⟩ := aps_closed d m (i + 1) x h
    refine ⟨k1, fun j h1 h2 h3 => ?_⟩
    by_cases e : j = i
    · subst e; exact hs.2 h3
    · exact k2 j (by omega) (by omega) h3
theorem hit_iff {d : S50} (h : Dr d) {x : List Bool} {i : Nat} (hi : i < d.f1.length) : hit d x (rw' d i) = true ↔ ∃ c : Nat, (c : Int) < ((rw' d i).length : Int) ∧ 0 ≤ lget (rw' d i) (c : Int) ∧ lget x (lget (rw' d i) (c : Int)) = true := by
  unfold hit
  rw [List.any_eq_true]
  constructor
  · rintro ⟨q, hq, hh⟩
    simp only [Bool.and_eq_true, decide_eq_true_eq] at hh
    obtain ⟨c, hc, rfl⟩ := lget_mem hq
    exact ⟨c, by omega, hh.1, hh.2⟩
  · rintro ⟨c, hc, h0, hg⟩
    exact ⟨_, mem_lget (by omega) hc, by simp [h0, hg]⟩
theorem ap_snd {d : S50} (h : Dr d) {i : Nat} (hi : i < d.f1.length) {s : List Bool × Bool} (hs : s.1.length = d.f1.length) (hq : ∀ q, 0 ≤ q → lget s.1 q = true → AL d q) : ∀ q, 0 ≤ q → lget (ap d i s).1 q = true → AL d q := by
  intro q h0 hg
  unfold ap at hg
  split at hg
  · exact hq q h0 hg
  · split at hg
    · rename_i c
      have hg' : lget (lset s.1 (i : Int) true) q = true := hg
      rw [lget_lsetB s.1 i q true (by omega) (by omega) h0] at hg'
      by_cases e : q = (i : Int)
      · subst e
        obtain ⟨c, hc, k0, kg⟩ := (hit_iff h hi).1 c
        obtain ⟨r, r1, r2⟩ := hq _ k0 kg
        exact ⟨r, (DR.step .refl hc k0).trans r1, r2⟩
      · rw [if_neg e] at hg'; exact hq q h0 hg'
    · exact hq q h0 hg
theorem aps_snd {d : S50} (h : Dr d) : ∀ (m i : Nat) (s : List Bool × Bool), i + m = d.f1.length → s.1.length = d.f1.length → (∀ q, 0 ≤ q → lget s.1 q = true → AL d q) → ∀ q, 0 ≤ q → lget (aps d m i s).1 q = true → AL d q
  | 0, _, _, _, _, hq => hq
  | m + 1, i, s, hi, hs, hq => by
    rw [aps]
    exact aps_snd h m (i + 1) _ (by omega) (by rw [ap_len]; exact hs) (ap_snd h (by omega) hs hq)
theorem aps_le {d : S50} : ∀ (m i : Nat) (s : List Bool × Bool), i + m = d.f1.length → s.1.length = d.f1.length → LE s.1 (aps d m i s).1
  | 0, _, s, _, _ => LE.refl _
  | m + 1, i, s, hi, hs => by
    rw [aps]
    refine LE.trans ?_ (aps_le m (i + 1) _ (by omega) (by rw [ap_len]; exact hs))
    unfold ap; split
    · exact LE.refl _
    · split
      · exact LE.set (by omega) (by omega)
      · exact LE.refl _
theorem alive_l2 {d : S50} (h : Dr d) (rec15 : List Bool → Bool → Int → Option (List Bool)) (x : List Bool) (b : Bool) (i : Nat) (hi : i < d.f1.length) (hx : x.length = d.f1.length) : ∀ (m c fuel : Nat), c + m = (rw' d i).length → m < fuel →
    dfa_Alive_l2 2000 rec15 d x b (i : Int) fuel (c : Int) = if hit d x ((rw' d i).drop c) = true then dfa_Alive_c1 2000 rec15 (i : Int) (lset x (i : Int) true) true else dfa_Alive_c1 2000 rec15 (i : Int) x b
  | 0, c, f + 1, hc, _ => by
    have hcn : ¬ (c : Int) < ((lget d.f1 (i : Int)).length : Int) := by
      have : ¬ (c : Int) < ((rw' d i).length : Int) := by omega
      exact this
    rw [dfa_Alive_l2.eq_2, if_neg hcn, List.drop_of_length_le (by omega)]; rfl
  | m + 1, c, f + 1, hc, hf => by
    have hc' : c < (rw' d i).length := by omega
    have hcI : (c : Int) < ((lget d.f1 (i : Int)).length : Int) := by
      have : (c : Int) < ((rw' d i).length : Int) := by omega
      exact this
    have he := h.entk (i := (i : Int)) (by omega) (by omega) (c := (c : Int)) (by omega) hcI
    have h256 : (rw' d i).length ≤ 256 := h.row256 _ (mem_lget (l := d.f1) (i := (i : Int)) (by omega) (by omega))
    have ge : lget (lget d.f1 (i : Int)) (c : Int) = (rw' d i)[c] := lget_lt (rw' d i) c hc'
    have ih := alive_l2 h rec15 x b i hi hx m (c + 1) f (by omega) (by omega)
    rw [dfa_Alive_l2.eq_2, if_pos hcI, if_pos ⟨by omega, hcI⟩, List.drop_eq_getElem_cons hc']
    show _ = if ((decide (0 ≤ (rw' d i)[c]) && lget x (rw' d i)[c]) || hit d x ((rw' d i).drop (c + 1))) = true then _ else _
    rw [← ge]
    generalize lget (lget d.f1 (i : Int)) (c : Int) = q at he
    by_cases a : 0 ≤ q
    · rw [if_pos a, if_pos (by omega), if_pos ⟨a, by omega⟩, Option.bind_some, decide_eq_true a, Bool.true_and]
      cases lget x q with
      | true => rw [if_pos rfl, if_pos ⟨by omega, by omega⟩, Bool.true_or, if_pos rfl]
      | false =>
        rw [if_neg (by decide), Bool.false_or, w64s (by omega) (by omega)]
        exact_mod_cast ih
    · rw [if_neg a, Option.bind_some, if_neg (by decide), decide_eq_false a, Bool.false_and, Bool.false_or, w64s (by omega) (by omega)]
      exact_mod_cast ih
theorem alive_l3 {d : S50} (h : Dr d) (rec9 : List Bool → Bool → Option (List Bool)) : ∀ (m i fuel : Nat) (x : List Bool) (b : Bool), i + m = d.f1.length → m < fuel → x.length = d.f1.length →
    dfa_Alive_l3 2000 rec9 d fuel x b (i : Int) = rec9 (aps d m i (x, b)).1 (aps d m i (x, b)).2
  | 0, i, f + 1, x, b, hi, _, hx => by
    rw [dfa_Alive_l3.eq_2, if_neg (by omega)]; rfl
  | m + 1, i, f + 1, x, b, hi, hf, hx => by
    have hn := h.n2
    have h256 : (rw' d i).length ≤ 256 := h.row256 _ (mem_lget (l := d.f1) (i := (i : Int)) (by omega) (by omega))
    have ih := fun y b hy => alive_l3 h rec9 m (i + 1) f y b (by omega) (by omega) hy
    rw [dfa_Alive_l3.eq_2, if_pos (by omega), if_pos ⟨by omega, by omega⟩, if_pos ⟨by omega, by omega⟩, aps]
    unfold ap
    by_cases a : lget x (i : Int) = true
    · rw [if_pos a, if_pos a, dfa_Alive_c1, w64s (by omega) (by omega)]
      exact_mod_cast ih x b hx
    · have e := alive_l2 h (dfa_Alive_l3 2000 rec9 d f) x b i (by omega) hx (rw' d i).length 0 2000 (by omega) (by omega)
      rw [Int.natCast_zero, List.drop_zero] at e
      rw [if_neg a, if_neg a, e]
      by_cases c : hit d x (rw' d i) = true
      · rw [if_pos c, if_pos c, dfa_Alive_c1, w64s (by omega) (by omega)]
        exact_mod_cast ih _ true (by rw [lset_len]; exact hx)
      · rw [if_neg c, if_neg c, dfa_Alive_c1, w64s (by omega) (by omega)]
        exact_mod_cast ih x b hx
theorem alive_l4 {d : S50} (h : Dr d) : ∀ (m : Nat) (x : List Bool), x.length = d.f1.length → d.f1.length - cnt x + 1 < m → (∀ q, 0 ≤ q → lget x q = true → AL d q) →
    ∃ A, dfa_Alive_l4 2000 d m x true = some A ∧ A.length = d.f1.length ∧ LE x A ∧ (∀ q, 0 ≤ q → lget A q = true → AL d q) ∧ ∀ j : Nat, j < d.f1.length → hit d A (rw' d j) = true → lget A (j : Int) = true
  | m + 1, x, hx, hm, hq => by
    have hn := h.n2
    rw [dfa_Alive_l4.eq_2, if_pos rfl]
    have e := alive_l3 h (dfa_Alive_l4 2000 d m) d.f1.length 0 2000 x false (by omega) (by omega) hx
    rw [Int.natCast_zero] at e
    rw [e]
    have hp : (aps d d.f1.length 0 (x, false)).1.length = x.length := aps_len d _ _ (x, false)
    have hle : LE x (aps d d.f1.length 0 (x, false)).1 := aps_le d.f1.length 0 (x, false) (by omega) hx
    have hsn := aps_snd h d.f1.length 0 (x, false) (by omega) hx hq
    by_cases q : (aps d d.f1.length 0 (x, false)).2 = true
    · rw [q]
      rcases aps_cnt (d := d) d.f1.length 0 (x, false) (by omega) hx with r | ⟨_, r⟩
      · rw [r] at q; cases q
      · have r' : cnt x < cnt (aps d d.f1.length 0 (x, false)).1 := r
        have hc := cnt_le_len (hp.trans hx)
        obtain ⟨A, a1, a2, a3, a4, a5⟩ := alive_l4 h m _ (hp.trans hx) (by omega) hsn
        exact ⟨A, a1, a2, hle.trans a3, a4, a5⟩
    · have q' : (aps d d.f1.length 0 (x, false)).2 = false := by simpa using q
      obtain ⟨k1, k2⟩ := aps_closed d d.f1.length 0 x q'
      rw [q', k1]
      cases m with
      | zero => omega
      | succ m =>
        rw [dfa_Alive_l4.eq_2, if_neg (by decide), dfa_Alive_c0]
        exact ⟨x, rfl, hx, LE.refl x, hq, fun j hj hh => k2 j (by omega) (by omega) hh⟩
theorem alive_l6 {d : S50} (h : Dr d) : ∀ (m i fuel : Nat) (x : List Bool), i + m = d.f1.length → m < fuel → x.length = d.f1.length → (∀ j : Nat, j < i → lget x (j : Int) = decide (0 ≤ mk d j)) →
    ∃ y : List Bool, dfa_Alive_l6 2000 d fuel x (i : Int) = dfa_Alive_c5 2000 d y ∧ y.length = d.f1.length ∧ ∀ j : Nat, j < d.f1.length → lget y (j : Int) = decide (0 ≤ mk d j)
  | 0, i, f + 1, x, hi, _, hx, hq => by
    rw [dfa_Alive_l6.eq_2, if_neg (by simp; omega)]
    exact ⟨x, rfl, hx, fun j hj => hq j (by omega)⟩
  | m + 1, i, f + 1, x, hi, hf, hx, hq => by
    have hn := h.n2
    rw [dfa_Alive_l6.eq_2, if_pos (by simp; omega), mark_eq, Option.bind_some, if_pos ⟨by omega, by omega⟩, w64s (by omega) (by omega)]
    have ih := alive_l6 h m (i + 1) f (lset x (i : Int) (decide (0 ≤ mk d i))) (by omega) (by omega) (by rw [lset_len]; exact hx) (fun j hj => by
      rw [lget_lsetB x i j _ (by omega) (by omega) (by omega)]
      by_cases e : (j : Int) = (i : Int)
      · rw [if_pos e, e]
      · rw [if_neg e]; exact hq j (by omega))
    exact_mod_cast ih
theorem alive_eq {d : S50} (h : Dr d) : ∃ A, dfa_Alive 2000 d = some A ∧ AS d A := by
  have hn := h.n2
  unfold dfa_Alive
  rw [if_pos ⟨by omega, by omega, by omega⟩]
  obtain ⟨y, y1, y2, y3⟩ := alive_l6 h d.f1.length 0 2000 (List.replicate (d.f1.length : Int).toNat false) (by omega) (by omega) (by simp) (fun j hj => by omega)
  rw [Int.natCast_zero] at y1
  have y4 : ∀ q, 0 ≤ q → lget y q = true → AL d q := fun q h0 hg => by
    obtain ⟨j, rfl⟩ := Int.eq_ofNat_of_zero_le h0
    by_cases hj : j < d.f1.length
    · rw [y3 j hj] at hg
      exact ⟨_, .refl, of_decide_eq_true hg⟩
    · have : lget y (j : Int) = false := by
        unfold lget; rw [List.getD, List.getElem?_eq_none (by omega)]; rfl
      rw [this] at hg; cases hg
  obtain ⟨A, a1, a2, a3, a4, a5⟩ := alive_l4 h 2000 y y2 (by omega) y4
  refine ⟨A, by rw [y1]; exact a1, a2, fun q h0 h1 => ⟨a4 q h0, ?_⟩⟩
  rintro ⟨r, k, hr⟩
  have key : ∀ s r, DR d s r → 0 ≤ s → s < (d.f1.length : Int) → lget A r = true → lget A s = true := by
    intro s r k
    induction k with
    | refl => exact fun _ _ hg => hg
    | @step p c k hc k0 ih =>
      intro h0 h1 hg
      have hp := k.in h ⟨h0, h1⟩
      obtain ⟨j, rfl⟩ := Int.eq_ofNat_of_zero_le hp.1
      exact ih h0 h1 (a5 j (by omega) ((hit_iff h (by omega)).2 ⟨c, hc, k0, hg⟩))
  refine key q r k h0 h1 ?_
  have hrr := k.in h ⟨h0, h1⟩
  obtain ⟨j, rfl⟩ := Int.eq_ofNat_of_zero_le hrr.1
  exact a3 _ (by omega) (by rw [y3 j (by omega)]; exact decide_eq_true hr)
/-! The document's answer. -/
theorem mk_in {d : S50} (h : Dr d) {i : Int} (h0 : 0 ≤ i) (h1 : i < (d.f1.length : Int)) : mk d i = lget d.f2 i := by
  have := h.ml
  unfold mk; rw [if_neg (by omega)]
theorem ralive_l3 {d : S50} (h : Dr d) (rec8 : List Bool → Int → Option (List Bool)) (x6 : List Bool) (x7 : Int) (R : List Bool) (hR : R.length = d.f1.length) : ∀ (m k fuel : Nat) (b : Bool), k + m = d.f1.length → m < fuel →
    bosketref08_Alive_l3 2000 rec8 d x6 x7 R fuel b (k : Int) = bosketref08_Alive_c2 2000 rec8 x6 x7 (b || anyB' (fun j => lget R (j : Int) && decide (0 ≤ lget d.f2 (j : Int))) m k)
  | 0, k, f + 1, b, hk, _ => by
    rw [bosketref08_Alive_l3.eq_2, if_neg (by omega), anyB', Bool.or_false]
  | m + 1, k, f + 1, b, hk, hf => by
    have hn := h.n2
    have hm := h.ml
    have ih := fun b => ralive_l3 h rec8 x6 x7 R hR m (k + 1) f b (by omega) (by omega)
    have g : 0 ≤ (k : Int) ∧ (k : Int) < (R.length : Int) := ⟨by omega, by omega⟩
    have g2 : 0 ≤ (k : Int) ∧ (k : Int) < (d.f2.length : Int) := ⟨by omega, by omega⟩
    rw [bosketref08_Alive_l3.eq_2, if_pos g.2, if_pos g, if_pos g2]
    have key : (if b = true then some true else if lget R (k : Int) = true then some (decide (0 ≤ lget d.f2 (k : Int))) else some false) = some (b || (lget R (k : Int) && decide (0 ≤ lget d.f2 (k : Int)))) := by
      cases b <;> cases lget R (k : Int) <;> simp
    rw [key, Option.bind_some, w64s (by omega) (by omega), show (k : Int) + 1 = ((k + 1 : Nat) : Int) by omega, ih, anyB', Bool.or_assoc]
theorem ralive_l4 {d : S50} (h : Dr d) : ∀ (m i fuel : Nat) (x : List Bool), i + m = d.f1.length → m < fuel → x.length = i → (∀ j : Nat, j < i → (lget x (j : Int) = true ↔ AL d j)) →
    ∃ A, bosketref08_Alive_l4 2000 d fuel x (i : Int) = some A ∧ AS d A
  | 0, i, f + 1, x, hi, _, hx, hq => by
    rw [bosketref08_Alive_l4.eq_2, if_neg (by omega), bosketref08_Alive_c0]
    refine ⟨x, rfl, by omega, fun q h0 h1 => ?_⟩
    obtain ⟨j, rfl⟩ := Int.eq_ofNat_of_zero_le h0
    exact hq j (by omega)
  | m + 1, i, f + 1, x, hi, hf, hx, hq => by
    have hn := h.n2
    obtain ⟨R, r1, r2⟩ := rreached_eq h (i : Int)
    have e := ralive_l3 h (bosketref08_Alive_l4 2000 d f) x (i : Int) R r2.1 d.f1.length 0 2000 false (by omega) (by omega)
    rw [Int.natCast_zero] at e
    rw [bosketref08_Alive_l4.eq_2, if_pos (by omega), r1, Option.bind_some, e, Bool.false_or, bosketref08_Alive_c2, if_pos (by simp; omega), bosketref08_Alive_c1, w64s (by omega) (by omega)]
    have hval : anyB' (fun j => lget R (j : Int) && decide (0 ≤ lget d.f2 (j : Int))) d.f1.length 0 = true ↔ AL d i := by
      rw [anyB_iff]
      constructor
      · rintro ⟨j, _, h2, h3⟩
        simp only [Bool.and_eq_true, decide_eq_true_eq] at h3
        exact ⟨j, ((r2.2 j (by omega) (by omega)).1 h3.1).2, by rw [mk_in h (by omega) (by omega)]; exact h3.2⟩
      · rintro ⟨q, k, hm⟩
        have hs : 0 ≤ (i : Int) ∧ (i : Int) < (d.f1.length : Int) := ⟨by omega, by omega⟩
        have hqr := k.in h hs
        obtain ⟨j, rfl⟩ := Int.eq_ofNat_of_zero_le hqr.1
        rw [mk_in h (by omega) (by omega)] at hm
        exact ⟨j, by omega, by omega, by simp only [Bool.and_eq_true, decide_eq_true_eq]; exact ⟨(r2.2 j (by omega) (by omega)).2 ⟨hs, k⟩, hm⟩⟩
    have ih := ralive_l4 h m (i + 1) f (x ++ [anyB' (fun j => lget R (j : Int) && decide (0 ≤ lget d.f2 (j : Int))) d.f1.length 0]) (by omega) (by omega) (by simp; omega) (fun j hj => by
      by_cases q : j < i
      · have : lget (x ++ [anyB' (fun j => lget R (j : Int) && decide (0 ≤ lget d.f2 (j : Int))) d.f1.length 0]) (j : Int) = lget x (j : Int) := by
          rw [lget_lt _ j (by simp; omega), lget_lt x j (by omega), List.getElem_append_left]
        rw [this]; exact hq j q
      · obtain rfl : j = i := by omega
        have : lget (x ++ [anyB' (fun j => lget R (j : Int) && decide (0 ≤ lget d.f2 (j : Int))) d.f1.length 0]) (j : Int) = anyB' (fun j => lget R (j : Int) && decide (0 ≤ lget d.f2 (j : Int))) d.f1.length 0 := by
          rw [lget_lt _ j (by simp; omega), List.getElem_append_right (by omega)]; simp
        rw [this]; exact hval)
    exact_mod_cast ih
theorem ralive_eq {d : S50} (h : Dr d) : ∃ A, bosketref08_Alive 2000 d = some A ∧ AS d A := by
  have hn := h.n2
  exact ralive_l4 h d.f1.length 0 2000 [] (by omega) (by omega) rfl (fun j hj => by omega)
/-! Trimmed. -/
def tr (a : List Bool) (x : Int) : Int := if 0 ≤ x ∧ lget a x = false then -1 else x
/-- What is left. -/
def TRM (d : S50) (a : List Bool) : S50 := S50.mk d.f0 (d.f1.map fun r => r.map (tr a)) d.f2
theorem iget_lt (l : List Int) (i : Nat) (h : i < l.length) : lget l (i : Int) = l[i] := lget_lt l i h
theorem trim_l4 {d : S50} (rec12 : List (List Int) → Int → Option S50) (a : List Bool) (acc : List (List Int)) (x11 : Int) (t18 : List Int) (ht : ∀ q ∈ t18, q < (a.length : Int)) (hz : t18.length ≤ 1000) : ∀ (m c fuel : Nat), c + m = t18.length → m < fuel →
    dfa_Trim_l4 2000 rec12 a acc x11 t18 fuel ((t18.take c).map (tr a) ++ t18.drop c) (c : Int) = dfa_Trim_c2 2000 rec12 acc x11 (t18.map (tr a))
  | 0, c, f + 1, hc, _ => by
    rw [dfa_Trim_l4.eq_2, if_neg (by omega), List.take_of_length_le (by omega), List.drop_of_length_le (by omega), List.append_nil]
  | m + 1, c, f + 1, hc, hf => by
    have hc' : c < t18.length := by omega
    have hq := ht _ (List.getElem_mem hc')
    have hlen : ((t18.take c).map (tr a) ++ t18.drop c).length = t18.length := by simp; omega
    have hget : lget ((t18.take c).map (tr a) ++ t18.drop c) (c : Int) = t18[c] := by
      rw [iget_lt _ c (by omega), List.getElem_append_right (by simp; omega)]
      simp [show c - min c t18.length = 0 by omega]
    have hset : ∀ v, lset ((t18.take c).map (tr a) ++ t18.drop c) (c : Int) v = (t18.take c).map (tr a) ++ (v :: t18.drop (c + 1)) := fun v => by
      unfold lset
      rw [Int.toNat_natCast, List.set_append_right _ _ (by simp; omega), show c - ((t18.take c).map (tr a)).length = 0 by simp; omega, List.drop_eq_getElem_cons hc', List.set_cons_zero]
    have ih := trim_l4 (d := d) rec12 a acc x11 t18 ht hz m (c + 1) f (by omega) (by omega)
    have hnext : (t18.take (c + 1)).map (tr a) ++ t18.drop (c + 1) = (t18.take c).map (tr a) ++ (tr a t18[c] :: t18.drop (c + 1)) := by
      rw [← List.take_append_getElem hc', List.map_append, List.append_assoc]; rfl
    rw [hnext] at ih
    have g : 0 ≤ (c : Int) ∧ (c : Int) < (((t18.take c).map (tr a) ++ t18.drop c).length : Int) := ⟨by omega, by omega⟩
    rw [dfa_Trim_l4.eq_2, if_pos (by omega), if_pos g, hget, if_pos g]
    unfold tr at ih
    by_cases b : 0 ≤ t18[c]
    · rw [if_pos b, if_pos hq, if_pos ⟨b, hq⟩, Option.bind_some]
      cases e : lget a t18[c] with
      | false =>
        rw [if_pos ⟨b, e⟩] at ih
        rw [if_pos (by decide), hset, dfa_Trim_c3, w64s (by omega) (by omega)]
        exact_mod_cast ih
      | true =>
        rw [if_neg (by rw [e]; simp), ← List.drop_eq_getElem_cons hc'] at ih
        rw [if_neg (by decide), dfa_Trim_c3, w64s (by omega) (by omega)]
        exact_mod_cast ih
    · rw [if_neg (fun k => b k.1), ← List.drop_eq_getElem_cons hc'] at ih
      rw [if_neg b, Option.bind_some, if_neg (by decide), dfa_Trim_c3, w64s (by omega) (by omega)]
      exact_mod_cast ih
theorem trim_l5 {d : S50} (h : Dr d) (a : List Bool) (ha : a.length = d.f1.length) : ∀ (m i fuel : Nat), i + m = d.f1.length → m < fuel →
    dfa_Trim_l5 2000 d a d.f2 fuel ((d.f1.take i).map fun r => r.map (tr a)) (i : Int) = some (TRM d a)
  | 0, i, f + 1, hi, _ => by
    rw [dfa_Trim_l5.eq_2, if_neg (by omega), dfa_Trim_c0, List.take_of_length_le (by omega)]; rfl
  | m + 1, i, f + 1, hi, hf => by
    have hn := h.n2
    have hi' : i < d.f1.length := by omega
    have hr : d.f1[i] ∈ d.f1 := List.getElem_mem hi'
    have h256 := h.row256 _ hr
    have ih := trim_l5 h a ha m (i + 1) f (by omega) (by omega)
    rw [dfa_Trim_l5.eq_2, if_pos (by omega), if_pos ⟨by omega, by omega⟩, lget_lt _ i hi']
    unfold slices_Clone_int_int__own
    rw [if_pos (by simp; omega), Option.bind_some, List.nil_append]
    have e := trim_l4 (d := d) (dfa_Trim_l5 2000 d a d.f2 f) a ((d.f1.take i).map fun r => r.map (tr a)) (i : Int) d.f1[i] (fun q hq => by rw [ha]; exact (h.ent _ hr q hq).2) (by omega) d.f1[i].length 0 2000 (by omega) (by omega)
    rw [Int.natCast_zero, List.take_zero, List.drop_zero, List.map_nil, List.nil_append] at e
    rw [e, dfa_Trim_c2, if_pos (by simp; omega), dfa_Trim_c1, w64s (by omega) (by omega)]
    have : (d.f1.take (i + 1)).map (fun r => r.map (tr a)) = (d.f1.take i).map (fun r => r.map (tr a)) ++ [d.f1[i].map (tr a)] := by
      rw [← List.take_append_getElem hi', List.map_append]; rfl
    rw [this] at ih
    exact_mod_cast ih
theorem trim_eq {d : S50} (h : Dr d) : ∃ A, AS d A ∧ dfa_Trim 2000 d = some (TRM d A) := by
  obtain ⟨A, a1, a2⟩ := alive_eq h
  have hn := h.n2
  have hm := h.ml
  refine ⟨A, a2, ?_⟩
  unfold dfa_Trim
  rw [a1, Option.bind_some]
  unfold slices_Clone_int_int_
  rw [if_pos (by simp; omega), Option.bind_some, List.nil_append]
  have := trim_l5 h A a2.1 d.f1.length 0 2000 (by omega) (by omega)
  rw [Int.natCast_zero, List.take_zero] at this
  exact this
theorem rtrim_l4 {d : S50} (h : Dr d) (rec14 : List (List Int) → Int → Option S50) (a : List Bool) (ha : a.length = d.f1.length) (acc : List (List Int)) (i : Nat) (hi : i < d.f1.length) : ∀ (m c fuel : Nat), c + m = (rw' d i).length → m < fuel →
    bosketref08_Trim_l4 2000 rec14 d a acc (i : Int) fuel (((rw' d i).take c).map (tr a)) (c : Int) = bosketref08_Trim_c2 2000 rec14 acc (i : Int) ((rw' d i).map (tr a))
  | 0, c, f + 1, hc, _ => by
    have hcn : ¬ (c : Int) < ((lget d.f1 (i : Int)).length : Int) := by
      have : ¬ (c : Int) < ((rw' d i).length : Int) := by omega
      exact this
    rw [bosketref08_Trim_l4.eq_2, if_pos ⟨by omega, by omega⟩, if_neg hcn, List.take_of_length_le (by omega)]
  | m + 1, c, f + 1, hc, hf => by
    have hc' : c < (rw' d i).length := by omega
    have hcI : (c : Int) < ((lget d.f1 (i : Int)).length : Int) := by
      have : (c : Int) < ((rw' d i).length : Int) := by omega
      exact this
    have he := h.entk (i := (i : Int)) (by omega) (by omega) (c := (c : Int)) (by omega) hcI
    have h256 : (rw' d i).length ≤ 256 := h.row256 _ (mem_lget (l := d.f1) (i := (i : Int)) (by omega) (by omega))
    have ge : lget (lget d.f1 (i : Int)) (c : Int) = (rw' d i)[c] := lget_lt (rw' d i) c hc'
    have g : 0 ≤ (i : Int) ∧ (i : Int) < (d.f1.length : Int) := ⟨by omega, by omega⟩
    have ih := rtrim_l4 h rec14 a ha acc i hi m (c + 1) f (by omega) (by omega)
    have hnext : ((rw' d i).take (c + 1)).map (tr a) = ((rw' d i).take c).map (tr a) ++ [tr a (rw' d i)[c]] := by
      rw [← List.take_append_getElem hc', List.map_append]; rfl
    rw [hnext] at ih
    rw [bosketref08_Trim_l4.eq_2, if_pos g, if_pos hcI, if_pos g, if_pos ⟨by omega, hcI⟩]
    unfold bosketref08_Trim_c3
    have hlen : ∀ v : Int, (((rw' d i).take c).map (tr a) ++ [v]).length * 8 ≤ 140737488355328 := fun v => by simp; omega
    rw [ge] at he ⊢
    unfold tr at ih
    by_cases b : 0 ≤ (rw' d i)[c]
    · rw [if_pos b, if_pos ⟨b, by omega⟩, Option.bind_some, w64s (by omega) (by omega)]
      cases e : lget a (rw' d i)[c] with
      | false =>
        rw [if_pos ⟨b, e⟩] at ih
        rw [if_pos (by decide), if_pos (hlen _)]
        exact_mod_cast ih
      | true =>
        rw [if_neg (by rw [e]; simp)] at ih
        rw [if_neg (by decide), if_pos (hlen _)]
        exact_mod_cast ih
    · rw [if_neg (fun k => b k.1)] at ih
      rw [if_neg b, Option.bind_some, if_neg (by decide), if_pos (hlen _), w64s (by omega) (by omega)]
      exact_mod_cast ih
theorem rtrim_l5 {d : S50} (h : Dr d) (a : List Bool) (ha : a.length = d.f1.length) : ∀ (m i fuel : Nat), i + m = d.f1.length → m < fuel →
    bosketref08_Trim_l5 2000 d a fuel ((d.f1.take i).map fun r => r.map (tr a)) (i : Int) = some (TRM d a)
  | 0, i, f + 1, hi, _ => by
    rw [bosketref08_Trim_l5.eq_2, if_neg (by omega), bosketref08_Trim_c0, List.take_of_length_le (by omega)]; rfl
  | m + 1, i, f + 1, hi, hf => by
    have hn := h.n2
    have hi' : i < d.f1.length := by omega
    have h256 : (rw' d i).length ≤ 256 := h.row256 _ (mem_lget (l := d.f1) (i := (i : Int)) (by omega) (by omega))
    have ih := rtrim_l5 h a ha m (i + 1) f (by omega) (by omega)
    have e := rtrim_l4 h (bosketref08_Trim_l5 2000 d a f) a ha ((d.f1.take i).map fun r => r.map (tr a)) i hi' (rw' d i).length 0 2000 (by omega) (by omega)
    rw [Int.natCast_zero, List.take_zero, List.map_nil] at e
    rw [bosketref08_Trim_l5.eq_2, if_pos (by omega), e, bosketref08_Trim_c2, if_pos (by simp; omega), bosketref08_Trim_c1, w64s (by omega) (by omega)]
    have : (d.f1.take (i + 1)).map (fun r => r.map (tr a)) = (d.f1.take i).map (fun r => r.map (tr a)) ++ [(rw' d i).map (tr a)] := by
      rw [← List.take_append_getElem hi', List.map_append, show rw' d i = d.f1[i] from lget_lt _ i hi']; rfl
    rw [this] at ih
    exact_mod_cast ih
theorem rtrim_eq {d : S50} (h : Dr d) : ∃ A, AS d A ∧ bosketref08_Trim 2000 d = some (TRM d A) := by
  obtain ⟨A, a1, a2⟩ := ralive_eq h
  have hn := h.n2
  have hm := h.ml
  refine ⟨A, a2, ?_⟩
  unfold bosketref08_Trim
  rw [a1, Option.bind_some, if_pos (by simp; omega)]
  have := rtrim_l5 h A a2.1 d.f1.length 0 2000 (by omega) (by omega)
  rw [Int.natCast_zero, List.take_zero] at this
  exact this
/-! Alike. -/
theorem eql_l (l m : List Int) (hl : l.length = m.length) (hz : l.length ≤ 1000) : ∀ (k i fuel : Nat), i + k = l.length → k < fuel → slices_Equal_int_int__l1 2000 l m fuel (i : Int) = some (decide (l.drop i = m.drop i))
  | 0, i, f + 1, hi, _ => by
    rw [slices_Equal_int_int__l1.eq_2, if_neg (by omega), List.drop_of_length_le (by omega), List.drop_of_length_le (by omega)]; rfl
  | k + 1, i, f + 1, hi, hf => by
    have h1 : i < l.length := by omega
    have h2 : i < m.length := by omega
    have ih := eql_l l m hl hz k (i + 1) f (by omega) (by omega)
    rw [slices_Equal_int_int__l1.eq_2, if_pos (by omega), if_pos ⟨by omega, by omega⟩, if_pos ⟨by omega, by omega⟩, lget_lt l i h1, lget_lt m i h2, w64s (by omega) (by omega), List.drop_eq_getElem_cons h1, List.drop_eq_getElem_cons h2]
    by_cases e : l[i] = m[i]
    · rw [if_neg (by simpa using e)]
      have : decide (l[i] :: l.drop (i + 1) = m[i] :: m.drop (i + 1)) = decide (l.drop (i + 1) = m.drop (i + 1)) := by rw [e, decide_eq_decide]; exact ⟨fun k => (List.cons.inj k).2, fun k => by rw [k]⟩
      rw [this]; exact_mod_cast ih
    · rw [if_pos e, decide_eq_false (fun k => e (List.cons.inj k).1)]
theorem eql_eq (l m : List Int) (hz : l.length ≤ 1000) : slices_Equal_int_int_ 2000 l m = some (decide (l = m)) := by
  unfold slices_Equal_int_int_
  by_cases a : (l.length : Int) = (m.length : Int)
  · rw [if_neg (by simpa using a)]
    have := eql_l l m (by omega) hz l.length 0 2000 (by omega) (by omega)
    rw [List.drop_zero, List.drop_zero] at this
    exact_mod_cast this
  · rw [if_pos a, decide_eq_false (fun e => a (by rw [e]))]
theorem eqf_l (l m : List (List Int)) (hl : l.length = m.length) (hz : l.length ≤ 1000) (hr : ∀ r ∈ l, r.length ≤ 1000) : ∀ (k i fuel : Nat), i + k = l.length → k < fuel → slices_EqualFunc_int_int_int_int__l1 2000 l m fuel (i : Int) = some (decide (l.drop i = m.drop i))
  | 0, i, f + 1, hi, _ => by
    rw [slices_EqualFunc_int_int_int_int__l1.eq_2, if_neg (by omega), List.drop_of_length_le (by omega), List.drop_of_length_le (by omega)]; rfl
  | k + 1, i, f + 1, hi, hf => by
    have h1 : i < l.length := by omega
    have h2 : i < m.length := by omega
    have ih := eqf_l l m hl hz hr k (i + 1) f (by omega) (by omega)
    rw [slices_EqualFunc_int_int_int_int__l1.eq_2, if_pos (by omega), if_pos ⟨by omega, by omega⟩, if_pos ⟨by omega, by omega⟩, lget_lt l i h1, lget_lt m i h2, eql_eq _ _ (hr _ (List.getElem_mem h1)), Option.bind_some, w64s (by omega) (by omega), List.drop_eq_getElem_cons h1, List.drop_eq_getElem_cons h2]
    by_cases e : l[i] = m[i]
    · rw [if_neg (by simp [e])]
      have : decide (l[i] :: l.drop (i + 1) = m[i] :: m.drop (i + 1)) = decide (l.drop (i + 1) = m.drop (i + 1)) := by rw [e, decide_eq_decide]; exact ⟨fun k => (List.cons.inj k).2, fun k => by rw [k]⟩
      rw [this]; exact_mod_cast ih
    · rw [if_pos (by simp [e]), decide_eq_false (fun k => e (List.cons.inj k).1)]
theorem eqf_eq (l m : List (List Int)) (hz : l.length ≤ 1000) (hr : ∀ r ∈ l, r.length ≤ 1000) : slices_EqualFunc_int_int_int_int_ 2000 l m = some (decide (l = m)) := by
  unfold slices_EqualFunc_int_int_int_int_
  by_cases a : (l.length : Int) = (m.length : Int)
  · rw [if_neg (by simpa using a)]
    have := eqf_l l m (by omega) hz hr l.length 0 2000 (by omega) (by omega)
    rw [List.drop_zero, List.drop_zero] at this
    exact_mod_cast this
  · rw [if_pos a, decide_eq_false (fun e => a (by rw [e]))]
theorem dsame_eq (a b : S50) (h1 : a.f1.length ≤ 1000) (h2 : a.f2.length ≤ 1000) (h3 : ∀ r ∈ a.f1, r.length ≤ 1000) : dfa_Same 2000 a b = some (decide (a = b)) := by
  unfold dfa_Same
  have hab : a = b ↔ a.f0 = b.f0 ∧ a.f2 = b.f2 ∧ a.f1 = b.f1 := by
    cases a; cases b
    constructor
    · intro e; cases e; exact ⟨rfl, rfl, rfl⟩
    · rintro ⟨e1, e2, e3⟩; simp only at e1 e2 e3; subst e1; subst e2; subst e3; rfl
  by_cases e1 : a.f0 = b.f0
  · rw [if_pos e1, eql_eq _ _ h2, Option.bind_some]
    by_cases e2 : a.f2 = b.f2
    · rw [if_pos (decide_eq_true e2), eqf_eq _ _ h1 h3, Option.bind_some, Option.bind_some]
      congr 1
      rw [decide_eq_decide, hab]
      exact ⟨fun k => ⟨e1, e2, k⟩, fun k => k.2.2⟩
    · rw [if_neg (by simpa using e2), decide_eq_false (fun k => e2 (hab.1 k).2.1)]; rfl
  · rw [if_neg e1, decide_eq_false (fun k => e1 (hab.1 k).1)]; rfl
end Go.Avl.T3
/- Machines in one state: put in order. -/
namespace Go.Avl.T3
open Go Go.RowKit Go.Proofs Go.Avl
set_option linter.all false
set_option maxRecDepth 10000

/-- The place of a number, from a place on; -1. -/
def plc : List Int → Int → Int → Int
  | [], _, _ => -1
  | y :: l, x, i => if y = x then i else plc l x (i + 1)
def pl (l : List Int) (x : Int) : Int := plc l x 0
theorem plc_not {x : Int} : ∀ (l : List Int) (i : Int), x ∉ l → plc l x i = -1
  | [], _, _ => rfl
  | y :: l, i, h => by
    rw [plc, if_neg (fun e => h (by simp [e])), plc_not l (i + 1) (fun e => h (by simp [e]))]
theorem plc_app {x : Int} (m : List Int) : ∀ (l : List Int) (i : Int), x ∈ l → plc (l ++ m) x i = plc l x i
  | y :: l, i, h => by
    rw [List.cons_append, plc, plc]
    by_cases e : y = x
    · rw [if_pos e, if_pos e]
    · rw [if_neg e, if_neg e, plc_app m l (i + 1) ((List.mem_cons.1 h).resolve_left fun k => e k.symm)]
theorem plc_last {x : Int} : ∀ (l : List Int) (i : Int), x ∉ l → plc (l ++ [x]) x i = i + l.length
  | [], i, _ => by simp [plc]
  | y :: l, i, h => by
    rw [List.cons_append, plc, if_neg (fun e => h (by simp [e])), plc_last l (i + 1) (fun e => h (by simp [e])), List.length_cons]; omega
theorem plc_other {x y : Int} (e : y ≠ x) : ∀ (l : List Int) (i : Int), plc (l ++ [y]) x i = plc l x i
  | [], i => by simp [plc, e]
  | z :: l, i => by rw [List.cons_append, plc, plc, plc_other e l (i + 1)]
theorem plc_get {x : Int} : ∀ (l : List Int) (i : Int), x ∈ l → ∃ j : Nat, j < l.length ∧ plc l x i = i + j ∧ lget l (j : Int) = x
  | y :: l, i, h => by
    by_cases e : y = x
    · exact ⟨0, by simp, by rw [plc, if_pos e]; omega, e⟩
    · obtain ⟨j, j1, j2, j3⟩ := plc_get l (i + 1) ((List.mem_cons.1 h).resolve_left fun k => e k.symm)
      refine ⟨j + 1, by simp; omega, by rw [plc, if_neg e, j2]; omega, ?_⟩
      rw [lget_lt _ _ (by simp; omega)]
      rw [lget_lt _ _ j1] at j3
      simpa using j3
theorem pl_not {l : List Int} {x : Int} (h : x ∉ l) : pl l x = -1 := plc_not l 0 h
theorem pl_get {l : List Int} {x : Int} (h : x ∈ l) : ∃ j : Nat, j < l.length ∧ pl l x = j ∧ lget l (j : Int) = x := by
  obtain ⟨j, j1, j2, j3⟩ := plc_get l 0 h
  exact ⟨j, j1, by unfold pl; omega, j3⟩
theorem pl_app {l : List Int} {x : Int} (m : List Int) (h : x ∈ l) : pl (l ++ m) x = pl l x := plc_app m l 0 h
theorem place_l (l : List Int) (x : Int) (hl : l.length ≤ 1000) : ∀ (m i fuel : Nat), i + m = l.length → m < fuel → bosketref08_place_l1 2000 l x fuel (i : Int) = some (plc (l.drop i) x i)
  | 0, i, f + 1, hi, _ => by
    rw [bosketref08_place_l1.eq_2, if_neg (by omega), bosketref08_place_c0, List.drop_of_length_le (by omega)]; rfl
  | m + 1, i, f + 1, hi, hf => by
    have hi' : i < l.length := by omega
    have ih := place_l l x hl m (i + 1) f (by omega) (by omega)
    rw [bosketref08_place_l1.eq_2, if_pos (by omega), if_pos ⟨by omega, by omega⟩, lget_lt l i hi', List.drop_eq_getElem_cons hi', plc, w64s (by omega) (by omega)]
    split
    · rfl
    · exact_mod_cast ih
theorem place_eq (l : List Int) (x : Int) (hl : l.length ≤ 1000) : bosketref08_place 2000 l x = some (pl l x) := by
  have := place_l l x hl l.length 0 2000 (by omega) (by omega)
  rw [List.drop_zero] at this
  exact_mod_cast this
/-- One more is met. -/
def addO (L : List Int) (x : Int) : List Int := if 0 ≤ x ∧ x ∉ L then L ++ [x] else L
def ordR (L : List Int) (r : List Int) : List Int := r.foldl addO L
theorem addO_pre (L : List Int) (x : Int) : ∃ m, addO L x = L ++ m := by
  unfold addO; split
  · exact ⟨[x], rfl⟩
  · exact ⟨[], by simp⟩
theorem ordR_pre : ∀ (r L : List Int), ∃ m, ordR L r = L ++ m
  | [], L => ⟨[], by simp [ordR]⟩
  | x :: r, L => by
    obtain ⟨m, hm⟩ := addO_pre L x
    obtain ⟨k, hk⟩ := ordR_pre r (addO L x)
    refine ⟨m ++ k, ?_⟩
    show ordR (addO L x) r = _
    rw [hk, hm, List.append_assoc]
theorem addO_mem {L : List Int} {x : Int} (h : 0 ≤ x) : x ∈ addO L x := by
  unfold addO; split
  · simp
  · rename_i c
    by_cases q : x ∈ L
    · exact q
    · exact absurd ⟨h, q⟩ c
theorem ordR_mem : ∀ (r L : List Int) {x : Int}, x ∈ r → 0 ≤ x → x ∈ ordR L r
  | y :: r, L, x, h, h0 => by
    show x ∈ ordR (addO L y) r
    rcases List.mem_cons.1 h with rfl | h
    · obtain ⟨m, hm⟩ := ordR_pre r (addO L x)
      rw [hm]; exact List.mem_append_left _ (addO_mem h0)
    · exact ordR_mem r _ h h0
theorem ordR_from : ∀ (r L : List Int) {x : Int}, x ∈ ordR L r → x ∈ L ∨ (x ∈ r ∧ 0 ≤ x)
  | [], L, x, h => .inl h
  | y :: r, L, x, h => by
    have h' : x ∈ ordR (addO L y) r := h
    rcases ordR_from r _ h' with k | k
    · unfold addO at k
      split at k
      · rename_i c
        rcases List.mem_append.1 k with k | k
        · exact .inl k
        · have : x = y := by simpa using k
          subst this
          exact .inr ⟨by simp, c.1⟩
      · exact .inl k
    · exact .inr ⟨by simp [k.1], k.2⟩
theorem addO_nodup {L : List Int} {x : Int} (h : L.Nodup) : (addO L x).Nodup := by
  unfold addO; split
  · rename_i c
    rw [List.nodup_append]
    refine ⟨h, by simp, fun a ha b hb => ?_⟩
    have : b = x := by simpa using hb
    subst this
    intro e; subst e; exact c.2 ha
  · exact h
theorem ordR_nodup : ∀ (r L : List Int), L.Nodup → (ordR L r).Nodup
  | [], _, h => h
  | x :: r, L, h => ordR_nodup r _ (addO_nodup h)
theorem nodup_len : ∀ (n : Nat) (L : List Int), L.Nodup → (∀ x ∈ L, 0 ≤ x ∧ x < (n : Int)) → L.length ≤ n
  | 0, L, _, h => by
    cases L with
    | nil => simp
    | cons x L => have := h x (by simp); omega
  | n + 1, L, hn, h => by
    have ih := nodup_len n (L.erase (n : Int)) (hn.erase _) (fun x hx => by
      rw [hn.mem_erase_iff] at hx
      have := h x hx.2
      omega)
    by_cases q : (n : Int) ∈ L
    · rw [List.length_erase_of_mem q] at ih; omega
    · rw [List.erase_of_not_mem q] at ih; omega
/-- The states in the order in which they are met. -/
def obs (d : S50) : Nat → List Int → Nat → List Int
  | 0, L, _ => L
  | m + 1, L, i => if i < L.length then obs d m (ordR L (rw' d (lget L (i : Int)))) (i + 1) else L
def OL (d : S50) : List Int := obs d 2000 [0] 0
/-- What is put in order. -/
def OD (d : S50) (L : List Int) : S50 := S50.mk d.f0 (L.map fun q => (rw' d q).map (pl L)) (L.map fun q => lget d.f2 q)
def ORD (d : S50) : S50 := OD d (OL d)
structure OI (d : S50) (L : List Int) (i : Nat) : Prop where
  nd : L.Nodup
  rng : ∀ x ∈ L, 0 ≤ x ∧ x < (d.f1.length : Int)
  rch : ∀ x ∈ L, DR d 0 x
  cls : ∀ j : Nat, j < i → ∀ x ∈ rw' d (lget L (j : Int)), 0 ≤ x → x ∈ L
  le : i ≤ L.length
  hd : ∃ m, L = 0 :: m
theorem OI.len {d : S50} {L : List Int} {i : Nat} (h : OI d L i) : L.length ≤ d.f1.length := nodup_len _ L h.nd h.rng
theorem OI.start {d : S50} (h : Dr d) : OI d [0] 0 :=
  ⟨by simp, fun x hx => by have := h.n1; have e : x = 0 := by simpa using hx
                           subst e; omega, fun x hx => by have e : x = 0 := by simpa using hx
                                                          subst e; exact .refl, fun j hj => by omega, by simp, ⟨[], rfl⟩⟩
theorem lget_pre {L m : List Int} {j : Nat} (h : j < L.length) : lget (L ++ m) (j : Int) = lget L (j : Int) := by
  rw [lget_lt _ j (by simp; omega), lget_lt L j h, List.getElem_append_left]
theorem OI.next {d : S50} (hd : Dr d) {L : List Int} {i : Nat} (h : OI d L i) (hi : i < L.length) : OI d (ordR L (rw' d (lget L (i : Int)))) (i + 1) := by
  obtain ⟨m, hm⟩ := ordR_pre (rw' d (lget L (i : Int))) L
  have hmem : lget L (i : Int) ∈ L := mem_lget (by omega) (by omega)
  have hq := h.rng _ hmem
  refine ⟨ordR_nodup _ _ h.nd, fun x hx => ?_, fun x hx => ?_, fun j hj x hx h0 => ?_, by rw [hm]; simp; omega, ?_⟩
  · rcases ordR_from _ _ hx with k | k
    · exact h.rng x k
    · exact ⟨k.2, row_lt hd hq.1 hq.2 x k.1⟩
  · rcases ordR_from _ _ hx with k | k
    · exact h.rch x k
    · obtain ⟨c, hc, rfl⟩ := lget_mem k.1
      exact .step (h.rch _ hmem) (by omega) k.2
  · have hjL : j < L.length := by have := h.le; omega
    by_cases e : j = i
    · subst e
      rw [hm, lget_pre hjL] at hx
      exact ordR_mem _ _ hx h0
    · rw [hm, lget_pre hjL] at hx
      rw [hm]
      exact List.mem_append_left _ (h.cls j (by omega) x hx h0)
  · obtain ⟨k, hk⟩ := h.hd
    refine ⟨k ++ m, ?_⟩
    rw [hm, hk, List.cons_append]
theorem obs_OI {d : S50} (hd : Dr d) : ∀ (m : Nat) (L : List Int) (i : Nat), OI d L i → d.f1.length < i + m → OI d (obs d m L i) (obs d m L i).length
  | 0, L, i, h, hm => by
    have := h.len
    have := h.le
    omega
  | m + 1, L, i, h, hm => by
    rw [obs]
    by_cases a : i < L.length
    · rw [if_pos a]
      exact obs_OI hd m _ (i + 1) (h.next hd a) (by omega)
    · rw [if_neg a]
      have := h.le
      have e : i = L.length := by omega
      rw [← e]; exact h
theorem OL_OI {d : S50} (hd : Dr d) : OI d (OL d) (OL d).length := obs_OI hd 2000 [0] 0 (OI.start hd) (by have := hd.n2; omega)
/-- Rows of what stands closed keep their places. -/
theorem row_pl {L m : List Int} {r : List Int} (h : ∀ x ∈ r, -1 ≤ x) (hc : ∀ x ∈ r, 0 ≤ x → x ∈ L) (hL : ∀ x ∈ L ++ m, 0 ≤ x) : r.map (pl (L ++ m)) = r.map (pl L) := by
  apply List.map_congr_left
  intro x hx
  by_cases a : 0 ≤ x
  · exact pl_app m (hc x hx a)
  · rw [pl_not (fun k => a (hL x k)), pl_not (fun k => a (hL x (by simp [k])))]
theorem row_ge {d : S50} (h : Dr d) {p : Int} (h0 : 0 ≤ p) (h1 : p < (d.f1.length : Int)) : ∀ q ∈ rw' d p, -1 ≤ q := fun q hq => (h.ent _ (mem_lget h0 h1) q hq).1
/-! The inner walks. -/
theorem order_l5 {d : S50} (h : Dr d) (rec23 : List Int → List (List Int) → List Int → List Int → Int → Option S50) (x17 : List (List Int)) (x19 : List Int) (L0 : List Int) (i : Nat) (q : Int) (hq : lget L0 (i : Int) = q) (hq0 : 0 ≤ q ∧ q < (d.f1.length : Int)) :
    ∀ (m c fuel : Nat) (nb L acc : List Int), c + m = (rw' d q).length → m < fuel → nb.length = d.f1.length → (∀ x : Int, 0 ≤ x → x < (d.f1.length : Int) → lget nb x = pl L x) → (∀ x ∈ L, 0 ≤ x) → L.length + m ≤ 100000 → acc.length = c →
    ∃ nb', dfa_Order_l5 2000 rec23 d x17 x19 L0 (i : Int) fuel nb L acc (c : Int) = dfa_Order_c2 2000 rec23 d x17 x19 (i : Int) nb' (ordR L ((rw' d q).drop c)) (acc ++ ((rw' d q).drop c).map (pl (ordR L ((rw' d q).drop c)))) ∧
      nb'.length = d.f1.length ∧ (∀ x : Int, 0 ≤ x → x < (d.f1.length : Int) → lget nb' x = pl (ordR L ((rw' d q).drop c)) x)
  | 0, c, f + 1, nb, L, acc, hc, _, hn, hp, hL, hz, ha => by
    have hcn : ¬ (c : Int) < ((lget d.f1 q).length : Int) := by
      have : ¬ (c : Int) < ((rw' d q).length : Int) := by omega
      exact this
    rw [dfa_Order_l5.eq_2, hq, if_neg hcn, List.drop_of_length_le (by omega)]
    exact ⟨nb, by simp [ordR], hn, hp⟩
  | m + 1, c, f + 1, nb, L, acc, hc, hf, hn, hp, hL, hz, ha => by
    have hc' : c < (rw' d q).length := by omega
    have hcI : (c : Int) < ((lget d.f1 q).length : Int) := by
      have : (c : Int) < ((rw' d q).length : Int) := by omega
      exact this
    have he := h.entk hq0.1 hq0.2 (c := (c : Int)) (by omega) hcI
    have h256 : (rw' d q).length ≤ 256 := h.row256 _ (mem_lget hq0.1 hq0.2)
    have hn2 := h.n2
    have ge : lget (lget d.f1 q) (c : Int) = (rw' d q)[c] := lget_lt (rw' d q) c hc'
    have hmx : (rw' d q)[c] ∈ rw' d q := List.getElem_mem hc'
    rw [dfa_Order_l5.eq_2, hq, if_pos hcI, if_pos ⟨by omega, hcI⟩]
    unfold dfa_Order_c4 dfa_Order_c3
    rw [hq, ge, List.drop_eq_getElem_cons hc', List.map_cons]
    rw [ge] at he
    have hd2 : ordR L ((rw' d q)[c] :: (rw' d q).drop (c + 1)) = ordR (addO L (rw' d q)[c]) ((rw' d q).drop (c + 1)) := rfl
    rw [hd2]
    generalize hto : (rw' d q)[c] = to at he
    have hlen : ∀ v : Int, (acc ++ [v]).length * 8 ≤ 140737488355328 := fun v => by simp; omega
    have stab : ∀ L1 : List Int, (∀ x ∈ L1, 0 ≤ x) → (0 ≤ to → to ∈ L1) → pl (ordR L1 ((rw' d q).drop (c + 1))) to = pl L1 to := by
      intro L1 h1 h2
      obtain ⟨k, hk⟩ := ordR_pre ((rw' d q).drop (c + 1)) L1
      by_cases a : 0 ≤ to
      · rw [hk]; exact pl_app k (h2 a)
      · rw [pl_not (fun z => a (h1 _ z)), pl_not (fun z => ?_)]
        rcases ordR_from _ _ z with z | z
        · exact a (h1 _ z)
        · exact a z.2
    by_cases a : 0 ≤ to
    · have g : 0 ≤ to ∧ to < (nb.length : Int) := ⟨a, by omega⟩
      rw [if_pos a, if_pos g, hp to a (by omega), Option.bind_some]
      by_cases b : to ∈ L
      · obtain ⟨j, j1, j2, j3⟩ := pl_get b
        have hadd : addO L to = L := by unfold addO; rw [if_neg (fun k => k.2 b)]
        rw [if_neg (by rw [j2]; simp), if_pos a, if_pos g, if_pos (hlen _), w64s (by omega) (by omega), hadd, stab L hL (fun _ => b)]
        obtain ⟨nb', n1, n2, n3⟩ := order_l5 h rec23 x17 x19 L0 i q hq hq0 m (c + 1) f nb L (acc ++ [pl L to]) (by omega) (by omega) hn hp hL (by omega) (by simp [ha])
        refine ⟨nb', ?_, n2, n3⟩
        rw [List.append_assoc] at n1
        exact_mod_cast n1
      · have hadd : addO L to = L ++ [to] := by unfold addO; rw [if_pos ⟨a, b⟩]
        have hpl : pl (L ++ [to]) to = (L.length : Int) := by unfold pl; rw [plc_last L 0 b]; omega
        have hL1 : ∀ x ∈ L ++ [to], 0 ≤ x := fun x hx => by
          rcases List.mem_append.1 hx with k | k
          · exact hL x k
          · have e : x = to := by simpa using k
            subst e; exact a
        have g' : 0 ≤ to ∧ to < ((lset nb to (L.length : Int)).length : Int) := ⟨a, by rw [lset_len]; omega⟩
        have hgetI : ∀ (l : List Int) (i q v : Int), 0 ≤ i → i < (l.length : Int) → 0 ≤ q → lget (lset l i v) q = if q = i then v else lget l q := by
          intro l i q v h0 h1 hq
          unfold lget lset
          rw [List.getD, List.getD, List.getElem?_set]
          by_cases e : i.toNat = q.toNat
          · rw [if_pos e, if_pos (by omega), if_pos (by omega)]; rfl
          · rw [if_neg e, if_neg (by omega)]
        rw [pl_not b, if_pos (by decide), if_pos g, if_pos (by simp; omega), if_pos a, if_pos g', hgetI nb to to _ a (by omega) a, if_pos rfl, if_pos (hlen _), w64s (by omega) (by omega), hadd, stab _ hL1 (fun _ => by simp), hpl]
        obtain ⟨nb', n1, n2, n3⟩ := order_l5 h rec23 x17 x19 L0 i q hq hq0 m (c + 1) f (lset nb to (L.length : Int)) (L ++ [to]) (acc ++ [(L.length : Int)]) (by omega) (by omega) (by rw [lset_len]; exact hn) (fun x h0 h1 => by
          rw [hgetI nb to x _ a (by omega) h0]
          by_cases e : x = to
          · rw [if_pos e, e, hpl]
          · rw [if_neg e, hp x h0 h1]; unfold pl; rw [plc_other (fun k => e k.symm)]) hL1 (by simp; omega) (by simp [ha])
        refine ⟨nb', ?_, n2, n3⟩
        rw [List.append_assoc] at n1
        exact_mod_cast n1
    · have e1 : to = -1 := by omega
      have hadd : addO L to = L := by unfold addO; rw [if_neg (fun k => a k.1)]
      rw [if_neg a, Option.bind_some, if_neg (by decide), if_neg a, if_pos (hlen _), w64s (by omega) (by omega), hadd, stab L hL (fun k => absurd k a), pl_not (fun z => a (hL _ z))]
      obtain ⟨nb', n1, n2, n3⟩ := order_l5 h rec23 x17 x19 L0 i q hq hq0 m (c + 1) f nb L (acc ++ [(-1 : Int)]) (by omega) (by omega) hn hp hL (by omega) (by simp [ha])
      refine ⟨nb', ?_, n2, n3⟩
      rw [List.append_assoc] at n1
      rw [e1]
      exact_mod_cast n1
theorem OD_take {d : S50} (hd : Dr d) {L : List Int} {i : Nat} (h : OI d L i) (hi : i < L.length) (m : List Int) (hm : ordR L (rw' d (lget L (i : Int))) = L ++ m) :
    ((L ++ m).take (i + 1)).map (fun q => (rw' d q).map (pl (L ++ m))) = (L.take i).map (fun q => (rw' d q).map (pl L)) ++ [(rw' d (lget L (i : Int))).map (pl (L ++ m))] := by
  rw [List.take_append_of_le_length (by omega), ← List.take_append_getElem hi, List.map_append, List.map_singleton, lget_lt L i hi]
  congr 1
  apply List.map_congr_left
  intro q hq
  obtain ⟨j, hj, rfl⟩ := List.getElem_of_mem hq
  have hj' : j < i := by simp at hj; omega
  have hjL : j < L.length := by omega
  have e : (L.take i)[j] = lget L (j : Int) := by rw [List.getElem_take, lget_lt L j hjL]
  have hrg := h.rng _ (mem_lget (l := L) (i := (j : Int)) (by omega) (by omega))
  rw [e]
  refine row_pl (row_ge hd hrg.1 hrg.2) (fun x hx h0 => h.cls j hj' x hx h0) fun x hx => ?_
  have := (h.next hd hi).rng x (by rw [hm]; exact hx)
  exact this.1
theorem order_l6 {d : S50} (hd : Dr d) : ∀ (m : Nat) (nb L : List Int) (i : Nat), OI d L i → d.f1.length < i + m → nb.length = d.f1.length → (∀ x : Int, 0 ≤ x → x < (d.f1.length : Int) → lget nb x = pl L x) →
    dfa_Order_l6 2000 d m nb ((L.take i).map fun q => (rw' d q).map (pl L)) ((L.take i).map fun q => lget d.f2 q) L (i : Int) = some (OD d (obs d m L i))
  | 0, nb, L, i, h, hm, _, _ => by
    have := h.len
    have := h.le
    omega
  | m + 1, nb, L, i, h, hm, hn, hp => by
    have hlen := h.len
    have hle := h.le
    have hn2 := hd.n2
    rw [dfa_Order_l6.eq_2, obs]
    by_cases a : i < L.length
    · have hmem : lget L (i : Int) ∈ L := mem_lget (by omega) (by omega)
      have hq := h.rng _ hmem
      have hm2 := hd.ml
      have h256 : (rw' d (lget L (i : Int))).length ≤ 256 := hd.row256 _ (mem_lget hq.1 hq.2)
      have h256' : (lget d.f1 (lget L (i : Int))).length ≤ 256 := h256
      have hnx := h.next hd a
      have hnl := hnx.len
      obtain ⟨k, hk⟩ := ordR_pre (rw' d (lget L (i : Int))) L
      obtain ⟨nb', n1, n2, n3⟩ := order_l5 hd (dfa_Order_l6 2000 d m) ((L.take i).map fun q => (rw' d q).map (pl L)) ((L.take i).map fun q => lget d.f2 q) L i (lget L (i : Int)) rfl hq (rw' d (lget L (i : Int))).length 0 2000 nb L [] (by omega) (by omega) hn hp (fun x hx => (h.rng x hx).1) (by omega) rfl
      rw [Int.natCast_zero, List.drop_zero, List.nil_append] at n1
      rw [List.drop_zero] at n3
      rw [if_pos a, if_pos (by omega), if_pos ⟨by omega, by omega⟩, if_pos hq, if_pos ⟨by omega, by omega, by omega⟩, if_pos ⟨by omega, by omega⟩, if_pos hq, n1]
      unfold dfa_Order_c2 dfa_Order_c1
      rw [hk] at hnx hnl n3 ⊢
      have hgl : lget (L ++ k) (i : Int) = lget L (i : Int) := lget_pre a
      rw [if_pos (by simp; omega), if_pos ⟨by omega, by simp; omega⟩, hgl, if_pos ⟨hq.1, by omega⟩, if_pos (by simp; omega), w64s (by omega) (by omega)]
      have ih := order_l6 hd m nb' (L ++ k) (i + 1) hnx (by omega) n2 n3
      rw [OD_take hd h a k hk] at ih
      have e2 : ((L ++ k).take (i + 1)).map (fun q => lget d.f2 q) = (L.take i).map (fun q => lget d.f2 q) ++ [lget d.f2 (lget L (i : Int))] := by
        rw [List.take_append_of_le_length (by omega), ← List.take_append_getElem a, List.map_append, List.map_singleton, lget_lt L i a]
      rw [e2] at ih
      exact_mod_cast ih
    · rw [if_neg a, if_neg (by omega), dfa_Order_c0]
      have e : i = L.length := by omega
      rw [e, List.take_length]; rfl
theorem lget_neg (N : Nat) (x : Int) (h0 : 0 ≤ x) (h1 : x < (N : Int)) : lget (List.replicate N (-1 : Int)) x = -1 := by
  unfold lget
  rw [List.getD, List.getElem?_replicate, if_pos (by omega)]; rfl
theorem order_l8 {d : S50} (hd : Dr d) : ∀ (m i fuel : Nat), i + m = d.f1.length → m < fuel →
    dfa_Order_l8 2000 d fuel (List.replicate i (-1 : Int) ++ List.replicate m (0 : Int)) (i : Int) = dfa_Order_c7 2000 d (List.replicate d.f1.length (-1 : Int))
  | 0, i, f + 1, hi, _ => by
    rw [dfa_Order_l8.eq_2, if_neg (by simp; omega), show i = d.f1.length by omega]; simp
  | m + 1, i, f + 1, hi, hf => by
    have hn2 := hd.n2
    have ih := order_l8 hd m (i + 1) f (by omega) (by omega)
    rw [dfa_Order_l8.eq_2, if_pos (by simp; omega), if_pos ⟨by omega, by simp; omega⟩, w64s (by omega) (by omega)]
    have e : lset (List.replicate i (-1 : Int) ++ List.replicate (m + 1) (0 : Int)) (i : Int) (-1) = List.replicate (i + 1) (-1 : Int) ++ List.replicate m (0 : Int) := by
      unfold lset
      rw [Int.toNat_natCast, List.set_append_right _ _ (by simp), show i - (List.replicate i (-1 : Int)).length = 0 by simp, List.replicate_succ, List.set_cons_zero, List.replicate_succ', List.append_assoc]; rfl
    rw [e]
    exact_mod_cast ih
theorem order_eq {d : S50} (hd : Dr d) : dfa_Order 2000 d = some (ORD d) := by
  have h1 := hd.n1
  have h2 := hd.n2
  unfold dfa_Order
  rw [if_pos ⟨by omega, by omega, by omega⟩, Int.toNat_natCast]
  have e := order_l8 hd d.f1.length 0 2000 (by omega) (by omega)
  rw [Int.natCast_zero, List.replicate_zero, List.nil_append] at e
  rw [e, dfa_Order_c7, if_neg (by omega), if_pos ⟨by omega, by simp; omega⟩]
  have := order_l6 hd 2000 (lset (List.replicate d.f1.length (-1 : Int)) 0 0) [0] 0 (OI.start hd) (by omega) (by rw [lset_len, List.length_replicate]) (fun x h0 hx => by
    unfold lset
    by_cases q : x = 0
    · subst q
      unfold lget pl plc
      rw [List.getD, List.getElem?_set_self (by simp; omega)]; rfl
    · have hne : (0 : Int).toNat ≠ x.toNat := by omega
      have e2 : pl [0] x = -1 := pl_not (by simpa using q)
      refine Eq.trans ?_ ((lget_neg d.f1.length x h0 hx).trans e2.symm)
      unfold lget
      rw [List.getD, List.getD, List.getElem?_set_ne hne])
  exact this
/-! The document's answer. -/
theorem rorder_l4 {d : S50} (h : Dr d) (rec17 : List Int → List (List Int) → List Int → Int → Option S50) (x13 : List (List Int)) (x15 : List Int) (i : Nat) (q : Int) (hq0 : 0 ≤ q ∧ q < (d.f1.length : Int)) :
    ∀ (m c fuel : Nat) (L acc : List Int), c + m = (rw' d q).length → m < fuel → (∀ x ∈ L, 0 ≤ x) → L.length + m ≤ 100000 → acc.length = c → i < L.length → lget L (i : Int) = q → (∀ (L' : List Int) (r : Nat), (∃ k, L' = L ++ k) → (∀ x ∈ L', x ∈ L ∨ (x ∈ rw' d q ∧ 0 ≤ x)) → L'.Nodup → L'.length ≤ 1000) → L.Nodup →
    bosketref08_Order_l4 2000 rec17 d x13 x15 (i : Int) fuel L acc (c : Int) = bosketref08_Order_c2 2000 rec17 d x13 x15 (i : Int) (ordR L ((rw' d q).drop c)) (acc ++ ((rw' d q).drop c).map (pl (ordR L ((rw' d q).drop c))))
  | 0, c, f + 1, L, acc, hc, _, hL, hz, ha, hi, hq, hb, hnd => by
    have hcn : ¬ (c : Int) < ((lget d.f1 q).length : Int) := by
      have : ¬ (c : Int) < ((rw' d q).length : Int) := by omega
      exact this
    rw [bosketref08_Order_l4.eq_2, if_pos ⟨by omega, by omega⟩, hq, if_pos hq0, if_neg hcn, List.drop_of_length_le (by omega)]
    simp [ordR]
  | m + 1, c, f + 1, L, acc, hc, hf, hL, hz, ha, hi, hq, hb, hnd => by
    have hc' : c < (rw' d q).length := by omega
    have hcI : (c : Int) < ((lget d.f1 q).length : Int) := by
      have : (c : Int) < ((rw' d q).length : Int) := by omega
      exact this
    have he := h.entk hq0.1 hq0.2 (c := (c : Int)) (by omega) hcI
    have h256 : (rw' d q).length ≤ 256 := h.row256 _ (mem_lget hq0.1 hq0.2)
    have ge : lget (lget d.f1 q) (c : Int) = (rw' d q)[c] := lget_lt (rw' d q) c hc'
    have hmx : (rw' d q)[c] ∈ rw' d q := List.getElem_mem hc'
    have hLl : L.length ≤ 1000 := hb L 0 ⟨[], by simp⟩ (fun x hx => .inl hx) hnd
    have gi : 0 ≤ (i : Int) ∧ (i : Int) < (L.length : Int) := ⟨by omega, by omega⟩
    rw [bosketref08_Order_l4.eq_2, if_pos gi, hq, if_pos hq0, if_pos hcI, if_pos gi, if_pos hq0, if_pos ⟨by omega, hcI⟩]
    unfold bosketref08_Order_c3
    rw [hq, ge, List.drop_eq_getElem_cons hc', List.map_cons]
    rw [ge] at he
    have hd2 : ordR L ((rw' d q)[c] :: (rw' d q).drop (c + 1)) = ordR (addO L (rw' d q)[c]) ((rw' d q).drop (c + 1)) := rfl
    rw [hd2]
    generalize hto : (rw' d q)[c] = to at he hmx
    have hlen : ∀ v : Int, (acc ++ [v]).length * 8 ≤ 140737488355328 := fun v => by simp; omega
    have stab : ∀ L1 : List Int, (∀ x ∈ L1, 0 ≤ x) → (0 ≤ to → to ∈ L1) → pl (ordR L1 ((rw' d q).drop (c + 1))) to = pl L1 to := by
      intro L1 h1 h2
      obtain ⟨k, hk⟩ := ordR_pre ((rw' d q).drop (c + 1)) L1
      by_cases a : 0 ≤ to
      · rw [hk]; exact pl_app k (h2 a)
      · rw [pl_not (fun z => a (h1 _ z)), pl_not (fun z => ?_)]
        rcases ordR_from _ _ z with z | z
        · exact a (h1 _ z)
        · exact a z.2
    by_cases a : 0 ≤ to
    · rw [if_pos a, place_eq L to hLl, Option.bind_some, Option.bind_some]
      by_cases b : to ∈ L
      · obtain ⟨j, j1, j2, j3⟩ := pl_get b
        have hadd : addO L to = L := by unfold addO; rw [if_neg (fun k => k.2 b)]
        rw [if_neg (by rw [j2]; simp), Option.bind_some, if_pos (hlen _), w64s (by omega) (by omega), hadd, stab L hL (fun _ => b)]
        have ih := rorder_l4 h rec17 x13 x15 i q hq0 m (c + 1) f L (acc ++ [pl L to]) (by omega) (by omega) hL (by omega) (by simp [ha]) hi hq hb hnd
        rw [List.append_assoc] at ih
        exact_mod_cast ih
      · have hadd : addO L to = L ++ [to] := by unfold addO; rw [if_pos ⟨a, b⟩]
        have hnd' : (L ++ [to]).Nodup := by rw [← hadd]; exact addO_nodup hnd
        have hL1 : ∀ x ∈ L ++ [to], 0 ≤ x := fun x hx => by
          rcases List.mem_append.1 hx with k | k
          · exact hL x k
          · have e : x = to := by simpa using k
            subst e; exact a
        have hfrom : ∀ x ∈ L ++ [to], x ∈ L ∨ (x ∈ rw' d q ∧ 0 ≤ x) := fun x hx => by
          rcases List.mem_append.1 hx with k | k
          · exact .inl k
          · have e : x = to := by simpa using k
            subst e; exact .inr ⟨hmx, a⟩
        have hl2 : (L ++ [to]).length ≤ 1000 := hb _ 0 ⟨[to], rfl⟩ hfrom hnd'
        rw [pl_not b, if_pos (by decide), if_pos (by simp; omega), place_eq _ to hl2, Option.bind_some, if_pos (hlen _), w64s (by omega) (by omega), hadd, stab _ hL1 (fun _ => by simp)]
        have ih := rorder_l4 h rec17 x13 x15 i q hq0 m (c + 1) f (L ++ [to]) (acc ++ [pl (L ++ [to]) to]) (by omega) (by omega) hL1 (by simp; omega) (by simp [ha]) (by simp; omega) (by rw [lget_pre hi]; exact hq) (fun L' r ⟨k, hk⟩ h2 h3 => hb L' r ⟨to :: k, by rw [hk]; simp⟩ (fun x hx => by
          rcases h2 x hx with z | z
          · exact hfrom x z
          · exact .inr z) h3) hnd'
        rw [List.append_assoc] at ih
        exact_mod_cast ih
    · have hadd : addO L to = L := by unfold addO; rw [if_neg (fun k => a k.1)]
      rw [if_neg a, Option.bind_some, if_neg (by decide), place_eq L to hLl, Option.bind_some, if_pos (hlen _), w64s (by omega) (by omega), hadd, stab L hL (fun k => absurd k a)]
      have ih := rorder_l4 h rec17 x13 x15 i q hq0 m (c + 1) f L (acc ++ [pl L to]) (by omega) (by omega) hL (by omega) (by simp [ha]) hi hq hb hnd
      rw [List.append_assoc] at ih
      exact_mod_cast ih
theorem rorder_l5 {d : S50} (hd : Dr d) : ∀ (m : Nat) (L : List Int) (i : Nat), OI d L i → d.f1.length < i + m →
    bosketref08_Order_l5 2000 d m L ((L.take i).map fun q => (rw' d q).map (pl L)) ((L.take i).map fun q => lget d.f2 q) (i : Int) = some (OD d (obs d m L i))
  | 0, L, i, h, hm => by
    have := h.len
    have := h.le
    omega
  | m + 1, L, i, h, hm => by
    have hlen := h.len
    have hle := h.le
    have hn2 := hd.n2
    rw [bosketref08_Order_l5.eq_2, obs]
    by_cases a : i < L.length
    · have hmem : lget L (i : Int) ∈ L := mem_lget (by omega) (by omega)
      have hq := h.rng _ hmem
      have hm2 := hd.ml
      have h256 : (rw' d (lget L (i : Int))).length ≤ 256 := hd.row256 _ (mem_lget hq.1 hq.2)
      have hnx := h.next hd a
      have hnl := hnx.len
      obtain ⟨k, hk⟩ := ordR_pre (rw' d (lget L (i : Int))) L
      have n1 := rorder_l4 hd (bosketref08_Order_l5 2000 d m) ((L.take i).map fun q => (rw' d q).map (pl L)) ((L.take i).map fun q => lget d.f2 q) i (lget L (i : Int)) hq (rw' d (lget L (i : Int))).length 0 2000 L [] (by omega) (by omega) (fun x hx => (h.rng x hx).1) (by omega) rfl a rfl
        (fun L' _ _ h2 h3 => Nat.le_trans (nodup_len d.f1.length L' h3 fun x hx => by
          rcases h2 x hx with z | z
          · exact h.rng x z
          · exact ⟨z.2, row_lt hd hq.1 hq.2 x z.1⟩) hn2) h.nd
      rw [Int.natCast_zero, List.drop_zero, List.nil_append] at n1
      rw [if_pos a, if_pos (by omega), n1]
      unfold bosketref08_Order_c2 bosketref08_Order_c1
      rw [hk] at hnx hnl ⊢
      have hgl : lget (L ++ k) (i : Int) = lget L (i : Int) := lget_pre a
      rw [if_pos (by simp; omega), if_pos ⟨by omega, by simp; omega⟩, hgl, if_pos ⟨hq.1, by omega⟩, if_pos (by simp; omega), w64s (by omega) (by omega)]
      have ih := rorder_l5 hd m (L ++ k) (i + 1) hnx (by omega)
      rw [OD_take hd h a k hk] at ih
      have e2 : ((L ++ k).take (i + 1)).map (fun q => lget d.f2 q) = (L.take i).map (fun q => lget d.f2 q) ++ [lget d.f2 (lget L (i : Int))] := by
        rw [List.take_append_of_le_length (by omega), ← List.take_append_getElem a, List.map_append, List.map_singleton, lget_lt L i a]
      rw [e2] at ih
      exact_mod_cast ih
    · rw [if_neg a, if_neg (by omega), bosketref08_Order_c0]
      have e : i = L.length := by omega
      rw [e, List.take_length]; rfl
theorem rorder_eq {d : S50} (hd : Dr d) : bosketref08_Order 2000 d = some (ORD d) := rorder_l5 hd 2000 [0] 0 (OI.start hd) (by have := hd.n2; omega)
end Go.Avl.T3
/- DfaReaches: the plain law. -/
namespace Go.Avl.T3
open Go Go.RowKit Go.Proofs Go.Avl
set_option linter.all false
set_option maxRecDepth 10000

theorem awake08 : bosketlaw08_awake 2000 = some true := by decide +kernel
theorem TRM_sz {d : S50} (h : Dr d) (A : List Bool) : (TRM d A).f1.length ≤ 1000 ∧ (TRM d A).f2.length ≤ 1000 ∧ ∀ r ∈ (TRM d A).f1, r.length ≤ 1000 := by
  have h2 := h.n2
  have h3 := h.ml
  refine ⟨by show (d.f1.map _).length ≤ 1000; simpa using h2, by show d.f2.length ≤ 1000; omega, fun r hr => ?_⟩
  obtain ⟨r', hr', rfl⟩ := List.mem_map.1 (show r ∈ d.f1.map fun r => r.map (tr A) from hr)
  have := h.row256 r' hr'
  rw [List.length_map]; omega
theorem ORD_sz {d : S50} (h : Dr d) : (ORD d).f1.length ≤ 1000 ∧ (ORD d).f2.length ≤ 1000 ∧ ∀ r ∈ (ORD d).f1, r.length ≤ 1000 := by
  have h2 := h.n2
  have h3 := (OL_OI h).len
  refine ⟨by show ((OL d).map _).length ≤ 1000; rw [List.length_map]; omega, by show ((OL d).map _).length ≤ 1000; rw [List.length_map]; omega, fun r hr => ?_⟩
  obtain ⟨q, hq, rfl⟩ := List.mem_map.1 (show r ∈ (OL d).map fun q => (rw' d q).map (pl (OL d)) from hr)
  have hr := (OL_OI h).rng q hq
  have h256 : (rw' d q).length ≤ 256 := h.row256 _ (mem_lget hr.1 hr.2)
  rw [List.length_map]; omega
theorem bosketlaw08_DfaReaches_true (a0 : S50) (a1 : Int) (h0 : wf50 a0) (h1 : wf3 a1) : ∃ k, bosketlaw08_DfaReaches k a0 a1 = some true := by
  refine ⟨2000, ?_⟩
  unfold bosketlaw08_DfaReaches
  rw [awake08, Option.bind_some, if_neg (by decide)]
  obtain ⟨sm, s1, s2⟩ := small_some a0 (Nat.le_refl 2000)
  rw [s1, Option.bind_some]
  cases sm with
  | false => rw [if_pos (by decide), Option.bind_some, if_pos rfl]
  | true =>
    obtain ⟨n1, n2, n3⟩ := s2 rfl
    have hv : VB a0.f0 := bytes_of h0
    rw [if_neg (by decide), rdright_eq hv n3 (by omega), Option.bind_some, Option.bind_some]
    cases hr : rgB a0 with
    | false => rfl
    | true =>
      have h : Dr a0 := (rgB_iff hv (by omega)).1 hr
      obtain ⟨R, r1, r2⟩ := reached_eq h a1
      obtain ⟨R', r3, r4⟩ := rreached_eq h a1
      obtain rfl := r2.uniq r4
      obtain ⟨A, a2, a3⟩ := alive_eq h
      obtain ⟨A', a4, a5⟩ := ralive_eq h
      obtain rfl := a3.uniq a5
      obtain ⟨A1, t1, t2⟩ := trim_eq h
      obtain ⟨A2, t3, t4⟩ := rtrim_eq h
      obtain rfl := a3.uniq t1
      obtain rfl := a3.uniq t3
      have hRl := r2.1
      have hAl := a3.1
      obtain ⟨z1, z2, z3⟩ := TRM_sz h A
      obtain ⟨y1, y2, y3⟩ := ORD_sz h
      have hh := h.n2
      rw [if_neg (by decide), r1, Option.bind_some, r3, Option.bind_some, same_eq R (by omega), Option.bind_some, if_pos rfl, a2, Option.bind_some, a4, Option.bind_some, same_eq A (by omega), Option.bind_some, if_pos rfl,
        t2, Option.bind_some, t4, Option.bind_some, dsame_eq _ _ z1 z2 z3, Option.bind_some, if_pos (decide_eq_true rfl), order_eq h, Option.bind_some, rorder_eq h, Option.bind_some, dsame_eq _ _ y1 y2 y3, Option.bind_some, Option.bind_some]
      simp
end Go.Avl.T3
