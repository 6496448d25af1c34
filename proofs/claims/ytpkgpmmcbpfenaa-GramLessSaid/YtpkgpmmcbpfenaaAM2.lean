/- Parts: T7P4, T7D0, T7G1, T7G2, T7P5, T7G3, T7P6, T7PureGramLess. -/
import Derived.Test.YtpkgpmmcbpfenaaAM1
import Derived.Test.YtpkgpmmcbpfenaaAF4
import Derived.Test.YtpkgpmmcbpfenaaAF3
import Derived.Test.YtpkgpmmcbpfenaaAF8
import Derived.Test.YtpkgpmmcbpfenaaAF6
import Derived.Test.YtpkgpmmcbpfenaaAF9
import Derived.Test.YtpkgpmmcbpfenaaAF7
import Derived.Test.YtpkgpmmcbpfenaaAF1
/- nfa.Of answers at every list of pieces; what it makes is right. -/
namespace Go.Avl.T7
open Go Go.RowKit Go.Proofs Go.Avl
set_option linter.all false
set_option maxRecDepth 10000

def tks (x : Int) : Int := if x = 0 ∨ x = 1 then 0 else if x = 4 ∨ x = 5 ∨ x = 6 then 1 else if x = 2 ∨ x = 3 then 2 else -1
theorem takes_eq' (x : Int) : F118 5000 x = some (tks x) := takes_eq x
/-- Enough parts are there at each piece. -/
def SK : List S131 → Nat → Prop
  | [], n => n = 1
  | p :: l, n => 0 ≤ tks p.f0 ∧ (tks p.f0).toNat ≤ n ∧ SK l (n + 1 - (tks p.f0).toNat)
theorem tks_rng (x : Int) : -1 ≤ tks x ∧ tks x ≤ 2 := by unfold tks; split <;> (try split) <;> (try split) <;> omega
theorem check_l (l : List S131) (hz : l.length ≤ 1000) : ∀ (m i fuel n : Nat), i + m = l.length → m < fuel → n ≤ i → ∃ c, F93_l1 5000 l fuel (n : Int) (i : Int) = some c ∧ (c = 0 → SK (l.drop i) n)
  | 0, i, fu + 1, n, hi, _, hn => by
    rw [F93_l1.eq_2, if_neg (by omega), List.drop_of_length_le (by omega)]
    unfold F93_c0
    by_cases q : (n : Int) ≠ 1
    · exact ⟨5, if_pos q, fun h => by cases h⟩
    · exact ⟨0, if_neg q, fun _ => by show n = 1; omega⟩
  | m + 1, i, fu + 1, n, hi, hf, hn => by
    have hi' : i < l.length := by omega
    have hr := tks_rng (lget l (i : Int)).f0
    rw [F93_l1.eq_2, if_pos (by omega), if_pos ⟨by omega, by omega⟩, takes_eq', Option.bind_some]
    have bad : ∃ c, (some (5 : Int) : Option Int) = some c ∧ (c = 0 → SK (l.drop i) n) := ⟨5, rfl, fun h => by cases h⟩
    by_cases a : tks (lget l (i : Int)).f0 < 0
    · rw [if_pos a, Option.bind_some, if_pos rfl]; exact bad
    · rw [if_neg a]
      by_cases b : (n : Int) < tks (lget l (i : Int)).f0
      · rw [if_pos b, Option.bind_some, if_pos rfl]; exact bad
      · have e : F119 5000 (lget l (i : Int)).f1 = some (decide ((lget l (i : Int)).f1 = Vector.replicate 4 (0 : Int))) := rfl
        rw [if_neg b, e, Option.bind_some, Option.bind_some]
        split
        · exact bad
        · obtain ⟨c, c1, c2⟩ := check_l l hz m (i + 1) fu (n + 1 - (tks (lget l (i : Int)).f0).toNat) (by omega) (by omega) (by omega)
          refine ⟨c, ?_, fun h => ?_⟩
          · rw [w6t (x := (1 : Int) - tks (lget l (i : Int)).f0) (by omega) (by omega), w6t (by omega) (by omega), w6t (by omega) (by omega)]
            have e2 : (n : Int) + (1 - tks (lget l (i : Int)).f0) = ((n + 1 - (tks (lget l (i : Int)).f0).toNat : Nat) : Int) := by omega
            rw [e2]
            exact_mod_cast c1
          · rw [List.drop_eq_getElem_cons hi', ← lget_lt l i hi']
            exact ⟨by omega, by omega, c2 h⟩
theorem check_tot (l : List S131) (hz : l.length ≤ 1000) : ∃ c, F93 5000 l = some c ∧ (c = 0 → SK l 0) := by
  unfold F93
  by_cases q : (400 : Int) < (l.length : Int)
  · exact ⟨6, if_pos q, fun h => by cases h⟩
  · obtain ⟨c, c1, c2⟩ := check_l l hz l.length 0 5000 0 (by omega) (by omega) (by omega)
    rw [List.drop_zero] at c2
    exact ⟨c, (if_neg q).trans c1, c2⟩
/-! The maker. -/
abbrev MkM (q : Nat) (E : List S152) (x y : Int) : S146 := S146.mk (S121.mk (q : Int) E x y)
theorem free_eq {q : Nat} {E : List S152} {x y a b : Int} (h : E.length ≤ 100000) : F121 5000 (MkM q E x y) a b = some (MkM q (E ++ [S152.mk a b (Vector.replicate 4 0) true]) x y) := by
  unfold F121
  rw [if_pos (by simp; omega)]
theorem fresh_eq {q : Nat} {E : List S152} {x y : Int} (h : q ≤ 100000) : F120 5000 (MkM q E x y) = some (S150.mk (q : Int) ((q + 1 : Nat) : Int), MkM (q + 2) E x y) := by
  have st : ∀ q : Nat, q ≤ 200000 → F134 5000 (MkM q E x y) = some ((q : Int), MkM (q + 1) E x y) := by
    intro q hq
    unfold F134
    show some (w64 (w64 ((q : Int) + 1) - 1), S146.mk (S121.mk (w64 ((q : Int) + 1)) E x y)) = _
    rw [w6t (x := (q : Int) + 1) (by omega) (by omega), w6t (by omega) (by omega), show (q : Int) + 1 - 1 = (q : Int) by omega]; rfl
  unfold F120
  show (F134 5000 (MkM q E x y)).bind _ = _
  rw [st q (by omega), Option.bind_some]
  show (F134 5000 (MkM (q + 1) E x y)).bind _ = _
  rw [st (q + 1) (by omega), Option.bind_some]
/-- Edges, and pieces, within so many states. -/
def EOK (q : Nat) (E : List S152) : Prop := ∀ e ∈ E, 0 ≤ e.f0 ∧ e.f0 < (q : Int) ∧ 0 ≤ e.f1 ∧ e.f1 < (q : Int) ∧ U e.f2
def SOK (q : Nat) (st : List S150) : Prop := ∀ e ∈ st, 0 ≤ e.f0 ∧ e.f0 < (q : Int) ∧ 0 ≤ e.f1 ∧ e.f1 < (q : Int)
theorem EOK.up {q q' : Nat} {E : List S152} (h : EOK q E) (hq : q ≤ q') : EOK q' E := fun e he => by
  obtain ⟨a, b, c, d, u⟩ := h e he
  exact ⟨a, by omega, c, by omega, u⟩
theorem EOK.add {q : Nat} {E : List S152} (h : EOK q E) {a b : Int} {v : Vector Int 4} {f : Bool} (ha : 0 ≤ a ∧ a < (q : Int)) (hb : 0 ≤ b ∧ b < (q : Int)) (hv : U v) : EOK q (E ++ [S152.mk a b v f]) := fun e he => by
  rcases List.mem_append.1 he with he | he
  · exact h e he
  · rw [List.mem_singleton.1 he]; exact ⟨ha.1, ha.2, hb.1, hb.2, hv⟩
/-- One piece more: what is made. -/
def AddOK (q : Nat) (x y : Int) (p : S131) (st : List S150) (E : List S152) (o : Option (List S150 × S146)) : Prop :=
  ∃ E', o = some (st.take (st.length - (tks p.f0).toNat) ++ [S150.mk (q : Int) ((q + 1 : Nat) : Int)], MkM (q + 2) E' x y) ∧ EOK (q + 2) E' ∧ E'.length ≤ E.length + 5
theorem add_c0 {q : Nat} {x y : Int} {p : S131} {st : List S150} {E E' : List S152} (t5 : S150 × S146) (h5 : t5.1 = S150.mk (q : Int) ((q + 1 : Nat) : Int)) (hk : 0 ≤ tks p.f0 ∧ (tks p.f0).toNat ≤ st.length) (hs : st.length ≤ 10000) (hE : EOK (q + 2) E') (hl : E'.length ≤ E.length + 5) :
    AddOK q x y p st E (F94_c0 5000 p st t5 ((q + 2 : Nat) : Int) E' x y) := by
  unfold F94_c0
  have ew : w64 ((st.length : Int) - tks p.f0) = ((st.length - (tks p.f0).toNat : Nat) : Int) := by
    rw [w6t (by omega) (by omega)]; omega
  rw [takes_eq', Option.bind_some, ew, if_pos ⟨by omega, by omega⟩, Int.toNat_natCast, h5, if_pos (by simp; omega)]
  exact ⟨E', rfl, hE, hl⟩
theorem sget {q : Nat} {st : List S150} (h : SOK q st) {i : Nat} (hi : i < st.length) : 0 ≤ (lget st (i : Int)).f0 ∧ (lget st (i : Int)).f0 < (q : Int) ∧ 0 ≤ (lget st (i : Int)).f1 ∧ (lget st (i : Int)).f1 < (q : Int) := by
  rw [lget_lt st i hi]; exact h _ (List.getElem_mem hi)
theorem add_tot {q : Nat} {x y : Int} {p : S131} {st : List S150} {E : List S152} (hq : q ≤ 10000) (hk : 0 ≤ tks p.f0 ∧ (tks p.f0).toNat ≤ st.length) (hs : st.length ≤ 10000) (hE : EOK q E) (hz : E.length ≤ 10000) (hS : SOK q st) (hp : U p.f1) :
    AddOK q x y p st E (F94 5000 (MkM q E x y) p st) := by
  have h2 := hE.up (show q ≤ q + 2 by omega)
  have gq : (0 : Int) ≤ (q : Int) ∧ (q : Int) < ((q + 2 : Nat) : Int) := ⟨by omega, by omega⟩
  have gq1 : (0 : Int) ≤ ((q + 1 : Nat) : Int) ∧ ((q + 1 : Nat) : Int) < ((q + 2 : Nat) : Int) := ⟨by omega, by omega⟩
  unfold F94
  show AddOK q x y p st E ((F120 5000 (MkM q E x y)).bind _)
  rw [fresh_eq (by omega), Option.bind_some]
  generalize ht5 : (S150.mk (q : Int) ((q + 1 : Nat) : Int), MkM (q + 2) E x y) = t5
  have e51 : t5.1 = S150.mk (q : Int) ((q + 1 : Nat) : Int) := by rw [← ht5]
  have e52 : t5.2 = MkM (q + 2) E x y := by rw [← ht5]
  rw [e52, e51]
  by_cases k0 : p.f0 = 0
  · rw [if_pos k0]
    show AddOK q x y p st E ((F121 5000 (MkM (q + 2) E x y) _ _).bind _)
    rw [free_eq (by omega), Option.bind_some]
    exact add_c0 t5 e51 hk hs (h2.add gq gq1 U_zero) (by simp)
  · rw [if_neg k0]
    by_cases k1 : p.f0 = 1
    · rw [if_pos k1]
      show AddOK q x y p st E (if (E ++ [S152.mk (q : Int) ((q + 1 : Nat) : Int) p.f1 false]).length * 56 ≤ 140737488355328 then _ else _)
      rw [if_pos (by simp; omega)]
      exact add_c0 t5 e51 hk hs (h2.add gq gq1 hp) (by simp)
    · rw [if_neg k1]
      by_cases k2 : p.f0 = 2
      · have et : tks p.f0 = 2 := by rw [k2]; rfl
        have hl2 : 2 ≤ st.length := by rw [et] at hk; exact hk.2
        have w1 : w64 ((st.length : Int) - 2) = ((st.length - 2 : Nat) : Int) := by rw [w6t (by omega) (by omega)]; omega
        have w2 : w64 ((st.length : Int) - 1) = ((st.length - 1 : Nat) : Int) := by rw [w6t (by omega) (by omega)]; omega
        obtain ⟨a1, a2, a3, a4⟩ := sget hS (show st.length - 2 < st.length by omega)
        obtain ⟨b1, b2, b3, b4⟩ := sget hS (show st.length - 1 < st.length by omega)
        rw [if_pos k2, w1, w2, if_pos ⟨by omega, by omega⟩, if_pos ⟨by omega, by omega⟩]
        show AddOK q x y p st E ((F121 5000 (MkM (q + 2) E x y) _ _).bind _)
        rw [free_eq (by omega), Option.bind_some]
        show AddOK q x y p st E ((F121 5000 (MkM (q + 2) _ x y) _ _).bind _)
        rw [free_eq (by simp; omega), Option.bind_some]
        show AddOK q x y p st E ((F121 5000 (MkM (q + 2) _ x y) _ _).bind _)
        rw [free_eq (by simp; omega), Option.bind_some]
        exact add_c0 t5 e51 hk hs (((h2.add gq ⟨a1, by omega⟩ U_zero).add ⟨a3, by omega⟩ ⟨b1, by omega⟩ U_zero).add ⟨b3, by omega⟩ gq1 U_zero) (by simp)
      · rw [if_neg k2]
        by_cases k3 : p.f0 = 3
        · have et : tks p.f0 = 2 := by rw [k3]; rfl
          have hl2 : 2 ≤ st.length := by rw [et] at hk; exact hk.2
          have w1 : w64 ((st.length : Int) - 2) = ((st.length - 2 : Nat) : Int) := by rw [w6t (by omega) (by omega)]; omega
          obtain ⟨a1, a2, a3, a4⟩ := sget hS (show st.length - 2 < st.length by omega)
          obtain ⟨b1, b2, b3, b4⟩ := sget hS (show st.length - 1 < st.length by omega)
          have en : (((st.length - (((st.length - 2 : Nat) : Int)).toNat : Nat) : Nat) : Int) = 2 := by rw [Int.toNat_natCast]; omega
          have i1 : ((st.length - 2 : Nat) : Int) + 0 = ((st.length - 2 : Nat) : Int) := by omega
          have i2 : ((st.length - 2 : Nat) : Int) + 1 = ((st.length - 1 : Nat) : Int) := by omega
          have u1 : w64 ((0 : Int) + 1) = 1 := w6t (by omega) (by omega)
          have u2 : w64 ((1 : Int) + 1) = 2 := w6t (by omega) (by omega)
          rw [if_pos k3, w1, if_pos ⟨by omega, by omega⟩]
          show AddOK q x y p st E (F94_l1 5000 p st t5 (4997 + 1 + 1 + 1) ((q + 2 : Nat) : Int) E x y (0 : Int))
          rw [F94_l1.eq_2, w1, en, if_pos (by decide), if_pos (by decide), i1, e51]
          show AddOK q x y p st E ((F121 5000 (MkM (q + 2) E x y) _ _).bind _)
          rw [free_eq (by omega), Option.bind_some]
          show AddOK q x y p st E ((F121 5000 (MkM (q + 2) _ x y) _ _).bind _)
          rw [free_eq (by simp; omega), Option.bind_some, u1]
          show AddOK q x y p st E (F94_l1 5000 p st t5 (4997 + 1 + 1) ((q + 2 : Nat) : Int) _ x y (1 : Int))
          rw [F94_l1.eq_2, w1, en, if_pos (by decide), if_pos (by decide), i2, e51]
          show AddOK q x y p st E ((F121 5000 (MkM (q + 2) _ x y) _ _).bind _)
          rw [free_eq (by simp; omega), Option.bind_some]
          show AddOK q x y p st E ((F121 5000 (MkM (q + 2) _ x y) _ _).bind _)
          rw [free_eq (by simp; omega), Option.bind_some, u2]
          show AddOK q x y p st E (F94_l1 5000 p st t5 (4997 + 1) ((q + 2 : Nat) : Int) _ x y (2 : Int))
          rw [F94_l1.eq_2, w1, en, if_neg (by decide)]
          exact add_c0 t5 e51 hk hs ((((h2.add gq ⟨a1, by omega⟩ U_zero).add ⟨a3, by omega⟩ gq1 U_zero).add gq ⟨b1, by omega⟩ U_zero).add ⟨b3, by omega⟩ gq1 U_zero) (by simp)
        · have et : 1 ≤ tks p.f0 := by
            have := hk.1
            unfold tks at this ⊢
            rw [if_neg (by omega)] at this ⊢
            split
            · omega
            · rw [if_neg (by assumption), if_neg (by omega)] at this; omega
          have w2 : w64 ((st.length : Int) - 1) = ((st.length - 1 : Nat) : Int) := by rw [w6t (by omega) (by omega)]; omega
          obtain ⟨b1, b2, b3, b4⟩ := sget hS (show st.length - 1 < st.length by omega)
          rw [if_neg k3, w2, if_pos ⟨by omega, by omega⟩]
          show AddOK q x y p st E ((F121 5000 (MkM (q + 2) E x y) _ _).bind _)
          rw [free_eq (by omega), Option.bind_some]
          show AddOK q x y p st E ((F121 5000 (MkM (q + 2) _ x y) _ _).bind _)
          rw [free_eq (by simp; omega), Option.bind_some]
          have base := (h2.add gq ⟨b1, by omega⟩ U_zero (f := true)).add ⟨b3, by omega⟩ gq1 U_zero (f := true)
          have fin : ∀ E2 : List S152, EOK (q + 2) E2 → E2.length ≤ E.length + 3 → AddOK q x y p st E (F94_c2 5000 p st t5 ((q + 2 : Nat) : Int) E2 x y) := by
            intro E2 o2 l2
            unfold F94_c2
            rw [e51]
            by_cases k5 : p.f0 ≠ 5
            · rw [if_pos k5]
              show AddOK q x y p st E ((F121 5000 (MkM (q + 2) E2 x y) _ _).bind _)
              rw [free_eq (by omega), Option.bind_some]
              exact add_c0 t5 e51 hk hs (o2.add gq gq1 U_zero) (by simp; omega)
            · rw [if_neg k5]
              exact add_c0 t5 e51 hk hs o2 (by omega)
          by_cases k6 : p.f0 ≠ 6
          · rw [if_pos k6]
            show AddOK q x y p st E ((F121 5000 (MkM (q + 2) _ x y) _ _).bind _)
            rw [free_eq (by simp; omega), Option.bind_some]
            exact fin _ (base.add ⟨b3, by omega⟩ ⟨b1, by omega⟩ U_zero) (by simp)
          · rw [if_neg k6]
            exact fin _ base (by simp)
theorem of_loop (l : List S131) (hz : l.length ≤ 200) (hu : ∀ p ∈ l, U p.f1) (x y : Int) : ∀ (m i fuel : Nat) (st : List S150) (E : List S152), i + m = l.length → m < fuel → SK (l.drop i) st.length → st.length ≤ i → EOK (2 * i) E → E.length ≤ 5 * i → SOK (2 * i) st →
    ∃ E' a b, F74_l1 5000 l fuel ((2 * i : Nat) : Int) E x y st (i : Int) = some (S121.mk ((2 * l.length : Nat) : Int) E' a b, 0) ∧ EOK (2 * l.length) E' ∧ E'.length ≤ 5 * l.length ∧ 0 ≤ a ∧ a < ((2 * l.length : Nat) : Int) ∧ 0 ≤ b ∧ b < ((2 * l.length : Nat) : Int)
  | 0, i, fu + 1, st, E, hi, _, hk, hs, hE, hl, hS => by
    have e : i = l.length := by omega
    rw [List.drop_of_length_le (by omega)] at hk
    have hk : st.length = 1 := hk
    obtain ⟨a1, a2, a3, a4⟩ := sget hS (show 0 < st.length by omega)
    refine ⟨E, (lget st (0 : Int)).f0, (lget st (0 : Int)).f1, ?_, by rw [← e]; exact hE, by omega, a1, by rw [← e]; exact a2, a3, by rw [← e]; exact a4⟩
    rw [F74_l1.eq_2, if_neg (by omega)]
    unfold F74_c0
    rw [if_pos ⟨by omega, by omega⟩, if_pos ⟨by omega, by omega⟩, e]
  | m + 1, i, fu + 1, st, E, hi, hf, hk, hs, hE, hl, hS => by
    have hi' : i < l.length := by omega
    rw [List.drop_eq_getElem_cons hi'] at hk
    obtain ⟨k1, k2, k3⟩ := hk
    have hg : lget l (i : Int) = l[i] := lget_lt l i hi'
    obtain ⟨E', e1, e2, e3⟩ := add_tot (q := 2 * i) (x := x) (y := y) (p := l[i]) (st := st) (E := E) (by omega) ⟨k1, k2⟩ (by omega) hE (by omega) hS (hu _ (List.getElem_mem hi'))
    have hlen : (st.take (st.length - (tks l[i].f0).toNat) ++ [S150.mk ((2 * i : Nat) : Int) ((2 * i + 1 : Nat) : Int)]).length = st.length + 1 - (tks l[i].f0).toNat := by simp; omega
    obtain ⟨E2, a, b, r1, r2⟩ := of_loop l hz hu x y m (i + 1) fu (st.take (st.length - (tks l[i].f0).toNat) ++ [S150.mk ((2 * i : Nat) : Int) ((2 * i + 1 : Nat) : Int)]) E' (by omega) (by omega) (by rw [hlen]; exact k3) (by rw [hlen]; omega) e2 (by omega) (fun e he => by
      rcases List.mem_append.1 he with he | he
      · obtain ⟨a1, a2, a3, a4⟩ := hS e (List.mem_of_mem_take he)
        exact ⟨a1, by omega, a3, by omega⟩
      · rw [List.mem_singleton.1 he]; exact ⟨by show (0 : Int) ≤ ((2 * i : Nat) : Int); omega, by show ((2 * i : Nat) : Int) < _; omega, by show (0 : Int) ≤ ((2 * i + 1 : Nat) : Int); omega, by show ((2 * i + 1 : Nat) : Int) < _; omega⟩)
    refine ⟨E2, a, b, ?_, r2⟩
    rw [F74_l1.eq_2, if_pos (by omega), if_pos ⟨by omega, by omega⟩, hg]
    show (F94 5000 (MkM (2 * i) E x y) l[i] st).bind _ = _
    rw [e1, Option.bind_some, w6t (by omega) (by omega)]
    exact_mod_cast r1
/-- nfa.Of answers; without an error its machine is right. -/
theorem nof_tot (l : List S131) (hz : l.length ≤ 190) (hu : ∀ p ∈ l, U p.f1) : ∃ n e, F74 5000 l = some (n, e) ∧ (e = 0 → Rt n) := by
  obtain ⟨c, c1, c2⟩ := check_tot l (by omega)
  unfold F74
  rw [c1, Option.bind_some]
  by_cases q : c ≠ 0
  · exact ⟨_, c, if_pos q, fun h => absurd h q⟩
  · obtain ⟨E, a, b, r1, r2, r3, r4, r5, r6, r7⟩ := of_loop l (by omega) hu 0 0 l.length 0 5000 [] [] (by omega) (by omega) (by rw [List.drop_zero]; exact c2 (by omega)) (by simp) (fun e he => by cases he) (by simp) (fun e he => by cases he)
    refine ⟨_, 0, (if_neg q).trans r1, fun _ => ⟨⟨r4, r5⟩, ⟨r6, r7⟩, fun e he => ?_, by show ((2 * l.length : Nat) : Int) ≤ 1000; omega, by show E.length ≤ 1000; omega, fun e he => (r2 e he).2.2.2.2⟩⟩
    obtain ⟨x1, x2, x3, x4, _⟩ := r2 e he
    exact ⟨x1, x2, x3, x4⟩
end Go.Avl.T7
/- Ported: texts between quotes. -/
namespace Go.Avl.T7
open Go Go.RowKit Go.Proofs Go.Avl
set_option linter.all false
set_option maxRecDepth 10000

theorem u8_of {n : Int} (h : (Lit.int .u8 n).wf = true) : 0 ≤ n ∧ n ≤ 255 := by
  simpa [Lit.wf, show IntKind.u8.min = 0 from rfl, show IntKind.u8.max = 255 from rfl] using h
def mk (p0 : S55) (s : Int) : Int := if s < 0 ∨ (p0.f2.length : Int) ≤ s then -1 else lget p0.f2 s

theorem mark_eq (p0 : S55) (k : Nat) (s : Int) : F112 k p0 s = some (mk p0 s) := by
  unfold F112 mk
  by_cases a : s < 0
  · simp [a]
  · by_cases b : (p0.f2.length : Int) ≤ s
    · simp [a, b]
    · simp [a, b]
end Go.Avl.T7
/- Rows compared, element by element. -/
namespace Go.Avl.T7
open Go Go.RowKit Go.Proofs Go.Avl
set_option linter.all false
set_option maxRecDepth 10000

theorem w64n {n : Nat} (h : n ≤ 100000) : w64 ((n : Int) + 1) = ((n + 1 : Nat) : Int) := by rw [w64_id (by omega) (by omega)]; rfl
/-- A loop that goes on as long as something holds. -/
theorem loopAll {f : Nat → Int → Option Bool} {n : Nat} {P : Nat → Prop} {c d : Option Bool} (hs : ∀ j (i : Nat), i < n → (P i → f (j + 1) (i : Int) = f j ((i + 1 : Nat) : Int)) ∧ (¬ P i → f (j + 1) (i : Int) = d)) (he : ∀ j, f (j + 1) (n : Int) = c) :
    ∀ (m i fuel : Nat), i + m = n → m < fuel → ((∀ q, i ≤ q → q < n → P q) → f fuel (i : Int) = c) ∧ ((¬ ∀ q, i ≤ q → q < n → P q) → f fuel (i : Int) = d)
  | 0, i, fu + 1, hi, _ => by
    obtain rfl : i = n := by omega
    exact ⟨fun _ => he fu, fun h => absurd (fun q h1 h2 => by omega) h⟩
  | m + 1, i, fu + 1, hi, hf => by
    obtain ⟨ih1, ih2⟩ := loopAll hs he m (i + 1) fu (by omega) (by omega)
    obtain ⟨s1, s2⟩ := hs fu i (by omega)
    refine ⟨fun h => ?_, fun h => ?_⟩
    · rw [s1 (h i (Nat.le_refl _) (by omega))]
      exact ih1 fun q h1 h2 => h q (by omega) h2
    · by_cases p : P i
      · rw [s1 p]
        refine ih2 fun k => h fun q h1 h2 => ?_
        by_cases e : q = i
        · rw [e]; exact p
        · exact k q (by omega) h2
      · exact s2 p
theorem mem_get {α : Type} [Inhabited α] (l : List α) {i : Nat} (h : i < l.length) : lget l (i : Int) ∈ l := by rw [lget_lt l i h]; exact List.getElem_mem h
end Go.Avl.T7
/- Which grammars are tried; the document's Same. -/
namespace Go.Avl.T7
open Go Go.RowKit Go.Proofs Go.Avl
set_option linter.all false
set_option maxRecDepth 10000

def RuleFew (r : S82) : Prop := r.f2.size ≤ 40 ∧ r.f0.size ≤ 100
theorem rfew_is (l : List S82) : ∃ b, F38 5000 l = some b ∧ (b = true → l.length ≤ 20 ∧ ∀ r ∈ l, RuleFew r) := by
  by_cases hl : (20 : Int) < (l.length : Int)
  · exact ⟨false, by unfold F38; rw [if_pos hl], fun h => by cases h⟩
  · have e : F38 5000 l = F38_l1 5000 l 5000 ((0 : Nat) : Int) := by unfold F38; rw [if_neg hl]; rfl
    obtain ⟨h1, h2⟩ := loopAll (f := F38_l1 5000 l) (n := l.length) (P := fun q => RuleFew (lget l (q : Int))) (c := some true) (d := some false)
      (fun j i hi => by
        have g : 0 ≤ (i : Int) ∧ (i : Int) < (l.length : Int) := ⟨by omega, by omega⟩
        rw [F38_l1.eq_2, if_pos g.2, if_pos g, w64n (by omega)]
        unfold RuleFew
        by_cases c : (40 : Int) < (((lget l (i : Int)).f2).size : Int)
        · rw [if_pos c]
          exact ⟨fun p => by omega, fun _ => rfl⟩
        · rw [if_neg c, if_pos g]
          by_cases c2 : (100 : Int) < (((lget l (i : Int)).f0).size : Int)
          · rw [decide_eq_true c2]
            exact ⟨fun p => by omega, fun _ => rfl⟩
          · rw [decide_eq_false c2]
            exact ⟨fun _ => rfl, fun p => absurd ⟨by omega, by omega⟩ p⟩)
      (fun j => by rw [F38_l1.eq_2, if_neg (by omega)]; rfl) l.length 0 5000 (by omega) (by omega)
    rw [e]
    by_cases q : ∀ q : Nat, 0 ≤ q → q < l.length → RuleFew (lget l (q : Int))
    · refine ⟨true, h1 q, fun _ => ⟨by omega, fun r hr => ?_⟩⟩
      obtain ⟨i, hi, rfl⟩ := List.getElem_of_mem hr
      have := q i (by omega) hi
      rwa [lget_lt l i hi] at this
    · exact ⟨false, h2 q, fun h => by cases h⟩
structure Fw (g : S27) : Prop where
  r : g.f0.length ≤ 20
  rs : ∀ r ∈ g.f0, RuleFew r
  s : g.f1.length ≤ 20
  ss : ∀ x ∈ g.f1, x.size ≤ 100
  p : g.f2.length ≤ 40
  ps : ∀ x ∈ g.f2, x.f2.length ≤ 20 ∧ x.f5.length ≤ 20 ∧ x.f1.size ≤ 100
  l : g.f3.length ≤ 20
  ls : ∀ x ∈ g.f3, x.f1.length ≤ 20
theorem all_mem {α : Type} [Inhabited α] {l : List α} {P : α → Prop} (h : ∀ q : Nat, 0 ≤ q → q < l.length → P (lget l (q : Int))) : ∀ x ∈ l, P x := fun r hr => by
  obtain ⟨i, hi, rfl⟩ := List.getElem_of_mem hr
  have := h i (by omega) hi
  rwa [lget_lt l i hi] at this
theorem few_is (g : S27) : ∃ b, F10 5000 g = some b ∧ (b = true → Fw g) := by
  obtain ⟨t, t1, t2⟩ := rfew_is g.f0
  unfold F10
  rw [t1, Option.bind_some]
  by_cases ct : t = true
  · rw [ct, if_neg (by decide)]
    by_cases c1 : (20 : Int) < (g.f1.length : Int)
    · rw [if_pos c1]; exact ⟨false, rfl, fun h => by cases h⟩
    · rw [if_neg c1]
      by_cases c2 : (40 : Int) < (g.f2.length : Int)
      · rw [if_pos c2]; exact ⟨false, rfl, fun h => by cases h⟩
      · rw [if_neg c2, Option.bind_some]
        by_cases c3 : (20 : Int) < (g.f3.length : Int)
        · rw [decide_eq_true c3, if_pos rfl]; exact ⟨false, rfl, fun h => by cases h⟩
        · rw [decide_eq_false c3, if_neg (by decide)]
          obtain ⟨a1, a2⟩ := loopAll (f := F10_l1 5000 g) (n := g.f3.length) (P := fun q => (lget g.f3 (q : Int)).f1.length ≤ 20) (c := some true) (d := some false)
            (fun j i hi => by
              have g0 : 0 ≤ (i : Int) ∧ (i : Int) < (g.f3.length : Int) := ⟨by omega, by omega⟩
              rw [F10_l1.eq_2, if_pos g0.2, if_pos g0, w64n (by omega)]
              exact ⟨fun p => by rw [if_neg (by omega)], fun p => by rw [if_pos (by omega)]⟩)
            (fun j => by rw [F10_l1.eq_2, if_neg (by omega)]; rfl) g.f3.length 0 5000 (by omega) (by omega)
          obtain ⟨b1, b2⟩ := loopAll (f := F10_l3 5000 g) (n := g.f2.length) (P := fun q => (lget g.f2 (q : Int)).f2.length ≤ 20 ∧ (lget g.f2 (q : Int)).f5.length ≤ 20 ∧ (lget g.f2 (q : Int)).f1.size ≤ 100) (c := F10_c2 5000 g) (d := some false)
            (fun j i hi => by
              have g0 : 0 ≤ (i : Int) ∧ (i : Int) < (g.f2.length : Int) := ⟨by omega, by omega⟩
              rw [F10_l3.eq_2, if_pos g0.2, if_pos g0, w64n (by omega)]
              by_cases d1 : (20 : Int) < (((lget g.f2 (i : Int)).f2).length : Int)
              · rw [if_pos d1]; exact ⟨fun p => by omega, fun _ => rfl⟩
              · rw [if_neg d1, if_pos g0]
                by_cases d2 : (20 : Int) < (((lget g.f2 (i : Int)).f5).length : Int)
                · rw [if_pos d2]; exact ⟨fun p => by omega, fun _ => rfl⟩
                · rw [if_neg d2, if_pos g0]
                  by_cases d3 : (100 : Int) < (((lget g.f2 (i : Int)).f1).size : Int)
                  · rw [decide_eq_true d3]; exact ⟨fun p => by omega, fun _ => rfl⟩
                  · rw [decide_eq_false d3]; exact ⟨fun _ => rfl, fun p => absurd ⟨by omega, by omega, by omega⟩ p⟩)
            (fun j => by rw [F10_l3.eq_2, if_neg (by omega)]) g.f2.length 0 5000 (by omega) (by omega)
          obtain ⟨e1, e2⟩ := loopAll (f := F10_l5 5000 g) (n := g.f1.length) (P := fun q => (lget g.f1 (q : Int)).size ≤ 100) (c := F10_c4 5000 g) (d := some false)
            (fun j i hi => by
              have g0 : 0 ≤ (i : Int) ∧ (i : Int) < (g.f1.length : Int) := ⟨by omega, by omega⟩
              rw [F10_l5.eq_2, if_pos g0.2, if_pos g0, w64n (by omega)]
              exact ⟨fun p => by rw [if_neg (by omega)], fun p => by rw [if_pos (by omega)]⟩)
            (fun j => by rw [F10_l5.eq_2, if_neg (by omega)]) g.f1.length 0 5000 (by omega) (by omega)
          by_cases q1 : ∀ q : Nat, 0 ≤ q → q < g.f1.length → (lget g.f1 (q : Int)).size ≤ 100
          · by_cases q2 : ∀ q : Nat, 0 ≤ q → q < g.f2.length → (lget g.f2 (q : Int)).f2.length ≤ 20 ∧ (lget g.f2 (q : Int)).f5.length ≤ 20 ∧ (lget g.f2 (q : Int)).f1.size ≤ 100
            · by_cases q3 : ∀ q : Nat, 0 ≤ q → q < g.f3.length → (lget g.f3 (q : Int)).f1.length ≤ 20
              · refine ⟨true, (e1 q1).trans ((b1 q2).trans (a1 q3)), fun _ => ?_⟩
                have := t2 ct
                exact ⟨this.1, this.2, by omega, all_mem q1, by omega, all_mem q2, by omega, all_mem q3⟩
              · exact ⟨false, (e1 q1).trans ((b1 q2).trans (a2 q3)), fun h => by cases h⟩
            · exact ⟨false, (e1 q1).trans (b2 q2), fun h => by cases h⟩
          · exact ⟨false, e2 q1, fun h => by cases h⟩
  · rw [Bool.eq_false_iff.2 ct]; exact ⟨false, rfl, fun h => by cases h⟩
end Go.Avl.T7
/- rules.Check answers at any rules that are tried. -/
namespace Go.Avl.T7
open Go Go.RowKit Go.Proofs Go.Avl
set_option linter.all false
set_option maxRecDepth 10000

theorem fill_tot (n : S121) (hN : NN n ≤ 1000) (h0 : 0 ≤ n.f0) : ∀ (m i f : Nat) (x : List Int), i + m = NN n → m < f → x.length = NN n → ∃ y, y.length = NN n ∧ F77_l1 5000 n f x (i : Int) = F77_c0 5000 n y
  | 0, i, f + 1, x, hi, hf, hx => ⟨x, hx, by rw [F77_l1.eq_2, List.length_replicate, show n.f0.toNat = NN n from rfl, if_neg (by omega)]⟩
  | m + 1, i, f + 1, x, hi, hf, hx => by
    obtain ⟨y, y1, y2⟩ := fill_tot n hN h0 m (i + 1) f (lset x (i : Int) (-1)) (by omega) (by omega) (by rw [lset_len, hx])
    refine ⟨y, y1, ?_⟩
    rw [F77_l1.eq_2, List.length_replicate, show n.f0.toNat = NN n from rfl, if_pos (by omega), if_pos ⟨by omega, by omega⟩, w6t (by omega) (by omega)]
    exact_mod_cast y2
theorem one_tot {n : S121} (h : Rt n) : ∃ d e, F77 5000 n = some (d, e) := by
  obtain ⟨kk, hk⟩ := CK_ex n h.n2 h.u
  have hf := h.first
  have hl := h.last
  have hn := h.nn
  have h1 := h.n1
  have hN : NN n ≤ 1000 := by omega
  obtain ⟨y, y1, y2⟩ := fill_tot n hN (by omega) (NN n) 0 5000 (List.replicate (NN n) 0) (by omega) (by omega) (by simp)
  have y2 : F77_l1 5000 n 5000 (List.replicate (NN n) 0) (0 : Int) = F77_c0 5000 n y := y2
  obtain ⟨v, v1, v2⟩ := sof_eq h hk (lset y n.f3 0)
  have key : ∃ d e, F76 5000 n (lset y n.f3 0) = some (d, e) := by
    rw [v2]
    cases mainF n (RP kk) 2000 5000 0 [F0 n] [] with
    | none => exact ⟨_, _, rfl⟩
    | some x => exact ⟨_, _, rfl⟩
  obtain ⟨d, e, he⟩ := key
  refine ⟨d, e, ?_⟩
  unfold F77
  rw [right_eq n h.n2, Option.bind_some, h.rt, if_neg (by decide), if_pos ⟨by omega, by omega, by omega⟩, show n.f0.toNat = NN n from rfl, y2]
  unfold F77_c0
  rw [if_pos ⟨by omega, by omega⟩, he, Option.bind_some]
theorem raw_tot {s : ByteArray} (hz : s.size ≤ 60) : ∃ d e, F62 5000 s = some (d, e) := by
  obtain ⟨l, e, p1, p2, p3⟩ := parse_tot (s := s) (by omega)
  unfold F62
  rw [p1, Option.bind_some]
  by_cases q : e ≠ 0
  · exact ⟨_, e, if_pos q⟩
  · obtain ⟨n, f, n1, n2⟩ := nof_tot l (by omega) p3
    show ∃ d e', (if e ≠ 0 then _ else (F74 5000 l).bind _) = some (d, e')
    rw [if_neg q, n1, Option.bind_some]
    by_cases r : f ≠ 0
    · exact ⟨_, f, if_pos r⟩
    · obtain ⟨d, g, d1⟩ := one_tot (n2 (by omega))
      refine ⟨d, g, ?_⟩
      show (if f ≠ 0 then _ else (F77 5000 n).bind _) = _
      rw [if_neg r, d1, Option.bind_some]
theorem tb1 {α β : Type} {o : Option α} {f : α → Option β} (h : ∃ b, o = some b) (k : ∀ b, ∃ y, f b = some y) : ∃ y, o.bind f = some y := by
  obtain ⟨b, hb⟩ := h
  obtain ⟨y, hy⟩ := k b
  exact ⟨y, by rw [hb, Option.bind_some]; exact hy⟩
theorem it {α : Type} {p : Prop} [Decidable p] {a b : Option α} (h : ∃ y, a = some y) (k : ∃ y, b = some y) : ∃ y, (if p then a else b) = some y := by
  split
  · exact h
  · exact k
theorem class5_tot (x : Int) (b : Bool) : ∃ v, F91_c5 5000 x b = some v := by
  unfold F91_c5
  refine it ⟨_, rfl⟩ (tb1 (it ⟨_, rfl⟩ ⟨_, rfl⟩) fun _ => it ⟨_, rfl⟩ (tb1 (it ⟨_, rfl⟩ ⟨_, rfl⟩) fun _ => it ⟨_, rfl⟩ (tb1 (it ⟨_, rfl⟩ ⟨_, rfl⟩) fun _ => it ⟨_, rfl⟩ (it ⟨_, rfl⟩ (tb1 (it ⟨_, rfl⟩ ⟨_, rfl⟩) fun _ => it ⟨_, rfl⟩ ⟨_, rfl⟩)))))
theorem class_tot (x : Int) : ∃ v, F91 5000 x = some v := by
  unfold F91
  exact it (class5_tot _ _) (it (class5_tot _ _) (it (class5_tot _ _) (class5_tot _ _)))
theorem name_l (s : ByteArray) (hz : s.size ≤ 1000) : ∀ (m i fuel : Nat), i + m = s.size → m < fuel → ∃ b, F69_l1 5000 s fuel (i : Int) = some b
  | 0, i, fu + 1, hi, _ => ⟨true, by rw [F69_l1.eq_2, if_neg (by omega)]; rfl⟩
  | m + 1, i, fu + 1, hi, hf => by
    obtain ⟨b, hb⟩ := name_l s hz m (i + 1) fu (by omega) (by omega)
    obtain ⟨v, hv⟩ := class_tot (byteAt s (i : Int))
    rw [F69_l1.eq_2, if_pos (by omega), if_pos ⟨by omega, by omega⟩, hv, Option.bind_some, w6t (by omega) (by omega)]
    split
    · rw [Option.bind_some]
      split
      · exact ⟨_, rfl⟩
      · exact ⟨b, by exact_mod_cast hb⟩
    · rw [Option.bind_some, if_neg (by decide)]
      exact ⟨b, by exact_mod_cast hb⟩
theorem name_tot (s : ByteArray) : ∃ b, F69 5000 s = some b := by
  unfold F69
  by_cases q : (40 : Int) < (s.size : Int)
  · exact ⟨false, by rw [if_pos q, Option.bind_some, if_pos rfl]⟩
  · rw [if_neg q]
    by_cases e : s = ByteArray.mk #[]
    · exact ⟨false, by rw [if_pos e, Option.bind_some, if_pos rfl]⟩
    · have hs : 0 < s.size := by
        refine Classical.byContradiction fun q => e ?_
        have h1 : s.data.size = 0 := (show s.size = 0 by omega)
        cases s with
        | mk d => congr 1; exact Array.eq_empty_of_size_eq_zero h1
      obtain ⟨v, hv⟩ := class_tot (byteAt s 0)
      obtain ⟨b, hb⟩ := name_l s (by omega) s.size 0 5000 (by omega) (by omega)
      rw [if_neg e, if_pos ⟨by omega, by omega⟩, hv, Option.bind_some, Option.bind_some]
      split
      · exact ⟨_, rfl⟩
      · exact ⟨b, hb⟩
theorem has0_tot (d : S55) : ∃ v, F89 5000 d (ByteArray.mk #[]) = some v := by
  have e : F113 5000 d 0 (ByteArray.mk #[]) = some 0 := rfl
  unfold F89
  rw [e, Option.bind_some, mark_eq]
  exact ⟨_, rfl⟩
theorem rone_tot {r : S82} (hr : RuleFew r) (m : List (ByteArray × Int)) : ∃ e, F67 5000 r m = some e := by
  obtain ⟨b, hb⟩ := name_tot r.f0
  obtain ⟨d, e, hd⟩ := raw_tot (s := r.f2) (by have := hr.1; omega)
  obtain ⟨v, hv⟩ := has0_tot d
  have main : ∃ x, ((F62 5000 r.f2).bind fun t11 => if t11.2 ≠ (0 : Int) then some (t11.2) else (F89 5000 t11.1 (ByteArray.mk #[])).bind fun t14 => if (0 : Int) ≤ t14 then some ((14 : Int)) else some ((0 : Int))) = some x := by
    rw [hd, Option.bind_some]
    by_cases q : e ≠ 0
    · exact ⟨e, if_pos q⟩
    · show ∃ x, (if e ≠ 0 then some e else (F89 5000 d (ByteArray.mk #[])).bind _) = some x
      rw [if_neg q, hv, Option.bind_some]
      split <;> exact ⟨_, rfl⟩
  unfold F67
  rw [hb, Option.bind_some]
  cases b with
  | false => exact ⟨_, rfl⟩
  | true =>
    rw [if_neg (by decide)]
    split
    · exact ⟨_, rfl⟩
    · split
      · rw [Option.bind_some, if_pos rfl]; exact ⟨_, rfl⟩
      · rw [Option.bind_some]
        split
        · exact ⟨_, rfl⟩
        · exact main
theorem rcheck_l (l : List S82) (hz : l.length ≤ 1000) (hl : ∀ r ∈ l, RuleFew r) : ∀ (m i fuel : Nat) (mp : List (ByteArray × Int)), i + m = l.length → m < fuel → ∃ a e, F39_l1 5000 l fuel mp (i : Int) = some (a, e)
  | 0, i, fu + 1, mp, hi, _ => ⟨_, _, by rw [F39_l1.eq_2, if_neg (by omega)]; rfl⟩
  | m + 1, i, fu + 1, mp, hi, hf => by
    obtain ⟨e, he⟩ := rone_tot (hl _ (mem_get l (show i < l.length by omega))) mp
    obtain ⟨a, c, hc⟩ := rcheck_l l hz hl m (i + 1) fu (mput mp ((lget l (i : Int)).f0) (w64 (((mget mp ((lget l (i : Int)).f0)).getD (0 : Int)) + (1 : Int)))) (by omega) (by omega)
    rw [F39_l1.eq_2, if_pos (by omega), if_pos ⟨by omega, by omega⟩, he, Option.bind_some]
    split
    · exact ⟨_, _, rfl⟩
    · rw [w6t (x := (i : Int) + 1) (by omega) (by omega)]
      exact ⟨a, c, by exact_mod_cast hc⟩
theorem rcheck_tot (l : List S82) (hz : l.length ≤ 20) (hl : ∀ r ∈ l, RuleFew r) : ∃ a e, F39 5000 l = some (a, e) := by
  obtain ⟨a, e, h⟩ := rcheck_l l (by omega) hl l.length 0 5000 [] (by omega) (by omega)
  unfold F39
  rw [if_neg (by omega)]
  exact ⟨a, e, h⟩
end Go.Avl.T7
/- Names, productions and their lines. -/
namespace Go.Avl.T7
open Go Go.RowKit Go.Proofs Go.Avl
set_option linter.all false
set_option maxRecDepth 10000

/-- The numbers below one. -/
def idx (n : Nat) : List Int := (List.range n).map Int.ofNat
theorem idx_len (n : Nat) : (idx n).length = n := by simp [idx]
theorem idx_get {n i : Nat} (h : i < (idx n).length) : (idx n)[i] = (i : Int) := by simp [idx]
theorem idx_succ (n : Nat) : idx (n + 1) = idx n ++ [(n : Int)] := by simp [idx, List.range_succ]
theorem idx_mem {n : Nat} {x : Int} (h : x ∈ idx n) : 0 ≤ x ∧ x < (n : Int) := by
  obtain ⟨i, hi, rfl⟩ := List.mem_map.1 h
  have := List.mem_range.1 hi
  exact ⟨by show (0 : Int) ≤ (i : Int); omega, by show (i : Int) < _; omega⟩
def fstI (p : Int → Bool) (L : List Int) : Int := (L.find? p).getD (-1)
theorem fstI_mem {p : Int → Bool} {L : List Int} (h : ∀ x ∈ L, 0 ≤ x) : (fstI p L < 0 ∧ L.find? p = none ∧ fstI p L = -1) ∨ (0 ≤ fstI p L ∧ L.find? p = some (fstI p L) ∧ fstI p L ∈ L ∧ p (fstI p L) = true) := by
  unfold fstI
  cases e : L.find? p with
  | none => left; simp
  | some x =>
    right
    have hm := List.mem_of_find?_eq_some e
    have hp := List.find?_some e
    exact ⟨by simpa using h x hm, by simp, by simpa using hm, by simpa using hp⟩
/-- A loop that looks for the first. -/
theorem loopFindL {β : Type} {L : List Int} {p : Int → Bool} {f : Nat → Int → Option β} {r : Int → Option β} {c : Option β}
    (hs : ∀ j (i : Nat) (h : i < L.length), f (j + 1) (i : Int) = if p L[i] = true then r L[i] else f j ((i + 1 : Nat) : Int)) (he : ∀ j, f (j + 1) (L.length : Int) = c) :
    ∀ (m i fuel : Nat), i + m = L.length → m < fuel → f fuel (i : Int) = match (L.drop i).find? p with | some x => r x | none => c
  | 0, i, fu + 1, hi, _ => by
    obtain rfl : i = L.length := by omega
    rw [he fu, List.drop_of_length_le (Nat.le_refl _)]; rfl
  | m + 1, i, fu + 1, hi, hf => by
    have hi' : i < L.length := by omega
    rw [hs fu i hi', List.drop_eq_getElem_cons hi', List.find?]
    by_cases q : p L[i] = true
    · rw [if_pos q, q]
    · rw [if_neg q, Bool.eq_false_iff.2 q]
      exact loopFindL hs he m (i + 1) fu (by omega) (by omega)
theorem loopFst {L : List Int} {p : Int → Bool} {f : Nat → Int → Option Int} (hL : ∀ x ∈ L, 0 ≤ x) (hz : L.length ≤ 4000)
    (hs : ∀ j (i : Nat) (h : i < L.length), f (j + 1) (i : Int) = if p L[i] = true then some L[i] else f j ((i + 1 : Nat) : Int)) (he : ∀ j, f (j + 1) (L.length : Int) = some (-1)) : f 5000 (0 : Int) = some (fstI p L) := by
  have := loopFindL hs he L.length 0 5000 (by omega) (by omega)
  rw [List.drop_zero] at this
  have e : f 5000 (0 : Int) = _ := this
  rw [e]
  rcases fstI_mem (p := p) hL with ⟨a, b, c⟩ | ⟨a, b, c, d⟩
  · rw [b, c]
  · rw [b]
theorem idx_nn {n : Nat} : ∀ x ∈ idx n, 0 ≤ x := fun x h => (idx_mem h).1
/-! Names. -/
def rfd (l : List S82) (s : ByteArray) : Int := fstI (fun x => decide ((lget l x).f0 = s)) (idx l.length)
def sfd (l : List ByteArray) (s : ByteArray) : Int := fstI (fun x => decide (lget l x = s)) (idx l.length)
theorem rfind_eq (l : List S82) (s : ByteArray) (hz : l.length ≤ 1000) : F42 5000 l s = some (rfd l s) := by
  refine loopFst (f := F42_l1 5000 l s) idx_nn (by rw [idx_len]; omega) (fun j i h => ?_) (fun j => ?_)
  · rw [idx_get h]
    rw [idx_len] at h
    rw [F42_l1.eq_2, if_pos (by omega), if_pos ⟨by omega, by omega⟩, w64n (by omega)]
    simp only [decide_eq_true_eq]
  · rw [idx_len, F42_l1.eq_2, if_neg (by omega)]; rfl
theorem sfind_eq (l : List ByteArray) (s : ByteArray) (hz : l.length ≤ 1000) : F54 5000 l s = some (sfd l s) := by
  refine loopFst (f := F54_l1 5000 l s) idx_nn (by rw [idx_len]; omega) (fun j i h => ?_) (fun j => ?_)
  · rw [idx_get h]
    rw [idx_len] at h
    rw [F54_l1.eq_2, if_pos (by omega), if_pos ⟨by omega, by omega⟩, w64n (by omega)]
    simp only [decide_eq_true_eq]
    by_cases q : s = lget l (i : Int)
    · rw [if_pos q, if_pos q.symm]
    · rw [if_neg q, if_neg fun e => q e.symm]
  · rw [idx_len, F54_l1.eq_2, if_neg (by omega)]; rfl
def hasS (g : S27) (s : S41) : Bool := if s.f0 = true then decide (0 ≤ s.f1 ∧ s.f1 < (g.f1.length : Int)) else decide (0 ≤ s.f1 ∧ s.f1 < (g.f0.length : Int) ∧ (lget g.f0 s.f1).f1 = 0)
theorem ghas_eq (g : S27) (s : S41) (k : Nat) : F16 k g s = some (hasS g s) := by
  unfold F16 hasS
  by_cases c : s.f0 = true
  · rw [if_pos c, if_pos c]
    by_cases a : 0 ≤ s.f1
    · rw [if_pos a]; simp [a]
    · rw [if_neg a]; simp [a]
  · rw [if_neg c, if_neg c]
    by_cases a : 0 ≤ s.f1
    · rw [if_pos a]
      by_cases b : s.f1 < (g.f0.length : Int)
      · rw [if_pos b, if_pos ⟨a, b⟩]; simp [a, b]
      · rw [if_neg b]; simp [b]
    · rw [if_neg a]; simp [a]
def nm (g : S27) (s : S41) : ByteArray := if s.f1 < 0 then ByteArray.mk #[63] else if s.f0 = true then (if s.f1 < (g.f1.length : Int) then lget g.f1 s.f1 else ByteArray.mk #[63]) else (if s.f1 < (g.f0.length : Int) then (lget g.f0 s.f1).f0 else ByteArray.mk #[63])
theorem encl_eq (p : S37) : ∃ b, F22 5000 p = some b ∧ F23 5000 p = some b := by
  unfold F22 F23
  by_cases c : (p.f2.length : Int) = 3
  · have g0 : (0 : Int) ≤ 0 ∧ (0 : Int) < (p.f2.length : Int) := ⟨by omega, by omega⟩
    have g1 : (0 : Int) ≤ 1 ∧ (1 : Int) < (p.f2.length : Int) := ⟨by omega, by omega⟩
    have g2 : (0 : Int) ≤ 2 ∧ (2 : Int) < (p.f2.length : Int) := ⟨by omega, by omega⟩
    rw [if_pos c, if_pos c, if_pos g0, if_pos g0]
    by_cases d : (!(lget p.f2 (0 : Int)).f0) = true
    · rw [if_pos d, if_pos d, if_pos g1, if_pos g1, if_pos g1, if_pos g2]
      have e : lget p.f2 (1 : Int) = S41.mk true p.f0 ↔ (lget p.f2 (1 : Int)).f0 = true ∧ (lget p.f2 (1 : Int)).f1 = p.f0 := by
        generalize lget p.f2 (1 : Int) = x
        cases x; simp
      by_cases u : (lget p.f2 (1 : Int)).f0 = true
      · rw [if_pos u]
        by_cases v : (lget p.f2 (1 : Int)).f1 = p.f0
        · rw [if_pos v, if_pos (e.2 ⟨u, v⟩)]; exact ⟨_, rfl, rfl⟩
        · rw [if_neg v, if_neg fun k => v (e.1 k).2]; exact ⟨_, rfl, rfl⟩
      · rw [if_neg u, if_neg fun k => u (e.1 k).1]; exact ⟨_, rfl, rfl⟩
    · rw [if_neg d, if_neg d]; exact ⟨_, rfl, rfl⟩
  · rw [if_neg c, if_neg c]; exact ⟨_, rfl, rfl⟩
/-! Productions of a sort. -/
def ofs (g : S27) (s : Int) (i : Nat) : List Int := (idx i).filter fun x => decide ((lget g.f2 x).f0 = s)
theorem ofs_succ (g : S27) (s : Int) (i : Nat) : ofs g s (i + 1) = if (lget g.f2 (i : Int)).f0 = s then ofs g s i ++ [(i : Int)] else ofs g s i := by
  unfold ofs
  rw [idx_succ, List.filter_append]
  by_cases c : (lget g.f2 (i : Int)).f0 = s
  · rw [if_pos c]; simp [c]
  · rw [if_neg c]; simp [c]
theorem ofs_len (g : S27) (s : Int) (i : Nat) : (ofs g s i).length ≤ i := by
  have := List.length_filter_le (fun x => decide ((lget g.f2 x).f0 = s)) (idx i)
  rw [idx_len] at this; exact this
theorem of_l (g : S27) (s : Int) (hz : g.f2.length ≤ 1000) : ∀ (m i fuel : Nat), i + m = g.f2.length → m < fuel → F20_l2 5000 g s fuel (ofs g s i) (i : Int) = some (ofs g s g.f2.length)
  | 0, i, fu + 1, hi, _ => by
    rw [F20_l2.eq_2, if_neg (by omega), show i = g.f2.length by omega]; rfl
  | m + 1, i, fu + 1, hi, hf => by
    have ih := of_l g s hz m (i + 1) fu (by omega) (by omega)
    have hl := ofs_len g s i
    rw [ofs_succ] at ih
    rw [F20_l2.eq_2, if_pos (by omega), if_pos ⟨by omega, by omega⟩]
    unfold F20_c1
    rw [w64n (by omega)]
    by_cases c : (lget g.f2 (i : Int)).f0 = s
    · rw [if_pos c] at ih ⊢
      rw [if_pos (by simp; omega)]; exact ih
    · rw [if_neg c] at ih ⊢; exact ih
theorem of_eq (g : S27) (s : Int) (hz : g.f2.length ≤ 1000) : F20 5000 g s = some (ofs g s g.f2.length) := of_l g s hz g.f2.length 0 5000 (by omega) (by omega)
end Go.Avl.T7
/- gram.Check: which grammars pass. -/
namespace Go.Avl.T7
open Go Go.RowKit Go.Proofs Go.Avl
set_option linter.all false
set_option maxRecDepth 10000

def nameB (s : ByteArray) : Bool := (F69 5000 s).getD false
theorem name_eq' (s : ByteArray) : F69 5000 s = some (nameB s) := by
  obtain ⟨b, hb⟩ := name_tot s
  unfold nameB
  rw [hb]; rfl
theorem contains_eq (l : List ByteArray) (s : ByteArray) (hz : l.length ≤ 1000) : F70 5000 l s = some (decide (0 ≤ sfd l s)) := by
  unfold F70
  rw [sfind_eq l s hz, Option.bind_some]
/-! Sorts. -/
def SO (g : S27) (q : Nat) : Prop := nameB (lget g.f1 (q : Int)) = true ∧ ¬ 0 ≤ sfd (lcut g.f1 0 (q : Int)) (lget g.f1 (q : Int)) ∧ ¬ 0 ≤ rfd g.f0 (lget g.f1 (q : Int))
theorem lcut_len {α : Type} (l : List α) (q : Nat) : (lcut l 0 (q : Int)).length ≤ l.length := by unfold lcut; simp; omega
theorem sorts_step {g : S27} (h1 : g.f0.length ≤ 1000) (h2 : g.f1.length ≤ 1000) {q : Nat} (hq : q < g.f1.length) (fu : Nat) : (SO g q → F43_l1 5000 g (fu + 1) (q : Int) = F43_l1 5000 g fu ((q + 1 : Nat) : Int)) ∧ (¬ SO g q → ∃ e : Int, e ≠ 0 ∧ (nameB (lget g.f1 (q : Int)) = true → e = 9) ∧ F43_l1 5000 g (fu + 1) (q : Int) = some (S32.mk e 2 (q : Int))) := by
  have hc := lcut_len g.f1 q
  rw [F43_l1.eq_2, if_pos (by omega), if_pos ⟨by omega, by omega⟩, name_eq', Option.bind_some, w64n (by omega)]
  unfold SO
  cases nb : nameB (lget g.f1 (q : Int)) with
  | false =>
    rw [if_pos (by decide)]
    exact ⟨fun h => Bool.noConfusion h.1, fun _ => ⟨8, by decide, fun h => Bool.noConfusion h, rfl⟩⟩
  | true =>
    rw [if_neg (by decide), if_pos ⟨by omega, by omega, by omega⟩, contains_eq _ _ (by omega), Option.bind_some]
    by_cases a : 0 ≤ sfd (lcut g.f1 0 (q : Int)) (lget g.f1 (q : Int))
    · rw [decide_eq_true a, if_pos rfl, Option.bind_some, if_pos rfl]
      exact ⟨fun h => absurd a h.2.1, fun _ => ⟨9, by decide, fun _ => rfl, rfl⟩⟩
    · rw [decide_eq_false a, if_neg (by decide), rfind_eq _ _ h1, Option.bind_some, Option.bind_some]
      by_cases b : 0 ≤ rfd g.f0 (lget g.f1 (q : Int))
      · rw [decide_eq_true b, if_pos rfl]
        exact ⟨fun h => absurd b h.2.2, fun _ => ⟨9, by decide, fun _ => rfl, rfl⟩⟩
      · rw [decide_eq_false b, if_neg (by decide)]
        exact ⟨fun _ => rfl, fun h => absurd ⟨rfl, a, b⟩ h⟩
theorem sorts_skip {g : S27} (h1 : g.f0.length ≤ 1000) (h2 : g.f1.length ≤ 1000) : ∀ (m i fu : Nat), i + m ≤ g.f1.length → (∀ q, i ≤ q → q < i + m → SO g q) → F43_l1 5000 g (m + fu) (i : Int) = F43_l1 5000 g fu ((i + m : Nat) : Int)
  | 0, i, fu, _, _ => by rw [Nat.zero_add, Nat.add_zero]
  | m + 1, i, fu, hi, hs => by
    have := (sorts_step h1 h2 (q := i) (by omega) (m + fu)).1 (hs i (Nat.le_refl _) (by omega))
    rw [show m + 1 + fu = m + fu + 1 by omega, this, sorts_skip h1 h2 m (i + 1) fu (by omega) (fun q q1 q2 => hs q (by omega) (by omega)), show i + 1 + m = i + (m + 1) by omega]
theorem sorts_all {g : S27} (h1 : g.f0.length ≤ 1000) (h2 : g.f1.length ≤ 300) (hs : ∀ q, q < g.f1.length → SO g q) : F43 5000 g = some (S32.mk 0 0 0) := by
  have := sorts_skip h1 (by omega) g.f1.length 0 (5000 - g.f1.length) (by omega) (fun q _ q2 => hs q (by omega))
  rw [show g.f1.length + (5000 - g.f1.length) = 5000 by omega, Nat.zero_add] at this
  have this : F43_l1 5000 g 5000 (0 : Int) = _ := this
  unfold F43
  rw [if_neg (by omega), this]
  obtain ⟨f, hf⟩ : ∃ f, 5000 - g.f1.length = f + 1 := ⟨4999 - g.f1.length, by omega⟩
  rw [hf, F43_l1.eq_2, if_neg (by omega)]; rfl
theorem sorts_inv {g : S27} (h1 : g.f0.length ≤ 1000) (h2 : g.f1.length ≤ 1000) : ∀ (m i fuel : Nat), i + m = g.f1.length → m < fuel → ∃ t, F43_l1 5000 g fuel (i : Int) = some t ∧ (t.f0 = 0 → ∀ q, i ≤ q → q < g.f1.length → SO g q)
  | 0, i, fu + 1, hi, _ => ⟨_, by rw [F43_l1.eq_2, if_neg (by omega)]; rfl, fun _ q q1 q2 => by omega⟩
  | m + 1, i, fu + 1, hi, hf => by
    obtain ⟨s1, s2⟩ := sorts_step h1 h2 (q := i) (by omega) fu
    by_cases c : SO g i
    · obtain ⟨t, t1, t2⟩ := sorts_inv h1 h2 m (i + 1) fu (by omega) (by omega)
      refine ⟨t, (s1 c).trans t1, fun h q q1 q2 => ?_⟩
      by_cases e : q = i
      · rw [e]; exact c
      · exact t2 h q (by omega) q2
    · obtain ⟨e, e1, _, e2⟩ := s2 c
      exact ⟨_, e2, fun h => absurd h e1⟩
/-! Productions. -/
def enclB (p : S37) : Bool := (F22 5000 p).getD false
theorem encl_eq' (p : S37) : F22 5000 p = some (enclB p) := by
  obtain ⟨b, hb, _⟩ := encl_eq p
  unfold enclB
  rw [hb]; rfl
/-- What is asked of a production by itself, ahead of its names. -/
structure PA (g : S27) (p : S37) : Prop where
  s : 0 ≤ p.f0 ∧ p.f0 < (g.f1.length : Int)
  n : nameB p.f1 = true
  b : p.f2.length ≤ 12
  h : (p.f5.length : Int) = max (w64 ((p.f2.length : Int) - 1)) 0
structure PB (g : S27) (p : S37) : Prop where
  y : ∀ q : Nat, 0 ≤ q → q < p.f2.length → hasS g (lget p.f2 (q : Int)) = true
  i : ∀ q : Nat, 0 ≤ q → q < p.f5.length → 0 ≤ lget p.f5 (q : Int) ∧ lget p.f5 (q : Int) ≤ 3
  c : p.f4 = -1 ∨ (0 ≤ p.f4 ∧ hasS g (S41.mk false p.f4) = true)
  e : p.f3 = true → enclB p = true
def PN (g : S27) (i : Nat) : Prop := ∀ q : Nat, 0 ≤ q → q < i → (lget g.f2 (q : Int)).f1 ≠ (lget g.f2 (i : Int)).f1
def PO (g : S27) (i : Nat) : Prop := PA g (lget g.f2 (i : Int)) ∧ PN g i ∧ PB g (lget g.f2 (i : Int))
/-- A loop that goes on as long as something holds, over any answers. -/
theorem loopAny {β : Type} {f : Nat → Int → Option β} {n : Nat} {P : Nat → Prop} {c d : Option β} (hs : ∀ j (i : Nat), i < n → (P i → f (j + 1) (i : Int) = f j ((i + 1 : Nat) : Int)) ∧ (¬ P i → f (j + 1) (i : Int) = d)) (he : ∀ j, f (j + 1) (n : Int) = c) :
    ∀ (m i fuel : Nat), i + m = n → m < fuel → ((∀ q, i ≤ q → q < n → P q) → f fuel (i : Int) = c) ∧ ((¬ ∀ q, i ≤ q → q < n → P q) → f fuel (i : Int) = d)
  | 0, i, fu + 1, hi, _ => by
    obtain rfl : i = n := by omega
    exact ⟨fun _ => he fu, fun h => absurd (fun q h1 h2 => by omega) h⟩
  | m + 1, i, fu + 1, hi, hf => by
    obtain ⟨ih1, ih2⟩ := loopAny hs he m (i + 1) fu (by omega) (by omega)
    obtain ⟨s1, s2⟩ := hs fu i (by omega)
    refine ⟨fun h => ?_, fun h => ?_⟩
    · rw [s1 (h i (Nat.le_refl _) (by omega))]
      exact ih1 fun q h1 h2 => h q (by omega) h2
    · by_cases p : P i
      · rw [s1 p]
        refine ih2 fun k => h fun q h1 h2 => ?_
        by_cases e : q = i
        · rw [e]; exact p
        · exact k q (by omega) h2
      · exact s2 p
theorem lcut_get {α : Type} [Inhabited α] (l : List α) {q i : Nat} (h : q < i) (hi : i ≤ l.length) : lget (lcut l 0 (i : Int)) (q : Int) = lget l (q : Int) := by
  have hl : q < (lcut l 0 (i : Int)).length := by unfold lcut; simp; omega
  rw [lget_lt _ q hl, lget_lt l q (by omega)]
  unfold lcut
  simp
theorem lcut_len' {α : Type} (l : List α) {i : Nat} (hi : i ≤ l.length) : (lcut l 0 (i : Int)).length = i := by unfold lcut; simp; omega
theorem prod_step {g : S27} {i : Nat} (hz : g.f2.length ≤ 1000) (hi : i < g.f2.length) (hb : (lget g.f2 (i : Int)).f2.length ≤ 1000) (hh : (lget g.f2 (i : Int)).f5.length ≤ 1000) :
    (PO g i → F44 5000 g (i : Int) = some 0) ∧ (PA g (lget g.f2 (i : Int)) → ¬ PN g i → F44 5000 g (i : Int) = some 9) ∧ (¬ PO g i → ∃ e, e ≠ 0 ∧ F44 5000 g (i : Int) = some e) := by
  generalize hp : lget g.f2 (i : Int) = p at *
  have g0 : 0 ≤ (i : Int) ∧ (i : Int) < (g.f2.length : Int) := ⟨by omega, by omega⟩
  -- the last part
  have c0 : (((p.f4 = -1 ∨ (0 ≤ p.f4 ∧ hasS g (S41.mk false p.f4) = true)) ∧ (p.f3 = true → enclB p = true)) → F44_c0 5000 g (i : Int) = some 0) ∧ (¬ ((p.f4 = -1 ∨ (0 ≤ p.f4 ∧ hasS g (S41.mk false p.f4) = true)) ∧ (p.f3 = true → enclB p = true)) → ∃ e, e ≠ 0 ∧ F44_c0 5000 g (i : Int) = some e) := by
    unfold F44_c0
    rw [hp]
    have tail : ((p.f3 = true → enclB p = true) → (Option.bind (α := Bool) (if p.f3 = true then (F22 5000 p).bind fun t23 => some (!t23) else some (false)) fun b20 => if b20 = true then some ((15 : Int)) else some ((0 : Int))) = some 0) ∧ (¬ (p.f3 = true → enclB p = true) → (Option.bind (α := Bool) (if p.f3 = true then (F22 5000 p).bind fun t23 => some (!t23) else some (false)) fun b20 => if b20 = true then some ((15 : Int)) else some ((0 : Int))) = some 15) := by
      rw [encl_eq', Option.bind_some]
      cases h3 : p.f3 with
      | false => exact ⟨fun _ => rfl, fun k => absurd (fun q => by cases q) k⟩
      | true =>
        cases he : enclB p with
        | true => exact ⟨fun _ => rfl, fun k => absurd (fun _ => rfl) k⟩
        | false => exact ⟨fun k => Bool.noConfusion (k rfl), fun _ => rfl⟩
    by_cases a : p.f4 = -1
    · rw [if_neg (by simp [a]), Option.bind_some, if_neg (by decide)]
      refine ⟨fun k => tail.1 k.2, fun k => ⟨15, by decide, tail.2 fun q => k ⟨.inl a, q⟩⟩⟩
    · rw [if_pos a]
      by_cases b : p.f4 < 0
      · rw [if_pos b, Option.bind_some, if_pos rfl]
        refine ⟨fun k => ?_, fun _ => ⟨11, by decide, rfl⟩⟩
        rcases k.1 with q | q
        · exact absurd q a
        · omega
      · rw [if_neg b, ghas_eq, Option.bind_some, Option.bind_some]
        cases hs : hasS g (S41.mk false p.f4) with
        | false =>
          rw [if_pos (by decide)]
          refine ⟨fun k => ?_, fun _ => ⟨11, by decide, rfl⟩⟩
          rcases k.1 with q | q
          · exact absurd q a
          · cases q.2
        | true =>
          rw [if_neg (by decide)]
          refine ⟨fun k => tail.1 k.2, fun k => ⟨15, by decide, tail.2 fun q => k ⟨.inr ⟨by omega, rfl⟩, q⟩⟩⟩
  -- hints
  obtain ⟨l1a, l1b⟩ := loopAny (f := F44_l1 5000 g (i : Int)) (n := p.f5.length) (P := fun q => 0 ≤ lget p.f5 (q : Int) ∧ lget p.f5 (q : Int) ≤ 3) (c := F44_c0 5000 g (i : Int)) (d := some 1)
    (fun j q hq => by
      rw [F44_l1.eq_2, hp, if_pos (by omega), if_pos ⟨by omega, by omega⟩, w64n (by omega)]
      by_cases a : lget p.f5 (q : Int) < 0
      · rw [if_pos a, Option.bind_some, if_pos rfl]
        exact ⟨fun k => by omega, fun _ => rfl⟩
      · rw [if_neg a, Option.bind_some]
        by_cases b : (3 : Int) < lget p.f5 (q : Int)
        · rw [decide_eq_true b, if_pos rfl]
          exact ⟨fun k => by omega, fun _ => rfl⟩
        · rw [decide_eq_false b, if_neg (by decide)]
          exact ⟨fun _ => rfl, fun k => absurd ⟨by omega, by omega⟩ k⟩)
    (fun j => by rw [F44_l1.eq_2, hp, if_neg (by omega)]) p.f5.length 0 5000 (by omega) (by omega)
  -- symbols
  obtain ⟨l3a, l3b⟩ := loopAny (f := F44_l3 5000 g (i : Int)) (n := p.f2.length) (P := fun q => hasS g (lget p.f2 (q : Int)) = true) (c := F44_c2 5000 g (i : Int)) (d := some 11)
    (fun j q hq => by
      rw [F44_l3.eq_2, hp, if_pos (by omega), if_pos ⟨by omega, by omega⟩, ghas_eq, Option.bind_some, w64n (by omega)]
      cases hasS g (lget p.f2 (q : Int)) with
      | true => exact ⟨fun _ => rfl, fun k => absurd rfl k⟩
      | false => exact ⟨fun k => Bool.noConfusion k, fun _ => rfl⟩)
    (fun j => by rw [F44_l3.eq_2, hp, if_neg (by omega)]) p.f2.length 0 5000 (by omega) (by omega)
  -- names
  have hcl := lcut_len' g.f2 (show i ≤ g.f2.length by omega)
  obtain ⟨l5a, l5b⟩ := loopAny (f := F44_l5 5000 g (i : Int)) (n := i) (P := fun q => (lget g.f2 (q : Int)).f1 ≠ p.f1) (c := F44_c4 5000 g (i : Int)) (d := some 9)
    (fun j q hq => by
      rw [F44_l5.eq_2, hp, hcl, if_pos (by omega), if_pos ⟨by omega, by omega⟩, lcut_get g.f2 hq (by omega), w64n (by omega)]
      by_cases a : (lget g.f2 (q : Int)).f1 = p.f1
      · rw [if_pos a]; exact ⟨fun k => absurd a k, fun _ => rfl⟩
      · rw [if_neg a]; exact ⟨fun _ => rfl, fun k => absurd a k⟩)
    (fun j => by rw [F44_l5.eq_2, hcl, if_neg (by omega)]) i 0 5000 (by omega) (by omega)
  have l5a : _ → F44_l5 5000 g (i : Int) 5000 (0 : Int) = F44_c4 5000 g (i : Int) := l5a
  have l5b : _ → F44_l5 5000 g (i : Int) 5000 (0 : Int) = some 9 := l5b
  have l3a : _ → F44_c4 5000 g (i : Int) = F44_c2 5000 g (i : Int) := l3a
  have l3b : _ → F44_c4 5000 g (i : Int) = some 11 := l3b
  have l1a : _ → F44_c2 5000 g (i : Int) = F44_c0 5000 g (i : Int) := l1a
  have l1b : _ → F44_c2 5000 g (i : Int) = some 1 := l1b
  have hPN : PN g i ↔ ∀ q : Nat, 0 ≤ q → q < i → (lget g.f2 (q : Int)).f1 ≠ p.f1 := by unfold PN; rw [hp]
  unfold PO
  rw [hp]
  have hA : PA g p → F44 5000 g (i : Int) = F44_l5 5000 g (i : Int) 5000 (0 : Int) := by
    intro ha
    have := ha.s
    have := ha.b
    have := ha.h
    unfold F44
    rw [if_pos g0, hp, if_neg (by omega), Option.bind_some, decide_eq_false (by omega), if_neg (by decide), name_eq', ha.n, Option.bind_some, if_neg (by decide), if_neg (by omega), if_neg (by simpa using ha.h), if_pos ⟨by omega, by omega, by omega⟩]
  have hNA : ¬ PA g p → ∃ e, e ≠ 0 ∧ F44 5000 g (i : Int) = some e := by
    intro ha
    unfold F44
    rw [if_pos g0, hp]
    by_cases a : p.f0 < 0
    · rw [if_pos a, Option.bind_some, if_pos rfl]; exact ⟨11, by decide, rfl⟩
    · rw [if_neg a, Option.bind_some]
      by_cases b : (g.f1.length : Int) ≤ p.f0
      · rw [decide_eq_true b, if_pos rfl]; exact ⟨11, by decide, rfl⟩
      · rw [decide_eq_false b, if_neg (by decide), name_eq', Option.bind_some]
        cases nb : nameB p.f1 with
        | false => rw [if_pos (by decide)]; exact ⟨8, by decide, rfl⟩
        | true =>
          rw [if_neg (by decide)]
          by_cases c : (12 : Int) < (p.f2.length : Int)
          · rw [if_pos c]; exact ⟨6, by decide, rfl⟩
          · rw [if_neg c]
            by_cases d : (p.f5.length : Int) ≠ max (w64 ((p.f2.length : Int) - 1)) 0
            · rw [if_pos d]; exact ⟨1, by decide, rfl⟩
            · exact absurd ⟨⟨by omega, by omega⟩, nb, by omega, by simpa using d⟩ ha
  refine ⟨fun ⟨ha, hn, hb⟩ => ?_, fun ha hn => ?_, fun hno => ?_⟩
  · rw [hA ha, l5a (hPN.1 hn), l3a hb.y, l1a hb.i]
    exact c0.1 ⟨hb.c, hb.e⟩
  · rw [hA ha]
    exact l5b fun k => hn (hPN.2 k)
  · by_cases ha : PA g p
    · rw [hA ha]
      by_cases hn : ∀ q : Nat, 0 ≤ q → q < i → (lget g.f2 (q : Int)).f1 ≠ p.f1
      · rw [l5a hn]
        by_cases hy : ∀ q : Nat, 0 ≤ q → q < p.f2.length → hasS g (lget p.f2 (q : Int)) = true
        · rw [l3a hy]
          by_cases hi2 : ∀ q : Nat, 0 ≤ q → q < p.f5.length → 0 ≤ lget p.f5 (q : Int) ∧ lget p.f5 (q : Int) ≤ 3
          · rw [l1a hi2]
            exact c0.2 fun k => hno ⟨ha, hPN.2 hn, ⟨hy, hi2, k.1, k.2⟩⟩
          · exact ⟨1, by decide, l1b hi2⟩
        · exact ⟨11, by decide, l3b hy⟩
      · exact ⟨9, by decide, l5b hn⟩
    · exact hNA ha
/-! Levels: they hang on the rules and the levels alone. -/
theorem hasR {g g' : S27} (h : g.f0 = g'.f0) (n : Int) : hasS g (S41.mk false n) = hasS g' (S41.mk false n) := by
  unfold hasS
  simp only [h]
  rw [if_neg (by decide), if_neg (by decide)]
theorem lev_l2 {g g' : S27} (h : g.f0 = g'.f0) (h3 : g.f3 = g'.f3) (rec7 : List (Int × Int) → Int → Option S32) (x6 : Int) : ∀ (f : Nat) (m : List (Int × Int)) (x : Int), F45_l2 5000 rec7 g x6 f m x = F45_l2 5000 rec7 g' x6 f m x
  | 0, m, x => by rw [F45_l2.eq_1, F45_l2.eq_1]
  | f + 1, m, x => by
    rw [F45_l2.eq_2, F45_l2.eq_2, ghas_eq, ghas_eq, hasR h, h3, lev_l2 h h3 rec7 x6 f]
theorem lev_l3 {g g' : S27} (h : g.f0 = g'.f0) (h3 : g.f3 = g'.f3) : ∀ (f : Nat) (m : List (Int × Int)) (x : Int), F45_l3 5000 g f m x = F45_l3 5000 g' f m x
  | 0, m, x => by rw [F45_l3.eq_1, F45_l3.eq_1]
  | f + 1, m, x => by
    have e : F45_l3 5000 g f = F45_l3 5000 g' f := funext fun m => funext fun x => lev_l3 h h3 f m x
    rw [F45_l3.eq_2, F45_l3.eq_2, h3, e, lev_l2 h h3]
theorem lev_congr {g g' : S27} (h : g.f0 = g'.f0) (h3 : g.f3 = g'.f3) : F45 5000 g = F45 5000 g' := lev_l3 h h3 5000 [] 0
theorem lev_t2 {g : S27} (rec7 : List (Int × Int) → Int → Option S32) (i : Nat) (hi : i ≤ 1000) (hl : (lget g.f3 (i : Int)).f1.length ≤ 1000) (hr : ∀ m, ∃ t, rec7 m ((i + 1 : Nat) : Int) = some t) : ∀ (n q fuel : Nat) (m : List (Int × Int)), q + n = (lget g.f3 (i : Int)).f1.length → n < fuel → ∃ t, F45_l2 5000 rec7 g (i : Int) fuel m (q : Int) = some t
  | 0, q, fu + 1, m, hq, _ => by
    rw [F45_l2.eq_2, if_neg (by omega)]
    unfold F45_c1
    rw [w64n (by omega)]
    exact hr m
  | n + 1, q, fu + 1, m, hq, hf => by
    rw [F45_l2.eq_2, if_pos (by omega), if_pos ⟨by omega, by omega⟩, ghas_eq, Option.bind_some, w64n (n := q) (by omega)]
    split
    · exact ⟨_, rfl⟩
    · split
      · exact ⟨_, rfl⟩
      · exact lev_t2 rec7 i hi hl hr n (q + 1) fu _ (by omega) (by omega)
theorem lev_t3 {g : S27} (h3 : g.f3.length ≤ 1000) (hl : ∀ x ∈ g.f3, x.f1.length ≤ 1000) : ∀ (n i fuel : Nat) (m : List (Int × Int)), i + n = g.f3.length → n < fuel → ∃ t, F45_l3 5000 g fuel m (i : Int) = some t
  | 0, i, fu + 1, m, hi, _ => ⟨_, by rw [F45_l3.eq_2, if_neg (by omega)]; rfl⟩
  | n + 1, i, fu + 1, m, hi, hf => by
    have hm := hl _ (mem_get g.f3 (show i < g.f3.length by omega))
    rw [F45_l3.eq_2, if_pos (by omega), if_pos ⟨by omega, by omega⟩]
    have key : ∀ b : Bool, ∃ t, (if b = true then some ((S32.mk (1 : Int) (4 : Int) (i : Int))) else F45_l2 5000 (F45_l3 5000 g fu) g (i : Int) 5000 m (0 : Int)) = some t := by
      intro b
      cases b with
      | true => exact ⟨_, rfl⟩
      | false => exact lev_t2 _ i (by omega) hm (fun m => lev_t3 h3 hl n (i + 1) fu m (by omega) (by omega)) _ 0 5000 m (Nat.zero_add _) (by omega)
    exact tb1 (it ⟨_, rfl⟩ (it ⟨_, rfl⟩ (it ⟨_, rfl⟩ ⟨_, rfl⟩))) key
theorem lev_tot {g : S27} (h3 : g.f3.length ≤ 1000) (hl : ∀ x ∈ g.f3, x.f1.length ≤ 1000) : ∃ t, F45 5000 g = some t := lev_t3 h3 hl g.f3.length 0 5000 [] (by omega) (by omega)
/-! The whole. -/
theorem prods_skip {g : S27} (hz : g.f2.length ≤ 1000) (hp : ∀ x ∈ g.f2, x.f2.length ≤ 1000 ∧ x.f5.length ≤ 1000) : ∀ (m i fu : Nat), i + m ≤ g.f2.length → (∀ q, i ≤ q → q < i + m → PO g q) → F11_l1 5000 g (m + fu) (i : Int) = F11_l1 5000 g fu ((i + m : Nat) : Int)
  | 0, i, fu, _, _ => by rw [Nat.zero_add, Nat.add_zero]
  | m + 1, i, fu, hi, hs => by
    have hx := hp _ (mem_get g.f2 (show i < g.f2.length by omega))
    have := (prod_step hz (i := i) (by omega) hx.1 hx.2).1 (hs i (Nat.le_refl _) (by omega))
    rw [show m + 1 + fu = (m + fu) + 1 by omega, F11_l1.eq_2, if_pos (by omega), this, Option.bind_some, if_neg (by simp), w64n (by omega), prods_skip hz hp m (i + 1) fu (by omega) (fun q q1 q2 => hs q (by omega) (by omega)), show i + 1 + m = i + (m + 1) by omega]
theorem prods_inv {g : S27} (hz : g.f2.length ≤ 1000) (hp : ∀ x ∈ g.f2, x.f2.length ≤ 1000 ∧ x.f5.length ≤ 1000) (hc : ∃ t, F11_c0 5000 g = some t) : ∀ (m i fuel : Nat), i + m = g.f2.length → m < fuel → ∃ t, F11_l1 5000 g fuel (i : Int) = some t ∧ (t.f0 = 0 → (∀ q, i ≤ q → q < g.f2.length → PO g q) ∧ F11_c0 5000 g = some t)
  | 0, i, fu + 1, hi, _ => by
    obtain ⟨t, ht⟩ := hc
    exact ⟨t, by rw [F11_l1.eq_2, if_neg (by omega)]; exact ht, fun _ => ⟨fun q q1 q2 => by omega, ht⟩⟩
  | m + 1, i, fu + 1, hi, hf => by
    have hx := hp _ (mem_get g.f2 (show i < g.f2.length by omega))
    obtain ⟨s1, _, s2⟩ := prod_step hz (i := i) (by omega) hx.1 hx.2
    rw [F11_l1.eq_2, if_pos (by omega), w64n (by omega)]
    by_cases c : PO g i
    · obtain ⟨t, t1, t2⟩ := prods_inv hz hp hc m (i + 1) fu (by omega) (by omega)
      rw [s1 c, Option.bind_some, if_neg (by simp)]
      refine ⟨t, t1, fun h => ⟨fun q q1 q2 => ?_, (t2 h).2⟩⟩
      by_cases e : q = i
      · rw [e]; exact c
      · exact (t2 h).1 q (by omega) q2
    · obtain ⟨e, e1, e2⟩ := s2 c
      rw [e2, Option.bind_some, if_pos e1]
      exact ⟨_, rfl, fun h => absurd h e1⟩
/-- What passes. -/
structure CO (g : S27) : Prop where
  r : ∃ a, F39 5000 g.f0 = some (a, 0)
  s : ∀ q, q < g.f1.length → SO g q
  p : ∀ q, q < g.f2.length → PO g q
  l : ∃ t, F45 5000 g = some t ∧ t.f0 = 0
  t : 0 ≤ g.f4 ∧ g.f4 < (g.f1.length : Int)
theorem check_inv {g : S27} (h : Fw g) : ∃ t, F11 5000 g = some t ∧ (t.f0 = 0 → CO g) := by
  obtain ⟨a, e, hr⟩ := rcheck_tot g.f0 h.r h.rs
  have z1 := h.r
  have z2 := h.s
  have z3 := h.p
  have z4 := h.l
  obtain ⟨tl, hl⟩ := lev_tot (g := g) (by omega) (fun x hx => by have := h.ls x hx; omega)
  have hc0 : ∃ t, F11_c0 5000 g = some t := by
    unfold F11_c0
    rw [hl, Option.bind_some]
    refine it ⟨_, rfl⟩ (tb1 (it ⟨_, rfl⟩ ⟨_, rfl⟩) fun b => it ⟨_, rfl⟩ ⟨_, rfl⟩)
  obtain ⟨ts, s1, s2⟩ := sorts_inv (g := g) (by omega) (by omega) g.f1.length 0 5000 (by omega) (by omega)
  have s1 : F43_l1 5000 g 5000 (0 : Int) = some ts := s1
  obtain ⟨tp, p1, p2⟩ := prods_inv (g := g) (by omega) (fun x hx => by have := h.ps x hx; omega) hc0 g.f2.length 0 5000 (by omega) (by omega)
  have p1 : F11_l1 5000 g 5000 (0 : Int) = some tp := p1
  unfold F11
  rw [hr, Option.bind_some]
  by_cases c1 : e ≠ 0
  · exact ⟨_, if_pos c1, fun q => absurd q c1⟩
  · show ∃ t, (if e ≠ 0 then _ else (F43 5000 g).bind _) = some t ∧ _
    have es : F43 5000 g = some ts := by unfold F43; rw [if_neg (by omega)]; exact s1
    rw [if_neg c1, es, Option.bind_some]
    by_cases c2 : ts.f0 ≠ 0
    · exact ⟨ts, if_pos c2, fun q => absurd q c2⟩
    · rw [if_neg c2, if_neg (by omega), p1]
      refine ⟨tp, rfl, fun q => ?_⟩
      obtain ⟨q1, q2⟩ := p2 q
      unfold F11_c0 at q2
      rw [hl, Option.bind_some] at q2
      have e0 : e = 0 := by omega
      by_cases c3 : tl.f0 ≠ 0
      · rw [if_pos c3] at q2
        cases q2
        exact absurd q c3
      · rw [if_neg c3] at q2
        refine ⟨⟨a, by rw [hr, e0]⟩, fun i hi => s2 (by omega) i (by omega) hi, fun i hi => q1 i (by omega) hi, ⟨tl, hl, by omega⟩, ?_⟩
        by_cases c4 : g.f4 < 0
        · rw [if_pos c4, Option.bind_some, if_pos rfl] at q2
          cases q2
          cases q
        · rw [if_neg c4, Option.bind_some] at q2
          by_cases c5 : (g.f1.length : Int) ≤ g.f4
          · rw [decide_eq_true c5, if_pos rfl] at q2
            cases q2
            cases q
          · exact ⟨by omega, by omega⟩
theorem c0_ok {g : S27} (hl : ∃ t, F45 5000 g = some t ∧ t.f0 = 0) (ht : 0 ≤ g.f4 ∧ g.f4 < (g.f1.length : Int)) : F11_c0 5000 g = some (S32.mk 0 0 0) := by
  obtain ⟨t, t1, t2⟩ := hl
  unfold F11_c0
  rw [t1, Option.bind_some, if_neg (by simp [t2]), if_neg (by omega), Option.bind_some, decide_eq_false (by omega), if_neg (by decide)]
theorem check_ok {g : S27} (z1 : g.f0.length ≤ 1000) (z2 : g.f1.length ≤ 300) (z3 : g.f2.length ≤ 200) (hp : ∀ x ∈ g.f2, x.f2.length ≤ 1000 ∧ x.f5.length ≤ 1000) (h : CO g) : F11 5000 g = some (S32.mk 0 0 0) := by
  obtain ⟨a, hr⟩ := h.r
  unfold F11
  rw [hr, Option.bind_some, if_neg (by simp), sorts_all z1 z2 h.s, Option.bind_some, if_neg (by simp), if_neg (by omega)]
  have := prods_skip (g := g) (by omega) hp g.f2.length 0 (5000 - g.f2.length) (by omega) (fun q _ q2 => h.p q (by omega))
  rw [show g.f2.length + (5000 - g.f2.length) = 5000 by omega, Nat.zero_add] at this
  have this : F11_l1 5000 g 5000 (0 : Int) = _ := this
  rw [this]
  obtain ⟨f, hf⟩ : ∃ f, 5000 - g.f2.length = f + 1 := ⟨4999 - g.f2.length, by omega⟩
  rw [hf, F11_l1.eq_2, if_neg (by omega)]
  exact c0_ok h.l h.t
end Go.Avl.T7
/- GramLess: the plain law. -/
namespace Go.Avl.T7
open Go Go.RowKit Go.Proofs Go.Avl
set_option linter.all false
set_option maxRecDepth 10000

def moreS : ByteArray := ByteArray.mk #[115, 111, 114, 116, 95, 109, 111, 114, 101]
theorem more_name : nameB moreS = true := by decide +kernel
def GX (g : S27) : S27 := S27.mk g.f0 g.f1 g.f2 [] g.f4
def GY (g : S27) : S27 := S27.mk g.f0 (g.f1 ++ [moreS]) g.f2 g.f3 g.f4
def GZ (g : S27) (p : S37) : S27 := S27.mk g.f0 g.f1 (g.f2 ++ [p]) g.f3 g.f4
theorem lg_app {α : Type} [Inhabited α] {l : List α} {x : α} {q : Nat} (h : q < l.length) : lget (l ++ [x]) (q : Int) = lget l (q : Int) := by
  rw [lget_lt _ q (by simp; omega), lget_lt _ q h, List.getElem_append_left]
theorem lg_last {α : Type} [Inhabited α] {l : List α} {x : α} : lget (l ++ [x]) (l.length : Int) = x := by
  rw [lget_lt _ l.length (by simp)]; simp
theorem x_ok {g : S27} (h : Fw g) (c : CO g) : F11 5000 (GX g) = some (S32.mk 0 0 0) := by
  have z1 := h.r
  have z2 := h.s
  have z3 := h.p
  exact check_ok (g := GX g) (by show g.f0.length ≤ _; omega) (by show g.f1.length ≤ _; omega) (by show g.f2.length ≤ _; omega) (fun x hx => by have := h.ps x hx; omega) ⟨c.r, c.s, fun q hq => by
    obtain ⟨a, n, b⟩ := c.p q hq
    exact ⟨⟨a.s, a.n, a.b, a.h⟩, n, ⟨b.y, b.i, b.c, b.e⟩⟩, ⟨S32.mk 0 0 0, rfl, rfl⟩, c.t⟩
theorem has_more {g : S27} {s : S41} (h : hasS g s = true) : hasS (GY g) s = true := by
  unfold hasS at h ⊢
  by_cases c : s.f0 = true
  · rw [if_pos c] at h ⊢
    rw [decide_eq_true_eq] at h ⊢
    have : (GY g).f1.length = g.f1.length + 1 := by show (g.f1 ++ [moreS]).length = _; simp
    omega
  · rw [if_neg c] at h ⊢
    exact h
theorem y_prod {g : S27} {q : Nat} (h : PO g q) : PO (GY g) q := by
  obtain ⟨a, n, b⟩ := h
  have hl : (GY g).f1.length = g.f1.length + 1 := by show (g.f1 ++ [moreS]).length = _; simp
  have a5 := a.s
  refine ⟨⟨⟨a5.1, ?_⟩, a.n, a.b, a.h⟩, n, ⟨fun q h0 h1 => has_more (b.y q h0 h1), b.i, b.c.imp id fun k => ⟨k.1, has_more k.2⟩, b.e⟩⟩
  show (lget g.f2 (q : Int)).f0 < _
  omega
theorem y_sort {g : S27} {q : Nat} (hq : q < g.f1.length) (h : SO g q) : SO (GY g) q := by
  have e1 : lget (GY g).f1 (q : Int) = lget g.f1 (q : Int) := lg_app hq
  have e2 : lcut (GY g).f1 0 (q : Int) = lcut g.f1 0 (q : Int) := by
    show lcut (g.f1 ++ [moreS]) 0 (q : Int) = _
    unfold lcut
    rw [Int.toNat_natCast, List.take_append_of_le_length (by omega)]
  unfold SO
  rw [e1, e2]
  exact h
theorem y_ok {g : S27} (h : Fw g) (c : CO g) : F11 5000 (GY g) = some (S32.mk 0 0 0) ∨ F11 5000 (GY g) = some (S32.mk 9 2 (g.f1.length : Int)) := by
  have z1 := h.r
  have z2 := h.s
  have z3 := h.p
  have hl : (GY g).f1.length = g.f1.length + 1 := by show (g.f1 ++ [moreS]).length = _; simp
  have hp : ∀ x ∈ (GY g).f2, x.f2.length ≤ 1000 ∧ x.f5.length ≤ 1000 := fun x hx => by have := h.ps x hx; omega
  have z1' : (GY g).f0.length ≤ 1000 := by show g.f0.length ≤ _; omega
  have z3' : (GY g).f2.length ≤ 200 := by show g.f2.length ≤ _; omega
  have hs : ∀ q, q < g.f1.length → SO (GY g) q := fun q hq => y_sort hq (c.s q hq)
  by_cases last : SO (GY g) g.f1.length
  · left
    have ct := c.t
    refine check_ok z1' (by omega) z3' hp ⟨c.r, fun q hq => ?_, fun q hq => y_prod (c.p q hq), ?_, ?_⟩
    · by_cases e : q = g.f1.length
      · rw [e]; exact last
      · exact hs q (by omega)
    · obtain ⟨t, t1, t2⟩ := c.l
      exact ⟨t, by rw [lev_congr (g := GY g) (g' := g) rfl rfl]; exact t1, t2⟩
    · show 0 ≤ g.f4 ∧ g.f4 < _
      omega
  · right
    obtain ⟨a, hr⟩ := c.r
    have hr : F39 5000 (GY g).f0 = some (a, 0) := hr
    obtain ⟨e, e1, e2, e3⟩ := (sorts_step (g := GY g) z1' (by omega) (q := g.f1.length) (by omega) (4999 - g.f1.length)).2 last
    have e9 : e = 9 := e2 (by
      have : lget (GY g).f1 (g.f1.length : Int) = moreS := lg_last
      rw [this]; exact more_name)
    have sk := sorts_skip (g := GY g) z1' (by omega) g.f1.length 0 (5000 - g.f1.length) (by omega) (fun q _ q2 => hs q (by omega))
    rw [show g.f1.length + (5000 - g.f1.length) = 5000 by omega, Nat.zero_add, show 5000 - g.f1.length = 4999 - g.f1.length + 1 by omega, e3, e9] at sk
    have sk : F43_l1 5000 (GY g) 5000 (0 : Int) = some (S32.mk 9 2 (g.f1.length : Int)) := sk
    unfold F11
    rw [hr, Option.bind_some, if_neg (by simp)]
    unfold F43
    rw [if_neg (by omega), sk, Option.bind_some, if_pos (by simp)]
theorem z_get {g : S27} {p : S37} {q : Nat} (h : q < g.f2.length) : lget (GZ g p).f2 (q : Int) = lget g.f2 (q : Int) := lg_app h
theorem z_prod {g : S27} {p : S37} {q : Nat} (hq : q < g.f2.length) (h : PO g q) : PO (GZ g p) q := by
  obtain ⟨a, n, b⟩ := h
  unfold PO
  rw [z_get hq]
  refine ⟨⟨a.s, a.n, a.b, a.h⟩, fun i h0 h1 => ?_, ⟨b.y, b.i, b.c, b.e⟩⟩
  rw [z_get hq, z_get (show i < g.f2.length by omega)]
  exact n i h0 h1
theorem z_ok {g : S27} (h : Fw g) (c : CO g) {k : Nat} (hk : k < g.f2.length) : F11 5000 (GZ g (lget g.f2 (k : Int))) = some (S32.mk 9 3 (g.f2.length : Int)) := by
  have z1 := h.r
  have z2 := h.s
  have z3 := h.p
  generalize hp0 : lget g.f2 (k : Int) = p
  have hmem : p ∈ g.f2 := by rw [← hp0]; exact mem_get g.f2 hk
  have hpp := h.ps p hmem
  have hl : (GZ g p).f2.length = g.f2.length + 1 := by show (g.f2 ++ [p]).length = _; simp
  have hp : ∀ x ∈ (GZ g p).f2, x.f2.length ≤ 1000 ∧ x.f5.length ≤ 1000 := fun x hx => by
    rcases List.mem_append.1 (show x ∈ g.f2 ++ [p] from hx) with e | e
    · have := h.ps x e; omega
    · rw [List.mem_singleton.1 e]; omega
  obtain ⟨a, hr⟩ := c.r
  have hr : F39 5000 (GZ g p).f0 = some (a, 0) := hr
  have es : F43 5000 (GZ g p) = some (S32.mk 0 0 0) := sorts_all (g := GZ g p) (by show g.f0.length ≤ _; omega) (by show g.f1.length ≤ _; omega) c.s
  have sk := prods_skip (g := GZ g p) (by omega) hp g.f2.length 0 (5000 - g.f2.length) (by omega) (fun q _ q2 => z_prod (by omega) (c.p q (by omega)))
  rw [show g.f2.length + (5000 - g.f2.length) = 5000 by omega, Nat.zero_add, show 5000 - g.f2.length = 4999 - g.f2.length + 1 by omega] at sk
  have sk : F11_l1 5000 (GZ g p) 5000 (0 : Int) = _ := sk
  have eg : lget (GZ g p).f2 (g.f2.length : Int) = p := lg_last
  have nine : F44 5000 (GZ g p) (g.f2.length : Int) = some 9 := by
    obtain ⟨_, s2, _⟩ := prod_step (g := GZ g p) (i := g.f2.length) (by omega) (by omega) (by rw [eg]; omega) (by rw [eg]; omega)
    have pa := (c.p k hk).1
    rw [hp0] at pa
    refine s2 (by rw [eg]; exact ⟨pa.s, pa.n, pa.b, pa.h⟩) fun q => ?_
    have := q k (Nat.zero_le _) hk
    rw [z_get hk, eg, hp0] at this
    exact this rfl
  unfold F11
  rw [hr, Option.bind_some, if_neg (by simp), es, Option.bind_some, if_neg (by simp), if_neg (by omega), sk, F11_l1.eq_2, if_pos (by omega), nine, Option.bind_some, if_pos (by decide)]
theorem bosketlaw17_GramLess_true (a0 : S27) (a1 : Int) (h0 : wf27 a0) (h1 : wf5 a1) : ∃ k, F3 k a0 a1 = some true := by
  refine ⟨5000, ?_⟩
  obtain ⟨b, b1, b2⟩ := few_is a0
  unfold F3
  rw [awake17, Option.bind_some, if_neg (by decide), b1, Option.bind_some]
  cases b with
  | false => rfl
  | true =>
    have h := b2 rfl
    have z2 := h.s
    have z3 := h.p
    obtain ⟨t, t1, t2⟩ := check_inv h
    rw [if_neg (by decide), t1, Option.bind_some, Option.bind_some]
    by_cases c : t.f0 ≠ 0
    · rw [decide_eq_true c]; rfl
    · have co := t2 (by omega)
      rw [decide_eq_false c, if_neg (by decide), if_pos (by simp; omega), if_pos (by simp; omega)]
      have ey : S27.mk a0.f0 ((([] : List ByteArray) ++ a0.f1) ++ [ByteArray.mk #[115, 111, 114, 116, 95, 109, 111, 114, 101]]) a0.f2 a0.f3 a0.f4 = GY a0 := rfl
      have ex : S27.mk a0.f0 a0.f1 a0.f2 [] a0.f4 = GX a0 := rfl
      have fin : (if (a0.f2.length : Int) = (0 : Int) then some (true)
  else if (([] : List S37) ++ a0.f2).length * 88 ≤ 140737488355328 then if (a0.f2.length : Int) ≠ 0 then if 0 ≤ ((w64 a1).tmod (a0.f2.length : Int)) ∧ ((w64 a1).tmod (a0.f2.length : Int)) < (a0.f2.length : Int) then if ((([] : List S37) ++ a0.f2) ++ ([(lget a0.f2 ((w64 a1).tmod (a0.f2.length : Int)))] : List S37)).length * 88 ≤ 140737488355328 then (F11 5000 (S27.mk a0.f0 a0.f1 ((([] : List S37) ++ a0.f2) ++ ([(lget a0.f2 ((w64 a1).tmod (a0.f2.length : Int)))] : List S37)) a0.f3 a0.f4)).bind fun t40 =>
  some (decide (t40 = (S32.mk (9 : Int) (3 : Int) (a0.f2.length : Int))))
  else none
  else none
  else none
  else none) = some true := by
        by_cases e : (a0.f2.length : Int) = 0
        · rw [if_pos e]
        · have hu : 0 ≤ a1 ∧ a1 ≤ 255 := u8_of h1
          obtain ⟨q, rfl⟩ := Int.eq_ofNat_of_zero_le hu.1
          have hm : q % a0.f2.length < a0.f2.length := Nat.mod_lt _ (by omega)
          have em : (w64 (q : Int)).tmod (a0.f2.length : Int) = ((q % a0.f2.length : Nat) : Int) := by rw [w6t (by omega) (by omega)]; rfl
          rw [if_neg e, if_pos (by simp; omega), if_pos e, em, if_pos ⟨by omega, by omega⟩, if_pos (by simp; omega)]
          have ez : S27.mk a0.f0 a0.f1 ((([] : List S37) ++ a0.f2) ++ [lget a0.f2 ((q % a0.f2.length : Nat) : Int)]) a0.f3 a0.f4 = GZ a0 (lget a0.f2 ((q % a0.f2.length : Nat) : Int)) := rfl
          rw [ez, z_ok h co hm, Option.bind_some, decide_eq_true rfl]
      rw [ey, ex, x_ok h co]
      rcases y_ok h co with e | e
      · rw [e, Option.bind_some, Option.bind_some, if_neg (by simp), if_neg (by simp), Option.bind_some, if_neg (by decide)]
        exact fin
      · rw [e, Option.bind_some, Option.bind_some, if_neg (by simp), if_pos (by simp), if_neg (by simp), if_neg (by simp), decide_eq_false (by simp), Option.bind_some, if_neg (by decide)]
        exact fin
end Go.Avl.T7
