/- Parts: T7E5, T7E6, T7D0, T7EB, T7EK, T7G1, T7G2, T7P5, T7EC, T7G0, T7PureRulesCheck. -/
import Derived.Test.YtpkgpmmcbpfenaaAM2
import Derived.Test.YtpkgpmmcbpfenaaAF7
import Derived.Test.YtpkgpmmcbpfenaaAF1
import Derived.Test.YtpkgpmmcbpfenaaAF2
import Derived.Test.YtpkgpmmcbpfenaaAM1
import Derived.Test.YtpkgpmmcbpfenaaAF8
import Derived.Test.YtpkgpmmcbpfenaaAF4
import Derived.Test.YtpkgpmmcbpfenaaAF6
namespace Go.Avl.T7
open Go Go.RowKit Go.Proofs Go.Avl
set_option linter.all false
set_option maxRecDepth 10000
/-- What both answer: the same pieces, those of a tree, at the same place; or that there are none. -/
def RE (s : ByteArray) (a d : Nat) (o : Option (List S131 × Bool × S140)) (w : Option (List S131 × Int)) : Prop :=
  ∃ (l : List S131) (ok : Bool) (a' : Nat), o = some (l, ok, S140.mk s (a' : Int) (d : Int)) ∧ a ≤ a' ∧ a' ≤ s.size ∧ l.length ≤ 2 * (a' - a) + 1 ∧
    (ok = true → a < a' ∧ l.length + 1 ≤ 2 * (a' - a) ∧ w = some (l, (a' : Int)) ∧ ∃ t, ROK t ∧ l = ser t) ∧ (ok = false → ∃ z, w = some ([], z))
theorem RE.no {s : ByteArray} {a a' d : Nat} {z : Int} {l : List S131} (h : a ≤ a') (h2 : a' ≤ s.size) (hl : l.length ≤ 2 * (a' - a) + 1) : RE s a d (some (l, false, S140.mk s (a' : Int) (d : Int))) (some ([], z)) :=
  ⟨l, false, a', rfl, h, h2, hl, (fun q => by cases q), fun _ => ⟨z, rfl⟩⟩
theorem ser_ne {t : Rx} : ser t ≠ [] := fun e => by have := ser_pos t; rw [e] at this; simp at this
theorem cat_e {s : ByteArray} (hz : s.size ≤ 90) {self : S140 → Option (List S131 × Bool × S140)} {self' : ByteArray → Int → Int → Option (List S131 × Int)} {a0 d : Nat} (hs : ∀ a, a0 ≤ a → a ≤ s.size → RE s a d (self (S140.mk s (a : Int) (d : Int))) (self' s (a : Int) (d : Int))) :
    ∀ (m a f1 f2 : Nat) (t : Rx), s.size - a + 1 ≤ m → m + 1 ≤ f1 → m ≤ f2 → a0 < a → a ≤ s.size → ROK t → (ser t).length + 1 ≤ 2 * (a - a0) →
    RE s a0 d (F92b_l1 5000 self f1 s (a : Int) (d : Int) (ser t) true) (F64b_l1 5000 self' s (d : Int) f2 (a : Int) (ser t))
  | 0, _, _, _, _, h, _, _, _, _, _, _ => by omega
  | m + 1, a, f1, f2, t, hm, hf1, hf2, h0, ha, ht, hl => by
    obtain ⟨f1, rfl⟩ : ∃ q, f1 = q + 1 := ⟨f1 - 1, by omega⟩
    obtain ⟨f2, rfl⟩ : ∃ q, f2 = q + 1 := ⟨f2 - 1, by omega⟩
    rw [F92b_l1.eq_2, F64b_l1.eq_2, if_pos rfl, end_eq s a _ _ (by decide), Option.bind_some, Option.bind_some, if_pos ser_ne]
    have fin : RE s a0 d (F92b_c0 5000 (ser t) true s (a : Int) (d : Int)) (F64b_c0 5000 (a : Int) (ser t)) :=
      ⟨ser t, true, a, rfl, by omega, ha, by omega, fun _ => ⟨h0, hl, rfl, t, ht, rfl⟩, fun q => by cases q⟩
    by_cases q : a < s.size
    · rw [if_pos (show (a : Int) < (s.size : Int) by omega), if_pos (show 0 ≤ (a : Int) ∧ (a : Int) < (s.size : Int) from ⟨by omega, by omega⟩), in_eq _ (by decide), Option.bind_some, Option.bind_some, decide_eq_false (show ¬ s.size ≤ a by omega), Bool.false_or]
      cases hb : inB (ByteArray.mk #[124, 41]) (byteAt s (a : Int)) with
      | true => rw [if_neg (by simp), if_neg (by simp)]; exact fin
      | false =>
        rw [if_pos (show (!false) = true from rfl), if_pos (show (!false) = true from rfl)]
        obtain ⟨l2, ok2, a2, e, c1, c2, c3, c4, c5⟩ := hs a (by omega) ha
        rw [e, Option.bind_some, join2 (.inl rfl) (by omega) (show l2.length ≤ 100000 by omega), Option.bind_some]
        cases ok2 with
        | false =>
          obtain ⟨z, hw⟩ := c5 rfl
          rw [hw, Option.bind_some, if_pos rfl]
          obtain ⟨f1, rfl⟩ : ∃ q, f1 = q + 1 := ⟨f1 - 1, by omega⟩
          show RE s a0 d (F92b_l1 5000 self (f1 + 1) s (a2 : Int) (d : Int) (ser t ++ l2 ++ [pcs 2]) false) _
          rw [F92b_l1.eq_2, if_neg (by simp), Option.bind_some, if_neg (by simp)]
          exact RE.no (by omega) c2 (by simp; omega)
        | true =>
          obtain ⟨k1, k2, hw, t2, ht2, rfl⟩ := c4 rfl
          have z1 : (([] : List S131) ++ ser t).length * 40 ≤ 140737488355328 := by simp; omega
          have z2 : ((([] : List S131) ++ ser t) ++ ser t2).length * 40 ≤ 140737488355328 := by simp; omega
          have z3 : (((([] : List S131) ++ ser t) ++ ser t2) ++ ([S131.mk 2 (Vector.replicate 4 0)] : List S131)).length * 40 ≤ 140737488355328 := by simp; omega
          rw [hw, Option.bind_some, if_neg ser_ne, if_pos z1, if_pos z2, if_pos z3, List.nil_append]
          exact cat_e hz hs m a2 f1 f2 (.cat t t2) (by omega) (by omega) (by omega) (by omega) c2 ⟨ht, ht2⟩ (by simp [ser]; omega)
    · rw [if_neg (show ¬ (a : Int) < (s.size : Int) by omega), Option.bind_some, if_neg (by simp; intro h; omega), if_neg (by simp)]
      exact fin
theorem alt_e {s : ByteArray} (hz : s.size ≤ 90) {self : S140 → Option (List S131 × Bool × S140)} {self' : ByteArray → Int → Int → Option (List S131 × Int)} {a0 d : Nat} (hs : ∀ a, a0 ≤ a → a ≤ s.size → RE s a d (self (S140.mk s (a : Int) (d : Int))) (self' s (a : Int) (d : Int))) :
    ∀ (m a f1 f2 : Nat) (t : Rx), s.size - a + 1 ≤ m → m + 1 ≤ f1 → m ≤ f2 → a0 < a → a ≤ s.size → ROK t → (ser t).length + 1 ≤ 2 * (a - a0) →
    RE s a0 d (F92a_l1 5000 self f1 s (a : Int) (d : Int) (ser t) true) (F64a_l1 5000 self' s (d : Int) f2 (a : Int) (ser t))
  | 0, _, _, _, _, h, _, _, _, _, _, _ => by omega
  | m + 1, a, f1, f2, t, hm, hf1, hf2, h0, ha, ht, hl => by
    obtain ⟨f1, rfl⟩ : ∃ q, f1 = q + 1 := ⟨f1 - 1, by omega⟩
    obtain ⟨f2, rfl⟩ : ∃ q, f2 = q + 1 := ⟨f2 - 1, by omega⟩
    rw [F92a_l1.eq_2, F64a_l1.eq_2, if_pos rfl, if_pos ser_ne]
    have fin : RE s a0 d (F92a_c0 5000 (ser t) true s (a : Int) (d : Int)) (F64a_c0 5000 (a : Int) (ser t)) :=
      ⟨ser t, true, a, rfl, by omega, ha, by omega, fun _ => ⟨h0, hl, rfl, t, ht, rfl⟩, fun q => by cases q⟩
    by_cases q : a < s.size ∧ byteAt s (a : Int) = 124
    · have qa := q.1
      rw [eat_y (by omega) q, Option.bind_some, Option.bind_some, if_pos (show (a : Int) < (s.size : Int) by omega), if_pos (show 0 ≤ (a : Int) ∧ (a : Int) < (s.size : Int) from ⟨by omega, by omega⟩), Option.bind_some, decide_eq_true q.2]
      show RE s a0 d (if true = true then (self (S140.mk s ((a + 1 : Nat) : Int) (d : Int))).bind _ else _) (if true = true then (self' s (w64 ((a : Int) + 1)) (d : Int)).bind _ else _)
      have e1 : w64 ((a : Int) + 1) = ((a + 1 : Nat) : Int) := by rw [w6t (by omega) (by omega)]; rfl
      rw [if_pos rfl, if_pos rfl, e1]
      obtain ⟨l2, ok2, a2, e, c1, c2, c3, c4, c5⟩ := hs (a + 1) (by omega) (by omega)
      rw [e, Option.bind_some, join2 (.inr rfl) (by omega) (show l2.length ≤ 100000 by omega), Option.bind_some]
      cases ok2 with
      | false =>
        obtain ⟨z, hw⟩ := c5 rfl
        rw [hw, Option.bind_some, if_pos rfl]
        obtain ⟨f1, rfl⟩ : ∃ q, f1 = q + 1 := ⟨f1 - 1, by omega⟩
        show RE s a0 d (F92a_l1 5000 self (f1 + 1) s (a2 : Int) (d : Int) (ser t ++ l2 ++ [pcs 3]) false) _
        rw [F92a_l1.eq_2, if_neg (by simp), Option.bind_some]
        exact RE.no (by omega) c2 (by simp; omega)
      | true =>
        obtain ⟨k1, k2, hw, t2, ht2, rfl⟩ := c4 rfl
        have z1 : (([] : List S131) ++ ser t).length * 40 ≤ 140737488355328 := by simp; omega
        have z2 : ((([] : List S131) ++ ser t) ++ ser t2).length * 40 ≤ 140737488355328 := by simp; omega
        have z3 : (((([] : List S131) ++ ser t) ++ ser t2) ++ ([S131.mk 3 (Vector.replicate 4 0)] : List S131)).length * 40 ≤ 140737488355328 := by simp; omega
        rw [hw, Option.bind_some, if_neg ser_ne, if_pos z1, if_pos z2, if_pos z3, List.nil_append]
        exact alt_e hz hs m a2 f1 f2 (.alt t t2) (by omega) (by omega) (by omega) (by omega) c2 ⟨ht, ht2⟩ (by simp [ser]; omega)
    · rw [eat_n (by omega) q, Option.bind_some, Option.bind_some]
      have e1 : (if (a : Int) < (s.size : Int) then if 0 ≤ (a : Int) ∧ (a : Int) < (s.size : Int) then some (decide (byteAt s (a : Int) = 124)) else none else some false) = some false := by
        by_cases k : a < s.size
        · rw [if_pos (by omega), if_pos ⟨by omega, by omega⟩, decide_eq_false (fun h => q ⟨k, h⟩)]
        · rw [if_neg (by omega)]
      rw [e1, Option.bind_some, if_neg (by simp)]
      exact fin
theorem in3 (c : Int) : inB (ByteArray.mk #[42, 43, 63]) c = decide (c = 42 ∨ c = 43 ∨ c = 63) := by
  unfold inB F109
  have e0 : byteAt (ByteArray.mk #[42, 43, 63]) 0 = 42 := rfl
  have e1 : byteAt (ByteArray.mk #[42, 43, 63]) 1 = 43 := rfl
  have e2 : byteAt (ByteArray.mk #[42, 43, 63]) 2 = 63 := rfl
  have w0 : w64 ((0 : Int) + 1) = 1 := rfl
  have w1 : w64 ((1 : Int) + 1) = 2 := rfl
  have w2 : w64 ((2 : Int) + 1) = 3 := rfl
  rw [show (5000 : Nat) = 4996 + 1 + 1 + 1 + 1 from rfl, F109_l1.eq_2, if_pos (by decide), if_pos (by decide), e0, w0]
  by_cases a : (42 : Int) = c
  · subst a; rfl
  rw [if_neg a, F109_l1.eq_2, if_pos (by decide), if_pos (by decide), e1, w1]
  by_cases b : (43 : Int) = c
  · subst b; rfl
  rw [if_neg b, F109_l1.eq_2, if_pos (by decide), if_pos (by decide), e2, w2]
  by_cases d : (63 : Int) = c
  · subst d; rfl
  rw [if_neg d, F109_l1.eq_2, if_neg (by decide), decide_eq_false (by omega)]; rfl
theorem rep_e {s : ByteArray} (hz : s.size ≤ 90) (t2 : List S131 × Bool × S140) (ht2 : t2.2.1 = true) {a0 d : Nat} : ∀ (m a f1 f2 : Nat) (t : Rx), s.size - a < m → m ≤ f1 → m ≤ f2 → a0 < a → a ≤ s.size → ROK t → (ser t).length + 1 ≤ 2 * (a - a0) →
    RE s a0 d (F92c_l1 5000 t2 f1 s (a : Int) (d : Int) (ser t)) (F64c_l3 5000 s f2 (a : Int) (ser t))
  | 0, _, _, _, _, h, _, _, _, _, _, _ => by omega
  | m + 1, a, f1, f2, t, hm, hf1, hf2, h0, ha, ht, hl => by
    obtain ⟨f1, rfl⟩ : ∃ q, f1 = q + 1 := ⟨f1 - 1, by omega⟩
    obtain ⟨f2, rfl⟩ : ∃ q, f2 = q + 1 := ⟨f2 - 1, by omega⟩
    have go : ∀ k : Int, k = 4 ∨ k = 5 ∨ k = 6 → a < s.size → RE s a0 d ((F117 5000 k [ser t]).bind fun t18 => F92c_l1 5000 t2 f1 s ((a + 1 : Nat) : Int) (d : Int) t18) (F64c_c1 5000 (F64c_l3 5000 s f2) (a : Int) (ser t) k) := by
      intro k hk hlt
      have z1 : (([] : List S131) ++ ser t).length * 40 ≤ 140737488355328 := by simp; omega
      have z2 : ((([] : List S131) ++ ser t) ++ ([S131.mk k (Vector.replicate 4 0)] : List S131)).length * 40 ≤ 140737488355328 := by simp; omega
      have e1 : w64 ((a : Int) + 1) = ((a + 1 : Nat) : Int) := by rw [w6t (by omega) (by omega)]; rfl
      unfold F64c_c1
      rw [join1 hk (by omega), Option.bind_some, if_pos z1, if_pos z2, e1, List.nil_append]
      exact rep_e hz t2 ht2 m (a + 1) f1 f2 (.un k t) (by omega) (by omega) (by omega) (by omega) (by omega) ⟨by omega, by omega, ht⟩ (by simp [ser]; omega)
    rw [F92c_l1.eq_2, F64c_l3.eq_2, if_pos ht2, if_pos ser_ne]
    by_cases q : a < s.size
    · rw [if_pos (show (a : Int) < (s.size : Int) by omega), if_pos (show 0 ≤ (a : Int) ∧ (a : Int) < (s.size : Int) from ⟨by omega, by omega⟩), in_eq _ (by decide), Option.bind_some, Option.bind_some, in3]
      by_cases c1 : byteAt s (a : Int) = 42
      · rw [eat_y (by omega) ⟨q, c1⟩, Option.bind_some, if_pos rfl, decide_eq_true (by omega), if_pos rfl, if_pos ⟨by omega, by omega⟩, if_neg (by omega)]
        unfold F64c_c2
        rw [if_pos ⟨by omega, by omega⟩, if_neg (by omega)]
        exact go 4 (.inl rfl) q
      · rw [eat_n (by omega) (fun h => c1 h.2), Option.bind_some, if_neg (by simp)]
        by_cases c2 : byteAt s (a : Int) = 43
        · rw [eat_y (by omega) ⟨q, c2⟩, Option.bind_some, if_pos rfl, decide_eq_true (by omega), if_pos rfl, if_pos ⟨by omega, by omega⟩, if_pos c2]
          unfold F64c_c2
          rw [if_pos ⟨by omega, by omega⟩, if_neg (by omega)]
          exact go 5 (.inr (.inl rfl)) q
        · rw [eat_n (by omega) (fun h => c2 h.2), Option.bind_some, if_neg (by simp)]
          by_cases c3 : byteAt s (a : Int) = 63
          · rw [eat_y (by omega) ⟨q, c3⟩, Option.bind_some, if_pos rfl, decide_eq_true (by omega), if_pos rfl, if_pos ⟨by omega, by omega⟩, if_neg c2]
            unfold F64c_c2
            rw [if_pos ⟨by omega, by omega⟩, if_pos c3]
            exact go 6 (.inr (.inr rfl)) q
          · rw [eat_n (by omega) (fun h => c3 h.2), Option.bind_some, if_neg (by simp), decide_eq_false (by omega), if_neg (by simp)]
            exact ⟨ser t, true, a, rfl, by omega, ha, by omega, fun _ => ⟨h0, hl, rfl, t, ht, rfl⟩, fun q => by cases q⟩
    · rw [if_neg (show ¬ (a : Int) < (s.size : Int) by omega), Option.bind_some, if_neg (by simp), eat_n (by omega) (fun h => q h.1), Option.bind_some, if_neg (by simp), eat_n (by omega) (fun h => q h.1), Option.bind_some, if_neg (by simp), eat_n (by omega) (fun h => q h.1), Option.bind_some, if_neg (by simp)]
      exact ⟨ser t, true, a, rfl, by omega, ha, by omega, fun _ => ⟨h0, hl, rfl, t, ht, rfl⟩, fun q => by cases q⟩
theorem at0 {s : ByteArray} {a : Nat} (h : a < s.size) : 0 ≤ (a : Int) ∧ (a : Int) < (s.size : Int) := ⟨by omega, by omega⟩
theorem reader_eq {s : ByteArray} (hz : s.size ≤ 90) : ∀ j : Nat,
    (∀ a d : Nat, a ≤ s.size → d ≤ a → 4 * (s.size - a) + 1 ≤ j → RE s a d (F92d_r 5000 j (S140.mk s (a : Int) (d : Int))) (F64d_r 5000 j s (a : Int) (d : Int))) ∧
    (∀ a d : Nat, a ≤ s.size → d ≤ a → 4 * (s.size - a) + 2 ≤ j → RE s a d (F92c_r 5000 j (S140.mk s (a : Int) (d : Int))) (F64c_r 5000 j s (a : Int) (d : Int))) ∧
    (∀ a d : Nat, a ≤ s.size → d ≤ a → 4 * (s.size - a) + 3 ≤ j → RE s a d (F92b_r 5000 j (S140.mk s (a : Int) (d : Int))) (F64b_r 5000 j s (a : Int) (d : Int))) ∧
    (∀ a d : Nat, a ≤ s.size → d ≤ a → 4 * (s.size - a) + 4 ≤ j → RE s a d (F92a_r 5000 j (S140.mk s (a : Int) (d : Int))) (F64a_r 5000 j s (a : Int) (d : Int)))
  | 0 => ⟨fun a d _ _ h => by omega, fun a d _ _ h => by omega, fun a d _ _ h => by omega, fun a d _ _ h => by omega⟩
  | j + 1 => by
    obtain ⟨i1, i2, i3, i4⟩ := reader_eq hz j
    refine ⟨fun a d ha hd hj => ?_, fun a d ha hd hj => ?_, fun a d ha hd hj => ?_, fun a d ha hd hj => ?_⟩
    · rw [F92d_r.eq_2, F64d_r.eq_2, end_eq s a _ _ (by decide), Option.bind_some]
      by_cases q : a < s.size
      · have g := at0 q
        rw [if_neg (show ¬ (s.size : Int) ≤ (a : Int) by omega), if_pos g, in_eq _ (by decide), Option.bind_some, Option.bind_some, decide_eq_false (show ¬ s.size ≤ a by omega), Bool.false_or]
        cases hb : inB (ByteArray.mk #[124, 41, 42, 43, 63, 93, 47, 34]) (byteAt s (a : Int)) with
        | true => rw [if_pos rfl, if_pos rfl]; exact RE.no (Nat.le_refl _) ha (by simp)
        | false =>
          rw [if_neg (by simp), if_neg (by simp), if_pos g]
          have e1 : w64 ((a : Int) + 1) = ((a + 1 : Nat) : Int) := by rw [w6t (by omega) (by omega)]; rfl
          by_cases c1 : byteAt s (a : Int) = 46
          · obtain ⟨c, d1, d2, d3, d4⟩ := dot_eq
            rw [eat_y (by omega) ⟨q, c1⟩, Option.bind_some, if_pos rfl, d1, Option.bind_some, if_pos c1, show (Vector.replicate 4 (0 : Int)) = VZ from rfl, d2, Option.bind_some, e1]
            exact ⟨_, true, a + 1, rfl, by omega, by omega, by simp, fun _ => ⟨by omega, by simp, rfl, .one c, ⟨d3, d4⟩, rfl⟩, fun h => by cases h⟩
          rw [eat_n (by omega) (fun h => c1 h.2), Option.bind_some, if_neg (by simp), if_neg c1, if_pos g]
          by_cases c2 : byteAt s (a : Int) = 126
          · rw [eat_y (by omega) ⟨q, c2⟩, Option.bind_some, if_pos rfl, if_pos c2, e1]
            exact ⟨_, true, a + 1, rfl, by omega, by omega, by simp, fun _ => ⟨by omega, by simp, rfl, .non, trivial, rfl⟩, fun h => by cases h⟩
          rw [eat_n (by omega) (fun h => c2 h.2), Option.bind_some, if_neg (by simp), if_neg c2, if_pos g]
          by_cases c3 : byteAt s (a : Int) = 40
          · rw [eat_y (by omega) ⟨q, c3⟩, Option.bind_some, if_pos rfl, if_neg (by omega), if_pos g, if_pos c3, if_neg (show ¬ (99 : Int) ≤ (d : Int) by omega)]
            have e2 : w64 ((d : Int) + 1) = ((d + 1 : Nat) : Int) := by rw [w6t (by omega) (by omega)]; rfl
            show RE s a d ((F92a_r 5000 j (S140.mk s ((a + 1 : Nat) : Int) (w64 ((d : Int) + 1)))).bind _) _
            rw [e1, e2]
            obtain ⟨l, ok, a', e, k1, k2, k3, k4, k5⟩ := i4 (a + 1) (d + 1) (by omega) (by omega) (by omega)
            rw [e, Option.bind_some]
            have e3 : w64 (((d + 1 : Nat) : Int) - 1) = (d : Int) := by rw [w6t (by omega) (by omega)]; omega
            cases ok with
            | false =>
              obtain ⟨z, hw⟩ := k5 rfl
              rw [hw, Option.bind_some, if_neg (by simp), Option.bind_some]
              show RE s a d (some (l, false, S140.mk s (a' : Int) (w64 (((d + 1 : Nat) : Int) - 1)))) _
              rw [e3, if_pos rfl, Option.bind_some, if_pos rfl]
              exact RE.no (by omega) k2 (by omega)
            | true =>
              obtain ⟨m1, m2, hw, t, ht, rfl⟩ := k4 rfl
              rw [hw, Option.bind_some, if_pos rfl]
              show RE s a d (Option.bind (if w64 (((d + 1 : Nat) : Int) - 1) < 99 then (F116 5000 (S140.mk s (a' : Int) (w64 (((d + 1 : Nat) : Int) - 1))) 41).bind _ else _) _) _
              rw [e3, if_pos (show (d : Int) < 99 by omega), if_neg ser_ne]
              by_cases q2 : a' < s.size ∧ byteAt s (a' : Int) = 41
              · have q2a := q2.1
                have e4 : w64 ((a' : Int) + 1) = ((a' + 1 : Nat) : Int) := by rw [w6t (by omega) (by omega)]; rfl
                rw [eat_y (by omega) q2, Option.bind_some, Option.bind_some, if_neg (show ¬ (s.size : Int) ≤ (a' : Int) by omega), if_pos (at0 q2a), Option.bind_some, decide_eq_false (fun h => h q2.2), if_neg (by simp), e4]
                exact ⟨ser t, true, a' + 1, rfl, by omega, by omega, by omega, fun _ => ⟨by omega, by omega, rfl, t, ht, rfl⟩, fun h => by cases h⟩
              · rw [eat_n (by omega) q2, Option.bind_some, Option.bind_some]
                have e5 : (if (s.size : Int) ≤ (a' : Int) then some true else if 0 ≤ (a' : Int) ∧ (a' : Int) < (s.size : Int) then some (decide (byteAt s (a' : Int) ≠ 41)) else none) = some true := by
                  by_cases k : a' < s.size
                  · rw [if_neg (by omega), if_pos (at0 k)]; exact congrArg some (decide_eq_true (fun h => q2 ⟨k, h⟩))
                  · rw [if_pos (by omega)]
                show RE s a d _ (Option.bind (if (s.size : Int) ≤ (a' : Int) then some true else if 0 ≤ (a' : Int) ∧ (a' : Int) < (s.size : Int) then some (decide (byteAt s (a' : Int) ≠ 41)) else none) _)
                rw [e5, Option.bind_some, if_pos rfl]
                exact RE.no (l := ser t) (by omega) k2 (by omega)
          rw [eat_n (by omega) (fun h => c3 h.2), Option.bind_some, if_neg (by simp)]
          by_cases c4 : byteAt s (a : Int) = 91
          · rw [eat_y (by omega) ⟨q, c4⟩, Option.bind_some, if_pos rfl, if_pos c4, e1]
            obtain ⟨l, ok, a', e, k1, k2, kl, k3, k4⟩ := br_eq (s := s) (by omega) (a := a + 1) (by omega) (d : Int)
            rw [e, Option.bind_some]
            cases ok with
            | false =>
              obtain ⟨z, hw⟩ := k4 rfl
              rw [hw, Option.bind_some]
              refine ⟨l, false, a', rfl, by omega, k2, by omega, (fun h => by cases h), fun _ => ⟨z, rfl⟩⟩
            | true =>
              obtain ⟨m1, hw, v, rfl, hv, hv2⟩ := k3 rfl
              rw [hw, Option.bind_some]
              exact ⟨_, true, a', rfl, by omega, k2, by simp, fun _ => ⟨by omega, by simp; omega, rfl, .one v, ⟨hv, hv2⟩, rfl⟩, fun h => by cases h⟩
          rw [eat_n (by omega) (fun h => c4 h.2), Option.bind_some, if_neg (by simp), if_neg c4, if_pos g, if_neg c3, if_pos ⟨by omega, by omega, Int.le_refl _⟩, Int.toNat_natCast, Int.toNat_natCast]
          obtain ⟨c, ok, n, b1, b2, b3, b4, b5⟩ := rbyte_eq s (by omega) ha (d : Int)
          show RE s a d ((F144 5000 (S140.mk s (a : Int) (d : Int))).bind _) _
          obtain ⟨v, v1, v2, v3, v4⟩ := one_eq b3
          rw [b1, b2, Option.bind_some, Option.bind_some, v1, Option.bind_some]
          cases ok with
          | false =>
            show RE s a d (some ([S131.mk 1 v], false, S140.mk s ((a + n : Nat) : Int) (d : Int))) (some ([], (a : Int)))
            exact RE.no (by omega) b4 (by simp)
          | true =>
            have n1 := b5 rfl
            show RE s a d _ (if 0 ≤ (256 : Int) ∧ (256 : Int) * 1 ≤ 140737488355328 ∧ (256 : Int) ≤ 9223372036854775807 then _ else none)
            rw [if_pos (by decide)]
            show RE s a d _ (if 0 ≤ (c : Int) ∧ (c : Int) < ((List.replicate 256 false).length : Int) then (F139 5000 (lset (List.replicate 256 false) (c : Int) true)).bind _ else none)
            have e6 : w64 ((a : Int) + (n : Int)) = ((a + n : Nat) : Int) := by rw [w6t (by omega) (by omega)]; rfl
            rw [if_pos ⟨by omega, by simp; omega⟩, v2, Option.bind_some]
            show RE s a d _ (some ([S131.mk 1 v], w64 ((a : Int) + (n : Int))))
            rw [e6]
            exact ⟨_, true, a + n, rfl, by omega, by omega, by simp, fun _ => ⟨by omega, by simp; omega, rfl, .one v, ⟨v3, v4⟩, rfl⟩, fun h => by cases h⟩
      · rw [if_pos (show (s.size : Int) ≤ (a : Int) by omega), Option.bind_some, if_pos rfl, decide_eq_true (show s.size ≤ a by omega), Bool.true_or, if_pos rfl]
        exact RE.no (Nat.le_refl _) ha (by simp)
    · rw [F92c_r.eq_2, F64c_r.eq_2]
      obtain ⟨l, ok, a', e, k1, k2, k3, k4, k5⟩ := i1 a d ha hd (by omega)
      rw [e, Option.bind_some]
      cases ok with
      | false =>
        obtain ⟨z, hw⟩ := k5 rfl
        rw [hw, Option.bind_some]
        show RE s a d (F92c_l1 5000 (l, false, S140.mk s (a' : Int) (d : Int)) (4999 + 1) s (a' : Int) (d : Int) l) (F64c_l3 5000 s (4999 + 1) z [])
        rw [F92c_l1.eq_2, F64c_l3.eq_2, if_neg (by simp), if_neg (by simp), Option.bind_some, if_neg (by simp)]
        exact RE.no k1 k2 (by simp)
      | true =>
        obtain ⟨m1, m2, hw, t, ht, rfl⟩ := k4 rfl
        rw [hw, Option.bind_some]
        exact rep_e hz (ser t, true, S140.mk s (a' : Int) (d : Int)) rfl 4000 a' 5000 5000 t (by omega) (by decide) (by decide) m1 k2 ht m2
    · rw [F92b_r.eq_2, F64b_r.eq_2]
      obtain ⟨l, ok, a', e, k1, k2, k3, k4, k5⟩ := i2 a d ha hd (by omega)
      rw [e, Option.bind_some]
      cases ok with
      | false =>
        obtain ⟨z, hw⟩ := k5 rfl
        rw [hw, Option.bind_some]
        show RE s a d (F92b_l1 5000 _ (4999 + 1) s (a' : Int) (d : Int) l false) (F64b_l1 5000 _ s (d : Int) (4999 + 1) z [])
        rw [F92b_l1.eq_2, F64b_l1.eq_2, if_neg (by simp), if_neg (by simp), Option.bind_some, Option.bind_some, if_neg (by simp), if_neg (by simp)]
        exact RE.no k1 k2 k3
      | true =>
        obtain ⟨m1, m2, hw, t, ht, rfl⟩ := k4 rfl
        rw [hw, Option.bind_some]
        exact cat_e hz (a0 := a) (d := d) (fun a2 h1 h2 => i2 a2 d h2 (by omega) (by omega)) 4000 a' 5000 5000 t (by omega) (by decide) (by decide) m1 k2 ht m2
    · rw [F92a_r.eq_2, F64a_r.eq_2]
      obtain ⟨l, ok, a', e, k1, k2, k3, k4, k5⟩ := i3 a d ha hd (by omega)
      rw [e, Option.bind_some]
      cases ok with
      | false =>
        obtain ⟨z, hw⟩ := k5 rfl
        rw [hw, Option.bind_some]
        show RE s a d (F92a_l1 5000 _ (4999 + 1) s (a' : Int) (d : Int) l false) (F64a_l1 5000 _ s (d : Int) (4999 + 1) z [])
        rw [F92a_l1.eq_2, F64a_l1.eq_2, if_neg (by simp), if_neg (by simp), Option.bind_some, Option.bind_some, if_neg (by simp)]
        exact RE.no k1 k2 k3
      | true =>
        obtain ⟨m1, m2, hw, t, ht, rfl⟩ := k4 rfl
        rw [hw, Option.bind_some]
        exact alt_e hz (a0 := a) (d := d) (fun a2 h1 h2 => i3 a2 d h2 (by omega) (by omega)) 4000 a' 5000 5000 t (by omega) (by decide) (by decide) m1 k2 ht m2
/-- Both say the same of a text: the pieces of a tree; or that it is none. -/
theorem parse_eq {s : ByteArray} (hz : s.size ≤ 90) : (∃ t, ROK t ∧ (ser t).length ≤ 2 * s.size ∧ F73 5000 s = some (ser t, 0) ∧ F33 5000 s = some (ser t, 0)) ∨ (F73 5000 s = some ([], 5) ∧ F33 5000 s = some ([], 5)) := by
  obtain ⟨l, ok, a', e, k1, k2, k3, k4, k5⟩ := (reader_eq hz 5000).2.2.2 0 0 (by omega) (by omega) (by omega)
  have e : F92a 5000 (S140.mk s 0 0) = some (l, ok, S140.mk s (a' : Int) 0) := e
  unfold F73 F33
  rw [if_neg (by omega), if_neg (by omega), e, Option.bind_some]
  cases ok with
  | false =>
    obtain ⟨z, hw⟩ := k5 rfl
    have hw : F64a 5000 s 0 0 = some ([], z) := hw
    rw [hw]
    exact .inr ⟨rfl, rfl⟩
  | true =>
    obtain ⟨m1, m2, hw, t, ht, rfl⟩ := k4 rfl
    have hw : F64a 5000 s 0 0 = some (ser t, (a' : Int)) := hw
    rw [hw, Option.bind_some, if_neg (by simp), if_neg ser_ne, Option.bind_some]
    by_cases q : a' < s.size
    · refine .inr ⟨?_, ?_⟩ <;> (show (if decide ((a' : Int) < (s.size : Int)) = true then some (([] : List S131), (5 : Int)) else if (400 : Int) < ((ser t).length : Int) then some ([], 6) else some (ser t, 0)) = _; rw [decide_eq_true (show ((a' : Nat) : Int) < (s.size : Int) by omega), if_pos rfl])
    · refine .inl ⟨t, ht, by omega, ?_, ?_⟩ <;> (show (if decide ((a' : Int) < (s.size : Int)) = true then some (([] : List S131), (5 : Int)) else if (400 : Int) < ((ser t).length : Int) then some ([], 6) else some (ser t, 0)) = _; rw [decide_eq_false (show ¬ ((a' : Nat) : Int) < (s.size : Int) by omega), if_neg (by simp), if_neg (by omega)])
def mk (p0 : S55) (s : Int) : Int := if s < 0 ∨ (p0.f2.length : Int) ≤ s then -1 else lget p0.f2 s

theorem mark_eq (p0 : S55) (k : Nat) (s : Int) : F112 k p0 s = some (mk p0 s) := by
  unfold F112 mk
  by_cases a : s < 0
  · simp [a]
  · by_cases b : (p0.f2.length : Int) ≤ s
    · simp [a, b]
    · simp [a, b]
theorem gN_rt {t : Rx} (ht : ROK t) (hz : (ser t).length ≤ 200) : Rt (gN t) := by
  have g := gIO t 0
  have hq : ((qb t 0 : Nat) : Int) = ((2 * (ser t).length : Nat) : Int) := by unfold qb; omega
  have gl := gr_len t 0
  refine ⟨⟨by show 0 ≤ gI t 0; omega, by show gI t 0 < ((2 * (ser t).length : Nat) : Int); omega⟩, ⟨by show 0 ≤ gO t 0; omega, by show gO t 0 < ((2 * (ser t).length : Nat) : Int); omega⟩, fun e he => ?_, by show ((2 * (ser t).length : Nat) : Int) ≤ 1000; omega, by show (gr t 0).length ≤ 1000; omega, fun e he => (gr_rng t 0 ht e he).2.2.2.2⟩
  obtain ⟨a, b, c, d, _⟩ := gr_rng t 0 ht e he
  exact ⟨by omega, by show _ < ((2 * (ser t).length : Nat) : Int); omega, by omega, by show _ < ((2 * (ser t).length : Nat) : Int); omega⟩
theorem PW.fr {l : List S152} {p r : Int} {w : List Nat} (h : PW l p w r) : w = [] → FR l p r := by
  induction h with
  | nil p => exact fun _ => .refl p
  | eps he hf _ ih => exact fun k => (FR.tail (.refl _) he hf).trans (ih k)
  | byte _ _ _ _ _ => exact fun k => by cases k
theorem FR.pw {l : List S152} {p r : Int} (h : FR l p r) : PW l p [] r := by
  induction h with
  | refl => exact .nil _
  | tail _ he hf ih => exact ih.app (.eps he hf (.nil _))
theorem F0_last {t : Rx} (ht : ROK t) (hz : (ser t).length ≤ 200) : lget (F0 (gN t)) (gO t 0) = true ↔ Lx t [] := by
  have h := gN_rt ht hz
  have hf := h.first
  have hn := h.nn
  have hl := h.last
  have hx : (lset (List.replicate (NN (gN t)) false) (gN t).f2 true).length = NN (gN t) := by rw [lset_len, List.length_replicate]
  rw [← gr_lang ht 0]
  unfold F0
  rw [CL_iff h hx (show (0 : Int) ≤ gO t 0 from hl.1)]
  constructor
  · rintro ⟨p, p0, hp, k⟩
    rw [lget_lset _ _ _ hf.1 (by rw [List.length_replicate]; omega) p0, lget_rep, Bool.or_false, decide_eq_true_eq] at hp
    subst hp
    exact k.pw
  · intro k
    exact ⟨(gN t).f2, hf.1, by rw [lget_lset _ _ _ hf.1 (by rw [List.length_replicate]; omega) hf.1]; simp, k.fr rfl⟩
theorem lget_lsetI (l : List Int) (i q : Nat) (b : Int) (h1 : i < l.length) : lget (lset l (i : Int) b) (q : Int) = if q = i then b else lget l (q : Int) := by
  unfold lget lset
  rw [List.getD, List.getD, List.getElem?_set, Int.toNat_natCast, Int.toNat_natCast]
  by_cases e : i = q
  · rw [if_pos e, if_pos (by omega), if_pos e.symm]; rfl
  · rw [if_neg e, if_neg (fun h => e h.symm)]
theorem fill_eq (n : S121) (hN : NN n ≤ 1000) (h0 : 0 ≤ n.f0) : ∀ (m i f : Nat) (x : List Int), i + m = NN n → m < f → x.length = NN n → (∀ q, q < i → lget x ((q : Nat) : Int) = -1) → ∃ y, y.length = NN n ∧ (∀ q, q < NN n → lget y ((q : Nat) : Int) = -1) ∧ F77_l1 5000 n f x (i : Int) = F77_c0 5000 n y
  | 0, i, f + 1, x, hi, hf, hx, hq => ⟨x, hx, fun q h => hq q (by omega), by rw [F77_l1.eq_2, List.length_replicate, show n.f0.toNat = NN n from rfl, if_neg (by omega)]⟩
  | m + 1, i, f + 1, x, hi, hf, hx, hq => by
    obtain ⟨y, y1, y2, y3⟩ := fill_eq n hN h0 m (i + 1) f (lset x (i : Int) (-1)) (by omega) (by omega) (by rw [lset_len, hx]) (fun q h => by
      rw [lget_lsetI _ _ _ _ (by omega)]
      by_cases e : q = i
      · rw [if_pos e]
      · rw [if_neg e]; exact hq q (by omega))
    refine ⟨y, y1, y2, ?_⟩
    rw [F77_l1.eq_2, List.length_replicate, show n.f0.toNat = NN n from rfl, if_pos (by omega), if_pos ⟨by omega, by omega⟩, w6t (by omega) (by omega)]
    exact_mod_cast y3
theorem mkl_one {M : List Int} {t : List Bool} {la : Nat} (hM : M.length = t.length) (hla : la < t.length) (h : ∀ q : Nat, q < t.length → lget M (q : Int) = if q = la then 0 else -1) : ∀ (m i : Nat) (o : Int), i + m = t.length → (o = -1 ∨ o = 0) → mkl M t m i o = if o = 0 ∨ (i ≤ la ∧ lget t (la : Int) = true) then 0 else -1
  | 0, i, o, hi, ho => by
    show o = _
    split
    · next c => rcases c with c | c
                · exact c
                · omega
    · next c => rcases ho with ho | ho
                · exact ho
                · exact absurd (.inl ho) c
  | m + 1, i, o, hi, ho => by
    rw [mkl]
    have e : mk1 M t i o = if o = 0 ∨ (i = la ∧ lget t (la : Int) = true) then 0 else -1 := by
      unfold mk1
      rw [h i (by omega)]
      by_cases a : i = la
      · subst a
        rw [if_pos rfl]
        by_cases b : lget t (i : Int) = true
        · rw [if_pos (show o = 0 ∨ _ from .inr ⟨rfl, b⟩)]
          rcases ho with ho | ho
          · rw [if_pos ⟨b, by omega, by omega, .inl (by omega)⟩]
          · split
            · rfl
            · exact ho
        · rw [if_neg (fun c => b c.1)]
          rcases ho with ho | ho
          · rw [if_neg (fun c => by rcases c with c | c; omega; exact b c.2)]; exact ho
          · rw [if_pos (.inl ho)]; exact ho
      · rw [if_neg a, if_neg (fun c => by have := c.2.2.1; omega)]
        rcases ho with ho | ho
        · rw [if_neg (fun c => by rcases c with c | c; omega; exact a c.1)]; exact ho
        · rw [if_pos (.inl ho)]; exact ho
    rw [e, mkl_one hM hla h m (i + 1) _ (by omega) (by split <;> simp)]
    by_cases c : o = 0
    · rw [if_pos (.inl c : o = 0 ∨ (i = la ∧ lget t (la : Int) = true)), if_pos (.inl rfl), if_pos (.inl c)]
    · by_cases a : i = la ∧ lget t (la : Int) = true
      · rw [if_pos (.inr a : o = 0 ∨ (i = la ∧ lget t (la : Int) = true)), if_pos (.inl rfl), if_pos (.inr ⟨by omega, a.2⟩)]
      · rw [if_neg (by rintro (d | d); exact c d; exact a d : ¬ (o = 0 ∨ (i = la ∧ lget t (la : Int) = true)))]
        by_cases d : i + 1 ≤ la ∧ lget t (la : Int) = true
        · rw [if_pos (.inr d), if_pos (.inr ⟨by omega, d.2⟩)]
        · rw [if_neg (by rintro (f | f); omega; exact d f), if_neg (by
            rintro (f | f)
            · exact c f
            · by_cases g : i = la
              · exact a ⟨g, f.2⟩
              · exact d ⟨by omega, f.2⟩)]
/-- One machine: too large; or in its first state it is marked just when the machine takes the empty text. -/
theorem one_mark {t : Rx} (ht : ROK t) (hz : (ser t).length ≤ 200) : ∃ d e, F77 5000 (gN t) = some (d, e) ∧ (e = 6 ∨ e = 0 ∧ (0 ≤ mk d 0 ↔ Lx t [])) := by
  have h := gN_rt ht hz
  generalize hn0 : gN t = n at h
  have hla : n.f3 = gO t 0 := by rw [← hn0]; rfl
  obtain ⟨kk, hk⟩ := CK_ex n h.n2 h.u
  have hf := h.first
  have hl := h.last
  have hn := h.nn
  have h1 := h.n1
  have hN : NN n ≤ 1000 := by omega
  obtain ⟨y, y1, y3, y2⟩ := fill_eq n hN (by omega) (NN n) 0 5000 (List.replicate (NN n) 0) (by omega) (by omega) (by simp) (fun q hq => by omega)
  have y2 : F77_l1 5000 n 5000 (List.replicate (NN n) 0) (0 : Int) = F77_c0 5000 n y := y2
  obtain ⟨v, v1, v2⟩ := sof_eq h hk (lset y n.f3 0)
  have top : ∀ d e, F76 5000 n (lset y n.f3 0) = some (d, e) → F77 5000 n = some (d, e) := by
    intro d e he
    unfold F77
    rw [right_eq n h.n2, Option.bind_some, h.rt, if_neg (by decide), if_pos ⟨by omega, by omega, by omega⟩, show n.f0.toNat = NN n from rfl, y2]
    unfold F77_c0
    rw [if_pos ⟨by omega, by omega⟩, he, Option.bind_some]
  rw [v2] at top
  cases hm : mainF n (RP kk) 2000 5000 0 [F0 n] [] with
  | none => rw [hm] at top; exact ⟨_, _, top _ _ rfl, .inl rfl⟩
  | some x =>
    obtain ⟨R', N'⟩ := x
    rw [hm] at top
    refine ⟨_, _, top _ _ rfl, .inr ⟨rfl, ?_⟩⟩
    obtain ⟨_, hR, _⟩ := mainF_tab n (RP kk) 2000 5000 0 [F0 n] [] R' N' (by simp) ⟨rfl, fun q hq => by omega⟩ (fun r hr => by rw [List.mem_singleton.1 hr]; exact F0_len n) (by simp; omega) hm
    have h0 : R'[0]? = some (F0 n) := hR 0 _ rfl
    have hl0 : 0 < R'.length := by
      rcases Nat.eq_zero_or_pos R'.length with c | c
      · rw [List.eq_nil_of_length_eq_zero c] at h0; cases h0
      · exact c
    have hmk : mk (S55.mk v N' (R'.map (MK (lset y n.f3 0)))) 0 = MK (lset y n.f3 0) (F0 n) := by
      have e1 : (R'.map (MK (lset y n.f3 0)))[0]? = some (MK (lset y n.f3 0) (F0 n)) := by rw [List.getElem?_map, h0]; rfl
      show (if (0 : Int) < 0 ∨ ((R'.map (MK (lset y n.f3 0))).length : Int) ≤ 0 then -1 else lget (R'.map (MK (lset y n.f3 0))) ((0 : Nat) : Int)) = _
      rw [if_neg (by rw [List.length_map]; omega)]
      exact (lget_some e1).1
    have hFl := F0_len n
    have e3 : n.f3 = ((n.f3.toNat : Nat) : Int) := by omega
    have := mkl_one (M := lset y n.f3 0) (t := F0 n) (la := n.f3.toNat) (by rw [lset_len, y1, hFl]) (by omega) (fun q hq => by
      rw [e3, lget_lsetI _ _ _ _ (by omega), Int.toNat_natCast]
      by_cases c : q = n.f3.toNat
      · rw [if_pos c, if_pos c]
      · rw [if_neg c, if_neg c]; exact y3 q (by omega)) (F0 n).length 0 (-1) (by omega) (.inl rfl)
    rw [hmk]
    unfold MK
    rw [this, ← e3, hla, ← hn0, ← F0_last ht hz]
    by_cases c : lget (F0 (gN t)) (gO t 0) = true
    · rw [if_pos (.inr ⟨by omega, c⟩)]; simp [c]
    · rw [if_neg (by rintro (f | f); omega; exact c f.2)]; simp [c]
theorem class_all : ∀ n : Fin 256, F91 5000 ((n.val : Nat) : Int) = F114 5000 ((n.val : Nat) : Int) := by decide +kernel
theorem w64n {n : Nat} (h : n ≤ 100000) : w64 ((n : Int) + 1) = ((n + 1 : Nat) : Int) := by rw [w64_id (by omega) (by omega)]; rfl
/-- A loop that goes on as long as something holds. -/
theorem loopAll {f : Nat → Int → Option Bool} {n : Nat} {P : Nat → Prop} {c d : Option Bool} (hs : ∀ j (i : Nat), i < n → (P i → f (j + 1) (i : Int) = f j ((i + 1 : Nat) : Int)) ∧ (¬ P i → f (j + 1) (i : Int) = d)) (he : ∀ j, f (j + 1) (n : Int) = c) :
    ∀ (m i fuel : Nat), i + m = n → m < fuel → ((∀ q, i ≤ q → q < n → P q) → f fuel (i : Int) = c) ∧ ((¬ ∀ q, i ≤ q → q < n → P q) → f fuel (i : Int) = d)
  | 0, i, fu + 1, hi, _ => by
    obtain rfl : i = n := by omega
    exact ⟨fun _ => he fu, fun h => absurd (fun q h1 h2 => by omega) h⟩
  | m + 1, i, fu + 1, hi, hf => by
    obtain ⟨ih1, ih2⟩ := loopAll hs he m (i + 1) fu (by omega) (by omega)
    obtain ⟨s1, s2⟩ := hs fu i (by omega)
    refine ⟨fun h => ?_, fun h => ?_⟩
    · rw [s1 (h i (Nat.le_refl _) (by omega))]
      exact ih1 fun q h1 h2 => h q (by omega) h2
    · by_cases p : P i
      · rw [s1 p]
        refine ih2 fun k => h fun q h1 h2 => ?_
        by_cases e : q = i
        · rw [e]; exact p
        · exact k q (by omega) h2
      · exact s2 p
theorem mem_get {α : Type} [Inhabited α] (l : List α) {i : Nat} (h : i < l.length) : lget l (i : Int) ∈ l := by rw [lget_lt l i h]; exact List.getElem_mem h
def RuleFew (r : S82) : Prop := r.f2.size ≤ 40 ∧ r.f0.size ≤ 100
theorem rfew_is (l : List S82) : ∃ b, F38 5000 l = some b ∧ (b = true → l.length ≤ 20 ∧ ∀ r ∈ l, RuleFew r) := by
  by_cases hl : (20 : Int) < (l.length : Int)
  · exact ⟨false, by unfold F38; rw [if_pos hl], fun h => by cases h⟩
  · have e : F38 5000 l = F38_l1 5000 l 5000 ((0 : Nat) : Int) := by unfold F38; rw [if_neg hl]; rfl
    obtain ⟨h1, h2⟩ := loopAll (f := F38_l1 5000 l) (n := l.length) (P := fun q => RuleFew (lget l (q : Int))) (c := some true) (d := some false)
      (fun j i hi => by
        have g : 0 ≤ (i : Int) ∧ (i : Int) < (l.length : Int) := ⟨by omega, by omega⟩
        rw [F38_l1.eq_2, if_pos g.2, if_pos g, w64n (by omega)]
        unfold RuleFew
        by_cases c : (40 : Int) < (((lget l (i : Int)).f2).size : Int)
        · rw [if_pos c]
          exact ⟨fun p => by omega, fun _ => rfl⟩
        · rw [if_neg c, if_pos g]
          by_cases c2 : (100 : Int) < (((lget l (i : Int)).f0).size : Int)
          · rw [decide_eq_true c2]
            exact ⟨fun p => by omega, fun _ => rfl⟩
          · rw [decide_eq_false c2]
            exact ⟨fun _ => rfl, fun p => absurd ⟨by omega, by omega⟩ p⟩)
      (fun j => by rw [F38_l1.eq_2, if_neg (by omega)]; rfl) l.length 0 5000 (by omega) (by omega)
    rw [e]
    by_cases q : ∀ q : Nat, 0 ≤ q → q < l.length → RuleFew (lget l (q : Int))
    · refine ⟨true, h1 q, fun _ => ⟨by omega, fun r hr => ?_⟩⟩
      obtain ⟨i, hi, rfl⟩ := List.getElem_of_mem hr
      have := q i (by omega) hi
      rwa [lget_lt l i hi] at this
    · exact ⟨false, h2 q, fun h => by cases h⟩
theorem tb1 {α β : Type} {o : Option α} {f : α → Option β} (h : ∃ b, o = some b) (k : ∀ b, ∃ y, f b = some y) : ∃ y, o.bind f = some y := by
  obtain ⟨b, hb⟩ := h
  obtain ⟨y, hy⟩ := k b
  exact ⟨y, by rw [hb, Option.bind_some]; exact hy⟩
theorem it {α : Type} {p : Prop} [Decidable p] {a b : Option α} (h : ∃ y, a = some y) (k : ∃ y, b = some y) : ∃ y, (if p then a else b) = some y := by
  split
  · exact h
  · exact k
theorem class5_tot (x : Int) (b : Bool) : ∃ v, F91_c5 5000 x b = some v := by
  unfold F91_c5
  refine it ⟨_, rfl⟩ (tb1 (it ⟨_, rfl⟩ ⟨_, rfl⟩) fun _ => it ⟨_, rfl⟩ (tb1 (it ⟨_, rfl⟩ ⟨_, rfl⟩) fun _ => it ⟨_, rfl⟩ (tb1 (it ⟨_, rfl⟩ ⟨_, rfl⟩) fun _ => it ⟨_, rfl⟩ (it ⟨_, rfl⟩ (tb1 (it ⟨_, rfl⟩ ⟨_, rfl⟩) fun _ => it ⟨_, rfl⟩ ⟨_, rfl⟩)))))
theorem class_tot (x : Int) : ∃ v, F91 5000 x = some v := by
  unfold F91
  exact it (class5_tot _ _) (it (class5_tot _ _) (it (class5_tot _ _) (class5_tot _ _)))
theorem name_l (s : ByteArray) (hz : s.size ≤ 1000) : ∀ (m i fuel : Nat), i + m = s.size → m < fuel → ∃ b, F69_l1 5000 s fuel (i : Int) = some b
  | 0, i, fu + 1, hi, _ => ⟨true, by rw [F69_l1.eq_2, if_neg (by omega)]; rfl⟩
  | m + 1, i, fu + 1, hi, hf => by
    obtain ⟨b, hb⟩ := name_l s hz m (i + 1) fu (by omega) (by omega)
    obtain ⟨v, hv⟩ := class_tot (byteAt s (i : Int))
    rw [F69_l1.eq_2, if_pos (by omega), if_pos ⟨by omega, by omega⟩, hv, Option.bind_some, w6t (by omega) (by omega)]
    split
    · rw [Option.bind_some]
      split
      · exact ⟨_, rfl⟩
      · exact ⟨b, by exact_mod_cast hb⟩
    · rw [Option.bind_some, if_neg (by decide)]
      exact ⟨b, by exact_mod_cast hb⟩
theorem name_tot (s : ByteArray) : ∃ b, F69 5000 s = some b := by
  unfold F69
  by_cases q : (40 : Int) < (s.size : Int)
  · exact ⟨false, by rw [if_pos q, Option.bind_some, if_pos rfl]⟩
  · rw [if_neg q]
    by_cases e : s = ByteArray.mk #[]
    · exact ⟨false, by rw [if_pos e, Option.bind_some, if_pos rfl]⟩
    · have hs : 0 < s.size := by
        refine Classical.byContradiction fun q => e ?_
        have h1 : s.data.size = 0 := (show s.size = 0 by omega)
        cases s with
        | mk d => congr 1; exact Array.eq_empty_of_size_eq_zero h1
      obtain ⟨v, hv⟩ := class_tot (byteAt s 0)
      obtain ⟨b, hb⟩ := name_l s (by omega) s.size 0 5000 (by omega) (by omega)
      rw [if_neg e, if_pos ⟨by omega, by omega⟩, hv, Option.bind_some, Option.bind_some]
      split
      · exact ⟨_, rfl⟩
      · exact ⟨b, hb⟩
theorem byteAt_rng (s : ByteArray) (i : Int) : ∃ n : Nat, n < 256 ∧ byteAt s i = (n : Int) := by
  unfold byteAt
  split
  · exact ⟨_, UInt8.toNat_lt _, rfl⟩
  · exact ⟨0, by omega, rfl⟩
theorem class_at (s : ByteArray) (i : Int) : F114 5000 (byteAt s i) = F91 5000 (byteAt s i) := by
  obtain ⟨n, hn, e⟩ := byteAt_rng s i
  rw [e]; exact (class_all ⟨n, hn⟩).symm
theorem rname_no (s : ByteArray) (hz : s.size ≤ 1000) (hs : ¬ (1 ≤ s.size ∧ s.size ≤ 40)) : ∀ (m i f : Nat), i + m = s.size → m < f → F90_l1 5000 s f (i : Int) = some false
  | 0, i, f + 1, hi, _ => by
    rw [F90_l1.eq_2, if_neg (by omega)]
    unfold F90_c0
    split
    · rw [decide_eq_false (by omega)]; rfl
    · rfl
  | m + 1, i, f + 1, hi, hf => by
    obtain ⟨v, hv⟩ := class_tot (byteAt s (i : Int))
    have ih := rname_no s hz hs m (i + 1) f (by omega) (by omega)
    rw [F90_l1.eq_2, if_pos (by omega), if_pos ⟨by omega, by omega⟩, class_at, hv, Option.bind_some, w6t (by omega) (by omega)]
    have ih : F90_l1 5000 s f ((i : Int) + 1) = some false := by exact_mod_cast ih
    rw [ih]
    split
    · split
      · rfl
      · rw [Option.bind_some]; split <;> rfl
    · rfl
theorem rname_l (s : ByteArray) (h1 : 1 ≤ s.size) (h2 : s.size ≤ 40) : ∀ (m i f : Nat), 1 ≤ i → i + m = s.size → m < f → F90_l1 5000 s f (i : Int) = F69_l1 5000 s f (i : Int)
  | 0, i, f + 1, _, hi, _ => by
    rw [F90_l1.eq_2, F69_l1.eq_2, if_neg (by omega), if_neg (by omega)]
    unfold F90_c0
    rw [if_pos (by omega), decide_eq_true (by omega)]; rfl
  | m + 1, i, f + 1, h0, hi, hf => by
    obtain ⟨v, hv⟩ := class_tot (byteAt s (i : Int))
    have ih := rname_l s h1 h2 m (i + 1) f (by omega) (by omega) (by omega)
    have ih : F90_l1 5000 s f ((i : Int) + 1) = F69_l1 5000 s f ((i : Int) + 1) := by exact_mod_cast ih
    rw [F90_l1.eq_2, F69_l1.eq_2, if_pos (by omega), if_pos ⟨by omega, by omega⟩, if_pos (show (i : Int) < (s.size : Int) by omega), if_pos (show 0 ≤ (i : Int) ∧ (i : Int) < (s.size : Int) from ⟨by omega, by omega⟩), class_at, hv, Option.bind_some, Option.bind_some, w6t (by omega) (by omega), ih]
    by_cases a : v = 3
    · rw [a]; rfl
    · rw [if_pos a]
      by_cases b : v = 2
      · rw [b, if_neg (by simp), if_neg (by simp), Option.bind_some, Option.bind_some, decide_eq_false (by omega)]
      · rw [if_pos b, if_pos b, decide_eq_true a]
theorem name_same (s : ByteArray) (hz : s.size ≤ 1000) : F90 5000 s = F69 5000 s := by
  unfold F90
  by_cases q : 1 ≤ s.size ∧ s.size ≤ 40
  · obtain ⟨v, hv⟩ := class_tot (byteAt s 0)
    have ne : s ≠ ByteArray.mk #[] := fun e => by rw [e] at q; exact absurd q.1 (by decide)
    have r := rname_l s q.1 q.2 (s.size - 1) 1 4999 (by omega) (by omega) (by omega)
    have r : F90_l1 5000 s 4999 1 = F69_l1 5000 s 4999 1 := r
    unfold F69
    rw [if_neg (by omega), if_neg ne, if_pos ⟨by omega, by omega⟩, hv, Option.bind_some, Option.bind_some, show F90_l1 5000 s 5000 0 = _ from F90_l1.eq_2 5000 s 0 4999, show F69_l1 5000 s 5000 0 = _ from F69_l1.eq_2 5000 s 0 4999, if_pos (by omega), if_pos ⟨by omega, by omega⟩, if_pos (show (0 : Int) < (s.size : Int) by omega), if_pos (show 0 ≤ (0 : Int) ∧ (0 : Int) < (s.size : Int) from ⟨by omega, by omega⟩)]
    show (F114 5000 (byteAt s 0)).bind _ = if _ then _ else (F91 5000 (byteAt s 0)).bind _
    rw [class_at, hv, Option.bind_some, Option.bind_some]
    by_cases a : v = 3
    · subst a
      rw [if_neg (by simp), Option.bind_some, if_neg (by simp), if_neg (by simp), if_pos (by simp), decide_eq_false (by simp), Option.bind_some, if_neg (by simp), show w64 ((0 : Int) + 1) = 1 from rfl]
      exact r
    · rw [if_pos a, decide_eq_true a, if_pos rfl]
      by_cases b : v = 2
      · subst b; rfl
      · rw [if_pos b]; rfl
  · rw [show (0 : Int) = ((0 : Nat) : Int) from rfl, rname_no s hz q s.size 0 5000 (by omega) (by omega)]
    unfold F69
    by_cases a : (40 : Int) < (s.size : Int)
    · rw [if_pos a]; rfl
    · have e : s = ByteArray.mk #[] := by
        have h1 : s.data.size = 0 := (show s.size = 0 by omega)
        cases s with
        | mk d => congr 1; exact Array.eq_empty_of_size_eq_zero h1
      rw [if_neg a, if_pos e]; rfl
/-! One rule. -/
theorem raw_eq {s : ByteArray} (hz : s.size ≤ 60) : ((∃ d, F62 5000 s = some (d, 5)) ∧ F33 5000 s = some ([], 5)) ∨ ∃ t, ROK t ∧ (ser t).length ≤ 200 ∧ F33 5000 s = some (ser t, 0) ∧ ∃ d e, F62 5000 s = some (d, e) ∧ (e = 6 ∨ e = 0 ∧ (0 ≤ mk d 0 ↔ Lx t [])) := by
  rcases parse_eq (s := s) (by omega) with ⟨t, ht, hl, h1, h2⟩ | ⟨h1, h2⟩
  · obtain ⟨d, e, k1, k2⟩ := one_mark ht (by omega)
    refine .inr ⟨t, ht, by omega, h2, d, e, ?_, k2⟩
    unfold F62
    rw [h1, Option.bind_some, if_neg (by simp), nof_ser ht (by omega), Option.bind_some, if_neg (by simp), k1, Option.bind_some]
  · refine .inl ⟨?_, h2⟩
    unfold F62
    rw [h1, Option.bind_some, if_pos (by simp)]
    exact ⟨_, rfl⟩
theorem has0_eq (d : S55) : F89 5000 d (ByteArray.mk #[]) = some (mk d 0) := by
  have e : F113 5000 d 0 (ByteArray.mk #[]) = some 0 := rfl
  unfold F89
  rw [e, Option.bind_some, mark_eq]; rfl
/-- An earlier rule has the name. -/
def Dup (l : List S82) (i : Nat) : Prop := ∃ j : Nat, j < i ∧ (lget l (j : Int)).f0 = (lget l (i : Int)).f0
theorem dup_l (l : List S82) (hz : l.length ≤ 1000) {i : Nat} (hi : i < l.length) : ∀ (m x f : Nat), x + m = i → m < f → (∀ j, j < x → (lget l ((j : Nat) : Int)).f0 ≠ (lget l (i : Int)).f0) → (Dup l i → F68_l1 5000 l (i : Int) f (x : Int) = some 9) ∧ (¬ Dup l i → F68_l1 5000 l (i : Int) f (x : Int) = F68_c0 5000 l (i : Int))
  | 0, x, f + 1, hx, _, hn => ⟨fun ⟨j, j1, j2⟩ => absurd j2 (hn j (by omega)), fun _ => by rw [F68_l1.eq_2, if_neg (by omega)]⟩
  | m + 1, x, f + 1, hx, hf, hn => by
    rw [F68_l1.eq_2, if_pos (by omega), if_pos ⟨by omega, by omega⟩]
    by_cases c : (lget l (x : Int)).f0 = (lget l (i : Int)).f0
    · rw [if_pos c]
      exact ⟨fun _ => rfl, fun h => absurd ⟨x, by omega, c⟩ h⟩
    · have ih := dup_l l hz hi m (x + 1) f (by omega) (by omega) (fun j hj => by
        by_cases e : j = x
        · rw [e]; exact c
        · exact hn j (by omega))
      rw [if_neg c, w6t (by omega) (by omega)]
      exact_mod_cast ih
theorem rule_eq {l : List S82} (hz : l.length ≤ 1000) {i : Nat} (hi : i < l.length) (hr : RuleFew (lget l (i : Int))) {mp : List (ByteArray × Int)} (hm : 0 < (mget mp (lget l (i : Int)).f0).getD (0 : Int) ↔ Dup l i) :
    ∃ e e', F67 5000 (lget l (i : Int)) mp = some e ∧ F68 5000 l (i : Int) = some e' ∧ (e = 6 ∨ e = e') := by
  have h1 := hr.1
  have h2 := hr.2
  obtain ⟨b, hb⟩ := name_tot (lget l (i : Int)).f0
  have hd := dup_l l hz hi i 0 5000 (by omega) (by omega) (fun j hj => by omega)
  have hR : F68 5000 l (i : Int) = if (!b) = true then some 8 else F68_l1 5000 l (i : Int) 5000 ((0 : Nat) : Int) := by
    unfold F68
    rw [if_pos ⟨by omega, by omega⟩, name_same _ (by omega), hb, Option.bind_some]; rfl
  rw [hR]
  unfold F67
  rw [hb, Option.bind_some]
  cases b with
  | false => exact ⟨8, 8, rfl, rfl, .inr rfl⟩
  | true =>
    rw [if_neg (show ¬ ((!true) = true) by simp), if_neg (show ¬ ((!true) = true) by simp)]
    by_cases c : Dup l i
    · rw [if_pos (hm.2 c)]
      exact ⟨9, 9, rfl, hd.1 c, .inr rfl⟩
    · rw [if_neg (fun h => c (hm.1 h)), hd.2 c]
      unfold F68_c0
      generalize hbb : (if (lget l (i : Int)).f1 < (0 : Int) then some true else some (decide ((2 : Int) < (lget l (i : Int)).f1)) : Option Bool) = bb
      have hbb' : ∃ b, bb = some b := by rw [← hbb]; split <;> exact ⟨_, rfl⟩
      obtain ⟨b, rfl⟩ := hbb'
      rw [Option.bind_some, Option.bind_some]
      cases b with
      | true => exact ⟨1, 1, rfl, rfl, .inr rfl⟩
      | false =>
        rw [if_neg (by simp), if_neg (by simp)]
        rcases raw_eq (s := (lget l (i : Int)).f2) (by omega) with ⟨⟨d, k1⟩, k2⟩ | ⟨t, ht, hl, k2, d, e, k1, k3⟩
        · rw [k1, k2]
          exact ⟨5, 5, rfl, rfl, .inr rfl⟩
        · obtain ⟨b, u1, u2⟩ := rxhas_eq ht (by omega) (ByteArray.mk #[]) (by decide)
          have u1 : F36 5000 (ser t) (ByteArray.mk #[]) = some b := u1
          have ew : W (ByteArray.mk #[]) = [] := rfl
          rw [ew] at u2
          rw [k1, k2, Option.bind_some, Option.bind_some, if_neg (show ¬ ((ser t, (0 : Int)).2 ≠ 0) by simp), u1, Option.bind_some]
          rcases k3 with rfl | ⟨rfl, k3⟩
          · refine ⟨6, if b = true then 14 else 0, rfl, ?_, .inl rfl⟩
            cases b <;> rfl
          · show ∃ e e', (if (0 : Int) ≠ 0 then _ else (F89 5000 d (ByteArray.mk #[])).bind _) = some e ∧ _
            rw [if_neg (by simp), has0_eq, Option.bind_some]
            cases b with
            | true => exact ⟨14, 14, if_pos (k3.2 (u2.1 rfl)), rfl, .inr rfl⟩
            | false => exact ⟨0, 0, if_neg (fun h => by have := u2.2 (k3.1 h); cases this), rfl, .inr rfl⟩
theorem awake11 : F26 5000 = some true := by decide +kernel
end Go.Avl.T7
namespace Go.Avl.T7
open Go Go.RowKit Go.Proofs Go.Avl
set_option linter.all false
/-- What the map holds: how often a name was met. -/
def MI (l : List S82) (i : Nat) (mp : List (ByteArray × Int)) : Prop := ∀ n : ByteArray, 0 ≤ (mget mp n).getD (0 : Int) ∧ (mget mp n).getD (0 : Int) ≤ (i : Int) ∧ (0 < (mget mp n).getD (0 : Int) ↔ ∃ j : Nat, j < i ∧ (lget l (j : Int)).f0 = n)
theorem check_eq (l : List S82) (hz : l.length ≤ 1000) (hr : ∀ r ∈ l, RuleFew r) : ∀ (m i f1 f2 : Nat) (mp : List (ByteArray × Int)), i + m = l.length → m < f1 → m < f2 → MI l i mp → ∃ a e a' e', F39_l1 5000 l f1 mp (i : Int) = some (a, e) ∧ F40_l1 5000 l f2 (i : Int) = some (a', e') ∧ (e = 6 ∨ a = a' ∧ e = e')
  | 0, i, f1 + 1, f2 + 1, mp, hi, _, _, _ => ⟨_, _, _, _, by rw [F39_l1.eq_2, if_neg (by omega)]; rfl, by rw [F40_l1.eq_2, if_neg (by omega)]; rfl, .inr ⟨rfl, rfl⟩⟩
  | m + 1, i, f1 + 1, f2 + 1, mp, hi, h1, h2, hm => by
    obtain ⟨e, e', k1, k2, k3⟩ := rule_eq (mp := mp) hz (show i < l.length by omega) (hr _ (mem_get l (by omega))) (hm _).2.2
    have hm' := hm (lget l (i : Int)).f0
    have hw : w64 ((mget mp (lget l (i : Int)).f0).getD (0 : Int) + 1) = (mget mp (lget l (i : Int)).f0).getD (0 : Int) + 1 := w6t (by omega) (by omega)
    obtain ⟨a, c, a', c', r1, r2, r3⟩ := check_eq l hz hr m (i + 1) f1 f2 (mput mp (lget l (i : Int)).f0 ((mget mp (lget l (i : Int)).f0).getD (0 : Int) + 1)) (by omega) (by omega) (by omega) (fun n => by
      rw [mget_mput]
      by_cases q : (lget l (i : Int)).f0 = n
      · rw [if_pos q, Option.getD_some]
        exact ⟨by omega, by omega, fun _ => ⟨i, by omega, q⟩, fun _ => by omega⟩
      · rw [if_neg q]
        obtain ⟨u1, u2, u3⟩ := hm n
        refine ⟨u1, by omega, fun h => ?_, fun ⟨j, j1, j2⟩ => u3.2 ⟨j, ?_, j2⟩⟩
        · obtain ⟨j, j1, j2⟩ := u3.1 h
          exact ⟨j, by omega, j2⟩
        · refine Classical.byContradiction fun h => q ?_
          have : j = i := by omega
          rw [← this]; exact j2)
    have r1 : F39_l1 5000 l f1 (mput mp (lget l (i : Int)).f0 ((mget mp (lget l (i : Int)).f0).getD (0 : Int) + 1)) ((i : Int) + 1) = some (a, c) := by exact_mod_cast r1
    have r2 : F40_l1 5000 l f2 ((i : Int) + 1) = some (a', c') := by exact_mod_cast r2
    rw [F39_l1.eq_2, F40_l1.eq_2, if_pos (by omega), if_pos ⟨by omega, by omega⟩, if_pos (show (i : Int) < (l.length : Int) by omega), k1, k2, Option.bind_some, Option.bind_some, hw, w6t (x := (i : Int) + 1) (by omega) (by omega), r1, r2]
    by_cases q : e = 6
    · subst q
      rw [if_pos (by decide)]
      by_cases q2 : e' ≠ 0
      · rw [if_pos q2]; exact ⟨_, _, _, _, rfl, rfl, .inl rfl⟩
      · rw [if_neg q2]; exact ⟨_, _, _, _, rfl, rfl, .inl rfl⟩
    · have : e = e' := k3.resolve_left q
      subst this
      by_cases q2 : e ≠ 0
      · rw [if_pos q2, if_pos q2]; exact ⟨_, _, _, _, rfl, rfl, .inr ⟨rfl, rfl⟩⟩
      · rw [if_neg q2, if_neg q2]; exact ⟨_, _, _, _, rfl, rfl, r3⟩
theorem kinds_l (l : List S82) (hz : l.length ≤ 1000) : ∀ (m i f : Nat) (x : List Int), i + m = l.length → m < f → x.length = i → (∀ q : Nat, q < i → lget x (q : Int) = (lget l (q : Int)).f1) → ∃ y, F41_l1 5000 l f x (i : Int) = some y ∧ y.length = l.length ∧ ∀ q : Nat, q < l.length → lget y (q : Int) = (lget l (q : Int)).f1
  | 0, i, f + 1, x, hi, _, hx, hq => ⟨x, by rw [F41_l1.eq_2, if_neg (by omega)]; rfl, by omega, fun q h => hq q (by omega)⟩
  | m + 1, i, f + 1, x, hi, hf, hx, hq => by
    obtain ⟨y, y1, y2⟩ := kinds_l l hz m (i + 1) f (x ++ [(lget l (i : Int)).f1]) (by omega) (by omega) (by simp [hx]) (fun q h => by
      by_cases e : q = i
      · subst e
        rw [lget_lt _ _ (by simp; omega)]; simp [hx]
      · rw [← hq q (by omega), lget_lt (x ++ _) q (by simp; omega), lget_lt x q (by omega), List.getElem_append_left (by omega)])
    refine ⟨y, ?_, y2⟩
    rw [F41_l1.eq_2, if_pos (by omega), if_pos ⟨by omega, by omega⟩, if_pos (by simp; omega), w6t (by omega) (by omega)]
    exact_mod_cast y1
theorem law_on (l : List S82) (hz : l.length ≤ 1000) (s : ByteArray) (t10 t11 : Int × Int) (y : List Int) (hy : y.length = l.length) (hq : ∀ q : Nat, q < l.length → lget y (q : Int) = (lget l (q : Int)).f1) (v : Nat) : ∀ (m i f : Nat), i + m = l.length → m < f → F8_l2 5000 l s t10 t11 y f (v : Int) (i : Int) = F8_c0 5000 l s t10 t11 (v : Int)
  | 0, i, f + 1, hi, _ => by rw [F8_l2.eq_2, if_neg (by omega)]
  | m + 1, i, f + 1, hi, hf => by
    have ih := law_on l hz s t10 t11 y hy hq v m (i + 1) f (by omega) (by omega)
    rw [F8_l2.eq_2, if_pos (by omega), if_pos ⟨by omega, by omega⟩, if_pos ⟨by omega, by omega⟩, if_neg (by rw [hq i (by omega)]; simp), if_neg (by omega), Option.bind_some, if_neg (by simp)]
    unfold F8_c1
    rw [w6t (by omega) (by omega)]
    exact_mod_cast ih
theorem law_find (l : List S82) (hz : l.length ≤ 1000) (s : ByteArray) (t10 t11 : Int × Int) (y : List Int) (hy : y.length = l.length) (hq : ∀ q : Nat, q < l.length → lget y (q : Int) = (lget l (q : Int)).f1) : ∀ (m i f f2 : Nat), i + m = l.length → m < f → m < f2 → ∃ v : Int, F42_l1 5000 l s f2 (i : Int) = some v ∧ F8_l2 5000 l s t10 t11 y f (-1 : Int) (i : Int) = F8_c0 5000 l s t10 t11 v
  | 0, i, f + 1, f2 + 1, hi, _, _ => ⟨-1, by rw [F42_l1.eq_2, if_neg (by omega)]; rfl, by rw [F8_l2.eq_2, if_neg (by omega)]⟩
  | m + 1, i, f + 1, f2 + 1, hi, hf, hf2 => by
    obtain ⟨v, v1, v2⟩ := law_find l hz s t10 t11 y hy hq m (i + 1) f f2 (by omega) (by omega) (by omega)
    have v1 : F42_l1 5000 l s f2 ((i : Int) + 1) = some v := by exact_mod_cast v1
    have v2 : F8_l2 5000 l s t10 t11 y f (-1 : Int) ((i : Int) + 1) = F8_c0 5000 l s t10 t11 v := by exact_mod_cast v2
    have on := law_on l hz s t10 t11 y hy hq i m (i + 1) f (by omega) (by omega)
    have on : F8_l2 5000 l s t10 t11 y f (i : Int) ((i : Int) + 1) = F8_c0 5000 l s t10 t11 (i : Int) := by exact_mod_cast on
    rw [F42_l1.eq_2, F8_l2.eq_2, if_pos (by omega), if_pos ⟨by omega, by omega⟩, if_pos (show (i : Int) < (l.length : Int) by omega), if_pos (show 0 ≤ (i : Int) ∧ (i : Int) < (y.length : Int) from ⟨by omega, by omega⟩), if_pos (show 0 ≤ (i : Int) ∧ (i : Int) < (l.length : Int) from ⟨by omega, by omega⟩), if_neg (show ¬ (lget y (i : Int) ≠ (lget l (i : Int)).f1) by rw [hq i (by omega)]; simp), if_pos (show (-1 : Int) < 0 by omega), if_pos (show 0 ≤ (i : Int) ∧ (i : Int) < (l.length : Int) from ⟨by omega, by omega⟩), Option.bind_some]
    unfold F8_c1
    rw [w6t (x := (i : Int) + 1) (by omega) (by omega)]
    by_cases q : (lget l (i : Int)).f0 = s
    · rw [if_pos q, decide_eq_true q, if_pos rfl]
      exact ⟨_, rfl, on⟩
    · rw [if_neg q, decide_eq_false q, if_neg (by simp)]
      exact ⟨v, v1, v2⟩
theorem bosketlaw11_RulesCheck_true (a0 : (List S82)) (a1 : ByteArray) (h0 : wf22 a0) (h1 : wf9 a1) (h2 : a1.size ≤ 140737488351232) : ∃ k, F8 k a0 a1 = some true := by
  refine ⟨5000, ?_⟩
  obtain ⟨b, b1, b2⟩ := rfew_is a0
  unfold F8
  rw [awake11, Option.bind_some, if_neg (by simp), b1, Option.bind_some]
  cases b with
  | false => rfl
  | true =>
    obtain ⟨c1, c2⟩ := b2 rfl
    rw [if_neg (by simp), Option.bind_some]
    by_cases q : (100 : Int) < (a1.size : Int)
    · rw [decide_eq_true q]; rfl
    · obtain ⟨a, e, a', e', r1, r2, r3⟩ := check_eq a0 (by omega) c2 a0.length 0 5000 5000 [] (by omega) (by omega) (by omega) (fun n => by
        have e0 : (mget ([] : List (ByteArray × Int)) n).getD (0 : Int) = 0 := rfl
        rw [e0]
        exact ⟨by omega, by omega, fun h => by omega, fun ⟨j, j1, _⟩ => by omega⟩)
      obtain ⟨y, y1, y2, y3⟩ := kinds_l a0 (by omega) a0.length 0 5000 [] (by omega) (by omega) rfl (fun q h => by omega)
      obtain ⟨v, v1, v2⟩ := law_find a0 (by omega) a1 (a, e) (a', e') y y2 y3 a0.length 0 5000 5000 (by omega) (by omega) (by omega)
      have k1 : F39 5000 a0 = some (a, e) := by unfold F39; rw [if_neg (by omega)]; exact r1
      have k2 : F40 5000 a0 = some (a', e') := by unfold F40; rw [if_neg (by omega)]; exact r2
      have k3 : F41 5000 a0 = some y := y1
      have k4 : F42 5000 a0 a1 = some v := v1
      rw [decide_eq_false q, if_neg (by simp), k1, Option.bind_some, k2, Option.bind_some, k3, Option.bind_some, if_neg (by rw [y2]; simp)]
      refine v2.trans ?_
      unfold F8_c0
      rcases r3 with r3 | ⟨r3, r4⟩
      · rw [if_pos r3]
      · split
        · rfl
        · rw [k4, Option.bind_some, Option.bind_some, decide_eq_true rfl]
end Go.Avl.T7
